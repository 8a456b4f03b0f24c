/- sums.Open by hand. -/
import Derived.Test.YtogapedacdnfcaaDoorHSeal
import Derived.Test.YtogapedacdnfcaaDoorHArr
namespace Go.Proofs.YtogapedacdnfcaaDoor.G
open Go.RowKit Go.Proofs.YtogapedacdnfcaaDoorW.PrintWords Go.Proofs.YtogapedacdnfcaaDoorW.PrintLast Go.Proofs.YtogapedacdnfcaaDoorW.PrintMore
set_option linter.unusedVariables false
set_option linter.unusedSimpArgs false

def sums_Open.f (l0 : List Int) : Option (List Int × Int) :=
  if l0.length < 4 then some ([], 20) else if l0.length < 140737488355324 then (sums_Crc.f (l0.take (l0.length - 4))).bind fun s => some (if l0.drop (l0.length - 4) = bytes4 s then (l0.take (l0.length - 4), 0) else ([], 21)) else none
set_option maxHeartbeats 8000000 in
set_option maxRecDepth 100000 in
theorem sums_Open.calls (A0 : Option Addr) (c0 : Nat) (l0 : List Int) (r1 : List Int) (r2 : Int) (w : World) (hT : Tab w) (hr0 : Kd.C (Kd.int .u8) w A0 l0.length l0) (hc0 : l0.length ≤ c0) (h : sums_Open.f l0 = some (r1, r2)) :
    Calls Tryd.prog 34 #[.slice A0 l0.length c0] w fun e w' => ∃ v0_, e = .returned (.tuple #[v0_, .int .i64 r2]) ∧ Kd.R (Kd.int .u8) 5 w' w.heap.size (fun _ => True) v0_ r1 ∧ Below w.heap.size w w' := by
  have info5 : (Tryd.prog.info? 5).map (fun i => (i.zero, i.size, i.bytes)) = some (some (.int .u8 0), 1, 1) := by kernel_rfl
  by_cases h4 : l0.length < 4
  · rw [sums_Open.f, if_pos h4] at h
    injection h with h
    injection h with h1 h2
    subst h1 h2
    have hs : ((l0.length : Int) - 4 < 0) := by omega
    go_enter Tryd.func34, Tryd.ntmps34
    go_wp2
    go_ret2
    exact ⟨_, rfl, Kd.R_nil _ _ _ _ _, Below.refl _ _⟩
  · rw [sums_Open.f, if_neg h4] at h
    have hl : l0.length < 140737488355324 := by split at h; assumption; simp at h
    rw [if_pos hl] at h
    obtain ⟨s, hs, h⟩ := Option.bind_eq_some_iff.1 h
    obtain ⟨ad, rfl⟩ : ∃ ad, A0 = some ad := by
      obtain ⟨ad, e, _⟩ := Kd.at_int hr0 0 (by omega) (by omega)
      exact ⟨ad, e⟩
    obtain ⟨n, hn⟩ : ∃ n : Nat, l0.length = n + 4 := ⟨l0.length - 4, by omega⟩
    have HR := Aside0.mk hr0
    have HT := Aside0.mk hT
    have HH := Aside0.mk h
    have HC := Aside0.mk hs
    clear hr0 hT h hs
    have hi : (l0.length : Int) - 4 = (n : Int) := by omega
    have e1 : wrap64 ((l0.length : Int) - 4) = (n : Int) := by unfold wrap64; omega
    have n0 : (0 : Int) ≤ (n : Int) := by omega
    obtain ⟨i5, hi5, hi5z, hi5s, hi5b⟩ := info_parts info5
    have hn0 : (n : Int).toNat = n := by omega
    have f1 : ((n : Int) ≤ (n : Int) + 4) = True := eq_true (by omega)
    have f2 : (n ≤ c0) = True := eq_true (by omega)
    have f3 : (c0 = n) = False := eq_false (by omega)
    have hcut13 : ∀ W, (Instr.arrayAt 126 (.slice (some (ad.add n)) 4 (c0 - n))).run Tryd.prog W = .ok (.pointer (some (ad.add n))) W := fun W => run_arrayAt W 126 5 4 _ _ _ Tryd.underlying126 (Nat.le_refl _)
    have hdl : (l0.drop n).length = 4 := by rw [List.length_drop]; omega
    have hS : ∀ W, Kd.C (Kd.int .u8) W (some ad) l0.length l0 → ∀ j, j < 4 → W.cell? ((ad.add n).add j) = some (.int .u8 ((l0.drop n).getD j 0)) := by
      intro W hC j hj
      obtain ⟨ad', e, hx⟩ := Kd.at_int hC ((n + j : Nat) : Int) (by omega) (by omega)
      injection e with e
      subst e
      rw [Addr.add_add, ← Int.toNat_natCast (n + j), hx]
      congr 2
      simp only [rd, Int.toNat_natCast, List.getD_eq_getElem?_getD, List.getElem?_drop]
    obtain ⟨d0, d1, d2, d3, hd⟩ : ∃ d0 d1 d2 d3, l0.drop n = [d0, d1, d2, d3] := by
      generalize l0.drop n = d at hdl
      match d, hdl with
      | [d0, d1, d2, d3], _ => exact ⟨d0, d1, d2, d3, rfl⟩
    rw [hd] at hS
    have hS4 : ∀ W, Kd.C (Kd.int .u8) W (some ad) l0.length l0 → W.cell? (ad.add n) = some (.int .u8 d0) ∧ W.cell? ⟨(ad.add n).block, (ad.add n).off + 1, none⟩ = some (.int .u8 d1) ∧ W.cell? ⟨(ad.add n).block, (ad.add n).off + 2, none⟩ = some (.int .u8 d2) ∧ W.cell? ⟨(ad.add n).block, (ad.add n).off + 3, none⟩ = some (.int .u8 d3) := by
      intro W hC
      have h0 := hS W hC 0 (by omega)
      have h1 := hS W hC 1 (by omega)
      have h2 := hS W hC 2 (by omega)
      have h3 := hS W hC 3 (by omega)
      simp only [Addr.add, Nat.reduceEqDiff, if_false, if_true, List.getD_cons_zero, List.getD_cons_succ] at h0 h1 h2 h3 ⊢
      exact ⟨h0, h1, h2, h3⟩
    have hneq : ∀ W, (binOp .neq 126 (.agg #[.int .u8 d0, .int .u8 d1, .int .u8 d2, .int .u8 d3]) (.agg #[.int .u8 (s % 256), .int .u8 (s / 256 % 256), .int .u8 (s / 65536 % 256), .int .u8 (s / 16777216 % 256)])).run Tryd.prog W = .ok (.bool (!(l0.drop n == bytes4 s))) W := by
      intro W
      rw [hd]
      exact neq_ints W 126 5 4 .u8 Tryd.underlying126 Tryd.underlying5 (by kernel_rfl) [d0, d1, d2, d3] (bytes4 s) rfl rfl
    have HTC : ∀ W, Kd.C (Kd.int .u8) W (some ad) l0.length l0 → Kd.C (Kd.int .u8) W (some ad) n (l0.take n) := by
      intro W hC
      have := Kd.C_take (m := n) hC (by omega)
      rwa [List.length_take, Nat.min_eq_left (by omega)] at this
    have htl : (l0.take n).length = n := by rw [List.length_take]; omega
    have CC : ∀ W, Tab W → Kd.C (Kd.int .u8) W (some ad) l0.length l0 → Calls Tryd.prog 62 #[.slice (some ad) n c0] W fun e w' => e = .returned (.int .u32 s) ∧ Drawn0 W w' := by
      intro W hT hC
      have := sums_Crc.calls (some ad) c0 (l0.take n) s W hT (by rw [htl]; exact HTC W hC) (by omega) (by have := HC.out; rwa [show l0.length - 4 = n by omega] at this)
      rwa [htl] at this
    generalize hb : (!(l0.drop n == bytes4 s)) = b at hneq
    have HTR := Aside0.mk hS4
    have HCC := Aside0.mk CC
    have HHB := Aside0.mk hb
    have HDL := Aside0.mk hdl
    clear hS hS4 CC HTC hb hdl htl HC
    go_enter Tryd.func34, Tryd.ntmps34
    go_upto_region 4 with (fail)
    refine start_ (n := 11) (S := fun w' => w'.cell? (ad.add n) = some (.int .u8 d0) ∧ w'.cell? ⟨(ad.add n).block, (ad.add n).off + 1, none⟩ = some (.int .u8 d1) ∧ w'.cell? ⟨(ad.add n).block, (ad.add n).off + 2, none⟩ = some (.int .u8 d2) ∧ w'.cell? ⟨(ad.add n).block, (ad.add n).off + 3, none⟩ = some (.int .u8 d3)) (ds := []) #[false, false, false, false, false, false, false, false, false, false, false] (by kernel_rfl) rfl rfl ⟨(HTR.out _ (Kd.C_drew HR.out)).1, (HTR.out _ (Kd.C_drew HR.out)).2.1, (HTR.out _ (Kd.C_drew HR.out)).2.2.1, (HTR.out _ (Kd.C_drew HR.out)).2.2.2⟩ (fun hHeld => ?_)
    refine pure_ (i := 0) (N := some 10) (v := ?_) (a' := ?_) #[true, false, false, false, false, false, false, false, false, false, false] rfl rfl (by kernel_rfl) (fun _ _ _ h => h) (Or.inl ⟨by rfl, ?_⟩) ?_ ?_
    rotate_left
    · intro w'
      go_simp
      with_reducible rfl
    rotate_left
    · simp only [Act.put, List.setIfInBounds_toArray, List.set_cons_zero, List.set_cons_succ, i64_w, i32_w]
      rfl
    refine pure_ (i := 1) (N := some 11) (v := ?_) (a' := ?_) #[true, true, false, false, false, false, false, false, false, false, false] rfl rfl (by kernel_rfl) (fun _ _ _ h => h) (Or.inl ⟨by rfl, ?_⟩) ?_ ?_
    rotate_left
    · intro w'
      go_simp
      with_reducible rfl
    rotate_left
    · simp only [Act.put, List.setIfInBounds_toArray, List.set_cons_zero, List.set_cons_succ, i64_w, i32_w]
      rfl
    refine pure_ (i := 2) (N := some 12) (v := ?_) (a' := ?_) #[true, true, true, false, false, false, false, false, false, false, false] rfl rfl (by kernel_rfl) (fun _ _ _ h => h) (Or.inl ⟨by rfl, ?_⟩) ?_ ?_
    rotate_left
    · intro w'
      go_simp
      with_reducible rfl
    rotate_left
    · simp only [Act.put, List.setIfInBounds_toArray, List.set_cons_zero, List.set_cons_succ, i64_w, i32_w]
      rfl
    refine pure_ (i := 3) (N := some 13) (v := ?_) (a' := ?_) #[true, true, true, true, false, false, false, false, false, false, false] rfl rfl (by kernel_rfl) (fun _ _ _ h => h) (Or.inl ⟨by rfl, ?_⟩) ?_ ?_
    rotate_left
    · intro w'
      go_simp
      with_reducible rfl
    rotate_left
    · simp only [Act.put, List.setIfInBounds_toArray, List.set_cons_zero, List.set_cons_succ, i64_w, i32_w]
      rfl
    refine pure_ (i := 5) (N := some 15) (v := ?_) (a' := ?_) #[true, true, true, true, false, true, false, false, false, false, false] rfl rfl (by kernel_rfl) (fun _ _ _ h => h) (Or.inl ⟨by rfl, ?_⟩) ?_ ?_
    rotate_left
    · intro w'
      go_simp
      with_reducible rfl
    rotate_left
    · simp only [Act.put, List.setIfInBounds_toArray, List.set_cons_zero, List.set_cons_succ, i64_w, i32_w]
      rfl
    refine pure_ (i := 6) (N := some 16) (v := ?_) (a' := ?_) #[true, true, true, true, false, true, true, false, false, false, false] rfl rfl (by kernel_rfl) (fun _ _ _ h => h) (Or.inl ⟨by rfl, ?_⟩) ?_ ?_
    rotate_left
    · intro w'
      go_simp
      with_reducible rfl
    rotate_left
    · simp only [Act.put, List.setIfInBounds_toArray, List.set_cons_zero, List.set_cons_succ, i64_w, i32_w]
      rfl
    refine pure_ (i := 7) (N := some 17) (v := ?_) (a' := ?_) #[true, true, true, true, false, true, true, true, false, false, false] rfl rfl (by kernel_rfl) (fun _ _ _ h => h) (Or.inl ⟨by rfl, ?_⟩) ?_ ?_
    rotate_left
    · intro w'
      go_simp
      with_reducible rfl
    rotate_left
    · simp only [Act.put, List.setIfInBounds_toArray, List.set_cons_zero, List.set_cons_succ, i64_w, i32_w]
      rfl
    refine take_ (i := 4) (N := some 14) (v := ?_) (a' := ?_) #[true, true, true, true, true, true, true, true, false, false, false] rfl rfl (by kernel_rfl) (fun _ _ _ h => h) (Or.inl ⟨by rfl, ?_⟩) hHeld ?_ ?_
    rotate_left
    · rintro w' ⟨s0, s1, s2, s3⟩
      go_simp
      with_reducible rfl
    rotate_left
    · simp only [Act.put, List.setIfInBounds_toArray, List.set_cons_zero, List.set_cons_succ, i64_w, i32_w]
      rfl
    refine one_ (i := 8) (N := some 18) #[true, true, true, true, true, true, true, true, true, false, false] rfl rfl (by kernel_rfl) (by decide) (fun K hK => ?_)
    refine goes_ Tryd.func62 (by kernel_rfl) rfl #[.slice (some ad) n c0] (by rfl) rfl rfl (by simp only [List.map_toArray, List.map_cons, List.map_nil]; rfl) ?_
    with_reducible refine (HCC.out _ (Kd.C_drew HT.out) (Kd.C_drew HR.out)).mono ?_
    rintro e w3 ⟨rfl, ⟨nd, rfl⟩⟩
    refine ⟨_, rfl, ?_⟩
    refine hK.out _ _ ⟨(HTR.out _ (Kd.C_drewN (Kd.C_drew HR.out) _)).1, (HTR.out _ (Kd.C_drewN (Kd.C_drew HR.out) _)).2.1, (HTR.out _ (Kd.C_drewN (Kd.C_drew HR.out) _)).2.2.1, (HTR.out _ (Kd.C_drewN (Kd.C_drew HR.out) _)).2.2.2⟩ (fun hHeld => ?_)
    clear hK K
    refine norm_ (a' := ?_) ?_ ?_
    rotate_left
    · show Act.put _ (some 18) _ = _
      simp only [Act.put, List.setIfInBounds_toArray, List.set_cons_zero, List.set_cons_succ, i64_w, i32_w]
      rfl
    refine one_ (i := 9) (N := some 19) #[true, true, true, true, true, true, true, true, true, true, false] rfl rfl (by kernel_rfl) (by decide) (fun K hK => ?_)
    refine goes_ Tryd.func61 (by kernel_rfl) rfl #[.int .u32 s] (by rfl) rfl rfl (by simp only [List.map_toArray, List.map_cons, List.map_nil]; rfl) ?_
    with_reducible refine (sums_four.calls s _).mono ?_
    rintro e w4 ⟨rfl, hb4⟩
    refine ⟨_, rfl, ?_⟩
    have HR4 := Aside0.mk (Kd.C_below (Kd.C_drewN (Kd.C_drew HR.out) _) hb4)
    have HB4 := Aside0.mk (below_step (pw_below_drewN (below_drew1 (Below.refl w.heap.size w)) nd) hb4)
    clear hb4
    refine hK.out _ _ ⟨(HTR.out _ HR4.out).1, (HTR.out _ HR4.out).2.1, (HTR.out _ HR4.out).2.2.1, (HTR.out _ HR4.out).2.2.2⟩ (fun hHeld => ?_)
    clear hK K
    refine norm_ (a' := ?_) ?_ ?_
    rotate_left
    · show Act.put _ (some 19) _ = _
      simp only [Act.put, List.setIfInBounds_toArray, List.set_cons_zero, List.set_cons_succ, i64_w, i32_w]
      rfl
    refine pure_ (i := 10) (N := some 20) (v := ?_) (a' := ?_) #[true, true, true, true, true, true, true, true, true, true, true] rfl rfl (by kernel_rfl) (fun _ _ _ h => h) (Or.inl ⟨by rfl, ?_⟩) ?_ ?_
    rotate_left
    · intro w'
      go_simp
      with_reducible rfl
    rotate_left
    · simp only [Act.put, List.setIfInBounds_toArray, List.set_cons_zero, List.set_cons_succ, i64_w, i32_w]
      rfl
    refine done_ (by kernel_rfl) ?_
    cases b with
    | true =>
      have hne : l0.drop n ≠ bytes4 s := by have := HHB.out; simpa using this
      have HH2 := HH.out
      rw [show l0.length - 4 = n by omega, if_neg hne] at HH2
      injection HH2 with HH2
      injection HH2 with h1 h2
      subst h1 h2
      go_wp2
      go_ret2
      exact ⟨_, rfl, Kd.R_nil _ _ _ _ _, HB4.out⟩
    | false =>
      have hne : l0.drop n = bytes4 s := by have := HHB.out; simpa using this
      have HH2 := HH.out
      rw [show l0.length - 4 = n by omega, if_pos hne] at HH2
      injection HH2 with HH2
      injection HH2 with h1 h2
      subst h1 h2
      go_wp2_with (first | ((with_reducible refine gate_dst (N := 25) rfl ?_); refine of_halt ?_))
      unfold Halt
      have hO : Kd.R (Kd.int .u8) 5 (w4.alloc (Obj.cells #[] 5)) w.heap.size (fun _ => True) (.slice (some ⟨w4.heap.size, 0, none⟩) 0 0) [] := ⟨fun _ _ => trivial, OwnRow.lit w4 w.heap.size (ps := []) (inner := []) (Reps.none _ _) HB4.out.size (by simp)⟩
      have hR : Kd.C (Kd.int .u8) (w4.alloc (Obj.cells #[] 5)) (some ad) n (l0.take n) := by
        have := Kd.C_take (m := n) (Kd.C_alloc HR4.out (Obj.cells #[] 5)) (by omega)
        rwa [List.length_take, Nat.min_eq_left (by omega)] at this
      refine Kd.R_append_row (w0 := w) (Value.int .u8) 0 w.heap.size rfl (.tmp 21) (.tmp 24) 26 5 (.int .u8 0) 1 rfl Tryd.underlying26 info5 rfl (by omega) (.slice (some ⟨w4.heap.size, 0, none⟩) 0 0) [] (l0.take n) (some ad) n c0 (fun _ => True) rfl rfl (fun _ _ => trivial) hO hR (below_alloc HB4.out _) ((below_alloc HB4.out (Obj.cells #[] 5)).size) (by simp; omega) ?_
      intro v5 w5 ho5 hb5 hg5 hat5
      go_wp2
      go_ret2
      exact ⟨_, rfl, ho5, hb5⟩
end Go.Proofs.YtogapedacdnfcaaDoor.G
