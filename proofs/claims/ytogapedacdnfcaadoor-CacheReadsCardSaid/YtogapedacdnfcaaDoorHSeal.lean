/- sums.four, sums.Crc and sums.Seal by hand. -/
import Derived.Test.YtogapedacdnfcaaDoorHMore
namespace Go.Proofs.YtogapedacdnfcaaDoor.G
open Go.RowKit Go.Proofs.YtogapedacdnfcaaDoorW.PrintWords Go.Proofs.YtogapedacdnfcaaDoorW.PrintLast Go.Proofs.YtogapedacdnfcaaDoorW.PrintMore
set_option linter.unusedVariables false
set_option linter.unusedSimpArgs false

def sums_Crc.f (l0 : List Int) : Option Int := sums_More.f 0 l0
set_option maxHeartbeats 8000000 in
set_option maxRecDepth 100000 in
theorem sums_Crc.calls (A0 : Option Addr) (c0 : Nat) (l0 : List Int) (r : Int) (w : World) (hT : Tab w) (hr0 : Kd.C (Kd.int .u8) w A0 l0.length l0) (hc0 : l0.length ≤ c0) (h : sums_Crc.f l0 = some r) :
    Calls Tryd.prog 62 #[.slice A0 l0.length c0] w fun e w' => e = .returned (.int .u32 r) ∧ Drawn0 w w' := by
  have C := Aside0.mk (sums_More.calls 0 A0 c0 l0 r w hT hr0 hc0 h)
  go_enter Tryd.func62, Tryd.ntmps62
  go_wp2_with (first | ((with_reducible refine gate_callee (f := 78) rfl ?_); refine goesL_ (some 4) rfl rfl Tryd.func78 (by kernel_rfl) rfl #[.int .u32 0, .slice A0 l0.length c0] rfl (by (try simp only [List.map_toArray, List.map_cons, List.map_nil]); first | done | rfl) ?_; refine (C.out).mono ?_; rintro e w' ⟨rfl, ⟨nd, rfl⟩⟩; refine ⟨_, rfl, ?_⟩))
  go_ret
  exact ⟨rfl, ⟨nd, rfl⟩⟩

/-- a sum's bytes -/
def bytes4 (s : Int) : List Int := [s % 256, s / 256 % 256, s / 65536 % 256, s / 16777216 % 256]
set_option maxHeartbeats 8000000 in
set_option maxRecDepth 100000 in
theorem sums_four.calls (a0 : Int) (w : World) :
    Calls Tryd.prog 61 #[.int .u32 a0] w fun e w' => e = .returned (.agg #[.int .u8 (a0 % 256), .int .u8 (a0 / 256 % 256), .int .u8 (a0 / 65536 % 256), .int .u8 (a0 / 16777216 % 256)]) ∧ Below w.heap.size w w' := by
  go_enter Tryd.func61, Tryd.ntmps61
  go_wp2
  refine bodyPost_ret (results_single rfl (.cell w.heap.size 126 _ (0, 0) _ rfl (blk_new w _) Tryd.underlying126 rfl (by kernel_rfl) .nil)) rfl ?_
  exact ⟨rfl, (Below.refl _ _).alloc (Nat.le_refl _) _⟩

def sums_Seal.f (l0 : List Int) : Option (List Int) := (sums_Crc.f l0).bind fun s => if l0.length < 140737488355324 then some (l0 ++ bytes4 s) else none
set_option maxHeartbeats 8000000 in
set_option maxRecDepth 100000 in
theorem sums_Seal.calls (A0 : Option Addr) (c0 : Nat) (l0 : List Int) (r : List Int) (w : World) (hT : Tab w) (hr0 : Kd.C (Kd.int .u8) w A0 l0.length l0) (hc0 : l0.length ≤ c0) (h : sums_Seal.f l0 = some r) :
    Calls Tryd.prog 31 #[.slice A0 l0.length c0] w fun e w' => ∃ v0_, e = .returned v0_ ∧ Kd.R (Kd.int .u8) 5 w' w.heap.size (fun _ => True) v0_ r ∧ Below w.heap.size w w' := by
  obtain ⟨s, hs, h⟩ := Option.bind_eq_some_iff.1 h
  have hl : l0.length < 140737488355324 := by split at h; assumption; simp at h
  rw [if_pos hl] at h
  obtain rfl := Option.some.inj h
  have C := Aside0.mk (sums_Crc.calls A0 c0 l0 s w hT hr0 hc0 hs)
  have HR := Aside0.mk hr0
  have hl1 : (0 : Int) ≤ (l0.length : Int) + 4 := by omega
  clear h hs hr0
  have info5 : (Tryd.prog.info? 5).map (fun i => (i.zero, i.size, i.bytes)) = some (some (.int .u8 0), 1, 1) := by kernel_rfl
  obtain ⟨i5, hi5, hi5z, hi5s, hi5b⟩ := info_parts info5
  go_enter Tryd.func31, Tryd.ntmps31
  go_upto_region 2 with (first | ((with_reducible refine gate_callee (f := 62) rfl ?_); refine goesL_ (some 6) rfl rfl Tryd.func62 (by kernel_rfl) rfl #[.slice A0 l0.length c0] rfl (by (try simp only [List.map_toArray, List.map_cons, List.map_nil]); first | done | rfl) ?_; refine (C.out).mono ?_; rintro e w' ⟨rfl, ⟨nd, rfl⟩⟩; refine ⟨_, rfl, ?_⟩) | ((with_reducible refine gate_callee (f := 61) rfl ?_); refine goesL_ (some 7) rfl rfl Tryd.func61 (by kernel_rfl) rfl #[.int .u32 s] rfl (by (try simp only [List.map_toArray, List.map_cons, List.map_nil]); first | done | rfl) ?_; refine (sums_four.calls s (w.drewN nd)).mono ?_; rintro e w1 ⟨rfl, hb⟩; refine ⟨_, rfl, ?_⟩))
  have hsz : w.heap.size ≤ w1.heap.size := hb.size
  have hBW : Below w.heap.size w (w1.alloc (Obj.cells #[.int .u8 (s % 256), .int .u8 (s / 256 % 256), .int .u8 (s / 65536 % 256), .int .u8 (s / 16777216 % 256)] 126)) := ((show Below w.heap.size w (w.drewN nd) from ⟨rfl, rfl, rfl, Nat.le_refl _, fun _ _ => rfl⟩).trans hb).alloc hsz _
  have hce := heap_alloc_new w1 (Obj.cells #[.int .u8 (s % 256), .int .u8 (s / 256 % 256), .int .u8 (s / 65536 % 256), .int .u8 (s / 16777216 % 256)] 126)
  clear hb
  generalize w1.heap.size = g at *
  generalize (w1.alloc (Obj.cells #[.int .u8 (s % 256), .int .u8 (s / 256 % 256), .int .u8 (s / 65536 % 256), .int .u8 (s / 16777216 % 256)] 126)) = W2 at *
  have HW := Aside0.mk hBW
  have HCE := Aside0.mk hce
  clear hBW hce
  go_wp2_with (first | ((with_reducible refine gate_dst (N := 11) rfl ?_); refine of_halt ?_))
  unfold Halt
  refine wpList_make_own _ rfl (.const (.int .i64 0)) (.tmp 10) 26 rfl w.heap.size 5 i5 (.int .u8 0) 1 Tryd.underlying26 hi5 hi5z hi5s .i64 .i64 ((l0.length : Int) + 4) (l0.length + 4) rfl rfl (by omega) (by rw [hi5b]; omega) (by unfold maxLen; omega) HW.out.size ?_
  intro w3 hown hgr
  have HW3 := Aside0.mk (HW.out.grown hgr HW.out.size (by simp))
  have HCE3 := Aside0.mk (blk_grown HCE.out hgr (by simp))
  have HO := Aside0.mk (show Kd.R (Kd.int .u8) 5 w3 w.heap.size (fun k => True) _ [] from Kd.R_of_own (enc := Value.int .u8) (h1 := fun _ => rfl) hown (fun _ _ => trivial))
  go_upto_region 3 with (fail)
  have hgne : g ≠ W2.heap.size := Nat.ne_of_lt (blk_lt HCE.out)
  refine start_ (n := 6) (S := fun w' => True) (ds := []) #[false, false, false, false, false, false] (by kernel_rfl) rfl rfl trivial (fun hHeld => ?_)
  refine pure_ (i := 0) (N := some 12) (v := ?_) (a' := ?_) #[true, false, false, false, false, false] rfl rfl (by kernel_rfl) (fun _ _ _ h => h) (Or.inl ⟨by rfl, ?_⟩) ?_ ?_
  rotate_left
  · intro w'
    go_simp
    with_reducible rfl
  rotate_left
  · simp only [Act.put, List.setIfInBounds_toArray, List.set_cons_zero, List.set_cons_succ, i64_w, i32_w]
    rfl
  refine pure_ (i := 1) (N := some 13) (v := ?_) (a' := ?_) #[true, true, false, false, false, false] rfl rfl (by kernel_rfl) (fun _ _ _ h => h) (Or.inl ⟨by rfl, ?_⟩) ?_ ?_
  rotate_left
  · intro w'
    go_simp
    with_reducible rfl
  rotate_left
  · simp only [Act.put, List.setIfInBounds_toArray, List.set_cons_zero, List.set_cons_succ, i64_w, i32_w]
    rfl
  refine pure_ (i := 3) (N := some 15) (v := ?_) (a' := ?_) #[true, true, false, true, false, false] rfl rfl (by kernel_rfl) (fun _ _ _ h => h) (Or.inl ⟨by rfl, ?_⟩) ?_ ?_
  rotate_left
  · intro w'
    go_simp
    with_reducible rfl
  rotate_left
  · simp only [Act.put, List.setIfInBounds_toArray, List.set_cons_zero, List.set_cons_succ, i64_w, i32_w]
    rfl
  refine one_ (i := 2) (N := some 14) #[true, true, true, true, false, false] rfl rfl (by kernel_rfl) (by decide) (fun K hK => ?_)
  refine step_append_row .u8 (w0 := w) w.heap.size (by rfl) (.tmp 12) (.tmp 13) 26 5 1 rfl Tryd.underlying26 info5 (by omega) (.slice (some ⟨W2.heap.size, 0, none⟩) 0 (l0.length + 4)) [] l0 A0 l0.length c0 (fun _ => True) rfl rfl (fun _ _ => trivial) (Kd.R_drew HO.out) (Kd.C_drew (Kd.C_below HR.out HW3.out)) (below_drew1 HW3.out) HW3.out.size (by simp; omega) ?_
  intro v4 w4 ho4 hb4 hg4 hat4
  have HO4 := Aside0.mk ho4
  have HW4 := Aside0.mk hb4
  have HCE4 := Aside0.mk (blk_grown (blk_drew HCE3.out) hg4 (by simp [Value.ownBlock, hgne]))
  clear ho4 hb4 hg4 hat4
  refine hK.out _ _ trivial (fun hHeld => ?_)
  clear hK K
  refine norm_ (a' := ?_) ?_ ?_
  rotate_left
  · show Act.put _ (some 14) _ = _
    simp only [Act.put, List.setIfInBounds_toArray, List.set_cons_zero, List.set_cons_succ, i64_w, i32_w]
    rfl
  refine one_ (i := 4) (N := some 16) #[true, true, true, true, true, false] rfl rfl (by kernel_rfl) (by decide) (fun K hK => ?_)
  refine step_append_row .u8 (w0 := w) w.heap.size (by rfl) (.tmp 14) (.tmp 15) 26 5 1 rfl Tryd.underlying26 info5 (by omega) v4 ([] ++ l0) (bytes4 s) (some ⟨g, 0, none⟩) 4 4 (fun _ => True) rfl rfl (fun _ _ => trivial) HO4.out (C_block (bytes4 s) HCE4.out rfl (by simp [bytes4])) HW4.out HW4.out.size (by simp [bytes4]; omega) ?_
  intro v5 w5 ho5 hb5 hg5 hat5
  have HO5 := Aside0.mk ho5
  have HW5 := Aside0.mk hb5
  clear ho5 hb5 hg5 hat5
  refine hK.out _ _ trivial (fun hHeld => ?_)
  clear hK K
  refine norm_ (a' := ?_) ?_ ?_
  rotate_left
  · show Act.put _ (some 16) _ = _
    simp only [Act.put, List.setIfInBounds_toArray, List.set_cons_zero, List.set_cons_succ, i64_w, i32_w]
    rfl
  refine pure_ (i := 5) (N := some 2) (v := ?_) (a' := ?_) #[true, true, true, true, true, true] rfl rfl (by kernel_rfl) (fun _ _ _ h => h) (Or.inl ⟨by rfl, ?_⟩) ?_ ?_
  rotate_left
  · intro w'
    go_simp
    with_reducible rfl
  rotate_left
  · simp only [Act.put, List.setIfInBounds_toArray, List.set_cons_zero, List.set_cons_succ, i64_w, i32_w]
    rfl
  refine done_ (by kernel_rfl) ?_
  go_wp2
  go_ret
  exact ⟨_, rfl, HO5.out, HW5.out⟩
end Go.Proofs.YtogapedacdnfcaaDoor.G
