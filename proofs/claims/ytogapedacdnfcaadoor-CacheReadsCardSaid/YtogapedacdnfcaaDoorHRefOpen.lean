/- The document's Open, by hand: what it hands back is the row that came in, without its last four. -/
import Derived.Test.YtogapedacdnfcaaDoorRefSum
import Derived.Test.YtogapedacdnfcaaDoorStrT
namespace Go.Proofs.YtogapedacdnfcaaDoor.X
open Go.RowKit Go.Proofs.YtogapedacdnfcaaDoorW.PrintWords Go.Proofs.YtogapedacdnfcaaDoorW.PrintLast Go.Proofs.YtogapedacdnfcaaDoorW.PrintMore Go.Proofs.YtogapedacdnfcaaDoor.G Go.Proofs.YtogapedacdnfcaaDoor.T
set_option linter.unusedVariables false
set_option linter.unusedSimpArgs false

theorem bytes4_bytes (s : Int) (h : 0 ≤ s ∧ s < 4294967296) : Bytes (bytes4 s) := by
  intro x hx
  simp only [bytes4, List.mem_cons, List.not_mem_nil, or_false] at hx
  omega
/-- does the sum fit? -/
def fits (l : List Int) : Bool := decide (4 ≤ l.length ∧ l.drop (l.length - 4) = bytes4 (crc (l.take (l.length - 4))))
set_option maxHeartbeats 8000000 in
set_option maxRecDepth 100000 in
theorem refOpen_yes (ad : Addr) (c0 : Nat) (l0 : List Int) (w : World) (hr0 : Kd.C (Kd.int .u8) w (some ad) l0.length l0) (hc0 : l0.length ≤ c0) (hw : Bytes l0) (hl : l0.length ≤ 140737488351232) (n : Nat) (hn : l0.length = n + 4) (b : Bool) (hb : fits l0 = b) (v : Value) (r : Int) (hv : (v, r) = if b then (.slice (some ad) n c0, 0) else (.slice none 0 0, 21)) :
    Calls Tryd.prog 35 #[.slice (some ad) l0.length c0] w fun e w' => e = .returned (.tuple #[v, .int .i64 r]) ∧ Below w.heap.size w w' := by
  obtain ⟨k, hk⟩ := Ev.rounds (S.refSeal (l0.take n) (by rw [List.length_take]; omega))
  have HR := Aside0.mk hr0
  have htl : (l0.take n).length = n := by rw [List.length_take]; omega
  have HSeal := Aside0.mk (fun W (hC : Kd.C (Kd.int .u8) W (some ad) l0.length l0) => colophonref02_Seal.calls k (some ad) c0 (l0.take n) _ W (Kd.C_take hC (by omega)) (by omega) hk)
  rw [htl] at HSeal
  have hb' : (!decide (l0.take n ++ bytes4 (crc (l0.take n)) = l0)) = !b := by
    rw [← hb, fits]
    congr 1
    apply decide_eq_decide.2
    rw [hn, Nat.add_sub_cancel]
    constructor
    · intro h
      refine ⟨by omega, ?_⟩
      conv => lhs; rw [← h]
      rw [List.drop_left' htl]
    · rintro ⟨_, h⟩
      rw [← h, List.take_append_drop]
  have HNE := Aside0.mk ((str_ne (l0.take n ++ bytes4 (crc (l0.take n))) l0 ((hw.take n).append (bytes4_bytes _ (crc_range _))) hw).trans hb')
  have e1 : wrap64 ((l0.length : Int) - 4) = (n : Int) := by unfold wrap64; omega
  have e2 : (l0.length : Int) - 4 = (n : Int) := by omega
  have e3 : wrap64 (n : Int) = (n : Int) := by unfold wrap64; omega
  have f5 : decide ((n : Int) < 0) = false := decide_eq_false (by omega)
  have f0 : ((n : Int) < 0) = False := eq_false (by omega)
  have f1 : ((n : Int) ≤ (l0.length : Int)) = True := eq_true (by omega)
  have f2 : (n ≤ c0) = True := eq_true (by omega)
  have f3 : (0 : Int) ≤ (n : Int) := by omega
  have f4 : (n : Int).toNat = n := by omega
  have HStr := Aside0.mk (fun W (hC : Kd.C (Kd.int .u8) W (some ad) l0.length l0) => Kd.C_string (P := Tryd.prog) (src := 26) (dst := 9) Tryd.underlying26 Tryd.underlying5 Tryd.underlying9 (c := c0) hC)
  generalize (l0.take n ++ bytes4 (crc (l0.take n))) = sl at *
  have HN := Aside0.mk hn
  have HV := Aside0.mk hv
  clear hv
  clear hr0 hk hb hb' htl hw hl hn
  go_enter Tryd.func35, Tryd.ntmps35
  go_upto_region 4 with (fail)
  refine start_ (n := 8) (S := fun w' => (convert 26 9 (.slice (some ad) l0.length c0)).run Tryd.prog w' = .ok (.string (strOfNums l0)) w') (ds := []) #[false, false, false, false, false, false, false, false] (by kernel_rfl) rfl rfl (HStr.out _ (Kd.C_drew HR.out)) (fun hHeld => ?_)
  refine pure_ (i := 0) (N := some 10) (v := ?_) (a' := ?_) #[true, false, false, false, false, false, false, false] rfl rfl (by kernel_rfl) (fun _ _ _ h => h) (Or.inl ⟨by rfl, ?_⟩) ?_ ?_
  rotate_left
  · intro w'
    go_simp
    with_reducible rfl
  rotate_left
  · simp only [Act.put, List.setIfInBounds_toArray, List.set_cons_zero, List.set_cons_succ, i64_w, i32_w]
    rfl
  refine pure_ (i := 1) (N := some 11) (v := ?_) (a' := ?_) #[true, true, false, false, false, false, false, false] rfl rfl (by kernel_rfl) (fun _ _ _ h => h) (Or.inl ⟨by rfl, ?_⟩) ?_ ?_
  rotate_left
  · intro w'
    go_simp
    with_reducible rfl
  rotate_left
  · simp only [Act.put, List.setIfInBounds_toArray, List.set_cons_zero, List.set_cons_succ, i64_w, i32_w]
    rfl
  refine pure_ (i := 2) (N := some 12) (v := ?_) (a' := ?_) #[true, true, true, false, false, false, false, false] rfl rfl (by kernel_rfl) (fun _ _ _ h => h) (Or.inl ⟨by rfl, ?_⟩) ?_ ?_
  rotate_left
  · intro w'
    go_simp
    with_reducible rfl
  rotate_left
  · simp only [Act.put, List.setIfInBounds_toArray, List.set_cons_zero, List.set_cons_succ, i64_w, i32_w]
    rfl
  refine pure_ (i := 5) (N := some 15) (v := ?_) (a' := ?_) #[true, true, true, false, false, true, false, false] rfl rfl (by kernel_rfl) (fun _ _ _ h => h) (Or.inl ⟨by rfl, ?_⟩) ?_ ?_
  rotate_left
  · intro w'
    go_simp
    with_reducible rfl
  rotate_left
  · simp only [Act.put, List.setIfInBounds_toArray, List.set_cons_zero, List.set_cons_succ, i64_w, i32_w]
    rfl
  refine take_ (i := 6) (N := some 16) (v := ?_) (a' := ?_) #[true, true, true, false, false, true, true, false] rfl rfl (by kernel_rfl) (fun _ _ _ h => h) (Or.inl ⟨by rfl, ?_⟩) hHeld ?_ ?_
  rotate_left
  · intro w' s0
    go_simp
    with_reducible rfl
  rotate_left
  · simp only [Act.put, List.setIfInBounds_toArray, List.set_cons_zero, List.set_cons_succ, i64_w, i32_w]
    rfl
  refine one_ (i := 3) (N := some 13) #[true, true, true, true, false, true, true, false] rfl rfl (by kernel_rfl) (by decide) (fun K hK => ?_)
  refine goes_ Tryd.func33 (by kernel_rfl) rfl #[.slice (some ad) n c0] (by rfl) rfl rfl (by simp only [List.map_toArray, List.map_cons, List.map_nil]; rfl) ?_
  with_reducible refine (HSeal.out _ (Kd.C_drew HR.out)).mono ?_
  rintro e w4 ⟨v4, rfl, ho4, hb4⟩
  refine ⟨_, rfl, ?_⟩
  have hcvV := own_string (P := Tryd.prog) (src := 26) (dst := 9) Tryd.underlying26 Tryd.underlying5 Tryd.underlying9 (Kd.own_of_R ho4)
  obtain ⟨A4, c4, rfl⟩ := Kd.R_slice ho4
  have HB4 := Aside0.mk (below_step (below_drew1 (Below.refl w.heap.size w)) hb4)
  have HR4 := Aside0.mk (Kd.C_below HR.out HB4.out)
  clear ho4 hb4
  refine hK.out _ _ (HStr.out _ HR4.out) (fun hHeld => ?_)
  clear hK K
  refine norm_ (a' := ?_) ?_ ?_
  rotate_left
  · show Act.put _ (some 13) _ = _
    simp only [Act.put, List.setIfInBounds_toArray, List.set_cons_zero, List.set_cons_succ, i64_w, i32_w]
    rfl
  refine one_ (i := 4) (N := some 14) #[true, true, true, true, true, true, true, false] rfl rfl (by kernel_rfl) (by decide) (fun K hK => ?_)
  refine value_ (w1 := ?_) (v := ?_) (by rfl) rfl ?_ ?_
  rotate_left 2
  · go_simp
    constructor
    · rfl
    · rfl
  refine hK.out _ _ (HStr.out _ HR4.out) (fun hHeld => ?_)
  clear hK K
  refine norm_ (a' := ?_) ?_ ?_
  rotate_left
  · show Act.put _ (some 14) _ = _
    simp only [Act.put, List.setIfInBounds_toArray, List.set_cons_zero, List.set_cons_succ, i64_w, i32_w]
    rfl
  refine pure_ (i := 7) (N := some 17) (v := ?_) (a' := ?_) #[true, true, true, true, true, true, true, true] rfl rfl (by kernel_rfl) (fun _ _ _ h => h) (Or.inl ⟨by rfl, ?_⟩) ?_ ?_
  rotate_left
  · intro w'
    go_simp
    with_reducible rfl
  rotate_left
  · simp only [Act.put, List.setIfInBounds_toArray, List.set_cons_zero, List.set_cons_succ, i64_w, i32_w]
    rfl
  refine done_ (by kernel_rfl) ?_
  go_wp2
  · have hx : (!(strOfNums sl).toList == (strOfNums l0).toList) = true := by assumption
    obtain rfl : b = false := by have := HNE.out; rw [bne, hx] at this; simpa using this
    obtain ⟨rfl, rfl⟩ := Prod.mk.inj HV.out
    go_ret2
    exact ⟨rfl, HB4.out⟩
  · have hx : (!(strOfNums sl).toList == (strOfNums l0).toList) = false := by assumption
    obtain rfl : b = true := by have := HNE.out; rw [bne, hx] at this; simpa using this
    obtain ⟨rfl, rfl⟩ := Prod.mk.inj HV.out
    go_ret2
    exact ⟨rfl, HB4.out⟩
set_option maxHeartbeats 4000000 in
theorem refOpen_short (A0 : Option Addr) (c0 : Nat) (l0 : List Int) (w : World) (h : l0.length < 4) : Calls Tryd.prog 35 #[.slice A0 l0.length c0] w fun e w' => e = .returned (.tuple #[.slice none 0 0, .int .i64 20]) ∧ w' = w := by
  have e1 : wrap64 ((l0.length : Int) - 4) = (l0.length : Int) - 4 := by unfold wrap64; omega
  have f0 : decide ((l0.length : Int) - 4 < 0) = true := decide_eq_true (by omega)
  have f1 : ((l0.length : Int) - 4 < 0) := by omega
  go_enter Tryd.func35, Tryd.ntmps35
  go_wp2
  go_ret2
  exact ⟨rfl, rfl⟩
end Go.Proofs.YtogapedacdnfcaaDoor.X
