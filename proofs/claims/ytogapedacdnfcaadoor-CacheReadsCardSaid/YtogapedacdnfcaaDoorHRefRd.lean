/- The document's Read of a sector, by hand. -/
import Derived.Test.YtogapedacdnfcaaDoorRefRd
import Derived.Test.YtogapedacdnfcaaDoorHRefOpen
import Derived.Test.YtogapedacdnfcaaDoorHTy
namespace Go.Proofs.YtogapedacdnfcaaDoor.X
open Go.RowKit Go.Proofs.YtogapedacdnfcaaDoorW.PrintWords Go.Proofs.YtogapedacdnfcaaDoorW.PrintLast Go.Proofs.YtogapedacdnfcaaDoorW.PrintMore Go.Proofs.YtogapedacdnfcaaDoor.G Go.Proofs.YtogapedacdnfcaaDoor.T Go.Proofs.YtogapedacdnfcaaDoor.Pure
set_option linter.unusedVariables false
set_option linter.unusedSimpArgs false

/-- The answer of a Read: an entry with levels of the call's own. -/
def EntPost (w : World) (r : Int × Int × Int × List Int × Int) (e : Ending) (w' : World) : Prop := ∃ v0_ : Value, e = .returned (.tuple #[.agg #[.int .u64 r.1, .int .i64 r.2.1, .int .i64 r.2.2.1, v0_], .int .i64 r.2.2.2.2]) ∧ Kd.R (Kd.int .i64) 3 w' w.heap.size (fun _ => True) v0_ r.2.2.2.1 ∧ Below w.heap.size w w'
theorem EntPost.nil {w w' : World} {n : Int} (hb : Below w.heap.size w w') : EntPost w (0, 0, 0, [], n) (.returned (.tuple #[.agg #[.int .u64 0, .int .i64 0, .int .i64 0, .slice none 0 0], .int .i64 n])) w' := ⟨_, rfl, Kd.R_nil _ _ _ _ _, hb⟩
set_option maxHeartbeats 8000000 in
set_option maxRecDepth 100000 in
theorem refRead_short (A0 : Option Addr) (c0 : Nat) (l0 : List Int) (w : World) (h6 : l0.length ≠ 64) : Calls Tryd.prog 13 #[.slice A0 l0.length c0] w (EntPost w (0, 0, 0, [], 20)) := by
  have f1 : (((l0.length : Int)) == 64) = false := beq_eq_false_iff_ne.2 (by omega)
  have f2 : (((l0.length : Int)) != 64) = true := by rw [bne_iff_ne]; omega
  clear h6
  go_enter Tryd.func13, Tryd.ntmps13
  go_wp2
  refine bodyPost_ret (v := .tuple #[.agg #[.int .u64 0, .int .i64 0, .int .i64 0, .slice none 0 0], .int .i64 20]) (by simp [results, Tryd.results13, go_sem]) rfl (EntPost.nil (below_alloc (Below.refl _ _) _))
set_option maxHeartbeats 8000000 in
set_option maxRecDepth 100000 in
theorem refRead_sum (ad : Addr) (c0 : Nat) (l0 : List Int) (w : World) (h6 : l0.length = 64) (hr0 : Kd.C (Kd.int .u8) w (some ad) l0.length l0) (hc0 : l0.length ≤ c0) (hw : Bytes l0) (hs : ¬ l0.drop 60 = bytes4 (crc (l0.take 60))) : Calls Tryd.prog 13 #[.slice (some ad) l0.length c0] w (EntPost w (0, 0, 0, [], 21)) := by
  have HO := Aside0.mk (fun W hC => refOpen_yes ad c0 l0 W hC hc0 hw (by omega) 60 (by omega) false (by rw [fits, h6]; exact decide_eq_false (fun h => hs h.2)) _ _ rfl)
  have HR := Aside0.mk hr0
  rw [h6] at HO HR ⊢
  have f1 : (((64 : Nat) : Int) != 64) = false := rfl
  clear h6 hr0 hc0 hw hs
  go_enter Tryd.func13, Tryd.ntmps13
  go_wp2_with (first | (go_at_call 35; refine (HO.out _ (Kd.C_alloc HR.out _)).mono ?_; rintro e W1 ⟨rfl, hb8⟩; refine of_halt ?_))
  unfold G.Halt
  have hbk := blk_below (blk_new w _) hb8
  obtain ⟨hc0, hc1, hc2, hc3, hz0, hz1, hz2, hz3⟩ := cells4 hbk
  have HBK := Aside0.mk hbk
  have HB1 := Aside0.mk (below_step (below_alloc (Below.refl w.heap.size w) _) hb8)
  clear hbk hb8
  go_wp2
  refine bodyPost_ret (results_list (rs := [.cell 2 33, .tmp 3]) rfl (by simp) (.cell w.heap.size 33 _ (0, 0) _ rfl (blk4 HBK.out _ _ _ _) Tryd.underlying33 rfl (by kernel_rfl) (.tmp .nil))) rfl (EntPost.nil (below4 HB1.out (Nat.le_refl _) _ _ _ _))
set_option maxHeartbeats 8000000 in
set_option maxRecDepth 100000 in
theorem refRead_yes (ad : Addr) (c0 : Nat) (l0 : List Int) (w : World) (h6 : l0.length = 64) (hr0 : Kd.C (Kd.int .u8) w (some ad) l0.length l0) (hc0 : l0.length ≤ c0) (hw : Bytes l0) (hs : l0.drop 60 = bytes4 (crc (l0.take 60))) : Calls Tryd.prog 13 #[.slice (some ad) l0.length c0] w (EntPost w (refE l0 (l0.take 60))) := by
  have HO := Aside0.mk (fun W hC => refOpen_yes ad c0 l0 W hC hc0 hw (by omega) 60 (by omega) true (by rw [fits, h6]; exact decide_eq_true ⟨by omega, hs⟩) _ _ rfl)
  have HR := Aside0.mk hr0
  rw [h6] at HO HR hc0 ⊢
  obtain ⟨p, hp⟩ : ∃ p, p = l0.take 60 := ⟨_, rfl⟩
  have hpl : p.length = 60 := by rw [hp, List.length_take]; omega
  rw [← hp]
  have HL := Aside0.mk hpl
  have HBY := Aside0.mk (show Bytes p by rw [hp]; exact hw.take 60)
  have hS : ∀ W, Kd.C (Kd.int .u8) W (some ad) 64 l0 → ∀ j, j < 60 → W.cell? (ad.add j) = some (.int .u8 (rd p (j : Int))) := by
    intro W hC j hj
    obtain ⟨ad', e, hx⟩ := Kd.at_int hC (j : Int) (by omega) (by omega)
    injection e with e
    subst e
    rw [Int.toNat_natCast] at hx
    rw [hx, hp]
    congr 2
    simp only [rd, Int.toNat_natCast, List.getD_eq_getElem?_getD, List.getElem?_take, if_pos hj]
  have hS2 : ∀ W, Kd.C (Kd.int .u8) W (some ad) 64 l0 → W.cell? ⟨ad.block, ad.off + 8, none⟩ = some (.int .u8 (rd p 8)) ∧ W.cell? ⟨ad.block, ad.off + 9, none⟩ = some (.int .u8 (rd p 9)) := by
    intro W hC
    have h0 := hS W hC 8 (by omega)
    have h1 := hS W hC 9 (by omega)
    simp only [Addr.add, Nat.reduceEqDiff, if_false, if_true] at h0 h1 ⊢
    exact ⟨h0, h1⟩
  have HSS := Aside0.mk hS
  have HS2 := Aside0.mk hS2
  have f1 : (((64 : Nat) : Int) != 64) = false := rfl
  clear h6 hr0 hs hpl hp hS hS2
  go_enter Tryd.func13, Tryd.ntmps13
  go_wp2_with (first | (go_at_call 35; refine (HO.out _ (Kd.C_alloc HR.out _)).mono ?_; rintro e W1 ⟨rfl, hb8⟩; refine of_halt ?_))
  unfold G.Halt
  have hbk := blk_below (blk_new w _) hb8
  have HBK := Aside0.mk hbk
  have HB1 := Aside0.mk (below_step (below_alloc (Below.refl w.heap.size w) _) hb8)
  clear hbk hb8 HO
  go_upto_region 6 with (fail)
  refine start_ (n := 12) (S := fun w' => w'.cell? ⟨ad.block, ad.off + 8, none⟩ = some (.int .u8 (rd p 8)) ∧ w'.cell? ⟨ad.block, ad.off + 9, none⟩ = some (.int .u8 (rd p 9))) (ds := []) #[false, false, false, false, false, false, false, false, false, false, false, false] (by kernel_rfl) rfl rfl ⟨(HS2.out _ (Kd.C_drew (Kd.C_below HR.out HB1.out))).1, (HS2.out _ (Kd.C_drew (Kd.C_below HR.out HB1.out))).2⟩ (fun hHeld => ?_)
  refine pure_ (i := 0) (N := some 24) (v := ?_) (a' := ?_) #[true, false, false, false, false, false, false, false, false, false, false, false] rfl rfl (by kernel_rfl) (fun _ _ _ h => h) (Or.inl ⟨by rfl, ?_⟩) ?_ ?_
  rotate_left
  · intro w'
    go_simp
    with_reducible rfl
  rotate_left
  · simp only [Act.put, List.setIfInBounds_toArray, List.set_cons_zero, List.set_cons_succ, i64_w, i32_w]
    rfl
  refine pure_ (i := 1) (N := some 25) (v := ?_) (a' := ?_) #[true, true, false, false, false, false, false, false, false, false, false, false] rfl rfl (by kernel_rfl) (fun _ _ _ h => h) (Or.inl ⟨by rfl, ?_⟩) ?_ ?_
  rotate_left
  · intro w'
    go_simp
    with_reducible rfl
  rotate_left
  · simp only [Act.put, List.setIfInBounds_toArray, List.set_cons_zero, List.set_cons_succ, i64_w, i32_w]
    rfl
  refine pure_ (i := 5) (N := some 29) (v := ?_) (a' := ?_) #[true, true, false, false, false, true, false, false, false, false, false, false] rfl rfl (by kernel_rfl) (fun _ _ _ h => h) (Or.inl ⟨by rfl, ?_⟩) ?_ ?_
  rotate_left
  · intro w'
    go_simp
    with_reducible rfl
  rotate_left
  · simp only [Act.put, List.setIfInBounds_toArray, List.set_cons_zero, List.set_cons_succ, i64_w, i32_w]
    rfl
  refine pure_ (i := 6) (N := some 30) (v := ?_) (a' := ?_) #[true, true, false, false, false, true, true, false, false, false, false, false] rfl rfl (by kernel_rfl) (fun _ _ _ h => h) (Or.inl ⟨by rfl, ?_⟩) ?_ ?_
  rotate_left
  · intro w'
    go_simp
    with_reducible rfl
  rotate_left
  · simp only [Act.put, List.setIfInBounds_toArray, List.set_cons_zero, List.set_cons_succ, i64_w, i32_w]
    rfl
  refine take_ (i := 2) (N := some 26) (v := ?_) (a' := ?_) #[true, true, true, false, false, true, true, false, false, false, false, false] rfl rfl (by kernel_rfl) (fun _ _ _ h => h) (Or.inl ⟨by rfl, ?_⟩) hHeld ?_ ?_
  rotate_left
  · rintro w' ⟨s0, s1⟩
    go_simp
    with_reducible rfl
  rotate_left
  · simp only [Act.put, List.setIfInBounds_toArray, List.set_cons_zero, List.set_cons_succ, i64_w, i32_w]
    rfl
  refine take_ (i := 3) (N := some 27) (v := ?_) (a' := ?_) #[true, true, true, true, false, true, true, false, false, false, false, false] rfl rfl (by kernel_rfl) (fun _ _ _ h => h) (Or.inl ⟨by rfl, ?_⟩) hHeld ?_ ?_
  rotate_left
  · rintro w' ⟨s0, s1⟩
    go_simp
    with_reducible rfl
  rotate_left
  · simp only [Act.put, List.setIfInBounds_toArray, List.set_cons_zero, List.set_cons_succ, i64_w, i32_w]
    rfl
  refine pure_ (i := 4) (N := some 28) (v := ?_) (a' := ?_) #[true, true, true, true, true, true, true, false, false, false, false, false] rfl rfl (by kernel_rfl) (fun _ _ _ h => h) (Or.inl ⟨by rfl, ?_⟩) ?_ ?_
  rotate_left
  · intro w'
    go_simp
    with_reducible rfl
  rotate_left
  · simp only [Act.put, List.setIfInBounds_toArray, List.set_cons_zero, List.set_cons_succ, i64_w, i32_w]
    rfl
  refine take_ (i := 7) (N := some 31) (v := ?_) (a' := ?_) #[true, true, true, true, true, true, true, true, false, false, false, false] rfl rfl (by kernel_rfl) (fun _ _ _ h => h) (Or.inl ⟨by rfl, ?_⟩) hHeld ?_ ?_
  rotate_left
  · rintro w' ⟨s0, s1⟩
    go_simp
    with_reducible rfl
  rotate_left
  · simp only [Act.put, List.setIfInBounds_toArray, List.set_cons_zero, List.set_cons_succ, i64_w, i32_w]
    rfl
  refine take_ (i := 8) (N := some 32) (v := ?_) (a' := ?_) #[true, true, true, true, true, true, true, true, true, false, false, false] rfl rfl (by kernel_rfl) (fun _ _ _ h => h) (Or.inl ⟨by rfl, ?_⟩) hHeld ?_ ?_
  rotate_left
  · rintro w' ⟨s0, s1⟩
    go_simp
    with_reducible rfl
  rotate_left
  · simp only [Act.put, List.setIfInBounds_toArray, List.set_cons_zero, List.set_cons_succ, i64_w, i32_w]
    rfl
  refine pure_ (i := 9) (N := some 33) (v := ?_) (a' := ?_) #[true, true, true, true, true, true, true, true, true, true, false, false] rfl rfl (by kernel_rfl) (fun _ _ _ h => h) (Or.inl ⟨by rfl, ?_⟩) ?_ ?_
  rotate_left
  · intro w'
    go_simp
    with_reducible rfl
  rotate_left
  · simp only [Act.put, List.setIfInBounds_toArray, List.set_cons_zero, List.set_cons_succ, i64_w, i32_w]
    rfl
  refine one_ (i := 10) (N := some 6) #[true, true, true, true, true, true, true, true, true, true, true, false] rfl rfl (by kernel_rfl) (by decide) (fun K hK => ?_)
  refine value_ (w1 := ?_) (v := ?_) (by rfl) rfl ?_ ?_
  rotate_left 2
  · go_simp
    constructor
    · rfl
    · rfl
  refine hK.out _ _ ⟨(HS2.out _ (Kd.C_alloc (Kd.C_drew (Kd.C_below HR.out HB1.out)) _)).1, (HS2.out _ (Kd.C_alloc (Kd.C_drew (Kd.C_below HR.out HB1.out)) _)).2⟩ (fun hHeld => ?_)
  clear hK K
  refine norm_ (a' := ?_) ?_ ?_
  rotate_left
  · show Act.put _ (some 6) _ = _
    simp only [Act.put, List.setIfInBounds_toArray, List.set_cons_zero, List.set_cons_succ, i64_w, i32_w]
    rfl
  refine one_ (i := 11) (N := none) #[true, true, true, true, true, true, true, true, true, true, true, true] rfl rfl (by kernel_rfl) (by decide) (fun K hK => ?_)
  refine skip_ (w1 := ?_) (by rfl) rfl ?_ ?_
  rotate_left
  · go_simp
    rfl
  refine hK.out _ _ ⟨(HS2.out _ (Kd.C_alloc (Kd.C_drew (Kd.C_below HR.out HB1.out)) _)).1, (HS2.out _ (Kd.C_alloc (Kd.C_drew (Kd.C_below HR.out HB1.out)) _)).2⟩ (fun hHeld => ?_)
  clear hK K
  refine done_ (by kernel_rfl) ?_
  have e8 : wrap64 (rd p 8) = rd p 8 := by
    have := HBY.out (rd p ((8 : Nat) : Int)) (E.mem_rd p 8 (by have := HL.out; omega))
    rw [show rd p ((8 : Nat) : Int) = rd p 8 from rfl] at this
    unfold wrap64; omega
  have e9 : wrap64 (rd p 9) = rd p 9 := by
    have := HBY.out (rd p ((9 : Nat) : Int)) (E.mem_rd p 9 (by have := HL.out; omega))
    rw [show rd p ((9 : Nat) : Int) = rd p 9 from rfl] at this
    unfold wrap64; omega
  have e8b : wrap64 (rd p 8 - 1) = rd p 8 - 1 := by
    have := HBY.out (rd p ((8 : Nat) : Int)) (E.mem_rd p 8 (by have := HL.out; omega))
    rw [show rd p ((8 : Nat) : Int) = rd p 8 from rfl] at this
    unfold wrap64; omega
  simp only [e8, e8b, e9]
  clear e8 e8b e9
  have HX2 := Aside0.mk (blk_drew (blk_new W1 (Obj.cells #[.int .u64 0, .int .i64 (rd p 8 - 1), .int .i64 (rd p 9), .slice none 0 0] 33)))
  have HG2 := Aside0.mk (blk_drew (blk_alloc HBK.out (Obj.cells #[.int .u64 0, .int .i64 (rd p 8 - 1), .int .i64 (rd p 9), .slice none 0 0] 33)))
  have HB2 := Aside0.mk (below_drew1 (below_alloc HB1.out (Obj.cells #[.int .u64 0, .int .i64 (rd p 8 - 1), .int .i64 (rd p 9), .slice none 0 0] 33)))
  have HGX := Aside0.mk HB1.out.size
  have hlt : w.heap.size < W1.heap.size := blk_lt HBK.out
  have HLT := Aside0.mk hlt
  clear hlt HB1 HBK
  generalize hw2 : (W1.alloc (Obj.cells #[.int .u64 0, .int .i64 (rd p 8 - 1), .int .i64 (rd p 9), .slice none 0 0] 33)).drew = W2 at *
  clear hw2
  generalize W1.heap.size = gx at *
  go_wp2
  go_loopg [7] 9 (fun kq v7 w' => ∃ i : Nat, v7 = .int .i64 (i : Int) ∧ Aside0 (i ≤ 8) ∧ Aside0 (kq + i = 9) ∧ Aside0 (w'.heap[gx]? = some (.cells #[.int .u64 ((p.take i).foldl keyR 0), .int .i64 (rd p 8 - 1), .int .i64 (rd p 9), .slice none 0 0] 33 (0, 0))) ∧ Aside0 (w'.heap[w.heap.size]? = some (.cells #[.int .u64 0, .int .i64 0, .int .i64 0, .slice none 0 0] 33 (0, 0))) ∧ Aside0 (Below w.heap.size w w'))
  case atStart => exact ⟨0, rfl, ⟨by omega⟩, ⟨rfl⟩, HX2, HG2, HB2⟩
  case round =>
    clear HX2 HG2 HB2
    obtain ⟨i, rfl, HI, HK, HX, HG, HB⟩ := hrel
    by_cases c2 : i < 8
    · have c2b : decide (i < 8) = true := decide_eq_true c2
      have c2c : decide ((i : Int) < 8) = true := decide_eq_true (by omega)
      have HC2 := Aside0.mk c2
      have p1 : ((i : Int) < 60) = True := eq_true (by omega)
      have p2 : (i < 60) = True := eq_true (by omega)
      have hz0 := blk_frozen HX.out 0
      clear c2
      go_upto_region 10 with (fail)
      refine start_ (n := 11) (S := fun w' => w'.cell? ⟨gx, 0, none⟩ = some (.int .u64 ((p.take i).foldl keyR 0)) ∧ w'.cell? (ad.add i) = some (.int .u8 (rd p (i : Int)))) (ds := [10]) #[false, false, false, false, false, false, false, false, false, false, false] (by kernel_rfl) rfl rfl ⟨(cells4 (blk_drew HX.out)).1, (HSS.out _ (Kd.C_drew (Kd.C_below HR.out HB.out)) i (by have := HC2.out; omega))⟩ (fun hHeld => ?_)
      refine pure_ (i := 0) (N := some 38) (v := ?_) (a' := ?_) #[true, false, false, false, false, false, false, false, false, false, false] rfl rfl (by kernel_rfl) (fun _ _ _ h => h) (Or.inl ⟨by rfl, ?_⟩) ?_ ?_
      rotate_left
      · intro w'
        go_simp
        with_reducible rfl
      rotate_left
      · simp only [Act.put, List.setIfInBounds_toArray, List.set_cons_zero, List.set_cons_succ, i64_w, i32_w]
        rfl
      refine pure_ (i := 3) (N := some 41) (v := ?_) (a' := ?_) #[true, false, false, true, false, false, false, false, false, false, false] rfl rfl (by kernel_rfl) (fun _ _ _ h => h) (Or.inl ⟨by rfl, ?_⟩) ?_ ?_
      rotate_left
      · intro w'
        go_simp
        with_reducible rfl
      rotate_left
      · simp only [Act.put, List.setIfInBounds_toArray, List.set_cons_zero, List.set_cons_succ, i64_w, i32_w]
        rfl
      refine pure_ (i := 4) (N := some 42) (v := ?_) (a' := ?_) #[true, false, false, true, true, false, false, false, false, false, false] rfl rfl (by kernel_rfl) (fun _ _ _ h => h) (Or.inl ⟨by rfl, ?_⟩) ?_ ?_
      rotate_left
      · intro w'
        go_simp
        with_reducible rfl
      rotate_left
      · simp only [Act.put, List.setIfInBounds_toArray, List.set_cons_zero, List.set_cons_succ, i64_w, i32_w]
        rfl
      refine pure_ (i := 5) (N := some 43) (v := ?_) (a' := ?_) #[true, false, false, true, true, true, false, false, false, false, false] rfl rfl (by kernel_rfl) (fun _ _ _ h => h) (Or.inl ⟨by rfl, ?_⟩) ?_ ?_
      rotate_left
      · intro w'
        go_simp
        with_reducible rfl
      rotate_left
      · simp only [Act.put, List.setIfInBounds_toArray, List.set_cons_zero, List.set_cons_succ, i64_w, i32_w]
        rfl
      refine take_ (i := 1) (N := some 39) (v := ?_) (a' := ?_) #[true, true, false, true, true, true, false, false, false, false, false] rfl rfl (by kernel_rfl) (fun _ _ _ h => h) (Or.inl ⟨by rfl, ?_⟩) hHeld ?_ ?_
      rotate_left
      · rintro w' ⟨s0, s1⟩
        go_simp
        with_reducible rfl
      rotate_left
      · simp only [Act.put, List.setIfInBounds_toArray, List.set_cons_zero, List.set_cons_succ, i64_w, i32_w]
        rfl
      refine pure_ (i := 2) (N := some 40) (v := ?_) (a' := ?_) #[true, true, true, true, true, true, false, false, false, false, false] rfl rfl (by kernel_rfl) (fun _ _ _ h => h) (Or.inl ⟨by rfl, ?_⟩) ?_ ?_
      rotate_left
      · intro w'
        go_simp
        with_reducible rfl
      rotate_left
      · simp only [Act.put, List.setIfInBounds_toArray, List.set_cons_zero, List.set_cons_succ, i64_w, i32_w]
        rfl
      refine take_ (i := 6) (N := some 44) (v := ?_) (a' := ?_) #[true, true, true, true, true, true, true, false, false, false, false] rfl rfl (by kernel_rfl) (fun _ _ _ h => h) (Or.inl ⟨by rfl, ?_⟩) hHeld ?_ ?_
      rotate_left
      · rintro w' ⟨s0, s1⟩
        go_simp
        with_reducible rfl
      rotate_left
      · simp only [Act.put, List.setIfInBounds_toArray, List.set_cons_zero, List.set_cons_succ, i64_w, i32_w]
        rfl
      refine take_ (i := 7) (N := some 45) (v := ?_) (a' := ?_) #[true, true, true, true, true, true, true, true, false, false, false] rfl rfl (by kernel_rfl) (fun _ _ _ h => h) (Or.inl ⟨by rfl, ?_⟩) hHeld ?_ ?_
      rotate_left
      · rintro w' ⟨s0, s1⟩
        go_simp
        with_reducible rfl
      rotate_left
      · simp only [Act.put, List.setIfInBounds_toArray, List.set_cons_zero, List.set_cons_succ, i64_w, i32_w]
        rfl
      refine pure_ (i := 8) (N := some 46) (v := ?_) (a' := ?_) #[true, true, true, true, true, true, true, true, true, false, false] rfl rfl (by kernel_rfl) (fun _ _ _ h => h) (Or.inl ⟨by rfl, ?_⟩) ?_ ?_
      rotate_left
      · intro w'
        go_simp
        with_reducible rfl
      rotate_left
      · simp only [Act.put, List.setIfInBounds_toArray, List.set_cons_zero, List.set_cons_succ, i64_w, i32_w]
        rfl
      refine pure_ (i := 9) (N := some 47) (v := ?_) (a' := ?_) #[true, true, true, true, true, true, true, true, true, true, false] rfl rfl (by kernel_rfl) (fun _ _ _ h => h) (Or.inl ⟨by rfl, ?_⟩) ?_ ?_
      rotate_left
      · intro w'
        go_simp
        with_reducible rfl
      rotate_left
      · simp only [Act.put, List.setIfInBounds_toArray, List.set_cons_zero, List.set_cons_succ, i64_w, i32_w]
        rfl
      refine last_ (i := 10) (N := none) #[true, true, true, true, true, true, true, true, true, true, true] rfl rfl (by kernel_rfl) (by decide) (fun K hK => ?_)
      refine skip_ (w1 := ?_) (by rfl) rfl ?_ ?_
      rotate_left
      · go_simp
        rfl
      refine hK.out _ _ ?_
      clear hK K
      refine done_ (by kernel_rfl) ?_
      clear hz0
      go_wp2
      go_roundg (gk - 1)
      case measure => have := HK.out; have := HC2.out; omega
      case rel => exact ⟨i + 1, by rw [show wrap64 ((i : Int) + 1) = ((i + 1 : Nat) : Int) from by have := HC2.out; unfold wrap64; omega], ⟨by have := HC2.out; omega⟩, ⟨by have := HK.out; have := HC2.out; omega⟩, ⟨by
          refine blk_put (blk_drew HX.out) 0 _ ?_
          have hs : p.take (i + 1) = p.take i ++ [rd p (i : Int)] := E.take_succ_rd p i (by have := HL.out; have := HC2.out; omega)
          rw [hs, List.foldl_append]
          rfl⟩, ⟨blk_far (blk_drew HG.out) (by show w.heap.size ≠ gx; have := HLT.out; omega) _⟩, ⟨below_set (below_drew1 HB.out) HGX.out⟩⟩
    · have c2b : decide (i < 8) = false := decide_eq_false c2
      have c2c : decide ((i : Int) < 8) = false := decide_eq_false (by omega)
      obtain rfl : i = 8 := by have := HI.out; omega
      clear c2
      obtain ⟨n, hn⟩ : ∃ n : Nat, rd p 10 = (n : Int) := by
        have := HBY.out (rd p ((10 : Nat) : Int)) (E.mem_rd p 10 (by have := HL.out; omega))
        rw [show rd p ((10 : Nat) : Int) = rd p 10 from rfl] at this
        exact ⟨(rd p 10).toNat, by omega⟩
      have hnb : n < 256 := by
        have := HBY.out (rd p ((10 : Nat) : Int)) (E.mem_rd p 10 (by have := HL.out; omega))
        rw [show rd p ((10 : Nat) : Int) = rd p 10 from rfl] at this
        omega
      have e10 : rd p ((10 : Nat) : Int) = (n : Int) := hn
      have h10 : ∀ W, Kd.C (Kd.int .u8) W (some ad) 64 l0 → W.cell? ⟨ad.block, ad.off + 10, none⟩ = some (.int .u8 (n : Int)) := by
        intro W hC
        have h0 := HSS.out W hC 10 (by omega)
        rw [e10] at h0
        simp only [Addr.add, Nat.reduceEqDiff, if_false, if_true] at h0
        exact h0
      have HN := Aside0.mk hn
      have HNB := Aside0.mk hnb
      have H10 := Aside0.mk h10
      have ew : wrap64 ((n : Int)) = (n : Int) := by unfold wrap64; omega
      have info3 : (Tryd.prog.info? 3).map (fun i => (i.zero, i.size, i.bytes)) = some (some (.int .i64 0), 1, 8) := by kernel_rfl
      clear hn e10 h10 hnb
      go_wp2
      go_loopg [8] 50 (fun kq v8 w' => ∃ (j : Nat) (yv : Value), v8 = .int .i64 (j : Int) ∧ Aside0 (j ≤ 49 ∧ j ≤ n) ∧ Aside0 (kq + j = 50) ∧ Aside0 (w'.heap[gx]? = some (.cells #[.int .u64 ((p.take 8).foldl keyR 0), .int .i64 (rd p 8 - 1), .int .i64 (rd p 9), yv] 33 (0, 0))) ∧ Aside0 (w'.heap[w.heap.size]? = some (.cells #[.int .u64 0, .int .i64 0, .int .i64 0, .slice none 0 0] 33 (0, 0))) ∧ Aside0 (Kd.R (Kd.int .i64) 3 w' w.heap.size (fun _ => True) yv (lvR p j)) ∧ Aside0 (Below w.heap.size w w'))
      case atStart => exact ⟨0, _, rfl, ⟨by omega⟩, ⟨rfl⟩, HX, HG, ⟨Kd.R_nil _ _ _ _ _⟩, HB⟩
      case round =>
        clear HX HG HB HI HK
        obtain ⟨j, yv, rfl, HI, HK, HX, HG, HY, HB⟩ := hrel
        have hx10 := H10.out _ (Kd.C_below HR.out HB.out)
        by_cases c3 : j < n ∧ j < 49
        · have c3b : decide (j < n) = true := decide_eq_true c3.1
          have c3c : decide ((j : Int) < 49) = true := decide_eq_true (by omega)
          have c3d : decide (j < 49) = true := decide_eq_true c3.2
          obtain ⟨m, hm⟩ : ∃ m, m = 11 + j := ⟨_, rfl⟩
          have e5 : wrap64 (11 + (j : Int)) = (m : Int) := by unfold wrap64; omega
          have p1 : ((m : Int) < 60) = True := eq_true (by omega)
          have p2 : (m < 60) = True := eq_true (by omega)
          have HM := Aside0.mk hm
          have hby := HBY.out (rd p (m : Int)) (E.mem_rd p m (by have := HL.out; omega))
          obtain ⟨x, hxx⟩ : ∃ x, x = rd p (m : Int) := ⟨_, rfl⟩
          have e6 : wrap64 x = x := by unfold wrap64; omega
          have e7 : wrap64 (x - 1) = x - 1 := by unfold wrap64; omega
          have hxm : ∀ W, Below w.heap.size w W → W.cell? (ad.add m) = some (.int .u8 x) := fun W hb => by
            rw [hxx]
            exact HSS.out _ (Kd.C_below HR.out hb) m (by omega)
          have HXM := Aside0.mk hxm
          have HXX := Aside0.mk hxx
          have HC3 := Aside0.mk c3
          have HYL := Aside0.mk (show (lvR p j).length ≤ 49 by rw [lvR, List.length_map, List.length_take]; have := HI.out; omega)
          have hz3 := blk_frozen HX.out 3
          obtain ⟨Ay, cy, hyv⟩ := Kd.R_slice HY.out
          generalize hll : (lvR p j).length = Ly at hyv HYL
          have HLL := Aside0.mk hll
          subst hyv
          clear c3 hm hxx hxm hby hll
          go_upto_region 14 with (fail)
          refine start_ (n := 13) (S := fun w' => w'.cell? ⟨gx, 3, none⟩ = some (.slice Ay Ly cy) ∧ w'.cell? (ad.add m) = some (.int .u8 x)) (ds := [10, 12]) #[false, false, false, false, false, false, false, false, false, false, false, false, false] (by kernel_rfl) rfl rfl ⟨(cells4 (blk_drew HX.out)).2.2.2.1, (HXM.out _ (below_drew1 HB.out))⟩ (fun hHeld => ?_)
          refine pure_ (i := 0) (N := some 60) (v := ?_) (a' := ?_) #[true, false, false, false, false, false, false, false, false, false, false, false, false] rfl rfl (by kernel_rfl) (fun _ _ _ h => h) (Or.inl ⟨by rfl, ?_⟩) ?_ ?_
          rotate_left
          · intro w'
            go_simp
            with_reducible rfl
          rotate_left
          · simp only [Act.put, List.setIfInBounds_toArray, List.set_cons_zero, List.set_cons_succ, i64_w, i32_w]
            rfl
          refine pure_ (i := 2) (N := some 62) (v := ?_) (a' := ?_) #[true, false, true, false, false, false, false, false, false, false, false, false, false] rfl rfl (by kernel_rfl) (fun _ _ _ h => h) (Or.inl ⟨by rfl, ?_⟩) ?_ ?_
          rotate_left
          · intro w'
            go_simp
            with_reducible rfl
          rotate_left
          · simp only [Act.put, List.setIfInBounds_toArray, List.set_cons_zero, List.set_cons_succ, i64_w, i32_w]
            rfl
          refine pure_ (i := 3) (N := some 63) (v := ?_) (a' := ?_) #[true, false, true, true, false, false, false, false, false, false, false, false, false] rfl rfl (by kernel_rfl) (fun _ _ _ h => h) (Or.inl ⟨by rfl, ?_⟩) ?_ ?_
          rotate_left
          · intro w'
            go_simp
            with_reducible rfl
          rotate_left
          · simp only [Act.put, List.setIfInBounds_toArray, List.set_cons_zero, List.set_cons_succ, i64_w, i32_w]
            rfl
          refine pure_ (i := 4) (N := some 64) (v := ?_) (a' := ?_) #[true, false, true, true, true, false, false, false, false, false, false, false, false] rfl rfl (by kernel_rfl) (fun _ _ _ h => h) (Or.inl ⟨by rfl, ?_⟩) ?_ ?_
          rotate_left
          · intro w'
            go_simp
            with_reducible rfl
          rotate_left
          · simp only [Act.put, List.setIfInBounds_toArray, List.set_cons_zero, List.set_cons_succ, i64_w, i32_w]
            rfl
          refine pure_ (i := 5) (N := some 65) (v := ?_) (a' := ?_) #[true, false, true, true, true, true, false, false, false, false, false, false, false] rfl rfl (by kernel_rfl) (fun _ _ _ h => h) (Or.inl ⟨by rfl, ?_⟩) ?_ ?_
          rotate_left
          · intro w'
            go_simp
            with_reducible rfl
          rotate_left
          · simp only [Act.put, List.setIfInBounds_toArray, List.set_cons_zero, List.set_cons_succ, i64_w, i32_w]
            rfl
          refine take_ (i := 1) (N := some 61) (v := ?_) (a' := ?_) #[true, true, true, true, true, true, false, false, false, false, false, false, false] rfl rfl (by kernel_rfl) (fun _ _ _ h => h) (Or.inl ⟨by rfl, ?_⟩) hHeld ?_ ?_
          rotate_left
          · rintro w' ⟨s0, s1⟩
            go_simp
            with_reducible rfl
          rotate_left
          · simp only [Act.put, List.setIfInBounds_toArray, List.set_cons_zero, List.set_cons_succ, i64_w, i32_w]
            rfl
          refine take_ (i := 6) (N := some 66) (v := ?_) (a' := ?_) #[true, true, true, true, true, true, true, false, false, false, false, false, false] rfl rfl (by kernel_rfl) (fun _ _ _ h => h) (Or.inl ⟨by rfl, ?_⟩) hHeld ?_ ?_
          rotate_left
          · rintro w' ⟨s0, s1⟩
            go_simp
            with_reducible rfl
          rotate_left
          · simp only [Act.put, List.setIfInBounds_toArray, List.set_cons_zero, List.set_cons_succ, i64_w, i32_w]
            rfl
          refine take_ (i := 7) (N := some 67) (v := ?_) (a' := ?_) #[true, true, true, true, true, true, true, true, false, false, false, false, false] rfl rfl (by kernel_rfl) (fun _ _ _ h => h) (Or.inl ⟨by rfl, ?_⟩) hHeld ?_ ?_
          rotate_left
          · rintro w' ⟨s0, s1⟩
            go_simp
            with_reducible rfl
          rotate_left
          · simp only [Act.put, List.setIfInBounds_toArray, List.set_cons_zero, List.set_cons_succ, i64_w, i32_w]
            rfl
          refine pure_ (i := 8) (N := some 68) (v := ?_) (a' := ?_) #[true, true, true, true, true, true, true, true, true, false, false, false, false] rfl rfl (by kernel_rfl) (fun _ _ _ h => h) (Or.inl ⟨by rfl, ?_⟩) ?_ ?_
          rotate_left
          · intro w'
            go_simp
            with_reducible rfl
          rotate_left
          · simp only [Act.put, List.setIfInBounds_toArray, List.set_cons_zero, List.set_cons_succ, i64_w, i32_w]
            rfl
          refine one_ (i := 9) (N := some 69) #[true, true, true, true, true, true, true, true, true, true, false, false, false] rfl rfl (by kernel_rfl) (by decide) (fun K hK => ?_)
          refine value_ (w1 := ?_) (v := ?_) (by rfl) rfl ?_ ?_
          rotate_left 2
          · go_simp
            constructor
            · rfl
            · rfl
          refine hK.out _ _ ⟨(cells4 (blk_alloc (blk_drew HX.out) _)).2.2.2.1, (HXM.out _ (below_alloc (below_drew1 HB.out) _))⟩ (fun hHeld => ?_)
          clear hK K
          refine norm_ (a' := ?_) ?_ ?_
          rotate_left
          · show Act.put _ (some 69) _ = _
            simp only [Act.put, List.setIfInBounds_toArray, List.set_cons_zero, List.set_cons_succ, i64_w, i32_w]
            rfl
          refine last_ (i := 10) (N := some 70) #[true, true, true, true, true, true, true, true, true, true, true, false, false] rfl rfl (by kernel_rfl) (by decide) (fun K hK => ?_)
          refine Kd.R_append_step (Kd.int .i64) (w0 := w) w.heap.size (by rfl) (.tmp 61) (.tmp 69) 23 3 (.int .i64 0) 8 rfl Tryd.underlying23 info3 rfl (by decide) (by omega) (.slice Ay Ly cy) (lvR p j) (x - 1) [.int .i64 (x - 1)] (fun _ => True) (fun _ => False) rfl rfl rfl (fun _ hk => hk.elim) (fun _ _ => trivial) (Kd.R_drew HY.out) (below_drew1 HB.out) HB.out.size (by have := HYL.out; have := HLL.out; omega) ?_
          intro v7 w7 ho7 hb7 hg7 hat7
          obtain ⟨A7, c7, rfl⟩ := Kd.R_slice ho7
          generalize hl7 : (lvR p j ++ [x - 1]).length = L7 at *
          have HX7 := Aside0.mk (blk_grown_ty (blk_drew HX.out) (Kd.R_drew HY.out) hg7 (by decide))
          have HG7 := Aside0.mk (blk_grown_ty (blk_drew HG.out) (Kd.R_drew HY.out) hg7 (by decide))
          have HY7 := Aside0.mk ho7
          have HB7 := Aside0.mk hb7
          have hz7 := blk_frozen HX7.out 3
          have hd7 := (cells4 HX7.out).2.2.2.1
          clear ho7 hb7 hg7 hat7 hl7
          refine hK.out _ _ ?_
          clear hK K
          refine norm_ (a' := ?_) ?_ ?_
          rotate_left
          · show Act.put _ (some 70) _ = _
            simp only [Act.put, List.setIfInBounds_toArray, List.set_cons_zero, List.set_cons_succ, i64_w, i32_w]
            rfl
          refine pure_ (i := 11) (N := some 71) (v := ?_) (a' := ?_) #[true, true, true, true, true, true, true, true, true, true, true, true, false] rfl rfl (by kernel_rfl) (fun _ _ _ h => h) (Or.inl ⟨by rfl, ?_⟩) ?_ ?_
          rotate_left
          · intro w'
            go_simp
            with_reducible rfl
          rotate_left
          · simp only [Act.put, List.setIfInBounds_toArray, List.set_cons_zero, List.set_cons_succ, i64_w, i32_w]
            rfl
          refine last_ (i := 12) (N := none) #[true, true, true, true, true, true, true, true, true, true, true, true, true] rfl rfl (by kernel_rfl) (by decide) (fun K hK => ?_)
          refine skip_ (w1 := ?_) (by rfl) rfl ?_ ?_
          rotate_left
          · go_simp
            rfl
          refine hK.out _ _ ?_
          clear hK K
          refine done_ (by kernel_rfl) ?_
          clear hz3 hz7 hd7
          go_wp2
          go_roundg (gk - 1)
          case measure => have := HK.out; have := HC3.out; omega
          case rel => exact ⟨j + 1, _, by rw [show wrap64 ((j : Int) + 1) = ((j + 1 : Nat) : Int) from by have := HC3.out; unfold wrap64; omega], ⟨by have := HC3.out; omega⟩, ⟨by have := HK.out; have := HC3.out; omega⟩, ⟨blk_put HX7.out 3 _ rfl⟩, ⟨blk_far HG7.out (by show w.heap.size ≠ gx; have := HLT.out; omega) _⟩, ⟨by rw [lvR_succ p j HL.out HC3.out.2, ← HM.out, ← HXX.out]; exact Kd.R_set HY7.out HX7.out (by decide) 3 _⟩, ⟨below_set HB7.out HGX.out⟩⟩
        · have hj : j = min n 49 := by have := HI.out; omega
          have HJ := Aside0.mk hj
          have HX3 := Aside0.mk HX.out
          obtain ⟨Ay, cy, hyv, hcy, hCy⟩ := Kd.R_reads HY.out
          rw [hyv] at HX HY
          obtain ⟨hc0, hc1, hc2, hc3, hz0, hz1, hz2, hz3⟩ := cells4 HX.out
          obtain ⟨kb, hkb⟩ := Ev.rounds (refBytes_ev ((p.take 8).foldl keyR 0) (rd p 8 - 1) (rd p 9) (lvR p j) (by rw [keyR8 _ (by rw [List.length_take]; have := HL.out; omega) (HBY.out.take 8)]; exact (bytes_of_key _ (by rw [List.length_take]; have := HL.out; omega) (HBY.out.take 8)).1))
          obtain ⟨c, bad, hcb⟩ : ∃ c bad, ES ((p.take 8).foldl keyR 0) (rd p 8 - 1) (rd p 9) (lvR p j) = (c, bad) := ⟨_, _, rfl⟩
          rw [hcb] at hkb
          have HBYT := Aside0.mk (fun W hC => colophonref25_Bytes.calls kb ((p.take 8).foldl keyR 0) (rd p 8 - 1) (rd p 9) Ay cy (lvR p j) c bad W hC hcy hkb)
          have HCB := Aside0.mk hcb
          have HCY := Aside0.mk hCy
          generalize hlj : (lvR p j).length = Lj at *
          clear hkb hcb hcy hCy hyv hlj HX3 HI HK
          have hcase : (decide (j < n) = true ∧ decide (j < 49) = false ∧ decide ((j : Int) < 49) = false) ∨ decide (j < n) = false := by
            by_cases c4 : j < n
            · exact .inl ⟨decide_eq_true c4, decide_eq_false (by omega), decide_eq_false (by omega)⟩
            · exact .inr (decide_eq_false c4)
          have HRE := Aside0.mk (show refE l0 p = if bad = 0 ∧ c = l0 then ((p.take 8).foldl keyR 0, rd p 8 - 1, rd p 9, lvR p j, 0) else (0, 0, 0, [], 50) by
            unfold refE
            rw [show min (rd p 10).toNat 49 = j by rw [HN.out, Int.toNat_natCast]; exact hj.symm, HCB.out])
          have HW := Aside0.mk hw
          have HCy := Aside0.mk (show Bytes c by
            have := HCB.out
            unfold ES at this
            split at this
            · injection this with h1 h2
              rw [← h1]; exact sealed_by _ _ _ _
            · injection this with h1 h2
              rw [← h1]; intro x hx; simp at hx)
          clear c3 hj hw
          rcases hcase with ⟨c4b, c4c, c4d⟩ | c4b
          all_goals
            go_wp2_with (first | (go_at_call 11; refine (HBYT.out _ HCY.out).mono ?_; rintro e w4 ⟨v4, rfl, ho4, hb4⟩; refine of_halt ?_))
            unfold G.Halt
            obtain ⟨A4, c4, rfl, hc4, hC4⟩ := Kd.R_reads ho4
            have HX4 := blk_below HX.out hb4
            have HG4 := blk_below HG.out hb4
            have HB4 := Aside0.mk (below_step HB.out hb4)
            have HY4 := Aside0.mk (Kd.R_below HY.out hb4)
            obtain ⟨hd0, hd1, hd2, hd3, hy0, hy1, hy2, hy3⟩ := cells4 HX4
            obtain ⟨he0, he1, he2, he3, hw0, hw1, hw2, hw3⟩ := cells4 HG4
            have HG5 := Aside0.mk HG4
            have HX5 := Aside0.mk HX4
            have hcv1 := Kd.C_string (P := Tryd.prog) (src := 26) (dst := 9) Tryd.underlying26 Tryd.underlying5 Tryd.underlying9 (c := c4) hC4
            have hcv2 := Kd.C_string (P := Tryd.prog) (src := 26) (dst := 9) Tryd.underlying26 Tryd.underlying5 Tryd.underlying9 (c := c0) (Kd.C_below HR.out HB4.out)
            clear ho4 hb4 hC4 hc4 HX4 HG4 hc0 hc1 hc2 hc3 hz0 hz1 hz2 hz3 hx10
            by_cases hbad : bad = 0
            · by_cases hcl : c = l0
              · have HRE2 := Aside0.mk (HRE.out.trans (if_pos ⟨hbad, hcl⟩))
                have b1 : (bad != 0) = false := by rw [hbad]; rfl
                have b1b : (bad == 0) = true := by rw [hbad]; rfl
                have b2 := str_ne c l0 HCy.out HW.out
                have b3 := str_eq c l0 HCy.out HW.out
                rw [decide_eq_true hcl] at b2 b3
                clear hbad hcl
                go_wp2
                refine bodyPost_ret (results_list (rs := [.cell 2 33, .tmp 3]) rfl (by simp) (.cell w.heap.size 33 _ (0, 0) _ rfl (blk4 HG5.out _ _ _ _) Tryd.underlying33 rfl (by kernel_rfl) (.tmp .nil))) rfl (by rw [HRE2.out]; exact ⟨_, rfl, R_set4 HY4.out HG5.out (by decide) _ _ _ _, below4 HB4.out (Nat.le_refl _) _ _ _ _⟩)
              · have HRE2 := Aside0.mk (HRE.out.trans (if_neg (fun h => hcl h.2)))
                have b1 : (bad != 0) = false := by rw [hbad]; rfl
                have b1b : (bad == 0) = true := by rw [hbad]; rfl
                have b2 := str_ne c l0 HCy.out HW.out
                have b3 := str_eq c l0 HCy.out HW.out
                rw [decide_eq_false hcl] at b2 b3
                clear hbad hcl
                go_wp2
                refine bodyPost_ret (results_list (rs := [.cell 2 33, .tmp 3]) rfl (by simp) (.cell w.heap.size 33 _ (0, 0) _ rfl (blk4 HG5.out _ _ _ _) Tryd.underlying33 rfl (by kernel_rfl) (.tmp .nil))) rfl (by rw [HRE2.out]; exact EntPost.nil (below4 HB4.out (Nat.le_refl _) _ _ _ _))
            · have HRE2 := Aside0.mk (HRE.out.trans (if_neg (fun h => hbad h.1)))
              have b1 : (bad != 0) = true := by rw [bne_iff_ne]; exact hbad
              have b1b : (bad == 0) = false := beq_eq_false_iff_ne.2 hbad
              clear hbad hcv1 hcv2
              go_wp2
              refine bodyPost_ret (results_list (rs := [.cell 2 33, .tmp 3]) rfl (by simp) (.cell w.heap.size 33 _ (0, 0) _ rfl (blk4 HG5.out _ _ _ _) Tryd.underlying33 rfl (by kernel_rfl) (.tmp .nil))) rfl (by rw [HRE2.out]; exact EntPost.nil (below4 HB4.out (Nat.le_refl _) _ _ _ _))
end Go.Proofs.YtogapedacdnfcaaDoor.X
