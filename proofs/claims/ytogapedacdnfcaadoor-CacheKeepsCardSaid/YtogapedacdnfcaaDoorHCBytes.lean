/- cache.Bytes, by hand. -/
import Derived.Test.YtogapedacdnfcaaDoorHMay
import Derived.Test.YtogapedacdnfcaaDoorSumsM
namespace Go.Proofs.YtogapedacdnfcaaDoor.G
open Go.RowKit Go.Proofs.YtogapedacdnfcaaDoorW.PrintWords Go.Proofs.YtogapedacdnfcaaDoorW.PrintLast Go.Proofs.YtogapedacdnfcaaDoorW.PrintMore
set_option linter.unusedVariables false
set_option linter.unusedSimpArgs false

def keyB (a0 : Int) (i : Nat) : Int := a0 / 2 ^ (56 - 8 * i) % 256
/-- The sixty bytes of an entry. -/
def entB (a0 a1 a2 : Int) (l : List Int) : List Int := (List.range 8).map (keyB a0) ++ [(wrap64 (a1 + 1)) % 256, a2 % 256, (l.length : Int) % 256] ++ l.map (fun n => (wrap64 (n + 1)) % 256) ++ List.replicate (49 - l.length) 0
def ent1 (a0 a1 a2 : Int) (l : List Int) (j : Nat) : List Int := (List.range 8).map (keyB a0) ++ ([(wrap64 (a1 + 1)) % 256, a2 % 256, (l.length : Int) % 256] ++ ((l.take j).map (fun n => (wrap64 (n + 1)) % 256) ++ List.replicate (49 - j) 0))
theorem ent1_length (a0 a1 a2 : Int) (l : List Int) (j : Nat) (h : j ≤ l.length) (hl : l.length ≤ 49) : (ent1 a0 a1 a2 l j).length = 60 := by simp [ent1]; omega
theorem ent1_end (a0 a1 a2 : Int) (l : List Int) : ent1 a0 a1 a2 l l.length = entB a0 a1 a2 l := by simp [ent1, entB]
theorem ent1_set (a0 a1 a2 : Int) (l : List Int) (j : Nat) (h : j < l.length) (hl : l.length ≤ 49) : (ent1 a0 a1 a2 l j).set (11 + j) ((wrap64 (rd l (j : Int) + 1)) % 256) = ent1 a0 a1 a2 l (j + 1) := by
  have h1 : ((List.range 8).map (keyB a0)).length = 8 := by simp
  have h2 : ((l.take j).map (fun n => (wrap64 (n + 1)) % 256)).length = j := by simp; omega
  rw [ent1, ent1, show 49 - j = (49 - (j + 1)) + 1 by omega, List.replicate_succ, List.set_append_right _ _ (by omega), h1, List.set_append_right _ _ (by simp; omega), show 11 + j - 8 - [(wrap64 (a1 + 1)) % 256, a2 % 256, (l.length : Int) % 256].length = j by simp; omega, List.set_append_right _ _ (by omega), h2, Nat.sub_self, List.set_cons_zero, List.take_succ_eq_append_getElem h, List.map_append, List.append_assoc]
  simp [rd, h]
def mayB (a1 a2 : Int) (l : List Int) : Bool := decide (-1 ≤ a1 ∧ a1 ≤ 1 ∧ (a2 = 0 ∨ a2 = 1) ∧ l.length ≤ 49 ∧ l.any far = false)
def cache_Bytes.f (a0_0 a0_1 a0_2 : Int) (l0_3 : List Int) : Option (List Int × Int) := if mayB a0_1 a0_2 l0_3 = true then (sums_Seal.f (entB a0_0 a0_1 a0_2 l0_3)).bind fun x => some (x, 0) else some ([], 50)
def key1 (a0 : Int) (i : Nat) : List Int := (List.range i).map (keyB a0) ++ List.replicate (60 - i) 0
theorem key1_length (a0 : Int) (i : Nat) (h : i ≤ 60) : (key1 a0 i).length = 60 := by simp [key1]; omega
theorem key1_set (a0 : Int) (i : Nat) (h : i < 60) : (key1 a0 i).set i (keyB a0 i) = key1 a0 (i + 1) := by
  rw [key1, key1, show 60 - i = (60 - (i + 1)) + 1 by omega, List.replicate_succ, List.set_append_right _ _ (by simp), List.length_map, List.length_range, Nat.sub_self, List.set_cons_zero, List.range_succ, List.map_append, List.append_assoc]
  rfl
set_option maxHeartbeats 8000000 in
set_option maxRecDepth 100000 in
theorem cache_Bytes.calls (a0_0 a0_1 a0_2 : Int) (A0_3 : Option Addr) (c0_3 : Nat) (l0_3 : List Int) (r1 : List Int) (r2 : Int) (w : World) (hT : Tab w) (hr0_3 : Kd.C (Kd.int .i64) w A0_3 l0_3.length l0_3) (hc0_3 : l0_3.length ≤ c0_3) (h : cache_Bytes.f a0_0 a0_1 a0_2 l0_3 = some (r1, r2)) :
    Calls Tryd.prog 10 #[.agg #[.int .u64 a0_0, .int .i64 a0_1, .int .i64 a0_2, .slice A0_3 l0_3.length c0_3]] w fun e w' => ∃ v0_ : Value, e = .returned (.tuple #[v0_, .int .i64 r2]) ∧ Kd.R (Kd.int .u8) 5 w' w.heap.size (fun _ => True) v0_ r1 ∧ Below w.heap.size w w' := by
  have HT := Aside0.mk hT
  have HR := Aside0.mk hr0_3
  have HB := Aside0.mk (Below.refl w.heap.size w)
  have HMay := Aside0.mk (fun W hC => cache_Entry_may.calls a0_0 a0_1 a0_2 A0_3 c0_3 l0_3 (mayB a0_1 a0_2 l0_3) W hC hc0_3 rfl)
  clear hT hr0_3
  by_cases hm : mayB a0_1 a0_2 l0_3 = true
  rotate_left
  · rw [cache_Bytes.f, if_neg hm] at h
    injection h with h
    injection h with h1 h2
    subst h1 h2
    rw [show mayB a0_1 a0_2 l0_3 = false from Bool.eq_false_iff.2 hm] at HMay
    clear hm hc0_3
    go_enter Tryd.func10, Tryd.ntmps10
    go_upto_region 1 with (first | ((with_reducible refine gate_dst (N := 1) rfl ?_); (try (refine gate_guard (by rfl) ?_; dsimp only)); refine box_event ?hg (N := 1) ?hd (cs := #[.int .u64 a0_0, .int .i64 a0_1, .int .i64 a0_2, .slice A0_3 l0_3.length c0_3]) (t := 25) ?hr ?_; (case hd => rfl); (case hg => rfl); (case hr => first | (go_simp; done) | (go_simp; rfl)); intro gb hg w3 hbox hb; have HB3 := Aside0.mk (below_step HB.out hb); have BK := Aside0.mk hbox; clear hb hbox hg))
    (try simp only [Act.put, List.setIfInBounds_toArray, List.set_cons_zero, List.set_cons_succ])
    have hcz0 : w3.cell? ⟨gb, 0, none⟩ = some (.int .u64 a0_0) := (blk_cell BK.out 0).trans rfl
    have hcz1 : w3.cell? ⟨gb, 1, none⟩ = some (.int .i64 a0_1) := (blk_cell BK.out 1).trans rfl
    have hcz2 : w3.cell? ⟨gb, 2, none⟩ = some (.int .i64 a0_2) := (blk_cell BK.out 2).trans rfl
    have hcz3 : w3.cell? ⟨gb, 3, none⟩ = some (.slice A0_3 l0_3.length c0_3) := (blk_cell BK.out 3).trans rfl
    go_wp2_with (first | (go_at_call 30; refine (HMay.out _ (Kd.C_below HR.out HB3.out)).mono ?_; rintro e w4 ⟨rfl, hb4⟩))
    go_ret2
    exact ⟨_, rfl, Kd.R_nil _ _ _ _ _, below_step HB3.out hb4⟩
  · rw [cache_Bytes.f, if_pos hm] at h
    rw [hm] at HMay
    have HH := Aside0.mk h
    have HLN := Aside0.mk (show l0_3.length ≤ 49 by unfold mayB at hm; exact (of_decide_eq_true hm).2.2.2.1)
    clear hm h
    go_enter Tryd.func10, Tryd.ntmps10
    go_upto_region 1 with (first | ((with_reducible refine gate_dst (N := 1) rfl ?_); (try (refine gate_guard (by rfl) ?_; dsimp only)); refine box_event ?hg (N := 1) ?hd (cs := #[.int .u64 a0_0, .int .i64 a0_1, .int .i64 a0_2, .slice A0_3 l0_3.length c0_3]) (t := 25) ?hr ?_; (case hd => rfl); (case hg => rfl); (case hr => first | (go_simp; done) | (go_simp; rfl)); intro gb hg w3 hbox hb; have HB3 := Aside0.mk (below_step HB.out hb); have BK := Aside0.mk hbox; clear hb hbox hg))
    (try simp only [Act.put, List.setIfInBounds_toArray, List.set_cons_zero, List.set_cons_succ])
    have hcz0 : w3.cell? ⟨gb, 0, none⟩ = some (.int .u64 a0_0) := (blk_cell BK.out 0).trans rfl
    have hcz1 : w3.cell? ⟨gb, 1, none⟩ = some (.int .i64 a0_1) := (blk_cell BK.out 1).trans rfl
    have hcz2 : w3.cell? ⟨gb, 2, none⟩ = some (.int .i64 a0_2) := (blk_cell BK.out 2).trans rfl
    have hcz3 : w3.cell? ⟨gb, 3, none⟩ = some (.slice A0_3 l0_3.length c0_3) := (blk_cell BK.out 3).trans rfl
    go_upto_region 3 with (first | (go_at_call 30; refine (HMay.out _ (Kd.C_below HR.out HB3.out)).mono ?_; rintro e w4 ⟨rfl, hb4⟩))
    have BK4 := Aside0.mk (blk_below BK.out hb4)
    have HB4 := Aside0.mk (below_step HB3.out hb4)
    clear hcz0 hcz1 hcz2 hcz3 hb4 BK HB3 HMay
    have HG := Aside0.mk (heap_alloc_new w4 (Obj.cells (((List.replicate 60 (0 : Int)).map (Value.int .u8)).toArray) 84))
    have HB5 := Aside0.mk (below_alloc HB4.out (Obj.cells (((List.replicate 60 (0 : Int)).map (Value.int .u8)).toArray) 84))
    have HB6 := Aside0.mk (blk_alloc BK4.out (Obj.cells (((List.replicate 60 (0 : Int)).map (Value.int .u8)).toArray) 84))
    have HGB := Aside0.mk (blk_lt BK4.out)
    have HGW := Aside0.mk HB4.out.size
    go_wp2
    go_loopg [11] 9 (fun kq v11 w' => ∃ i : Nat, v11 = .int .i64 (i : Int) ∧ Aside0 (i ≤ 8) ∧ Aside0 (kq + i = 9) ∧ Aside0 (w'.heap[w4.heap.size]? = some (.cells ((key1 a0_0 i).map (Value.int .u8)).toArray 84 (0, 0))) ∧ Aside0 (w'.heap[gb]? = some (.cells #[.int .u64 a0_0, .int .i64 a0_1, .int .i64 a0_2, .slice A0_3 l0_3.length c0_3] 25 (0, 0))) ∧ Aside0 (Below w.heap.size w w'))
    case atStart => exact ⟨0, rfl, ⟨by omega⟩, ⟨rfl⟩, HG, HB6, HB5⟩
    case round =>
      clear HB5 HB6 HG
      obtain ⟨i, rfl, HI, HK, HG, HBB, HB⟩ := hrel
      by_cases c2 : i < 8
      · have c2b : decide (i < 8) = true := decide_eq_true c2
        have c2c : decide ((i : Int) < 8) = true := decide_eq_true (by omega)
        obtain ⟨q, hq⟩ : ∃ q, q = 56 - 8 * i := ⟨_, rfl⟩
        obtain ⟨q8, hq8⟩ : ∃ q, q = 8 * i := ⟨_, rfl⟩
        have e1 : wrap64 (8 * (i : Int)) = (q8 : Int) := by unfold wrap64; omega
        have e2 : wrap64 (56 - (q8 : Int)) = (q : Int) := by unfold wrap64; omega
        have e3 : ((q : Int) < 0) = False := eq_false (by omega)
        have e3b : decide ((q : Int) < 0) = false := decide_eq_false (by omega)
        have hcz0 : wr.cell? ⟨gb, 0, none⟩ = some (.int .u64 a0_0) := (blk_cell HBB.out 0).trans rfl
        have hcy : wr.cell? ⟨w4.heap.size, i, none⟩ = some (.int .u8 ((key1 a0_0 i).getD i 0)) := by
          rw [blk_cell HG.out]
          have hl := key1_length a0_0 i (by omega)
          simp only [List.getElem?_toArray, List.getElem?_map]
          rw [List.getElem?_eq_getElem (by omega), List.getD_eq_getElem?_getD, List.getElem?_eq_getElem (by omega)]
          rfl
        have hfy := blk_frozen HG.out i
        have p1 : ((i : Int) < 60) = True := eq_true (by omega)
        have p2 : (i < 60) = True := eq_true (by omega)
        have HC2 := Aside0.mk c2
        have HQ := Aside0.mk (And.intro hq hq8)
        clear c2 hq hq8
        go_wp2
        go_roundg (gk - 1)
        case measure => have := HK.out; have := HC2.out; omega
        case rel => exact ⟨i + 1, by rw [show wrap64 ((i : Int) + 1) = ((i + 1 : Nat) : Int) from by have := HC2.out; unfold wrap64; omega], ⟨by have := HC2.out; omega⟩, ⟨by have := HK.out; have := HC2.out; omega⟩, ⟨by
            refine blk_put HG.out i _ ?_
            rw [← key1_set a0_0 i (by have := HC2.out; omega)]
            rw [List.setIfInBounds_toArray, List.map_set]
            congr 3
            rw [keyB, ← HQ.out.1, Nat.min_eq_left (by have := HQ.out.1; omega)]⟩, ⟨blk_far HBB.out (by show gb ≠ w4.heap.size; have := HGB.out; omega) _⟩, ⟨HB.out.setCell (p := ⟨w4.heap.size, i, none⟩) HGW.out _⟩⟩
      · have c2b : decide (i < 8) = false := decide_eq_false c2
        have c2c : decide ((i : Int) < 8) = false := decide_eq_false (by omega)
        obtain rfl : i = 8 := by have := HI.out; omega
        obtain ⟨g, hgg⟩ : ∃ g, g = w4.heap.size := ⟨_, rfl⟩
        rw [← hgg] at HG HGW HGB ⊢
        have hne : gb ≠ g := by have := HGB.out; omega
        obtain ⟨K8, hK8⟩ : ∃ x, x = (key1 a0_0 8).map (Value.int .u8) := ⟨_, rfl⟩
        have hKl : K8.length = 60 := by rw [hK8, List.length_map]; exact key1_length a0_0 8 (by omega)
        rw [← hK8] at HG
        have hS : ∀ W : World, W.heap[gb]? = some (.cells #[.int .u64 a0_0, .int .i64 a0_1, .int .i64 a0_2, .slice A0_3 l0_3.length c0_3] 25 (0, 0)) → W.cell? ⟨gb, 1, none⟩ = some (.int .i64 a0_1) ∧ W.cell? ⟨gb, 2, none⟩ = some (.int .i64 a0_2) ∧ W.cell? ⟨gb, 3, none⟩ = some (.slice A0_3 l0_3.length c0_3) := fun W h => ⟨(blk_cell h 1).trans rfl, (blk_cell h 2).trans rfl, (blk_cell h 3).trans rfl⟩
        have HS := Aside0.mk hS
        have HKL := Aside0.mk hKl
        have HK8 := Aside0.mk hK8
        have HNE := Aside0.mk hne
        clear c2 hS hKl hK8 hne hgg
        go_upto_region 9 with (fail)
        have hcx : ∀ j, j < 60 → ∃ x, wr.cell? ⟨g, j, none⟩ = some x := fun j hj => by
          rw [blk_cell HG.out]
          exact ⟨K8[j]'(by rw [HKL.out]; exact hj), by simp⟩
        obtain ⟨x8, hx8⟩ := hcx 8 (by omega)
        obtain ⟨x9, hx9⟩ := hcx 9 (by omega)
        obtain ⟨x10, hx10⟩ := hcx 10 (by omega)
        have hf8 := blk_frozen HG.out 8
        have hf9 := blk_frozen HG.out 9
        have hf10 := blk_frozen HG.out 10
        clear hcx
        refine start_ (n := 17) (S := fun w' => w'.cell? ⟨gb, 1, none⟩ = some (.int .i64 a0_1) ∧ w'.cell? ⟨gb, 2, none⟩ = some (.int .i64 a0_2) ∧ w'.cell? ⟨gb, 3, none⟩ = some (.slice A0_3 l0_3.length c0_3)) (ds := []) #[false, false, false, false, false, false, false, false, false, false, false, false, false, false, false, false, false] (by kernel_rfl) rfl rfl ⟨(HS.out _ HBB.out).1, (HS.out _ HBB.out).2.1, (HS.out _ HBB.out).2.2⟩ (fun hHeld => ?_)
        refine pure_ (i := 0) (N := some 24) (v := ?_) (a' := ?_) #[true, false, false, false, false, false, false, false, false, false, false, false, false, false, false, false, false] rfl rfl (by kernel_rfl) (fun _ _ _ h => h) (Or.inl ⟨by rfl, ?_⟩) ?_ ?_
        rotate_left
        · intro w'
          go_simp
          with_reducible rfl
        rotate_left
        · simp only [Act.put, List.setIfInBounds_toArray, List.set_cons_zero, List.set_cons_succ, i64_w, i32_w]
          rfl
        refine pure_ (i := 4) (N := some 28) (v := ?_) (a' := ?_) #[true, false, false, false, true, false, false, false, false, false, false, false, false, false, false, false, false] rfl rfl (by kernel_rfl) (fun _ _ _ h => h) (Or.inl ⟨by rfl, ?_⟩) ?_ ?_
        rotate_left
        · intro w'
          go_simp
          with_reducible rfl
        rotate_left
        · simp only [Act.put, List.setIfInBounds_toArray, List.set_cons_zero, List.set_cons_succ, i64_w, i32_w]
          rfl
        refine pure_ (i := 7) (N := some 31) (v := ?_) (a' := ?_) #[true, false, false, false, true, false, false, true, false, false, false, false, false, false, false, false, false] rfl rfl (by kernel_rfl) (fun _ _ _ h => h) (Or.inl ⟨by rfl, ?_⟩) ?_ ?_
        rotate_left
        · intro w'
          go_simp
          with_reducible rfl
        rotate_left
        · simp only [Act.put, List.setIfInBounds_toArray, List.set_cons_zero, List.set_cons_succ, i64_w, i32_w]
          rfl
        refine take_ (i := 1) (N := some 25) (v := ?_) (a' := ?_) #[true, true, false, false, true, false, false, true, false, false, false, false, false, false, false, false, false] rfl rfl (by kernel_rfl) (fun _ _ _ h => h) (Or.inl ⟨by rfl, ?_⟩) hHeld ?_ ?_
        rotate_left
        · rintro w' ⟨s0, s1, s2⟩
          go_simp
          with_reducible rfl
        rotate_left
        · simp only [Act.put, List.setIfInBounds_toArray, List.set_cons_zero, List.set_cons_succ, i64_w, i32_w]
          rfl
        refine pure_ (i := 2) (N := some 26) (v := ?_) (a' := ?_) #[true, true, true, false, true, false, false, true, false, false, false, false, false, false, false, false, false] rfl rfl (by kernel_rfl) (fun _ _ _ h => h) (Or.inl ⟨by rfl, ?_⟩) ?_ ?_
        rotate_left
        · intro w'
          go_simp
          with_reducible rfl
        rotate_left
        · simp only [Act.put, List.setIfInBounds_toArray, List.set_cons_zero, List.set_cons_succ, i64_w, i32_w]
          rfl
        refine take_ (i := 3) (N := some 27) (v := ?_) (a' := ?_) #[true, true, true, true, true, false, false, true, false, false, false, false, false, false, false, false, false] rfl rfl (by kernel_rfl) (fun _ _ _ h => h) (Or.inl ⟨by rfl, ?_⟩) hHeld ?_ ?_
        rotate_left
        · rintro w' ⟨s0, s1, s2⟩
          go_simp
          with_reducible rfl
        rotate_left
        · simp only [Act.put, List.setIfInBounds_toArray, List.set_cons_zero, List.set_cons_succ, i64_w, i32_w]
          rfl
        refine pure_ (i := 11) (N := some 35) (v := ?_) (a' := ?_) #[true, true, true, true, true, false, false, true, false, false, false, true, false, false, false, false, false] rfl rfl (by kernel_rfl) (fun _ _ _ h => h) (Or.inl ⟨by rfl, ?_⟩) ?_ ?_
        rotate_left
        · intro w'
          go_simp
          with_reducible rfl
        rotate_left
        · simp only [Act.put, List.setIfInBounds_toArray, List.set_cons_zero, List.set_cons_succ, i64_w, i32_w]
          rfl
        refine take_ (i := 5) (N := some 29) (v := ?_) (a' := ?_) #[true, true, true, true, true, true, false, true, false, false, false, true, false, false, false, false, false] rfl rfl (by kernel_rfl) (fun _ _ _ h => h) (Or.inl ⟨by rfl, ?_⟩) hHeld ?_ ?_
        rotate_left
        · rintro w' ⟨s0, s1, s2⟩
          go_simp
          with_reducible rfl
        rotate_left
        · simp only [Act.put, List.setIfInBounds_toArray, List.set_cons_zero, List.set_cons_succ, i64_w, i32_w]
          rfl
        refine take_ (i := 6) (N := some 30) (v := ?_) (a' := ?_) #[true, true, true, true, true, true, true, true, false, false, false, true, false, false, false, false, false] rfl rfl (by kernel_rfl) (fun _ _ _ h => h) (Or.inl ⟨by rfl, ?_⟩) hHeld ?_ ?_
        rotate_left
        · rintro w' ⟨s0, s1, s2⟩
          go_simp
          with_reducible rfl
        rotate_left
        · simp only [Act.put, List.setIfInBounds_toArray, List.set_cons_zero, List.set_cons_succ, i64_w, i32_w]
          rfl
        refine take_ (i := 8) (N := some 32) (v := ?_) (a' := ?_) #[true, true, true, true, true, true, true, true, true, false, false, true, false, false, false, false, false] rfl rfl (by kernel_rfl) (fun _ _ _ h => h) (Or.inl ⟨by rfl, ?_⟩) hHeld ?_ ?_
        rotate_left
        · rintro w' ⟨s0, s1, s2⟩
          go_simp
          with_reducible rfl
        rotate_left
        · simp only [Act.put, List.setIfInBounds_toArray, List.set_cons_zero, List.set_cons_succ, i64_w, i32_w]
          rfl
        refine pure_ (i := 9) (N := some 33) (v := ?_) (a' := ?_) #[true, true, true, true, true, true, true, true, true, true, false, true, false, false, false, false, false] rfl rfl (by kernel_rfl) (fun _ _ _ h => h) (Or.inl ⟨by rfl, ?_⟩) ?_ ?_
        rotate_left
        · intro w'
          go_simp
          with_reducible rfl
        rotate_left
        · simp only [Act.put, List.setIfInBounds_toArray, List.set_cons_zero, List.set_cons_succ, i64_w, i32_w]
          rfl
        refine take_ (i := 10) (N := some 34) (v := ?_) (a' := ?_) #[true, true, true, true, true, true, true, true, true, true, true, true, false, false, false, false, false] rfl rfl (by kernel_rfl) (fun _ _ _ h => h) (Or.inl ⟨by rfl, ?_⟩) hHeld ?_ ?_
        rotate_left
        · rintro w' ⟨s0, s1, s2⟩
          go_simp
          with_reducible rfl
        rotate_left
        · simp only [Act.put, List.setIfInBounds_toArray, List.set_cons_zero, List.set_cons_succ, i64_w, i32_w]
          rfl
        refine one_ (i := 12) (N := none) #[true, true, true, true, true, true, true, true, true, true, true, true, true, false, false, false, false] rfl rfl (by kernel_rfl) (by decide) (fun K hK => ?_)
        refine skip_ (w1 := ?_) (by rfl) rfl ?_ ?_
        rotate_left
        · go_simp
          rfl
        refine hK.out _ _ ⟨(HS.out _ (blk_far (p := ⟨g, 8, none⟩) (blk_drew HBB.out) HNE.out _)).1, (HS.out _ (blk_far (p := ⟨g, 8, none⟩) (blk_drew HBB.out) HNE.out _)).2.1, (HS.out _ (blk_far (p := ⟨g, 8, none⟩) (blk_drew HBB.out) HNE.out _)).2.2⟩ (fun hHeld => ?_)
        clear hK K
        refine pure_ (i := 13) (N := some 36) (v := ?_) (a' := ?_) #[true, true, true, true, true, true, true, true, true, true, true, true, true, true, false, false, false] rfl rfl (by kernel_rfl) (fun _ _ _ h => h) (Or.inl ⟨by rfl, ?_⟩) ?_ ?_
        rotate_left
        · intro w'
          go_simp
          with_reducible rfl
        rotate_left
        · simp only [Act.put, List.setIfInBounds_toArray, List.set_cons_zero, List.set_cons_succ, i64_w, i32_w]
          rfl
        refine one_ (i := 14) (N := none) #[true, true, true, true, true, true, true, true, true, true, true, true, true, true, true, false, false] rfl rfl (by kernel_rfl) (by decide) (fun K hK => ?_)
        refine skip_ (w1 := ?_) (by rfl) rfl ?_ ?_
        rotate_left
        · go_simp
          rfl
        refine hK.out _ _ ⟨(HS.out _ (blk_far (p := ⟨g, 9, none⟩) (blk_far (p := ⟨g, 8, none⟩) (blk_drew HBB.out) HNE.out _) HNE.out _)).1, (HS.out _ (blk_far (p := ⟨g, 9, none⟩) (blk_far (p := ⟨g, 8, none⟩) (blk_drew HBB.out) HNE.out _) HNE.out _)).2.1, (HS.out _ (blk_far (p := ⟨g, 9, none⟩) (blk_far (p := ⟨g, 8, none⟩) (blk_drew HBB.out) HNE.out _) HNE.out _)).2.2⟩ (fun hHeld => ?_)
        clear hK K
        refine pure_ (i := 15) (N := some 37) (v := ?_) (a' := ?_) #[true, true, true, true, true, true, true, true, true, true, true, true, true, true, true, true, false] rfl rfl (by kernel_rfl) (fun _ _ _ h => h) (Or.inl ⟨by rfl, ?_⟩) ?_ ?_
        rotate_left
        · intro w'
          go_simp
          with_reducible rfl
        rotate_left
        · simp only [Act.put, List.setIfInBounds_toArray, List.set_cons_zero, List.set_cons_succ, i64_w, i32_w]
          rfl
        refine one_ (i := 16) (N := none) #[true, true, true, true, true, true, true, true, true, true, true, true, true, true, true, true, true] rfl rfl (by kernel_rfl) (by decide) (fun K hK => ?_)
        refine skip_ (w1 := ?_) (by rfl) rfl ?_ ?_
        rotate_left
        · go_simp
          rfl
        refine hK.out _ _ ⟨(HS.out _ (blk_far (p := ⟨g, 10, none⟩) (blk_far (p := ⟨g, 9, none⟩) (blk_far (p := ⟨g, 8, none⟩) (blk_drew HBB.out) HNE.out _) HNE.out _) HNE.out _)).1, (HS.out _ (blk_far (p := ⟨g, 10, none⟩) (blk_far (p := ⟨g, 9, none⟩) (blk_far (p := ⟨g, 8, none⟩) (blk_drew HBB.out) HNE.out _) HNE.out _) HNE.out _)).2.1, (HS.out _ (blk_far (p := ⟨g, 10, none⟩) (blk_far (p := ⟨g, 9, none⟩) (blk_far (p := ⟨g, 8, none⟩) (blk_drew HBB.out) HNE.out _) HNE.out _) HNE.out _)).2.2⟩ (fun hHeld => ?_)
        clear hK K
        refine done_ (by kernel_rfl) ?_
        have hq3 := (HS.out _ HBB.out).2.2
        have hn1 : (gb = g) = False := eq_false HNE.out
        have hn2 : (g = gb) = False := eq_false (Ne.symm HNE.out)
        have hc3 : ∀ u1 u2 u3 : Value, (((wr.drew.setCell ⟨g, 8, none⟩ u1).setCell ⟨g, 9, none⟩ u2).setCell ⟨g, 10, none⟩ u3).cell? ⟨gb, 3, none⟩ = some (.slice A0_3 l0_3.length c0_3) := fun u1 u2 u3 => (HS.out _ (blk_far (p := ⟨g, 10, none⟩) (blk_far (p := ⟨g, 9, none⟩) (blk_far (p := ⟨g, 8, none⟩) (blk_drew HBB.out) HNE.out _) HNE.out _) HNE.out _)).2.2
        go_wp2
        go_loopg [41] (l0_3.length + 1) (fun kq v41 w' => ∃ j : Nat, v41 = .int .i64 (j : Int) ∧ Aside0 (j ≤ l0_3.length) ∧ Aside0 (kq + j = l0_3.length + 1) ∧ Aside0 (w'.heap[g]? = some (.cells ((ent1 a0_0 a0_1 a0_2 l0_3 j).map (Value.int .u8)).toArray 84 (0, 0))) ∧ Aside0 (Below w.heap.size w w'))
        case atStart => exact ⟨0, rfl, ⟨by omega⟩, ⟨rfl⟩, ⟨by
            refine blk_put (blk_put (blk_put HG.out 8 _ rfl) 9 _ rfl) 10 _ ?_
            rw [HK8.out]
            rfl⟩, ⟨(((below_drew HB.out).setCell (p := ⟨g, 8, none⟩) HGW.out _).setCell (p := ⟨g, 9, none⟩) HGW.out _).setCell (p := ⟨g, 10, none⟩) HGW.out _⟩⟩
        case round =>
          obtain ⟨j, rfl, HI2, HK2, HG2, HB2⟩ := hrel
          by_cases c3 : j < l0_3.length
          · have c3b : decide (j < l0_3.length) = true := decide_eq_true c3
            obtain ⟨ad, e, hx⟩ := Kd.at_int (Kd.C_below HR.out HB2.out) (j : Int) (by omega) (by omega)
            cases e
            simp only [Int.toNat_natCast] at hx
            have hln := HLN.out
            have p5 : ((j : Int) < (l0_3.length : Int)) = True := eq_true (Int.ofNat_lt.2 c3)
            have q5 : (j < l0_3.length) = True := eq_true c3
            obtain ⟨m, hm⟩ : ∃ m, m = 11 + j := ⟨_, rfl⟩
            have e5 : wrap64 (11 + (j : Int)) = (m : Int) := by unfold wrap64; omega
            have p6 : ((m : Int) < 60) = True := eq_true (by omega)
            have q6 : (m < 60) = True := eq_true (by omega)
            have hcy : ∃ x, wr.cell? ⟨g, m, none⟩ = some x := by
              rw [blk_cell HG2.out]
              have hl := ent1_length a0_0 a0_1 a0_2 l0_3 j HI2.out HLN.out
              exact ⟨_, by simp only [List.getElem?_toArray, List.getElem?_map]; rw [List.getElem?_eq_getElem (by omega)]; rfl⟩
            obtain ⟨xm, hxm⟩ := hcy
            have hfm := blk_frozen HG2.out m
            have HM := Aside0.mk hm
            have HC3 := Aside0.mk c3
            clear c3 hm hln hc3 hq3 hn1 hn2
            go_wp2
            go_roundg (gk - 1)
            case measure => have := HK2.out; have := HC3.out; omega
            case rel => exact ⟨j + 1, by rw [show wrap64 ((j : Int) + 1) = ((j + 1 : Nat) : Int) from by have := HC3.out; have := HLN.out; unfold wrap64; omega], ⟨by have := HC3.out; omega⟩, ⟨by have := HK2.out; have := HC3.out; omega⟩, ⟨by
                refine blk_put HG2.out m _ ?_
                rw [← ent1_set a0_0 a0_1 a0_2 l0_3 j HC3.out HLN.out, List.setIfInBounds_toArray, List.map_set, HM.out]⟩, ⟨HB2.out.setCell (p := ⟨g, m, none⟩) HGW.out _⟩⟩
          · have c3b : decide (j < l0_3.length) = false := decide_eq_false c3
            obtain rfl : j = l0_3.length := by have := HI2.out; omega
            have hg := HG2.out
            have hl := ent1_length a0_0 a0_1 a0_2 l0_3 l0_3.length (Nat.le_refl _) HLN.out
            rw [ent1_end] at hg hl
            obtain ⟨x, hx, h⟩ := Option.bind_eq_some_iff.1 HH.out
            injection h with h
            injection h with h1 h2
            subst h1 h2
            have HSeal := sums_Seal.calls (some ⟨g, 0, none⟩) 60 _ x _ (Kd.C_below HT.out HB2.out) (C_block (ty := 84) (fr := (0, 0)) (entB a0_0 a0_1 a0_2 l0_3) hg rfl (by omega)) (by omega) hx
            rw [hl] at HSeal
            have HSe := Aside0.mk HSeal
            clear HSeal hx hg hl c3 HH hc3 hq3 hn1 hn2
            go_wp2_with (first | (go_at_call 31; refine HSe.out.mono ?_; rintro e w9 ⟨v9, rfl, ho9, hb9⟩))
            go_ret2
            exact ⟨v9, rfl, Kd.R_lower ho9 (below_size HB2.out), below_step HB2.out hb9⟩
end Go.Proofs.YtogapedacdnfcaaDoor.G
