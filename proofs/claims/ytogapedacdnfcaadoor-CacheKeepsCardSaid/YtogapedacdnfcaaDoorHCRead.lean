/- cache.Read, by hand. -/
import Derived.Test.YtogapedacdnfcaaDoorHCBytes
import Derived.Test.YtogapedacdnfcaaDoorHTy
namespace Go.Proofs.YtogapedacdnfcaaDoor.G
open Go.RowKit Go.Proofs.YtogapedacdnfcaaDoorW.PrintWords Go.Proofs.YtogapedacdnfcaaDoorW.PrintLast Go.Proofs.YtogapedacdnfcaaDoorW.PrintMore
set_option linter.unusedVariables false
set_option linter.unusedSimpArgs false

def keyF (k : Int) (b : Int) : Int := bits .or .u64 (IntKind.u64.wrap (k * 256)) (IntKind.u64.wrap b)
/-- What sixty bytes tell, as an entry. -/
def cRead (p : List Int) : Int × Int × Int × List Int × Int :=
  if 49 < rd p 10 then (0, 0, 0, [], 50)
  else if ((p.drop 11).drop (rd p 10).toNat).any (fun c => c != 0) = true then (0, 0, 0, [], 50)
  else if mayB (rd p 8 - 1) (rd p 9) (((p.drop 11).take (rd p 10).toNat).map (fun c => c - 1)) = true then (((p.take 8).foldl keyF 0), rd p 8 - 1, rd p 9, ((p.drop 11).take (rd p 10).toNat).map (fun c => c - 1), 0)
  else (0, 0, 0, [], 50)
def cache_Read.f (l0 : List Int) : Option (Int × Int × Int × List Int × Int) :=
  if l0.length = 64 then (sums_Open.f l0).bind fun x => if x.2 = 0 then (if x.1.length = 60 ∧ (∀ c ∈ x.1, 0 ≤ c ∧ c < 256) then some (cRead x.1) else none) else some (0, 0, 0, [], x.2) else some (0, 0, 0, [], 20)
/-- The levels that j of the bytes behind the head tell. -/
def lvj (p : List Int) (n j : Nat) : List Int := ((p.drop 11).take (min j n)).map (fun c => c - 1)
theorem lvj_lt (p : List Int) (n j : Nat) (hp : p.length = 60) (hj : j < 49) (h : j < n) : lvj p n (j + 1) = lvj p n j ++ [rd p ((11 + j : Nat) : Int) - 1] := by
  have hl : j < (p.drop 11).length := by rw [List.length_drop]; omega
  have hl2 : 11 + j < p.length := by omega
  rw [lvj, lvj, Nat.min_eq_left (by omega), Nat.min_eq_left (by omega), List.take_succ_eq_append_getElem hl, List.map_append, rd, Int.toNat_natCast]
  simp [hl2]
theorem lvj_ge (p : List Int) (n j : Nat) (h : ¬ j < n) : lvj p n (j + 1) = lvj p n j := by rw [lvj, lvj, Nat.min_eq_right (by omega), Nat.min_eq_right (by omega)]
/-- Is what lies behind them nought, so far? -/
def nul (p : List Int) (n j : Nat) : Bool := (((p.drop 11).take j).drop n).any (fun c => c != 0)
theorem nul_lt (p : List Int) (n j : Nat) (h : j ≤ n) : nul p n j = false := by
  rw [nul, List.drop_eq_nil_of_le (by rw [List.length_take]; omega)]; rfl
theorem nul_ge (p : List Int) (n j : Nat) (hp : p.length = 60) (hj : j < 49) (h : n ≤ j) : nul p n (j + 1) = (nul p n j || (rd p ((11 + j : Nat) : Int) != 0)) := by
  have hl : j < (p.drop 11).length := by rw [List.length_drop]; omega
  have hl2 : 11 + j < p.length := by omega
  rw [nul, nul, List.take_succ_eq_append_getElem hl, List.drop_append_of_le_length (by rw [List.length_take]; omega), List.any_append, rd, Int.toNat_natCast]
  simp [hl2]
theorem nul_up (p : List Int) (n j : Nat) (h : nul p n j = true) : ((p.drop 11).drop n).any (fun c => c != 0) = true := by
  rw [nul, List.any_eq_true] at h
  obtain ⟨x, hx, hne⟩ := h
  rw [List.any_eq_true]
  refine ⟨x, ?_, hne⟩
  rw [← List.take_append_drop j (p.drop 11), List.drop_append]
  exact List.mem_append_left _ hx
set_option maxHeartbeats 8000000 in
set_option maxRecDepth 100000 in
theorem cache_Read.calls (A0 : Option Addr) (c0 : Nat) (l0 : List Int) (r1 r2 r3 : Int) (r4 : List Int) (r5 : Int) (w : World) (hT : Tab w) (hr0 : Kd.C (Kd.int .u8) w A0 l0.length l0) (hc0 : l0.length ≤ c0) (h : cache_Read.f l0 = some (r1, r2, r3, r4, r5)) :
    Calls Tryd.prog 12 #[.slice A0 l0.length c0] w fun e w' => ∃ v0_ : Value, e = .returned (.tuple #[.agg #[.int .u64 r1, .int .i64 r2, .int .i64 r3, v0_], .int .i64 r5]) ∧ Kd.R (Kd.int .i64) 3 w' w.heap.size (fun _ => True) v0_ r4 ∧ Below w.heap.size w w' := by
  have HT := Aside0.mk hT
  have HR := Aside0.mk hr0
  clear hT hr0
  by_cases h6 : l0.length = 64
  rotate_left
  · rw [cache_Read.f, if_neg h6] at h
    injection h with h
    injection h with h1 h
    injection h with h2 h
    injection h with h3 h
    injection h with h4 h5
    subst h1 h2 h3 h4 h5
    have f1 : (((l0.length : Int)) == 64) = false := beq_eq_false_iff_ne.2 (by omega)
    have f2 : (((l0.length : Int)) != 64) = true := by rw [bne_iff_ne]; omega
    clear h6 hc0
    go_enter Tryd.func12, Tryd.ntmps12
    go_wp2
    refine bodyPost_ret (v := .tuple #[.agg #[.int .u64 0, .int .i64 0, .int .i64 0, .slice none 0 0], .int .i64 20]) (by simp [results, Tryd.results12, go_sem]) rfl ⟨_, rfl, Kd.R_nil _ _ _ _ _, below_alloc (Below.refl _ _) _⟩
  · rw [cache_Read.f, if_pos h6] at h
    obtain ⟨⟨p, e2⟩, hp, h⟩ := Option.bind_eq_some_iff.1 h
    simp only at h
    have HO := Aside0.mk (fun W hT hC => sums_Open.calls A0 c0 l0 p e2 W hT hC hc0 hp)
    rw [h6] at HO HR ⊢
    have f1 : (((64 : Nat) : Int) != 64) = false := rfl
    clear h6 hc0 hp
    by_cases he : e2 = 0
    rotate_left
    · rw [if_neg he] at h
      injection h with h
      injection h with h1 h
      injection h with h2 h
      injection h with h3 h
      injection h with h4 h5
      subst h1 h2 h3 h4 h5
      have f3 : (e2 == 0) = false := beq_eq_false_iff_ne.2 he
      have f4 : (e2 != 0) = true := by rw [bne_iff_ne]; exact he
      clear he
      go_enter Tryd.func12, Tryd.ntmps12
      go_wp2_with (first | (go_at_call 34; refine (HO.out _ (Kd.C_alloc HT.out _) (Kd.C_alloc HR.out _)).mono ?_; rintro e W1 ⟨v8, rfl, ho8, hb8⟩; refine of_halt ?_))
      unfold Halt
      obtain ⟨A8, c8, rfl⟩ := Kd.R_slice ho8
      have hbk := blk_below (blk_new w _) hb8
      obtain ⟨hc0, hc1, hc2, hc3, hz0, hz1, hz2, hz3⟩ := cells4 hbk
      have HBK := Aside0.mk hbk
      have HB1 := Aside0.mk (below_step (below_alloc (Below.refl w.heap.size w) _) hb8)
      clear hbk hb8 ho8
      go_wp2
      refine bodyPost_ret (results_list (rs := [.cell 2 25, .tmp 3]) rfl (by simp) (.cell w.heap.size 25 _ (0, 0) _ rfl (blk4 HBK.out _ _ _ _) Tryd.underlying25 rfl (by kernel_rfl) (.tmp .nil))) rfl ⟨_, rfl, Kd.R_nil _ _ _ _ _, below4 HB1.out (Nat.le_refl _) _ _ _ _⟩
    · subst he
      rw [if_pos rfl] at h
      by_cases hq : p.length = 60 ∧ ∀ c ∈ p, 0 ≤ c ∧ c < 256
      rotate_left
      · rw [if_neg hq] at h; exact absurd h (by simp)
      rw [if_pos hq] at h
      have HH := Aside0.mk h
      have HL := Aside0.mk hq.1
      have HBY := Aside0.mk hq.2
      clear h hq
      go_enter Tryd.func12, Tryd.ntmps12
      go_wp2_with (first | (go_at_call 34; refine (HO.out _ (Kd.C_alloc HT.out _) (Kd.C_alloc HR.out _)).mono ?_; rintro e W1 ⟨v8, rfl, ho8, hb8⟩; refine of_halt ?_))
      unfold Halt
      obtain ⟨A8, c8, rfl, hc8, hC8⟩ := Kd.R_reads ho8
      rw [HL.out] at hc8 hC8 ho8 ⊢
      obtain ⟨ad, rfl⟩ : ∃ ad, A8 = some ad := by
        obtain ⟨ad, e, _⟩ := Kd.at_int hC8 0 (by omega) (by omega)
        exact ⟨ad, e⟩
      have hbk := blk_below (blk_new w _) hb8
      have HBK := Aside0.mk hbk
      have HB1 := Aside0.mk (below_step (below_alloc (Below.refl w.heap.size w) _) hb8)
      have HO8 := Aside0.mk ho8
      have hS : ∀ W, Kd.C (Kd.int .u8) W (some ad) 60 p → ∀ j, j < 60 → W.cell? (ad.add j) = some (.int .u8 (rd p (j : Int))) := by
        intro W hC j hj
        obtain ⟨ad', e, hx⟩ := Kd.at_int hC (j : Int) (by omega) (by have := HL.out; omega)
        injection e with e
        subst e
        rw [Int.toNat_natCast] at hx
        exact hx
      have hS2 : ∀ W, Kd.C (Kd.int .u8) W (some ad) 60 p → W.cell? ⟨ad.block, ad.off + 8, none⟩ = some (.int .u8 (rd p 8)) ∧ W.cell? ⟨ad.block, ad.off + 9, none⟩ = some (.int .u8 (rd p 9)) := by
        intro W hC
        have h0 := hS W hC 8 (by omega)
        have h1 := hS W hC 9 (by omega)
        simp only [Addr.add, Nat.reduceEqDiff, if_false, if_true] at h0 h1 ⊢
        exact ⟨h0, h1⟩
      have HS2 := Aside0.mk hS2
      have HSS := Aside0.mk hS
      have HC8 := Aside0.mk hC8
      clear hS2 hS hC8 ho8 hb8 hbk HO
      go_upto_region 6 with (fail)
      refine start_ (n := 12) (S := fun w' => w'.cell? ⟨ad.block, ad.off + 8, none⟩ = some (.int .u8 (rd p 8)) ∧ w'.cell? ⟨ad.block, ad.off + 9, none⟩ = some (.int .u8 (rd p 9))) (ds := []) #[false, false, false, false, false, false, false, false, false, false, false, false] (by kernel_rfl) rfl rfl ⟨(HS2.out _ (Kd.C_drew HC8.out)).1, (HS2.out _ (Kd.C_drew HC8.out)).2⟩ (fun hHeld => ?_)
      refine pure_ (i := 0) (N := some 25) (v := ?_) (a' := ?_) #[true, false, false, false, false, false, false, false, false, false, false, false] rfl rfl (by kernel_rfl) (fun _ _ _ h => h) (Or.inl ⟨by rfl, ?_⟩) ?_ ?_
      rotate_left
      · intro w'
        go_simp
        with_reducible rfl
      rotate_left
      · simp only [Act.put, List.setIfInBounds_toArray, List.set_cons_zero, List.set_cons_succ, i64_w, i32_w]
        rfl
      refine pure_ (i := 1) (N := some 26) (v := ?_) (a' := ?_) #[true, true, false, false, false, false, false, false, false, false, false, false] rfl rfl (by kernel_rfl) (fun _ _ _ h => h) (Or.inl ⟨by rfl, ?_⟩) ?_ ?_
      rotate_left
      · intro w'
        go_simp
        with_reducible rfl
      rotate_left
      · simp only [Act.put, List.setIfInBounds_toArray, List.set_cons_zero, List.set_cons_succ, i64_w, i32_w]
        rfl
      refine pure_ (i := 5) (N := some 30) (v := ?_) (a' := ?_) #[true, true, false, false, false, true, false, false, false, false, false, false] rfl rfl (by kernel_rfl) (fun _ _ _ h => h) (Or.inl ⟨by rfl, ?_⟩) ?_ ?_
      rotate_left
      · intro w'
        go_simp
        with_reducible rfl
      rotate_left
      · simp only [Act.put, List.setIfInBounds_toArray, List.set_cons_zero, List.set_cons_succ, i64_w, i32_w]
        rfl
      refine pure_ (i := 6) (N := some 31) (v := ?_) (a' := ?_) #[true, true, false, false, false, true, true, false, false, false, false, false] rfl rfl (by kernel_rfl) (fun _ _ _ h => h) (Or.inl ⟨by rfl, ?_⟩) ?_ ?_
      rotate_left
      · intro w'
        go_simp
        with_reducible rfl
      rotate_left
      · simp only [Act.put, List.setIfInBounds_toArray, List.set_cons_zero, List.set_cons_succ, i64_w, i32_w]
        rfl
      refine take_ (i := 2) (N := some 27) (v := ?_) (a' := ?_) #[true, true, true, false, false, true, true, false, false, false, false, false] rfl rfl (by kernel_rfl) (fun _ _ _ h => h) (Or.inl ⟨by rfl, ?_⟩) hHeld ?_ ?_
      rotate_left
      · rintro w' ⟨s0, s1⟩
        go_simp
        with_reducible rfl
      rotate_left
      · simp only [Act.put, List.setIfInBounds_toArray, List.set_cons_zero, List.set_cons_succ, i64_w, i32_w]
        rfl
      refine take_ (i := 3) (N := some 28) (v := ?_) (a' := ?_) #[true, true, true, true, false, true, true, false, false, false, false, false] rfl rfl (by kernel_rfl) (fun _ _ _ h => h) (Or.inl ⟨by rfl, ?_⟩) hHeld ?_ ?_
      rotate_left
      · rintro w' ⟨s0, s1⟩
        go_simp
        with_reducible rfl
      rotate_left
      · simp only [Act.put, List.setIfInBounds_toArray, List.set_cons_zero, List.set_cons_succ, i64_w, i32_w]
        rfl
      refine pure_ (i := 4) (N := some 29) (v := ?_) (a' := ?_) #[true, true, true, true, true, true, true, false, false, false, false, false] rfl rfl (by kernel_rfl) (fun _ _ _ h => h) (Or.inl ⟨by rfl, ?_⟩) ?_ ?_
      rotate_left
      · intro w'
        go_simp
        with_reducible rfl
      rotate_left
      · simp only [Act.put, List.setIfInBounds_toArray, List.set_cons_zero, List.set_cons_succ, i64_w, i32_w]
        rfl
      refine take_ (i := 7) (N := some 32) (v := ?_) (a' := ?_) #[true, true, true, true, true, true, true, true, false, false, false, false] rfl rfl (by kernel_rfl) (fun _ _ _ h => h) (Or.inl ⟨by rfl, ?_⟩) hHeld ?_ ?_
      rotate_left
      · rintro w' ⟨s0, s1⟩
        go_simp
        with_reducible rfl
      rotate_left
      · simp only [Act.put, List.setIfInBounds_toArray, List.set_cons_zero, List.set_cons_succ, i64_w, i32_w]
        rfl
      refine take_ (i := 8) (N := some 33) (v := ?_) (a' := ?_) #[true, true, true, true, true, true, true, true, true, false, false, false] rfl rfl (by kernel_rfl) (fun _ _ _ h => h) (Or.inl ⟨by rfl, ?_⟩) hHeld ?_ ?_
      rotate_left
      · rintro w' ⟨s0, s1⟩
        go_simp
        with_reducible rfl
      rotate_left
      · simp only [Act.put, List.setIfInBounds_toArray, List.set_cons_zero, List.set_cons_succ, i64_w, i32_w]
        rfl
      refine pure_ (i := 9) (N := some 34) (v := ?_) (a' := ?_) #[true, true, true, true, true, true, true, true, true, true, false, false] rfl rfl (by kernel_rfl) (fun _ _ _ h => h) (Or.inl ⟨by rfl, ?_⟩) ?_ ?_
      rotate_left
      · intro w'
        go_simp
        with_reducible rfl
      rotate_left
      · simp only [Act.put, List.setIfInBounds_toArray, List.set_cons_zero, List.set_cons_succ, i64_w, i32_w]
        rfl
      refine one_ (i := 10) (N := some 6) #[true, true, true, true, true, true, true, true, true, true, true, false] rfl rfl (by kernel_rfl) (by decide) (fun K hK => ?_)
      refine value_ (w1 := ?_) (v := ?_) (by rfl) rfl ?_ ?_
      rotate_left 2
      · go_simp
        constructor
        · rfl
        · rfl
      refine hK.out _ _ ⟨(HS2.out _ (Kd.C_alloc (Kd.C_drew HC8.out) _)).1, (HS2.out _ (Kd.C_alloc (Kd.C_drew HC8.out) _)).2⟩ (fun hHeld => ?_)
      clear hK K
      refine norm_ (a' := ?_) ?_ ?_
      rotate_left
      · show Act.put _ (some 6) _ = _
        simp only [Act.put, List.setIfInBounds_toArray, List.set_cons_zero, List.set_cons_succ, i64_w, i32_w]
        rfl
      refine one_ (i := 11) (N := none) #[true, true, true, true, true, true, true, true, true, true, true, true] rfl rfl (by kernel_rfl) (by decide) (fun K hK => ?_)
      refine skip_ (w1 := ?_) (by rfl) rfl ?_ ?_
      rotate_left
      · go_simp
        rfl
      refine hK.out _ _ ⟨(HS2.out _ (Kd.C_alloc (Kd.C_drew HC8.out) _)).1, (HS2.out _ (Kd.C_alloc (Kd.C_drew HC8.out) _)).2⟩ (fun hHeld => ?_)
      clear hK K
      refine done_ (by kernel_rfl) ?_
      have e8 : wrap64 (rd p 8) = rd p 8 := by
        have := HBY.out (rd p 8) (by simp only [rd]; rw [show (8 : Int).toNat = 8 from rfl, List.getD_eq_getElem?_getD, List.getElem?_eq_getElem (by have := HL.out; omega)]; exact List.getElem_mem _)
        unfold wrap64; omega
      have e9 : wrap64 (rd p 9) = rd p 9 := by
        have := HBY.out (rd p 9) (by simp only [rd]; rw [show (9 : Int).toNat = 9 from rfl, List.getD_eq_getElem?_getD, List.getElem?_eq_getElem (by have := HL.out; omega)]; exact List.getElem_mem _)
        unfold wrap64; omega
      have e8b : wrap64 (rd p 8 - 1) = rd p 8 - 1 := by
        have := HBY.out (rd p 8) (by simp only [rd]; rw [show (8 : Int).toNat = 8 from rfl, List.getD_eq_getElem?_getD, List.getElem?_eq_getElem (by have := HL.out; omega)]; exact List.getElem_mem _)
        unfold wrap64; omega
      simp only [e8, e8b, e9]
      clear e8 e8b e9
      have HR2 := Aside0.mk (Kd.R_drew (Kd.R_alloc HO8.out (Obj.cells #[.int .u64 0, .int .i64 (rd p 8 - 1), .int .i64 (rd p 9), .slice none 0 0] 25)))
      have HX2 := Aside0.mk (blk_drew (blk_new W1 (Obj.cells #[.int .u64 0, .int .i64 (rd p 8 - 1), .int .i64 (rd p 9), .slice none 0 0] 25)))
      have HG2 := Aside0.mk (blk_drew (blk_alloc HBK.out (Obj.cells #[.int .u64 0, .int .i64 (rd p 8 - 1), .int .i64 (rd p 9), .slice none 0 0] 25)))
      have HB2 := Aside0.mk (below_drew1 (below_alloc HB1.out (Obj.cells #[.int .u64 0, .int .i64 (rd p 8 - 1), .int .i64 (rd p 9), .slice none 0 0] 25)))
      have HGX := Aside0.mk HB1.out.size
      have hlt : w.heap.size < W1.heap.size := blk_lt HBK.out
      have HLT := Aside0.mk hlt
      clear hlt HB1 HBK HO8 HC8
      generalize hw2 : (W1.alloc (Obj.cells #[.int .u64 0, .int .i64 (rd p 8 - 1), .int .i64 (rd p 9), .slice none 0 0] 25)).drew = W2 at *
      clear hw2
      generalize W1.heap.size = gx at *
      have hc8a : (8 ≤ c8) = True := eq_true (by omega)
      have hc8b : ((8 : Int) ≤ (c8 : Int)) = True := eq_true (by omega)
      go_wp2
      go_loopg [8, 38] 9 (fun kq v8 v38 w' => ∃ i : Nat, v38 = .int .i64 (i : Int) ∧ Aside0 (i ≤ 8) ∧ Aside0 (kq + i = 9) ∧ Aside0 (w'.heap[gx]? = some (.cells #[.int .u64 ((p.take i).foldl keyF 0), .int .i64 (rd p 8 - 1), .int .i64 (rd p 9), .slice none 0 0] 25 (0, 0))) ∧ Aside0 (w'.heap[w.heap.size]? = some (.cells #[.int .u64 0, .int .i64 0, .int .i64 0, .slice none 0 0] 25 (0, 0))) ∧ Aside0 (Kd.R (Kd.int .u8) 5 w' w.heap.size (fun _ => True) (.slice (some ad) 60 c8) p) ∧ Aside0 (Below w.heap.size w w'))
      case atStart => exact ⟨0, rfl, ⟨by omega⟩, ⟨rfl⟩, HX2, HG2, ⟨Kd.R_lower HR2.out (by simp)⟩, HB2⟩
      case round =>
        clear HX2 HG2 HR2 HB2
        obtain ⟨i, rfl, HI, HK, HX, HG, HRR, HB⟩ := hrel
        by_cases c2 : i < 8
        · have c2b : decide (i < 8) = true := decide_eq_true c2
          have c2c : decide ((i : Int) < 8) = true := decide_eq_true (by omega)
          have hx := HSS.out _ (by have := (Kd.R_reads' HRR.out).2.2; rw [HL.out] at this; exact this) i (by omega)
          have p1 : ((i : Int) < 8) = True := eq_true (by omega)
          have p2 : (i < 8) = True := eq_true (by omega)
          obtain ⟨hc0, hc1, hc2, hc3, hz0, hz1, hz2, hz3⟩ := cells4 HX.out
          have HC2 := Aside0.mk c2
          clear c2
          go_wp2
          go_roundg (gk - 1)
          case measure => have := HK.out; have := HC2.out; omega
          case rel => exact ⟨i + 1, by rw [show wrap64 ((i : Int) + 1) = ((i + 1 : Nat) : Int) from by have := HC2.out; unfold wrap64; omega], ⟨by have := HC2.out; omega⟩, ⟨by have := HK.out; have := HC2.out; omega⟩, ⟨by
              refine blk_put HX.out 0 _ ?_
              have hs : p.take (i + 1) = p.take i ++ [rd p (i : Int)] := by
                have hl : i < p.length := by have := HL.out; have := HC2.out; omega
                rw [List.take_succ_eq_append_getElem hl]; simp [rd, hl]
              rw [hs, List.foldl_append]
              rfl⟩, ⟨blk_far HG.out (by show w.heap.size ≠ gx; have := HLT.out; omega) _⟩, ⟨Kd.R_set HRR.out HX.out (by decide) 0 _⟩, ⟨below_set HB.out HGX.out⟩⟩
        · have c2b : decide (i < 8) = false := decide_eq_false c2
          have c2c : decide ((i : Int) < 8) = false := decide_eq_false (by omega)
          obtain rfl : i = 8 := by have := HI.out; omega
          clear c2
          have hC := (Kd.R_reads' HRR.out).2.2
          rw [HL.out] at hC
          have hx10 := HSS.out _ hC 10 (by omega)
          simp only [Addr.add, Nat.reduceEqDiff, if_false, if_true] at hx10
          obtain ⟨n, hn⟩ : ∃ n : Nat, rd p 10 = (n : Int) := by
            have := HBY.out (rd p 10) (by simp only [rd]; rw [show (10 : Int).toNat = 10 from rfl, List.getD_eq_getElem?_getD, List.getElem?_eq_getElem (by have := HL.out; omega)]; exact List.getElem_mem _)
            exact ⟨(rd p 10).toNat, by omega⟩
          have hnb : n < 256 := by
            have := HBY.out (rd p 10) (by simp only [rd]; rw [show (10 : Int).toNat = 10 from rfl, List.getD_eq_getElem?_getD, List.getElem?_eq_getElem (by have := HL.out; omega)]; exact List.getElem_mem _)
            omega
          have e10 : rd p ((10 : Nat) : Int) = (n : Int) := hn
          rw [e10] at hx10
          have HN := Aside0.mk hn
          have ew : wrap64 ((n : Int)) = (n : Int) := by unfold wrap64; omega
          obtain ⟨hc0, hc1, hc2, hc3, hz0, hz1, hz2, hz3⟩ := cells4 HG.out
          clear hn hC e10
          by_cases c49 : 49 < n
          · have b49 : decide ((49 : Int) < (n : Int)) = true := decide_eq_true (by omega)
            have h49 : (49 : Int) < rd p 10 := by rw [HN.out]; omega
            have hh := HH.out
            rw [cRead, if_pos h49] at hh
            injection hh with hh
            injection hh with h1 hh
            injection hh with h2 hh
            injection hh with h3 hh
            injection hh with h4 h5
            subst h1 h2 h3 h4 h5
            clear c49 h49
            go_wp2
            refine bodyPost_ret (results_list (rs := [.cell 2 25, .tmp 3]) rfl (by simp) (.cell w.heap.size 25 _ (0, 0) _ rfl (blk4 HG.out _ _ _ _) Tryd.underlying25 rfl (by kernel_rfl) (.tmp .nil))) rfl ⟨_, rfl, Kd.R_nil _ _ _ _ _, below4 HB.out (Nat.le_refl _) _ _ _ _⟩
          · have b49 : decide ((49 : Int) < (n : Int)) = false := decide_eq_false (by omega)
            have HN49 := Aside0.mk (show n ≤ 49 by omega)
            clear c49
            have hc8c : (11 ≤ c8) = True := eq_true (by omega)
            have hc8d : ((11 : Int) ≤ (c8 : Int)) = True := eq_true (by omega)
            have hc8e : (c8 = 11) = False := eq_false (by omega)
            clear hc0 hc1 hc2 hc3 hz0 hz1 hz2 hz3
            go_wp2
            have info3 : (Tryd.prog.info? 3).map (fun i => (i.zero, i.size, i.bytes)) = some (some (.int .i64 0), 1, 8) := by kernel_rfl
            go_loopg [3, 10, 11, 60] 50 (fun kq v3 v10 v11 v60 w' => ∃ (j : Nat) (yv : Value), v60 = .int .i64 (j : Int) ∧ Aside0 (j ≤ 49) ∧ Aside0 (kq + j = 50) ∧ Aside0 (nul p n j = false) ∧ Aside0 (w'.heap[gx]? = some (.cells #[.int .u64 ((p.take 8).foldl keyF 0), .int .i64 (rd p 8 - 1), .int .i64 (rd p 9), yv] 25 (0, 0))) ∧ Aside0 (w'.heap[w.heap.size]? = some (.cells #[.int .u64 0, .int .i64 0, .int .i64 0, .slice none 0 0] 25 (0, 0))) ∧ Aside0 (Kd.R (Kd.int .u8) 5 w' w.heap.size (fun _ => True) (.slice (some ad) 60 c8) p) ∧ Aside0 (Kd.R (Kd.int .i64) 3 w' w.heap.size (fun _ => True) yv (lvj p n j)) ∧ Aside0 (Below w.heap.size w w'))
            case atStart => exact ⟨0, _, rfl, ⟨by omega⟩, ⟨rfl⟩, ⟨nul_lt p n 0 (Nat.zero_le _)⟩, HX, HG, HRR, ⟨Kd.R_nil _ _ _ _ _⟩, HB⟩
            case round =>
              clear HX HG HRR HB HI HK
              obtain ⟨j, yv, rfl, HI, HK, HZ, HX, HG, HRR, HY, HB⟩ := hrel
              by_cases c3 : j < 49
              · have c3b : decide (j < 49) = true := decide_eq_true c3
                have c3c : decide ((j : Int) < 49) = true := decide_eq_true (by omega)
                have hx := HSS.out _ (by have := (Kd.R_reads' HRR.out).2.2; rw [HL.out] at this; exact this) (11 + j) (by omega)
                rw [← Addr.add_add, show ad.add 11 = ⟨ad.block, ad.off + 11, none⟩ from rfl, show ((⟨ad.block, ad.off + 11, none⟩ : Addr).add j) = ⟨ad.block, ad.off + 11 + j, none⟩ by cases j <;> simp [Addr.add]] at hx
                have hby := HBY.out (rd p ((11 + j : Nat) : Int)) (by simp only [rd, Int.toNat_natCast]; rw [List.getD_eq_getElem?_getD, List.getElem?_eq_getElem (by have := HL.out; omega)]; exact List.getElem_mem _)
                obtain ⟨x, hxx⟩ : ∃ x, x = rd p ((11 + j : Nat) : Int) := ⟨_, rfl⟩
                rw [← hxx] at hx hby
                have HXX := Aside0.mk hxx
                have p1 : ((j : Int) < 49) = True := eq_true (by omega)
                have p2 : (j < 49) = True := eq_true (by omega)
                have HC3 := Aside0.mk c3
                clear c3 hxx
                by_cases c4 : j < n
                · have c4b : decide (j < n) = true := decide_eq_true c4
                  have e5 : wrap64 x = x := by unfold wrap64; omega
                  have e6 : wrap64 (x - 1) = x - 1 := by unfold wrap64; omega
                  have HC4 := Aside0.mk c4
                  obtain ⟨hc0, hc1, hc2, hc3, hz0, hz1, hz2, hz3⟩ := cells4 HX.out
                  have HYL := Aside0.mk (show (lvj p n j).length ≤ 49 by rw [lvj, List.length_map, List.length_take]; have := HI.out; omega)
                  clear c4 hby
                  go_wp2_with (first | ((with_reducible refine gate_builtin (b := .append) (xs := #[.tmp 69, .tmp 73]) rfl ?_); at_builtin; refine of_halt ?_))
                  unfold Halt
                  refine Kd.R_append (Kd.int .i64) (w0 := w) w.heap.size rfl (.tmp 69) (.tmp 73) 23 3 (.int .i64 0) 8 rfl Tryd.underlying23 info3 rfl (by decide) (by omega) yv (lvj p n j) (x - 1) [.int .i64 (x - 1)] (fun _ => True) (fun _ => False) rfl rfl rfl (fun _ hk => hk.elim) (fun _ _ => trivial) HY.out HB.out HB.out.size (by have := HYL.out; omega) ?_
                  intro v7 w7 ho7 hb7 hg7 hat7
                  obtain ⟨A7, c7, rfl⟩ := Kd.R_slice ho7
                  generalize hll : (lvj p n j ++ [x - 1]).length = L7 at *
                  rw [HXX.out, ← lvj_lt p n j HL.out HC3.out HC4.out] at ho7
                  clear hll
                  have HX7 := Aside0.mk (blk_grown_ty HX.out HY.out hg7 (by decide))
                  have HG7 := Aside0.mk (blk_grown_ty HG.out HY.out hg7 (by decide))
                  have HR7 := Aside0.mk (R_grown_ty HRR.out hg7 (own_ty HY.out) (by decide))
                  have HY7 := Aside0.mk ho7
                  have HB7 := Aside0.mk hb7
                  obtain ⟨hd0, hd1, hd2, hd3, hy0, hy1, hy2, hy3⟩ := cells4 HX7.out
                  clear ho7 hb7 hg7 hat7 hc0 hc1 hc2 hc3 hz0 hz1 hz2 hz3 hx
                  go_wp2
                  go_roundg (gk - 1)
                  case measure => have := HK.out; have := HC3.out; omega
                  case rel => exact ⟨j + 1, _, by rw [show wrap64 ((j : Int) + 1) = ((j + 1 : Nat) : Int) from by have := HC3.out; unfold wrap64; omega], ⟨by have := HC3.out; omega⟩, ⟨by have := HK.out; have := HC3.out; omega⟩, ⟨nul_lt p n (j + 1) (by have := HC4.out; omega)⟩, ⟨blk_put HX7.out 3 _ rfl⟩, ⟨blk_far HG7.out (by show w.heap.size ≠ gx; have := HLT.out; omega) _⟩, ⟨Kd.R_set HR7.out HX7.out (by decide) 3 _⟩, ⟨Kd.R_set HY7.out HX7.out (by decide) 3 _⟩, ⟨below_set HB7.out HGX.out⟩⟩
                · have c4b : decide (j < n) = false := decide_eq_false c4
                  have HC4 := Aside0.mk (show n ≤ j by omega)
                  clear c4
                  have hnu := nul_ge p n j HL.out HC3.out HC4.out
                  rw [HZ.out, ← HXX.out, Bool.false_or] at hnu
                  by_cases c5 : x = 0
                  · have b5 : (x != 0) = false := by rw [c5]; rfl
                    have b5b : (x == 0) = true := by rw [c5]; rfl
                    rw [b5] at hnu
                    have HNU := Aside0.mk hnu
                    clear c5 hnu
                    go_wp2
                    go_roundg (gk - 1)
                    case measure => have := HK.out; have := HC3.out; omega
                    case rel => exact ⟨j + 1, yv, by rw [show wrap64 ((j : Int) + 1) = ((j + 1 : Nat) : Int) from by have := HC3.out; unfold wrap64; omega], ⟨by have := HC3.out; omega⟩, ⟨by have := HK.out; have := HC3.out; omega⟩, HNU, HX, HG, HRR, ⟨by rw [lvj_ge p n j (by have := HC4.out; omega)]; exact HY.out⟩, HB⟩
                  · have b5 : (x != 0) = true := by rw [bne_iff_ne]; exact c5
                    have b5b : (x == 0) = false := beq_eq_false_iff_ne.2 c5
                    rw [b5] at hnu
                    have hup := nul_up p n (j + 1) hnu
                    have hh := HH.out
                    rw [cRead, if_neg (by rw [HN.out]; have := HN49.out; omega), HN.out, Int.toNat_natCast, if_pos hup] at hh
                    injection hh with hh
                    injection hh with h1 hh
                    injection hh with h2 hh
                    injection hh with h3 hh
                    injection hh with h4 h5
                    subst h1 h2 h3 h4 h5
                    obtain ⟨hc0, hc1, hc2, hc3, hz0, hz1, hz2, hz3⟩ := cells4 HG.out
                    clear c5 hnu hup
                    go_wp2
                    refine bodyPost_ret (results_list (rs := [.cell 2 25, .tmp 3]) rfl (by simp) (.cell w.heap.size 25 _ (0, 0) _ rfl (blk4 HG.out _ _ _ _) Tryd.underlying25 rfl (by kernel_rfl) (.tmp .nil))) rfl ⟨_, rfl, Kd.R_nil _ _ _ _ _, below4 HB.out (Nat.le_refl _) _ _ _ _⟩
              · have c3b : decide (j < 49) = false := decide_eq_false c3
                have c3c : decide ((j : Int) < 49) = false := decide_eq_false (by omega)
                obtain rfl : j = 49 := by have := HI.out; omega
                clear c3
                have hnn : ((p.drop 11).drop n).any (fun c => c != 0) = false := by
                  have := HZ.out
                  rw [nul, List.take_of_length_le (by rw [List.length_drop]; have := HL.out; omega)] at this
                  exact this
                have hlv : lvj p n 49 = ((p.drop 11).take n).map (fun c => c - 1) := by rw [lvj, Nat.min_eq_right HN49.out]
                have hh := HH.out
                rw [cRead, if_neg (by rw [HN.out]; have := HN49.out; omega), HN.out, Int.toNat_natCast, if_neg (by rw [hnn]; simp), ← hlv] at hh
                have HH2 := Aside0.mk hh
                have HYR := Aside0.mk HY.out
                obtain ⟨Ay, cy, hyv, hcy, hCy⟩ := Kd.R_reads HY.out
                rw [hyv] at HX HY
                obtain ⟨hc0, hc1, hc2, hc3, hz0, hz1, hz2, hz3⟩ := cells4 HX.out
                obtain ⟨hd0, hd1, hd2, hd3, hy0, hy1, hy2, hy3⟩ := cells4 HG.out
                have HMay := Aside0.mk (fun W hC => cache_Entry_may.calls ((p.take 8).foldl keyF 0) (rd p 8 - 1) (rd p 9) Ay cy (lvj p n 49) (mayB (rd p 8 - 1) (rd p 9) (lvj p n 49)) W hC hcy rfl)
                have HCY := Aside0.mk hCy
                clear hh hnn hlv hyv hcy hCy
                by_cases hm : mayB (rd p 8 - 1) (rd p 9) (lvj p n 49) = true
                · rw [hm] at HMay
                  have hh := HH2.out
                  rw [if_pos hm] at hh
                  clear hm
                  go_wp2_with (first | (go_at_call 30; refine (HMay.out _ HCY.out).mono ?_; rintro e w4 ⟨rfl, hb4⟩; refine of_halt ?_))
                  unfold Halt
                  have HX4 := blk_below HX.out hb4
                  have HG4 := blk_below HG.out hb4
                  obtain ⟨he0, he1, he2, he3, hw0, hw1, hw2, hw3⟩ := cells4 HX4
                  obtain ⟨hf0, hf1, hf2, hf3, hv0, hv1, hv2, hv3⟩ := cells4 HG4
                  have HX5 := Aside0.mk HX4
                  have HG5 := Aside0.mk HG4
                  have HB5 := Aside0.mk (below_step HB.out hb4)
                  have HY5 := Aside0.mk (Kd.R_below HY.out hb4)
                  injection hh with hh
                  injection hh with h1 hh
                  injection hh with h2 hh
                  injection hh with h3 hh
                  injection hh with h4 h5
                  subst h1 h2 h3 h4 h5
                  clear HX4 HG4 hb4 hc0 hc1 hc2 hc3 hz0 hz1 hz2 hz3 hd0 hd1 hd2 hd3 hy0 hy1 hy2 hy3
                  go_wp2
                  refine bodyPost_ret (results_list (rs := [.cell 2 25, .tmp 3]) rfl (by simp) (.cell w.heap.size 25 _ (0, 0) _ rfl (blk4 HG5.out _ _ _ _) Tryd.underlying25 rfl (by kernel_rfl) (.tmp .nil))) rfl ⟨_, rfl, ?_, below4 HB5.out (Nat.le_refl _) _ _ _ _⟩
                  exact R_set4 HY5.out HG5.out (by decide) _ _ _ _
                · rw [Bool.eq_false_iff.2 hm] at HMay
                  have hh := HH2.out
                  rw [if_neg hm] at hh
                  clear hm
                  go_wp2_with (first | (go_at_call 30; refine (HMay.out _ HCY.out).mono ?_; rintro e w4 ⟨rfl, hb4⟩; refine of_halt ?_))
                  unfold Halt
                  have HG4 := blk_below HG.out hb4
                  obtain ⟨hf0, hf1, hf2, hf3, hv0, hv1, hv2, hv3⟩ := cells4 HG4
                  have HG5 := Aside0.mk HG4
                  have HB5 := Aside0.mk (below_step HB.out hb4)
                  injection hh with hh
                  injection hh with h1 hh
                  injection hh with h2 hh
                  injection hh with h3 hh
                  injection hh with h4 h5
                  subst h1 h2 h3 h4 h5
                  clear HG4 hb4 hc0 hc1 hc2 hc3 hz0 hz1 hz2 hz3 hd0 hd1 hd2 hd3 hy0 hy1 hy2 hy3
                  go_wp2
                  refine bodyPost_ret (results_list (rs := [.cell 2 25, .tmp 3]) rfl (by simp) (.cell w.heap.size 25 _ (0, 0) _ rfl (blk4 HG5.out _ _ _ _) Tryd.underlying25 rfl (by kernel_rfl) (.tmp .nil))) rfl ⟨_, rfl, Kd.R_nil _ _ _ _ _, below4 HB5.out (Nat.le_refl _) _ _ _ _⟩
end Go.Proofs.YtogapedacdnfcaaDoor.G
