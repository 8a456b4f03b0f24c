/- The law ChunkOrder, walked by hand. -/
import Derived.Test.YtkocgfcoebodkaaDoorOrderT
namespace Go.Proofs.YtkocgfcoebodkaaDoor.X
open Go.RowKit Go.Proofs.YtkocgfcoebodkaaDoorW.PrintWords Go.Proofs.YtkocgfcoebodkaaDoorW.PrintLast Go.Proofs.YtkocgfcoebodkaaDoorW.PrintMore Go.Proofs.YtkocgfcoebodkaaDoor.G Go.Proofs.YtkocgfcoebodkaaDoor.T Go.Proofs.YtkocgfcoebodkaaDoor.C
set_option linter.unusedVariables false
set_option linter.unusedSimpArgs false

def colophonlaw20_ChunkOrder.Pure : Prop := (∃ k, colophonlaw20_works.f k = some true) ∧ ∀ (l : List (List Int)) (t size : Int), l.length < 4611686018427387904 → ∃ k, chunk_Join.f k l t size = some (JN l t size)
theorem w64nO (n : Nat) (h : n < 9223372036854775808) : wrap64 (n : Int) = (n : Int) := by unfold wrap64; omega
theorem wrap64uO (n : Int) : IntKind.u64.wrap n = n % 18446744073709551616 := by simp [IntKind.wrap, IntKind.bits, IntKind.signed]
theorem u64nO (n : Nat) (h : n < 9223372036854775808) : IntKind.u64.wrap (n : Int) = (n : Int) := by rw [wrap64uO]; omega
theorem placeO (a : Int) (n : Nat) (h0 : 0 < n) (h1 : n < 9223372036854775808) : ∃ k : Nat, k < n ∧ wrap64 (Int.tmod (IntKind.u64.wrap a) (n : Int)) = (k : Int) := by
  have hu : 0 ≤ IntKind.u64.wrap a := by rw [wrap64uO]; omega
  generalize IntKind.u64.wrap a = b at hu
  have h2 := Int.tmod_nonneg (n : Int) hu
  have h3 := Int.tmod_lt_of_pos b (show (0 : Int) < (n : Int) by omega)
  generalize Int.tmod b (n : Int) = c at h2 h3
  refine ⟨c.toNat, by omega, ?_⟩
  unfold wrap64
  omega
theorem lt_of_someO {w : World} {k : Nat} {o : Obj} (h : w.heap[k]? = some o) : k < w.heap.size := (Array.getElem?_eq_some_iff.1 h).1
/-- Two rows changed about. -/
theorem R_swap {α : Type} {d : Kd (List α)} {q : Nat} {D : Kd α} (hd : d = Kd.slice q D) {e base g n cap : Nat} {W : World} {xs : List (List α)} (h : d.R e W base (fun _ => True) (.slice (some ⟨g, 0, none⟩) n cap) xs) (i k : Nat) (hi : i < n) (hk : k < n) :
    ∃ vi vk : Value, (∃ A n c, vi = .slice A n c) ∧ (∃ A n c, vk = .slice A n c) ∧ W.cell? ⟨g, i, none⟩ = some vi ∧ W.cell? ⟨g, k, none⟩ = some vk ∧ W.frozen? ⟨g, i, none⟩ = false ∧ W.frozen? ⟨g, k, none⟩ = false ∧
      d.R e ((W.setCell ⟨g, i, none⟩ vk).setCell ⟨g, k, none⟩ vi) base (fun _ => True) (.slice (some ⟨g, 0, none⟩) n cap) ((xs.set i (xs.getD k [])).set k (xs.getD i [])) := by
  subst hd
  obtain ⟨ci, hci, hMi, hcci, hfi⟩ := Kd.R_elem h ([] : List α) (i : Int) (by omega) (by omega)
  obtain ⟨ck, hck, hMk, hcck, hfk⟩ := Kd.R_elem h ([] : List α) (k : Int) (by omega) (by omega)
  rw [Int.toNat_natCast] at hMi hcci hfi hMk hcck hfk
  have h1 : (Kd.slice q D).sz = 1 := rfl
  obtain ⟨vi, rfl⟩ : ∃ v, ci = [v] := List.length_eq_one_iff.1 hci
  obtain ⟨vk, rfl⟩ : ∃ v, ck = [v] := List.length_eq_one_iff.1 hck
  have form : ∀ {v : Value} {x : List α}, (Kd.slice q D).M W base (fun k => True ∧ k ≠ g) x [v] → ∃ A n c, v = .slice A n c := fun {v x} hM => by
    obtain ⟨u, eu, hRu⟩ := hM
    obtain ⟨A, c, e⟩ := Kd.R_slice hRu
    exact ⟨A, _, c, by injection eu with eu; rw [eu, e]⟩
  have ffi := form hMi
  have ffk := form hMk
  obtain ⟨hR1, hg1⟩ := Kd.R_seg h (i : Int) (by omega) (by omega) (c := [vi]) (seg := [vk]) (j := 0) (okp := fun k => True ∧ k ≠ g) (x' := xs.getD k []) hci (by rw [Int.toNat_natCast]; exact hcci) (by rw [h1]; simp) hMk (fun k hk => hk)
  rw [Int.toNat_natCast] at hR1 hg1
  have hs : ∀ (W : World) (m : Nat) (v : Value), W.setCells g (m * (Kd.slice q D).sz + 0) [v] = W.setCell ⟨g, m, none⟩ v := fun W m v => by
    rw [h1, Nat.mul_one, Nat.add_zero]; rfl
  rw [hs] at hR1 hg1
  obtain ⟨cj, hcj, _, hccj, _⟩ := Kd.R_elem hR1 ([] : List α) (k : Int) (by omega) (by omega)
  rw [Int.toNat_natCast] at hccj
  obtain ⟨hR2, _⟩ := Kd.R_seg hR1 (k : Int) (by omega) (by omega) (c := cj) (seg := [vi]) (j := 0) (okp := fun k => True ∧ k ≠ g) (x' := xs.getD i []) hcj (by rw [Int.toNat_natCast]; exact hccj) (by rw [h1]; simp) (by
    have hM2 := Kd.M_grown hMi hg1 (fun k hk e => hk.2 (by injection e))
    obtain ⟨vj, rfl⟩ : ∃ v, cj = [v] := List.length_eq_one_iff.1 hcj
    exact hM2) (fun k hk => hk)
  rw [Int.toNat_natCast, hs] at hR2
  have c1 := hcci 0 vi rfl
  have c2 := hcck 0 vk rfl
  have f1 := hfi 0
  have f2 := hfk 0
  rw [h1, Nat.mul_one, Nat.add_zero] at c1 c2 f1 f2
  exact ⟨vi, vk, ffi, ffk, c1, c2, f1, f2, hR2⟩
set_option maxHeartbeats 16000000 in
set_option maxRecDepth 100000 in
theorem colophonlaw20_ChunkOrder.walk (P : colophonlaw20_ChunkOrder.Pure) (a0 : Option Addr) (len0 cap0 : Nat) (z0 : List Int) (a1 a2 s0 s1 : Int) (w : World) (hT : Tab w) (w0 : (a0 = none ∧ len0 = 0 ∧ cap0 = 0 ∧ z0 = []) ∨ ∃ x, a0 = some x ∧ len0 ≤ cap0 ∧ cap0 ≤ maxLen ∧ z0.length = cap0 ∧ (∀ i, i < z0.length → w.cell? (x.add i) = some (.int .u8 (z0.getD i 0))) ∧ ∀ n ∈ z0, (Lit.int .u8 n).wf = true) (y0 : len0 * 1 ≤ 140737488351232) (w1 : (Lit.int .i64 a1).wf = true) (w2 : (Lit.int .i64 a2).wf = true) (w3 : (Lit.int .i64 s0).wf = true) (w4 : (Lit.int .i64 s1).wf = true) :
    Calls Tryd.prog 7 #[.slice a0 len0 cap0, .int .i64 a1, .int .i64 a2, .agg #[.int .i64 s0, .int .i64 s1]] w fun e w' => e = .returned (.bool true) ∧ Below w.heap.size w w' := by
  obtain ⟨l0, rfl, hr0, hm0, hw0, hc0⟩ := ReadsInt.ofRowC w0
  obtain ⟨⟨kw, hworks⟩, hJoin⟩ := P
  have HJOIN := Aside0.mk hJoin
  clear hJoin
  have HR := Aside0.mk (show Kd.C (Kd.int .u8) w a0 l0.length l0 from Kd.C_of_reads (d := (0 : Int)) (h1 := fun _ => rfl) hr0)
  have HT := Aside0.mk hT
  have HC0 := Aside0.mk hc0
  have HBy := Aside0.mk (bytes_wf hw0)
  have HBX := Aside0.mk (heap_alloc_new w (Obj.cells #[.int .i64 s0, .int .i64 s1] 43))
  have HB0 := Aside0.mk (below_alloc (Below.refl w.heap.size w) (Obj.cells #[.int .i64 s0, .int .i64 s1] 43))
  have HTb := Aside0.mk (Kd.C_alloc hT (Obj.cells #[.int .i64 s0, .int .i64 s1] 43))
  have HWk := Aside0.mk (fun W hT => colophonlaw20_works.calls kw true W hT hworks)
  clear hr0 hT w0 hm0 hw0 hc0 y0 w1 w2 w3 w4 hworks
  by_cases c1 : (l0.length : Int) > 2000
  · have c1b : decide (2000 < (l0.length : Int)) = true := decide_eq_true c1
    have c1c : decide (2000 < l0.length) = true := decide_eq_true (by omega)
    go_enter Tryd.func7, Tryd.ntmps7
    go_wp2_with (first | (go_at_call 8; refine (HWk.out _ HTb.out).mono ?_; rintro e W1 ⟨rfl, hb1⟩))
    go_ret
    exact ⟨rfl, below_step HB0.out hb1⟩
  have c1b : decide (2000 < (l0.length : Int)) = false := decide_eq_false c1
  have c1c : decide (2000 < l0.length) = false := decide_eq_false (by omega)
  obtain ⟨r, hr⟩ : ∃ r, chunk_Cut.f l0 a1 = some r := by
    unfold chunk_Cut.f; split <;> (try split) <;> exact ⟨_, rfl⟩
  obtain ⟨L, e⟩ := r
  have HCut := Aside0.mk (fun W hT hC => chunk_Cut.calls a0 cap0 l0 a1 L e W hT hC HC0.out hr)
  by_cases ce : e = 0
  rotate_left
  · have ceb : (e != 0) = true := by simpa using ce
    clear hr
    go_enter Tryd.func7, Tryd.ntmps7
    go_wp2_with (first | (go_at_call 8; refine (HWk.out _ HTb.out).mono ?_; rintro e W1 ⟨rfl, hb1⟩; have HB1 := Aside0.mk (below_step HB0.out hb1); clear hb1) | (go_at_call 9; refine (HCut.out _ (Kd.C_below HT.out HB1.out) (Kd.C_below HR.out HB1.out)).mono ?_; rintro e W2 ⟨v9, rfl, ho9, hb2⟩; obtain ⟨A9, c9, rfl⟩ := Kd.S_slice ho9))
    go_ret
    exact ⟨rfl, below_step HB1.out hb2⟩
  subst ce
  by_cases cl : L.length = 0
  · have clb : ((L.length : Int) == 0) = true := by simp [cl]
    clear hr
    go_enter Tryd.func7, Tryd.ntmps7
    go_wp2_with (first | (go_at_call 8; refine (HWk.out _ HTb.out).mono ?_; rintro e W1 ⟨rfl, hb1⟩; have HB1 := Aside0.mk (below_step HB0.out hb1); clear hb1) | (go_at_call 9; refine (HCut.out _ (Kd.C_below HT.out HB1.out) (Kd.C_below HR.out HB1.out)).mono ?_; rintro e W2 ⟨v9, rfl, ho9, hb2⟩; obtain ⟨A9, c9, rfl⟩ := Kd.S_slice ho9))
    go_ret
    exact ⟨rfl, below_step HB1.out hb2⟩
  have hsome := hr
  have ht : 1 ≤ a1 ∧ a1 ≤ 2147483647 := by
    apply Classical.byContradiction
    intro hn
    rw [chunk_Cut.f, if_neg hn] at hr
    cases hr
  rw [cut_f l0 a1 ht (by omega)] at hr
  obtain rfl : chunks l0 a1 = L := by injection hr with hr; injection hr
  have hcl := chunks_length l0 a1
  have clb : (((chunks l0 a1).length : Int) == 0) = false := beq_eq_false_iff_ne.2 (by omega)
  have HLL := Aside0.mk (show l0.length ≤ 2000 by omega)
  have hLen : (chunks l0 a1).length ≤ 38 ∧ 0 < (chunks l0 a1).length := by omega
  have HS := Aside0.mk (And.intro ht hcl)
  have hpos := hLen.2
  obtain ⟨i, hi, hik⟩ := placeO s0 (chunks l0 a1).length (by omega) (by omega)
  obtain ⟨k, hk, hkk⟩ := placeO s1 (chunks l0 a1).length (by omega) (by omega)
  have e2 : IntKind.u64.wrap ((chunks l0 a1).length : Int) = ((chunks l0 a1).length : Int) := u64nO _ (by omega)
  have f0 : (((chunks l0 a1).length : Int) == 0) = false := beq_eq_false_iff_ne.2 (by omega)
  have f0b : (((chunks l0 a1).length : Int) = 0) = False := eq_false (by omega)
  have f0c : ((chunks l0 a1).length = 0) = False := eq_false (by omega)
  have HI := Aside0.mk (And.intro hi hk)
  have HIK := Aside0.mk (And.intro hik hkk)
  have HE2 := Aside0.mk e2
  clear hr hsome hcl hi hk hik hkk ht hLen e2
  by_cases hot : a2 = a1
  · have t0 : (a2 != a1) = false := by simpa using hot
    clear hot
    go_enter Tryd.func7, Tryd.ntmps7
    go_upto_region 8 with (first | (go_at_call 8; refine (HWk.out _ HTb.out).mono ?_; rintro e W1 ⟨rfl, hb1⟩; have HB1 := Aside0.mk (below_step HB0.out hb1); have HBb := Aside0.mk ((hb1.block _ (by rw [World.size_alloc]; omega)).trans HBX.out); have HBz := Aside0.mk (below_size hb1); clear hb1) | (go_at_call 9; refine (HCut.out _ (Kd.C_below HT.out HB1.out) (Kd.C_below HR.out HB1.out)).mono ?_; rintro e W2 ⟨v9, rfl, ho9, hb2⟩; obtain ⟨A9, c9, rfl⟩ := Kd.S_slice ho9))
    obtain ⟨g9, cap9, ev9, hg9, _⟩ := Kd.S_form ho9 hpos
    injection ev9 with ea _ ec
    subst ea ec
    obtain ⟨Wc, hWc⟩ : ∃ Wc, Wc = W2 := ⟨_, rfl⟩
    subst hWc
    have HRc := Aside0.mk (Kd.R_mono (Kd.S_R ho9) (fun _ _ => trivial))
    have HBc := Aside0.mk (below_step HB1.out hb2)
    have HG9 := Aside0.mk (show w.heap.size ≤ g9 from Nat.le_trans HB1.out.size hg9)
    clear hg9
    have HBxc := Aside0.mk ((hb2.block _ (lt_of_someO HBb.out)).trans HBb.out)
    clear ho9 hb2
    have hx0 : Wc.cell? ⟨w.heap.size, 0, none⟩ = some (.int .i64 s0) := blk_cell HBxc.out 0
    have hx1 : Wc.cell? ⟨w.heap.size, 1, none⟩ = some (.int .i64 s1) := blk_cell HBxc.out 1
    have HX0 := Aside0.mk hx0
    have HX1 := Aside0.mk hx1
    have e2 := HE2.out
    go_upto_region 12 with (fail)
    refine start_ (n := 18) (S := fun w' => w'.cell? ⟨w.heap.size, 0, none⟩ = some (.int .i64 s0) ∧ w'.cell? ⟨w.heap.size, 1, none⟩ = some (.int .i64 s1)) (ds := []) #[false, false, false, false, false, false, false, false, false, false, false, false, false, false, false, false, false, false] (by kernel_rfl) rfl rfl ⟨(by exact HX0.out), (by exact HX1.out)⟩ (fun hHeld => ?_)
    refine pure_ (i := 0) (N := some 65) (v := ?_) (a' := ?_) #[true, false, false, false, false, false, false, false, false, false, false, false, false, false, false, false, false, false] rfl rfl (by kernel_rfl) (fun _ _ _ h => h) (Or.inl ⟨by rfl, ?_⟩) ?_ ?_
    rotate_left
    · intro w'
      go_simp
      with_reducible rfl
    rotate_left
    · simp only [Act.put, List.setIfInBounds_toArray, List.set_cons_zero, List.set_cons_succ, i64_w, i32_w]
      rfl
    refine pure_ (i := 3) (N := some 68) (v := ?_) (a' := ?_) #[true, false, false, true, false, false, false, false, false, false, false, false, false, false, false, false, false, false] rfl rfl (by kernel_rfl) (fun _ _ _ h => h) (Or.inl ⟨by rfl, ?_⟩) ?_ ?_
    rotate_left
    · intro w'
      go_simp
      with_reducible rfl
    rotate_left
    · simp only [Act.put, List.setIfInBounds_toArray, List.set_cons_zero, List.set_cons_succ, i64_w, i32_w]
      rfl
    refine pure_ (i := 4) (N := some 69) (v := ?_) (a' := ?_) #[true, false, false, true, true, false, false, false, false, false, false, false, false, false, false, false, false, false] rfl rfl (by kernel_rfl) (fun _ _ _ h => h) (Or.inl ⟨by rfl, ?_⟩) ?_ ?_
    rotate_left
    · intro w'
      go_simp
      with_reducible rfl
    rotate_left
    · simp only [Act.put, List.setIfInBounds_toArray, List.set_cons_zero, List.set_cons_succ, i64_w, i32_w]
      rfl
    refine pure_ (i := 8) (N := some 73) (v := ?_) (a' := ?_) #[true, false, false, true, true, false, false, false, true, false, false, false, false, false, false, false, false, false] rfl rfl (by kernel_rfl) (fun _ _ _ h => h) (Or.inl ⟨by rfl, ?_⟩) ?_ ?_
    rotate_left
    · intro w'
      go_simp
      with_reducible rfl
    rotate_left
    · simp only [Act.put, List.setIfInBounds_toArray, List.set_cons_zero, List.set_cons_succ, i64_w, i32_w]
      rfl
    refine pure_ (i := 11) (N := some 76) (v := ?_) (a' := ?_) #[true, false, false, true, true, false, false, false, true, false, false, true, false, false, false, false, false, false] rfl rfl (by kernel_rfl) (fun _ _ _ h => h) (Or.inl ⟨by rfl, ?_⟩) ?_ ?_
    rotate_left
    · intro w'
      go_simp
      with_reducible rfl
    rotate_left
    · simp only [Act.put, List.setIfInBounds_toArray, List.set_cons_zero, List.set_cons_succ, i64_w, i32_w]
      rfl
    refine pure_ (i := 12) (N := some 77) (v := ?_) (a' := ?_) #[true, false, false, true, true, false, false, false, true, false, false, true, true, false, false, false, false, false] rfl rfl (by kernel_rfl) (fun _ _ _ h => h) (Or.inl ⟨by rfl, ?_⟩) ?_ ?_
    rotate_left
    · intro w'
      go_simp
      with_reducible rfl
    rotate_left
    · simp only [Act.put, List.setIfInBounds_toArray, List.set_cons_zero, List.set_cons_succ, i64_w, i32_w]
      rfl
    refine take_ (i := 1) (N := some 66) (v := ?_) (a' := ?_) #[true, true, false, true, true, false, false, false, true, false, false, true, true, false, false, false, false, false] rfl rfl (by kernel_rfl) (fun _ _ _ h => h) (Or.inl ⟨by rfl, ?_⟩) hHeld ?_ ?_
    rotate_left
    · rintro w' ⟨s0, s1⟩
      go_simp
      with_reducible rfl
    rotate_left
    · simp only [Act.put, List.setIfInBounds_toArray, List.set_cons_zero, List.set_cons_succ, i64_w, i32_w]
      rfl
    refine take_ (i := 2) (N := some 67) (v := ?_) (a' := ?_) #[true, true, true, true, true, false, false, false, true, false, false, true, true, false, false, false, false, false] rfl rfl (by kernel_rfl) (fun _ _ _ h => h) (Or.inl ⟨by rfl, ?_⟩) hHeld ?_ ?_
    rotate_left
    · rintro w' ⟨s0, s1⟩
      go_simp
      with_reducible rfl
    rotate_left
    · simp only [Act.put, List.setIfInBounds_toArray, List.set_cons_zero, List.set_cons_succ, i64_w, i32_w]
      rfl
    refine take_ (i := 5) (N := some 70) (v := ?_) (a' := ?_) #[true, true, true, true, true, true, false, false, true, false, false, true, true, false, false, false, false, false] rfl rfl (by kernel_rfl) (fun _ _ _ h => h) (Or.inl ⟨by rfl, ?_⟩) hHeld ?_ ?_
    rotate_left
    · rintro w' ⟨s0, s1⟩
      go_simp
      with_reducible rfl
    rotate_left
    · simp only [Act.put, List.setIfInBounds_toArray, List.set_cons_zero, List.set_cons_succ, i64_w, i32_w]
      rfl
    refine pure_ (i := 6) (N := some 71) (v := ?_) (a' := ?_) #[true, true, true, true, true, true, true, false, true, false, false, true, true, false, false, false, false, false] rfl rfl (by kernel_rfl) (fun _ _ _ h => h) (Or.inl ⟨by rfl, ?_⟩) ?_ ?_
    rotate_left
    · intro w'
      go_simp
      with_reducible rfl
    rotate_left
    · simp only [Act.put, List.setIfInBounds_toArray, List.set_cons_zero, List.set_cons_succ, i64_w, i32_w]
      rfl
    refine take_ (i := 7) (N := some 72) (v := ?_) (a' := ?_) #[true, true, true, true, true, true, true, true, true, false, false, true, true, false, false, false, false, false] rfl rfl (by kernel_rfl) (fun _ _ _ h => h) (Or.inl ⟨by rfl, ?_⟩) hHeld ?_ ?_
    rotate_left
    · rintro w' ⟨s0, s1⟩
      go_simp
      with_reducible rfl
    rotate_left
    · simp only [Act.put, List.setIfInBounds_toArray, List.set_cons_zero, List.set_cons_succ, i64_w, i32_w]
      rfl
    refine pure_ (i := 16) (N := some 13) (v := ?_) (a' := ?_) #[true, true, true, true, true, true, true, true, true, false, false, true, true, false, false, false, true, false] rfl rfl (by kernel_rfl) (fun _ _ _ h => h) (Or.inl ⟨by rfl, ?_⟩) ?_ ?_
    rotate_left
    · intro w'
      go_simp
      with_reducible rfl
    rotate_left
    · simp only [Act.put, List.setIfInBounds_toArray, List.set_cons_zero, List.set_cons_succ, i64_w, i32_w]
      rfl
    refine take_ (i := 9) (N := some 74) (v := ?_) (a' := ?_) #[true, true, true, true, true, true, true, true, true, true, false, true, true, false, false, false, true, false] rfl rfl (by kernel_rfl) (fun _ _ _ h => h) (Or.inl ⟨by rfl, ?_⟩) hHeld ?_ ?_
    rotate_left
    · rintro w' ⟨s0, s1⟩
      go_simp
      with_reducible rfl
    rotate_left
    · simp only [Act.put, List.setIfInBounds_toArray, List.set_cons_zero, List.set_cons_succ, i64_w, i32_w]
      rfl
    refine take_ (i := 10) (N := some 75) (v := ?_) (a' := ?_) #[true, true, true, true, true, true, true, true, true, true, true, true, true, false, false, false, true, false] rfl rfl (by kernel_rfl) (fun _ _ _ h => h) (Or.inl ⟨by rfl, ?_⟩) hHeld ?_ ?_
    rotate_left
    · rintro w' ⟨s0, s1⟩
      go_simp
      with_reducible rfl
    rotate_left
    · simp only [Act.put, List.setIfInBounds_toArray, List.set_cons_zero, List.set_cons_succ, i64_w, i32_w]
      rfl
    refine take_ (i := 13) (N := some 78) (v := ?_) (a' := ?_) #[true, true, true, true, true, true, true, true, true, true, true, true, true, true, false, false, true, false] rfl rfl (by kernel_rfl) (fun _ _ _ h => h) (Or.inl ⟨by rfl, ?_⟩) hHeld ?_ ?_
    rotate_left
    · rintro w' ⟨s0, s1⟩
      go_simp
      with_reducible rfl
    rotate_left
    · simp only [Act.put, List.setIfInBounds_toArray, List.set_cons_zero, List.set_cons_succ, i64_w, i32_w]
      rfl
    refine pure_ (i := 14) (N := some 79) (v := ?_) (a' := ?_) #[true, true, true, true, true, true, true, true, true, true, true, true, true, true, true, false, true, false] rfl rfl (by kernel_rfl) (fun _ _ _ h => h) (Or.inl ⟨by rfl, ?_⟩) ?_ ?_
    rotate_left
    · intro w'
      go_simp
      with_reducible rfl
    rotate_left
    · simp only [Act.put, List.setIfInBounds_toArray, List.set_cons_zero, List.set_cons_succ, i64_w, i32_w]
      rfl
    refine take_ (i := 15) (N := some 80) (v := ?_) (a' := ?_) #[true, true, true, true, true, true, true, true, true, true, true, true, true, true, true, true, true, false] rfl rfl (by kernel_rfl) (fun _ _ _ h => h) (Or.inl ⟨by rfl, ?_⟩) hHeld ?_ ?_
    rotate_left
    · rintro w' ⟨s0, s1⟩
      go_simp
      with_reducible rfl
    rotate_left
    · simp only [Act.put, List.setIfInBounds_toArray, List.set_cons_zero, List.set_cons_succ, i64_w, i32_w]
      rfl
    refine pure_ (i := 17) (N := some 14) (v := ?_) (a' := ?_) #[true, true, true, true, true, true, true, true, true, true, true, true, true, true, true, true, true, true] rfl rfl (by kernel_rfl) (fun _ _ _ h => h) (Or.inl ⟨by rfl, ?_⟩) ?_ ?_
    rotate_left
    · intro w'
      go_simp
      with_reducible rfl
    rotate_left
    · simp only [Act.put, List.setIfInBounds_toArray, List.set_cons_zero, List.set_cons_succ, i64_w, i32_w]
      rfl
    refine done_ (by kernel_rfl) ?_
    clear hx0 hx1 e2 f0 f0b f0c
    simp only [HIK.out.1, HIK.out.2]
    obtain ⟨vi, vk, ⟨Ai, ni, mi, rfl⟩, ⟨Ak, nk, mk, rfl⟩, ci, ck, fi, fk, hsw⟩ := R_swap rfl (Kd.R_drew (Kd.R_drew HRc.out)) i k HI.out.1 HI.out.2
    have q1 : ((i : Int) < ((chunks l0 a1).length : Int)) = True := eq_true (Int.ofNat_lt.2 HI.out.1)
    have q2 : (i < (chunks l0 a1).length) = True := eq_true HI.out.1
    have q3 : ((k : Int) < ((chunks l0 a1).length : Int)) = True := eq_true (Int.ofNat_lt.2 HI.out.2)
    have q4 : (k < (chunks l0 a1).length) = True := eq_true HI.out.2
    have fk2 : Wc.frozen? ⟨g9, k, none⟩ = false := by exact fk
    have fi2 : Wc.frozen? ⟨g9, i, none⟩ = false := by exact fi
    have ck2 : Wc.cell? ⟨g9, k, none⟩ = some (.slice Ak nk mk) := by exact ck
    obtain ⟨vy, hy⟩ := RowKit.cell?_setCell_some (w := Wc) (p := ⟨g9, i, none⟩) (x := .slice Ak nk mk) ck2
    have HCI := Aside0.mk (And.intro ci ck)
    clear ck2
    have HSW := Aside0.mk hsw
    clear ci ck hsw
    go_upto_region 13 with (fail)
    refine start_ (n := 16) (S := fun w' => w'.cell? ⟨g9, k, none⟩ = some (.slice Ak nk mk) ∧ w'.cell? ⟨g9, i, none⟩ = some (.slice Ai ni mi)) (ds := [13, 15]) #[false, false, false, false, false, false, false, false, false, false, false, false, false, false, false, false] (by kernel_rfl) rfl rfl ⟨(by exact HCI.out.2), (by exact HCI.out.1)⟩ (fun hHeld => ?_)
    refine pure_ (i := 0) (N := some 81) (v := ?_) (a' := ?_) #[true, false, false, false, false, false, false, false, false, false, false, false, false, false, false, false] rfl rfl (by kernel_rfl) (fun _ _ _ h => h) (Or.inl ⟨by rfl, ?_⟩) ?_ ?_
    rotate_left
    · intro w'
      go_simp
      with_reducible rfl
    rotate_left
    · simp only [Act.put, List.setIfInBounds_toArray, List.set_cons_zero, List.set_cons_succ, i64_w, i32_w]
      rfl
    refine pure_ (i := 1) (N := some 82) (v := ?_) (a' := ?_) #[true, true, false, false, false, false, false, false, false, false, false, false, false, false, false, false] rfl rfl (by kernel_rfl) (fun _ _ _ h => h) (Or.inl ⟨by rfl, ?_⟩) ?_ ?_
    rotate_left
    · intro w'
      go_simp
      with_reducible rfl
    rotate_left
    · simp only [Act.put, List.setIfInBounds_toArray, List.set_cons_zero, List.set_cons_succ, i64_w, i32_w]
      rfl
    refine pure_ (i := 2) (N := some 83) (v := ?_) (a' := ?_) #[true, true, true, false, false, false, false, false, false, false, false, false, false, false, false, false] rfl rfl (by kernel_rfl) (fun _ _ _ h => h) (Or.inl ⟨by rfl, ?_⟩) ?_ ?_
    rotate_left
    · intro w'
      go_simp
      with_reducible rfl
    rotate_left
    · simp only [Act.put, List.setIfInBounds_toArray, List.set_cons_zero, List.set_cons_succ, i64_w, i32_w]
      rfl
    refine pure_ (i := 3) (N := some 84) (v := ?_) (a' := ?_) #[true, true, true, true, false, false, false, false, false, false, false, false, false, false, false, false] rfl rfl (by kernel_rfl) (fun _ _ _ h => h) (Or.inl ⟨by rfl, ?_⟩) ?_ ?_
    rotate_left
    · intro w'
      go_simp
      with_reducible rfl
    rotate_left
    · simp only [Act.put, List.setIfInBounds_toArray, List.set_cons_zero, List.set_cons_succ, i64_w, i32_w]
      rfl
    refine pure_ (i := 4) (N := some 85) (v := ?_) (a' := ?_) #[true, true, true, true, true, false, false, false, false, false, false, false, false, false, false, false] rfl rfl (by kernel_rfl) (fun _ _ _ h => h) (Or.inl ⟨by rfl, ?_⟩) ?_ ?_
    rotate_left
    · intro w'
      go_simp
      with_reducible rfl
    rotate_left
    · simp only [Act.put, List.setIfInBounds_toArray, List.set_cons_zero, List.set_cons_succ, i64_w, i32_w]
      rfl
    refine pure_ (i := 5) (N := some 86) (v := ?_) (a' := ?_) #[true, true, true, true, true, true, false, false, false, false, false, false, false, false, false, false] rfl rfl (by kernel_rfl) (fun _ _ _ h => h) (Or.inl ⟨by rfl, ?_⟩) ?_ ?_
    rotate_left
    · intro w'
      go_simp
      with_reducible rfl
    rotate_left
    · simp only [Act.put, List.setIfInBounds_toArray, List.set_cons_zero, List.set_cons_succ, i64_w, i32_w]
      rfl
    refine pure_ (i := 6) (N := some 87) (v := ?_) (a' := ?_) #[true, true, true, true, true, true, true, false, false, false, false, false, false, false, false, false] rfl rfl (by kernel_rfl) (fun _ _ _ h => h) (Or.inl ⟨by rfl, ?_⟩) ?_ ?_
    rotate_left
    · intro w'
      go_simp
      with_reducible rfl
    rotate_left
    · simp only [Act.put, List.setIfInBounds_toArray, List.set_cons_zero, List.set_cons_succ, i64_w, i32_w]
      rfl
    refine pure_ (i := 8) (N := some 89) (v := ?_) (a' := ?_) #[true, true, true, true, true, true, true, false, true, false, false, false, false, false, false, false] rfl rfl (by kernel_rfl) (fun _ _ _ h => h) (Or.inl ⟨by rfl, ?_⟩) ?_ ?_
    rotate_left
    · intro w'
      go_simp
      with_reducible rfl
    rotate_left
    · simp only [Act.put, List.setIfInBounds_toArray, List.set_cons_zero, List.set_cons_succ, i64_w, i32_w]
      rfl
    refine pure_ (i := 9) (N := some 90) (v := ?_) (a' := ?_) #[true, true, true, true, true, true, true, false, true, true, false, false, false, false, false, false] rfl rfl (by kernel_rfl) (fun _ _ _ h => h) (Or.inl ⟨by rfl, ?_⟩) ?_ ?_
    rotate_left
    · intro w'
      go_simp
      with_reducible rfl
    rotate_left
    · simp only [Act.put, List.setIfInBounds_toArray, List.set_cons_zero, List.set_cons_succ, i64_w, i32_w]
      rfl
    refine pure_ (i := 10) (N := some 91) (v := ?_) (a' := ?_) #[true, true, true, true, true, true, true, false, true, true, true, false, false, false, false, false] rfl rfl (by kernel_rfl) (fun _ _ _ h => h) (Or.inl ⟨by rfl, ?_⟩) ?_ ?_
    rotate_left
    · intro w'
      go_simp
      with_reducible rfl
    rotate_left
    · simp only [Act.put, List.setIfInBounds_toArray, List.set_cons_zero, List.set_cons_succ, i64_w, i32_w]
      rfl
    refine take_ (i := 7) (N := some 88) (v := ?_) (a' := ?_) #[true, true, true, true, true, true, true, true, true, true, true, false, false, false, false, false] rfl rfl (by kernel_rfl) (fun _ _ _ h => h) (Or.inl ⟨by rfl, ?_⟩) hHeld ?_ ?_
    rotate_left
    · rintro w' ⟨s0, s1⟩
      go_simp
      with_reducible rfl
    rotate_left
    · simp only [Act.put, List.setIfInBounds_toArray, List.set_cons_zero, List.set_cons_succ, i64_w, i32_w]
      rfl
    refine take_ (i := 11) (N := some 92) (v := ?_) (a' := ?_) #[true, true, true, true, true, true, true, true, true, true, true, true, false, false, false, false] rfl rfl (by kernel_rfl) (fun _ _ _ h => h) (Or.inl ⟨by rfl, ?_⟩) hHeld ?_ ?_
    rotate_left
    · rintro w' ⟨s0, s1⟩
      go_simp
      with_reducible rfl
    rotate_left
    · simp only [Act.put, List.setIfInBounds_toArray, List.set_cons_zero, List.set_cons_succ, i64_w, i32_w]
      rfl
    refine pure_ (i := 12) (N := some 93) (v := ?_) (a' := ?_) #[true, true, true, true, true, true, true, true, true, true, true, true, true, false, false, false] rfl rfl (by kernel_rfl) (fun _ _ _ h => h) (Or.inl ⟨by rfl, ?_⟩) ?_ ?_
    rotate_left
    · intro w'
      go_simp
      with_reducible rfl
    rotate_left
    · simp only [Act.put, List.setIfInBounds_toArray, List.set_cons_zero, List.set_cons_succ, i64_w, i32_w]
      rfl
    refine last_ (i := 13) (N := none) #[true, true, true, true, true, true, true, true, true, true, true, true, true, true, false, false] rfl rfl (by kernel_rfl) (by decide) (fun K hK => ?_)
    refine skip_ (w1 := ?_) (by rfl) rfl ?_ ?_
    rotate_left
    · go_simp
      rfl
    refine hK.out _ _ ?_
    clear hK K
    refine pure_ (i := 14) (N := some 94) (v := ?_) (a' := ?_) #[true, true, true, true, true, true, true, true, true, true, true, true, true, true, true, false] rfl rfl (by kernel_rfl) (fun _ _ _ h => h) (Or.inl ⟨by rfl, ?_⟩) ?_ ?_
    rotate_left
    · intro w'
      go_simp
      with_reducible rfl
    rotate_left
    · simp only [Act.put, List.setIfInBounds_toArray, List.set_cons_zero, List.set_cons_succ, i64_w, i32_w]
      rfl
    refine last_ (i := 15) (N := none) #[true, true, true, true, true, true, true, true, true, true, true, true, true, true, true, true] rfl rfl (by kernel_rfl) (by decide) (fun K hK => ?_)
    refine skip_ (w1 := ?_) (by rfl) rfl ?_ ?_
    rotate_left
    · go_simp
      rfl
    refine hK.out _ _ ?_
    clear hK K
    refine done_ (by kernel_rfl) ?_
    clear hy fk2 fi2 fk fi q1 q2 q3 q4
    have HR9 := HSW.out
    obtain ⟨L', hL'⟩ : ∃ L', L' = (((chunks l0 a1).set i ((chunks l0 a1).getD k [])).set k ((chunks l0 a1).getD i [])) := ⟨_, rfl⟩
    have hll : L'.length = (chunks l0 a1).length := by rw [hL', List.length_set, List.length_set]
    have hcl := HS.out.2
    have hjn : JN L' a1 (l0.length : Int) = if i = k then (l0, 0) else ([], 180) := by
      rw [hL', chunks_get l0 a1 k (by have := HI.out; omega), chunks_get l0 a1 i (by have := HI.out; omega)]
      exact JN_swap l0 a1 HS.out.1 (by have := HLL.out; omega) i k (by have := HI.out; omega) (by have := HI.out; omega)
    rw [← hL'] at HR9
    obtain ⟨A', c', he, hlc, hC⟩ := Kd.R_reads HR9
    injection he with he1 he2 he3
    subst he1 he3
    obtain ⟨kj, hj⟩ := HJOIN.out L' a1 (l0.length : Int) (by rw [hll]; have := HLL.out; omega)
    rw [hjn] at hj
    have HJ := Aside0.mk (fun W hT hC => chunk_Join.calls kj (some ⟨g9, 0, none⟩) c9 L' a1 (l0.length : Int) (if i = k then (l0, 0) else ([], 180)).1 (if i = k then (l0, 0) else ([], 180)).2 W hT hC hlc hj)
    rw [hll] at HJ hC
    have HC9 := Aside0.mk hC
    clear HR9 hlc hjn hj hL' hll he2 hcl hC
    have hg := HG9.out
    have HBs := Aside0.mk (show Below w.heap.size w ((Wc.setCell ⟨g9, i, none⟩ (.slice Ak nk mk)).setCell ⟨g9, k, none⟩ (.slice Ai ni mi)).drew.drew from below_drew (below_drew ((HBc.out.setCell (p := ⟨g9, i, none⟩) hg _).setCell (p := ⟨g9, k, none⟩) hg _)))
    clear hg HCI
    by_cases hik2 : i = k
    · simp only [if_pos hik2] at HJ
      have b1 : ((i : Int) == (k : Int)) = true := beq_iff_eq.2 (by omega)
      have b2 : (i == k) = true := beq_iff_eq.2 hik2
      have b3 : ((i : Int) = (k : Int)) = True := eq_true (by omega)
      have b4 : (i = k) = True := eq_true hik2
      have HIKE := Aside0.mk hik2
      clear hik2
      go_wp2_with (first | (go_at_call 14; refine (HJ.out _ (Kd.C_below HT.out HBs.out) HC9.out).mono ?_; rintro e W5 ⟨v5, rfl, ho5, hb5⟩; refine of_halt ?_))
      unfold G.Halt
      obtain ⟨A5, c5, rfl, hc5, hC5⟩ := Kd.R_reads ho5
      have HB5 := Aside0.mk (below_step HBs.out hb5)
      have hcv1 := Kd.C_string (P := Tryd.prog) (src := 22) (dst := 9) Tryd.underlying22 Tryd.underlying5 Tryd.underlying9 (c := c5) hC5
      have hcv2 := Kd.C_string (P := Tryd.prog) (src := 22) (dst := 9) Tryd.underlying22 Tryd.underlying5 Tryd.underlying9 (c := cap0) (Kd.C_below HR.out HB5.out)
      clear ho5 hb5 hc5 hC5
      go_wp2
      go_ret
      exact ⟨rfl, HB5.out⟩
    · simp only [if_neg hik2] at HJ
      have b1 : ((i : Int) == (k : Int)) = false := by simp; omega
      have b2 : (i == k) = false := by simpa using hik2
      have b3 : ((i : Int) = (k : Int)) = False := eq_false (by omega)
      have b4 : (i = k) = False := eq_false hik2
      clear hik2
      go_wp2_with (first | (go_at_call 14; refine (HJ.out _ (Kd.C_below HT.out HBs.out) HC9.out).mono ?_; rintro e W5 ⟨v5, rfl, ho5, hb5⟩; refine of_halt ?_))
      unfold G.Halt
      obtain ⟨A5, c5, rfl, hc5, hC5⟩ := Kd.R_reads ho5
      have HB5 := Aside0.mk (below_step HBs.out hb5)
      clear ho5 hb5 hc5 hC5
      go_wp2
      go_ret
      exact ⟨rfl, HB5.out⟩
  · have t0 : (a2 != a1) = true := by simpa using hot
    have hjt := JN_tag l0 a1 a2 HS.out.1 hot (by have := HLL.out; omega) (by have := HS.out.2; omega)
    obtain ⟨kt, hkt⟩ := HJOIN.out (chunks l0 a1) a2 (l0.length : Int) (by have := HS.out.2; have := HLL.out; omega)
    rw [hjt] at hkt
    obtain ⟨et, het⟩ : ∃ et : Int, et = if 1 ≤ a2 ∧ a2 ≤ 2147483647 then 180 else 2 := ⟨_, rfl⟩
    rw [← het] at hkt
    have HJT := Aside0.mk (fun W A c hT hC hc => chunk_Join.calls kt A c (chunks l0 a1) a2 (l0.length : Int) [] et W hT hC hc hkt)
    have HET := Aside0.mk het
    clear hot hjt hkt het
    go_enter Tryd.func7, Tryd.ntmps7
    go_upto_region 8 with (first | (go_at_call 8; refine (HWk.out _ HTb.out).mono ?_; rintro e W1 ⟨rfl, hb1⟩; have HB1 := Aside0.mk (below_step HB0.out hb1); have HBb := Aside0.mk ((hb1.block _ (by rw [World.size_alloc]; omega)).trans HBX.out); have HBz := Aside0.mk (below_size hb1); clear hb1) | (go_at_call 9; refine (HCut.out _ (Kd.C_below HT.out HB1.out) (Kd.C_below HR.out HB1.out)).mono ?_; rintro e W2 ⟨v9, rfl, ho9, hb2⟩; obtain ⟨A9, c9, rfl⟩ := Kd.S_slice ho9))
    obtain ⟨g9, cap9, ev9, hg9, _⟩ := Kd.S_form ho9 hpos
    injection ev9 with ea _ ec
    subst ea ec
    have HRd := Aside0.mk (Kd.R_mono (Kd.S_R ho9) (fun _ _ => trivial))
    have HBd := Aside0.mk (below_step HB1.out hb2)
    have HG9 := Aside0.mk (show w.heap.size ≤ g9 from Nat.le_trans HB1.out.size hg9)
    clear hg9
    have HBxd := Aside0.mk ((hb2.block _ (lt_of_someO HBb.out)).trans HBb.out)
    clear ho9 hb2
    have HCd := Aside0.mk (show Kd.C (Kd.slice 5 (Kd.int .u8)) W2 (some ⟨g9, 0, none⟩) (chunks l0 a1).length (chunks l0 a1) ∧ (chunks l0 a1).length ≤ c9 by
      obtain ⟨A', c', he, hlc, hC⟩ := Kd.R_reads HRd.out
      injection he with he1 he2 he3
      subst he1 he3
      exact ⟨hC, hlc⟩)
    go_wp2_with (first | (go_at_call 14; refine (HJT.out _ _ _ (Kd.C_below HT.out HBd.out) HCd.out.1 HCd.out.2).mono ?_; rintro e Wc ⟨v5, rfl, ho5, hb5⟩; refine of_halt ?_))
    unfold G.Halt
    obtain ⟨A5, c5, rfl, hc5, hC5⟩ := Kd.R_reads ho5
    have HRc := Aside0.mk (Kd.R_below HRd.out hb5)
    have HBc := Aside0.mk (below_step HBd.out hb5)
    have HBxc := Aside0.mk ((hb5.block _ (lt_of_someO HBxd.out)).trans HBxd.out)
    clear ho5 hb5 hc5 hC5
    by_cases hrg : 1 ≤ a2 ∧ a2 ≤ 2147483647
    · have het := HET.out
      rw [if_pos hrg] at het
      subst het
      clear hrg
      have hx0 : Wc.cell? ⟨w.heap.size, 0, none⟩ = some (.int .i64 s0) := blk_cell HBxc.out 0
      have hx1 : Wc.cell? ⟨w.heap.size, 1, none⟩ = some (.int .i64 s1) := blk_cell HBxc.out 1
      have HX0 := Aside0.mk hx0
      have HX1 := Aside0.mk hx1
      have e2 := HE2.out
      go_upto_region 12 with (fail)
      refine start_ (n := 18) (S := fun w' => w'.cell? ⟨w.heap.size, 0, none⟩ = some (.int .i64 s0) ∧ w'.cell? ⟨w.heap.size, 1, none⟩ = some (.int .i64 s1)) (ds := []) #[false, false, false, false, false, false, false, false, false, false, false, false, false, false, false, false, false, false] (by kernel_rfl) rfl rfl ⟨(by exact HX0.out), (by exact HX1.out)⟩ (fun hHeld => ?_)
      refine pure_ (i := 0) (N := some 65) (v := ?_) (a' := ?_) #[true, false, false, false, false, false, false, false, false, false, false, false, false, false, false, false, false, false] rfl rfl (by kernel_rfl) (fun _ _ _ h => h) (Or.inl ⟨by rfl, ?_⟩) ?_ ?_
      rotate_left
      · intro w'
        go_simp
        with_reducible rfl
      rotate_left
      · simp only [Act.put, List.setIfInBounds_toArray, List.set_cons_zero, List.set_cons_succ, i64_w, i32_w]
        rfl
      refine pure_ (i := 3) (N := some 68) (v := ?_) (a' := ?_) #[true, false, false, true, false, false, false, false, false, false, false, false, false, false, false, false, false, false] rfl rfl (by kernel_rfl) (fun _ _ _ h => h) (Or.inl ⟨by rfl, ?_⟩) ?_ ?_
      rotate_left
      · intro w'
        go_simp
        with_reducible rfl
      rotate_left
      · simp only [Act.put, List.setIfInBounds_toArray, List.set_cons_zero, List.set_cons_succ, i64_w, i32_w]
        rfl
      refine pure_ (i := 4) (N := some 69) (v := ?_) (a' := ?_) #[true, false, false, true, true, false, false, false, false, false, false, false, false, false, false, false, false, false] rfl rfl (by kernel_rfl) (fun _ _ _ h => h) (Or.inl ⟨by rfl, ?_⟩) ?_ ?_
      rotate_left
      · intro w'
        go_simp
        with_reducible rfl
      rotate_left
      · simp only [Act.put, List.setIfInBounds_toArray, List.set_cons_zero, List.set_cons_succ, i64_w, i32_w]
        rfl
      refine pure_ (i := 8) (N := some 73) (v := ?_) (a' := ?_) #[true, false, false, true, true, false, false, false, true, false, false, false, false, false, false, false, false, false] rfl rfl (by kernel_rfl) (fun _ _ _ h => h) (Or.inl ⟨by rfl, ?_⟩) ?_ ?_
      rotate_left
      · intro w'
        go_simp
        with_reducible rfl
      rotate_left
      · simp only [Act.put, List.setIfInBounds_toArray, List.set_cons_zero, List.set_cons_succ, i64_w, i32_w]
        rfl
      refine pure_ (i := 11) (N := some 76) (v := ?_) (a' := ?_) #[true, false, false, true, true, false, false, false, true, false, false, true, false, false, false, false, false, false] rfl rfl (by kernel_rfl) (fun _ _ _ h => h) (Or.inl ⟨by rfl, ?_⟩) ?_ ?_
      rotate_left
      · intro w'
        go_simp
        with_reducible rfl
      rotate_left
      · simp only [Act.put, List.setIfInBounds_toArray, List.set_cons_zero, List.set_cons_succ, i64_w, i32_w]
        rfl
      refine pure_ (i := 12) (N := some 77) (v := ?_) (a' := ?_) #[true, false, false, true, true, false, false, false, true, false, false, true, true, false, false, false, false, false] rfl rfl (by kernel_rfl) (fun _ _ _ h => h) (Or.inl ⟨by rfl, ?_⟩) ?_ ?_
      rotate_left
      · intro w'
        go_simp
        with_reducible rfl
      rotate_left
      · simp only [Act.put, List.setIfInBounds_toArray, List.set_cons_zero, List.set_cons_succ, i64_w, i32_w]
        rfl
      refine take_ (i := 1) (N := some 66) (v := ?_) (a' := ?_) #[true, true, false, true, true, false, false, false, true, false, false, true, true, false, false, false, false, false] rfl rfl (by kernel_rfl) (fun _ _ _ h => h) (Or.inl ⟨by rfl, ?_⟩) hHeld ?_ ?_
      rotate_left
      · rintro w' ⟨s0, s1⟩
        go_simp
        with_reducible rfl
      rotate_left
      · simp only [Act.put, List.setIfInBounds_toArray, List.set_cons_zero, List.set_cons_succ, i64_w, i32_w]
        rfl
      refine take_ (i := 2) (N := some 67) (v := ?_) (a' := ?_) #[true, true, true, true, true, false, false, false, true, false, false, true, true, false, false, false, false, false] rfl rfl (by kernel_rfl) (fun _ _ _ h => h) (Or.inl ⟨by rfl, ?_⟩) hHeld ?_ ?_
      rotate_left
      · rintro w' ⟨s0, s1⟩
        go_simp
        with_reducible rfl
      rotate_left
      · simp only [Act.put, List.setIfInBounds_toArray, List.set_cons_zero, List.set_cons_succ, i64_w, i32_w]
        rfl
      refine take_ (i := 5) (N := some 70) (v := ?_) (a' := ?_) #[true, true, true, true, true, true, false, false, true, false, false, true, true, false, false, false, false, false] rfl rfl (by kernel_rfl) (fun _ _ _ h => h) (Or.inl ⟨by rfl, ?_⟩) hHeld ?_ ?_
      rotate_left
      · rintro w' ⟨s0, s1⟩
        go_simp
        with_reducible rfl
      rotate_left
      · simp only [Act.put, List.setIfInBounds_toArray, List.set_cons_zero, List.set_cons_succ, i64_w, i32_w]
        rfl
      refine pure_ (i := 6) (N := some 71) (v := ?_) (a' := ?_) #[true, true, true, true, true, true, true, false, true, false, false, true, true, false, false, false, false, false] rfl rfl (by kernel_rfl) (fun _ _ _ h => h) (Or.inl ⟨by rfl, ?_⟩) ?_ ?_
      rotate_left
      · intro w'
        go_simp
        with_reducible rfl
      rotate_left
      · simp only [Act.put, List.setIfInBounds_toArray, List.set_cons_zero, List.set_cons_succ, i64_w, i32_w]
        rfl
      refine take_ (i := 7) (N := some 72) (v := ?_) (a' := ?_) #[true, true, true, true, true, true, true, true, true, false, false, true, true, false, false, false, false, false] rfl rfl (by kernel_rfl) (fun _ _ _ h => h) (Or.inl ⟨by rfl, ?_⟩) hHeld ?_ ?_
      rotate_left
      · rintro w' ⟨s0, s1⟩
        go_simp
        with_reducible rfl
      rotate_left
      · simp only [Act.put, List.setIfInBounds_toArray, List.set_cons_zero, List.set_cons_succ, i64_w, i32_w]
        rfl
      refine pure_ (i := 16) (N := some 13) (v := ?_) (a' := ?_) #[true, true, true, true, true, true, true, true, true, false, false, true, true, false, false, false, true, false] rfl rfl (by kernel_rfl) (fun _ _ _ h => h) (Or.inl ⟨by rfl, ?_⟩) ?_ ?_
      rotate_left
      · intro w'
        go_simp
        with_reducible rfl
      rotate_left
      · simp only [Act.put, List.setIfInBounds_toArray, List.set_cons_zero, List.set_cons_succ, i64_w, i32_w]
        rfl
      refine take_ (i := 9) (N := some 74) (v := ?_) (a' := ?_) #[true, true, true, true, true, true, true, true, true, true, false, true, true, false, false, false, true, false] rfl rfl (by kernel_rfl) (fun _ _ _ h => h) (Or.inl ⟨by rfl, ?_⟩) hHeld ?_ ?_
      rotate_left
      · rintro w' ⟨s0, s1⟩
        go_simp
        with_reducible rfl
      rotate_left
      · simp only [Act.put, List.setIfInBounds_toArray, List.set_cons_zero, List.set_cons_succ, i64_w, i32_w]
        rfl
      refine take_ (i := 10) (N := some 75) (v := ?_) (a' := ?_) #[true, true, true, true, true, true, true, true, true, true, true, true, true, false, false, false, true, false] rfl rfl (by kernel_rfl) (fun _ _ _ h => h) (Or.inl ⟨by rfl, ?_⟩) hHeld ?_ ?_
      rotate_left
      · rintro w' ⟨s0, s1⟩
        go_simp
        with_reducible rfl
      rotate_left
      · simp only [Act.put, List.setIfInBounds_toArray, List.set_cons_zero, List.set_cons_succ, i64_w, i32_w]
        rfl
      refine take_ (i := 13) (N := some 78) (v := ?_) (a' := ?_) #[true, true, true, true, true, true, true, true, true, true, true, true, true, true, false, false, true, false] rfl rfl (by kernel_rfl) (fun _ _ _ h => h) (Or.inl ⟨by rfl, ?_⟩) hHeld ?_ ?_
      rotate_left
      · rintro w' ⟨s0, s1⟩
        go_simp
        with_reducible rfl
      rotate_left
      · simp only [Act.put, List.setIfInBounds_toArray, List.set_cons_zero, List.set_cons_succ, i64_w, i32_w]
        rfl
      refine pure_ (i := 14) (N := some 79) (v := ?_) (a' := ?_) #[true, true, true, true, true, true, true, true, true, true, true, true, true, true, true, false, true, false] rfl rfl (by kernel_rfl) (fun _ _ _ h => h) (Or.inl ⟨by rfl, ?_⟩) ?_ ?_
      rotate_left
      · intro w'
        go_simp
        with_reducible rfl
      rotate_left
      · simp only [Act.put, List.setIfInBounds_toArray, List.set_cons_zero, List.set_cons_succ, i64_w, i32_w]
        rfl
      refine take_ (i := 15) (N := some 80) (v := ?_) (a' := ?_) #[true, true, true, true, true, true, true, true, true, true, true, true, true, true, true, true, true, false] rfl rfl (by kernel_rfl) (fun _ _ _ h => h) (Or.inl ⟨by rfl, ?_⟩) hHeld ?_ ?_
      rotate_left
      · rintro w' ⟨s0, s1⟩
        go_simp
        with_reducible rfl
      rotate_left
      · simp only [Act.put, List.setIfInBounds_toArray, List.set_cons_zero, List.set_cons_succ, i64_w, i32_w]
        rfl
      refine pure_ (i := 17) (N := some 14) (v := ?_) (a' := ?_) #[true, true, true, true, true, true, true, true, true, true, true, true, true, true, true, true, true, true] rfl rfl (by kernel_rfl) (fun _ _ _ h => h) (Or.inl ⟨by rfl, ?_⟩) ?_ ?_
      rotate_left
      · intro w'
        go_simp
        with_reducible rfl
      rotate_left
      · simp only [Act.put, List.setIfInBounds_toArray, List.set_cons_zero, List.set_cons_succ, i64_w, i32_w]
        rfl
      refine done_ (by kernel_rfl) ?_
      clear hx0 hx1 e2 f0 f0b f0c
      simp only [HIK.out.1, HIK.out.2]
      obtain ⟨vi, vk, ⟨Ai, ni, mi, rfl⟩, ⟨Ak, nk, mk, rfl⟩, ci, ck, fi, fk, hsw⟩ := R_swap rfl (Kd.R_drew (Kd.R_drew HRc.out)) i k HI.out.1 HI.out.2
      have q1 : ((i : Int) < ((chunks l0 a1).length : Int)) = True := eq_true (Int.ofNat_lt.2 HI.out.1)
      have q2 : (i < (chunks l0 a1).length) = True := eq_true HI.out.1
      have q3 : ((k : Int) < ((chunks l0 a1).length : Int)) = True := eq_true (Int.ofNat_lt.2 HI.out.2)
      have q4 : (k < (chunks l0 a1).length) = True := eq_true HI.out.2
      have fk2 : Wc.frozen? ⟨g9, k, none⟩ = false := by exact fk
      have fi2 : Wc.frozen? ⟨g9, i, none⟩ = false := by exact fi
      have ck2 : Wc.cell? ⟨g9, k, none⟩ = some (.slice Ak nk mk) := by exact ck
      obtain ⟨vy, hy⟩ := RowKit.cell?_setCell_some (w := Wc) (p := ⟨g9, i, none⟩) (x := .slice Ak nk mk) ck2
      have HCI := Aside0.mk (And.intro ci ck)
      clear ck2
      have HSW := Aside0.mk hsw
      clear ci ck hsw
      go_upto_region 13 with (fail)
      refine start_ (n := 16) (S := fun w' => w'.cell? ⟨g9, k, none⟩ = some (.slice Ak nk mk) ∧ w'.cell? ⟨g9, i, none⟩ = some (.slice Ai ni mi)) (ds := [13, 15]) #[false, false, false, false, false, false, false, false, false, false, false, false, false, false, false, false] (by kernel_rfl) rfl rfl ⟨(by exact HCI.out.2), (by exact HCI.out.1)⟩ (fun hHeld => ?_)
      refine pure_ (i := 0) (N := some 81) (v := ?_) (a' := ?_) #[true, false, false, false, false, false, false, false, false, false, false, false, false, false, false, false] rfl rfl (by kernel_rfl) (fun _ _ _ h => h) (Or.inl ⟨by rfl, ?_⟩) ?_ ?_
      rotate_left
      · intro w'
        go_simp
        with_reducible rfl
      rotate_left
      · simp only [Act.put, List.setIfInBounds_toArray, List.set_cons_zero, List.set_cons_succ, i64_w, i32_w]
        rfl
      refine pure_ (i := 1) (N := some 82) (v := ?_) (a' := ?_) #[true, true, false, false, false, false, false, false, false, false, false, false, false, false, false, false] rfl rfl (by kernel_rfl) (fun _ _ _ h => h) (Or.inl ⟨by rfl, ?_⟩) ?_ ?_
      rotate_left
      · intro w'
        go_simp
        with_reducible rfl
      rotate_left
      · simp only [Act.put, List.setIfInBounds_toArray, List.set_cons_zero, List.set_cons_succ, i64_w, i32_w]
        rfl
      refine pure_ (i := 2) (N := some 83) (v := ?_) (a' := ?_) #[true, true, true, false, false, false, false, false, false, false, false, false, false, false, false, false] rfl rfl (by kernel_rfl) (fun _ _ _ h => h) (Or.inl ⟨by rfl, ?_⟩) ?_ ?_
      rotate_left
      · intro w'
        go_simp
        with_reducible rfl
      rotate_left
      · simp only [Act.put, List.setIfInBounds_toArray, List.set_cons_zero, List.set_cons_succ, i64_w, i32_w]
        rfl
      refine pure_ (i := 3) (N := some 84) (v := ?_) (a' := ?_) #[true, true, true, true, false, false, false, false, false, false, false, false, false, false, false, false] rfl rfl (by kernel_rfl) (fun _ _ _ h => h) (Or.inl ⟨by rfl, ?_⟩) ?_ ?_
      rotate_left
      · intro w'
        go_simp
        with_reducible rfl
      rotate_left
      · simp only [Act.put, List.setIfInBounds_toArray, List.set_cons_zero, List.set_cons_succ, i64_w, i32_w]
        rfl
      refine pure_ (i := 4) (N := some 85) (v := ?_) (a' := ?_) #[true, true, true, true, true, false, false, false, false, false, false, false, false, false, false, false] rfl rfl (by kernel_rfl) (fun _ _ _ h => h) (Or.inl ⟨by rfl, ?_⟩) ?_ ?_
      rotate_left
      · intro w'
        go_simp
        with_reducible rfl
      rotate_left
      · simp only [Act.put, List.setIfInBounds_toArray, List.set_cons_zero, List.set_cons_succ, i64_w, i32_w]
        rfl
      refine pure_ (i := 5) (N := some 86) (v := ?_) (a' := ?_) #[true, true, true, true, true, true, false, false, false, false, false, false, false, false, false, false] rfl rfl (by kernel_rfl) (fun _ _ _ h => h) (Or.inl ⟨by rfl, ?_⟩) ?_ ?_
      rotate_left
      · intro w'
        go_simp
        with_reducible rfl
      rotate_left
      · simp only [Act.put, List.setIfInBounds_toArray, List.set_cons_zero, List.set_cons_succ, i64_w, i32_w]
        rfl
      refine pure_ (i := 6) (N := some 87) (v := ?_) (a' := ?_) #[true, true, true, true, true, true, true, false, false, false, false, false, false, false, false, false] rfl rfl (by kernel_rfl) (fun _ _ _ h => h) (Or.inl ⟨by rfl, ?_⟩) ?_ ?_
      rotate_left
      · intro w'
        go_simp
        with_reducible rfl
      rotate_left
      · simp only [Act.put, List.setIfInBounds_toArray, List.set_cons_zero, List.set_cons_succ, i64_w, i32_w]
        rfl
      refine pure_ (i := 8) (N := some 89) (v := ?_) (a' := ?_) #[true, true, true, true, true, true, true, false, true, false, false, false, false, false, false, false] rfl rfl (by kernel_rfl) (fun _ _ _ h => h) (Or.inl ⟨by rfl, ?_⟩) ?_ ?_
      rotate_left
      · intro w'
        go_simp
        with_reducible rfl
      rotate_left
      · simp only [Act.put, List.setIfInBounds_toArray, List.set_cons_zero, List.set_cons_succ, i64_w, i32_w]
        rfl
      refine pure_ (i := 9) (N := some 90) (v := ?_) (a' := ?_) #[true, true, true, true, true, true, true, false, true, true, false, false, false, false, false, false] rfl rfl (by kernel_rfl) (fun _ _ _ h => h) (Or.inl ⟨by rfl, ?_⟩) ?_ ?_
      rotate_left
      · intro w'
        go_simp
        with_reducible rfl
      rotate_left
      · simp only [Act.put, List.setIfInBounds_toArray, List.set_cons_zero, List.set_cons_succ, i64_w, i32_w]
        rfl
      refine pure_ (i := 10) (N := some 91) (v := ?_) (a' := ?_) #[true, true, true, true, true, true, true, false, true, true, true, false, false, false, false, false] rfl rfl (by kernel_rfl) (fun _ _ _ h => h) (Or.inl ⟨by rfl, ?_⟩) ?_ ?_
      rotate_left
      · intro w'
        go_simp
        with_reducible rfl
      rotate_left
      · simp only [Act.put, List.setIfInBounds_toArray, List.set_cons_zero, List.set_cons_succ, i64_w, i32_w]
        rfl
      refine take_ (i := 7) (N := some 88) (v := ?_) (a' := ?_) #[true, true, true, true, true, true, true, true, true, true, true, false, false, false, false, false] rfl rfl (by kernel_rfl) (fun _ _ _ h => h) (Or.inl ⟨by rfl, ?_⟩) hHeld ?_ ?_
      rotate_left
      · rintro w' ⟨s0, s1⟩
        go_simp
        with_reducible rfl
      rotate_left
      · simp only [Act.put, List.setIfInBounds_toArray, List.set_cons_zero, List.set_cons_succ, i64_w, i32_w]
        rfl
      refine take_ (i := 11) (N := some 92) (v := ?_) (a' := ?_) #[true, true, true, true, true, true, true, true, true, true, true, true, false, false, false, false] rfl rfl (by kernel_rfl) (fun _ _ _ h => h) (Or.inl ⟨by rfl, ?_⟩) hHeld ?_ ?_
      rotate_left
      · rintro w' ⟨s0, s1⟩
        go_simp
        with_reducible rfl
      rotate_left
      · simp only [Act.put, List.setIfInBounds_toArray, List.set_cons_zero, List.set_cons_succ, i64_w, i32_w]
        rfl
      refine pure_ (i := 12) (N := some 93) (v := ?_) (a' := ?_) #[true, true, true, true, true, true, true, true, true, true, true, true, true, false, false, false] rfl rfl (by kernel_rfl) (fun _ _ _ h => h) (Or.inl ⟨by rfl, ?_⟩) ?_ ?_
      rotate_left
      · intro w'
        go_simp
        with_reducible rfl
      rotate_left
      · simp only [Act.put, List.setIfInBounds_toArray, List.set_cons_zero, List.set_cons_succ, i64_w, i32_w]
        rfl
      refine last_ (i := 13) (N := none) #[true, true, true, true, true, true, true, true, true, true, true, true, true, true, false, false] rfl rfl (by kernel_rfl) (by decide) (fun K hK => ?_)
      refine skip_ (w1 := ?_) (by rfl) rfl ?_ ?_
      rotate_left
      · go_simp
        rfl
      refine hK.out _ _ ?_
      clear hK K
      refine pure_ (i := 14) (N := some 94) (v := ?_) (a' := ?_) #[true, true, true, true, true, true, true, true, true, true, true, true, true, true, true, false] rfl rfl (by kernel_rfl) (fun _ _ _ h => h) (Or.inl ⟨by rfl, ?_⟩) ?_ ?_
      rotate_left
      · intro w'
        go_simp
        with_reducible rfl
      rotate_left
      · simp only [Act.put, List.setIfInBounds_toArray, List.set_cons_zero, List.set_cons_succ, i64_w, i32_w]
        rfl
      refine last_ (i := 15) (N := none) #[true, true, true, true, true, true, true, true, true, true, true, true, true, true, true, true] rfl rfl (by kernel_rfl) (by decide) (fun K hK => ?_)
      refine skip_ (w1 := ?_) (by rfl) rfl ?_ ?_
      rotate_left
      · go_simp
        rfl
      refine hK.out _ _ ?_
      clear hK K
      refine done_ (by kernel_rfl) ?_
      clear hy fk2 fi2 fk fi q1 q2 q3 q4
      have HR9 := HSW.out
      obtain ⟨L', hL'⟩ : ∃ L', L' = (((chunks l0 a1).set i ((chunks l0 a1).getD k [])).set k ((chunks l0 a1).getD i [])) := ⟨_, rfl⟩
      have hll : L'.length = (chunks l0 a1).length := by rw [hL', List.length_set, List.length_set]
      have hcl := HS.out.2
      have hjn : JN L' a1 (l0.length : Int) = if i = k then (l0, 0) else ([], 180) := by
        rw [hL', chunks_get l0 a1 k (by have := HI.out; omega), chunks_get l0 a1 i (by have := HI.out; omega)]
        exact JN_swap l0 a1 HS.out.1 (by have := HLL.out; omega) i k (by have := HI.out; omega) (by have := HI.out; omega)
      rw [← hL'] at HR9
      obtain ⟨A', c', he, hlc, hC⟩ := Kd.R_reads HR9
      injection he with he1 he2 he3
      subst he1 he3
      obtain ⟨kj, hj⟩ := HJOIN.out L' a1 (l0.length : Int) (by rw [hll]; have := HLL.out; omega)
      rw [hjn] at hj
      have HJ := Aside0.mk (fun W hT hC => chunk_Join.calls kj (some ⟨g9, 0, none⟩) c9 L' a1 (l0.length : Int) (if i = k then (l0, 0) else ([], 180)).1 (if i = k then (l0, 0) else ([], 180)).2 W hT hC hlc hj)
      rw [hll] at HJ hC
      have HC9 := Aside0.mk hC
      clear HR9 hlc hjn hj hL' hll he2 hcl hC
      have hg := HG9.out
      have HBs := Aside0.mk (show Below w.heap.size w ((Wc.setCell ⟨g9, i, none⟩ (.slice Ak nk mk)).setCell ⟨g9, k, none⟩ (.slice Ai ni mi)).drew.drew from below_drew (below_drew ((HBc.out.setCell (p := ⟨g9, i, none⟩) hg _).setCell (p := ⟨g9, k, none⟩) hg _)))
      clear hg HCI
      by_cases hik2 : i = k
      · simp only [if_pos hik2] at HJ
        have b1 : ((i : Int) == (k : Int)) = true := beq_iff_eq.2 (by omega)
        have b2 : (i == k) = true := beq_iff_eq.2 hik2
        have b3 : ((i : Int) = (k : Int)) = True := eq_true (by omega)
        have b4 : (i = k) = True := eq_true hik2
        have HIKE := Aside0.mk hik2
        clear hik2
        go_wp2_with (first | (go_at_call 14; refine (HJ.out _ (Kd.C_below HT.out HBs.out) HC9.out).mono ?_; rintro e W5 ⟨v5, rfl, ho5, hb5⟩; refine of_halt ?_))
        unfold G.Halt
        obtain ⟨A5, c5, rfl, hc5, hC5⟩ := Kd.R_reads ho5
        have HB5 := Aside0.mk (below_step HBs.out hb5)
        have hcv1 := Kd.C_string (P := Tryd.prog) (src := 22) (dst := 9) Tryd.underlying22 Tryd.underlying5 Tryd.underlying9 (c := c5) hC5
        have hcv2 := Kd.C_string (P := Tryd.prog) (src := 22) (dst := 9) Tryd.underlying22 Tryd.underlying5 Tryd.underlying9 (c := cap0) (Kd.C_below HR.out HB5.out)
        clear ho5 hb5 hc5 hC5
        go_wp2
        go_ret
        exact ⟨rfl, HB5.out⟩
      · simp only [if_neg hik2] at HJ
        have b1 : ((i : Int) == (k : Int)) = false := by simp; omega
        have b2 : (i == k) = false := by simpa using hik2
        have b3 : ((i : Int) = (k : Int)) = False := eq_false (by omega)
        have b4 : (i = k) = False := eq_false hik2
        clear hik2
        go_wp2_with (first | (go_at_call 14; refine (HJ.out _ (Kd.C_below HT.out HBs.out) HC9.out).mono ?_; rintro e W5 ⟨v5, rfl, ho5, hb5⟩; refine of_halt ?_))
        unfold G.Halt
        obtain ⟨A5, c5, rfl, hc5, hC5⟩ := Kd.R_reads ho5
        have HB5 := Aside0.mk (below_step HBs.out hb5)
        clear ho5 hb5 hc5 hC5
        go_wp2
        go_ret
        exact ⟨rfl, HB5.out⟩
    · have het := HET.out
      rw [if_neg hrg] at het
      subst het
      by_cases h1 : 1 ≤ a2
      · have u1 : decide (1 ≤ a2) = true := decide_eq_true h1
        have u2 : decide (a2 ≤ 2147483647) = false := decide_eq_false (by omega)
        clear hrg h1
        have hx0 : Wc.cell? ⟨w.heap.size, 0, none⟩ = some (.int .i64 s0) := blk_cell HBxc.out 0
        have hx1 : Wc.cell? ⟨w.heap.size, 1, none⟩ = some (.int .i64 s1) := blk_cell HBxc.out 1
        have HX0 := Aside0.mk hx0
        have HX1 := Aside0.mk hx1
        have e2 := HE2.out
        go_upto_region 12 with (fail)
        refine start_ (n := 18) (S := fun w' => w'.cell? ⟨w.heap.size, 0, none⟩ = some (.int .i64 s0) ∧ w'.cell? ⟨w.heap.size, 1, none⟩ = some (.int .i64 s1)) (ds := []) #[false, false, false, false, false, false, false, false, false, false, false, false, false, false, false, false, false, false] (by kernel_rfl) rfl rfl ⟨(by exact HX0.out), (by exact HX1.out)⟩ (fun hHeld => ?_)
        refine pure_ (i := 0) (N := some 65) (v := ?_) (a' := ?_) #[true, false, false, false, false, false, false, false, false, false, false, false, false, false, false, false, false, false] rfl rfl (by kernel_rfl) (fun _ _ _ h => h) (Or.inl ⟨by rfl, ?_⟩) ?_ ?_
        rotate_left
        · intro w'
          go_simp
          with_reducible rfl
        rotate_left
        · simp only [Act.put, List.setIfInBounds_toArray, List.set_cons_zero, List.set_cons_succ, i64_w, i32_w]
          rfl
        refine pure_ (i := 3) (N := some 68) (v := ?_) (a' := ?_) #[true, false, false, true, false, false, false, false, false, false, false, false, false, false, false, false, false, false] rfl rfl (by kernel_rfl) (fun _ _ _ h => h) (Or.inl ⟨by rfl, ?_⟩) ?_ ?_
        rotate_left
        · intro w'
          go_simp
          with_reducible rfl
        rotate_left
        · simp only [Act.put, List.setIfInBounds_toArray, List.set_cons_zero, List.set_cons_succ, i64_w, i32_w]
          rfl
        refine pure_ (i := 4) (N := some 69) (v := ?_) (a' := ?_) #[true, false, false, true, true, false, false, false, false, false, false, false, false, false, false, false, false, false] rfl rfl (by kernel_rfl) (fun _ _ _ h => h) (Or.inl ⟨by rfl, ?_⟩) ?_ ?_
        rotate_left
        · intro w'
          go_simp
          with_reducible rfl
        rotate_left
        · simp only [Act.put, List.setIfInBounds_toArray, List.set_cons_zero, List.set_cons_succ, i64_w, i32_w]
          rfl
        refine pure_ (i := 8) (N := some 73) (v := ?_) (a' := ?_) #[true, false, false, true, true, false, false, false, true, false, false, false, false, false, false, false, false, false] rfl rfl (by kernel_rfl) (fun _ _ _ h => h) (Or.inl ⟨by rfl, ?_⟩) ?_ ?_
        rotate_left
        · intro w'
          go_simp
          with_reducible rfl
        rotate_left
        · simp only [Act.put, List.setIfInBounds_toArray, List.set_cons_zero, List.set_cons_succ, i64_w, i32_w]
          rfl
        refine pure_ (i := 11) (N := some 76) (v := ?_) (a' := ?_) #[true, false, false, true, true, false, false, false, true, false, false, true, false, false, false, false, false, false] rfl rfl (by kernel_rfl) (fun _ _ _ h => h) (Or.inl ⟨by rfl, ?_⟩) ?_ ?_
        rotate_left
        · intro w'
          go_simp
          with_reducible rfl
        rotate_left
        · simp only [Act.put, List.setIfInBounds_toArray, List.set_cons_zero, List.set_cons_succ, i64_w, i32_w]
          rfl
        refine pure_ (i := 12) (N := some 77) (v := ?_) (a' := ?_) #[true, false, false, true, true, false, false, false, true, false, false, true, true, false, false, false, false, false] rfl rfl (by kernel_rfl) (fun _ _ _ h => h) (Or.inl ⟨by rfl, ?_⟩) ?_ ?_
        rotate_left
        · intro w'
          go_simp
          with_reducible rfl
        rotate_left
        · simp only [Act.put, List.setIfInBounds_toArray, List.set_cons_zero, List.set_cons_succ, i64_w, i32_w]
          rfl
        refine take_ (i := 1) (N := some 66) (v := ?_) (a' := ?_) #[true, true, false, true, true, false, false, false, true, false, false, true, true, false, false, false, false, false] rfl rfl (by kernel_rfl) (fun _ _ _ h => h) (Or.inl ⟨by rfl, ?_⟩) hHeld ?_ ?_
        rotate_left
        · rintro w' ⟨s0, s1⟩
          go_simp
          with_reducible rfl
        rotate_left
        · simp only [Act.put, List.setIfInBounds_toArray, List.set_cons_zero, List.set_cons_succ, i64_w, i32_w]
          rfl
        refine take_ (i := 2) (N := some 67) (v := ?_) (a' := ?_) #[true, true, true, true, true, false, false, false, true, false, false, true, true, false, false, false, false, false] rfl rfl (by kernel_rfl) (fun _ _ _ h => h) (Or.inl ⟨by rfl, ?_⟩) hHeld ?_ ?_
        rotate_left
        · rintro w' ⟨s0, s1⟩
          go_simp
          with_reducible rfl
        rotate_left
        · simp only [Act.put, List.setIfInBounds_toArray, List.set_cons_zero, List.set_cons_succ, i64_w, i32_w]
          rfl
        refine take_ (i := 5) (N := some 70) (v := ?_) (a' := ?_) #[true, true, true, true, true, true, false, false, true, false, false, true, true, false, false, false, false, false] rfl rfl (by kernel_rfl) (fun _ _ _ h => h) (Or.inl ⟨by rfl, ?_⟩) hHeld ?_ ?_
        rotate_left
        · rintro w' ⟨s0, s1⟩
          go_simp
          with_reducible rfl
        rotate_left
        · simp only [Act.put, List.setIfInBounds_toArray, List.set_cons_zero, List.set_cons_succ, i64_w, i32_w]
          rfl
        refine pure_ (i := 6) (N := some 71) (v := ?_) (a' := ?_) #[true, true, true, true, true, true, true, false, true, false, false, true, true, false, false, false, false, false] rfl rfl (by kernel_rfl) (fun _ _ _ h => h) (Or.inl ⟨by rfl, ?_⟩) ?_ ?_
        rotate_left
        · intro w'
          go_simp
          with_reducible rfl
        rotate_left
        · simp only [Act.put, List.setIfInBounds_toArray, List.set_cons_zero, List.set_cons_succ, i64_w, i32_w]
          rfl
        refine take_ (i := 7) (N := some 72) (v := ?_) (a' := ?_) #[true, true, true, true, true, true, true, true, true, false, false, true, true, false, false, false, false, false] rfl rfl (by kernel_rfl) (fun _ _ _ h => h) (Or.inl ⟨by rfl, ?_⟩) hHeld ?_ ?_
        rotate_left
        · rintro w' ⟨s0, s1⟩
          go_simp
          with_reducible rfl
        rotate_left
        · simp only [Act.put, List.setIfInBounds_toArray, List.set_cons_zero, List.set_cons_succ, i64_w, i32_w]
          rfl
        refine pure_ (i := 16) (N := some 13) (v := ?_) (a' := ?_) #[true, true, true, true, true, true, true, true, true, false, false, true, true, false, false, false, true, false] rfl rfl (by kernel_rfl) (fun _ _ _ h => h) (Or.inl ⟨by rfl, ?_⟩) ?_ ?_
        rotate_left
        · intro w'
          go_simp
          with_reducible rfl
        rotate_left
        · simp only [Act.put, List.setIfInBounds_toArray, List.set_cons_zero, List.set_cons_succ, i64_w, i32_w]
          rfl
        refine take_ (i := 9) (N := some 74) (v := ?_) (a' := ?_) #[true, true, true, true, true, true, true, true, true, true, false, true, true, false, false, false, true, false] rfl rfl (by kernel_rfl) (fun _ _ _ h => h) (Or.inl ⟨by rfl, ?_⟩) hHeld ?_ ?_
        rotate_left
        · rintro w' ⟨s0, s1⟩
          go_simp
          with_reducible rfl
        rotate_left
        · simp only [Act.put, List.setIfInBounds_toArray, List.set_cons_zero, List.set_cons_succ, i64_w, i32_w]
          rfl
        refine take_ (i := 10) (N := some 75) (v := ?_) (a' := ?_) #[true, true, true, true, true, true, true, true, true, true, true, true, true, false, false, false, true, false] rfl rfl (by kernel_rfl) (fun _ _ _ h => h) (Or.inl ⟨by rfl, ?_⟩) hHeld ?_ ?_
        rotate_left
        · rintro w' ⟨s0, s1⟩
          go_simp
          with_reducible rfl
        rotate_left
        · simp only [Act.put, List.setIfInBounds_toArray, List.set_cons_zero, List.set_cons_succ, i64_w, i32_w]
          rfl
        refine take_ (i := 13) (N := some 78) (v := ?_) (a' := ?_) #[true, true, true, true, true, true, true, true, true, true, true, true, true, true, false, false, true, false] rfl rfl (by kernel_rfl) (fun _ _ _ h => h) (Or.inl ⟨by rfl, ?_⟩) hHeld ?_ ?_
        rotate_left
        · rintro w' ⟨s0, s1⟩
          go_simp
          with_reducible rfl
        rotate_left
        · simp only [Act.put, List.setIfInBounds_toArray, List.set_cons_zero, List.set_cons_succ, i64_w, i32_w]
          rfl
        refine pure_ (i := 14) (N := some 79) (v := ?_) (a' := ?_) #[true, true, true, true, true, true, true, true, true, true, true, true, true, true, true, false, true, false] rfl rfl (by kernel_rfl) (fun _ _ _ h => h) (Or.inl ⟨by rfl, ?_⟩) ?_ ?_
        rotate_left
        · intro w'
          go_simp
          with_reducible rfl
        rotate_left
        · simp only [Act.put, List.setIfInBounds_toArray, List.set_cons_zero, List.set_cons_succ, i64_w, i32_w]
          rfl
        refine take_ (i := 15) (N := some 80) (v := ?_) (a' := ?_) #[true, true, true, true, true, true, true, true, true, true, true, true, true, true, true, true, true, false] rfl rfl (by kernel_rfl) (fun _ _ _ h => h) (Or.inl ⟨by rfl, ?_⟩) hHeld ?_ ?_
        rotate_left
        · rintro w' ⟨s0, s1⟩
          go_simp
          with_reducible rfl
        rotate_left
        · simp only [Act.put, List.setIfInBounds_toArray, List.set_cons_zero, List.set_cons_succ, i64_w, i32_w]
          rfl
        refine pure_ (i := 17) (N := some 14) (v := ?_) (a' := ?_) #[true, true, true, true, true, true, true, true, true, true, true, true, true, true, true, true, true, true] rfl rfl (by kernel_rfl) (fun _ _ _ h => h) (Or.inl ⟨by rfl, ?_⟩) ?_ ?_
        rotate_left
        · intro w'
          go_simp
          with_reducible rfl
        rotate_left
        · simp only [Act.put, List.setIfInBounds_toArray, List.set_cons_zero, List.set_cons_succ, i64_w, i32_w]
          rfl
        refine done_ (by kernel_rfl) ?_
        clear hx0 hx1 e2 f0 f0b f0c
        simp only [HIK.out.1, HIK.out.2]
        obtain ⟨vi, vk, ⟨Ai, ni, mi, rfl⟩, ⟨Ak, nk, mk, rfl⟩, ci, ck, fi, fk, hsw⟩ := R_swap rfl (Kd.R_drew (Kd.R_drew HRc.out)) i k HI.out.1 HI.out.2
        have q1 : ((i : Int) < ((chunks l0 a1).length : Int)) = True := eq_true (Int.ofNat_lt.2 HI.out.1)
        have q2 : (i < (chunks l0 a1).length) = True := eq_true HI.out.1
        have q3 : ((k : Int) < ((chunks l0 a1).length : Int)) = True := eq_true (Int.ofNat_lt.2 HI.out.2)
        have q4 : (k < (chunks l0 a1).length) = True := eq_true HI.out.2
        have fk2 : Wc.frozen? ⟨g9, k, none⟩ = false := by exact fk
        have fi2 : Wc.frozen? ⟨g9, i, none⟩ = false := by exact fi
        have ck2 : Wc.cell? ⟨g9, k, none⟩ = some (.slice Ak nk mk) := by exact ck
        obtain ⟨vy, hy⟩ := RowKit.cell?_setCell_some (w := Wc) (p := ⟨g9, i, none⟩) (x := .slice Ak nk mk) ck2
        have HCI := Aside0.mk (And.intro ci ck)
        clear ck2
        have HSW := Aside0.mk hsw
        clear ci ck hsw
        go_upto_region 13 with (fail)
        refine start_ (n := 16) (S := fun w' => w'.cell? ⟨g9, k, none⟩ = some (.slice Ak nk mk) ∧ w'.cell? ⟨g9, i, none⟩ = some (.slice Ai ni mi)) (ds := [13, 15]) #[false, false, false, false, false, false, false, false, false, false, false, false, false, false, false, false] (by kernel_rfl) rfl rfl ⟨(by exact HCI.out.2), (by exact HCI.out.1)⟩ (fun hHeld => ?_)
        refine pure_ (i := 0) (N := some 81) (v := ?_) (a' := ?_) #[true, false, false, false, false, false, false, false, false, false, false, false, false, false, false, false] rfl rfl (by kernel_rfl) (fun _ _ _ h => h) (Or.inl ⟨by rfl, ?_⟩) ?_ ?_
        rotate_left
        · intro w'
          go_simp
          with_reducible rfl
        rotate_left
        · simp only [Act.put, List.setIfInBounds_toArray, List.set_cons_zero, List.set_cons_succ, i64_w, i32_w]
          rfl
        refine pure_ (i := 1) (N := some 82) (v := ?_) (a' := ?_) #[true, true, false, false, false, false, false, false, false, false, false, false, false, false, false, false] rfl rfl (by kernel_rfl) (fun _ _ _ h => h) (Or.inl ⟨by rfl, ?_⟩) ?_ ?_
        rotate_left
        · intro w'
          go_simp
          with_reducible rfl
        rotate_left
        · simp only [Act.put, List.setIfInBounds_toArray, List.set_cons_zero, List.set_cons_succ, i64_w, i32_w]
          rfl
        refine pure_ (i := 2) (N := some 83) (v := ?_) (a' := ?_) #[true, true, true, false, false, false, false, false, false, false, false, false, false, false, false, false] rfl rfl (by kernel_rfl) (fun _ _ _ h => h) (Or.inl ⟨by rfl, ?_⟩) ?_ ?_
        rotate_left
        · intro w'
          go_simp
          with_reducible rfl
        rotate_left
        · simp only [Act.put, List.setIfInBounds_toArray, List.set_cons_zero, List.set_cons_succ, i64_w, i32_w]
          rfl
        refine pure_ (i := 3) (N := some 84) (v := ?_) (a' := ?_) #[true, true, true, true, false, false, false, false, false, false, false, false, false, false, false, false] rfl rfl (by kernel_rfl) (fun _ _ _ h => h) (Or.inl ⟨by rfl, ?_⟩) ?_ ?_
        rotate_left
        · intro w'
          go_simp
          with_reducible rfl
        rotate_left
        · simp only [Act.put, List.setIfInBounds_toArray, List.set_cons_zero, List.set_cons_succ, i64_w, i32_w]
          rfl
        refine pure_ (i := 4) (N := some 85) (v := ?_) (a' := ?_) #[true, true, true, true, true, false, false, false, false, false, false, false, false, false, false, false] rfl rfl (by kernel_rfl) (fun _ _ _ h => h) (Or.inl ⟨by rfl, ?_⟩) ?_ ?_
        rotate_left
        · intro w'
          go_simp
          with_reducible rfl
        rotate_left
        · simp only [Act.put, List.setIfInBounds_toArray, List.set_cons_zero, List.set_cons_succ, i64_w, i32_w]
          rfl
        refine pure_ (i := 5) (N := some 86) (v := ?_) (a' := ?_) #[true, true, true, true, true, true, false, false, false, false, false, false, false, false, false, false] rfl rfl (by kernel_rfl) (fun _ _ _ h => h) (Or.inl ⟨by rfl, ?_⟩) ?_ ?_
        rotate_left
        · intro w'
          go_simp
          with_reducible rfl
        rotate_left
        · simp only [Act.put, List.setIfInBounds_toArray, List.set_cons_zero, List.set_cons_succ, i64_w, i32_w]
          rfl
        refine pure_ (i := 6) (N := some 87) (v := ?_) (a' := ?_) #[true, true, true, true, true, true, true, false, false, false, false, false, false, false, false, false] rfl rfl (by kernel_rfl) (fun _ _ _ h => h) (Or.inl ⟨by rfl, ?_⟩) ?_ ?_
        rotate_left
        · intro w'
          go_simp
          with_reducible rfl
        rotate_left
        · simp only [Act.put, List.setIfInBounds_toArray, List.set_cons_zero, List.set_cons_succ, i64_w, i32_w]
          rfl
        refine pure_ (i := 8) (N := some 89) (v := ?_) (a' := ?_) #[true, true, true, true, true, true, true, false, true, false, false, false, false, false, false, false] rfl rfl (by kernel_rfl) (fun _ _ _ h => h) (Or.inl ⟨by rfl, ?_⟩) ?_ ?_
        rotate_left
        · intro w'
          go_simp
          with_reducible rfl
        rotate_left
        · simp only [Act.put, List.setIfInBounds_toArray, List.set_cons_zero, List.set_cons_succ, i64_w, i32_w]
          rfl
        refine pure_ (i := 9) (N := some 90) (v := ?_) (a' := ?_) #[true, true, true, true, true, true, true, false, true, true, false, false, false, false, false, false] rfl rfl (by kernel_rfl) (fun _ _ _ h => h) (Or.inl ⟨by rfl, ?_⟩) ?_ ?_
        rotate_left
        · intro w'
          go_simp
          with_reducible rfl
        rotate_left
        · simp only [Act.put, List.setIfInBounds_toArray, List.set_cons_zero, List.set_cons_succ, i64_w, i32_w]
          rfl
        refine pure_ (i := 10) (N := some 91) (v := ?_) (a' := ?_) #[true, true, true, true, true, true, true, false, true, true, true, false, false, false, false, false] rfl rfl (by kernel_rfl) (fun _ _ _ h => h) (Or.inl ⟨by rfl, ?_⟩) ?_ ?_
        rotate_left
        · intro w'
          go_simp
          with_reducible rfl
        rotate_left
        · simp only [Act.put, List.setIfInBounds_toArray, List.set_cons_zero, List.set_cons_succ, i64_w, i32_w]
          rfl
        refine take_ (i := 7) (N := some 88) (v := ?_) (a' := ?_) #[true, true, true, true, true, true, true, true, true, true, true, false, false, false, false, false] rfl rfl (by kernel_rfl) (fun _ _ _ h => h) (Or.inl ⟨by rfl, ?_⟩) hHeld ?_ ?_
        rotate_left
        · rintro w' ⟨s0, s1⟩
          go_simp
          with_reducible rfl
        rotate_left
        · simp only [Act.put, List.setIfInBounds_toArray, List.set_cons_zero, List.set_cons_succ, i64_w, i32_w]
          rfl
        refine take_ (i := 11) (N := some 92) (v := ?_) (a' := ?_) #[true, true, true, true, true, true, true, true, true, true, true, true, false, false, false, false] rfl rfl (by kernel_rfl) (fun _ _ _ h => h) (Or.inl ⟨by rfl, ?_⟩) hHeld ?_ ?_
        rotate_left
        · rintro w' ⟨s0, s1⟩
          go_simp
          with_reducible rfl
        rotate_left
        · simp only [Act.put, List.setIfInBounds_toArray, List.set_cons_zero, List.set_cons_succ, i64_w, i32_w]
          rfl
        refine pure_ (i := 12) (N := some 93) (v := ?_) (a' := ?_) #[true, true, true, true, true, true, true, true, true, true, true, true, true, false, false, false] rfl rfl (by kernel_rfl) (fun _ _ _ h => h) (Or.inl ⟨by rfl, ?_⟩) ?_ ?_
        rotate_left
        · intro w'
          go_simp
          with_reducible rfl
        rotate_left
        · simp only [Act.put, List.setIfInBounds_toArray, List.set_cons_zero, List.set_cons_succ, i64_w, i32_w]
          rfl
        refine last_ (i := 13) (N := none) #[true, true, true, true, true, true, true, true, true, true, true, true, true, true, false, false] rfl rfl (by kernel_rfl) (by decide) (fun K hK => ?_)
        refine skip_ (w1 := ?_) (by rfl) rfl ?_ ?_
        rotate_left
        · go_simp
          rfl
        refine hK.out _ _ ?_
        clear hK K
        refine pure_ (i := 14) (N := some 94) (v := ?_) (a' := ?_) #[true, true, true, true, true, true, true, true, true, true, true, true, true, true, true, false] rfl rfl (by kernel_rfl) (fun _ _ _ h => h) (Or.inl ⟨by rfl, ?_⟩) ?_ ?_
        rotate_left
        · intro w'
          go_simp
          with_reducible rfl
        rotate_left
        · simp only [Act.put, List.setIfInBounds_toArray, List.set_cons_zero, List.set_cons_succ, i64_w, i32_w]
          rfl
        refine last_ (i := 15) (N := none) #[true, true, true, true, true, true, true, true, true, true, true, true, true, true, true, true] rfl rfl (by kernel_rfl) (by decide) (fun K hK => ?_)
        refine skip_ (w1 := ?_) (by rfl) rfl ?_ ?_
        rotate_left
        · go_simp
          rfl
        refine hK.out _ _ ?_
        clear hK K
        refine done_ (by kernel_rfl) ?_
        clear hy fk2 fi2 fk fi q1 q2 q3 q4
        have HR9 := HSW.out
        obtain ⟨L', hL'⟩ : ∃ L', L' = (((chunks l0 a1).set i ((chunks l0 a1).getD k [])).set k ((chunks l0 a1).getD i [])) := ⟨_, rfl⟩
        have hll : L'.length = (chunks l0 a1).length := by rw [hL', List.length_set, List.length_set]
        have hcl := HS.out.2
        have hjn : JN L' a1 (l0.length : Int) = if i = k then (l0, 0) else ([], 180) := by
          rw [hL', chunks_get l0 a1 k (by have := HI.out; omega), chunks_get l0 a1 i (by have := HI.out; omega)]
          exact JN_swap l0 a1 HS.out.1 (by have := HLL.out; omega) i k (by have := HI.out; omega) (by have := HI.out; omega)
        rw [← hL'] at HR9
        obtain ⟨A', c', he, hlc, hC⟩ := Kd.R_reads HR9
        injection he with he1 he2 he3
        subst he1 he3
        obtain ⟨kj, hj⟩ := HJOIN.out L' a1 (l0.length : Int) (by rw [hll]; have := HLL.out; omega)
        rw [hjn] at hj
        have HJ := Aside0.mk (fun W hT hC => chunk_Join.calls kj (some ⟨g9, 0, none⟩) c9 L' a1 (l0.length : Int) (if i = k then (l0, 0) else ([], 180)).1 (if i = k then (l0, 0) else ([], 180)).2 W hT hC hlc hj)
        rw [hll] at HJ hC
        have HC9 := Aside0.mk hC
        clear HR9 hlc hjn hj hL' hll he2 hcl hC
        have hg := HG9.out
        have HBs := Aside0.mk (show Below w.heap.size w ((Wc.setCell ⟨g9, i, none⟩ (.slice Ak nk mk)).setCell ⟨g9, k, none⟩ (.slice Ai ni mi)).drew.drew from below_drew (below_drew ((HBc.out.setCell (p := ⟨g9, i, none⟩) hg _).setCell (p := ⟨g9, k, none⟩) hg _)))
        clear hg HCI
        by_cases hik2 : i = k
        · simp only [if_pos hik2] at HJ
          have b1 : ((i : Int) == (k : Int)) = true := beq_iff_eq.2 (by omega)
          have b2 : (i == k) = true := beq_iff_eq.2 hik2
          have b3 : ((i : Int) = (k : Int)) = True := eq_true (by omega)
          have b4 : (i = k) = True := eq_true hik2
          have HIKE := Aside0.mk hik2
          clear hik2
          go_wp2_with (first | (go_at_call 14; refine (HJ.out _ (Kd.C_below HT.out HBs.out) HC9.out).mono ?_; rintro e W5 ⟨v5, rfl, ho5, hb5⟩; refine of_halt ?_))
          unfold G.Halt
          obtain ⟨A5, c5, rfl, hc5, hC5⟩ := Kd.R_reads ho5
          have HB5 := Aside0.mk (below_step HBs.out hb5)
          have hcv1 := Kd.C_string (P := Tryd.prog) (src := 22) (dst := 9) Tryd.underlying22 Tryd.underlying5 Tryd.underlying9 (c := c5) hC5
          have hcv2 := Kd.C_string (P := Tryd.prog) (src := 22) (dst := 9) Tryd.underlying22 Tryd.underlying5 Tryd.underlying9 (c := cap0) (Kd.C_below HR.out HB5.out)
          clear ho5 hb5 hc5 hC5
          go_wp2
          go_ret
          exact ⟨rfl, HB5.out⟩
        · simp only [if_neg hik2] at HJ
          have b1 : ((i : Int) == (k : Int)) = false := by simp; omega
          have b2 : (i == k) = false := by simpa using hik2
          have b3 : ((i : Int) = (k : Int)) = False := eq_false (by omega)
          have b4 : (i = k) = False := eq_false hik2
          clear hik2
          go_wp2_with (first | (go_at_call 14; refine (HJ.out _ (Kd.C_below HT.out HBs.out) HC9.out).mono ?_; rintro e W5 ⟨v5, rfl, ho5, hb5⟩; refine of_halt ?_))
          unfold G.Halt
          obtain ⟨A5, c5, rfl, hc5, hC5⟩ := Kd.R_reads ho5
          have HB5 := Aside0.mk (below_step HBs.out hb5)
          clear ho5 hb5 hc5 hC5
          go_wp2
          go_ret
          exact ⟨rfl, HB5.out⟩
      · have u1 : decide (1 ≤ a2) = false := decide_eq_false h1
        clear hrg h1
        have hx0 : Wc.cell? ⟨w.heap.size, 0, none⟩ = some (.int .i64 s0) := blk_cell HBxc.out 0
        have hx1 : Wc.cell? ⟨w.heap.size, 1, none⟩ = some (.int .i64 s1) := blk_cell HBxc.out 1
        have HX0 := Aside0.mk hx0
        have HX1 := Aside0.mk hx1
        have e2 := HE2.out
        go_upto_region 12 with (fail)
        refine start_ (n := 18) (S := fun w' => w'.cell? ⟨w.heap.size, 0, none⟩ = some (.int .i64 s0) ∧ w'.cell? ⟨w.heap.size, 1, none⟩ = some (.int .i64 s1)) (ds := []) #[false, false, false, false, false, false, false, false, false, false, false, false, false, false, false, false, false, false] (by kernel_rfl) rfl rfl ⟨(by exact HX0.out), (by exact HX1.out)⟩ (fun hHeld => ?_)
        refine pure_ (i := 0) (N := some 65) (v := ?_) (a' := ?_) #[true, false, false, false, false, false, false, false, false, false, false, false, false, false, false, false, false, false] rfl rfl (by kernel_rfl) (fun _ _ _ h => h) (Or.inl ⟨by rfl, ?_⟩) ?_ ?_
        rotate_left
        · intro w'
          go_simp
          with_reducible rfl
        rotate_left
        · simp only [Act.put, List.setIfInBounds_toArray, List.set_cons_zero, List.set_cons_succ, i64_w, i32_w]
          rfl
        refine pure_ (i := 3) (N := some 68) (v := ?_) (a' := ?_) #[true, false, false, true, false, false, false, false, false, false, false, false, false, false, false, false, false, false] rfl rfl (by kernel_rfl) (fun _ _ _ h => h) (Or.inl ⟨by rfl, ?_⟩) ?_ ?_
        rotate_left
        · intro w'
          go_simp
          with_reducible rfl
        rotate_left
        · simp only [Act.put, List.setIfInBounds_toArray, List.set_cons_zero, List.set_cons_succ, i64_w, i32_w]
          rfl
        refine pure_ (i := 4) (N := some 69) (v := ?_) (a' := ?_) #[true, false, false, true, true, false, false, false, false, false, false, false, false, false, false, false, false, false] rfl rfl (by kernel_rfl) (fun _ _ _ h => h) (Or.inl ⟨by rfl, ?_⟩) ?_ ?_
        rotate_left
        · intro w'
          go_simp
          with_reducible rfl
        rotate_left
        · simp only [Act.put, List.setIfInBounds_toArray, List.set_cons_zero, List.set_cons_succ, i64_w, i32_w]
          rfl
        refine pure_ (i := 8) (N := some 73) (v := ?_) (a' := ?_) #[true, false, false, true, true, false, false, false, true, false, false, false, false, false, false, false, false, false] rfl rfl (by kernel_rfl) (fun _ _ _ h => h) (Or.inl ⟨by rfl, ?_⟩) ?_ ?_
        rotate_left
        · intro w'
          go_simp
          with_reducible rfl
        rotate_left
        · simp only [Act.put, List.setIfInBounds_toArray, List.set_cons_zero, List.set_cons_succ, i64_w, i32_w]
          rfl
        refine pure_ (i := 11) (N := some 76) (v := ?_) (a' := ?_) #[true, false, false, true, true, false, false, false, true, false, false, true, false, false, false, false, false, false] rfl rfl (by kernel_rfl) (fun _ _ _ h => h) (Or.inl ⟨by rfl, ?_⟩) ?_ ?_
        rotate_left
        · intro w'
          go_simp
          with_reducible rfl
        rotate_left
        · simp only [Act.put, List.setIfInBounds_toArray, List.set_cons_zero, List.set_cons_succ, i64_w, i32_w]
          rfl
        refine pure_ (i := 12) (N := some 77) (v := ?_) (a' := ?_) #[true, false, false, true, true, false, false, false, true, false, false, true, true, false, false, false, false, false] rfl rfl (by kernel_rfl) (fun _ _ _ h => h) (Or.inl ⟨by rfl, ?_⟩) ?_ ?_
        rotate_left
        · intro w'
          go_simp
          with_reducible rfl
        rotate_left
        · simp only [Act.put, List.setIfInBounds_toArray, List.set_cons_zero, List.set_cons_succ, i64_w, i32_w]
          rfl
        refine take_ (i := 1) (N := some 66) (v := ?_) (a' := ?_) #[true, true, false, true, true, false, false, false, true, false, false, true, true, false, false, false, false, false] rfl rfl (by kernel_rfl) (fun _ _ _ h => h) (Or.inl ⟨by rfl, ?_⟩) hHeld ?_ ?_
        rotate_left
        · rintro w' ⟨s0, s1⟩
          go_simp
          with_reducible rfl
        rotate_left
        · simp only [Act.put, List.setIfInBounds_toArray, List.set_cons_zero, List.set_cons_succ, i64_w, i32_w]
          rfl
        refine take_ (i := 2) (N := some 67) (v := ?_) (a' := ?_) #[true, true, true, true, true, false, false, false, true, false, false, true, true, false, false, false, false, false] rfl rfl (by kernel_rfl) (fun _ _ _ h => h) (Or.inl ⟨by rfl, ?_⟩) hHeld ?_ ?_
        rotate_left
        · rintro w' ⟨s0, s1⟩
          go_simp
          with_reducible rfl
        rotate_left
        · simp only [Act.put, List.setIfInBounds_toArray, List.set_cons_zero, List.set_cons_succ, i64_w, i32_w]
          rfl
        refine take_ (i := 5) (N := some 70) (v := ?_) (a' := ?_) #[true, true, true, true, true, true, false, false, true, false, false, true, true, false, false, false, false, false] rfl rfl (by kernel_rfl) (fun _ _ _ h => h) (Or.inl ⟨by rfl, ?_⟩) hHeld ?_ ?_
        rotate_left
        · rintro w' ⟨s0, s1⟩
          go_simp
          with_reducible rfl
        rotate_left
        · simp only [Act.put, List.setIfInBounds_toArray, List.set_cons_zero, List.set_cons_succ, i64_w, i32_w]
          rfl
        refine pure_ (i := 6) (N := some 71) (v := ?_) (a' := ?_) #[true, true, true, true, true, true, true, false, true, false, false, true, true, false, false, false, false, false] rfl rfl (by kernel_rfl) (fun _ _ _ h => h) (Or.inl ⟨by rfl, ?_⟩) ?_ ?_
        rotate_left
        · intro w'
          go_simp
          with_reducible rfl
        rotate_left
        · simp only [Act.put, List.setIfInBounds_toArray, List.set_cons_zero, List.set_cons_succ, i64_w, i32_w]
          rfl
        refine take_ (i := 7) (N := some 72) (v := ?_) (a' := ?_) #[true, true, true, true, true, true, true, true, true, false, false, true, true, false, false, false, false, false] rfl rfl (by kernel_rfl) (fun _ _ _ h => h) (Or.inl ⟨by rfl, ?_⟩) hHeld ?_ ?_
        rotate_left
        · rintro w' ⟨s0, s1⟩
          go_simp
          with_reducible rfl
        rotate_left
        · simp only [Act.put, List.setIfInBounds_toArray, List.set_cons_zero, List.set_cons_succ, i64_w, i32_w]
          rfl
        refine pure_ (i := 16) (N := some 13) (v := ?_) (a' := ?_) #[true, true, true, true, true, true, true, true, true, false, false, true, true, false, false, false, true, false] rfl rfl (by kernel_rfl) (fun _ _ _ h => h) (Or.inl ⟨by rfl, ?_⟩) ?_ ?_
        rotate_left
        · intro w'
          go_simp
          with_reducible rfl
        rotate_left
        · simp only [Act.put, List.setIfInBounds_toArray, List.set_cons_zero, List.set_cons_succ, i64_w, i32_w]
          rfl
        refine take_ (i := 9) (N := some 74) (v := ?_) (a' := ?_) #[true, true, true, true, true, true, true, true, true, true, false, true, true, false, false, false, true, false] rfl rfl (by kernel_rfl) (fun _ _ _ h => h) (Or.inl ⟨by rfl, ?_⟩) hHeld ?_ ?_
        rotate_left
        · rintro w' ⟨s0, s1⟩
          go_simp
          with_reducible rfl
        rotate_left
        · simp only [Act.put, List.setIfInBounds_toArray, List.set_cons_zero, List.set_cons_succ, i64_w, i32_w]
          rfl
        refine take_ (i := 10) (N := some 75) (v := ?_) (a' := ?_) #[true, true, true, true, true, true, true, true, true, true, true, true, true, false, false, false, true, false] rfl rfl (by kernel_rfl) (fun _ _ _ h => h) (Or.inl ⟨by rfl, ?_⟩) hHeld ?_ ?_
        rotate_left
        · rintro w' ⟨s0, s1⟩
          go_simp
          with_reducible rfl
        rotate_left
        · simp only [Act.put, List.setIfInBounds_toArray, List.set_cons_zero, List.set_cons_succ, i64_w, i32_w]
          rfl
        refine take_ (i := 13) (N := some 78) (v := ?_) (a' := ?_) #[true, true, true, true, true, true, true, true, true, true, true, true, true, true, false, false, true, false] rfl rfl (by kernel_rfl) (fun _ _ _ h => h) (Or.inl ⟨by rfl, ?_⟩) hHeld ?_ ?_
        rotate_left
        · rintro w' ⟨s0, s1⟩
          go_simp
          with_reducible rfl
        rotate_left
        · simp only [Act.put, List.setIfInBounds_toArray, List.set_cons_zero, List.set_cons_succ, i64_w, i32_w]
          rfl
        refine pure_ (i := 14) (N := some 79) (v := ?_) (a' := ?_) #[true, true, true, true, true, true, true, true, true, true, true, true, true, true, true, false, true, false] rfl rfl (by kernel_rfl) (fun _ _ _ h => h) (Or.inl ⟨by rfl, ?_⟩) ?_ ?_
        rotate_left
        · intro w'
          go_simp
          with_reducible rfl
        rotate_left
        · simp only [Act.put, List.setIfInBounds_toArray, List.set_cons_zero, List.set_cons_succ, i64_w, i32_w]
          rfl
        refine take_ (i := 15) (N := some 80) (v := ?_) (a' := ?_) #[true, true, true, true, true, true, true, true, true, true, true, true, true, true, true, true, true, false] rfl rfl (by kernel_rfl) (fun _ _ _ h => h) (Or.inl ⟨by rfl, ?_⟩) hHeld ?_ ?_
        rotate_left
        · rintro w' ⟨s0, s1⟩
          go_simp
          with_reducible rfl
        rotate_left
        · simp only [Act.put, List.setIfInBounds_toArray, List.set_cons_zero, List.set_cons_succ, i64_w, i32_w]
          rfl
        refine pure_ (i := 17) (N := some 14) (v := ?_) (a' := ?_) #[true, true, true, true, true, true, true, true, true, true, true, true, true, true, true, true, true, true] rfl rfl (by kernel_rfl) (fun _ _ _ h => h) (Or.inl ⟨by rfl, ?_⟩) ?_ ?_
        rotate_left
        · intro w'
          go_simp
          with_reducible rfl
        rotate_left
        · simp only [Act.put, List.setIfInBounds_toArray, List.set_cons_zero, List.set_cons_succ, i64_w, i32_w]
          rfl
        refine done_ (by kernel_rfl) ?_
        clear hx0 hx1 e2 f0 f0b f0c
        simp only [HIK.out.1, HIK.out.2]
        obtain ⟨vi, vk, ⟨Ai, ni, mi, rfl⟩, ⟨Ak, nk, mk, rfl⟩, ci, ck, fi, fk, hsw⟩ := R_swap rfl (Kd.R_drew (Kd.R_drew HRc.out)) i k HI.out.1 HI.out.2
        have q1 : ((i : Int) < ((chunks l0 a1).length : Int)) = True := eq_true (Int.ofNat_lt.2 HI.out.1)
        have q2 : (i < (chunks l0 a1).length) = True := eq_true HI.out.1
        have q3 : ((k : Int) < ((chunks l0 a1).length : Int)) = True := eq_true (Int.ofNat_lt.2 HI.out.2)
        have q4 : (k < (chunks l0 a1).length) = True := eq_true HI.out.2
        have fk2 : Wc.frozen? ⟨g9, k, none⟩ = false := by exact fk
        have fi2 : Wc.frozen? ⟨g9, i, none⟩ = false := by exact fi
        have ck2 : Wc.cell? ⟨g9, k, none⟩ = some (.slice Ak nk mk) := by exact ck
        obtain ⟨vy, hy⟩ := RowKit.cell?_setCell_some (w := Wc) (p := ⟨g9, i, none⟩) (x := .slice Ak nk mk) ck2
        have HCI := Aside0.mk (And.intro ci ck)
        clear ck2
        have HSW := Aside0.mk hsw
        clear ci ck hsw
        go_upto_region 13 with (fail)
        refine start_ (n := 16) (S := fun w' => w'.cell? ⟨g9, k, none⟩ = some (.slice Ak nk mk) ∧ w'.cell? ⟨g9, i, none⟩ = some (.slice Ai ni mi)) (ds := [13, 15]) #[false, false, false, false, false, false, false, false, false, false, false, false, false, false, false, false] (by kernel_rfl) rfl rfl ⟨(by exact HCI.out.2), (by exact HCI.out.1)⟩ (fun hHeld => ?_)
        refine pure_ (i := 0) (N := some 81) (v := ?_) (a' := ?_) #[true, false, false, false, false, false, false, false, false, false, false, false, false, false, false, false] rfl rfl (by kernel_rfl) (fun _ _ _ h => h) (Or.inl ⟨by rfl, ?_⟩) ?_ ?_
        rotate_left
        · intro w'
          go_simp
          with_reducible rfl
        rotate_left
        · simp only [Act.put, List.setIfInBounds_toArray, List.set_cons_zero, List.set_cons_succ, i64_w, i32_w]
          rfl
        refine pure_ (i := 1) (N := some 82) (v := ?_) (a' := ?_) #[true, true, false, false, false, false, false, false, false, false, false, false, false, false, false, false] rfl rfl (by kernel_rfl) (fun _ _ _ h => h) (Or.inl ⟨by rfl, ?_⟩) ?_ ?_
        rotate_left
        · intro w'
          go_simp
          with_reducible rfl
        rotate_left
        · simp only [Act.put, List.setIfInBounds_toArray, List.set_cons_zero, List.set_cons_succ, i64_w, i32_w]
          rfl
        refine pure_ (i := 2) (N := some 83) (v := ?_) (a' := ?_) #[true, true, true, false, false, false, false, false, false, false, false, false, false, false, false, false] rfl rfl (by kernel_rfl) (fun _ _ _ h => h) (Or.inl ⟨by rfl, ?_⟩) ?_ ?_
        rotate_left
        · intro w'
          go_simp
          with_reducible rfl
        rotate_left
        · simp only [Act.put, List.setIfInBounds_toArray, List.set_cons_zero, List.set_cons_succ, i64_w, i32_w]
          rfl
        refine pure_ (i := 3) (N := some 84) (v := ?_) (a' := ?_) #[true, true, true, true, false, false, false, false, false, false, false, false, false, false, false, false] rfl rfl (by kernel_rfl) (fun _ _ _ h => h) (Or.inl ⟨by rfl, ?_⟩) ?_ ?_
        rotate_left
        · intro w'
          go_simp
          with_reducible rfl
        rotate_left
        · simp only [Act.put, List.setIfInBounds_toArray, List.set_cons_zero, List.set_cons_succ, i64_w, i32_w]
          rfl
        refine pure_ (i := 4) (N := some 85) (v := ?_) (a' := ?_) #[true, true, true, true, true, false, false, false, false, false, false, false, false, false, false, false] rfl rfl (by kernel_rfl) (fun _ _ _ h => h) (Or.inl ⟨by rfl, ?_⟩) ?_ ?_
        rotate_left
        · intro w'
          go_simp
          with_reducible rfl
        rotate_left
        · simp only [Act.put, List.setIfInBounds_toArray, List.set_cons_zero, List.set_cons_succ, i64_w, i32_w]
          rfl
        refine pure_ (i := 5) (N := some 86) (v := ?_) (a' := ?_) #[true, true, true, true, true, true, false, false, false, false, false, false, false, false, false, false] rfl rfl (by kernel_rfl) (fun _ _ _ h => h) (Or.inl ⟨by rfl, ?_⟩) ?_ ?_
        rotate_left
        · intro w'
          go_simp
          with_reducible rfl
        rotate_left
        · simp only [Act.put, List.setIfInBounds_toArray, List.set_cons_zero, List.set_cons_succ, i64_w, i32_w]
          rfl
        refine pure_ (i := 6) (N := some 87) (v := ?_) (a' := ?_) #[true, true, true, true, true, true, true, false, false, false, false, false, false, false, false, false] rfl rfl (by kernel_rfl) (fun _ _ _ h => h) (Or.inl ⟨by rfl, ?_⟩) ?_ ?_
        rotate_left
        · intro w'
          go_simp
          with_reducible rfl
        rotate_left
        · simp only [Act.put, List.setIfInBounds_toArray, List.set_cons_zero, List.set_cons_succ, i64_w, i32_w]
          rfl
        refine pure_ (i := 8) (N := some 89) (v := ?_) (a' := ?_) #[true, true, true, true, true, true, true, false, true, false, false, false, false, false, false, false] rfl rfl (by kernel_rfl) (fun _ _ _ h => h) (Or.inl ⟨by rfl, ?_⟩) ?_ ?_
        rotate_left
        · intro w'
          go_simp
          with_reducible rfl
        rotate_left
        · simp only [Act.put, List.setIfInBounds_toArray, List.set_cons_zero, List.set_cons_succ, i64_w, i32_w]
          rfl
        refine pure_ (i := 9) (N := some 90) (v := ?_) (a' := ?_) #[true, true, true, true, true, true, true, false, true, true, false, false, false, false, false, false] rfl rfl (by kernel_rfl) (fun _ _ _ h => h) (Or.inl ⟨by rfl, ?_⟩) ?_ ?_
        rotate_left
        · intro w'
          go_simp
          with_reducible rfl
        rotate_left
        · simp only [Act.put, List.setIfInBounds_toArray, List.set_cons_zero, List.set_cons_succ, i64_w, i32_w]
          rfl
        refine pure_ (i := 10) (N := some 91) (v := ?_) (a' := ?_) #[true, true, true, true, true, true, true, false, true, true, true, false, false, false, false, false] rfl rfl (by kernel_rfl) (fun _ _ _ h => h) (Or.inl ⟨by rfl, ?_⟩) ?_ ?_
        rotate_left
        · intro w'
          go_simp
          with_reducible rfl
        rotate_left
        · simp only [Act.put, List.setIfInBounds_toArray, List.set_cons_zero, List.set_cons_succ, i64_w, i32_w]
          rfl
        refine take_ (i := 7) (N := some 88) (v := ?_) (a' := ?_) #[true, true, true, true, true, true, true, true, true, true, true, false, false, false, false, false] rfl rfl (by kernel_rfl) (fun _ _ _ h => h) (Or.inl ⟨by rfl, ?_⟩) hHeld ?_ ?_
        rotate_left
        · rintro w' ⟨s0, s1⟩
          go_simp
          with_reducible rfl
        rotate_left
        · simp only [Act.put, List.setIfInBounds_toArray, List.set_cons_zero, List.set_cons_succ, i64_w, i32_w]
          rfl
        refine take_ (i := 11) (N := some 92) (v := ?_) (a' := ?_) #[true, true, true, true, true, true, true, true, true, true, true, true, false, false, false, false] rfl rfl (by kernel_rfl) (fun _ _ _ h => h) (Or.inl ⟨by rfl, ?_⟩) hHeld ?_ ?_
        rotate_left
        · rintro w' ⟨s0, s1⟩
          go_simp
          with_reducible rfl
        rotate_left
        · simp only [Act.put, List.setIfInBounds_toArray, List.set_cons_zero, List.set_cons_succ, i64_w, i32_w]
          rfl
        refine pure_ (i := 12) (N := some 93) (v := ?_) (a' := ?_) #[true, true, true, true, true, true, true, true, true, true, true, true, true, false, false, false] rfl rfl (by kernel_rfl) (fun _ _ _ h => h) (Or.inl ⟨by rfl, ?_⟩) ?_ ?_
        rotate_left
        · intro w'
          go_simp
          with_reducible rfl
        rotate_left
        · simp only [Act.put, List.setIfInBounds_toArray, List.set_cons_zero, List.set_cons_succ, i64_w, i32_w]
          rfl
        refine last_ (i := 13) (N := none) #[true, true, true, true, true, true, true, true, true, true, true, true, true, true, false, false] rfl rfl (by kernel_rfl) (by decide) (fun K hK => ?_)
        refine skip_ (w1 := ?_) (by rfl) rfl ?_ ?_
        rotate_left
        · go_simp
          rfl
        refine hK.out _ _ ?_
        clear hK K
        refine pure_ (i := 14) (N := some 94) (v := ?_) (a' := ?_) #[true, true, true, true, true, true, true, true, true, true, true, true, true, true, true, false] rfl rfl (by kernel_rfl) (fun _ _ _ h => h) (Or.inl ⟨by rfl, ?_⟩) ?_ ?_
        rotate_left
        · intro w'
          go_simp
          with_reducible rfl
        rotate_left
        · simp only [Act.put, List.setIfInBounds_toArray, List.set_cons_zero, List.set_cons_succ, i64_w, i32_w]
          rfl
        refine last_ (i := 15) (N := none) #[true, true, true, true, true, true, true, true, true, true, true, true, true, true, true, true] rfl rfl (by kernel_rfl) (by decide) (fun K hK => ?_)
        refine skip_ (w1 := ?_) (by rfl) rfl ?_ ?_
        rotate_left
        · go_simp
          rfl
        refine hK.out _ _ ?_
        clear hK K
        refine done_ (by kernel_rfl) ?_
        clear hy fk2 fi2 fk fi q1 q2 q3 q4
        have HR9 := HSW.out
        obtain ⟨L', hL'⟩ : ∃ L', L' = (((chunks l0 a1).set i ((chunks l0 a1).getD k [])).set k ((chunks l0 a1).getD i [])) := ⟨_, rfl⟩
        have hll : L'.length = (chunks l0 a1).length := by rw [hL', List.length_set, List.length_set]
        have hcl := HS.out.2
        have hjn : JN L' a1 (l0.length : Int) = if i = k then (l0, 0) else ([], 180) := by
          rw [hL', chunks_get l0 a1 k (by have := HI.out; omega), chunks_get l0 a1 i (by have := HI.out; omega)]
          exact JN_swap l0 a1 HS.out.1 (by have := HLL.out; omega) i k (by have := HI.out; omega) (by have := HI.out; omega)
        rw [← hL'] at HR9
        obtain ⟨A', c', he, hlc, hC⟩ := Kd.R_reads HR9
        injection he with he1 he2 he3
        subst he1 he3
        obtain ⟨kj, hj⟩ := HJOIN.out L' a1 (l0.length : Int) (by rw [hll]; have := HLL.out; omega)
        rw [hjn] at hj
        have HJ := Aside0.mk (fun W hT hC => chunk_Join.calls kj (some ⟨g9, 0, none⟩) c9 L' a1 (l0.length : Int) (if i = k then (l0, 0) else ([], 180)).1 (if i = k then (l0, 0) else ([], 180)).2 W hT hC hlc hj)
        rw [hll] at HJ hC
        have HC9 := Aside0.mk hC
        clear HR9 hlc hjn hj hL' hll he2 hcl hC
        have hg := HG9.out
        have HBs := Aside0.mk (show Below w.heap.size w ((Wc.setCell ⟨g9, i, none⟩ (.slice Ak nk mk)).setCell ⟨g9, k, none⟩ (.slice Ai ni mi)).drew.drew from below_drew (below_drew ((HBc.out.setCell (p := ⟨g9, i, none⟩) hg _).setCell (p := ⟨g9, k, none⟩) hg _)))
        clear hg HCI
        by_cases hik2 : i = k
        · simp only [if_pos hik2] at HJ
          have b1 : ((i : Int) == (k : Int)) = true := beq_iff_eq.2 (by omega)
          have b2 : (i == k) = true := beq_iff_eq.2 hik2
          have b3 : ((i : Int) = (k : Int)) = True := eq_true (by omega)
          have b4 : (i = k) = True := eq_true hik2
          have HIKE := Aside0.mk hik2
          clear hik2
          go_wp2_with (first | (go_at_call 14; refine (HJ.out _ (Kd.C_below HT.out HBs.out) HC9.out).mono ?_; rintro e W5 ⟨v5, rfl, ho5, hb5⟩; refine of_halt ?_))
          unfold G.Halt
          obtain ⟨A5, c5, rfl, hc5, hC5⟩ := Kd.R_reads ho5
          have HB5 := Aside0.mk (below_step HBs.out hb5)
          have hcv1 := Kd.C_string (P := Tryd.prog) (src := 22) (dst := 9) Tryd.underlying22 Tryd.underlying5 Tryd.underlying9 (c := c5) hC5
          have hcv2 := Kd.C_string (P := Tryd.prog) (src := 22) (dst := 9) Tryd.underlying22 Tryd.underlying5 Tryd.underlying9 (c := cap0) (Kd.C_below HR.out HB5.out)
          clear ho5 hb5 hc5 hC5
          go_wp2
          go_ret
          exact ⟨rfl, HB5.out⟩
        · simp only [if_neg hik2] at HJ
          have b1 : ((i : Int) == (k : Int)) = false := by simp; omega
          have b2 : (i == k) = false := by simpa using hik2
          have b3 : ((i : Int) = (k : Int)) = False := eq_false (by omega)
          have b4 : (i = k) = False := eq_false hik2
          clear hik2
          go_wp2_with (first | (go_at_call 14; refine (HJ.out _ (Kd.C_below HT.out HBs.out) HC9.out).mono ?_; rintro e W5 ⟨v5, rfl, ho5, hb5⟩; refine of_halt ?_))
          unfold G.Halt
          obtain ⟨A5, c5, rfl, hc5, hC5⟩ := Kd.R_reads ho5
          have HB5 := Aside0.mk (below_step HBs.out hb5)
          clear ho5 hb5 hc5 hC5
          go_wp2
          go_ret
          exact ⟨rfl, HB5.out⟩
end Go.Proofs.YtkocgfcoebodkaaDoor.X
