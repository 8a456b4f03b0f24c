/- The state of explicit levels: pop. By hand. -/
import Derived.Test.YthokljlalgclkaaHEmb
namespace Go.Proofs.Ythokljlalgclkaa.G
open Go.RowKit Go.Proofs.YthokljlalgclkaaW.PrintWords Go.Proofs.YthokljlalgclkaaW.PrintLast Go.Proofs.YthokljlalgclkaaW.PrintMore Go.Proofs.Ythokljlalgclkaa.Exp
set_option linter.unusedVariables false
set_option linter.unusedSimpArgs false

theorem neqE (a b a' b' : Int) (c c' : Bool) (W : World) : (binOp .neq 43 (.agg #[.int .i64 a, .int .i64 b, .bool c]) (.agg #[.int .i64 a', .int .i64 b', .bool c'])).run Try.prog W = .ok (.bool (!((a == a') && ((b == b') && (c == c'))))) W := by
  have h : (Op.equal 43 (.agg #[.int .i64 a, .int .i64 b, .bool c]) (.agg #[.int .i64 a', .int .i64 b', .bool c'])).run Try.prog W = .ok ((a == a') && ((b == b') && (c == c'))) W := by
    refine eqA_of Try.underlying43 (by kernel_rfl) ?_
    refine eqf_cons (by rfl) (by rfl) (by rfl) (run_equalIn_int W _ _ _ _ _ _ Try.underlying3) ?_
    refine eqf_cons (by rfl) (by rfl) (by rfl) (run_equalIn_int W _ _ _ _ _ _ Try.underlying41) ?_
    exact eqf_last (by rfl) (by rfl) (by rfl) (run_equalIn_bool W _ _ _ _ Try.underlying4)
  simp [binOp, h]
set_option maxHeartbeats 16000000 in
set_option maxRecDepth 100000 in
theorem pop_calls (Z : Nat → Option Obj) (b0 g : Nat) (base : Int) (s : S) (lv ty : List Int) (sv lvv tyv : Value) (W : World) (hst : St Z b0 g base s lv ty sv lvv tyv W) (hf : Fits s) (hI : Inv base s) (hbs : base ≤ 125) (hb : b0 ≤ W.heap.size) :
    Calls Try.prog 23 #[.pointer (some ⟨g, 0, none⟩)] W (StPost Z b0 g base (pop s) lv ty W (.returned (.tuple #[]))) := by
  have HF := Aside0.mk hf
  have HB := Aside0.mk hb
  have HST := Aside0.mk hst
  obtain ⟨hc0, _, _, _, hc4, hc5, _, _, _⟩ := hst.cells
  by_cases h1 : 0 < s.isl
  · have hp : pop s = s := by unfold pop; rw [if_pos h1]
    rw [hp]
    have b1 : decide ((0 : Int) < (s.isl : Int)) = true := decide_eq_true (by omega)
    have b1b : decide (0 < s.isl) = true := decide_eq_true h1
    clear hst hf hI hbs hb hp h1
    go_enter Try.func23, Try.ntmps23
    go_wp2
    go_end0
    exact StPost.of HST.out (Below.refl _ _)
  · have b1 : decide ((0 : Int) < (s.isl : Int)) = false := decide_eq_false (by omega)
    have b1b : decide (0 < s.isl) = false := decide_eq_false h1
    by_cases h2 : 0 < s.emb
    · have hp : pop s = ⟨s.stk, s.isl, s.emb - 1, s.val⟩ := by unfold pop; rw [if_neg h1, if_pos h2]
      rw [hp]
      have b2 : decide ((0 : Int) < (s.emb : Int)) = true := decide_eq_true (by omega)
      have b2b : decide (0 < s.emb) = true := decide_eq_true h2
      have hz5 := blk_frozen hst.blk 5
      have HV := Aside0.mk (cast2 s.emb hf.emb h2)
      clear hst hf hI hbs hb hp h1 h2
      go_enter Try.func23, Try.ntmps23
      go_wp2
      go_end0
      refine StPost.of (HST.out.put (s' := ⟨s.stk, s.isl, s.emb - 1, s.val⟩) 5 _ rfl ?_) ((Below.refl b0 W).setCell (p := ⟨g, 5, none⟩) HST.out.ge _)
      rw [HV.out]
      rfl
    · have b2 : decide ((0 : Int) < (s.emb : Int)) = false := decide_eq_false (by omega)
      have b2b : decide (0 < s.emb) = false := decide_eq_false h2
      have hl1 := last_calls Z b0 g base s lv ty _ _ _ W hst hf.ne
      obtain ⟨lv0, hlv0⟩ : ∃ x, (top s).lvl = x := ⟨_, rfl⟩
      obtain ⟨fr0, hfr0⟩ : ∃ x, (top s).frc = x := ⟨_, rfl⟩
      obtain ⟨xi, hxi⟩ : ∃ b, (top s).iso = b := ⟨_, rfl⟩
      rw [hlv0, hfr0, hxi] at hl1
      have HLa := Aside0.mk hl1
      have hbot := hI.good.bottom hbs
      have htop : s.stk.headD ⟨0, 0, false⟩ = ⟨lv0, fr0, xi⟩ := by
        rw [← hlv0, ← hfr0, ← hxi]; rfl
      rw [htop] at hbot
      have hln : 0 < s.stk.length := List.length_pos_iff.2 hf.ne
      have hcase : (xi = true ∧ pop s = s) ∨ (xi = false ∧ ((lv0 == base) && ((fr0 == 0) && (false == false))) = true ∧ pop s = s) ∨ (xi = false ∧ ((lv0 == base) && ((fr0 == 0) && (false == false))) = false ∧ 1 < s.stk.length ∧ pop s = ⟨s.stk.tail, s.isl, s.emb, s.val⟩) := by
        cases xi with
        | true => exact .inl ⟨rfl, by unfold pop; rw [if_neg h1, if_neg h2, if_neg (by rw [hxi]; simp)]⟩
        | false =>
          by_cases h3 : s.stk.length = 1
          · have := hbot.2 h3
            injection this with q1 q2 q3
            exact .inr (.inl ⟨rfl, by rw [q1, q2]; simp, by unfold pop; rw [if_neg h1, if_neg h2, if_neg (by omega)]⟩)
          · refine .inr (.inr ⟨rfl, ?_, by omega, by unfold pop; rw [if_neg h1, if_neg h2, if_pos ⟨hxi, by omega⟩]⟩)
            have hn : ¬ (lv0 = base ∧ fr0 = 0) := fun h => h3 (hbot.1 (by rw [h.1, h.2]))
            rw [Bool.and_eq_false_iff]
            by_cases q : lv0 = base
            · right; simp; exact fun h => hn ⟨q, h⟩
            · left; simpa using q
      have HCu := Aside0.mk (fun (h : 1 < s.stk.length) => cut_facts hst h)
      clear hst hf hI hbs hb h1 h2 hl1 hlv0 hfr0 hxi htop hbot hln
      rcases hcase with ⟨rfl, hp⟩ | ⟨rfl, hq, hp⟩ | ⟨rfl, hq, hlen, hp⟩
      · rw [hp]
        clear hp
        go_enter Try.func23, Try.ntmps23
        go_upto_region 4 with (first | (go_at_call 32; refine HLa.out.mono ?_; rintro e w5 ⟨rfl, hb5⟩))
        have HS5 := Aside0.mk (St.below (HST.out.below hb5) (below_alloc (Below.refl _ _) (Obj.cells #[.int .i64 lv0, .int .i64 fr0, .bool true] 43)))
        have HB5 := Aside0.mk ((below_alloc hb5 (Obj.cells #[.int .i64 lv0, .int .i64 fr0, .bool true] 43)).mono HB.out)
        have HZ5 := Aside0.mk (show b0 ≤ (w5.alloc (Obj.cells #[.int .i64 lv0, .int .i64 fr0, .bool true] 43)).heap.size by have := HB.out; have := hb5.size; simp; omega)
        have hbk := blk_new w5 (Obj.cells #[.int .i64 lv0, .int .i64 fr0, .bool true] 43)
        have hx0 := (blk_cell hbk 0).trans (show _ = some (.int .i64 lv0 : Value) from rfl)
        have hx1 := (blk_cell hbk 1).trans (show _ = some (.int .i64 fr0 : Value) from rfl)
        have hx2 := (blk_cell hbk 2).trans (show _ = some (.bool true : Value) from rfl)
        clear hb5 hbk hc0 hc4 hc5
        generalize w5.alloc (Obj.cells #[.int .i64 lv0, .int .i64 fr0, .bool true] 43) = W6 at *
        generalize w5.heap.size = g6 at *
        obtain ⟨_, hd1, hd2, hd3, _, _, _, _, _⟩ := HS5.out.cells
        go_quiet (fail)
        go_wp2
        go_end0
        refine StPost.of (HS5.out.below ?_) (HB5.out.trans ?_)
        · exact pw_below_drewN (Below.refl _ _) _
        · exact pw_below_drewN (Below.refl _ _) _
      · rw [hp]
        have hne := neqE lv0 fr0 base 0 false false
        rw [hq] at hne
        simp only [Bool.not_true] at hne
        clear hp hq
        go_enter Try.func23, Try.ntmps23
        go_upto_region 4 with (first | (go_at_call 32; refine HLa.out.mono ?_; rintro e w5 ⟨rfl, hb5⟩))
        have HS5 := Aside0.mk (St.below (HST.out.below hb5) (below_alloc (Below.refl _ _) (Obj.cells #[.int .i64 lv0, .int .i64 fr0, .bool false] 43)))
        have HB5 := Aside0.mk ((below_alloc hb5 (Obj.cells #[.int .i64 lv0, .int .i64 fr0, .bool false] 43)).mono HB.out)
        have HZ5 := Aside0.mk (show b0 ≤ (w5.alloc (Obj.cells #[.int .i64 lv0, .int .i64 fr0, .bool false] 43)).heap.size by have := HB.out; have := hb5.size; simp; omega)
        have hbk := blk_new w5 (Obj.cells #[.int .i64 lv0, .int .i64 fr0, .bool false] 43)
        have hx0 := (blk_cell hbk 0).trans (show _ = some (.int .i64 lv0 : Value) from rfl)
        have hx1 := (blk_cell hbk 1).trans (show _ = some (.int .i64 fr0 : Value) from rfl)
        have hx2 := (blk_cell hbk 2).trans (show _ = some (.bool false : Value) from rfl)
        clear hb5 hbk hc0 hc4 hc5
        generalize w5.alloc (Obj.cells #[.int .i64 lv0, .int .i64 fr0, .bool false] 43) = W6 at *
        generalize w5.heap.size = g6 at *
        obtain ⟨_, hd1, hd2, hd3, _, _, _, _, _⟩ := HS5.out.cells
        go_quiet (fail)
        go_wp2
        go_end0
        refine StPost.of (HS5.out.below ?_) (HB5.out.trans ?_)
        · exact pw_below_drewN (Below.refl _ _) _
        · exact pw_below_drewN (Below.refl _ _) _
      · rw [hp]
        have hne := neqE lv0 fr0 base 0 false false
        rw [hq] at hne
        simp only [Bool.not_false] at hne
        obtain ⟨A, N, m, c, rfl, hN, hNl, hNc, hNm, eN⟩ := HCu.out hlen
        have p1 : ((m : Int) ≤ (c : Int)) = True := eq_true (by omega)
        have p2 : (m ≤ c) = True := eq_true (by omega)
        have hm0 : (0 : Int) ≤ (m : Int) := by omega
        have HN := Aside0.mk hN
        clear hp hq hlen HCu hN hNl hNc hNm
        go_enter Try.func23, Try.ntmps23
        go_upto_region 4 with (first | (go_at_call 32; refine HLa.out.mono ?_; rintro e w5 ⟨rfl, hb5⟩))
        have HS5 := Aside0.mk (St.below (HST.out.below hb5) (below_alloc (Below.refl _ _) (Obj.cells #[.int .i64 lv0, .int .i64 fr0, .bool false] 43)))
        have HB5 := Aside0.mk ((below_alloc hb5 (Obj.cells #[.int .i64 lv0, .int .i64 fr0, .bool false] 43)).mono HB.out)
        have HZ5 := Aside0.mk (show b0 ≤ (w5.alloc (Obj.cells #[.int .i64 lv0, .int .i64 fr0, .bool false] 43)).heap.size by have := HB.out; have := hb5.size; simp; omega)
        have hbk := blk_new w5 (Obj.cells #[.int .i64 lv0, .int .i64 fr0, .bool false] 43)
        have hx0 := (blk_cell hbk 0).trans (show _ = some (.int .i64 lv0 : Value) from rfl)
        have hx1 := (blk_cell hbk 1).trans (show _ = some (.int .i64 fr0 : Value) from rfl)
        have hx2 := (blk_cell hbk 2).trans (show _ = some (.bool false : Value) from rfl)
        clear hb5 hbk hc0 hc4 hc5
        generalize w5.alloc (Obj.cells #[.int .i64 lv0, .int .i64 fr0, .bool false] 43) = W6 at *
        generalize w5.heap.size = g6 at *
        obtain ⟨_, hd1, hd2, hd3, _, _, _, _, _⟩ := HS5.out.cells
        go_quiet (fail)
        have hz0 := blk_frozen HS5.out.blk 0
        go_upto_region 5 with (fail)
        refine start_ (n := 15) (S := fun w' => w'.cell? ⟨g, 0, none⟩ = some (.slice A N c)) (ds := [14]) #[false, false, false, false, false, false, false, false, false, false, false, false, false, false, false] (by kernel_rfl) rfl rfl ((by exact HS5.out.cells.1)) (fun hHeld => ?_)
        refine pure_ (i := 0) (N := some 33) (v := ?_) (a' := ?_) #[true, false, false, false, false, false, false, false, false, false, false, false, false, false, false] rfl rfl (by kernel_rfl) (fun _ _ _ h => h) (Or.inl ⟨by rfl, ?_⟩) ?_ ?_
        rotate_left
        · intro w'
          go_simp
          with_reducible rfl
        rotate_left
        · simp only [Act.put, List.setIfInBounds_toArray, List.set_cons_zero, List.set_cons_succ, i64_w, i32_w]
          rfl
        refine pure_ (i := 1) (N := some 34) (v := ?_) (a' := ?_) #[true, true, false, false, false, false, false, false, false, false, false, false, false, false, false] rfl rfl (by kernel_rfl) (fun _ _ _ h => h) (Or.inl ⟨by rfl, ?_⟩) ?_ ?_
        rotate_left
        · intro w'
          go_simp
          with_reducible rfl
        rotate_left
        · simp only [Act.put, List.setIfInBounds_toArray, List.set_cons_zero, List.set_cons_succ, i64_w, i32_w]
          rfl
        refine pure_ (i := 2) (N := some 35) (v := ?_) (a' := ?_) #[true, true, true, false, false, false, false, false, false, false, false, false, false, false, false] rfl rfl (by kernel_rfl) (fun _ _ _ h => h) (Or.inl ⟨by rfl, ?_⟩) ?_ ?_
        rotate_left
        · intro w'
          go_simp
          with_reducible rfl
        rotate_left
        · simp only [Act.put, List.setIfInBounds_toArray, List.set_cons_zero, List.set_cons_succ, i64_w, i32_w]
          rfl
        refine pure_ (i := 3) (N := some 36) (v := ?_) (a' := ?_) #[true, true, true, true, false, false, false, false, false, false, false, false, false, false, false] rfl rfl (by kernel_rfl) (fun _ _ _ h => h) (Or.inl ⟨by rfl, ?_⟩) ?_ ?_
        rotate_left
        · intro w'
          go_simp
          with_reducible rfl
        rotate_left
        · simp only [Act.put, List.setIfInBounds_toArray, List.set_cons_zero, List.set_cons_succ, i64_w, i32_w]
          rfl
        refine pure_ (i := 5) (N := some 38) (v := ?_) (a' := ?_) #[true, true, true, true, false, true, false, false, false, false, false, false, false, false, false] rfl rfl (by kernel_rfl) (fun _ _ _ h => h) (Or.inl ⟨by rfl, ?_⟩) ?_ ?_
        rotate_left
        · intro w'
          go_simp
          with_reducible rfl
        rotate_left
        · simp only [Act.put, List.setIfInBounds_toArray, List.set_cons_zero, List.set_cons_succ, i64_w, i32_w]
          rfl
        refine pure_ (i := 6) (N := some 39) (v := ?_) (a' := ?_) #[true, true, true, true, false, true, true, false, false, false, false, false, false, false, false] rfl rfl (by kernel_rfl) (fun _ _ _ h => h) (Or.inl ⟨by rfl, ?_⟩) ?_ ?_
        rotate_left
        · intro w'
          go_simp
          with_reducible rfl
        rotate_left
        · simp only [Act.put, List.setIfInBounds_toArray, List.set_cons_zero, List.set_cons_succ, i64_w, i32_w]
          rfl
        refine pure_ (i := 7) (N := some 40) (v := ?_) (a' := ?_) #[true, true, true, true, false, true, true, true, false, false, false, false, false, false, false] rfl rfl (by kernel_rfl) (fun _ _ _ h => h) (Or.inl ⟨by rfl, ?_⟩) ?_ ?_
        rotate_left
        · intro w'
          go_simp
          with_reducible rfl
        rotate_left
        · simp only [Act.put, List.setIfInBounds_toArray, List.set_cons_zero, List.set_cons_succ, i64_w, i32_w]
          rfl
        refine take_ (i := 4) (N := some 37) (v := ?_) (a' := ?_) #[true, true, true, true, true, true, true, true, false, false, false, false, false, false, false] rfl rfl (by kernel_rfl) (fun _ _ _ h => h) (Or.inl ⟨by rfl, ?_⟩) hHeld ?_ ?_
        rotate_left
        · intro w' s0
          go_simp
          with_reducible rfl
        rotate_left
        · simp only [Act.put, List.setIfInBounds_toArray, List.set_cons_zero, List.set_cons_succ, i64_w, i32_w]
          rfl
        refine take_ (i := 8) (N := some 41) (v := ?_) (a' := ?_) #[true, true, true, true, true, true, true, true, true, false, false, false, false, false, false] rfl rfl (by kernel_rfl) (fun _ _ _ h => h) (Or.inl ⟨by rfl, ?_⟩) hHeld ?_ ?_
        rotate_left
        · intro w' s0
          go_simp
          with_reducible rfl
        rotate_left
        · simp only [Act.put, List.setIfInBounds_toArray, List.set_cons_zero, List.set_cons_succ, i64_w, i32_w]
          rfl
        refine pure_ (i := 9) (N := some 42) (v := ?_) (a' := ?_) #[true, true, true, true, true, true, true, true, true, true, false, false, false, false, false] rfl rfl (by kernel_rfl) (fun _ _ _ h => h) (Or.inl ⟨by rfl, ?_⟩) ?_ ?_
        rotate_left
        · intro w'
          go_simp
          with_reducible rfl
        rotate_left
        · simp only [Act.put, List.setIfInBounds_toArray, List.set_cons_zero, List.set_cons_succ, i64_w, i32_w]
          rfl
        refine pure_ (i := 10) (N := some 43) (v := ?_) (a' := ?_) #[true, true, true, true, true, true, true, true, true, true, true, false, false, false, false] rfl rfl (by kernel_rfl) (fun _ _ _ h => h) (Or.inl ⟨by rfl, ?_⟩) ?_ ?_
        rotate_left
        · intro w'
          go_simp
          with_reducible rfl
        rotate_left
        · simp only [Act.put, List.setIfInBounds_toArray, List.set_cons_zero, List.set_cons_succ, i64_w, i32_w]
          rfl
        refine pure_ (i := 11) (N := some 44) (v := ?_) (a' := ?_) #[true, true, true, true, true, true, true, true, true, true, true, true, false, false, false] rfl rfl (by kernel_rfl) (fun _ _ _ h => h) (Or.inl ⟨by rfl, ?_⟩) ?_ ?_
        rotate_left
        · intro w'
          go_simp
          with_reducible rfl
        rotate_left
        · simp only [Act.put, List.setIfInBounds_toArray, List.set_cons_zero, List.set_cons_succ, i64_w, i32_w]
          rfl
        refine pure_ (i := 12) (N := some 45) (v := ?_) (a' := ?_) #[true, true, true, true, true, true, true, true, true, true, true, true, true, false, false] rfl rfl (by kernel_rfl) (fun _ _ _ h => h) (Or.inl ⟨by rfl, ?_⟩) ?_ ?_
        rotate_left
        · intro w'
          go_simp
          with_reducible rfl
        rotate_left
        · simp only [Act.put, List.setIfInBounds_toArray, List.set_cons_zero, List.set_cons_succ, i64_w, i32_w]
          rfl
        refine pure_ (i := 13) (N := some 46) (v := ?_) (a' := ?_) #[true, true, true, true, true, true, true, true, true, true, true, true, true, true, false] rfl rfl (by kernel_rfl) (fun _ _ _ h => h) (Or.inl ⟨by rfl, ?_⟩) ?_ ?_
        rotate_left
        · intro w'
          go_simp
          with_reducible rfl
        rotate_left
        · simp only [Act.put, List.setIfInBounds_toArray, List.set_cons_zero, List.set_cons_succ, i64_w, i32_w]
          rfl
        refine last_ (i := 14) (N := none) #[true, true, true, true, true, true, true, true, true, true, true, true, true, true, true] rfl rfl (by kernel_rfl) (by decide) (fun K hK => ?_)
        refine skip_ (w1 := ?_) (by rfl) rfl ?_ ?_
        rotate_left
        · go_simp
          rfl
        refine hK.out _ _ ?_
        clear hK K
        refine done_ (by kernel_rfl) ?_
        go_wp2
        go_end0
        exact StPost.of (St.cut (s' := ⟨s.stk.tail, s.isl, s.emb, s.val⟩) (HS5.out.below (pw_below_drewN (Below.refl _ _) _)) m HN.out rfl) (HB5.out.trans (Below.setCell (p := ⟨g, 0, none⟩) (pw_below_drewN (Below.refl _ _) _) HST.out.ge _))
end Go.Proofs.Ythokljlalgclkaa.G
