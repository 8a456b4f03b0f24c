/- Slots: what Save's two closures do. By hand. -/
import Derived.Test.YthpholjelfajiaaDoorHSlM
namespace Go.Proofs.YthpholjelfajiaaDoor.G
open Go.RowKit Go.Shelf Go.Proofs.YthpholjelfajiaaDoorW.PrintWords Go.Proofs.YthpholjelfajiaaDoorW.PrintLast Go.Proofs.YthpholjelfajiaaDoorW.PrintMore Go.Proofs.YthpholjelfajiaaDoor.Dsk Go.Proofs.YthpholjelfajiaaDoor.Sl
set_option linter.unusedVariables false
set_option linter.unusedSimpArgs false
/-- What the closures captured: the error's box, the slots', the place's. -/
structure Cap (bE bS bA g gd : Nat) (er : Int) (n : Nat) (W : World) : Prop where
  e : W.heap[bE]? = some (.cells #[.int .i64 er] 37 (0, 0))
  s : W.heap[bS]? = some (.cells #[.pointer (some ⟨g, 0, none⟩)] 26 (0, 0))
  a : W.heap[bA]? = some (.cells #[.int .i64 (n : Int)] 3 (0, 0))
  d : W.cell? ⟨g, 0, none⟩ = some (.pointer (some ⟨gd, 0, none⟩))
  n1 : bE ≠ bS
  n2 : bE ≠ bA
  n3 : bS ≠ bA
  n4 : bE ≠ g
  n5 : bA ≠ g
theorem cell_kp {F : Nat → Prop} {W W' : World} {p : Addr} {v : Value} (h : W.cell? p = some v) (hk : Kp F W W') (hn : ¬ F p.block) : W'.cell? p = some v := by
  have hlt : p.block < W.heap.size := by
    rcases Nat.lt_or_ge p.block W.heap.size with hl | hl
    · exact hl
    · rw [World.cell?, Array.getElem?_eq_none hl] at h
      cases h
  rw [← h]
  unfold World.cell?
  rw [hk.block _ hlt hn]
theorem Cap.kp {F : Nat → Prop} {bE bS bA g gd : Nat} {er : Int} {n : Nat} {W W' : World} (h : Cap bE bS bA g gd er n W) (hk : Kp F W W') (h1 : ¬ F bE) (h2 : ¬ F bS) (h3 : ¬ F bA) (h4 : ¬ F g) : Cap bE bS bA g gd er n W' :=
  ⟨hk.blk h.e h1, hk.blk h.s h2, hk.blk h.a h3, cell_kp h.d hk h4, h.n1, h.n2, h.n3, h.n4, h.n5⟩
theorem cell_far {W : World} {p q : Addr} {v u : Value} (h : W.cell? q = some v) (hne : p.block ≠ q.block) : (W.setCell p u).cell? q = some v := by
  have e := Below.heap_setCell W p u q.block (fun e => hne e.symm)
  unfold World.cell? at h ⊢
  rw [e]
  exact h
theorem Cap.setE {bE bS bA g gd : Nat} {er : Int} {n : Nat} {W : World} (h : Cap bE bS bA g gd er n W) (er' : Int) : Cap bE bS bA g gd er' n (W.setCell ⟨bE, 0, none⟩ (.int .i64 er')) :=
  ⟨blk_put h.e 0 _ rfl, blk_far (p := ⟨bE, 0, none⟩) h.s h.n1.symm _, blk_far (p := ⟨bE, 0, none⟩) h.a h.n2.symm _, cell_far h.d (show bE ≠ g from h.n4), h.n1, h.n2, h.n3, h.n4, h.n5⟩
theorem Cap.setA {bE bS bA g gd : Nat} {er : Int} {n : Nat} {W : World} (h : Cap bE bS bA g gd er n W) (n' : Nat) : Cap bE bS bA g gd er n' (W.setCell ⟨bA, 0, none⟩ (.int .i64 (n' : Int))) :=
  ⟨blk_far (p := ⟨bA, 0, none⟩) h.e h.n2 _, blk_far (p := ⟨bA, 0, none⟩) h.s h.n3 _, blk_put h.a 0 _ rfl, cell_far h.d (show bA ≠ g from h.n5), h.n1, h.n2, h.n3, h.n4, h.n5⟩
theorem Cap.cells {bE bS bA g gd : Nat} {er : Int} {n : Nat} {W : World} (h : Cap bE bS bA g gd er n W) : W.cell? ⟨bE, 0, none⟩ = some (.int .i64 er) ∧ W.cell? ⟨bS, 0, none⟩ = some (.pointer (some ⟨g, 0, none⟩)) ∧ W.cell? ⟨bA, 0, none⟩ = some (.int .i64 (n : Int)) ∧ W.cell? ⟨g, 0, none⟩ = some (.pointer (some ⟨gd, 0, none⟩)) ∧ W.frozen? ⟨bE, 0, none⟩ = false ∧ W.frozen? ⟨bA, 0, none⟩ = false :=
  ⟨(blk_cell h.e 0).trans rfl, (blk_cell h.s 0).trans rfl, (blk_cell h.a 0).trans rfl, h.d, blk_frozen h.e 0, blk_frozen h.a 0⟩
/-- The disk's blocks are none of these. -/
structure Free (F : Nat → Prop) (bE bS bA g : Nat) : Prop where
  e : ¬ F bE
  s : ¬ F bS
  a : ¬ F bA
  g : ¬ F g
theorem Free.more {F F' : Nat → Prop} {bE bS bA g : Nat} {W : World} (h : Free F bE bS bA g) (hF : ∀ k, F' k → F k ∨ W.heap.size ≤ k) (h1 : bE < W.heap.size) (h2 : bS < W.heap.size) (h3 : bA < W.heap.size) (h4 : g < W.heap.size) : Free F' bE bS bA g :=
  ⟨fun q => (hF _ q).elim h.e (fun z => by omega), fun q => (hF _ q).elim h.s (fun z => by omega), fun q => (hF _ q).elim h.a (fun z => by omega), fun q => (hF _ q).elim h.g (fun z => by omega)⟩
theorem Cap.lt {bE bS bA g gd : Nat} {er : Int} {n : Nat} {W : World} (h : Cap bE bS bA g gd er n W) : bE < W.heap.size ∧ bS < W.heap.size ∧ bA < W.heap.size ∧ g < W.heap.size := by
  refine ⟨blk_lt h.e, blk_lt h.s, blk_lt h.a, ?_⟩
  rcases Nat.lt_or_ge g W.heap.size with hl | hl
  · exact hl
  · have := h.d
    rw [World.cell?, Array.getElem?_eq_none hl] at this
    cases this
/-- What a closure's call leaves. -/
def CapPost (F : Nat → Prop) (bE bS bA g gd : Nat) (x : (Dk × Int) × Nat) (W : World) (e : Ending) (w' : World) : Prop :=
  e = .returned (.tuple #[]) ∧ ∃ F', Disk F' gd x.1.1 w' ∧ Cap bE bS bA g gd x.1.2 x.2 w' ∧ Free F' bE bS bA g ∧ (∀ k, F' k → F k ∨ W.heap.size ≤ k) ∧ Kp (fun k => F k ∨ k = bE ∨ k = bA) W w'
set_option maxHeartbeats 4000000 in
set_option maxRecDepth 100000 in
theorem wr_c (F : Nat → Prop) (bE bS bA g gd : Nat) (er : Int) (n : Nat) (d : Dk) (A : Option Addr) (m cm : Nat) (ys : List Int) (W : World) (hD : Disk F gd d W) (hs : Small d) (hC : Cap bE bS bA g gd er n W) (hf : Free F bE bS bA g) (hn : n ≤ 100000) (hr : Kd.C (Kd.int .u8) W A m ys) :
    Calls Tryd.prog 27 #[.slice A m cm, .pointer (some ⟨bE, 0, none⟩), .pointer (some ⟨bS, 0, none⟩), .pointer (some ⟨bA, 0, none⟩)] W (CapPost F bE bS bA g gd (st1 ((d, er), n) ys) W) := by
  have HD := Aside0.mk (And.intro hD (And.intro hs (And.intro hf hr)))
  have HC := Aside0.mk hC
  obtain ⟨c1, c2, c3, c4, z1, z2⟩ := hC.cells
  by_cases h0 : er = 0
  · subst h0
    have hst : st1 ((d, 0), n) ys = (Dsk.write d (n : Int) ys, n + 1) := by unfold st1; rw [if_pos rfl]
    have HST := Aside0.mk hst
    have w1_ : wrap64 ((n : Int) + 1) = ((n + 1 : Nat) : Int) := by unfold wrap64; omega
    have HW1 := Aside0.mk w1_
    have hb := below_drew (Below.refl W.heap.size W)
    have HDd := Aside0.mk (show Disk F gd d W.drew from hD.below hb)
    have HRd := Aside0.mk (show Kd.C (Kd.int .u8) W.drew A m ys from Kd.C_below hr hb)
    have HCd := Aside0.mk (show Cap bE bS bA g gd 0 n W.drew from hC.kp (Kp.of_below (F := fun _ => False) hb) id id id id)
    clear hD hs hf hr hst w1_ hb
    go_enter Tryd.func27, Tryd.ntmps27
    go_upto_region 1 with (fail)
    refine start_ (n := 8) (S := fun w' => w'.cell? ⟨bS, 0, none⟩ = some (.pointer (some ⟨g, 0, none⟩)) ∧ w'.cell? ⟨g, 0, none⟩ = some (.pointer (some ⟨gd, 0, none⟩)) ∧ w'.cell? ⟨bA, 0, none⟩ = some (.int .i64 (n : Int))) (ds := [7]) #[false, false, false, false, false, false, false, false] (by kernel_rfl) rfl rfl ⟨HCd.out.cells.2.1, HCd.out.cells.2.2.2.1, HCd.out.cells.2.2.1⟩ (fun hHeld => ?_)
    refine pure_ (i := 5) (N := some 12) (v := ?_) (a' := ?_) #[false, false, false, false, false, true, false, false] rfl rfl (by kernel_rfl) (fun _ _ _ h => h) (Or.inl ⟨by rfl, ?_⟩) ?_ ?_
    rotate_left
    · intro w'
      go_simp
      with_reducible rfl
    rotate_left
    · simp only [Act.put, List.setIfInBounds_toArray, List.set_cons_zero, List.set_cons_succ, i64_w, i32_w]
      rfl
    refine take_ (i := 0) (N := some 7) (v := ?_) (a' := ?_) #[true, false, false, false, false, true, false, false] rfl rfl (by kernel_rfl) (fun _ _ _ h => h) (Or.inl ⟨by rfl, ?_⟩) hHeld ?_ ?_
    rotate_left
    · rintro w' ⟨s0, s1, s2⟩
      go_simp
      with_reducible rfl
    rotate_left
    · simp only [Act.put, List.setIfInBounds_toArray, List.set_cons_zero, List.set_cons_succ, i64_w, i32_w]
      rfl
    refine pure_ (i := 1) (N := some 8) (v := ?_) (a' := ?_) #[true, true, false, false, false, true, false, false] rfl rfl (by kernel_rfl) (fun _ _ _ h => h) (Or.inl ⟨by rfl, ?_⟩) ?_ ?_
    rotate_left
    · intro w'
      go_simp
      with_reducible rfl
    rotate_left
    · simp only [Act.put, List.setIfInBounds_toArray, List.set_cons_zero, List.set_cons_succ, i64_w, i32_w]
      rfl
    refine pure_ (i := 2) (N := some 9) (v := ?_) (a' := ?_) #[true, true, true, false, false, true, false, false] rfl rfl (by kernel_rfl) (fun _ _ _ h => h) (Or.inl ⟨by rfl, ?_⟩) ?_ ?_
    rotate_left
    · intro w'
      go_simp
      with_reducible rfl
    rotate_left
    · simp only [Act.put, List.setIfInBounds_toArray, List.set_cons_zero, List.set_cons_succ, i64_w, i32_w]
      rfl
    refine take_ (i := 3) (N := some 10) (v := ?_) (a' := ?_) #[true, true, true, true, false, true, false, false] rfl rfl (by kernel_rfl) (fun _ _ _ h => h) (Or.inl ⟨by rfl, ?_⟩) hHeld ?_ ?_
    rotate_left
    · rintro w' ⟨s0, s1, s2⟩
      go_simp
      with_reducible rfl
    rotate_left
    · simp only [Act.put, List.setIfInBounds_toArray, List.set_cons_zero, List.set_cons_succ, i64_w, i32_w]
      rfl
    refine take_ (i := 4) (N := some 11) (v := ?_) (a' := ?_) #[true, true, true, true, true, true, false, false] rfl rfl (by kernel_rfl) (fun _ _ _ h => h) (Or.inl ⟨by rfl, ?_⟩) hHeld ?_ ?_
    rotate_left
    · rintro w' ⟨s0, s1, s2⟩
      go_simp
      with_reducible rfl
    rotate_left
    · simp only [Act.put, List.setIfInBounds_toArray, List.set_cons_zero, List.set_cons_succ, i64_w, i32_w]
      rfl
    refine one_ (i := 6) (N := some 13) #[true, true, true, true, true, true, true, false] rfl rfl (by kernel_rfl) (by decide) (fun K hK => ?_)
    refine goes_ Tryd.func28 (by kernel_rfl) rfl #[.pointer (some ⟨gd, 0, none⟩), .int .i64 (n : Int), .slice A m cm] (by rfl) rfl rfl (by simp only [List.map_toArray, List.map_cons, List.map_nil]; rfl) ?_
    with_reducible refine (Write_c F gd d (n : Int) A m cm ys W.drew HDd.out HD.out.2.1 HRd.out).mono ?_
    rintro e w5 ⟨rfl, F5, hD5, hF5, hk5⟩
    refine ⟨_, rfl, ?_⟩
    have hC5 := HCd.out.kp hk5 HD.out.2.2.1.e HD.out.2.2.1.s HD.out.2.2.1.a HD.out.2.2.1.g
    have he5 := hC5.cells.1
    have hz5 := hC5.cells.2.2.2.2.1
    refine hK.out _ _ ⟨hC5.cells.2.1, hC5.cells.2.2.2.1, hC5.cells.2.2.1⟩ (fun hHeld => ?_)
    clear hK K
    refine norm_ (a' := ?_) ?_ ?_
    rotate_left
    · show Act.put _ (some 13) _ = _
      simp only [Act.put, List.setIfInBounds_toArray, List.set_cons_zero, List.set_cons_succ, i64_w, i32_w]
      rfl
    refine last_ (i := 7) (N := none) #[true, true, true, true, true, true, true, true] rfl rfl (by kernel_rfl) (by decide) (fun K hK => ?_)
    refine skip_ (w1 := ?_) (by rfl) rfl ?_ ?_
    rotate_left
    · go_simp
      rfl
    refine hK.out _ _ ?_
    clear hK K
    refine done_ (by kernel_rfl) ?_
    have hC6 := hC5.setE (Dsk.write d (n : Int) ys).2
    obtain ⟨W6, hW6⟩ : ∃ W6, w5.setCell ⟨bE, 0, none⟩ (.int .i64 (Dsk.write d (n : Int) ys).2) = W6 := ⟨_, rfl⟩
    rw [hW6] at hC6
    rw [hW6]
    have H5 := Aside0.mk (And.intro hD5 (And.intro hF5 (And.intro hk5 hW6)))
    have H6 := Aside0.mk hC6
    obtain ⟨c1, c2, c3, c4, z1, z2⟩ := hC6.cells
    clear hD5 hF5 hk5 hW6 hC6 hC5 he5 hz5 hHeld
    go_wp2
    go_end0
    rw [HST.out]
    have hb := below_drew (Below.refl W.heap.size W)
    have hk6 : Kp (fun k => F k ∨ k = bE ∨ k = bA) W W6 := by
      have h1 : Kp (fun k => F k ∨ k = bE ∨ k = bA) W w5 := ((Kp.of_below hb).trans H5.out.2.2.1 (fun q _ hq => hq)).mono (fun q _ hq => .inl hq)
      rw [← H5.out.2.2.2]
      exact h1.set (.inl (.inr (.inl rfl))) _
    have hlt := HC.out.lt
    have hkA := hk6.set (p := ⟨bA, 0, none⟩) (.inl (.inr (.inr rfl))) (.int .i64 ((n + 1 : Nat) : Int))
    have hF5 : ∀ k, F5 k → F k ∨ W.heap.size ≤ k := H5.out.2.1
    have hff : Free F5 bE bS bA g := HD.out.2.2.1.more hF5 hlt.1 hlt.2.1 hlt.2.2.1 hlt.2.2.2
    have hD6 : Disk F5 gd (Dsk.write d (n : Int) ys).1 W6 := by
      rw [← H5.out.2.2.2]
      exact H5.out.1.kp ((Kp.refl (fun k => k = bE) w5).set (p := ⟨bE, 0, none⟩) (.inl rfl) _) (fun k hk e => hff.e (e ▸ hk))
    have hD7 := hD6.kp ((Kp.refl (fun k => k = bA) W6).set (p := ⟨bA, 0, none⟩) (.inl rfl) (.int .i64 ((n + 1 : Nat) : Int))) (fun k hk e => hff.a (e ▸ hk))
    exact ⟨rfl, F5, hD7, H6.out.setA (n + 1), hff, hF5, hkA⟩
  · have f1 : (er == 0) = false := by rw [beq_eq_false_iff_ne]; exact h0
    have f2 : (er = 0) = False := eq_false h0
    have hst : st1 ((d, er), n) ys = ((d, er), n) := by unfold st1; rw [if_neg h0]
    rw [hst]
    clear hD hs hC hf hr c2 c3 c4 z1 z2 h0 hst
    go_enter Tryd.func27, Tryd.ntmps27
    go_wp2
    go_end0
    exact ⟨rfl, F, HD.out.1, HC.out, HD.out.2.2.1, fun k hk => .inl hk, Kp.refl _ _⟩
set_option maxHeartbeats 4000000 in
set_option maxRecDepth 100000 in
theorem fl_c (F : Nat → Prop) (bE bS bA g gd : Nat) (er : Int) (n : Nat) (d : Dk) (W : World) (hD : Disk F gd d W) (hs : Small d) (hC : Cap bE bS bA g gd er n W) (hf : Free F bE bS bA g) :
    Calls Tryd.prog 29 #[.pointer (some ⟨bE, 0, none⟩), .pointer (some ⟨bS, 0, none⟩)] W (CapPost F bE bS bA g gd (fl1 (d, er), n) W) := by
  have HD := Aside0.mk (And.intro hD (And.intro hs hf))
  have HC := Aside0.mk hC
  obtain ⟨c1, c2, c3, c4, z1, z2⟩ := hC.cells
  by_cases h0 : er = 0
  · subst h0
    have hst : fl1 (d, 0) = flush d := by unfold fl1; rw [if_pos rfl]
    have HST := Aside0.mk hst
    clear hD hs hf hC hst c3 z1 z2
    go_enter Tryd.func29, Tryd.ntmps29
    go_wp2_with (first | (go_at_call 30; refine (Flush_c F gd d W HD.out.1 HD.out.2.1).mono ?_; rintro e w5 ⟨rfl, F5, hD5, hF5, hk5⟩; refine of_halt ?_))
    unfold G.Halt
    have hC5 := HC.out.kp hk5 HD.out.2.2.e HD.out.2.2.s HD.out.2.2.a HD.out.2.2.g
    have H5 := Aside0.mk (And.intro hD5 (And.intro hF5 (And.intro hk5 hC5)))
    have he5 := hC5.cells.1
    have hz5 := hC5.cells.2.2.2.2.1
    clear hD5 hF5 hk5 hC5 c1 c2 c4
    go_wp2
    go_end0
    rw [HST.out]
    have hlt := HC.out.lt
    have hkA : Kp (fun k => F k ∨ k = bE ∨ k = bA) W (w5.setCell ⟨bE, 0, none⟩ (.int .i64 (flush d).2)) := (H5.out.2.2.1.mono (fun q _ hq => .inl hq)).set (p := ⟨bE, 0, none⟩) (.inl (.inr (.inl rfl))) _
    have hff : Free F5 bE bS bA g := HD.out.2.2.more H5.out.2.1 hlt.1 hlt.2.1 hlt.2.2.1 hlt.2.2.2
    have hD6 := H5.out.1.kp ((Kp.refl (fun k => k = bE) w5).set (p := ⟨bE, 0, none⟩) (.inl rfl) (.int .i64 (flush d).2)) (fun k hk e => hff.e (e ▸ hk))
    exact ⟨rfl, F5, hD6, H5.out.2.2.2.setE (flush d).2, hff, H5.out.2.1, hkA⟩
  · have f1 : (er == 0) = false := by rw [beq_eq_false_iff_ne]; exact h0
    have f2 : (er = 0) = False := eq_false h0
    have hst : fl1 (d, er) = (d, er) := by unfold fl1; rw [if_neg h0]
    rw [hst]
    clear hD hs hC hf c2 c3 c4 z1 z2 h0 hst
    go_enter Tryd.func29, Tryd.ntmps29
    go_wp2
    go_end0
    exact ⟨rfl, F, HD.out.1, HC.out, HD.out.2.2, fun k hk => .inl hk, Kp.refl _ _⟩
end Go.Proofs.YthpholjelfajiaaDoor.G
