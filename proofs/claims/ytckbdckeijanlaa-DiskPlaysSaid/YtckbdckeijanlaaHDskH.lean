/- The disk: Read. By hand. -/
import Derived.Test.YtckbdckeijanlaaHDskG
namespace Go.Proofs.Ytckbdckeijanlaa.G
open Go.RowKit Go.Shelf Go.Proofs.YtckbdckeijanlaaW.PrintWords Go.Proofs.YtckbdckeijanlaaW.PrintLast Go.Proofs.YtckbdckeijanlaaW.PrintMore Go.Proofs.Ytckbdckeijanlaa.Dsk
set_option linter.unusedVariables false
set_option linter.unusedSimpArgs false
attribute [local go_sem] Oper.semAt_some
set_option maxHeartbeats 8000000 in
set_option maxRecDepth 100000 in
theorem Read_bad (F : Nat → Prop) (g gl cl : Nat) (d : Dk) (wv : Value) (n : Int) (W : World) (h : Mem F g gl cl d wv W) (hS : isS d n = false) :
    Calls Try.prog 15 #[.pointer (some ⟨g, 0, none⟩), .int .i64 n] W fun e w' => e = .returned (.tuple #[.slice none 0 0, .int .i64 4]) ∧ Below W.heap.size W w' := by
  have HB := Aside0.mk (below_alloc (Below.refl W.heap.size W) (.cells #[.int .i64 n] 3))
  have HW := Aside0.mk (wrong_calls F g gl cl d wv n _ (h.below HB.out))
  rw [hS] at HW
  clear h
  go_enter Try.func15, Try.ntmps15
  go_wp2_with (first | (go_at_call 26; refine HW.out.mono ?_; rintro e w5 ⟨rfl, rfl⟩))
  all_goals first | (go_ret2; exact ⟨rfl, HB.out⟩) | skip
set_option maxHeartbeats 8000000 in
set_option maxRecDepth 100000 in
theorem Read_down (F : Nat → Prop) (g gl cl : Nat) (d : Dk) (wv : Value) (n : Int) (W : World) (h : Mem F g gl cl d wv W) (hS : isS d n = true) (hd : down d = true) :
    Calls Try.prog 15 #[.pointer (some ⟨g, 0, none⟩), .int .i64 n] W fun e w' => e = .returned (.tuple #[.slice none 0 0, .int .i64 170]) ∧ Below W.heap.size W w' := by
  have HB := Aside0.mk (below_alloc (Below.refl W.heap.size W) (.cells #[.int .i64 n] 3))
  have HW := Aside0.mk (wrong_calls F g gl cl d wv n _ (h.below HB.out))
  rw [hS] at HW
  have HD := Aside0.mk (down_calls F g gl cl d wv _ (h.below HB.out))
  rw [hd] at HD
  clear h
  go_enter Try.func15, Try.ntmps15
  go_wp2_with (first | (go_at_call 26; refine HW.out.mono ?_; rintro e w5 ⟨rfl, rfl⟩) | (go_at_call 27; refine HD.out.mono ?_; rintro e w5 ⟨rfl, rfl⟩))
  all_goals first | (go_ret2; exact ⟨rfl, HB.out⟩) | skip
/-- What a sector tells when so many writes are looked through. -/
def told (d : Dk) (n : Nat) (ws : List (Nat × List Int)) : List Int := ws.foldl (fun b w => if w.1 = n then w.2 else b) (d.lies.getD n [])
theorem told_snoc (d : Dk) (n : Nat) (ws : List (Nat × List Int)) (w : Nat × List Int) : told d n (ws ++ [w]) = if w.1 = n then w.2 else told d n ws := by simp [told]
theorem told_len {d : Dk} (h : Ok d) {n : Nat} (hn : n < d.lies.length) (pre : List (Fin d.waits.length)) : (told d n (pre.map fun k => d.waits[k.val])).length = 64 := by
  have key : ∀ (ws : List (Nat × List Int)) (b : List Int), b.length = 64 → (∀ w ∈ ws, w.2.length = 64) → (ws.foldl (fun b w => if w.1 = n then w.2 else b) b).length = 64 := by
    intro ws
    induction ws with
    | nil => intro b hb _; exact hb
    | cons w ws ih =>
      intro b hb hw
      rw [List.foldl_cons]
      refine ih _ ?_ (fun q hq => hw q (by simp [hq]))
      split
      · exact hw w (by simp)
      · exact hb
  refine key _ _ (getD_ok h.lies hn) (fun w hw => ?_)
  obtain ⟨k, _, rfl⟩ := List.mem_map.1 hw
  exact (h.waits _ (List.getElem_mem k.isLt)).2
def zeroS : Value := .agg (List.replicate 64 (Value.int .u8 0)).toArray
theorem store_sec (V : World) (b : Nat) (old : Array Value) (t : TypeId) (xs : List Int) (h : V.heap[b]? = some (.cells old t (0, 0))) (ho : old.size = 64) (hx : xs.length = 64) : (Instr.storeAt 62 (.pointer (some ⟨b, 0, none⟩)) (.agg (bts xs).toArray)).run Try.prog V = .ok () (V.setRow b (bts xs).toArray) := by
  have hs : (bts xs).toArray.size = 64 := by rw [List.size_toArray, bts_length, hx]
  have := run_storeVar_row (P := Try.prog) V b t 62 old (bts xs).toArray h (by rw [hs]; exact sizeS) (by rw [ho, hs]) (all_oneCell_toArray (bts_one xs))
  simp only [Instr.storeAt, Instr.sureAddr, Sem.run_bind, Sem.run_pure, Result.andThen_ok, this]
theorem Kp.setRow {F : Nat → Prop} {w w1 : World} (h : Kp F w w1) {b : Nat} (hb : F b ∨ w.heap.size ≤ b) (c : Array Value) : Kp F w (w1.setRow b c) :=
  ⟨h.os, h.tape, h.output, by rw [setRow_size]; exact h.size, fun k hk hn => (setRow_other w1 b k c (fun e => by
    subst e
    rcases hb with hb | hb
    · exact hn hb
    · omega)).trans (h.block k hk hn)⟩
structure RdI (d : Dk) (n : Nat) (W : World) (b7 : Nat) (pre : List (Fin d.waits.length)) (V : World) : Prop where
  box : V.heap[W.heap.size]? = some (.cells #[.int .i64 (n : Int)] 3 (0, 0))
  at_ : V.heap[b7]? = some (.cells (bts (told d n (pre.map fun k => d.waits[k.val]))).toArray 62 (0, 0))
  kp : Kp (fun k => W.heap.size ≤ k) W V
  sz : b7 + 2 ≤ V.heap.size
theorem RdI.own {d : Dk} {n : Nat} {W : World} {b7 : Nat} (hb : W.heap.size < b7) (B : Nat) (hB : b7 < B) : OwnFrom B (RdI d n W b7) := by
  intro s A V row hs hg hr
  have hne : ∀ k, k < B → some k ≠ row := fun k hk e => by have := (hr k e.symm).1; omega
  exact ⟨blk_grown hs.box hg (hne _ (by omega)), blk_grown hs.at_ hg (hne _ hB), hs.kp.trans (Kp.of_grown (F := fun k => B ≤ k) hg (fun q hq => (hr q hq).1)) (fun q _ hq => by show _ ≤ _; omega), Nat.le_trans hs.sz hg.size⟩
def RdPost (xs : List Int) (W : World) (e : Ending) (w' : World) : Prop := ∃ v, e = .returned (.tuple #[v, .int .i64 0]) ∧ Kd.R (Kd.int .u8) 5 w' W.heap.size (fun _ => True) v xs ∧ Below W.heap.size W w'
set_option maxHeartbeats 16000000 in
set_option maxRecDepth 100000 in
theorem Read_ok (F : Nat → Prop) (g gl cl : Nat) (d : Dk) (wv : Value) (n : Nat) (W : World) (h : Mem F g gl cl d wv W) (hn : n < d.lies.length) (hd : down d = false) (hwl : d.waits.length < 17592186044416) :
    Calls Try.prog 15 #[.pointer (some ⟨g, 0, none⟩), .int .i64 (n : Int)] W (RdPost (latest d n) W) := by
  have HB := Aside0.mk (below_alloc (Below.refl W.heap.size W) (.cells #[.int .i64 (n : Int)] 3))
  have HW := Aside0.mk (wrong_calls F g gl cl d wv n _ (h.below HB.out))
  rw [show isS d (n : Int) = true from decide_eq_true (by omega)] at HW
  have HD := Aside0.mk (down_calls F g gl cl d wv _ (h.below HB.out))
  rw [hd] at HD
  have HM := Aside0.mk h
  have hx : (d.lies.getD n []).length = 64 := getD_ok h.ok.lies hn
  have hF : ∀ V, Below W.heap.size W V → V.cell? ⟨g, 0, none⟩ = some (.slice (some ⟨gl, 0, none⟩) d.lies.length cl) ∧ (Instr.loadAt 62 (.pointer (some ⟨gl, n * 64, none⟩))).run Try.prog V = .ok (.agg (bts (d.lies.getD n [])).toArray) V := fun V hV => by
    have hm := h.below hV
    refine ⟨hm.cells.1, ?_⟩
    obtain ⟨c, hcl, hcM, hcc, hcf⟩ := Kd.R_elem hm.lies [] (n : Int) (by omega) (by omega)
    rw [Int.toNat_natCast] at hcM hcc
    obtain ⟨_, rfl⟩ := hcM
    exact load_bts V _ _ hx (fun i u hu => by rw [Addr.add_mid]; exact hcc i u hu)
  have f1 : ((n : Int) < (d.lies.length : Int)) = True := eq_true (by omega)
  have f2 : (n < d.lies.length) = True := eq_true hn
  have hbox : (W.alloc (.cells #[.int .i64 (n : Int)] 3)).heap[W.heap.size]? = some (.cells #[.int .i64 (n : Int)] 3 (0, 0)) := blk_new W (.cells #[.int .i64 (n : Int)] 3)
  have HSZ1 := Aside0.mk (World.size_alloc W (.cells #[.int .i64 (n : Int)] 3))
  have HBX := Aside0.mk hbox
  obtain ⟨x0, hx0⟩ : ∃ x0, d.lies.getD n [] = x0 := ⟨_, rfl⟩
  rw [hx0] at hx hF
  have HX := Aside0.mk hx
  have HX0 := Aside0.mk hx0
  have HF := Aside0.mk hF
  have HN := Aside0.mk (And.intro hwl hn)
  have eg : ∀ args w, (callFunc 37 args).run Try.prog w = .ok (.enter 37 args) w := fun args w => by first | rfl | simp [callFunc]
  have HE := Aside0.mk eg
  clear h hd hwl eg hF hbox hx hn hx0
  refine (callsIn_wide (n := 6)).1 ?_
  refine callsIn_of_wp_marks Try.func15 rfl trivial ?_ rfl
  simp only [Try.ntmps15, List.size_toArray, List.length_cons, List.length_nil, Nat.reduceAdd, Nat.reduceSub, Array.replicate_succ, Array.replicate_zero, List.push_toArray, List.append_toArray, List.nil_append, List.cons_append]
  refine wpIn_wide.2 ?_
  go_upto_region 6 with (first | (go_at_call 26; refine HW.out.mono ?_; rintro e w5 ⟨rfl, hw5⟩; obtain rfl := hw5.symm) | (go_at_call 27; refine HD.out.mono ?_; rintro e w6 ⟨rfl, hw6⟩; obtain rfl := hw6.symm))
  generalize hW1 : W.alloc (.cells #[.int .i64 (n : Int)] 3) = W1 at *
  clear hW1
  refine wp_normal ?_
  refine start_ (n := 9) (S := fun w' => w'.cell? ⟨g, 0, none⟩ = some (.slice (some ⟨gl, 0, none⟩) d.lies.length cl) ∧ w'.cell? ⟨W.heap.size, 0, none⟩ = some (.int .i64 (n : Int)) ∧ (Instr.loadAt 62 (.pointer (some ⟨gl, n * 64, none⟩))).run Try.prog w' = .ok (.agg (bts x0).toArray) w') (ds := [8]) #[false, false, false, false, false, false, false, false, false] (by kernel_rfl) rfl rfl ⟨(HF.out _ (below_drew HB.out)).1, (blk_cell HBX.out 0).trans rfl, (HF.out _ (below_drew HB.out)).2⟩ (fun hHeld => ?_)
  refine pure_ (i := 0) (N := some 18) (v := ?_) (a' := ?_) #[true, false, false, false, false, false, false, false, false] rfl rfl (by kernel_rfl) (fun _ _ _ h => h) (Or.inl ⟨by rfl, ?_⟩) ?_ ?_
  rotate_left
  · intro w'
    go_simp
    with_reducible rfl
  rotate_left
  · simp only [Act.put, List.setIfInBounds_toArray, List.set_cons_zero, List.set_cons_succ, i64_w, i32_w]
    rfl
  refine pure_ (i := 1) (N := some 19) (v := ?_) (a' := ?_) #[true, true, false, false, false, false, false, false, false] rfl rfl (by kernel_rfl) (fun _ _ _ h => h) (Or.inl ⟨by rfl, ?_⟩) ?_ ?_
  rotate_left
  · intro w'
    go_simp
    with_reducible rfl
  rotate_left
  · simp only [Act.put, List.setIfInBounds_toArray, List.set_cons_zero, List.set_cons_succ, i64_w, i32_w]
    rfl
  refine pure_ (i := 2) (N := some 20) (v := ?_) (a' := ?_) #[true, true, true, false, false, false, false, false, false] rfl rfl (by kernel_rfl) (fun _ _ _ h => h) (Or.inl ⟨by rfl, ?_⟩) ?_ ?_
  rotate_left
  · intro w'
    go_simp
    with_reducible rfl
  rotate_left
  · simp only [Act.put, List.setIfInBounds_toArray, List.set_cons_zero, List.set_cons_succ, i64_w, i32_w]
    rfl
  refine take_ (i := 3) (N := some 21) (v := ?_) (a' := ?_) #[true, true, true, true, false, false, false, false, false] rfl rfl (by kernel_rfl) (fun _ _ _ h => h) (Or.inl ⟨by rfl, ?_⟩) hHeld ?_ ?_
  rotate_left
  · rintro w' ⟨s0, s1, s2⟩
    go_simp
    with_reducible rfl
  rotate_left
  · simp only [Act.put, List.setIfInBounds_toArray, List.set_cons_zero, List.set_cons_succ, i64_w, i32_w]
    rfl
  refine take_ (i := 4) (N := some 22) (v := ?_) (a' := ?_) #[true, true, true, true, true, false, false, false, false] rfl rfl (by kernel_rfl) (fun _ _ _ h => h) (Or.inl ⟨by rfl, ?_⟩) hHeld ?_ ?_
  rotate_left
  · rintro w' ⟨s0, s1, s2⟩
    go_simp
    with_reducible rfl
  rotate_left
  · simp only [Act.put, List.setIfInBounds_toArray, List.set_cons_zero, List.set_cons_succ, i64_w, i32_w]
    rfl
  refine pure_ (i := 5) (N := some 23) (v := ?_) (a' := ?_) #[true, true, true, true, true, true, false, false, false] rfl rfl (by kernel_rfl) (fun _ _ _ h => h) (Or.inl ⟨by rfl, ?_⟩) ?_ ?_
  rotate_left
  · intro w'
    go_simp
    with_reducible rfl
  rotate_left
  · simp only [Act.put, List.setIfInBounds_toArray, List.set_cons_zero, List.set_cons_succ, i64_w, i32_w]
    rfl
  refine take_ (i := 6) (N := some 24) (v := ?_) (a' := ?_) #[true, true, true, true, true, true, true, false, false] rfl rfl (by kernel_rfl) (fun _ _ _ h => h) (Or.inl ⟨by rfl, ?_⟩) hHeld ?_ ?_
  rotate_left
  · rintro w' ⟨s0, s1, s2⟩
    refine Eq.trans (exec_load 62 _ (.pointer (some ⟨gl, n * 64, none⟩)) (.agg (bts x0).toArray) rfl (by rfl) s2) ?_
    with_reducible rfl
  rotate_left
  · simp only [Act.put, List.setIfInBounds_toArray, List.set_cons_zero, List.set_cons_succ, i64_w, i32_w]
    rfl
  refine one_ (i := 7) (N := some 7) #[true, true, true, true, true, true, true, true, false] rfl rfl (by kernel_rfl) (by decide) (fun K hK => ?_)
  refine value_ (by rfl) rfl (exec_alloc 62 zeroS rfl (zero_S _)) ?_
  refine hK.out _ _ ⟨(HF.out _ (below_alloc (below_drew HB.out) _)).1, (blk_cell (blk_alloc (w := W1.drew) HBX.out _) 0).trans rfl, (HF.out _ (below_alloc (below_drew HB.out) _)).2⟩ (fun hHeld => ?_)
  clear hK K
  refine norm_ (a' := ?_) ?_ ?_
  rotate_left
  · show Act.put _ (some 7) _ = _
    simp only [Act.put, List.setIfInBounds_toArray, List.set_cons_zero, List.set_cons_succ, i64_w, i32_w]
    rfl
  refine last_ (i := 8) (N := none) #[true, true, true, true, true, true, true, true, true] rfl rfl (by kernel_rfl) (by decide) (fun K hK => ?_)
  refine skip_ (by rfl) rfl (exec_store 62 _ _ (.pointer (some ⟨W1.drew.heap.size, 0, none⟩)) (.agg (bts x0).toArray) rfl (by rfl) (by rfl) (store_sec _ _ zeroS.cells 62 _ (blk_new _ _) rfl HX.out)) ?_
  refine hK.out _ _ ?_
  clear hK K
  refine done_ (by kernel_rfl) ?_
  have hat2 : ((W1.drew.alloc (.cells zeroS.cells 62)).setRow W1.drew.heap.size (bts x0).toArray).heap[W1.heap.size]? = some (.cells (bts x0).toArray 62 (0, 0)) := setRow_heap _ _ _ _ _ _ (blk_new W1.drew _)
  have hbx2 : ((W1.drew.alloc (.cells zeroS.cells 62)).setRow W1.drew.heap.size (bts x0).toArray).heap[W.heap.size]? = some (.cells #[.int .i64 (n : Int)] 3 (0, 0)) := (setRow_other _ _ _ _ (by show W.heap.size ≠ W1.heap.size; have := HSZ1.out; omega)).trans (blk_alloc (w := W1.drew) HBX.out _)
  have hkp2 : Kp (fun k => W.heap.size ≤ k) W ((W1.drew.alloc (.cells zeroS.cells 62)).setRow W1.drew.heap.size (bts x0).toArray) := (Kp.of_below (below_alloc (below_drew HB.out) _)).setRow (.inl (by show W.heap.size ≤ W1.heap.size; have := HSZ1.out; omega)) _
  have hsz2 : ((W1.drew.alloc (.cells zeroS.cells 62)).setRow W1.drew.heap.size (bts x0).toArray).heap.size = W.heap.size + 2 := by rw [setRow_size, World.size_alloc]; show W1.heap.size + 1 = _; have := HSZ1.out; omega
  have e7 : W1.drew.heap.size = W.heap.size + 1 := HSZ1.out
  have e7' : W1.heap.size = W.heap.size + 1 := HSZ1.out
  rw [e7] at hat2 hbx2 hkp2 hsz2 ⊢
  rw [e7'] at hat2
  clear e7 e7' HF HW HD HB HBX HSZ1
  generalize ((W1.drew.alloc (.cells zeroS.cells 62)).setRow (W.heap.size + 1) (bts x0).toArray) = W2 at *
  have HW2 := Aside0.mk (And.intro hat2 (And.intro hbx2 (And.intro hkp2 hsz2)))
  clear hat2 hbx2 hkp2 hsz2
  refine normal_of ?_
  go_wp2_with (first | (go_at_call 29; refine (all_calls g _).mono ?_; rintro e w7 ⟨rfl, hw7⟩; obtain rfl := hw7.symm))
  refine (wpIn_wide (n := 6)).1 ?_
  obtain ⟨W0, hW0⟩ : ∃ W0, (W2.alloc (.cells #[.pointer (some ⟨g, 0, none⟩)] 24)) = W0 := ⟨_, rfl⟩
  have hs2 : W2.heap.size = W.heap.size + 2 := HW2.out.2.2.2
  have hsz : W0.heap.size = W.heap.size + 3 := by rw [← hW0]; simp; omega
  have hk2 : Kp (fun k => W.heap.size ≤ k) W W0 := by rw [← hW0]; exact HW2.out.2.2.1.trans (Kp.of_below (F := fun _ => False) (below_alloc (Below.refl _ _) _)) (fun q _ hq => hq.elim)
  have hB0 : Below W.heap.size W W0 := hk2.below (Nat.le_refl _) (fun k hk h => by omega)
  have hI0 : RdI d n W (W.heap.size + 1) [] W0 := by
    rw [← hW0]
    refine ⟨blk_alloc HW2.out.2.1 _, ?_, by rw [hW0]; exact hk2, by rw [hW0, hsz]; omega⟩
    rw [show told d n (([] : List (Fin d.waits.length)).map fun k => d.waits[k.val]) = x0 from HX0.out]
    exact blk_alloc HW2.out.1 _
  have hbox0 : W0.cell? ⟨W2.heap.size, 0, none⟩ = some (.pointer (some ⟨g, 0, none⟩)) := by
    rw [← hW0]
    exact (blk_cell (blk_new W2 _) 0).trans rfl
  have hM0 := HM.out.below hB0
  have hwv0 := hM0.cells.2.1
  have hR0 := Kd.R_tight rfl hM0.waits
  have hown0 : ∀ k, some k = wv.ownBlock → k < W.heap.size := fun k hk => Kd.R_lt HM.out.waits k hk.symm
  obtain ⟨A, c, hwe⟩ := Kd.R_slice hR0
  rw [List.length_map] at hwe
  subst hwe
  rw [hW0]
  have HSZ := Aside0.mk (And.intro hsz hs2)
  have HZW := Aside0.mk zero_W
  have HOWN := Aside0.mk hown0
  clear hB0 hW0 hHeld
  refine wpIn_rangeFunc_ownH (by rfl) (by omega) (gf := 37) (lb := #[.pointer (some ⟨W2.heap.size, 0, none⟩)]) rfl trivial HE.out
    (all_stops Fence.wide 5 trivial rfl (by omega) W2.heap.size g c A d.waits W0 HN.out.1 hR0 hbox0 hwv0 (Kp (fun k => W.heap.size ≤ k)) (fun X Y hX hk => ⟨hk.size, fun k hk' => hk.block k (by have := HOWN.out k hk'; omega) (by have := HOWN.out k hk'; omega)⟩))
    (fun h k => h.trans k (fun _ _ hq => hq)) (fun V l o o' hl hV _ _ => Kp.of_grown (grownBy_putObj' V l o') (fun q hq => by injection hq with hq; subst hq; show _ ≤ _; omega)) (Below.refl _ _) (fun _ => rfl)
    (RdI d n W (W.heap.size + 1)) (fun _ _ _ => False) (RdI.own (by omega) _ (by omega)) (fun _ _ _ _ _ hs _ _ => hs) hI0
    (fun x a' V => ∃ b, a' = { tmps := #[.pointer (some ⟨g, 0, none⟩), .int .i64 (n : Int), undef, .pointer (some ⟨W.heap.size, 0, none⟩), .slice none 0 0, .int .i64 0, .int .i64 0, .pointer (some ⟨W.heap.size + 1, 0, none⟩), undef, .pointer (some ⟨b, 0, none⟩), .pointer (some ⟨g, 0, none⟩), .int .i64 (n : Int), .int .i64 0, .int .i64 0, .bool false, undef, .pointer (some ⟨g, 0, none⟩), .bool false, .pointer (some ⟨g, 0, none⟩), .pointer (some ⟨g, 0, none⟩), .pointer (some ⟨g, 0, none⟩), .slice (some ⟨gl, 0, none⟩) d.lies.length cl, .int .i64 (n : Int), .pointer (some ⟨gl, n * 64, none⟩), .agg (bts x0).toArray, .pointer (some ⟨g, 0, none⟩),
      .func (.func 37) #[] #[.pointer (some ⟨W2.heap.size, 0, none⟩)], .int .i64 ((x.val : Nat) : Int), .agg (wcells d.waits[x.val]).toArray, undef, undef, undef, undef, undef, undef, undef, undef, undef], defers := [] } ∧ V.heap[b]? = some (.cells (wcells d.waits[x.val]).toArray 64 (0, 0)) ∧ W0.heap.size ≤ b)
    ?hAx ?assign ?body ?done ?stop
  case hAx =>
    rintro x a' _ V V' row ⟨b, e, hb, hbB⟩ hg hr
    exact ⟨b, e, blk_grown hb hg (fun he => by
      obtain ⟨_, o, ho, hc⟩ := hr b he.symm
      rw [hb] at ho
      injection ho with ho
      subst ho
      cases hc), hbB⟩
  case assign =>
    intro l pre x V K hI hK
    have hxl : (d.waits[x.val]).2.length = 64 := (HM.out.ok.waits _ (List.getElem_mem x.isLt)).2
    have HST := Aside0.mk (store_wrt V (d.waits[x.val]) hxl)
    clear hxl
    simp only [encWt, List.zip_toArray, List.zip_cons_cons, List.zip_nil_right, List.foldl_toArray, List.foldl_cons, List.foldl_nil, List.setIfInBounds_toArray, List.set_cons_succ, List.set_cons_zero]
    refine wpIn_region_lit ?_
    refine wpListIn_exec rfl rfl (exec_alloc 64 zeroW rfl (HZW.out _)) ?_
    refine wpListIn_exec_skip rfl rfl rfl (exec_store 64 _ _ (.pointer (some ⟨V.heap.size, 0, none⟩)) (.agg (wcells d.waits[x.val]).toArray) rfl rfl rfl HST.out) ?_
    have hb1 := below_alloc (Below.refl V.heap.size V) (.cells (wcells d.waits[x.val]).toArray 64)
    have hg1 := World.grownBy_alloc V (.cells (wcells d.waits[x.val]).toArray 64) none
    exact hK _ _ (KeepsFrom.of_grownBy hg1 (fun j e => by cases e)) (Kp.of_below hb1) (RdI.own (by omega) (W.heap.size + 2) (by omega) pre V _ none hI hg1 (fun r e => by cases e)) ⟨V.heap.size, rfl, blk_new V _, by have := hI.sz; have := HSZ.out.1; omega⟩
  case body =>
    rintro l pre x a' V hl hr hI ⟨b, rfl, hb, hbB⟩ hpl
    have hw := HM.out.ok.waits _ (List.getElem_mem x.isLt)
    obtain ⟨wi, wb, hwe⟩ : ∃ wi wb, d.waits[x.val] = (wi, wb) := ⟨_, _, rfl⟩
    rw [hwe] at hw hb
    have hc1 : V.cell? ⟨W.heap.size, 0, none⟩ = some (.int .i64 (n : Int)) := (blk_cell hI.box 0).trans rfl
    have hc3 : V.cell? ⟨b, 0, none⟩ = some (.int .i64 (wi : Int)) := (blk_cell hb 0).trans rfl
    have hc4 : (Instr.loadAt 62 (.pointer (some ⟨b, 1, none⟩))).run Try.prog V = .ok (.agg (bts wb).toArray) V := load_bts _ _ wb hw.2 (fun i u hu => by
      rw [Addr.add_mid, blk_cell hb (1 + i), Nat.add_comm]
      simpa [wcells] using hu)
    have hlt := wcells_length (wi, wb) hw.2
    have hst := store_sec V (W.heap.size + 1) _ _ wb hI.at_ (by rw [List.size_toArray, bts_length]; exact told_len HM.out.ok HN.out.2 _) hw.2
    have HC4 := Aside0.mk (And.intro hc4 hst)
    have HW := Aside0.mk (And.intro hw hwe)
    have HI := Aside0.mk hI
    clear hw hI hb hbB hwe hc4 hst hlt
    by_cases hin : wi = n
    · have e1 : ((wi : Int) == (n : Int)) = true := by rw [hin]; simp
      have HIN := Aside0.mk hin
      clear hin
      gi_wp2_with (first
        | ((with_reducible refine gateIn_ (.load 62 (.tmp 33)) rfl ?_); refine wpListIn_exec rfl rfl (exec_load 62 _ (.pointer (some ⟨b, 1, none⟩)) _ rfl rfl HC4.out.1) ?_)
        | ((with_reducible refine gateIn_ (.store 62 (.tmp 7) (.tmp 34)) rfl ?_); refine wpListIn_exec_skip rfl rfl rfl (exec_store 62 _ _ (.pointer (some ⟨W.heap.size + 1, 0, none⟩)) (.agg (bts wb).toArray) rfl rfl rfl HC4.out.2) ?_))
      have hg : V.grownBy (V.setRow (W.heap.size + 1) (bts wb).toArray) (some (W.heap.size + 1)) := ⟨rfl, rfl, rfl, by rw [setRow_size]; exact Nat.le_refl _, fun k hlt hne => setRow_other _ _ _ _ (fun e => hne (by rw [e]))⟩
      have hk := (Kp.refl (fun k => W.heap.size ≤ k) V).setRow (b := W.heap.size + 1) (.inl (by omega)) (bts wb).toArray
      refine ⟨KeepsFrom.of_grownBy hg (fun j e => by cases e; omega), hk, ?_, ?_, HI.out.kp.trans hk (fun q _ hq => hq), by rw [setRow_size]; exact HI.out.sz⟩
      · exact (setRow_other _ _ _ _ (by omega)).trans HI.out.box
      · rw [List.map_append, List.map_singleton, told_snoc, HW.out.2, if_pos HIN.out]
        exact setRow_heap _ _ _ _ _ _ HI.out.at_
    · have e1 : ((wi : Int) == (n : Int)) = false := by rw [beq_eq_false_iff_ne]; omega
      have HIN := Aside0.mk hin
      clear hin
      gi_wp2
      refine ⟨KeepsFrom.refl _ _, Kp.refl _ _, HI.out.box, ?_, HI.out.kp, HI.out.sz⟩
      rw [List.map_append, List.map_singleton, told_snoc, HW.out.2, if_neg HIN.out]
      exact HI.out.at_
  case done =>
    rintro D ys V hD rfl hI hK
    have hat := hI.at_
    have e0 : told d n ((allW d.waits).map fun k => d.waits[k.val]) = latest d n := by rw [allW_map]; rfl
    have hl0 : (latest d n).length = 64 := by rw [← e0]; exact told_len HM.out.ok HN.out.2 _
    rw [e0] at hat
    generalize latest d n = xs at *
    have HI := Aside0.mk hI
    have HAT := Aside0.mk hat
    have HL := Aside0.mk hl0
    have HD := Aside0.mk (And.intro hK hD)
    clear hI hat hl0 hK hD e0
    go_wp2_with (first | ((with_reducible refine gate_builtin (b := .append) (xs := #[.tmp 35, .tmp 36]) rfl ?_); refine of_halt ?_))
    unfold Halt
    have hBV : Below W.heap.size W (V.alloc (.cells #[] 5)) := (HI.out.kp.trans (Kp.of_below (F := fun _ => False) (below_alloc (Below.refl _ _) _)) (fun q _ hq => hq.elim)).below (Nat.le_refl _) (fun k hk h => by omega)
    have hHO : (V.alloc (.cells #[] 5)).ownsRow W.heap.size 5 1 (.slice (some ⟨V.heap.size, 0, none⟩) 0 0) ([] : List Int).length (nums .u8 []) := World.ownsRow_lit (base := W.heap.size) (e := 5) (size := 1) V #[] 0 HI.out.kp.size (by simp [maxLen]) rfl
    have hat := blk_alloc HAT.out (.cells #[] 5)
    have hHR : ReadsInt (V.alloc (.cells #[] 5)) .u8 (some ⟨W.heap.size + 1, 0, none⟩) 64 xs := ⟨HL.out, by omega, fun _ => ⟨_, rfl, fun j hj => by
      rw [add_plain, blk_cell hat j]
      have hj' : j < xs.length := by have := HL.out; omega
      simp [bts, List.getElem?_eq_getElem hj', List.getD_eq_getElem?_getD]⟩⟩
    have info5 : (Try.prog.info? 5).map (fun i => (i.zero, i.size, i.bytes)) = some (some (.int .u8 0), 1, 1) := by kernel_rfl
    refine print_append_row (w0 := W) W.heap.size rfl (.tmp 35) (.tmp 36) 22 5 .u8 1 rfl Try.underlying22 info5 (by decide) (.slice (some ⟨V.heap.size, 0, none⟩) 0 0) [] xs (some ⟨W.heap.size + 1, 0, none⟩) 64 64 rfl rfl hHO hHR hBV (by have := HI.out.kp.size; rw [World.size_alloc]; omega) (by simp) ?_
    intro v1 w1 hown hb1 hg1 hat1
    have hDV := blk_lt HD.out.1
    have hK1 : w1.heap[D]? = some (.deferred (some [])) := blk_grown (blk_alloc HD.out.1 _) hg1 (fun e => by simp [Value.ownBlock] at e; omega)
    have HK1 := Aside0.mk hK1
    have HO1 := Aside0.mk hown
    have HB1 := Aside0.mk hb1
    clear hg1 hat1 hK1 hown hb1 hHR hHO hBV hat
    go_wp2
    refine ⟨by simp, .inl ⟨_, _, rfl, run_takeDeferred HK1.out, ?_⟩⟩
    refine ⟨_, results_tmp2 rfl _ _ _, v1, rfl, ?_, ?_⟩
    · have hR : Kd.R (Kd.int .u8) 5 w1 W.heap.size (fun k => some k = v1.ownBlock) v1 xs := by
        have h2 := HO1.out
        rw [List.nil_append] at h2
        exact Kd.R_of_own (enc := Value.int .u8) (h1 := fun _ => rfl) h2 (fun k hk => hk.symm)
      exact Kd.R_mono (Kd.R_grown hR (grownBy_putObj' w1 D (.deferred none)) (fun k hk e => by
        injection e with e
        subst e
        obtain ⟨cells, hc⟩ := Kd.R_typed hR k hk.symm
        rw [HK1.out] at hc
        cases hc)) (fun _ _ => trivial)
    · exact HB1.out.trans (Kp.below (Kp.of_grown (F := fun k => k = D) (grownBy_putObj' w1 D (.deferred none)) (fun q hq => by injection hq with hq; exact hq.symm)) HB1.out.size (fun k hk e => by have := HD.out.2; omega))
  case stop =>
    rintro D c pre V _ _ h _
    exact h.elim
end Go.Proofs.Ytckbdckeijanlaa.G
