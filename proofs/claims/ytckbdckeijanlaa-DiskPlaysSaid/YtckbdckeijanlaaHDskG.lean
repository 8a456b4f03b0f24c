/- The disk: Flush. By hand. -/
import Derived.Test.YtckbdckeijanlaaHDskF
namespace Go.Proofs.Ytckbdckeijanlaa.G
open Go.RowKit Go.Shelf Go.Proofs.YtckbdckeijanlaaW.PrintWords Go.Proofs.YtckbdckeijanlaaW.PrintLast Go.Proofs.YtckbdckeijanlaaW.PrintMore Go.Proofs.Ytckbdckeijanlaa.Dsk
set_option linter.unusedVariables false
set_option linter.unusedSimpArgs false
attribute [local go_sem] Oper.semAt_some
theorem Mem.bound {F : Nat → Prop} {g gl cl : Nat} {d : Dk} {wv : Value} {W : World} (h : Mem F g gl cl d wv W) : Mem (fun k => F k ∧ k < W.heap.size) g gl cl d wv W :=
  ⟨h.blk, ⟨h.fg, blk_lt h.blk⟩, ⟨h.fl, Kd.R_lt h.lies gl rfl⟩, h.ne, h.lies, Kd.R_mono (Kd.R_bound h.waits) (fun k hk => ⟨⟨hk.1.1, hk.2.2.1⟩, hk.1.2⟩), h.ok⟩
theorem allW_map (ws : List (Nat × List Int)) : (allW ws).map (fun k => ws[k.val]) = ws := by
  apply List.ext_getElem
  · simp [allW]
  · intro i h1 h2
    simp [allW]
theorem Mem.there {F : Nat → Prop} {g gl cl : Nat} {d : Dk} {wv : Value} {W : World} (h : Mem F g gl cl d wv W) {i : Nat} (hi : i < d.lies.length) : W.there gl (i * 64) 64 := fun j hj => by
  obtain ⟨c, hcl, hcM, hcc, hcf⟩ := Kd.R_elem h.lies [] (i : Int) (by omega) (by omega)
  rw [Int.toNat_natCast] at hcc hcf
  exact ⟨by have := hcc j _ (List.getElem?_eq_getElem (by rw [hcl]; exact hj)); rw [show i * 64 + j = i * secK.sz + j from rfl, this]; rfl, hcf j⟩
theorem Mem.putSec {F : Nat → Prop} {g gl cl : Nat} {d : Dk} {wv : Value} {W : World} (h : Mem F g gl cl d wv W) (i : Nat) (b : List Int) (hi : i < d.lies.length) (hb : b.length = 64) :
    Mem F g gl cl ⟨d.lies.set i b, d.waits, d.steps, d.left⟩ wv (W.setCells gl (i * 64) (bts b)) ∧ Kp (fun k => k = gl) W (W.setCells gl (i * 64) (bts b)) := by
  obtain ⟨c, hcl, hcM, hcc, hcf⟩ := Kd.R_elem h.lies [] (i : Int) (by omega) (by omega)
  rw [Int.toNat_natCast] at hcM hcc
  have hseg := Kd.R_seg (okp := fun _ => False) h.lies (i : Int) (by omega) (by omega) hcl (by rw [Int.toNat_natCast]; exact hcc) (seg := bts b) (j := 0) (by show 0 + _ ≤ 64; rw [bts_length, hb]; omega) (x' := b) (by
    show _ ∧ _
    refine ⟨hb, ?_⟩
    rw [List.take_zero, List.nil_append, Nat.zero_add, List.drop_eq_nil_of_le (by rw [hcl, bts_length, hb]; exact Nat.le_refl _), List.append_nil]) (fun _ hk => hk.elim)
  rw [Int.toNat_natCast, Nat.add_zero] at hseg
  have e : i * secK.sz = i * 64 := rfl
  rw [e] at hseg
  have hkp : Kp (fun k => k = gl) W (W.setCells gl (i * 64) (bts b)) := Kp.of_grown hseg.2 (fun q hq => by injection hq with hq; exact hq.symm)
  refine ⟨⟨?_, h.fg, h.fl, h.ne, ?_, Kp.R hkp h.waits (fun k hk => hk.2.2), ⟨?_, ?_, ?_⟩⟩, hkp⟩
  · show _ = some (Obj.cells #[.slice (some ⟨gl, 0, none⟩) (d.lies.set i _).length cl, _, _, _, _] _ _)
    rw [List.length_set]
    exact hkp.blk h.blk (fun e => h.ne e.symm)
  · show secK.R _ _ _ _ (.slice _ (d.lies.set i _).length cl) _
    rw [List.length_set]
    exact hseg.1
  · show 0 < (d.lies.set i _).length
    rw [List.length_set]; exact h.ok.some_
  · exact set_ok h.ok.lies i hb
  · intro w hw
    show w.1 < (d.lies.set i _).length ∧ _
    rw [List.length_set]
    exact h.ok.waits w hw
theorem Mem.clear {F : Nat → Prop} {g gl cl : Nat} {d : Dk} {wv : Value} {W : World} (h : Mem F g gl cl d wv W) : Mem F g gl cl ⟨d.lies, [], d.steps, d.left⟩ (.slice none 0 0) (W.setCell ⟨g, 1, none⟩ (.slice none 0 0)) :=
  ⟨blk_put h.blk 1 _ rfl, h.fg, h.fl, h.ne, Kd.R_far h.lies (fun k hk => by rw [hk]; exact h.ne) _, Kd.R_nil _ _ _ _ _, ⟨h.ok.some_, h.ok.lies, fun w hw => by cases hw⟩⟩
/-- What is true at the head of a round: so many writes are written down. -/
structure FlI (F : Nat → Prop) (g gl cl : Nat) (d : Dk) (wv : Value) (W : World) (pre : List (Fin d.waits.length)) (V : World) : Prop where
  mem : Mem F g gl cl ⟨Dsk.settle d.lies (pre.map fun k => d.waits[k.val]), d.waits, d.steps, d.left⟩ wv V
  box : V.heap[W.heap.size]? = some (.cells #[.pointer (some ⟨g, 0, none⟩)] 24 (0, 0))
  kp : Kp (fun k => k = gl ∨ W.heap.size ≤ k) W V
  sz : W.heap.size + 2 ≤ V.heap.size
theorem FlI.own {F : Nat → Prop} {g gl cl : Nat} {d : Dk} {wv : Value} {W : World} (hF : ∀ k, F k → k < W.heap.size) (B : Nat) (hB : W.heap.size < B) : OwnFrom B (FlI F g gl cl d wv W) := by
  intro s A V row hs hg hr
  have hne : ∀ k, k < B → some k ≠ row := fun k hk e => by have := (hr k e.symm).1; omega
  exact ⟨hs.mem.move (fun k hk hlt => hg.block k hlt (hne k (by have := hF k hk; omega))), blk_grown hs.box hg (hne _ hB), hs.kp.trans (Kp.of_grown (F := fun k => B ≤ k) hg (fun q hq => (hr q hq).1)) (fun q _ hq => .inr (by omega)), Nat.le_trans hs.sz hg.size⟩
theorem settle_snoc (l : List (List Int)) (ws : List (Nat × List Int)) (w : Nat × List Int) : Dsk.settle l (ws ++ [w]) = (Dsk.settle l ws).set w.1 w.2 := by simp [Dsk.settle]
set_option maxHeartbeats 8000000 in
set_option maxRecDepth 100000 in
theorem Flush_down (F : Nat → Prop) (g gl cl : Nat) (d : Dk) (wv : Value) (W : World) (h : Mem F g gl cl d wv W) (hd : down d = true) :
    Calls Try.prog 13 #[.pointer (some ⟨g, 0, none⟩)] W fun e w' => e = .returned (.int .i64 170) ∧ Below W.heap.size W w' := by
  have HM := Aside0.mk (fun V (hb : Below W.heap.size W V) => h.below hb)
  have HS := Aside0.mk (fun V (hb : Below W.heap.size W V) => Sectors_calls F g gl cl d wv V (h.below hb))
  have HD := Aside0.mk (fun V (hb : Below W.heap.size W V) => down_calls F g gl cl d wv V (h.below hb))
  rw [hd] at HD
  have b0 : ((d.lies.length : Int) == 0) = false := by
    have := h.ok.some_
    rw [Bool.eq_false_iff]
    intro q
    rw [beq_iff_eq] at q
    omega
  have b0' : ((d.lies.length : Int) = 0) = False := eq_false (by have := h.ok.some_; omega)
  have HB := Aside0.mk (below_alloc (Below.refl W.heap.size W) (.cells #[.pointer (some ⟨g, 0, none⟩)] 24))
  clear h hd
  go_enter Try.func13, Try.ntmps13
  go_wp2_with (first | (go_at_call 21; refine (HS.out _ HB.out).mono ?_; rintro e w5 ⟨rfl, rfl⟩) | (go_at_call 27; refine (HD.out _ HB.out).mono ?_; rintro e w5 ⟨rfl, rfl⟩))
  all_goals first | (exfalso; omega) | (go_ret; exact ⟨rfl, HB.out⟩) | skip
set_option maxHeartbeats 16000000 in
set_option maxRecDepth 100000 in
theorem Flush_ok (F : Nat → Prop) (g gl cl : Nat) (d : Dk) (wv : Value) (W : World) (h0 : Mem F g gl cl d wv W) (hd : down d = false) (hst : d.steps < 4611686018427387904) (hln : d.left.getD 0 < 9223372036854775808) (hwl : d.waits.length < 17592186044416) :
    Calls Try.prog 13 #[.pointer (some ⟨g, 0, none⟩)] W (MemPost F g (flush d).1 W (.returned (.int .i64 0))) := by
  have h := h0.bound
  have hFlt : ∀ k, (F k ∧ k < W.heap.size) → k < W.heap.size := fun k hk => hk.2
  have hF1 : ∀ k, (F k ∧ k < W.heap.size) → F k := fun k hk => hk.1
  generalize hFF : (fun k => F k ∧ k < W.heap.size) = F1 at h
  have HF1 := Aside0.mk (show ∀ k, F1 k → F k ∧ k < W.heap.size from fun k hk => by rw [← hFF] at hk; exact hk)
  clear hFF hFlt hF1 h0
  have HM := Aside0.mk h
  have HS := Aside0.mk (fun V (hb : Below W.heap.size W V) => Sectors_calls F1 g gl cl d wv V (h.below hb))
  have HD := Aside0.mk (fun V (hb : Below W.heap.size W V) => down_calls F1 g gl cl d wv V (h.below hb))
  rw [hd] at HD
  have b0 : ((d.lies.length : Int) == 0) = false := by
    have := h.ok.some_
    rw [Bool.eq_false_iff]
    intro q
    rw [beq_iff_eq] at q
    omega
  have b0' : ((d.lies.length : Int) = 0) = False := eq_false (by have := h.ok.some_; omega)
  have HB := Aside0.mk (below_alloc (Below.refl W.heap.size W) (.cells #[.pointer (some ⟨g, 0, none⟩)] 24))
  have HN := Aside0.mk (And.intro hst (And.intro hln (And.intro hwl hd)))
  have eg : ∀ args w, (callFunc 37 args).run Try.prog w = .ok (.enter 37 args) w := fun args w => by first | rfl | simp [callFunc]
  have HE := Aside0.mk eg
  clear h hd hst hln hwl eg
  refine (callsIn_wide (n := 6)).1 ?_
  refine callsIn_of_wp_marks Try.func13 rfl trivial ?_ rfl
  simp only [Try.ntmps13, List.size_toArray, List.length_cons, List.length_nil, Nat.reduceAdd, Nat.reduceSub, Array.replicate_succ, Array.replicate_zero, List.push_toArray, List.append_toArray, List.nil_append, List.cons_append]
  refine wpIn_wide.2 ?_
  go_wp2_with (first | (go_at_call 21; refine (HS.out _ HB.out).mono ?_; rintro e w5 ⟨rfl, hw5⟩; obtain rfl := hw5.symm) | (go_at_call 27; refine (HD.out _ HB.out).mono ?_; rintro e w6 ⟨rfl, hw6⟩; obtain rfl := hw6.symm) | (go_at_call 29; refine (all_calls g _).mono ?_; rintro e w7 ⟨rfl, hw7⟩; obtain rfl := hw7.symm))
  refine (wpIn_wide (n := 6)).1 ?_
  obtain ⟨W0, hW0⟩ : ∃ W0, ((W.alloc (.cells #[.pointer (some ⟨g, 0, none⟩)] 24)).alloc (.cells #[.pointer (some ⟨g, 0, none⟩)] 24)) = W0 := ⟨_, rfl⟩
  have hsz : W0.heap.size = W.heap.size + 2 := by rw [← hW0]; simp
  have hB0 : Below W.heap.size W W0 := by rw [← hW0]; exact below_alloc (below_alloc (Below.refl _ _) _) _
  have hI0 : FlI F1 g gl cl d wv W [] W0 := by
    refine ⟨HM.out.below hB0, ?_, Kp.of_below hB0, by omega⟩
    rw [← hW0]
    exact blk_alloc (blk_new _ _) _
  have hbox0 : W0.cell? ⟨W.heap.size + 1, 0, none⟩ = some (.pointer (some ⟨g, 0, none⟩)) := by
    rw [← hW0]
    have := blk_new (W.alloc (.cells #[.pointer (some ⟨g, 0, none⟩)] 24)) (.cells #[.pointer (some ⟨g, 0, none⟩)] 24)
    rw [World.size_alloc] at this
    exact (blk_cell this 0).trans rfl
  have hwv0 := hI0.mem.cells.2.1
  have hR0 := Kd.R_tight rfl hI0.mem.waits
  have hown0 : ∀ k, some k = wv.ownBlock → k ≠ gl ∧ k < W.heap.size := fun k hk => ⟨(HM.out.waits.1 k hk.symm).2.2, Kd.R_lt HM.out.waits k hk.symm⟩
  obtain ⟨A, c, hwe⟩ := Kd.R_slice hR0
  rw [List.length_map] at hwe
  subst hwe
  rw [hW0]
  have hHI := Aside0.mk hI0
  have HSZ := Aside0.mk hsz
  have HZW := Aside0.mk zero_W
  have HOWN := Aside0.mk hown0
  clear hB0 hW0
  refine wpIn_rangeFunc_ownH (by rfl) (by omega) (gf := 37) (lb := #[.pointer (some ⟨W.heap.size + 1, 0, none⟩)]) rfl trivial HE.out
    (all_stops Fence.wide 5 trivial rfl (by omega) (W.heap.size + 1) g c A d.waits W0 HN.out.2.2.1 hR0 hbox0 hwv0 (Kp (fun k => k = gl ∨ W.heap.size ≤ k)) (fun X Y hX hk => ⟨hk.size, fun k hk' => hk.block k (by have := HOWN.out k hk'; omega) (by have := HOWN.out k hk'; omega)⟩))
    (fun h k => h.trans k (fun _ _ hq => hq)) (fun V l o o' hl hV _ _ => Kp.of_grown (grownBy_putObj' V l o') (fun q hq => by injection hq with hq; subst hq; right; omega)) (Below.refl _ _) (fun _ => rfl)
    (FlI F1 g gl cl d (.slice A d.waits.length c) W) (fun _ _ _ => False) (FlI.own (fun k hk => (HF1.out k hk).2) _ (by omega)) (fun _ _ _ _ _ hs _ _ => hs) hI0
    (fun x a' V => ∃ b, a' = { tmps := #[.pointer (some ⟨g, 0, none⟩), .pointer (some ⟨W.heap.size, 0, none⟩), .int .i64 0, undef, .pointer (some ⟨b, 0, none⟩), .bool false, .pointer (some ⟨g, 0, none⟩), .int .i64 d.lies.length, .bool false, .bool false, .pointer (some ⟨g, 0, none⟩), .bool false, .pointer (some ⟨g, 0, none⟩),
      .func (.func 37) #[] #[.pointer (some ⟨W.heap.size + 1, 0, none⟩)], .int .i64 ((x.val : Nat) : Int), .agg (wcells d.waits[x.val]).toArray, undef, undef, undef, undef, undef, undef, undef, undef, undef, undef, undef, undef, undef, undef], defers := [] } ∧ V.heap[b]? = some (.cells (wcells d.waits[x.val]).toArray 64 (0, 0)) ∧ W0.heap.size ≤ b)
    ?hAx ?assign ?body ?done ?stop
  case hAx =>
    rintro x a' _ V V' row ⟨b, e, hb, hbB⟩ hg hr
    exact ⟨b, e, blk_grown hb hg (fun he => by
      obtain ⟨_, o, ho, hc⟩ := hr b he.symm
      rw [hb] at ho
      injection ho with ho
      subst ho
      cases hc), hbB⟩
  case assign =>
    intro l pre x V K hI hK
    have hxl : (d.waits[x.val]).2.length = 64 := (HM.out.ok.waits _ (List.getElem_mem x.isLt)).2
    have HST := Aside0.mk (store_wrt V (d.waits[x.val]) hxl)
    clear hxl
    simp only [encWt, List.zip_toArray, List.zip_cons_cons, List.zip_nil_right, List.foldl_toArray, List.foldl_cons, List.foldl_nil, List.setIfInBounds_toArray, List.set_cons_succ, List.set_cons_zero]
    refine wpIn_region_lit ?_
    refine wpListIn_exec rfl rfl (exec_alloc 64 zeroW rfl (HZW.out _)) ?_
    refine wpListIn_exec_skip rfl rfl rfl (exec_store 64 _ _ (.pointer (some ⟨V.heap.size, 0, none⟩)) (.agg (wcells d.waits[x.val]).toArray) rfl rfl rfl HST.out) ?_
    have hb1 := below_alloc (Below.refl V.heap.size V) (.cells (wcells d.waits[x.val]).toArray 64)
    have hg1 := World.grownBy_alloc V (.cells (wcells d.waits[x.val]).toArray 64) none
    exact hK _ _ (KeepsFrom.of_grownBy hg1 (fun j e => by cases e)) (Kp.of_below hb1) (FlI.own (fun k hk => (HF1.out k hk).2) (W.heap.size + 1) (by omega) pre V _ none hI hg1 (fun r e => by cases e)) ⟨V.heap.size, rfl, blk_new V _, by have := hI.sz; have := HSZ.out; omega⟩
  case body =>
    rintro l pre x a' V hl hr hI ⟨b, rfl, hb, hbB⟩ hpl
    have hw := HM.out.ok.waits _ (List.getElem_mem x.isLt)
    obtain ⟨wi, wb, hwe⟩ : ∃ wi wb, d.waits[x.val] = (wi, wb) := ⟨_, _, rfl⟩
    rw [hwe] at hw hb
    have hlen : (Dsk.settle d.lies (pre.map fun k => d.waits[k.val])).length = d.lies.length := settle_len _ _
    have hc1 : V.cell? ⟨W.heap.size, 0, none⟩ = some (.pointer (some ⟨g, 0, none⟩)) := (blk_cell hI.box 0).trans rfl
    have hc2 : V.cell? ⟨g, 0, none⟩ = some (.slice (some ⟨gl, 0, none⟩) d.lies.length cl) := by have := hI.mem.cells.1; rw [show (Dk.lies ⟨Dsk.settle d.lies (pre.map fun k => d.waits[k.val]), d.waits, d.steps, d.left⟩).length = d.lies.length from hlen] at this; exact this
    have hc3 : V.cell? ⟨b, 0, none⟩ = some (.int .i64 (wi : Int)) := (blk_cell hb 0).trans rfl
    have hc4 : (Instr.loadAt 62 (.pointer (some ⟨b, 1, none⟩))).run Try.prog V.drew = .ok (.agg (bts wb).toArray) V.drew := load_bts _ _ wb hw.2 (fun i u hu => by
      rw [Addr.add_mid]
      show V.cell? ⟨b, 1 + i, none⟩ = _
      rw [blk_cell hb (1 + i), Nat.add_comm]
      simpa [wcells] using hu)
    have f1 : ((wi : Int) < (d.lies.length : Int)) = True := eq_true (by have := hw.1; omega)
    have f2 : (wi < d.lies.length) = True := eq_true hw.1
    have hth : V.drew.there gl (wi * 64) (bts wb).toArray.size := by
      rw [List.size_toArray, bts_length, hw.2]
      have := hI.mem.there (i := wi) (by show wi < (Dsk.settle _ _).length; rw [hlen]; exact hw.1)
      exact this
    have hput := (hI.mem.below (below_drew (Below.refl _ _))).putSec wi wb (by show wi < (Dsk.settle _ _).length; rw [hlen]; exact hw.1) hw.2
    have HP := Aside0.mk hput
    have HT := Aside0.mk hth
    have HW := Aside0.mk (And.intro hw hwe)
    have HI := Aside0.mk hI
    have HGL := Aside0.mk (show gl < W0.heap.size from by have := Kd.R_lt HM.out.lies gl rfl; have := HSZ.out; omega)
    clear hput hth hw hI hb hbB hlen hwe
    gi_wp2
    refine startIn_ (m := 10) (S := fun w' => w'.cell? ⟨W.heap.size, 0, none⟩ = some (.pointer (some ⟨g, 0, none⟩)) ∧ w'.cell? ⟨g, 0, none⟩ = some (.slice (some ⟨gl, 0, none⟩) d.lies.length cl) ∧ w'.cell? ⟨b, 0, none⟩ = some (.int .i64 (wi : Int)) ∧ (Instr.loadAt 62 (.pointer (some ⟨b, 1, none⟩))).run Try.prog w' = .ok (.agg (bts wb).toArray) w') (ds := [9]) #[false, false, false, false, false, false, false, false, false, false] (by kernel_rfl) (by rintro ⟨_, _, hh⟩; exact hh) (by rfl) rfl rfl ⟨hc1, hc2, hc3, hc4⟩ (fun hHeld => ?_)
    refine pure_ (i := 4) (N := some 20) (v := ?_) (a' := ?_) #[false, false, false, false, true, false, false, false, false, false] rfl rfl (by kernel_rfl) (fun _ _ _ h => h) (Or.inl ⟨by rfl, ?_⟩) ?_ ?_
    rotate_left
    · intro w'
      go_simp
      with_reducible rfl
    rotate_left
    · simp only [Act.put, List.setIfInBounds_toArray, List.set_cons_zero, List.set_cons_succ, i64_w, i32_w]
      rfl
    refine pure_ (i := 6) (N := some 22) (v := ?_) (a' := ?_) #[false, false, false, false, true, false, true, false, false, false] rfl rfl (by kernel_rfl) (fun _ _ _ h => h) (Or.inl ⟨by rfl, ?_⟩) ?_ ?_
    rotate_left
    · intro w'
      go_simp
      with_reducible rfl
    rotate_left
    · simp only [Act.put, List.setIfInBounds_toArray, List.set_cons_zero, List.set_cons_succ, i64_w, i32_w]
      rfl
    refine take_ (i := 0) (N := some 16) (v := ?_) (a' := ?_) #[true, false, false, false, true, false, true, false, false, false] rfl rfl (by kernel_rfl) (fun _ _ _ h => h) (Or.inl ⟨by rfl, ?_⟩) hHeld ?_ ?_
    rotate_left
    · rintro w' ⟨s0, s1, s2, s3⟩
      go_simp
      with_reducible rfl
    rotate_left
    · simp only [Act.put, List.setIfInBounds_toArray, List.set_cons_zero, List.set_cons_succ, i64_w, i32_w]
      rfl
    refine pure_ (i := 1) (N := some 17) (v := ?_) (a' := ?_) #[true, true, false, false, true, false, true, false, false, false] rfl rfl (by kernel_rfl) (fun _ _ _ h => h) (Or.inl ⟨by rfl, ?_⟩) ?_ ?_
    rotate_left
    · intro w'
      go_simp
      with_reducible rfl
    rotate_left
    · simp only [Act.put, List.setIfInBounds_toArray, List.set_cons_zero, List.set_cons_succ, i64_w, i32_w]
      rfl
    refine pure_ (i := 2) (N := some 18) (v := ?_) (a' := ?_) #[true, true, true, false, true, false, true, false, false, false] rfl rfl (by kernel_rfl) (fun _ _ _ h => h) (Or.inl ⟨by rfl, ?_⟩) ?_ ?_
    rotate_left
    · intro w'
      go_simp
      with_reducible rfl
    rotate_left
    · simp only [Act.put, List.setIfInBounds_toArray, List.set_cons_zero, List.set_cons_succ, i64_w, i32_w]
      rfl
    refine take_ (i := 3) (N := some 19) (v := ?_) (a' := ?_) #[true, true, true, true, true, false, true, false, false, false] rfl rfl (by kernel_rfl) (fun _ _ _ h => h) (Or.inl ⟨by rfl, ?_⟩) hHeld ?_ ?_
    rotate_left
    · rintro w' ⟨s0, s1, s2, s3⟩
      go_simp
      with_reducible rfl
    rotate_left
    · simp only [Act.put, List.setIfInBounds_toArray, List.set_cons_zero, List.set_cons_succ, i64_w, i32_w]
      rfl
    refine take_ (i := 5) (N := some 21) (v := ?_) (a' := ?_) #[true, true, true, true, true, true, true, false, false, false] rfl rfl (by kernel_rfl) (fun _ _ _ h => h) (Or.inl ⟨by rfl, ?_⟩) hHeld ?_ ?_
    rotate_left
    · rintro w' ⟨s0, s1, s2, s3⟩
      go_simp
      with_reducible rfl
    rotate_left
    · simp only [Act.put, List.setIfInBounds_toArray, List.set_cons_zero, List.set_cons_succ, i64_w, i32_w]
      rfl
    refine one_ (i := 7) (N := some 23) #[true, true, true, true, true, true, true, true, false, false] rfl rfl (by kernel_rfl) (by decide) (fun K hK => ?_)
    refine value_ (by rfl) rfl (exec_load 62 _ (.pointer (some ⟨b, 1, none⟩)) _ rfl (by rfl) hHeld.2.2.2) ?_
    refine hK.out _ _ ⟨hHeld.1, hHeld.2.1, hHeld.2.2.1, hHeld.2.2.2⟩ (fun hHeld => ?_)
    clear hK K
    refine norm_ (a' := ?_) ?_ ?_
    rotate_left
    · show Act.put _ (some 23) _ = _
      simp only [Act.put, List.setIfInBounds_toArray, List.set_cons_zero, List.set_cons_succ, i64_w, i32_w]
      rfl
    refine pure_ (i := 8) (N := some 24) (v := ?_) (a' := ?_) #[true, true, true, true, true, true, true, true, true, false] rfl rfl (by kernel_rfl) (fun _ _ _ h => h) (Or.inl ⟨by rfl, ?_⟩) ?_ ?_
    rotate_left
    · intro w'
      go_simp
      with_reducible rfl
    rotate_left
    · simp only [Act.put, List.setIfInBounds_toArray, List.set_cons_zero, List.set_cons_succ, i64_w, i32_w]
      rfl
    refine last_ (i := 9) (N := none) #[true, true, true, true, true, true, true, true, true, true] rfl rfl (by kernel_rfl) (by decide) (fun K hK => ?_)
    refine skip_ (by rfl) rfl (exec_store 62 _ _ (.pointer (some ⟨gl, wi * 64, none⟩)) (.agg (bts wb).toArray) rfl (by rfl) (by rfl) (run_storeAt_mid _ gl (wi * 64) 62 (bts wb).toArray HT.out (by rw [List.size_toArray, bts_length, HW.out.1.2]; exact sizeS) (all_oneCell_toArray (bts_one wb)))) ?_
    refine hK.out _ _ ?_
    clear hK K
    refine done_ (by kernel_rfl) ?_
    have hk := HP.out.2
    have hg : V.drew.grownBy (V.drew.setCells gl (wi * 64) (bts wb)) (some gl) := ⟨hk.os, hk.tape, hk.output, hk.size, fun k hlt hne => hk.block k hlt (fun e => hne (by rw [e]))⟩
    refine ⟨?_, ?_, ?_⟩
    · exact (KeepsFrom.of_grownBy (row := none) (show V.grownBy V.drew none from ⟨rfl, rfl, rfl, Nat.le_refl _, fun _ _ _ => rfl⟩) (fun j e => by cases e)).trans (KeepsFrom.of_grownBy hg (fun j e => by cases e; exact HGL.out))
    · exact (Kp.of_below (below_drew (Below.refl _ _))).trans hk (fun q _ hq => .inl hq)
    · refine ⟨?_, ?_, ?_, ?_⟩
      · rw [List.map_append, List.map_singleton, settle_snoc, HW.out.2]
        exact HP.out.1
      · exact hk.blk (k := W.heap.size) HI.out.box (fun e => by have := Kd.R_lt HM.out.lies gl rfl; omega)
      · exact HI.out.kp.trans ((Kp.of_below (F := fun k => k = gl) (below_drew (Below.refl _ _))).trans hk (fun q _ hq => hq)) (fun q _ hq => .inl hq)
      · have h1 := HI.out.sz
        have h2 := hk.size
        exact Nat.le_trans h1 h2
  case done =>
    rintro D ys V hD rfl hI hK
    have hM := hI.mem
    rw [allW_map] at hM
    have hc1 : V.cell? ⟨W.heap.size, 0, none⟩ = some (.pointer (some ⟨g, 0, none⟩)) := (blk_cell hI.box 0).trans rfl
    have hc2 := hM.cells.2.1
    have hz2 := hM.free 1
    have hgW := blk_lt HM.out.blk
    have hstep := step_calls F1 g gl cl _ _ _ hM.clear HN.out.1 HN.out.2.2.2 HN.out.2.1
    have HStep := Aside0.mk hstep
    have HI := Aside0.mk hI
    have HMM := Aside0.mk hM
    have HD := Aside0.mk (show V.heap[D]? = some (.deferred (some [])) ∧ D ≠ g ∧ W0.heap.size ≤ D ∧ W.heap.size < D from ⟨hK, by have := HSZ.out; omega, hD, by have := HSZ.out; omega⟩)
    clear hI hM hK hD hstep
    go_wp2_with (first | (go_at_call 28; refine HStep.out.mono ?_; rintro e w9 ⟨rfl, hM9, hk9⟩))
    have hK1 : (V.setCell ⟨g, 1, none⟩ (.slice none 0 0)).heap[D]? = some (.deferred (some [])) := (Below.heap_setCell _ _ _ D HD.out.2.1).trans HD.out.1
    have hK9 := (hk9.block D (blk_lt hK1) (fun e => HD.out.2.1 e)).trans hK1
    have hkpV : Kp F W V := HI.out.kp.mono (fun q hq h => by
      rcases h with h | h
      · rw [h]; exact (HF1.out gl HM.out.fl).1
      · omega)
    have hkp9 : Kp F W w9 := hkpV.trans (((Kp.refl (fun k => k = g) V).set (p := ⟨g, 1, none⟩) (.inl rfl) (.slice none 0 0)).trans hk9 (fun q _ hq => hq)) (fun q _ hq => by rw [hq]; exact (HF1.out g HM.out.fg).1)
    have hfl : (flush d).1 = stepped ⟨Dsk.settle d.lies d.waits, [], d.steps, d.left⟩ := by
      unfold flush
      rw [HN.out.2.2.2, if_neg (by simp)]
    have hput := grownBy_putObj' w9 D (.deferred none)
    refine ⟨by simp, .inl ⟨_, _, rfl, run_takeDeferred hK9, ?_⟩⟩
    refine ⟨_, results_tmp rfl _ _ _, rfl, gl, cl, .slice none 0 0, F1, ?_, fun k hk => .inl (HF1.out k hk).1, ?_⟩
    · rw [hfl]
      exact hM9.move (fun k hk hlt => hput.block k hlt (fun e => by injection e with e; have := (HF1.out k hk).2; have := HD.out.2.2.2; omega))
    · exact hkp9.trans (Kp.of_grown (F := fun k => k = D) hput (fun q hq => by injection hq with hq; exact hq.symm)) (fun q hq h => by have := HD.out.2.2.2; omega)
  case stop =>
    rintro D c pre V _ _ h _
    exact h.elim
end Go.Proofs.Ytckbdckeijanlaa.G
