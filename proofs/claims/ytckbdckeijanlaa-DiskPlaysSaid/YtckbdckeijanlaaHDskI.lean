/- The disk: Waits. By hand. -/
import Derived.Test.YtckbdckeijanlaaHDskH
namespace Go.Proofs.Ytckbdckeijanlaa.G
open Go.RowKit Go.Shelf Go.Proofs.YtckbdckeijanlaaW.PrintWords Go.Proofs.YtckbdckeijanlaaW.PrintLast Go.Proofs.YtckbdckeijanlaaW.PrintMore Go.Proofs.Ytckbdckeijanlaa.Dsk
set_option linter.unusedVariables false
set_option linter.unusedSimpArgs false
attribute [local go_sem] Oper.semAt_some
def nosOf (d : Dk) (pre : List (Fin d.waits.length)) : List Int := pre.map fun k => ((d.waits[k.val].1 : Nat) : Int)
structure WtI (d : Dk) (W : World) (pre : List (Fin d.waits.length)) (V : World) : Prop where
  row : ∃ v, V.heap[W.heap.size]? = some (.cells #[v] 32 (0, 0)) ∧ Kd.R (Kd.int .i64) 3 V W.heap.size (fun _ => True) v (nosOf d pre)
  kp : Kp (fun k => W.heap.size ≤ k) W V
  sz : W.heap.size + 2 ≤ V.heap.size
theorem WtI.own {d : Dk} {W : World} (B : Nat) (hB : W.heap.size < B) : OwnFrom B (WtI d W) := by
  intro s A V row hs hg hr
  have hne : ∀ k, k < B → some k ≠ row := fun k hk e => by have := (hr k e.symm).1; omega
  obtain ⟨v, hv, hR⟩ := hs.row
  refine ⟨⟨v, blk_grown hv hg (hne _ hB), ?_⟩, hs.kp.trans (Kp.of_grown (F := fun k => B ≤ k) hg (fun q hq => (hr q hq).1)) (fun q _ hq => by show _ ≤ _; omega), Nat.le_trans hs.sz hg.size⟩
  refine Kd.R_mono (Kd.R_grown (Kd.R_tight rfl hR) hg (fun k hk e => ?_)) (fun _ _ => trivial)
  obtain ⟨_, o, ho, hc⟩ := hr k e.symm
  obtain ⟨cells, hh⟩ := Kd.R_typed hR k hk.symm
  rw [hh] at ho
  injection ho with ho
  subst ho
  cases hc
def WtPost (xs : List Int) (W : World) (e : Ending) (w' : World) : Prop := ∃ v, e = .returned v ∧ Kd.R (Kd.int .i64) 3 w' W.heap.size (fun _ => True) v xs ∧ Below W.heap.size W w'
set_option maxHeartbeats 16000000 in
set_option maxRecDepth 100000 in
theorem Waits_calls (F : Nat → Prop) (g gl cl : Nat) (d : Dk) (wv : Value) (W : World) (h : Mem F g gl cl d wv W) (hwl : d.waits.length < 1000000000) :
    Calls Try.prog 16 #[.pointer (some ⟨g, 0, none⟩)] W (WtPost (d.waits.map fun w => ((w.1 : Nat) : Int)) W) := by
  have HM := Aside0.mk h
  have HN := Aside0.mk hwl
  have eg : ∀ args w, (callFunc 37 args).run Try.prog w = .ok (.enter 37 args) w := fun args w => by first | rfl | simp [callFunc]
  have HE := Aside0.mk eg
  clear h hwl eg
  refine (callsIn_wide (n := 6)).1 ?_
  refine callsIn_of_wp_marks Try.func16 rfl trivial ?_ rfl
  simp only [Try.ntmps16, List.size_toArray, List.length_cons, List.length_nil, Nat.reduceAdd, Nat.reduceSub, Array.replicate_succ, Array.replicate_zero, List.push_toArray, List.append_toArray, List.nil_append, List.cons_append]
  refine wpIn_wide.2 ?_
  go_wp2_with (first | (go_at_call 29; refine (all_calls g _).mono ?_; rintro e w7 ⟨rfl, hw7⟩; obtain rfl := hw7.symm))
  refine (wpIn_wide (n := 6)).1 ?_
  obtain ⟨W2, hW2⟩ : ∃ W2, (W.alloc (.cells #[.slice none 0 0] 32)) = W2 := ⟨_, rfl⟩
  obtain ⟨W0, hW0⟩ : ∃ W0, (W2.alloc (.cells #[.pointer (some ⟨g, 0, none⟩)] 24)) = W0 := ⟨_, rfl⟩
  have hs2 : W2.heap.size = W.heap.size + 1 := by rw [← hW2]; simp
  have hsz : W0.heap.size = W.heap.size + 2 := by rw [← hW0]; simp; omega
  have hB0 : Below W.heap.size W W0 := by rw [← hW0, ← hW2]; exact below_alloc (below_alloc (Below.refl _ _) _) _
  have hI0 : WtI d W [] W0 := by
    refine ⟨⟨.slice none 0 0, ?_, Kd.R_nil _ _ _ _ _⟩, Kp.of_below hB0, by rw [hsz]; omega⟩
    rw [← hW0, ← hW2]
    exact blk_alloc (blk_new _ _) _
  have hbox0 : W0.cell? ⟨W.heap.size + 1, 0, none⟩ = some (.pointer (some ⟨g, 0, none⟩)) := by
    rw [← hW0, ← hs2]
    exact (blk_cell (blk_new W2 _) 0).trans rfl
  have hM0 := HM.out.below hB0
  have hwv0 := hM0.cells.2.1
  have hR0 := Kd.R_tight rfl hM0.waits
  have hown0 : ∀ k, some k = wv.ownBlock → k < W.heap.size := fun k hk => Kd.R_lt HM.out.waits k hk.symm
  obtain ⟨A, c, hwe⟩ := Kd.R_slice hR0
  rw [List.length_map] at hwe
  subst hwe
  rw [hW2, hW0]
  have HSZ := Aside0.mk (And.intro hsz hs2)
  have HZW := Aside0.mk zero_W
  have HOWN := Aside0.mk hown0
  clear hB0 hW0 hW2
  refine wpIn_rangeFunc_ownH (by rfl) (by omega) (gf := 37) (lb := #[.pointer (some ⟨W.heap.size + 1, 0, none⟩)]) rfl trivial HE.out
    (all_stops Fence.wide 5 trivial rfl (by omega) (W.heap.size + 1) g c A d.waits W0 (by have := HN.out; omega) hR0 hbox0 hwv0 (Kp (fun k => W.heap.size ≤ k)) (fun X Y hX hk => ⟨hk.size, fun k hk' => hk.block k (by have := HOWN.out k hk'; omega) (by have := HOWN.out k hk'; omega)⟩))
    (fun h k => h.trans k (fun _ _ hq => hq)) (fun V l o o' hl hV _ _ => Kp.of_grown (grownBy_putObj' V l o') (fun q hq => by injection hq with hq; subst hq; show _ ≤ _; omega)) (Below.refl _ _) (fun _ => rfl)
    (WtI d W) (fun _ _ _ => False) (WtI.own _ (by omega)) (fun _ _ _ _ _ hs _ _ => hs) hI0
    (fun x a' V => ∃ b, a' = { tmps := #[.pointer (some ⟨g, 0, none⟩), undef, .slice none 0 0, .pointer (some ⟨W.heap.size, 0, none⟩), undef, .pointer (some ⟨b, 0, none⟩), .pointer (some ⟨g, 0, none⟩), .bool false, .pointer (some ⟨g, 0, none⟩), .func (.func 37) #[] #[.pointer (some ⟨W.heap.size + 1, 0, none⟩)], .int .i64 ((x.val : Nat) : Int), .agg (wcells d.waits[x.val]).toArray, undef, undef, undef, undef, undef, undef], defers := [] } ∧ V.heap[b]? = some (.cells (wcells d.waits[x.val]).toArray 64 (0, 0)) ∧ W0.heap.size ≤ b)
    ?hAx ?assign ?body ?done ?stop
  case hAx =>
    rintro x a' _ V V' row ⟨b, e, hb, hbB⟩ hg hr
    exact ⟨b, e, blk_grown hb hg (fun he => by
      obtain ⟨_, o, ho, hc⟩ := hr b he.symm
      rw [hb] at ho
      injection ho with ho
      subst ho
      cases hc), hbB⟩
  case assign =>
    intro l pre x V K hI hK
    have hxl : (d.waits[x.val]).2.length = 64 := (HM.out.ok.waits _ (List.getElem_mem x.isLt)).2
    have HST := Aside0.mk (store_wrt V (d.waits[x.val]) hxl)
    clear hxl
    simp only [encWt, List.zip_toArray, List.zip_cons_cons, List.zip_nil_right, List.foldl_toArray, List.foldl_cons, List.foldl_nil, List.setIfInBounds_toArray, List.set_cons_succ, List.set_cons_zero]
    refine wpIn_region_lit ?_
    refine wpListIn_exec rfl rfl (exec_alloc 64 zeroW rfl (HZW.out _)) ?_
    refine wpListIn_exec_skip rfl rfl rfl (exec_store 64 _ _ (.pointer (some ⟨V.heap.size, 0, none⟩)) (.agg (wcells d.waits[x.val]).toArray) rfl rfl rfl HST.out) ?_
    have hb1 := below_alloc (Below.refl V.heap.size V) (.cells (wcells d.waits[x.val]).toArray 64)
    have hg1 := World.grownBy_alloc V (.cells (wcells d.waits[x.val]).toArray 64) none
    exact hK _ _ (KeepsFrom.of_grownBy hg1 (fun j e => by cases e)) (Kp.of_below hb1) (WtI.own (W.heap.size + 2) (by omega) pre V _ none hI hg1 (fun r e => by cases e)) ⟨V.heap.size, rfl, blk_new V _, by have := hI.sz; have := HSZ.out.1; omega⟩
  case body =>
    rintro l pre x a' V hl hr hI ⟨b, rfl, hb, hbB⟩ hpl
    obtain ⟨wi, wb, hwe⟩ : ∃ wi wb, d.waits[x.val] = (wi, wb) := ⟨_, _, rfl⟩
    rw [hwe] at hb
    obtain ⟨v, hv, hR⟩ := hI.row
    obtain ⟨A1, c1, hvv⟩ := Kd.R_slice hR
    subst hvv
    have hc1 : V.cell? ⟨W.heap.size, 0, none⟩ = some (.slice A1 (nosOf d pre).length c1) := (blk_cell hv 0).trans rfl
    have hc3 : V.cell? ⟨b, 0, none⟩ = some (.int .i64 (wi : Int)) := (blk_cell hb 0).trans rfl
    have info3 : (Try.prog.info? 3).map (fun i => (i.zero, i.size, i.bytes)) = some (some (.int .i64 0), 1, 8) := by kernel_rfl
    have hn : nosOf d (pre ++ [x]) = nosOf d pre ++ [(wi : Int)] := by simp [nosOf, hwe]
    have hpn : (nosOf d pre).length < 1000000000 := by simp [nosOf]; have := HN.out; omega
    generalize hzs : nosOf d pre = zs at *
    obtain ⟨L0, hL0⟩ : ∃ L0, zs.length = L0 := ⟨_, rfl⟩
    have hBV : Below W.heap.size W V := hI.kp.below (Nat.le_refl _) (fun k hk h => by omega)
    have HI := Aside0.mk hI
    have HV := Aside0.mk (And.intro hv (And.intro hR (And.intro hpn (And.intro hn hBV))))
    clear hwe hb hbB hI hv hR hpn hn hBV hzs
    refine wpIn_block ?_
    refine plainIn_ (by rintro ⟨_, _, hh⟩; exact hh) rfl ?_
    simp only [List.toList_toArray]
    go_wp2_with (first | ((with_reducible refine gate_builtin (b := .append) (xs := #[.tmp 12, .tmp 15]) rfl ?_); refine of_halt ?_))
    unfold Halt
    have hR1 : Kd.R (Kd.int .i64) 3 V W.heap.size (fun k => True ∧ k ≠ W.heap.size) (.slice A1 L0 c1) zs := by
      have := Kd.R_types HV.out.2.1 HV.out.1 (by decide)
      rwa [hL0] at this
    refine Kd.R_append (Kd.int .i64) (w0 := W) (W := V) W.heap.size rfl (.tmp 12) (.tmp 15) 32 3 (.int .i64 0) 8 rfl Try.underlying32 info3 rfl (by decide) (by decide) (.slice A1 L0 c1) zs (wi : Int) [.int .i64 (wi : Int)] (fun k => True ∧ k ≠ W.heap.size) (fun _ => False) rfl rfl rfl (fun _ hk => hk.elim) (fun k hk => ⟨trivial, by have := HI.out.sz; omega⟩) hR1 HV.out.2.2.2.2 HI.out.kp.size (by have := HV.out.2.2.1; omega) ?_
    intro v1 w1 ho1 hb1 hg1 hat1
    obtain ⟨A2, c2, hv2⟩ := Kd.R_slice ho1
    obtain ⟨L2, hL2⟩ : ∃ L2, (zs ++ [(wi : Int)]).length = L2 := ⟨_, rfl⟩
    rw [hL2] at hv2
    subst hv2
    have hvw : w1.heap[W.heap.size]? = some (.cells #[.slice A1 zs.length c1] 32 (0, 0)) := blk_grown HV.out.1 hg1 (fun e => (hR1.1 _ e.symm).2 rfl)
    have hd1 : w1.cell? ⟨W.heap.size, 0, none⟩ = some (.slice A1 zs.length c1) := (blk_cell hvw 0).trans rfl
    have hz1 := blk_frozen hvw 0
    have hkf : KeepsFrom W0.heap.size V w1 := ⟨hg1.size, fun k o hB hk ho => (hg1.block k (blk_lt hk) (fun e => by
      obtain ⟨cells, hh⟩ := Kd.R_typed hR1 k e.symm
      rw [hk] at hh
      injection hh with hh
      subst hh
      cases ho)).trans hk⟩
    have hkp : Kp (fun k => W.heap.size ≤ k) V w1 := Kp.of_grown hg1 (fun q hq => Kd.R_base hR1 q hq)
    have HW1 := Aside0.mk (And.intro ho1 (And.intro hvw (And.intro hkf hkp)))
    clear ho1 hb1 hg1 hat1 hvw hkf hkp hR1
    go_wp2
    have hkp2 := HW1.out.2.2.2.set (p := ⟨W.heap.size, 0, none⟩) (.inl (Nat.le_refl _)) (.slice A2 L2 c2)
    refine ⟨HW1.out.2.2.1.trans ((KeepsOthers.setCell _ _ _).from _), hkp2, ⟨.slice A2 L2 c2, blk_put HW1.out.2.1 0 _ rfl, ?_⟩, HI.out.kp.trans hkp2 (fun q _ hq => hq), Nat.le_trans HI.out.sz hkp2.size⟩
    rw [HV.out.2.2.2.1]
    exact Kd.R_mono (Kd.R_far HW1.out.1 (p := ⟨W.heap.size, 0, none⟩) (fun k hk => hk.2) _) (fun _ _ => trivial)
  case done =>
    rintro D ys V hD rfl hI hK
    obtain ⟨v, hv, hR⟩ := hI.row
    have e0 : nosOf d (allW d.waits) = d.waits.map fun w => ((w.1 : Nat) : Int) := by
      have := congrArg (List.map fun w : Nat × List Int => ((w.1 : Nat) : Int)) (allW_map d.waits)
      rw [List.map_map] at this
      exact this
    rw [e0] at hR
    have hc1 : V.cell? ⟨W.heap.size, 0, none⟩ = some v := (blk_cell hv 0).trans rfl
    have HR := Aside0.mk hR
    have HI := Aside0.mk hI
    clear hR hv hI e0
    go_wp2
    refine ⟨by simp, .inl ⟨_, _, rfl, run_takeDeferred hK, ?_⟩⟩
    refine ⟨_, results_tmp rfl _ _ _, v, rfl, ?_, ?_⟩
    · exact Kd.R_mono (Kd.R_grown (Kd.R_tight rfl HR.out) (grownBy_putObj' V D (.deferred none)) (fun k hk e => by
        injection e with e
        subst e
        obtain ⟨cells, hc⟩ := Kd.R_typed HR.out k hk.symm
        rw [hK] at hc
        cases hc)) (fun _ _ => trivial)
    · exact (HI.out.kp.below (Nat.le_refl _) (fun k hk h => by omega)).trans (Kp.below (Kp.of_grown (F := fun k => k = D) (grownBy_putObj' V D (.deferred none)) (fun q hq => by injection hq with hq; exact hq.symm)) HI.out.kp.size (fun k hk e => by omega))
  case stop =>
    rintro D c pre V _ _ h _
    exact h.elim
end Go.Proofs.Ytckbdckeijanlaa.G
