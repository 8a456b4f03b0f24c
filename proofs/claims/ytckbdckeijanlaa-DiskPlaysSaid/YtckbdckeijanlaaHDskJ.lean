/- The disk: Crash. By hand. -/
import Derived.Test.YtckbdckeijanlaaHDskI
namespace Go.Proofs.Ytckbdckeijanlaa.G
open Go.RowKit Go.Shelf Go.Proofs.YtckbdckeijanlaaW.PrintWords Go.Proofs.YtckbdckeijanlaaW.PrintLast Go.Proofs.YtckbdckeijanlaaW.PrintMore Go.Proofs.Ytckbdckeijanlaa.Dsk
set_option linter.unusedVariables false
set_option linter.unusedSimpArgs false
attribute [local go_sem] Oper.semAt_some
/-- What lies on the disk behind the crash, so many writes having been gone through. -/
def crStep (d : Dk) (ks : List Int) (l : List (List Int)) (k : Fin d.waits.length) : List (List Int) := if k.val < ks.length then torn l d.waits[k.val] (clamp (ks.getD k.val 0)) else l
def crL (d : Dk) (ks : List Int) (pre : List (Fin d.waits.length)) : List (List Int) := pre.foldl (crStep d ks) d.lies
theorem crL_snoc (d : Dk) (ks : List Int) (pre : List (Fin d.waits.length)) (k : Fin d.waits.length) : crL d ks (pre ++ [k]) = crStep d ks (crL d ks pre) k := by simp [crL]
theorem crL_ok {d : Dk} (h : Ok d) (ks : List Int) : ∀ pre : List (Fin d.waits.length), (crL d ks pre).length = d.lies.length ∧ ∀ b ∈ crL d ks pre, b.length = 64 := by
  have key : ∀ (pre : List (Fin d.waits.length)) (l : List (List Int)), l.length = d.lies.length → (∀ b ∈ l, b.length = 64) → (pre.foldl (crStep d ks) l).length = d.lies.length ∧ ∀ b ∈ pre.foldl (crStep d ks) l, b.length = 64 := by
    intro pre
    induction pre with
    | nil => intro l h1 h2; exact ⟨h1, h2⟩
    | cons k pre ih =>
      intro l h1 h2
      rw [List.foldl_cons]
      have hw := h.waits _ (List.getElem_mem k.isLt)
      unfold crStep
      split
      · exact ih _ (by rw [torn_len, h1]) (torn_ok h2 _ ⟨by rw [h1]; exact hw.1, hw.2⟩ (clamp_le _))
      · exact ih _ h1 h2
  exact fun pre => key pre d.lies rfl h.lies
theorem crL_all (d : Dk) (ks : List Int) : crL d ks (allW d.waits) = crashL d.lies d.waits ks := by
  have key : ∀ (n : Nat) (hn : n ≤ d.waits.length) (l : List (List Int)), ((allW d.waits).drop (d.waits.length - n)).foldl (crStep d ks) l = crashL l (d.waits.drop (d.waits.length - n)) (ks.drop (d.waits.length - n)) := by
    intro n
    induction n with
    | zero =>
      intro _ l
      rw [Nat.sub_zero, List.drop_eq_nil_of_le (by simp [allW]), List.drop_eq_nil_of_le (Nat.le_refl _)]
      cases ks.drop d.waits.length <;> rfl
    | succ n ih =>
      intro hn l
      obtain ⟨j, hj⟩ : ∃ j, d.waits.length - (n + 1) = j := ⟨_, rfl⟩
      have hj1 : d.waits.length - n = j + 1 := by omega
      have hjl : j < d.waits.length := by omega
      have ih' := fun l => ih (by omega) l
      rw [hj1] at ih'
      rw [hj, List.drop_eq_getElem_cons (l := allW d.waits) (i := j) (by simp [allW]; exact hjl), List.drop_eq_getElem_cons (l := d.waits) hjl, List.foldl_cons, ih']
      have e : (allW d.waits)[j]'(by simp [allW]; exact hjl) = ⟨j, hjl⟩ := by simp [allW]
      rw [e]
      unfold crStep
      simp only
      by_cases hk : j < ks.length
      · rw [if_pos hk, List.drop_eq_getElem_cons (l := ks) hk, show ks.getD j 0 = ks[j] by simp [List.getD_eq_getElem?_getD, hk]]
        rfl
      · have hk' : ks.length ≤ j := Nat.le_of_not_lt hk
        rw [if_neg hk, List.drop_eq_nil_of_le (show ks.length ≤ j + 1 by omega), List.drop_eq_nil_of_le (show ks.length ≤ j from hk')]
        cases d.waits.drop (j + 1) <;> rfl
  have := key d.waits.length (Nat.le_refl _) d.lies
  simpa [crL] using this
theorem mx_clamp (k : Int) : mx 0 (mn k 64) = (clamp k : Int) := by
  unfold mx mn clamp
  split <;> split <;> omega
theorem Mem.putTorn {F : Nat → Prop} {g gl cl : Nat} {d : Dk} {wv : Value} {W : World} (h : Mem F g gl cl d wv W) (i : Nat) (b : List Int) (c : Nat) (hi : i < d.lies.length) (hb : b.length = 64) (hc : c ≤ 64) :
    Mem F g gl cl ⟨torn d.lies (i, b) c, d.waits, d.steps, d.left⟩ wv (W.setCells gl (i * 64) ((bts b).take c)) ∧ Kp (fun k => k = gl) W (W.setCells gl (i * 64) ((bts b).take c)) := by
  obtain ⟨c0, hcl, hcM, hcc, hcf⟩ := Kd.R_elem h.lies [] (i : Int) (by omega) (by omega)
  rw [Int.toNat_natCast] at hcM hcc
  obtain ⟨hx, rfl⟩ := hcM
  have hsl : ((bts b).take c).length = c := by rw [List.length_take, bts_length, hb]; omega
  have hseg := Kd.R_seg (okp := fun _ => False) h.lies (i : Int) (by omega) (by omega) hcl (by rw [Int.toNat_natCast]; exact hcc) (seg := (bts b).take c) (j := 0) (by show 0 + _ ≤ 64; rw [hsl]; omega) (x' := b.take c ++ (d.lies.getD i []).drop c) (by
    show _ ∧ _
    refine ⟨by rw [List.length_append, List.length_take, List.length_drop, hb, hx]; omega, ?_⟩
    rw [List.take_zero, List.nil_append, Nat.zero_add, hsl]
    simp [bts, List.map_take, List.map_drop]) (fun _ hk => hk.elim)
  rw [Int.toNat_natCast, Nat.add_zero] at hseg
  have e : i * secK.sz = i * 64 := rfl
  rw [e] at hseg
  have hkp : Kp (fun k => k = gl) W (W.setCells gl (i * 64) ((bts b).take c)) := Kp.of_grown hseg.2 (fun q hq => by injection hq with hq; exact hq.symm)
  refine ⟨⟨?_, h.fg, h.fl, h.ne, ?_, Kp.R hkp h.waits (fun k hk => hk.2.2), ⟨?_, ?_, ?_⟩⟩, hkp⟩
  · show _ = some (Obj.cells #[.slice (some ⟨gl, 0, none⟩) (torn d.lies (i, b) c).length cl, _, _, _, _] _ _)
    rw [torn_len]
    exact hkp.blk h.blk (fun e => h.ne e.symm)
  · show secK.R _ _ _ _ (.slice _ (torn d.lies (i, b) c).length cl) _
    rw [torn_len]
    exact hseg.1
  · show 0 < (torn d.lies (i, b) c).length
    rw [torn_len]; exact h.ok.some_
  · exact torn_ok h.ok.lies (i, b) ⟨hi, hb⟩ hc
  · intro w hw
    show w.1 < (torn d.lies (i, b) c).length ∧ _
    rw [torn_len]
    exact h.ok.waits w hw
def CrPost (d : Dk) (ks : List Int) (W : World) (e : Ending) (w' : World) : Prop := ∃ g, e = .returned (.tuple #[.pointer (some ⟨g, 0, none⟩), .int .i64 0]) ∧ Dm (fun k => W.heap.size ≤ k) g (crash d ks) w' ∧ Below W.heap.size W w'
structure CrI (d : Dk) (ks : List Int) (A : Option Addr) (m cm : Nat) (W : World) (g2 gl2 cl2 b6 : Nat) (pre : List (Fin d.waits.length)) (V : World) : Prop where
  mem : Mem (fun k => k = g2 ∨ k = gl2) g2 gl2 cl2 ⟨crL d ks pre, [], 0, none⟩ (.slice none 0 0) V
  box : V.heap[W.heap.size]? = some (.cells #[.slice A m cm] 32 (0, 0))
  out : V.heap[b6]? = some (.cells #[.pointer (some ⟨g2, 0, none⟩)] 24 (0, 0))
  kp : Kp (fun k => W.heap.size ≤ k) W V
  sz : b6 + 2 ≤ V.heap.size
theorem CrI.own {d : Dk} {ks : List Int} {A : Option Addr} {m cm : Nat} {W : World} {g2 gl2 cl2 b6 : Nat} (h1 : W.heap.size < b6) (h2 : g2 < b6) (h3 : gl2 < b6) (B : Nat) (hB : b6 < B) : OwnFrom B (CrI d ks A m cm W g2 gl2 cl2 b6) := by
  intro s X V row hs hg hr
  have hne : ∀ k, k < B → some k ≠ row := fun k hk e => by have := (hr k e.symm).1; omega
  exact ⟨hs.mem.move (fun k hk hlt => hg.block k hlt (hne k (by omega))), blk_grown hs.box hg (hne _ (by omega)), blk_grown hs.out hg (hne _ hB), hs.kp.trans (Kp.of_grown (F := fun k => B ≤ k) hg (fun q hq => (hr q hq).1)) (fun q _ hq => by show _ ≤ _; omega), Nat.le_trans hs.sz hg.size⟩
set_option maxHeartbeats 16000000 in
set_option maxRecDepth 100000 in
theorem Crash_calls (F : Nat → Prop) (g gl cl : Nat) (d : Dk) (wv : Value) (ks : List Int) (A : Option Addr) (cm : Nat) (W : World) (h : Mem F g gl cl d wv W) (hwl : d.waits.length < 1000000000) (hsl : d.lies.length < 1000000000) (hK : Kd.C (Kd.int .i64) W A ks.length ks) (hkc : ks.length ≤ cm) :
    Calls Try.prog 14 #[.pointer (some ⟨g, 0, none⟩), .slice A ks.length cm] W (CrPost d ks W) := by
  have HM := Aside0.mk h
  have HN := Aside0.mk (And.intro hwl (And.intro hsl hkc))
  have HKC := Aside0.mk hK
  have HB := Aside0.mk (below_alloc (Below.refl W.heap.size W) (.cells #[.slice A ks.length cm] 32))
  have HBX := Aside0.mk (blk_new W (.cells #[.slice A ks.length cm] 32))
  have HSZ1 := Aside0.mk (World.size_alloc W (.cells #[.slice A ks.length cm] 32))
  have HS := Aside0.mk (Sectors_calls F g gl cl d wv _ (h.below HB.out))
  have b0 : ((d.lies.length : Int) == 0) = false := by
    have := h.ok.some_
    rw [Bool.eq_false_iff]
    intro q
    rw [beq_iff_eq] at q
    omega
  have b0' : ((d.lies.length : Int) = 0) = False := eq_false (by have := h.ok.some_; omega)
  have hl0 : ∀ V, Below W.heap.size W V → V.cell? ⟨g, 0, none⟩ = some (.slice (some ⟨gl, 0, none⟩) d.lies.length cl) := fun V hV => (h.below hV).cells.1
  have HL0 := Aside0.mk hl0
  have eg : ∀ args w, (callFunc 37 args).run Try.prog w = .ok (.enter 37 args) w := fun args w => by first | rfl | simp [callFunc]
  have HE := Aside0.mk eg
  clear h hwl hsl hK hkc hl0 eg
  refine (callsIn_wide (n := 6)).1 ?_
  refine callsIn_of_wp_marks Try.func14 rfl trivial ?_ rfl
  simp only [Try.ntmps14, List.size_toArray, List.length_cons, List.length_nil, Nat.reduceAdd, Nat.reduceSub, Array.replicate_succ, Array.replicate_zero, List.push_toArray, List.append_toArray, List.nil_append, List.cons_append]
  refine wpIn_wide.2 ?_
  go_upto_region 3 with (first | (go_at_call 21; refine HS.out.mono ?_; rintro e w5 ⟨rfl, hw5⟩; obtain rfl := hw5.symm))
  have hc0 := HL0.out _ (below_alloc HB.out (.cells #[] 62))
  generalize hW1 : W.alloc (.cells #[.slice A ks.length cm] 32) = W1 at *
  clear hW1
  go_wp2_with (first | ((with_reducible refine gate_builtin (b := .append) (xs := #[.tmp 12, .tmp 16]) rfl ?_); refine of_halt ?_))
  unfold Halt
  have hHO : Kd.R secK 62 (W1.alloc (.cells #[] 62)) W.heap.size (fun k => W1.heap.size ≤ k) (.slice (some ⟨W1.heap.size, 0, none⟩) 0 0) [] := ⟨fun k hk => by simp [Value.ownBlock] at hk; omega, [], World.ownsRow_lit (base := W.heap.size) (e := 62) (size := 64) W1 #[] 0 HB.out.size (by simp [maxLen]) rfl, Reps.none _ _⟩
  have hHR := (Kd.R_reads' (HM.out.below (below_alloc HB.out (.cells #[] 62))).lies).2.2
  refine Kd.R_append_rows secK (Rr := secK.K (W1.alloc (.cells #[] 62))) (w0 := W) W.heap.size rfl (.tmp 12) (.tmp 16) 48 62 zeroS 64 rfl Try.underlying48 infoS rfl (by decide) (by decide) (.slice (some ⟨W1.heap.size, 0, none⟩) 0 0) [] d.lies (some ⟨gl, 0, none⟩) d.lies.length cl (fun k => W1.heap.size ≤ k) (fun _ => False) rfl rfl hHO hHR (fun x cs h => h) (fun _ hk => hk.elim) (fun k hk => by rw [World.size_alloc] at hk; omega) (below_alloc HB.out _) (by have := HSZ1.out; rw [World.size_alloc]; omega) (by have := HN.out.2.1; simp; omega) ?_
  intro v2 w2 ho2 hb2 hg2 hat2
  rw [List.nil_append] at ho2
  obtain ⟨gl2, cl2, hv2, hgl, hgl2, _⟩ := Kd.R_form ho2 HM.out.ok.some_
  subst hv2
  have hgl1 : W1.heap.size ≤ gl2 := ho2.1 gl2 rfl
  have hbx2 : w2.heap[W.heap.size]? = some (.cells #[.slice A ks.length cm] 32 (0, 0)) := blk_grown (blk_alloc HBX.out _) hg2 (fun e => by simp [Value.ownBlock] at e; have := HSZ1.out; omega)
  have HW2 := Aside0.mk (And.intro ho2 (And.intro hb2 (And.intro hbx2 (And.intro hgl1 hgl2))))
  clear ho2 hb2 hg2 hat2 hbx2 hgl hHO hHR hc0 hgl1 hgl2
  go_wp2_with (first | (go_at_call 29; refine (all_calls g _).mono ?_; rintro e w7 ⟨rfl, hw7⟩; obtain rfl := hw7.symm))
  refine (wpIn_wide (n := 6)).1 ?_
  obtain ⟨W3, hW3⟩ : ∃ W3, ((w2.alloc (.cells #[.slice (some ⟨gl2, 0, none⟩) d.lies.length cl2, .slice none 0 0, .int .i64 0, .bool false, .int .i64 0] 51)).alloc (.cells #[.pointer (some ⟨w2.heap.size, 0, none⟩)] 24)) = W3 := ⟨_, rfl⟩
  obtain ⟨W0, hW0⟩ : ∃ W0, (W3.alloc (.cells #[.pointer (some ⟨g, 0, none⟩)] 24)) = W0 := ⟨_, rfl⟩
  have hs3 : W3.heap.size = w2.heap.size + 2 := by rw [← hW3]; simp
  have hsz : W0.heap.size = w2.heap.size + 3 := by rw [← hW0]; simp; omega
  have hbw : Below w2.heap.size w2 W0 := by rw [← hW0, ← hW3]; exact below_alloc (below_alloc (below_alloc (Below.refl _ _) _) _) _
  have hw2 := HW2.out.2.1.size
  have hgW := blk_lt HM.out.blk
  have hB0 : Below W.heap.size W W0 := HW2.out.2.1.trans (hbw.mono hw2)
  have hg0 : W0.heap[w2.heap.size]? = some (.cells #[.slice (some ⟨gl2, 0, none⟩) d.lies.length cl2, .slice none 0 0, .int .i64 0, .bool false, .int .i64 0] 51 (0, 0)) := by
    rw [← hW0, ← hW3]
    exact blk_alloc (blk_alloc (blk_new w2 _) _) _
  have hb6 : W0.heap[w2.heap.size + 1]? = some (.cells #[.pointer (some ⟨w2.heap.size, 0, none⟩)] 24 (0, 0)) := by
    rw [← hW0, ← hW3]
    have := blk_new (w2.alloc (.cells #[.slice (some ⟨gl2, 0, none⟩) d.lies.length cl2, .slice none 0 0, .int .i64 0, .bool false, .int .i64 0] 51)) (.cells #[.pointer (some ⟨w2.heap.size, 0, none⟩)] 24)
    rw [World.size_alloc] at this
    exact blk_alloc this _
  have hbox0 : W0.cell? ⟨w2.heap.size + 1 + 1, 0, none⟩ = some (.pointer (some ⟨g, 0, none⟩)) := by
    rw [← hW0, show w2.heap.size + 1 + 1 = W3.heap.size by omega]
    exact (blk_cell (blk_new W3 _) 0).trans rfl
  have hI0 : CrI d ks A ks.length cm W w2.heap.size gl2 cl2 (w2.heap.size + 1) [] W0 := by
    refine ⟨⟨hg0, .inl rfl, .inr rfl, by have := HW2.out.2.2.2.2; omega, ?_, Kd.R_nil _ _ _ _ _, ⟨HM.out.ok.some_, HM.out.ok.lies, fun w hw => by cases hw⟩⟩, (hbw.block _ (blk_lt HW2.out.2.2.1)).trans HW2.out.2.2.1, hb6, Kp.of_below hB0, by rw [hsz]; omega⟩
    have h3 := Kd.R_tight rfl (Kd.R_lower (Kd.R_step HW2.out.1 (fun k hk hlt => hbw.block k hlt)) (Nat.zero_le _))
    exact Kd.R_mono h3 (fun k hk => by simpa [Value.ownBlock] using hk)
  have hM0 := HM.out.below hB0
  have hwv0 := hM0.cells.2.1
  have hR0 := Kd.R_tight rfl hM0.waits
  have hown0 : ∀ k, some k = wv.ownBlock → k < W.heap.size := fun k hk => Kd.R_lt HM.out.waits k hk.symm
  obtain ⟨Aw, c, hwe⟩ := Kd.R_slice hR0
  rw [List.length_map] at hwe
  subst hwe
  rw [hW3, hW0]
  have HSZ := Aside0.mk (And.intro hsz (And.intro hs3 (And.intro hw2 (And.intro HW2.out.2.2.2.1 HW2.out.2.2.2.2))))
  have HZW := Aside0.mk zero_W
  have HOWN := Aside0.mk hown0
  clear hB0 hW0 hW3 hbw hg0 hb6
  refine wpIn_rangeFunc_ownH (by rfl) (by omega) (gf := 37) (lb := #[.pointer (some ⟨w2.heap.size + 1 + 1, 0, none⟩)]) rfl trivial HE.out
    (all_stops Fence.wide 5 trivial rfl (by omega) (w2.heap.size + 1 + 1) g c Aw d.waits W0 (by have := HN.out.1; omega) hR0 hbox0 hwv0 (Kp (fun k => W.heap.size ≤ k)) (fun X Y hX hk => ⟨hk.size, fun k hk' => hk.block k (by have := HOWN.out k hk'; omega) (by have := HOWN.out k hk'; omega)⟩))
    (fun h k => h.trans k (fun _ _ hq => hq)) (fun V l o o' hl hV _ _ => Kp.of_grown (grownBy_putObj' V l o') (fun q hq => by injection hq with hq; subst hq; show _ ≤ _; omega)) (Below.refl _ _) (fun _ => rfl)
    (CrI d ks A ks.length cm W w2.heap.size gl2 cl2 (w2.heap.size + 1)) (fun _ _ _ => False) (CrI.own (by omega) (by omega) (by have := HSZ.out.2.2.2.2; omega) _ (by omega)) (fun _ _ _ _ _ hs _ _ => hs) hI0
    (fun x a' V => ∃ b, a' = { tmps := #[.pointer (some ⟨g, 0, none⟩), .slice A ks.length cm, undef, .pointer (some ⟨W.heap.size, 0, none⟩), .pointer none, .int .i64 0, .pointer (some ⟨w2.heap.size + 1, 0, none⟩), .int .i64 ((x.val : Nat) : Int), .pointer (some ⟨b, 0, none⟩), .pointer (some ⟨g, 0, none⟩), .int .i64 d.lies.length, .bool false, .slice (some ⟨W1.heap.size, 0, none⟩) 0 0, .pointer (some ⟨g, 0, none⟩), .pointer (some ⟨g, 0, none⟩), .pointer (some ⟨g, 0, none⟩), .slice (some ⟨gl, 0, none⟩) d.lies.length cl, .slice (some ⟨gl2, 0, none⟩) d.lies.length cl2, .agg #[.slice (some ⟨gl2, 0, none⟩) d.lies.length cl2, .slice none 0 0, .int .i64 0, .bool false, .int .i64 0], .pointer (some ⟨w2.heap.size, 0, none⟩), .pointer (some ⟨g, 0, none⟩), .func (.func 37) #[] #[.pointer (some ⟨w2.heap.size + 1 + 1, 0, none⟩)], .int .i64 ((x.val : Nat) : Int), .agg (wcells d.waits[x.val]).toArray, undef, undef, undef, undef, undef, undef, undef, undef, undef, undef, undef, undef, undef, undef, undef, undef, undef, undef, undef, undef, undef, undef], defers := [] } ∧ V.heap[b]? = some (.cells (wcells d.waits[x.val]).toArray 64 (0, 0)) ∧ W0.heap.size ≤ b)
    ?hAx ?assign ?body ?done ?stop
  case hAx =>
    rintro x a' _ V V' row ⟨b, e, hb, hbB⟩ hg hr
    exact ⟨b, e, blk_grown hb hg (fun he => by
      obtain ⟨_, o, ho, hc⟩ := hr b he.symm
      rw [hb] at ho
      injection ho with ho
      subst ho
      cases hc), hbB⟩
  case assign =>
    intro l pre x V K hI hK
    have hxl : (d.waits[x.val]).2.length = 64 := (HM.out.ok.waits _ (List.getElem_mem x.isLt)).2
    have HST := Aside0.mk (store_wrt V (d.waits[x.val]) hxl)
    have HI := Aside0.mk hI
    have HK := Aside0.mk hK
    clear hxl hI hK
    simp only [encWt, List.zip_toArray, List.zip_cons_cons, List.zip_nil_right, List.foldl_toArray, List.foldl_cons, List.foldl_nil, List.setIfInBounds_toArray, List.set_cons_succ, List.set_cons_zero]
    refine wpIn_seq_k ?_
    intro K1 hK1
    refine wpIn_region_lit ?_
    refine wpListIn_exec rfl rfl (exec_assign _ (.int .i64 ((x.val : Nat) : Int)) rfl rfl) ?_
    refine hK1 _ _ ?_
    simp only [Act.put, List.setIfInBounds_toArray, List.set_cons_succ, List.set_cons_zero]
    refine wpIn_region_lit ?_
    refine wpListIn_exec rfl rfl (exec_alloc 64 zeroW rfl (HZW.out _)) ?_
    refine wpListIn_exec_skip rfl rfl rfl (exec_store 64 _ _ (.pointer (some ⟨V.heap.size, 0, none⟩)) (.agg (wcells d.waits[x.val]).toArray) rfl rfl rfl HST.out) ?_
    have hb1 := below_alloc (Below.refl V.heap.size V) (.cells (wcells d.waits[x.val]).toArray 64)
    have hg1 := World.grownBy_alloc V (.cells (wcells d.waits[x.val]).toArray 64) none
    exact HK.out _ _ (KeepsFrom.of_grownBy hg1 (fun j e => by cases e)) (Kp.of_below hb1) (CrI.own (by omega) (by omega) (by have := HSZ.out.2.2.2.2; omega) (w2.heap.size + 2) (by omega) pre V _ none HI.out hg1 (fun r e => by cases e)) ⟨V.heap.size, rfl, blk_new V _, by have := HI.out.sz; have := HSZ.out.1; omega⟩
  case body =>
    rintro l pre x a' V hl hr hI ⟨b, rfl, hb, hbB⟩ hpl
    have hw := HM.out.ok.waits _ (List.getElem_mem x.isLt)
    obtain ⟨wi, wb, hwe⟩ : ∃ wi wb, d.waits[x.val] = (wi, wb) := ⟨_, _, rfl⟩
    rw [hwe] at hw hb
    obtain ⟨hlen, hl64⟩ := crL_ok HM.out.ok ks pre
    have hc1 : V.cell? ⟨W.heap.size, 0, none⟩ = some (.slice A ks.length cm) := (blk_cell hI.box 0).trans rfl
    have hc2 : V.cell? ⟨w2.heap.size + 1, 0, none⟩ = some (.pointer (some ⟨w2.heap.size, 0, none⟩)) := (blk_cell hI.out 0).trans rfl
    have hc3 : V.cell? ⟨w2.heap.size, 0, none⟩ = some (.slice (some ⟨gl2, 0, none⟩) d.lies.length cl2) := by have := hI.mem.cells.1; rw [show (Dk.lies ⟨crL d ks pre, [], 0, none⟩).length = d.lies.length from hlen] at this; exact this
    have hc4 : V.cell? ⟨b, 0, none⟩ = some (.int .i64 (wi : Int)) := (blk_cell hb 0).trans rfl
    have f1 : ((wi : Int) < (d.lies.length : Int)) = True := eq_true (by have := hw.1; omega)
    have f2 : (wi < d.lies.length) = True := eq_true hw.1
    have HI := Aside0.mk hI
    have HW := Aside0.mk (And.intro hw (And.intro hwe (And.intro hlen (And.intro hl64 hb))))
    clear hw hI hbB hwe hlen hl64 hb
    by_cases hk : x.val < ks.length
    · have e1 : decide (((x.val : Nat) : Int) < (ks.length : Int)) = true := decide_eq_true (by omega)
      have e2 : (((x.val : Nat) : Int) < (ks.length : Int)) = True := eq_true (by omega)
      have e3 : (x.val < ks.length) = True := eq_true hk
      have hBV : Below W.heap.size W V := HI.out.kp.below (Nat.le_refl _) (fun k hk h => by omega)
      obtain ⟨ad, hA, hc5⟩ := Kd.at_int (Kd.C_below HKC.out hBV) ((x.val : Nat) : Int) (by omega) (by omega)
      subst hA
      rw [Int.toNat_natCast, show rd ks ((x.val : Nat) : Int) = ks.getD x.val 0 by rw [rd, Int.toNat_natCast]] at hc5
      obtain ⟨kv, hkv⟩ : ∃ kv, ks.getD x.val 0 = kv := ⟨_, rfl⟩
      rw [hkv] at hc5
      obtain ⟨cN, hcN⟩ : ∃ cN, clamp kv = cN := ⟨_, rfl⟩
      have hcl : mx 0 (mn kv 64) = (cN : Int) := by rw [← hcN]; exact mx_clamp kv
      have hc64 : cN ≤ 64 := by rw [← hcN]; exact clamp_le kv
      have g1 : (0 : Int) ≤ (cN : Int) := by omega
      have g2' : (cN : Int) ≤ 64 := by omega
      have hth := HI.out.mem.there (i := wi) (by show wi < (crL d ks pre).length; rw [HW.out.2.2.1]; exact HW.out.1.1)
      have hbt : (bts wb).length = 64 := by rw [bts_length]; exact HW.out.1.2
      have hcsl : ((bts wb).take cN).length = Nat.min cN 64 := by rw [List.length_take, hbt]
      have hcopy : ∀ ty, (Builtin.copy_ #[22, 22] ty #[.slice (some ⟨gl2, wi * 64, none⟩) 64 64, .slice (some ⟨b, 1, none⟩) cN 64]).run Try.prog V.drew = .ok (goInt ((bts wb).take cN).length) (V.drew.setCells gl2 (wi * 64) ((bts wb).take cN)) := fun ty =>
        run_copy_cells V.drew _ _ ty 5 gl2 (wi * 64) 64 64 ⟨b, 1, none⟩ cN 64 ((bts wb).take cN) Try.underlying22 (by kernel_rfl) hcsl (fun i u hu => by
          rw [Addr.add_mid]
          show V.cell? ⟨b, 1 + i, none⟩ = _
          rw [blk_cell HW.out.2.2.2.2 (1 + i), Nat.add_comm]
          rw [List.getElem?_take] at hu
          split at hu
          · simpa [wcells] using hu
          · cases hu) (fun j hj => (hth j (by rw [hcsl] at hj; have : Nat.min cN 64 ≤ 64 := Nat.min_le_right _ _; omega)).1) (fun j hj => (hth j (by rw [hcsl] at hj; have : Nat.min cN 64 ≤ 64 := Nat.min_le_right _ _; omega)).2) (fun v hv => bts_one wb v (List.mem_of_mem_take hv))
      have HCP := Aside0.mk hcopy
      have HCN := Aside0.mk (And.intro hk (And.intro hkv (And.intro hcN hc64)))
      have HC5 := Aside0.mk hc5
      clear hk hkv hcN hth hcopy hBV hcsl hbt hc64
      gi_wp2
      refine startIn_ (m := 17) (S := fun w' => w'.cell? ⟨w2.heap.size + 1, 0, none⟩ = some (.pointer (some ⟨w2.heap.size, 0, none⟩)) ∧ w'.cell? ⟨w2.heap.size, 0, none⟩ = some (.slice (some ⟨gl2, 0, none⟩) d.lies.length cl2) ∧ w'.cell? ⟨b, 0, none⟩ = some (.int .i64 (wi : Int)) ∧ w'.cell? ⟨W.heap.size, 0, none⟩ = some (.slice (some ad) ks.length cm) ∧ w'.cell? (ad.add x.val) = some (.int .i64 kv)) (ds := [16]) #[false, false, false, false, false, false, false, false, false, false, false, false, false, false, false, false, false] (by kernel_rfl) (by rintro ⟨_, _, hh⟩; exact hh) (by rfl) rfl rfl ⟨hc2, hc3, hc4, hc1, HC5.out⟩ (fun hHeld => ?_)
      refine pure_ (i := 4) (N := some 32) (v := ?_) (a' := ?_) #[false, false, false, false, true, false, false, false, false, false, false, false, false, false, false, false, false] rfl rfl (by kernel_rfl) (fun _ _ _ h => h) (Or.inl ⟨by rfl, ?_⟩) ?_ ?_
      rotate_left
      · intro w'
        go_simp
        with_reducible rfl
      rotate_left
      · simp only [Act.put, List.setIfInBounds_toArray, List.set_cons_zero, List.set_cons_succ, i64_w, i32_w]
        rfl
      refine pure_ (i := 8) (N := some 36) (v := ?_) (a' := ?_) #[false, false, false, false, true, false, false, false, true, false, false, false, false, false, false, false, false] rfl rfl (by kernel_rfl) (fun _ _ _ h => h) (Or.inl ⟨by rfl, ?_⟩) ?_ ?_
      rotate_left
      · intro w'
        go_simp
        with_reducible rfl
      rotate_left
      · simp only [Act.put, List.setIfInBounds_toArray, List.set_cons_zero, List.set_cons_succ, i64_w, i32_w]
        rfl
      refine pure_ (i := 10) (N := some 38) (v := ?_) (a' := ?_) #[false, false, false, false, true, false, false, false, true, false, true, false, false, false, false, false, false] rfl rfl (by kernel_rfl) (fun _ _ _ h => h) (Or.inl ⟨by rfl, ?_⟩) ?_ ?_
      rotate_left
      · intro w'
        go_simp
        with_reducible rfl
      rotate_left
      · simp only [Act.put, List.setIfInBounds_toArray, List.set_cons_zero, List.set_cons_succ, i64_w, i32_w]
        rfl
      refine take_ (i := 0) (N := some 28) (v := ?_) (a' := ?_) #[true, false, false, false, true, false, false, false, true, false, true, false, false, false, false, false, false] rfl rfl (by kernel_rfl) (fun _ _ _ h => h) (Or.inl ⟨by rfl, ?_⟩) hHeld ?_ ?_
      rotate_left
      · rintro w' ⟨s0, s1, s2, s3, s4⟩
        go_simp
        with_reducible rfl
      rotate_left
      · simp only [Act.put, List.setIfInBounds_toArray, List.set_cons_zero, List.set_cons_succ, i64_w, i32_w]
        rfl
      refine pure_ (i := 1) (N := some 29) (v := ?_) (a' := ?_) #[true, true, false, false, true, false, false, false, true, false, true, false, false, false, false, false, false] rfl rfl (by kernel_rfl) (fun _ _ _ h => h) (Or.inl ⟨by rfl, ?_⟩) ?_ ?_
      rotate_left
      · intro w'
        go_simp
        with_reducible rfl
      rotate_left
      · simp only [Act.put, List.setIfInBounds_toArray, List.set_cons_zero, List.set_cons_succ, i64_w, i32_w]
        rfl
      refine pure_ (i := 2) (N := some 30) (v := ?_) (a' := ?_) #[true, true, true, false, true, false, false, false, true, false, true, false, false, false, false, false, false] rfl rfl (by kernel_rfl) (fun _ _ _ h => h) (Or.inl ⟨by rfl, ?_⟩) ?_ ?_
      rotate_left
      · intro w'
        go_simp
        with_reducible rfl
      rotate_left
      · simp only [Act.put, List.setIfInBounds_toArray, List.set_cons_zero, List.set_cons_succ, i64_w, i32_w]
        rfl
      refine take_ (i := 3) (N := some 31) (v := ?_) (a' := ?_) #[true, true, true, true, true, false, false, false, true, false, true, false, false, false, false, false, false] rfl rfl (by kernel_rfl) (fun _ _ _ h => h) (Or.inl ⟨by rfl, ?_⟩) hHeld ?_ ?_
      rotate_left
      · rintro w' ⟨s0, s1, s2, s3, s4⟩
        go_simp
        with_reducible rfl
      rotate_left
      · simp only [Act.put, List.setIfInBounds_toArray, List.set_cons_zero, List.set_cons_succ, i64_w, i32_w]
        rfl
      refine take_ (i := 5) (N := some 33) (v := ?_) (a' := ?_) #[true, true, true, true, true, true, false, false, true, false, true, false, false, false, false, false, false] rfl rfl (by kernel_rfl) (fun _ _ _ h => h) (Or.inl ⟨by rfl, ?_⟩) hHeld ?_ ?_
      rotate_left
      · rintro w' ⟨s0, s1, s2, s3, s4⟩
        go_simp
        with_reducible rfl
      rotate_left
      · simp only [Act.put, List.setIfInBounds_toArray, List.set_cons_zero, List.set_cons_succ, i64_w, i32_w]
        rfl
      refine pure_ (i := 6) (N := some 34) (v := ?_) (a' := ?_) #[true, true, true, true, true, true, true, false, true, false, true, false, false, false, false, false, false] rfl rfl (by kernel_rfl) (fun _ _ _ h => h) (Or.inl ⟨by rfl, ?_⟩) ?_ ?_
      rotate_left
      · intro w'
        go_simp
        with_reducible rfl
      rotate_left
      · simp only [Act.put, List.setIfInBounds_toArray, List.set_cons_zero, List.set_cons_succ, i64_w, i32_w]
        rfl
      refine pure_ (i := 7) (N := some 35) (v := ?_) (a' := ?_) #[true, true, true, true, true, true, true, true, true, false, true, false, false, false, false, false, false] rfl rfl (by kernel_rfl) (fun _ _ _ h => h) (Or.inl ⟨by rfl, ?_⟩) ?_ ?_
      rotate_left
      · intro w'
        go_simp
        with_reducible rfl
      rotate_left
      · simp only [Act.put, List.setIfInBounds_toArray, List.set_cons_zero, List.set_cons_succ, i64_w, i32_w]
        rfl
      refine take_ (i := 9) (N := some 37) (v := ?_) (a' := ?_) #[true, true, true, true, true, true, true, true, true, true, true, false, false, false, false, false, false] rfl rfl (by kernel_rfl) (fun _ _ _ h => h) (Or.inl ⟨by rfl, ?_⟩) hHeld ?_ ?_
      rotate_left
      · rintro w' ⟨s0, s1, s2, s3, s4⟩
        go_simp
        with_reducible rfl
      rotate_left
      · simp only [Act.put, List.setIfInBounds_toArray, List.set_cons_zero, List.set_cons_succ, i64_w, i32_w]
        rfl
      refine pure_ (i := 11) (N := some 39) (v := ?_) (a' := ?_) #[true, true, true, true, true, true, true, true, true, true, true, true, false, false, false, false, false] rfl rfl (by kernel_rfl) (fun _ _ _ h => h) (Or.inl ⟨by rfl, ?_⟩) ?_ ?_
      rotate_left
      · intro w'
        go_simp
        with_reducible rfl
      rotate_left
      · simp only [Act.put, List.setIfInBounds_toArray, List.set_cons_zero, List.set_cons_succ, i64_w, i32_w]
        rfl
      refine take_ (i := 12) (N := some 40) (v := ?_) (a' := ?_) #[true, true, true, true, true, true, true, true, true, true, true, true, true, false, false, false, false] rfl rfl (by kernel_rfl) (fun _ _ _ h => h) (Or.inl ⟨by rfl, ?_⟩) hHeld ?_ ?_
      rotate_left
      · rintro w' ⟨s0, s1, s2, s3, s4⟩
        go_simp
        with_reducible rfl
      rotate_left
      · simp only [Act.put, List.setIfInBounds_toArray, List.set_cons_zero, List.set_cons_succ, i64_w, i32_w]
        rfl
      refine pure_ (i := 13) (N := some 41) (v := ?_) (a' := ?_) #[true, true, true, true, true, true, true, true, true, true, true, true, true, true, false, false, false] rfl rfl (by kernel_rfl) (fun _ _ _ h => h) (Or.inl ⟨by rfl, ?_⟩) ?_ ?_
      rotate_left
      · intro w'
        refine Eq.trans (exec_min2 _ _ _ kv 64 rfl (by rfl) (by rfl)) ?_
        with_reducible rfl
      rotate_left
      · simp only [Act.put, List.setIfInBounds_toArray, List.set_cons_zero, List.set_cons_succ, i64_w, i32_w]
        rfl
      refine pure_ (i := 14) (N := some 42) (v := ?_) (a' := ?_) #[true, true, true, true, true, true, true, true, true, true, true, true, true, true, true, false, false] rfl rfl (by kernel_rfl) (fun _ _ _ h => h) (Or.inl ⟨by rfl, ?_⟩) ?_ ?_
      rotate_left
      · intro w'
        refine Eq.trans ((exec_max2 _ _ _ 0 (mn kv 64) rfl (by rfl) (by rfl)).trans (by rw [hcl])) ?_
        with_reducible rfl
      rotate_left
      · simp only [Act.put, List.setIfInBounds_toArray, List.set_cons_zero, List.set_cons_succ, i64_w, i32_w]
        rfl
      refine pure_ (i := 15) (N := some 43) (v := ?_) (a' := ?_) #[true, true, true, true, true, true, true, true, true, true, true, true, true, true, true, true, false] rfl rfl (by kernel_rfl) (fun _ _ _ h => h) (Or.inl ⟨by rfl, ?_⟩) ?_ ?_
      rotate_left
      · intro w'
        go_simp
        with_reducible rfl
      rotate_left
      · simp only [Act.put, List.setIfInBounds_toArray, List.set_cons_zero, List.set_cons_succ, i64_w, i32_w]
        rfl
      refine last_ (i := 16) (N := some 44) #[true, true, true, true, true, true, true, true, true, true, true, true, true, true, true, true, true] rfl rfl (by kernel_rfl) (by decide) (fun K hK => ?_)
      refine value_ (by rfl) rfl (exec_copy 22 22 _ _ (.slice (some ⟨gl2, wi * 64, none⟩) 64 64) (.slice (some ⟨b, 1, none⟩) cN 64) _ rfl (by rfl) (by rfl) (HCP.out _)) ?_
      refine hK.out _ _ ?_
      clear hK K
      refine norm_ (a' := ?_) ?_ ?_
      rotate_left
      · show Act.put _ (some 44) _ = _
        simp only [Act.put, List.setIfInBounds_toArray, List.set_cons_zero, List.set_cons_succ, i64_w, i32_w]
        rfl
      refine done_ (by kernel_rfl) ?_
      have hput := (HI.out.mem.below (below_drew (Below.refl _ _))).putTorn wi wb cN (by show wi < (crL d ks pre).length; rw [HW.out.2.2.1]; exact HW.out.1.1) HW.out.1.2 HCN.out.2.2.2
      have hk := hput.2
      have hg : V.drew.grownBy (V.drew.setCells gl2 (wi * 64) ((bts wb).take cN)) (some gl2) := ⟨hk.os, hk.tape, hk.output, hk.size, fun k hlt hne => hk.block k hlt (fun e => hne (by rw [e]))⟩
      have e : crL d ks (pre ++ [x]) = torn (crL d ks pre) (wi, wb) cN := by
        rw [crL_snoc, crStep, if_pos HCN.out.1, HW.out.2.1, HCN.out.2.1, HCN.out.2.2.1]
      refine ⟨?_, ?_, ?_⟩
      · exact (KeepsFrom.of_grownBy (row := none) (show V.grownBy V.drew none from ⟨rfl, rfl, rfl, Nat.le_refl _, fun _ _ _ => rfl⟩) (fun j e => by cases e)).trans (KeepsFrom.of_grownBy hg (fun j e => by cases e; have := HSZ.out; omega))
      · exact (Kp.of_below (below_drew (Below.refl _ _))).trans hk (fun q _ hq => by rw [hq]; have := HSZ.out; have := HSZ1.out; show _ ≤ _; omega)
      · refine ⟨by rw [e]; exact hput.1, ?_, ?_, ?_, Nat.le_trans HI.out.sz hk.size⟩
        · exact hk.blk (k := W.heap.size) HI.out.box (fun e => by have := HSZ.out; have := HSZ1.out; omega)
        · exact hk.blk (k := w2.heap.size + 1) HI.out.out (fun e => by have := HSZ.out; omega)
        · exact HI.out.kp.trans ((Kp.of_below (F := fun k => k = gl2) (below_drew (Below.refl _ _))).trans hk (fun q _ hq => hq)) (fun q _ hq => by rw [hq]; have := HSZ.out; have := HSZ1.out; show _ ≤ _; omega)
    · have e1 : decide (((x.val : Nat) : Int) < (ks.length : Int)) = false := decide_eq_false (by omega)
      have e2 : (((x.val : Nat) : Int) < (ks.length : Int)) = False := eq_false (by omega)
      have e3 : (x.val < ks.length) = False := eq_false hk
      have HKN := Aside0.mk hk
      clear hk
      gi_wp2
      refine ⟨KeepsFrom.refl _ _, Kp.refl _ _, ?_⟩
      have e : crL d ks (pre ++ [x]) = crL d ks pre := by
        rw [crL_snoc, crStep, if_neg HKN.out]
      exact ⟨by rw [e]; exact HI.out.mem, HI.out.box, HI.out.out, HI.out.kp, HI.out.sz⟩
  case done =>
    rintro D ys V hD rfl hI hK
    have hM := hI.mem
    rw [crL_all] at hM
    have hc2 : V.cell? ⟨w2.heap.size + 1, 0, none⟩ = some (.pointer (some ⟨w2.heap.size, 0, none⟩)) := (blk_cell hI.out 0).trans rfl
    have HI := Aside0.mk hI
    have HMM := Aside0.mk hM
    clear hI hM
    go_wp2
    refine ⟨by simp, .inl ⟨_, _, rfl, run_takeDeferred hK, ?_⟩⟩
    refine ⟨_, results_tmp2 rfl _ _ _, w2.heap.size, rfl, ⟨gl2, cl2, .slice none 0 0, ?_⟩, ?_⟩
    · exact (HMM.out.move (fun k hk hlt => (grownBy_putObj' V D (.deferred none)).block k hlt (fun e => by injection e with e; have := HSZ.out; rcases hk with rfl | rfl <;> omega))).mono (fun k hk => by have := HSZ.out; have := HSZ1.out; rcases hk with rfl | rfl <;> omega)
    · exact (HI.out.kp.below (Nat.le_refl _) (fun k hk h => by omega)).trans (Kp.below (Kp.of_grown (F := fun k => k = D) (grownBy_putObj' V D (.deferred none)) (fun q hq => by injection hq with hq; exact hq.symm)) HI.out.kp.size (fun k hk e => by omega))
  case stop =>
    rintro D c pre V _ _ h _
    exact h.elim
end Go.Proofs.Ytckbdckeijanlaa.G
