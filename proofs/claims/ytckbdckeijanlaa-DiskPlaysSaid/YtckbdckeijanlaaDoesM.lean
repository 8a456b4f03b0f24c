/- Chapter 17: does, over a disk and the reference's: flush. By hand. -/
import Derived.Test.YtckbdckeijanlaaHAlike
namespace Go.Proofs.Ytckbdckeijanlaa.G
open Go.RowKit Go.Shelf Go.Proofs.YtckbdckeijanlaaW.PrintWords Go.Proofs.YtckbdckeijanlaaW.PrintLast Go.Proofs.YtckbdckeijanlaaW.PrintMore Go.Proofs.Ytckbdckeijanlaa.Dsk
set_option linter.unusedVariables false
set_option linter.unusedSimpArgs false
/-- A disk and the reference's, apart, beyond a world's first blocks. -/
structure Two (w : World) (F1 F2 : Nat → Prop) (g1 g2 : Nat) (d1 d2 : Dk) (W : World) : Prop where
  d1 : Disk F1 g1 d1 W
  d2 : RDisk F2 g2 d2 W
  fr : Fr w W
  f1 : ∀ k, F1 k → w.heap.size ≤ k ∧ ¬ F2 k
  f2 : ∀ k, F2 k → w.heap.size ≤ k
theorem Two.below {w W W' : World} {F1 F2 : Nat → Prop} {g1 g2 : Nat} {d1 d2 : Dk} (h : Two w F1 F2 g1 g2 d1 d2 W) (hb : Below W.heap.size W W') : Two w F1 F2 g1 g2 d1 d2 W' :=
  ⟨h.d1.below hb, h.d2.below hb, h.fr.then_below hb, h.f1, h.f2⟩
theorem Two.kp {w W W' : World} {F1 F2 G : Nat → Prop} {g1 g2 : Nat} {d1 d2 : Dk} (h : Two w F1 F2 g1 g2 d1 d2 W) (hk : Kp G W W') (hG : ∀ k, G k → w.heap.size ≤ k ∧ ¬ F1 k ∧ ¬ F2 k) : Two w F1 F2 g1 g2 d1 d2 W' :=
  ⟨h.d1.kp hk (fun k hf hg => (hG k hg).2.1 hf), h.d2.kp hk (fun k hf hg => (hG k hg).2.2 hf), h.fr.then_kp hk (fun k hg => (hG k hg).1), h.f1, h.f2⟩
theorem Two.op1 {w W w' : World} {F1 F2 : Nat → Prop} {g1 g2 : Nat} {d1 d2 d' : Dk} {c : Int} {e : Ending} (h : Two w F1 F2 g1 g2 d1 d2 W) (ho : OpPost F1 g1 d' c W e w') : e = .returned (.int .i64 c) ∧ ∃ F', Two w F' F2 g1 g2 d' d2 w' ∧ Kp F1 W w' ∧ ∀ k, F' k → F1 k ∨ W.heap.size ≤ k := by
  obtain ⟨he, F', hD, hF, hK⟩ := ho
  exact ⟨he, F', ⟨hD, h.d2.kp hK (fun k h2 h1 => (h.f1 k h1).2 h2), h.fr.then_kp hK (fun k hk => (h.f1 k hk).1), fun k hk => (hF k hk).elim (h.f1 k) (fun q => ⟨Nat.le_trans h.fr.size q, fun h2 => by have := h.d2.2 k h2; omega⟩), h.f2⟩, hK, hF⟩
theorem Two.op2 {w W w' : World} {F1 F2 : Nat → Prop} {g1 g2 : Nat} {d1 d2 d' : Dk} {c : Int} {e : Ending} (h : Two w F1 F2 g1 g2 d1 d2 W) (ho : ROp F2 g2 d' c W e w') : e = .returned (.int .i64 c) ∧ ∃ F', Two w F1 F' g1 g2 d1 d' w' ∧ Kp F2 W w' ∧ ∀ k, F' k → F2 k ∨ W.heap.size ≤ k := by
  obtain ⟨he, F', hD, hF, hK⟩ := ho
  exact ⟨he, F', ⟨h.d1.kp hK (fun k h1 h2 => (h.f1 k h1).2 h2), hD, h.fr.then_kp hK h.f2, fun k hk => ⟨(h.f1 k hk).1, fun h2 => (hF k h2).elim (h.f1 k hk).2 (fun q => by have := h.d1.2 k hk; omega)⟩, fun k hk => (hF k hk).elim (h.f2 k) (fun q => Nat.le_trans h.fr.size q)⟩, hK, hF⟩
theorem Two.call1 {P : Program} {f : FuncId} {args : Array Value} {w W : World} {F1 F2 : Nat → Prop} {g1 g2 : Nat} {d1 d2 d' : Dk} {c : Int} (h : Two w F1 F2 g1 g2 d1 d2 W) (hc : Calls P f args W (OpPost F1 g1 d' c W)) : Calls P f args W fun e w' => e = .returned (.int .i64 c) ∧ ∃ F', Two w F' F2 g1 g2 d' d2 w' ∧ Kp F1 W w' ∧ ∀ k, F' k → F1 k ∨ W.heap.size ≤ k := hc.mono fun e w' ho => h.op1 ho
theorem Two.call2 {P : Program} {f : FuncId} {args : Array Value} {w W : World} {F1 F2 : Nat → Prop} {g1 g2 : Nat} {d1 d2 d' : Dk} {c : Int} (h : Two w F1 F2 g1 g2 d1 d2 W) (hc : Calls P f args W (ROp F2 g2 d' c W)) : Calls P f args W fun e w' => e = .returned (.int .i64 c) ∧ ∃ F', Two w F1 F' g1 g2 d1 d' w' ∧ Kp F2 W w' ∧ ∀ k, F' k → F2 k ∨ W.heap.size ≤ k := hc.mono fun e w' ho => h.op2 ho
/-- What an act comes in with. -/
structure DoIn (w W : World) (F1 F2 : Nat → Prop) (g1 g2 : Nat) (d : Dk) (x : Act17) (B : Option Addr) (cb : Nat) (K : Option Addr) (ck : Nat) : Prop where
  two : Two w F1 F2 g1 g2 d d W
  sm : Small d
  bytes : ∀ V, Below w.heap.size w V → Kd.C (Kd.int .u8) V B x.2.2.2.1.length x.2.2.2.1
  kept : ∀ V, Below w.heap.size w V → Kd.C (Kd.int .i64) V K x.2.2.2.2.length x.2.2.2.2
  keptLe : x.2.2.2.2.length ≤ ck
  short : x.2.2.2.1.length ≤ 140737488355328
  shortK : x.2.2.2.2.length * 8 ≤ 140737488355328
  nlt : x.2.1 < 9223372036854775808
/-- What an act leaves. -/
def DoP (w : World) (d' : Dk) (e : Ending) (w' : World) : Prop := ∃ F1 F2 g1 g2, e = .returned (.tuple #[.pointer (some ⟨g1, 0, none⟩), .pointer (some ⟨g2, 0, none⟩), .bool true]) ∧ Two w F1 F2 g1 g2 d' d' w'
theorem infoU8 : (Try.prog.info? 5).map (fun i => (i.zero, i.size, i.bytes)) = some (some (.int .u8 0), 1, 1) := by kernel_rfl
theorem infoInt : (Try.prog.info? 3).map (fun i => (i.zero, i.size, i.bytes)) = some (some (.int .i64 0), 1, 8) := by kernel_rfl
set_option maxHeartbeats 16000000 in
set_option maxRecDepth 100000 in
theorem does_flush (w W : World) (F1 F2 : Nat → Prop) (g1 g2 : Nat) (d : Dk) (x : Act17) (B : Option Addr) (cb : Nat) (K : Option Addr) (ck : Nat) (h : DoIn w W F1 F2 g1 g2 d x B cb K ck) (hkind : x.1 = 1) :
    Calls Try.prog 24 #[.pointer (some ⟨g1, 0, none⟩), .pointer (some ⟨g2, 0, none⟩), .agg #[.int .i64 x.1, .int .i64 x.2.1, .int .i64 x.2.2.1, .slice B x.2.2.2.1.length cb, .slice K x.2.2.2.2.length ck]] W (DoP w (Dsk.flush d).1) := by
  have HI := Aside0.mk h
  have HT := Aside0.mk h.two
  have HK := Aside0.mk hkind
  clear h hkind
  have hb0 := below_alloc (Below.refl W.heap.size W) (.cells #[.int .i64 x.1, .int .i64 x.2.1, .int .i64 x.2.2.1, .slice B x.2.2.2.1.length cb, .slice K x.2.2.2.2.length ck] 38)
  have hblk0 := blk_new W (.cells #[.int .i64 x.1, .int .i64 x.2.1, .int .i64 x.2.2.1, .slice B x.2.2.2.1.length cb, .slice K x.2.2.2.2.length ck] 38)
  have hsz0 := World.size_alloc W (.cells #[.int .i64 x.1, .int .i64 x.2.1, .int .i64 x.2.2.1, .slice B x.2.2.2.1.length cb, .slice K x.2.2.2.2.length ck] 38)
  go_enter Try.func24, Try.ntmps24
  go_upto_region 1 with (fail)
  obtain ⟨W1, hW1⟩ : ∃ W1, W.alloc (.cells #[.int .i64 x.1, .int .i64 x.2.1, .int .i64 x.2.2.1, .slice B x.2.2.2.1.length cb, .slice K x.2.2.2.2.length ck] 38) = W1 := ⟨_, rfl⟩
  rw [hW1] at hb0 hblk0 hsz0
  rw [hW1]
  have hq3 : (W1.alloc (.cells #[] 5)).cell? ⟨W.heap.size, 3, none⟩ = some (.slice B x.2.2.2.1.length cb) := (blk_cell (blk_alloc hblk0 _) 3).trans rfl
  have HW1 := Aside0.mk (And.intro hb0 (And.intro hblk0 hsz0))
  clear hb0 hblk0 hsz0 hW1
  go_wp2_with (first | ((with_reducible refine gate_builtin (b := .append) (xs := #[.tmp 16, .tmp 18]) rfl ?_); refine of_halt ?_))
  unfold G.Halt
  have hHO : (Kd.int .u8).R 5 (W1.alloc (.cells #[] 5)) W1.heap.size (fun k => W1.heap.size ≤ k) (.slice (some ⟨W1.heap.size, 0, none⟩) 0 0) [] := ⟨fun k hk => by simp [Value.ownBlock] at hk; omega, [], World.ownsRow_lit (base := W1.heap.size) (e := 5) (size := 1) W1 #[] 0 (Nat.le_refl _) (by simp [maxLen]) rfl, Reps.none _ _⟩
  have hHR := HI.out.bytes (W1.alloc (.cells #[] 5)) (HT.out.fr.then_below (HW1.out.1.trans (Below.mono (below_alloc (Below.refl _ _) _) HW1.out.1.size))).below
  refine Kd.R_append_rows (Kd.int .u8) (Rr := (Kd.int .u8).K (W1.alloc (.cells #[] 5))) (w0 := W1) W1.heap.size rfl (.tmp 16) (.tmp 18) 22 5 (.int .u8 0) 1 rfl Try.underlying22 infoU8 rfl (by decide) (by decide) (.slice (some ⟨W1.heap.size, 0, none⟩) 0 0) [] x.2.2.2.1 B x.2.2.2.1.length cb (fun k => W1.heap.size ≤ k) (fun _ => False) rfl rfl hHO hHR (fun x cs h => h) (fun _ hk => hk.elim) (fun k hk => by rw [World.size_alloc] at hk; omega) (below_alloc (Below.refl _ _) _) (by rw [World.size_alloc]; omega) (by have := HI.out.short; simp; omega) ?_
  intro v2 w2 ho2 hb2 hg2 hat2
  rw [List.nil_append] at ho2
  obtain ⟨A2, c2, rfl⟩ := Kd.R_slice ho2
  have hblk2 := (hb2.block _ (blk_lt HW1.out.2.1)).trans HW1.out.2.1
  have HT2 := Aside0.mk (HT.out.below (HW1.out.1.trans (hb2.mono HW1.out.1.size)))
  have hsz2 := hb2.size
  have HW2 := Aside0.mk (And.intro ho2 (And.intro hblk2 (show W.heap.size < W1.heap.size ∧ W1.heap.size ≤ w2.heap.size from ⟨by have := HW1.out.2.2; omega, hb2.size⟩)))
  have hcl : ∀ (V : World), V.heap[W.heap.size]? = some (.cells #[.int .i64 x.1, .int .i64 x.2.1, .int .i64 x.2.2.1, .slice B x.2.2.2.1.length cb, .slice K x.2.2.2.2.length ck] 38 (0, 0)) → V.cell? ⟨W.heap.size, 0, none⟩ = some (.int .i64 x.1) ∧ V.cell? ⟨W.heap.size, 1, none⟩ = some (.int .i64 x.2.1) ∧ V.cell? ⟨W.heap.size, 2, none⟩ = some (.int .i64 x.2.2.1) ∧ V.cell? ⟨W.heap.size, 3, none⟩ = some (.slice B x.2.2.2.1.length cb) ∧ V.cell? ⟨W.heap.size, 4, none⟩ = some (.slice K x.2.2.2.2.length ck) := fun V hv => ⟨(blk_cell hv 0).trans rfl, (blk_cell hv 1).trans rfl, (blk_cell hv 2).trans rfl, (blk_cell hv 3).trans rfl, (blk_cell hv 4).trans rfl⟩
  have HCL := Aside0.mk hcl
  have hq0 := (hcl w2 hblk2).1
  clear ho2 hb2 hg2 hat2 hHO hHR hblk2 hsz2 hq3 hcl
  rw [HK.out] at hq0
  go_wp2_with (first | (go_at_call 13; refine (HT2.out.call1 (Flush_c F1 g1 d w2 HT2.out.d1 HI.out.sm)).mono ?_; rintro e w3 ⟨rfl, F3, hT3, hk3, hF3⟩; refine of_halt ?_))
  unfold G.Halt
  have HT3 := Aside0.mk hT3
  clear hT3 hk3 hF3
  go_wp2_with (first | (go_at_call 31; refine (HT3.out.call2 (RFlush_c F2 g2 d w3 HT3.out.d2 HI.out.sm)).mono ?_; rintro e w4 ⟨rfl, F4, hT4, hk4, hF4⟩; refine of_halt ?_))
  unfold G.Halt
  have HT4 := Aside0.mk hT4
  clear hT4 hk4 hF4
  go_wp2
  go_ret3
  exact ⟨_, _, _, _, rfl, HT4.out⟩
end Go.Proofs.Ytckbdckeijanlaa.G
/- Chapter 17: does, over a disk and the reference's: stop, spoil. By hand. -/
namespace Go.Proofs.Ytckbdckeijanlaa.G
open Go.RowKit Go.Shelf Go.Proofs.YtckbdckeijanlaaW.PrintWords Go.Proofs.YtckbdckeijanlaaW.PrintLast Go.Proofs.YtckbdckeijanlaaW.PrintMore Go.Proofs.Ytckbdckeijanlaa.Dsk
set_option linter.unusedVariables false
set_option linter.unusedSimpArgs false
set_option maxHeartbeats 16000000 in
set_option maxRecDepth 100000 in
theorem does_stop (w W : World) (F1 F2 : Nat → Prop) (g1 g2 : Nat) (d : Dk) (x : Act17) (B : Option Addr) (cb : Nat) (K : Option Addr) (ck : Nat) (h : DoIn w W F1 F2 g1 g2 d x B cb K ck) (hkind : x.1 = 2) :
    Calls Try.prog 24 #[.pointer (some ⟨g1, 0, none⟩), .pointer (some ⟨g2, 0, none⟩), .agg #[.int .i64 x.1, .int .i64 x.2.1, .int .i64 x.2.2.1, .slice B x.2.2.2.1.length cb, .slice K x.2.2.2.2.length ck]] W (DoP w (stop d x.2.1).1) := by
  have HI := Aside0.mk h
  have HT := Aside0.mk h.two
  have HK := Aside0.mk hkind
  clear h hkind
  have hb0 := below_alloc (Below.refl W.heap.size W) (.cells #[.int .i64 x.1, .int .i64 x.2.1, .int .i64 x.2.2.1, .slice B x.2.2.2.1.length cb, .slice K x.2.2.2.2.length ck] 38)
  have hblk0 := blk_new W (.cells #[.int .i64 x.1, .int .i64 x.2.1, .int .i64 x.2.2.1, .slice B x.2.2.2.1.length cb, .slice K x.2.2.2.2.length ck] 38)
  have hsz0 := World.size_alloc W (.cells #[.int .i64 x.1, .int .i64 x.2.1, .int .i64 x.2.2.1, .slice B x.2.2.2.1.length cb, .slice K x.2.2.2.2.length ck] 38)
  go_enter Try.func24, Try.ntmps24
  go_upto_region 1 with (fail)
  obtain ⟨W1, hW1⟩ : ∃ W1, W.alloc (.cells #[.int .i64 x.1, .int .i64 x.2.1, .int .i64 x.2.2.1, .slice B x.2.2.2.1.length cb, .slice K x.2.2.2.2.length ck] 38) = W1 := ⟨_, rfl⟩
  rw [hW1] at hb0 hblk0 hsz0
  rw [hW1]
  have hq3 : (W1.alloc (.cells #[] 5)).cell? ⟨W.heap.size, 3, none⟩ = some (.slice B x.2.2.2.1.length cb) := (blk_cell (blk_alloc hblk0 _) 3).trans rfl
  have HW1 := Aside0.mk (And.intro hb0 (And.intro hblk0 hsz0))
  clear hb0 hblk0 hsz0 hW1
  go_wp2_with (first | ((with_reducible refine gate_builtin (b := .append) (xs := #[.tmp 16, .tmp 18]) rfl ?_); refine of_halt ?_))
  unfold G.Halt
  have hHO : (Kd.int .u8).R 5 (W1.alloc (.cells #[] 5)) W1.heap.size (fun k => W1.heap.size ≤ k) (.slice (some ⟨W1.heap.size, 0, none⟩) 0 0) [] := ⟨fun k hk => by simp [Value.ownBlock] at hk; omega, [], World.ownsRow_lit (base := W1.heap.size) (e := 5) (size := 1) W1 #[] 0 (Nat.le_refl _) (by simp [maxLen]) rfl, Reps.none _ _⟩
  have hHR := HI.out.bytes (W1.alloc (.cells #[] 5)) (HT.out.fr.then_below (HW1.out.1.trans (Below.mono (below_alloc (Below.refl _ _) _) HW1.out.1.size))).below
  refine Kd.R_append_rows (Kd.int .u8) (Rr := (Kd.int .u8).K (W1.alloc (.cells #[] 5))) (w0 := W1) W1.heap.size rfl (.tmp 16) (.tmp 18) 22 5 (.int .u8 0) 1 rfl Try.underlying22 infoU8 rfl (by decide) (by decide) (.slice (some ⟨W1.heap.size, 0, none⟩) 0 0) [] x.2.2.2.1 B x.2.2.2.1.length cb (fun k => W1.heap.size ≤ k) (fun _ => False) rfl rfl hHO hHR (fun x cs h => h) (fun _ hk => hk.elim) (fun k hk => by rw [World.size_alloc] at hk; omega) (below_alloc (Below.refl _ _) _) (by rw [World.size_alloc]; omega) (by have := HI.out.short; simp; omega) ?_
  intro v2 w2 ho2 hb2 hg2 hat2
  rw [List.nil_append] at ho2
  obtain ⟨A2, c2, rfl⟩ := Kd.R_slice ho2
  have hblk2 := (hb2.block _ (blk_lt HW1.out.2.1)).trans HW1.out.2.1
  have HT2 := Aside0.mk (HT.out.below (HW1.out.1.trans (hb2.mono HW1.out.1.size)))
  have hsz2 := hb2.size
  have HW2 := Aside0.mk (And.intro ho2 (And.intro hblk2 (show W.heap.size < W1.heap.size ∧ W1.heap.size ≤ w2.heap.size from ⟨by have := HW1.out.2.2; omega, hb2.size⟩)))
  have hcl : ∀ (V : World), V.heap[W.heap.size]? = some (.cells #[.int .i64 x.1, .int .i64 x.2.1, .int .i64 x.2.2.1, .slice B x.2.2.2.1.length cb, .slice K x.2.2.2.2.length ck] 38 (0, 0)) → V.cell? ⟨W.heap.size, 0, none⟩ = some (.int .i64 x.1) ∧ V.cell? ⟨W.heap.size, 1, none⟩ = some (.int .i64 x.2.1) ∧ V.cell? ⟨W.heap.size, 2, none⟩ = some (.int .i64 x.2.2.1) ∧ V.cell? ⟨W.heap.size, 3, none⟩ = some (.slice B x.2.2.2.1.length cb) ∧ V.cell? ⟨W.heap.size, 4, none⟩ = some (.slice K x.2.2.2.2.length ck) := fun V hv => ⟨(blk_cell hv 0).trans rfl, (blk_cell hv 1).trans rfl, (blk_cell hv 2).trans rfl, (blk_cell hv 3).trans rfl, (blk_cell hv 4).trans rfl⟩
  have HCL := Aside0.mk hcl
  have hq0 := (hcl w2 hblk2).1
  clear ho2 hb2 hg2 hat2 hHO hHR hblk2 hsz2 hq3 hcl
  rw [HK.out] at hq0
  have HTd := Aside0.mk (HT2.out.below (below_drew (Below.refl _ _)))
  go_upto_region 14 with (fail)
  refine start_ (n := 14) (S := fun w' => w'.cell? ⟨W.heap.size, 1, none⟩ = some (.int .i64 x.2.1)) (ds := [9]) #[false, false, false, false, false, false, false, false, false, false, false, false, false, false] (by kernel_rfl) rfl rfl ((HCL.out _ (blk_drew HW2.out.2.1)).2.1) (fun hHeld => ?_)
  refine pure_ (i := 0) (N := some 64) (v := ?_) (a' := ?_) #[true, false, false, false, false, false, false, false, false, false, false, false, false, false] rfl rfl (by kernel_rfl) (fun _ _ _ h => h) (Or.inl ⟨by rfl, ?_⟩) ?_ ?_
  rotate_left
  · intro w'
    go_simp
    with_reducible rfl
  rotate_left
  · simp only [Act.put, List.setIfInBounds_toArray, List.set_cons_zero, List.set_cons_succ, i64_w, i32_w]
    rfl
  refine pure_ (i := 1) (N := some 65) (v := ?_) (a' := ?_) #[true, true, false, false, false, false, false, false, false, false, false, false, false, false] rfl rfl (by kernel_rfl) (fun _ _ _ h => h) (Or.inl ⟨by rfl, ?_⟩) ?_ ?_
  rotate_left
  · intro w'
    go_simp
    with_reducible rfl
  rotate_left
  · simp only [Act.put, List.setIfInBounds_toArray, List.set_cons_zero, List.set_cons_succ, i64_w, i32_w]
    rfl
  refine pure_ (i := 2) (N := some 66) (v := ?_) (a' := ?_) #[true, true, true, false, false, false, false, false, false, false, false, false, false, false] rfl rfl (by kernel_rfl) (fun _ _ _ h => h) (Or.inl ⟨by rfl, ?_⟩) ?_ ?_
  rotate_left
  · intro w'
    go_simp
    with_reducible rfl
  rotate_left
  · simp only [Act.put, List.setIfInBounds_toArray, List.set_cons_zero, List.set_cons_succ, i64_w, i32_w]
    rfl
  refine pure_ (i := 3) (N := some 67) (v := ?_) (a' := ?_) #[true, true, true, true, false, false, false, false, false, false, false, false, false, false] rfl rfl (by kernel_rfl) (fun _ _ _ h => h) (Or.inl ⟨by rfl, ?_⟩) ?_ ?_
  rotate_left
  · intro w'
    go_simp
    with_reducible rfl
  rotate_left
  · simp only [Act.put, List.setIfInBounds_toArray, List.set_cons_zero, List.set_cons_succ, i64_w, i32_w]
    rfl
  refine pure_ (i := 6) (N := some 70) (v := ?_) (a' := ?_) #[true, true, true, true, false, false, true, false, false, false, false, false, false, false] rfl rfl (by kernel_rfl) (fun _ _ _ h => h) (Or.inl ⟨by rfl, ?_⟩) ?_ ?_
  rotate_left
  · intro w'
    go_simp
    with_reducible rfl
  rotate_left
  · simp only [Act.put, List.setIfInBounds_toArray, List.set_cons_zero, List.set_cons_succ, i64_w, i32_w]
    rfl
  refine pure_ (i := 7) (N := some 71) (v := ?_) (a' := ?_) #[true, true, true, true, false, false, true, true, false, false, false, false, false, false] rfl rfl (by kernel_rfl) (fun _ _ _ h => h) (Or.inl ⟨by rfl, ?_⟩) ?_ ?_
  rotate_left
  · intro w'
    go_simp
    with_reducible rfl
  rotate_left
  · simp only [Act.put, List.setIfInBounds_toArray, List.set_cons_zero, List.set_cons_succ, i64_w, i32_w]
    rfl
  refine take_ (i := 4) (N := some 68) (v := ?_) (a' := ?_) #[true, true, true, true, true, false, true, true, false, false, false, false, false, false] rfl rfl (by kernel_rfl) (fun _ _ _ h => h) (Or.inl ⟨by rfl, ?_⟩) hHeld ?_ ?_
  rotate_left
  · intro w' s0
    go_simp
    with_reducible rfl
  rotate_left
  · simp only [Act.put, List.setIfInBounds_toArray, List.set_cons_zero, List.set_cons_succ, i64_w, i32_w]
    rfl
  refine take_ (i := 8) (N := some 72) (v := ?_) (a' := ?_) #[true, true, true, true, true, false, true, true, true, false, false, false, false, false] rfl rfl (by kernel_rfl) (fun _ _ _ h => h) (Or.inl ⟨by rfl, ?_⟩) hHeld ?_ ?_
  rotate_left
  · intro w' s0
    go_simp
    with_reducible rfl
  rotate_left
  · simp only [Act.put, List.setIfInBounds_toArray, List.set_cons_zero, List.set_cons_succ, i64_w, i32_w]
    rfl
  refine one_ (i := 5) (N := some 69) #[true, true, true, true, true, true, true, true, true, false, false, false, false, false] rfl rfl (by kernel_rfl) (by decide) (fun K hK => ?_)
  refine goes_ Try.func18 (by kernel_rfl) rfl #[.pointer (some ⟨g1, 0, none⟩), .int .i64 x.2.1] (by rfl) rfl rfl (by simp only [List.map_toArray, List.map_cons, List.map_nil]; rfl) ?_
  with_reducible refine (HTd.out.call1 (Stop_c F1 g1 d x.2.1 w2.drew HTd.out.d1 HI.out.nlt)).mono ?_
  rintro e w3 ⟨rfl, F3, hT3, hk3, hF3⟩
  refine ⟨_, rfl, ?_⟩
  have hb3 := hk3.blk (blk_drew HW2.out.2.1) (fun hf => by have := HT.out.d1.2 _ hf; omega)
  have HT3 := Aside0.mk hT3
  clear hT3 hk3 hF3
  refine hK.out _ _ ((HCL.out _ hb3).2.1) (fun hHeld => ?_)
  clear hK K
  refine norm_ (a' := ?_) ?_ ?_
  rotate_left
  · show Act.put _ (some 69) _ = _
    simp only [Act.put, List.setIfInBounds_toArray, List.set_cons_zero, List.set_cons_succ, i64_w, i32_w]
    rfl
  refine last_ (i := 9) (N := some 73) #[true, true, true, true, true, true, true, true, true, true, false, false, false, false] rfl rfl (by kernel_rfl) (by decide) (fun K hK => ?_)
  refine goes_ Try.func32 (by kernel_rfl) rfl #[.pointer (some ⟨g2, 0, none⟩), .int .i64 x.2.1] (by rfl) rfl rfl (by simp only [List.map_toArray, List.map_cons, List.map_nil]; rfl) ?_
  with_reducible refine (HT3.out.call2 (RStop_c F2 g2 d x.2.1 w3 HT3.out.d2)).mono ?_
  rintro e w4 ⟨rfl, F4, hT4, hk4, hF4⟩
  refine ⟨_, rfl, ?_⟩
  have HT4 := Aside0.mk hT4
  clear hT4 hk4 hF4
  refine hK.out _ _ ?_
  clear hK K
  refine norm_ (a' := ?_) ?_ ?_
  rotate_left
  · show Act.put _ (some 73) _ = _
    simp only [Act.put, List.setIfInBounds_toArray, List.set_cons_zero, List.set_cons_succ, i64_w, i32_w]
    rfl
  refine pure_ (i := 10) (N := some 74) (v := ?_) (a' := ?_) #[true, true, true, true, true, true, true, true, true, true, true, false, false, false] rfl rfl (by kernel_rfl) (fun _ _ _ h => h) (Or.inl ⟨by rfl, ?_⟩) ?_ ?_
  rotate_left
  · intro w'
    go_simp
    with_reducible rfl
  rotate_left
  · simp only [Act.put, List.setIfInBounds_toArray, List.set_cons_zero, List.set_cons_succ, i64_w, i32_w]
    rfl
  refine pure_ (i := 11) (N := some 6) (v := ?_) (a' := ?_) #[true, true, true, true, true, true, true, true, true, true, true, true, false, false] rfl rfl (by kernel_rfl) (fun _ _ _ h => h) (Or.inl ⟨by rfl, ?_⟩) ?_ ?_
  rotate_left
  · intro w'
    go_simp
    with_reducible rfl
  rotate_left
  · simp only [Act.put, List.setIfInBounds_toArray, List.set_cons_zero, List.set_cons_succ, i64_w, i32_w]
    rfl
  refine pure_ (i := 12) (N := some 7) (v := ?_) (a' := ?_) #[true, true, true, true, true, true, true, true, true, true, true, true, true, false] rfl rfl (by kernel_rfl) (fun _ _ _ h => h) (Or.inl ⟨by rfl, ?_⟩) ?_ ?_
  rotate_left
  · intro w'
    go_simp
    with_reducible rfl
  rotate_left
  · simp only [Act.put, List.setIfInBounds_toArray, List.set_cons_zero, List.set_cons_succ, i64_w, i32_w]
    rfl
  refine pure_ (i := 13) (N := some 8) (v := ?_) (a' := ?_) #[true, true, true, true, true, true, true, true, true, true, true, true, true, true] rfl rfl (by kernel_rfl) (fun _ _ _ h => h) (Or.inl ⟨by rfl, ?_⟩) ?_ ?_
  rotate_left
  · intro w'
    go_simp
    with_reducible rfl
  rotate_left
  · simp only [Act.put, List.setIfInBounds_toArray, List.set_cons_zero, List.set_cons_succ, i64_w, i32_w]
    rfl
  refine done_ (by kernel_rfl) ?_
  go_wp2
  go_ret3
  exact ⟨_, _, _, _, rfl, HT4.out⟩
set_option maxHeartbeats 16000000 in
set_option maxRecDepth 100000 in
theorem does_spoil (w W : World) (F1 F2 : Nat → Prop) (g1 g2 : Nat) (d : Dk) (x : Act17) (B : Option Addr) (cb : Nat) (K : Option Addr) (ck : Nat) (h : DoIn w W F1 F2 g1 g2 d x B cb K ck) (hkind : x.1 = 3) :
    Calls Try.prog 24 #[.pointer (some ⟨g1, 0, none⟩), .pointer (some ⟨g2, 0, none⟩), .agg #[.int .i64 x.1, .int .i64 x.2.1, .int .i64 x.2.2.1, .slice B x.2.2.2.1.length cb, .slice K x.2.2.2.2.length ck]] W (DoP w (spoil d x.2.1 x.2.2.1 (IntKind.u8.wrap (x.2.2.2.1.length : Int))).1) := by
  have HI := Aside0.mk h
  have HT := Aside0.mk h.two
  have HK := Aside0.mk hkind
  clear h hkind
  have hb0 := below_alloc (Below.refl W.heap.size W) (.cells #[.int .i64 x.1, .int .i64 x.2.1, .int .i64 x.2.2.1, .slice B x.2.2.2.1.length cb, .slice K x.2.2.2.2.length ck] 38)
  have hblk0 := blk_new W (.cells #[.int .i64 x.1, .int .i64 x.2.1, .int .i64 x.2.2.1, .slice B x.2.2.2.1.length cb, .slice K x.2.2.2.2.length ck] 38)
  have hsz0 := World.size_alloc W (.cells #[.int .i64 x.1, .int .i64 x.2.1, .int .i64 x.2.2.1, .slice B x.2.2.2.1.length cb, .slice K x.2.2.2.2.length ck] 38)
  go_enter Try.func24, Try.ntmps24
  go_upto_region 1 with (fail)
  obtain ⟨W1, hW1⟩ : ∃ W1, W.alloc (.cells #[.int .i64 x.1, .int .i64 x.2.1, .int .i64 x.2.2.1, .slice B x.2.2.2.1.length cb, .slice K x.2.2.2.2.length ck] 38) = W1 := ⟨_, rfl⟩
  rw [hW1] at hb0 hblk0 hsz0
  rw [hW1]
  have hq3 : (W1.alloc (.cells #[] 5)).cell? ⟨W.heap.size, 3, none⟩ = some (.slice B x.2.2.2.1.length cb) := (blk_cell (blk_alloc hblk0 _) 3).trans rfl
  have HW1 := Aside0.mk (And.intro hb0 (And.intro hblk0 hsz0))
  clear hb0 hblk0 hsz0 hW1
  go_wp2_with (first | ((with_reducible refine gate_builtin (b := .append) (xs := #[.tmp 16, .tmp 18]) rfl ?_); refine of_halt ?_))
  unfold G.Halt
  have hHO : (Kd.int .u8).R 5 (W1.alloc (.cells #[] 5)) W1.heap.size (fun k => W1.heap.size ≤ k) (.slice (some ⟨W1.heap.size, 0, none⟩) 0 0) [] := ⟨fun k hk => by simp [Value.ownBlock] at hk; omega, [], World.ownsRow_lit (base := W1.heap.size) (e := 5) (size := 1) W1 #[] 0 (Nat.le_refl _) (by simp [maxLen]) rfl, Reps.none _ _⟩
  have hHR := HI.out.bytes (W1.alloc (.cells #[] 5)) (HT.out.fr.then_below (HW1.out.1.trans (Below.mono (below_alloc (Below.refl _ _) _) HW1.out.1.size))).below
  refine Kd.R_append_rows (Kd.int .u8) (Rr := (Kd.int .u8).K (W1.alloc (.cells #[] 5))) (w0 := W1) W1.heap.size rfl (.tmp 16) (.tmp 18) 22 5 (.int .u8 0) 1 rfl Try.underlying22 infoU8 rfl (by decide) (by decide) (.slice (some ⟨W1.heap.size, 0, none⟩) 0 0) [] x.2.2.2.1 B x.2.2.2.1.length cb (fun k => W1.heap.size ≤ k) (fun _ => False) rfl rfl hHO hHR (fun x cs h => h) (fun _ hk => hk.elim) (fun k hk => by rw [World.size_alloc] at hk; omega) (below_alloc (Below.refl _ _) _) (by rw [World.size_alloc]; omega) (by have := HI.out.short; simp; omega) ?_
  intro v2 w2 ho2 hb2 hg2 hat2
  rw [List.nil_append] at ho2
  obtain ⟨A2, c2, rfl⟩ := Kd.R_slice ho2
  have hblk2 := (hb2.block _ (blk_lt HW1.out.2.1)).trans HW1.out.2.1
  have HT2 := Aside0.mk (HT.out.below (HW1.out.1.trans (hb2.mono HW1.out.1.size)))
  have hsz2 := hb2.size
  have HW2 := Aside0.mk (And.intro ho2 (And.intro hblk2 (show W.heap.size < W1.heap.size ∧ W1.heap.size ≤ w2.heap.size from ⟨by have := HW1.out.2.2; omega, hb2.size⟩)))
  have hcl : ∀ (V : World), V.heap[W.heap.size]? = some (.cells #[.int .i64 x.1, .int .i64 x.2.1, .int .i64 x.2.2.1, .slice B x.2.2.2.1.length cb, .slice K x.2.2.2.2.length ck] 38 (0, 0)) → V.cell? ⟨W.heap.size, 0, none⟩ = some (.int .i64 x.1) ∧ V.cell? ⟨W.heap.size, 1, none⟩ = some (.int .i64 x.2.1) ∧ V.cell? ⟨W.heap.size, 2, none⟩ = some (.int .i64 x.2.2.1) ∧ V.cell? ⟨W.heap.size, 3, none⟩ = some (.slice B x.2.2.2.1.length cb) ∧ V.cell? ⟨W.heap.size, 4, none⟩ = some (.slice K x.2.2.2.2.length ck) := fun V hv => ⟨(blk_cell hv 0).trans rfl, (blk_cell hv 1).trans rfl, (blk_cell hv 2).trans rfl, (blk_cell hv 3).trans rfl, (blk_cell hv 4).trans rfl⟩
  have HCL := Aside0.mk hcl
  have hq0 := (hcl w2 hblk2).1
  clear ho2 hb2 hg2 hat2 hHO hHR hblk2 hsz2 hq3 hcl
  rw [HK.out] at hq0
  have HTd := Aside0.mk (HT2.out.below (below_drew (Below.refl _ _)))
  go_upto_region 16 with (fail)
  refine start_ (n := 26) (S := fun w' => w'.cell? ⟨W.heap.size, 1, none⟩ = some (.int .i64 x.2.1) ∧ w'.cell? ⟨W.heap.size, 2, none⟩ = some (.int .i64 x.2.2.1) ∧ w'.cell? ⟨W.heap.size, 3, none⟩ = some (.slice B x.2.2.2.1.length cb)) (ds := [21]) #[false, false, false, false, false, false, false, false, false, false, false, false, false, false, false, false, false, false, false, false, false, false, false, false, false, false] (by kernel_rfl) rfl rfl ⟨(HCL.out _ (blk_drew HW2.out.2.1)).2.1, (HCL.out _ (blk_drew HW2.out.2.1)).2.2.1, (HCL.out _ (blk_drew HW2.out.2.1)).2.2.2.1⟩ (fun hHeld => ?_)
  refine pure_ (i := 0) (N := some 77) (v := ?_) (a' := ?_) #[true, false, false, false, false, false, false, false, false, false, false, false, false, false, false, false, false, false, false, false, false, false, false, false, false, false] rfl rfl (by kernel_rfl) (fun _ _ _ h => h) (Or.inl ⟨by rfl, ?_⟩) ?_ ?_
  rotate_left
  · intro w'
    go_simp
    with_reducible rfl
  rotate_left
  · simp only [Act.put, List.setIfInBounds_toArray, List.set_cons_zero, List.set_cons_succ, i64_w, i32_w]
    rfl
  refine pure_ (i := 1) (N := some 78) (v := ?_) (a' := ?_) #[true, true, false, false, false, false, false, false, false, false, false, false, false, false, false, false, false, false, false, false, false, false, false, false, false, false] rfl rfl (by kernel_rfl) (fun _ _ _ h => h) (Or.inl ⟨by rfl, ?_⟩) ?_ ?_
  rotate_left
  · intro w'
    go_simp
    with_reducible rfl
  rotate_left
  · simp only [Act.put, List.setIfInBounds_toArray, List.set_cons_zero, List.set_cons_succ, i64_w, i32_w]
    rfl
  refine pure_ (i := 2) (N := some 79) (v := ?_) (a' := ?_) #[true, true, true, false, false, false, false, false, false, false, false, false, false, false, false, false, false, false, false, false, false, false, false, false, false, false] rfl rfl (by kernel_rfl) (fun _ _ _ h => h) (Or.inl ⟨by rfl, ?_⟩) ?_ ?_
  rotate_left
  · intro w'
    go_simp
    with_reducible rfl
  rotate_left
  · simp only [Act.put, List.setIfInBounds_toArray, List.set_cons_zero, List.set_cons_succ, i64_w, i32_w]
    rfl
  refine pure_ (i := 3) (N := some 80) (v := ?_) (a' := ?_) #[true, true, true, true, false, false, false, false, false, false, false, false, false, false, false, false, false, false, false, false, false, false, false, false, false, false] rfl rfl (by kernel_rfl) (fun _ _ _ h => h) (Or.inl ⟨by rfl, ?_⟩) ?_ ?_
  rotate_left
  · intro w'
    go_simp
    with_reducible rfl
  rotate_left
  · simp only [Act.put, List.setIfInBounds_toArray, List.set_cons_zero, List.set_cons_succ, i64_w, i32_w]
    rfl
  refine pure_ (i := 5) (N := some 82) (v := ?_) (a' := ?_) #[true, true, true, true, false, true, false, false, false, false, false, false, false, false, false, false, false, false, false, false, false, false, false, false, false, false] rfl rfl (by kernel_rfl) (fun _ _ _ h => h) (Or.inl ⟨by rfl, ?_⟩) ?_ ?_
  rotate_left
  · intro w'
    go_simp
    with_reducible rfl
  rotate_left
  · simp only [Act.put, List.setIfInBounds_toArray, List.set_cons_zero, List.set_cons_succ, i64_w, i32_w]
    rfl
  refine pure_ (i := 7) (N := some 84) (v := ?_) (a' := ?_) #[true, true, true, true, false, true, false, true, false, false, false, false, false, false, false, false, false, false, false, false, false, false, false, false, false, false] rfl rfl (by kernel_rfl) (fun _ _ _ h => h) (Or.inl ⟨by rfl, ?_⟩) ?_ ?_
  rotate_left
  · intro w'
    go_simp
    with_reducible rfl
  rotate_left
  · simp only [Act.put, List.setIfInBounds_toArray, List.set_cons_zero, List.set_cons_succ, i64_w, i32_w]
    rfl
  refine pure_ (i := 12) (N := some 89) (v := ?_) (a' := ?_) #[true, true, true, true, false, true, false, true, false, false, false, false, true, false, false, false, false, false, false, false, false, false, false, false, false, false] rfl rfl (by kernel_rfl) (fun _ _ _ h => h) (Or.inl ⟨by rfl, ?_⟩) ?_ ?_
  rotate_left
  · intro w'
    go_simp
    with_reducible rfl
  rotate_left
  · simp only [Act.put, List.setIfInBounds_toArray, List.set_cons_zero, List.set_cons_succ, i64_w, i32_w]
    rfl
  refine pure_ (i := 13) (N := some 90) (v := ?_) (a' := ?_) #[true, true, true, true, false, true, false, true, false, false, false, false, true, true, false, false, false, false, false, false, false, false, false, false, false, false] rfl rfl (by kernel_rfl) (fun _ _ _ h => h) (Or.inl ⟨by rfl, ?_⟩) ?_ ?_
  rotate_left
  · intro w'
    go_simp
    with_reducible rfl
  rotate_left
  · simp only [Act.put, List.setIfInBounds_toArray, List.set_cons_zero, List.set_cons_succ, i64_w, i32_w]
    rfl
  refine pure_ (i := 15) (N := some 92) (v := ?_) (a' := ?_) #[true, true, true, true, false, true, false, true, false, false, false, false, true, true, false, true, false, false, false, false, false, false, false, false, false, false] rfl rfl (by kernel_rfl) (fun _ _ _ h => h) (Or.inl ⟨by rfl, ?_⟩) ?_ ?_
  rotate_left
  · intro w'
    go_simp
    with_reducible rfl
  rotate_left
  · simp only [Act.put, List.setIfInBounds_toArray, List.set_cons_zero, List.set_cons_succ, i64_w, i32_w]
    rfl
  refine pure_ (i := 17) (N := some 94) (v := ?_) (a' := ?_) #[true, true, true, true, false, true, false, true, false, false, false, false, true, true, false, true, false, true, false, false, false, false, false, false, false, false] rfl rfl (by kernel_rfl) (fun _ _ _ h => h) (Or.inl ⟨by rfl, ?_⟩) ?_ ?_
  rotate_left
  · intro w'
    go_simp
    with_reducible rfl
  rotate_left
  · simp only [Act.put, List.setIfInBounds_toArray, List.set_cons_zero, List.set_cons_succ, i64_w, i32_w]
    rfl
  refine take_ (i := 4) (N := some 81) (v := ?_) (a' := ?_) #[true, true, true, true, true, true, false, true, false, false, false, false, true, true, false, true, false, true, false, false, false, false, false, false, false, false] rfl rfl (by kernel_rfl) (fun _ _ _ h => h) (Or.inl ⟨by rfl, ?_⟩) hHeld ?_ ?_
  rotate_left
  · rintro w' ⟨s0, s1, s2⟩
    go_simp
    with_reducible rfl
  rotate_left
  · simp only [Act.put, List.setIfInBounds_toArray, List.set_cons_zero, List.set_cons_succ, i64_w, i32_w]
    rfl
  refine take_ (i := 6) (N := some 83) (v := ?_) (a' := ?_) #[true, true, true, true, true, true, true, true, false, false, false, false, true, true, false, true, false, true, false, false, false, false, false, false, false, false] rfl rfl (by kernel_rfl) (fun _ _ _ h => h) (Or.inl ⟨by rfl, ?_⟩) hHeld ?_ ?_
  rotate_left
  · rintro w' ⟨s0, s1, s2⟩
    go_simp
    with_reducible rfl
  rotate_left
  · simp only [Act.put, List.setIfInBounds_toArray, List.set_cons_zero, List.set_cons_succ, i64_w, i32_w]
    rfl
  refine take_ (i := 8) (N := some 85) (v := ?_) (a' := ?_) #[true, true, true, true, true, true, true, true, true, false, false, false, true, true, false, true, false, true, false, false, false, false, false, false, false, false] rfl rfl (by kernel_rfl) (fun _ _ _ h => h) (Or.inl ⟨by rfl, ?_⟩) hHeld ?_ ?_
  rotate_left
  · rintro w' ⟨s0, s1, s2⟩
    go_simp
    with_reducible rfl
  rotate_left
  · simp only [Act.put, List.setIfInBounds_toArray, List.set_cons_zero, List.set_cons_succ, i64_w, i32_w]
    rfl
  refine pure_ (i := 9) (N := some 86) (v := ?_) (a' := ?_) #[true, true, true, true, true, true, true, true, true, true, false, false, true, true, false, true, false, true, false, false, false, false, false, false, false, false] rfl rfl (by kernel_rfl) (fun _ _ _ h => h) (Or.inl ⟨by rfl, ?_⟩) ?_ ?_
  rotate_left
  · intro w'
    go_simp
    with_reducible rfl
  rotate_left
  · simp only [Act.put, List.setIfInBounds_toArray, List.set_cons_zero, List.set_cons_succ, i64_w, i32_w]
    rfl
  refine take_ (i := 10) (N := some 87) (v := ?_) (a' := ?_) #[true, true, true, true, true, true, true, true, true, true, true, false, true, true, false, true, false, true, false, false, false, false, false, false, false, false] rfl rfl (by kernel_rfl) (fun _ _ _ h => h) (Or.inl ⟨by rfl, ?_⟩) hHeld ?_ ?_
  rotate_left
  · rintro w' ⟨s0, s1, s2⟩
    go_simp
    with_reducible rfl
  rotate_left
  · simp only [Act.put, List.setIfInBounds_toArray, List.set_cons_zero, List.set_cons_succ, i64_w, i32_w]
    rfl
  refine take_ (i := 14) (N := some 91) (v := ?_) (a' := ?_) #[true, true, true, true, true, true, true, true, true, true, true, false, true, true, true, true, false, true, false, false, false, false, false, false, false, false] rfl rfl (by kernel_rfl) (fun _ _ _ h => h) (Or.inl ⟨by rfl, ?_⟩) hHeld ?_ ?_
  rotate_left
  · rintro w' ⟨s0, s1, s2⟩
    go_simp
    with_reducible rfl
  rotate_left
  · simp only [Act.put, List.setIfInBounds_toArray, List.set_cons_zero, List.set_cons_succ, i64_w, i32_w]
    rfl
  refine take_ (i := 16) (N := some 93) (v := ?_) (a' := ?_) #[true, true, true, true, true, true, true, true, true, true, true, false, true, true, true, true, true, true, false, false, false, false, false, false, false, false] rfl rfl (by kernel_rfl) (fun _ _ _ h => h) (Or.inl ⟨by rfl, ?_⟩) hHeld ?_ ?_
  rotate_left
  · rintro w' ⟨s0, s1, s2⟩
    go_simp
    with_reducible rfl
  rotate_left
  · simp only [Act.put, List.setIfInBounds_toArray, List.set_cons_zero, List.set_cons_succ, i64_w, i32_w]
    rfl
  refine take_ (i := 18) (N := some 95) (v := ?_) (a' := ?_) #[true, true, true, true, true, true, true, true, true, true, true, false, true, true, true, true, true, true, true, false, false, false, false, false, false, false] rfl rfl (by kernel_rfl) (fun _ _ _ h => h) (Or.inl ⟨by rfl, ?_⟩) hHeld ?_ ?_
  rotate_left
  · rintro w' ⟨s0, s1, s2⟩
    go_simp
    with_reducible rfl
  rotate_left
  · simp only [Act.put, List.setIfInBounds_toArray, List.set_cons_zero, List.set_cons_succ, i64_w, i32_w]
    rfl
  refine pure_ (i := 19) (N := some 96) (v := ?_) (a' := ?_) #[true, true, true, true, true, true, true, true, true, true, true, false, true, true, true, true, true, true, true, true, false, false, false, false, false, false] rfl rfl (by kernel_rfl) (fun _ _ _ h => h) (Or.inl ⟨by rfl, ?_⟩) ?_ ?_
  rotate_left
  · intro w'
    go_simp
    with_reducible rfl
  rotate_left
  · simp only [Act.put, List.setIfInBounds_toArray, List.set_cons_zero, List.set_cons_succ, i64_w, i32_w]
    rfl
  refine take_ (i := 20) (N := some 97) (v := ?_) (a' := ?_) #[true, true, true, true, true, true, true, true, true, true, true, false, true, true, true, true, true, true, true, true, true, false, false, false, false, false] rfl rfl (by kernel_rfl) (fun _ _ _ h => h) (Or.inl ⟨by rfl, ?_⟩) hHeld ?_ ?_
  rotate_left
  · rintro w' ⟨s0, s1, s2⟩
    go_simp
    with_reducible rfl
  rotate_left
  · simp only [Act.put, List.setIfInBounds_toArray, List.set_cons_zero, List.set_cons_succ, i64_w, i32_w]
    rfl
  refine one_ (i := 11) (N := some 88) #[true, true, true, true, true, true, true, true, true, true, true, true, true, true, true, true, true, true, true, true, true, false, false, false, false, false] rfl rfl (by kernel_rfl) (by decide) (fun K hK => ?_)
  refine goes_ Try.func20 (by kernel_rfl) rfl #[.pointer (some ⟨g1, 0, none⟩), .int .i64 x.2.1, .int .i64 x.2.2.1, .int .u8 (IntKind.u8.wrap (x.2.2.2.1.length : Int))] (by rfl) rfl rfl (by simp only [List.map_toArray, List.map_cons, List.map_nil]; rfl) ?_
  with_reducible refine (HTd.out.call1 (Spoil_c F1 g1 d x.2.1 x.2.2.1 (IntKind.u8.wrap (x.2.2.2.1.length : Int)) w2.drew HTd.out.d1)).mono ?_
  rintro e w3 ⟨rfl, F3, hT3, hk3, hF3⟩
  refine ⟨_, rfl, ?_⟩
  have hb3 := hk3.blk (blk_drew HW2.out.2.1) (fun hf => by have := HT.out.d1.2 _ hf; omega)
  have HT3 := Aside0.mk hT3
  clear hT3 hk3 hF3
  refine hK.out _ _ ⟨(HCL.out _ hb3).2.1, (HCL.out _ hb3).2.2.1, (HCL.out _ hb3).2.2.2.1⟩ (fun hHeld => ?_)
  clear hK K
  refine norm_ (a' := ?_) ?_ ?_
  rotate_left
  · show Act.put _ (some 88) _ = _
    simp only [Act.put, List.setIfInBounds_toArray, List.set_cons_zero, List.set_cons_succ, i64_w, i32_w]
    rfl
  refine last_ (i := 21) (N := some 98) #[true, true, true, true, true, true, true, true, true, true, true, true, true, true, true, true, true, true, true, true, true, true, false, false, false, false] rfl rfl (by kernel_rfl) (by decide) (fun K hK => ?_)
  refine goes_ Try.func33 (by kernel_rfl) rfl #[.pointer (some ⟨g2, 0, none⟩), .int .i64 x.2.1, .int .i64 x.2.2.1, .int .u8 (IntKind.u8.wrap (x.2.2.2.1.length : Int))] (by rfl) rfl rfl (by simp only [List.map_toArray, List.map_cons, List.map_nil]; rfl) ?_
  with_reducible refine (HT3.out.call2 (RSpoil_c F2 g2 d x.2.1 x.2.2.1 (IntKind.u8.wrap (x.2.2.2.1.length : Int)) w3 HT3.out.d2)).mono ?_
  rintro e w4 ⟨rfl, F4, hT4, hk4, hF4⟩
  refine ⟨_, rfl, ?_⟩
  have HT4 := Aside0.mk hT4
  clear hT4 hk4 hF4
  refine hK.out _ _ ?_
  clear hK K
  refine norm_ (a' := ?_) ?_ ?_
  rotate_left
  · show Act.put _ (some 98) _ = _
    simp only [Act.put, List.setIfInBounds_toArray, List.set_cons_zero, List.set_cons_succ, i64_w, i32_w]
    rfl
  refine pure_ (i := 22) (N := some 99) (v := ?_) (a' := ?_) #[true, true, true, true, true, true, true, true, true, true, true, true, true, true, true, true, true, true, true, true, true, true, true, false, false, false] rfl rfl (by kernel_rfl) (fun _ _ _ h => h) (Or.inl ⟨by rfl, ?_⟩) ?_ ?_
  rotate_left
  · intro w'
    go_simp
    with_reducible rfl
  rotate_left
  · simp only [Act.put, List.setIfInBounds_toArray, List.set_cons_zero, List.set_cons_succ, i64_w, i32_w]
    rfl
  refine pure_ (i := 23) (N := some 6) (v := ?_) (a' := ?_) #[true, true, true, true, true, true, true, true, true, true, true, true, true, true, true, true, true, true, true, true, true, true, true, true, false, false] rfl rfl (by kernel_rfl) (fun _ _ _ h => h) (Or.inl ⟨by rfl, ?_⟩) ?_ ?_
  rotate_left
  · intro w'
    go_simp
    with_reducible rfl
  rotate_left
  · simp only [Act.put, List.setIfInBounds_toArray, List.set_cons_zero, List.set_cons_succ, i64_w, i32_w]
    rfl
  refine pure_ (i := 24) (N := some 7) (v := ?_) (a' := ?_) #[true, true, true, true, true, true, true, true, true, true, true, true, true, true, true, true, true, true, true, true, true, true, true, true, true, false] rfl rfl (by kernel_rfl) (fun _ _ _ h => h) (Or.inl ⟨by rfl, ?_⟩) ?_ ?_
  rotate_left
  · intro w'
    go_simp
    with_reducible rfl
  rotate_left
  · simp only [Act.put, List.setIfInBounds_toArray, List.set_cons_zero, List.set_cons_succ, i64_w, i32_w]
    rfl
  refine pure_ (i := 25) (N := some 8) (v := ?_) (a' := ?_) #[true, true, true, true, true, true, true, true, true, true, true, true, true, true, true, true, true, true, true, true, true, true, true, true, true, true] rfl rfl (by kernel_rfl) (fun _ _ _ h => h) (Or.inl ⟨by rfl, ?_⟩) ?_ ?_
  rotate_left
  · intro w'
    go_simp
    with_reducible rfl
  rotate_left
  · simp only [Act.put, List.setIfInBounds_toArray, List.set_cons_zero, List.set_cons_succ, i64_w, i32_w]
    rfl
  refine done_ (by kernel_rfl) ?_
  go_wp2
  go_ret3
  exact ⟨_, _, _, _, rfl, HT4.out⟩
end Go.Proofs.Ytckbdckeijanlaa.G
/- Chapter 17: does, over a disk and the reference's: write. By hand. -/
namespace Go.Proofs.Ytckbdckeijanlaa.G
open Go.RowKit Go.Shelf Go.Proofs.YtckbdckeijanlaaW.PrintWords Go.Proofs.YtckbdckeijanlaaW.PrintLast Go.Proofs.YtckbdckeijanlaaW.PrintMore Go.Proofs.Ytckbdckeijanlaa.Dsk
set_option linter.unusedVariables false
set_option linter.unusedSimpArgs false
set_option maxHeartbeats 16000000 in
set_option maxRecDepth 100000 in
theorem does_write (w W : World) (F1 F2 : Nat → Prop) (g1 g2 : Nat) (d : Dk) (x : Act17) (B : Option Addr) (cb : Nat) (K : Option Addr) (ck : Nat) (h : DoIn w W F1 F2 g1 g2 d x B cb K ck) (hkind : x.1 = 0) :
    Calls Try.prog 24 #[.pointer (some ⟨g1, 0, none⟩), .pointer (some ⟨g2, 0, none⟩), .agg #[.int .i64 x.1, .int .i64 x.2.1, .int .i64 x.2.2.1, .slice B x.2.2.2.1.length cb, .slice K x.2.2.2.2.length ck]] W (DoP w (write d x.2.1 x.2.2.2.1).1) := by
  have HI := Aside0.mk h
  have HT := Aside0.mk h.two
  have HK := Aside0.mk hkind
  clear h hkind
  have hb0 := below_alloc (Below.refl W.heap.size W) (.cells #[.int .i64 x.1, .int .i64 x.2.1, .int .i64 x.2.2.1, .slice B x.2.2.2.1.length cb, .slice K x.2.2.2.2.length ck] 38)
  have hblk0 := blk_new W (.cells #[.int .i64 x.1, .int .i64 x.2.1, .int .i64 x.2.2.1, .slice B x.2.2.2.1.length cb, .slice K x.2.2.2.2.length ck] 38)
  have hsz0 := World.size_alloc W (.cells #[.int .i64 x.1, .int .i64 x.2.1, .int .i64 x.2.2.1, .slice B x.2.2.2.1.length cb, .slice K x.2.2.2.2.length ck] 38)
  go_enter Try.func24, Try.ntmps24
  go_upto_region 1 with (fail)
  obtain ⟨W1, hW1⟩ : ∃ W1, W.alloc (.cells #[.int .i64 x.1, .int .i64 x.2.1, .int .i64 x.2.2.1, .slice B x.2.2.2.1.length cb, .slice K x.2.2.2.2.length ck] 38) = W1 := ⟨_, rfl⟩
  rw [hW1] at hb0 hblk0 hsz0
  rw [hW1]
  have hq3 : (W1.alloc (.cells #[] 5)).cell? ⟨W.heap.size, 3, none⟩ = some (.slice B x.2.2.2.1.length cb) := (blk_cell (blk_alloc hblk0 _) 3).trans rfl
  have HW1 := Aside0.mk (And.intro hb0 (And.intro hblk0 hsz0))
  clear hb0 hblk0 hsz0 hW1
  go_wp2_with (first | ((with_reducible refine gate_builtin (b := .append) (xs := #[.tmp 16, .tmp 18]) rfl ?_); refine of_halt ?_))
  unfold G.Halt
  have hHO : (Kd.int .u8).R 5 (W1.alloc (.cells #[] 5)) W1.heap.size (fun k => W1.heap.size ≤ k) (.slice (some ⟨W1.heap.size, 0, none⟩) 0 0) [] := ⟨fun k hk => by simp [Value.ownBlock] at hk; omega, [], World.ownsRow_lit (base := W1.heap.size) (e := 5) (size := 1) W1 #[] 0 (Nat.le_refl _) (by simp [maxLen]) rfl, Reps.none _ _⟩
  have hHR := HI.out.bytes (W1.alloc (.cells #[] 5)) (HT.out.fr.then_below (HW1.out.1.trans (Below.mono (below_alloc (Below.refl _ _) _) HW1.out.1.size))).below
  refine Kd.R_append_rows (Kd.int .u8) (Rr := (Kd.int .u8).K (W1.alloc (.cells #[] 5))) (w0 := W1) W1.heap.size rfl (.tmp 16) (.tmp 18) 22 5 (.int .u8 0) 1 rfl Try.underlying22 infoU8 rfl (by decide) (by decide) (.slice (some ⟨W1.heap.size, 0, none⟩) 0 0) [] x.2.2.2.1 B x.2.2.2.1.length cb (fun k => W1.heap.size ≤ k) (fun _ => False) rfl rfl hHO hHR (fun x cs h => h) (fun _ hk => hk.elim) (fun k hk => by rw [World.size_alloc] at hk; omega) (below_alloc (Below.refl _ _) _) (by rw [World.size_alloc]; omega) (by have := HI.out.short; simp; omega) ?_
  intro v2 w2 ho2 hb2 hg2 hat2
  rw [List.nil_append] at ho2
  obtain ⟨A2, c2, rfl⟩ := Kd.R_slice ho2
  have hblk2 := (hb2.block _ (blk_lt HW1.out.2.1)).trans HW1.out.2.1
  have HT2 := Aside0.mk (HT.out.below (HW1.out.1.trans (hb2.mono HW1.out.1.size)))
  have hsz2 := hb2.size
  have HW2 := Aside0.mk (And.intro ho2 (And.intro hblk2 (show W.heap.size < W1.heap.size ∧ W1.heap.size ≤ w2.heap.size from ⟨by have := HW1.out.2.2; omega, hb2.size⟩)))
  have hcl : ∀ (V : World), V.heap[W.heap.size]? = some (.cells #[.int .i64 x.1, .int .i64 x.2.1, .int .i64 x.2.2.1, .slice B x.2.2.2.1.length cb, .slice K x.2.2.2.2.length ck] 38 (0, 0)) → V.cell? ⟨W.heap.size, 0, none⟩ = some (.int .i64 x.1) ∧ V.cell? ⟨W.heap.size, 1, none⟩ = some (.int .i64 x.2.1) ∧ V.cell? ⟨W.heap.size, 2, none⟩ = some (.int .i64 x.2.2.1) ∧ V.cell? ⟨W.heap.size, 3, none⟩ = some (.slice B x.2.2.2.1.length cb) ∧ V.cell? ⟨W.heap.size, 4, none⟩ = some (.slice K x.2.2.2.2.length ck) := fun V hv => ⟨(blk_cell hv 0).trans rfl, (blk_cell hv 1).trans rfl, (blk_cell hv 2).trans rfl, (blk_cell hv 3).trans rfl, (blk_cell hv 4).trans rfl⟩
  have HCL := Aside0.mk hcl
  have hq0 := (hcl w2 hblk2).1
  clear ho2 hb2 hg2 hat2 hHO hHR hblk2 hsz2 hq3 hcl
  rw [HK.out] at hq0
  have HTd := Aside0.mk (HT2.out.below (below_drew (Below.refl _ _)))
  have hcv : ∀ V, Below w.heap.size w V → (convert 22 9 (.slice B x.2.2.2.1.length cb)).run Try.prog V = .ok (.string (strOfNums x.2.2.2.1)) V := fun V hV => Kd.C_string Try.underlying22 Try.underlying5 Try.underlying9 (HI.out.bytes V hV)
  have HCV := Aside0.mk hcv
  have HL := Aside0.mk (Kd.C_max (HI.out.bytes W HT.out.fr.below))
  clear hcv
  go_upto_region 4 with (fail)
  refine start_ (n := 14) (S := fun w' => w'.cell? ⟨W.heap.size, 1, none⟩ = some (.int .i64 x.2.1) ∧ w'.cell? ⟨W.heap.size, 3, none⟩ = some (.slice B x.2.2.2.1.length cb) ∧ (convert 22 9 (.slice B x.2.2.2.1.length cb)).run Try.prog w' = .ok (.string (strOfNums x.2.2.2.1)) w') (ds := [11]) #[false, false, false, false, false, false, false, false, false, false, false, false, false, false] (by kernel_rfl) rfl rfl ⟨(HCL.out _ (blk_drew HW2.out.2.1)).2.1, (HCL.out _ (blk_drew HW2.out.2.1)).2.2.2.1, HCV.out _ HTd.out.fr.below⟩ (fun hHeld => ?_)
  refine pure_ (i := 0) (N := some 24) (v := ?_) (a' := ?_) #[true, false, false, false, false, false, false, false, false, false, false, false, false, false] rfl rfl (by kernel_rfl) (fun _ _ _ h => h) (Or.inl ⟨by rfl, ?_⟩) ?_ ?_
  rotate_left
  · intro w'
    go_simp
    with_reducible rfl
  rotate_left
  · simp only [Act.put, List.setIfInBounds_toArray, List.set_cons_zero, List.set_cons_succ, i64_w, i32_w]
    rfl
  refine pure_ (i := 1) (N := some 25) (v := ?_) (a' := ?_) #[true, true, false, false, false, false, false, false, false, false, false, false, false, false] rfl rfl (by kernel_rfl) (fun _ _ _ h => h) (Or.inl ⟨by rfl, ?_⟩) ?_ ?_
  rotate_left
  · intro w'
    go_simp
    with_reducible rfl
  rotate_left
  · simp only [Act.put, List.setIfInBounds_toArray, List.set_cons_zero, List.set_cons_succ, i64_w, i32_w]
    rfl
  refine pure_ (i := 3) (N := some 27) (v := ?_) (a' := ?_) #[true, true, false, true, false, false, false, false, false, false, false, false, false, false] rfl rfl (by kernel_rfl) (fun _ _ _ h => h) (Or.inl ⟨by rfl, ?_⟩) ?_ ?_
  rotate_left
  · intro w'
    go_simp
    with_reducible rfl
  rotate_left
  · simp only [Act.put, List.setIfInBounds_toArray, List.set_cons_zero, List.set_cons_succ, i64_w, i32_w]
    rfl
  refine pure_ (i := 5) (N := some 29) (v := ?_) (a' := ?_) #[true, true, false, true, false, true, false, false, false, false, false, false, false, false] rfl rfl (by kernel_rfl) (fun _ _ _ h => h) (Or.inl ⟨by rfl, ?_⟩) ?_ ?_
  rotate_left
  · intro w'
    go_simp
    with_reducible rfl
  rotate_left
  · simp only [Act.put, List.setIfInBounds_toArray, List.set_cons_zero, List.set_cons_succ, i64_w, i32_w]
    rfl
  refine pure_ (i := 6) (N := some 30) (v := ?_) (a' := ?_) #[true, true, false, true, false, true, true, false, false, false, false, false, false, false] rfl rfl (by kernel_rfl) (fun _ _ _ h => h) (Or.inl ⟨by rfl, ?_⟩) ?_ ?_
  rotate_left
  · intro w'
    go_simp
    with_reducible rfl
  rotate_left
  · simp only [Act.put, List.setIfInBounds_toArray, List.set_cons_zero, List.set_cons_succ, i64_w, i32_w]
    rfl
  refine pure_ (i := 8) (N := some 32) (v := ?_) (a' := ?_) #[true, true, false, true, false, true, true, false, true, false, false, false, false, false] rfl rfl (by kernel_rfl) (fun _ _ _ h => h) (Or.inl ⟨by rfl, ?_⟩) ?_ ?_
  rotate_left
  · intro w'
    go_simp
    with_reducible rfl
  rotate_left
  · simp only [Act.put, List.setIfInBounds_toArray, List.set_cons_zero, List.set_cons_succ, i64_w, i32_w]
    rfl
  refine take_ (i := 2) (N := some 26) (v := ?_) (a' := ?_) #[true, true, true, true, false, true, true, false, true, false, false, false, false, false] rfl rfl (by kernel_rfl) (fun _ _ _ h => h) (Or.inl ⟨by rfl, ?_⟩) hHeld ?_ ?_
  rotate_left
  · rintro w' ⟨s0, s1, s2⟩
    go_simp
    with_reducible rfl
  rotate_left
  · simp only [Act.put, List.setIfInBounds_toArray, List.set_cons_zero, List.set_cons_succ, i64_w, i32_w]
    rfl
  refine take_ (i := 7) (N := some 31) (v := ?_) (a' := ?_) #[true, true, true, true, false, true, true, true, true, false, false, false, false, false] rfl rfl (by kernel_rfl) (fun _ _ _ h => h) (Or.inl ⟨by rfl, ?_⟩) hHeld ?_ ?_
  rotate_left
  · rintro w' ⟨s0, s1, s2⟩
    go_simp
    with_reducible rfl
  rotate_left
  · simp only [Act.put, List.setIfInBounds_toArray, List.set_cons_zero, List.set_cons_succ, i64_w, i32_w]
    rfl
  refine take_ (i := 9) (N := some 33) (v := ?_) (a' := ?_) #[true, true, true, true, false, true, true, true, true, true, false, false, false, false] rfl rfl (by kernel_rfl) (fun _ _ _ h => h) (Or.inl ⟨by rfl, ?_⟩) hHeld ?_ ?_
  rotate_left
  · rintro w' ⟨s0, s1, s2⟩
    go_simp
    with_reducible rfl
  rotate_left
  · simp only [Act.put, List.setIfInBounds_toArray, List.set_cons_zero, List.set_cons_succ, i64_w, i32_w]
    rfl
  refine take_ (i := 10) (N := some 34) (v := ?_) (a' := ?_) #[true, true, true, true, false, true, true, true, true, true, true, false, false, false] rfl rfl (by kernel_rfl) (fun _ _ _ h => h) (Or.inl ⟨by rfl, ?_⟩) hHeld ?_ ?_
  rotate_left
  · rintro w' ⟨s0, s1, s2⟩
    go_simp
    with_reducible rfl
  rotate_left
  · simp only [Act.put, List.setIfInBounds_toArray, List.set_cons_zero, List.set_cons_succ, i64_w, i32_w]
    rfl
  refine one_ (i := 4) (N := some 28) #[true, true, true, true, true, true, true, true, true, true, true, false, false, false] rfl rfl (by kernel_rfl) (by decide) (fun K hK => ?_)
  refine goes_ Try.func12 (by kernel_rfl) rfl #[.pointer (some ⟨g1, 0, none⟩), .int .i64 x.2.1, .slice A2 x.2.2.2.1.length c2] (by rfl) rfl rfl (by simp only [List.map_toArray, List.map_cons, List.map_nil]; rfl) ?_
  with_reducible refine (HTd.out.call1 (Write_c F1 g1 d x.2.1 A2 x.2.2.2.1.length c2 x.2.2.2.1 w2.drew HTd.out.d1 HI.out.sm (Kd.R_reads' (Kd.R_drew HW2.out.1)).2.2)).mono ?_
  rintro e w3 ⟨rfl, F3, hT3, hk3, hF3⟩
  refine ⟨_, rfl, ?_⟩
  have hb3 := hk3.blk (blk_drew HW2.out.2.1) (fun hf => by have := HT.out.d1.2 _ hf; omega)
  have HT3 := Aside0.mk hT3
  have HK3 := Aside0.mk (And.intro hk3 hF3)
  clear hT3 hk3 hF3
  refine hK.out _ _ ⟨(HCL.out _ hb3).2.1, (HCL.out _ hb3).2.2.2.1, HCV.out _ HT3.out.fr.below⟩ (fun hHeld => ?_)
  clear hK K
  refine norm_ (a' := ?_) ?_ ?_
  rotate_left
  · show Act.put _ (some 28) _ = _
    simp only [Act.put, List.setIfInBounds_toArray, List.set_cons_zero, List.set_cons_succ, i64_w, i32_w]
    rfl
  refine last_ (i := 11) (N := some 35) #[true, true, true, true, true, true, true, true, true, true, true, true, false, false] rfl rfl (by kernel_rfl) (by decide) (fun K hK => ?_)
  refine goes_ Try.func30 (by kernel_rfl) rfl #[.pointer (some ⟨g2, 0, none⟩), .int .i64 x.2.1, .string (strOfNums x.2.2.2.1)] (by rfl) rfl rfl (by simp only [List.map_toArray, List.map_cons, List.map_nil]; rfl) ?_
  with_reducible refine (HT3.out.call2 (RWrite_c F2 g2 d x.2.1 x.2.2.2.1 w3 HT3.out.d2 HI.out.sm)).mono ?_
  rintro e w4 ⟨rfl, F4, hT4, hk4, hF4⟩
  refine ⟨_, rfl, ?_⟩
  have HT4 := Aside0.mk hT4
  have HK4 := Aside0.mk (And.intro hk4 hF4)
  clear hT4 hk4 hF4
  refine hK.out _ _ ?_
  clear hK K
  refine norm_ (a' := ?_) ?_ ?_
  rotate_left
  · show Act.put _ (some 35) _ = _
    simp only [Act.put, List.setIfInBounds_toArray, List.set_cons_zero, List.set_cons_succ, i64_w, i32_w]
    rfl
  refine pure_ (i := 12) (N := some 10) (v := ?_) (a' := ?_) #[true, true, true, true, true, true, true, true, true, true, true, true, true, false] rfl rfl (by kernel_rfl) (fun _ _ _ h => h) (Or.inl ⟨by rfl, ?_⟩) ?_ ?_
  rotate_left
  · intro w'
    go_simp
    with_reducible rfl
  rotate_left
  · simp only [Act.put, List.setIfInBounds_toArray, List.set_cons_zero, List.set_cons_succ, i64_w, i32_w]
    rfl
  refine pure_ (i := 13) (N := some 11) (v := ?_) (a' := ?_) #[true, true, true, true, true, true, true, true, true, true, true, true, true, true] rfl rfl (by kernel_rfl) (fun _ _ _ h => h) (Or.inl ⟨by rfl, ?_⟩) ?_ ?_
  rotate_left
  · intro w'
    go_simp
    with_reducible rfl
  rotate_left
  · simp only [Act.put, List.setIfInBounds_toArray, List.set_cons_zero, List.set_cons_succ, i64_w, i32_w]
    rfl
  refine done_ (by kernel_rfl) ?_
  have hrow4 := Kp.R HK4.out.1 (Kp.R HK3.out.1 (Kd.R_drew HW2.out.1) (fun k hk hf => by have := HT.out.d1.2 _ hf; have := HW2.out.2.2.1; omega)) (fun k hk hf => by have := HT.out.d2.2 _ hf; have := HW2.out.2.2.1; omega)
  have HSEP := Aside0.mk (show ∀ k, (Value.slice A2 x.2.2.2.1.length c2).ownBlock = some k → w.heap.size ≤ k ∧ ¬ F3 k ∧ ¬ F4 k from fun k hk => by
    have h1 := Kd.R_base HW2.out.1 k hk
    have h2 := Kd.R_lt HW2.out.1 k hk
    have h3 := HT.out.fr.size
    have h4 := HW2.out.2.2.1
    refine ⟨by omega, fun hf => ?_, fun hf => ?_⟩
    · rcases HK3.out.2 k hf with q | q
      · have := HT.out.d1.2 k q; omega
      · have : w2.heap.size ≤ k := q; omega
    · rcases HK4.out.2 k hf with q | q
      · have := HT.out.d2.2 k q; omega
      · have h5 := HK3.out.1.size; have : w2.heap.size ≤ w3.heap.size := h5; omega)
  have HR4 := Aside0.mk (And.intro hrow4 HT4.out)
  clear hrow4 hb3
  go_wp2
  go_loopg [38] (x.2.2.2.1.length + 1) (fun kq v38 w' => ∃ j : Nat, v38 = .int .i64 (j : Int) ∧ Aside0 (j ≤ x.2.2.2.1.length ∧ kq + j = x.2.2.2.1.length + 1) ∧ Aside0 (∃ ys : List Int, ys.length = x.2.2.2.1.length ∧ Kd.R (Kd.int .u8) 5 w' W1.heap.size (fun k => W1.heap.size ≤ k) (.slice A2 x.2.2.2.1.length c2) ys ∧ Two w F3 F4 g1 g2 (write d x.2.1 x.2.2.2.1).1 (write d x.2.1 x.2.2.2.1).1 w'))
  case atStart => exact ⟨0, rfl, ⟨by omega⟩, ⟨_, rfl, HR4.out⟩⟩
  case round =>
    obtain ⟨j, rfl, HJ, HY⟩ := hrel
    by_cases hj : j < x.2.2.2.1.length
    · obtain ⟨ys, hyl, hyR, hyT⟩ := HY.out
      obtain ⟨gy, cy, hv, _⟩ := Kd.R_form hyR (by omega)
      injection hv with hA2 hn2 hc2
      clear hn2 hc2
      subst hA2
      have hcz := Kd.R_celln (d := (0 : Int)) (enc := Value.int .u8) (h1 := fun _ => rfl) hyR (j : Int) (by omega) (by omega)
      rw [Int.toNat_natCast] at hcz
      obtain ⟨yv, hyv⟩ : ∃ yv, rdOf (0 : Int) ys (j : Int) = yv := ⟨_, rfl⟩
      rw [hyv] at hcz
      obtain ⟨hc, hz⟩ := hcz
      have e5 : ((j : Int) < (x.2.2.2.1.length : Int)) = True := eq_true (by omega)
      have e6 : (j < x.2.2.2.1.length) = True := eq_true hj
      have w4_ : wrap64 ((j : Int) + 1) = ((j + 1 : Nat) : Int) := wrap_succ j (Nat.lt_of_lt_of_le hj HL.out)
      have HXJ := Aside0.mk (show ∃ q, j + 1 + q = x.2.2.2.1.length from ⟨x.2.2.2.1.length - (j + 1), Nat.add_sub_of_le hj⟩)
      have HYY := Aside0.mk (And.intro hyl (And.intro hyR hyT))
      clear HY hyl hyR hyT hj hyv
      go_wp2
      go_roundg (gk - 1)
      case measure => have := HJ.out; omega
      case rel => exact ⟨j + 1, by first | rw [w4_] | rfl | simp, ⟨by have := HJ.out; obtain ⟨q, hq⟩ := HXJ.out; omega⟩, ⟨ys.set j _, by rw [List.length_set]; exact HYY.out.1, Kd.R_putn (enc := Value.int .u8) (h1 := fun _ => rfl) HYY.out.2.1 (j : Int) _, HYY.out.2.2.kp ((Kp.refl (fun k => k = gy) wr).set (p := ⟨gy, _, none⟩) (Or.inl rfl) _) (fun k hk => by subst hk; exact HSEP.out _ rfl)⟩⟩
    · obtain ⟨ys, hyl, hyR, hyT⟩ := HY.out
      have HYT := Aside0.mk hyT
      have e5 : ((j : Int) < (x.2.2.2.1.length : Int)) = False := eq_false (by omega)
      have e6 : (j < x.2.2.2.1.length) = False := eq_false hj
      clear HY hyl hyR hyT hj
      go_wp2
      go_ret3
      exact ⟨_, _, _, _, rfl, HYT.out⟩
end Go.Proofs.Ytckbdckeijanlaa.G
/- Chapter 17: does, over a disk and the reference's: crash. By hand. -/
namespace Go.Proofs.Ytckbdckeijanlaa.G
open Go.RowKit Go.Shelf Go.Proofs.YtckbdckeijanlaaW.PrintWords Go.Proofs.YtckbdckeijanlaaW.PrintLast Go.Proofs.YtckbdckeijanlaaW.PrintMore Go.Proofs.Ytckbdckeijanlaa.Dsk
set_option linter.unusedVariables false
set_option linter.unusedSimpArgs false
theorem ints_l0 (l : List Int) (hl : l.length ≤ 9223372036854775807) : ∀ (j i : Nat), i + j = l.length → X.colophonref01_Ints.l0 (j + 1) l l (i : Int) = some true
  | 0, i, h => by
    rw [X.colophonref01_Ints.l0, if_neg (by omega)]
  | j + 1, i, h => by
    rw [X.colophonref01_Ints.l0, if_pos (by omega), if_pos (by omega), if_pos (by omega), if_pos rfl, wrap_succ i (by omega)]
    exact ints_l0 l hl j (i + 1) (by omega)
theorem ints_f (l : List Int) (hl : l.length ≤ 9223372036854775807) : X.colophonref01_Ints.f (l.length + 1) l l = some true := by
  unfold X.colophonref01_Ints.f
  rw [if_pos rfl]
  exact ints_l0 l hl l.length 0 (by omega)
set_option maxHeartbeats 16000000 in
set_option maxRecDepth 100000 in
theorem does_crash (w W : World) (F1 F2 : Nat → Prop) (g1 g2 : Nat) (d : Dk) (x : Act17) (B : Option Addr) (cb : Nat) (K : Option Addr) (ck : Nat) (h : DoIn w W F1 F2 g1 g2 d x B cb K ck) (hkind : (x.1 = 0) = False ∧ (x.1 = 1) = False ∧ (x.1 = 2) = False ∧ (x.1 = 3) = False) :
    Calls Try.prog 24 #[.pointer (some ⟨g1, 0, none⟩), .pointer (some ⟨g2, 0, none⟩), .agg #[.int .i64 x.1, .int .i64 x.2.1, .int .i64 x.2.2.1, .slice B x.2.2.2.1.length cb, .slice K x.2.2.2.2.length ck]] W (DoP w (crash d x.2.2.2.2)) := by
  have HI := Aside0.mk h
  have HT := Aside0.mk h.two
  have HK := Aside0.mk hkind
  clear h hkind
  have hb0 := below_alloc (Below.refl W.heap.size W) (.cells #[.int .i64 x.1, .int .i64 x.2.1, .int .i64 x.2.2.1, .slice B x.2.2.2.1.length cb, .slice K x.2.2.2.2.length ck] 38)
  have hblk0 := blk_new W (.cells #[.int .i64 x.1, .int .i64 x.2.1, .int .i64 x.2.2.1, .slice B x.2.2.2.1.length cb, .slice K x.2.2.2.2.length ck] 38)
  have hsz0 := World.size_alloc W (.cells #[.int .i64 x.1, .int .i64 x.2.1, .int .i64 x.2.2.1, .slice B x.2.2.2.1.length cb, .slice K x.2.2.2.2.length ck] 38)
  go_enter Try.func24, Try.ntmps24
  go_upto_region 1 with (fail)
  obtain ⟨W1, hW1⟩ : ∃ W1, W.alloc (.cells #[.int .i64 x.1, .int .i64 x.2.1, .int .i64 x.2.2.1, .slice B x.2.2.2.1.length cb, .slice K x.2.2.2.2.length ck] 38) = W1 := ⟨_, rfl⟩
  rw [hW1] at hb0 hblk0 hsz0
  rw [hW1]
  have hq3 : (W1.alloc (.cells #[] 5)).cell? ⟨W.heap.size, 3, none⟩ = some (.slice B x.2.2.2.1.length cb) := (blk_cell (blk_alloc hblk0 _) 3).trans rfl
  have HW1 := Aside0.mk (And.intro hb0 (And.intro hblk0 hsz0))
  clear hb0 hblk0 hsz0 hW1
  go_wp2_with (first | ((with_reducible refine gate_builtin (b := .append) (xs := #[.tmp 16, .tmp 18]) rfl ?_); refine of_halt ?_))
  unfold G.Halt
  have hHO : (Kd.int .u8).R 5 (W1.alloc (.cells #[] 5)) W1.heap.size (fun k => W1.heap.size ≤ k) (.slice (some ⟨W1.heap.size, 0, none⟩) 0 0) [] := ⟨fun k hk => by simp [Value.ownBlock] at hk; omega, [], World.ownsRow_lit (base := W1.heap.size) (e := 5) (size := 1) W1 #[] 0 (Nat.le_refl _) (by simp [maxLen]) rfl, Reps.none _ _⟩
  have hHR := HI.out.bytes (W1.alloc (.cells #[] 5)) (HT.out.fr.then_below (HW1.out.1.trans (Below.mono (below_alloc (Below.refl _ _) _) HW1.out.1.size))).below
  refine Kd.R_append_rows (Kd.int .u8) (Rr := (Kd.int .u8).K (W1.alloc (.cells #[] 5))) (w0 := W1) W1.heap.size rfl (.tmp 16) (.tmp 18) 22 5 (.int .u8 0) 1 rfl Try.underlying22 infoU8 rfl (by decide) (by decide) (.slice (some ⟨W1.heap.size, 0, none⟩) 0 0) [] x.2.2.2.1 B x.2.2.2.1.length cb (fun k => W1.heap.size ≤ k) (fun _ => False) rfl rfl hHO hHR (fun x cs h => h) (fun _ hk => hk.elim) (fun k hk => by rw [World.size_alloc] at hk; omega) (below_alloc (Below.refl _ _) _) (by rw [World.size_alloc]; omega) (by have := HI.out.short; simp; omega) ?_
  intro v2 w2 ho2 hb2 hg2 hat2
  rw [List.nil_append] at ho2
  obtain ⟨A2, c2, rfl⟩ := Kd.R_slice ho2
  have hblk2 := (hb2.block _ (blk_lt HW1.out.2.1)).trans HW1.out.2.1
  have HT2 := Aside0.mk (HT.out.below (HW1.out.1.trans (hb2.mono HW1.out.1.size)))
  have hsz2 := hb2.size
  have HW2 := Aside0.mk (And.intro ho2 (And.intro hblk2 (show W.heap.size < W1.heap.size ∧ W1.heap.size ≤ w2.heap.size from ⟨by have := HW1.out.2.2; omega, hb2.size⟩)))
  have hcl : ∀ (V : World), V.heap[W.heap.size]? = some (.cells #[.int .i64 x.1, .int .i64 x.2.1, .int .i64 x.2.2.1, .slice B x.2.2.2.1.length cb, .slice K x.2.2.2.2.length ck] 38 (0, 0)) → V.cell? ⟨W.heap.size, 0, none⟩ = some (.int .i64 x.1) ∧ V.cell? ⟨W.heap.size, 1, none⟩ = some (.int .i64 x.2.1) ∧ V.cell? ⟨W.heap.size, 2, none⟩ = some (.int .i64 x.2.2.1) ∧ V.cell? ⟨W.heap.size, 3, none⟩ = some (.slice B x.2.2.2.1.length cb) ∧ V.cell? ⟨W.heap.size, 4, none⟩ = some (.slice K x.2.2.2.2.length ck) := fun V hv => ⟨(blk_cell hv 0).trans rfl, (blk_cell hv 1).trans rfl, (blk_cell hv 2).trans rfl, (blk_cell hv 3).trans rfl, (blk_cell hv 4).trans rfl⟩
  have HCL := Aside0.mk hcl
  have hq0 := (hcl w2 hblk2).1
  clear ho2 hb2 hg2 hat2 hHO hHR hblk2 hsz2 hq3 hcl
  obtain ⟨f0, f1, f2, f3⟩ := HK.out
  have b0 : (x.1 == 0) = false := by rw [beq_eq_false_iff_ne]; exact of_eq_false f0
  have b1 : (x.1 == 1) = false := by rw [beq_eq_false_iff_ne]; exact of_eq_false f1
  have b2 : (x.1 == 2) = false := by rw [beq_eq_false_iff_ne]; exact of_eq_false f2
  have b3 : (x.1 == 3) = false := by rw [beq_eq_false_iff_ne]; exact of_eq_false f3
  have hq4 : (w2.alloc (.cells #[] 3)).cell? ⟨W.heap.size, 4, none⟩ = some (.slice K x.2.2.2.2.length ck) := (blk_cell (blk_alloc HW2.out.2.1 _) 4).trans rfl
  go_wp2_with (first | ((with_reducible refine gate_builtin (b := .append) (xs := #[.tmp 100, .tmp 102]) rfl ?_); refine of_halt ?_))
  unfold G.Halt
  have hHO : (Kd.int .i64).R 3 (w2.alloc (.cells #[] 3)) w2.heap.size (fun k => w2.heap.size ≤ k) (.slice (some ⟨w2.heap.size, 0, none⟩) 0 0) [] := ⟨fun k hk => by simp [Value.ownBlock] at hk; omega, [], World.ownsRow_lit (base := w2.heap.size) (e := 3) (size := 1) w2 #[] 0 (Nat.le_refl _) (by simp [maxLen]) rfl, Reps.none _ _⟩
  have hHR := HI.out.kept (w2.alloc (.cells #[] 3)) (HT2.out.fr.then_below (below_alloc (Below.refl _ _) _)).below
  refine Kd.R_append_rows (Kd.int .i64) (Rr := (Kd.int .i64).K (w2.alloc (.cells #[] 3))) (w0 := w2) w2.heap.size rfl (.tmp 100) (.tmp 102) 32 3 (.int .i64 0) 8 rfl Try.underlying32 infoInt rfl (by decide) (by decide) (.slice (some ⟨w2.heap.size, 0, none⟩) 0 0) [] x.2.2.2.2 K x.2.2.2.2.length ck (fun k => w2.heap.size ≤ k) (fun _ => False) rfl rfl hHO hHR (fun x cs h => h) (fun _ hk => hk.elim) (fun k hk => by rw [World.size_alloc] at hk; omega) (below_alloc (Below.refl _ _) _) (by rw [World.size_alloc]; omega) (by have := HI.out.shortK; simp; omega) ?_
  intro v3 w3 ho3 hb3 hg3 hat3
  rw [List.nil_append] at ho3
  obtain ⟨A3, c3, rfl⟩ := Kd.R_slice ho3
  have hblk3 := (hb3.block _ (blk_lt HW2.out.2.1)).trans HW2.out.2.1
  have HT3 := Aside0.mk (HT2.out.below hb3)
  have HW3 := Aside0.mk (And.intro ho3 hblk3)
  clear ho3 hb3 hg3 hat3 hHO hHR hblk3 hq4
  go_wp2_with (first | (go_at_call 14; refine (Crash_c F1 g1 d x.2.2.2.2 A3 c3 w3 HT3.out.d1 HI.out.sm (Kd.R_reads' HW3.out.1).2.2 (Kd.R_reads' HW3.out.1).2.1).mono ?_; rintro e w4 ⟨g5, F5, rfl, hD5, hF5, hb4⟩; refine of_halt ?_))
  unfold G.Halt
  have hblk4 := (hb4.block _ (blk_lt HW3.out.2)).trans HW3.out.2
  have HW4 := Aside0.mk (And.intro (Kd.R_below HW3.out.1 hb4) (And.intro hblk4 (And.intro hD5 (And.intro hF5 (HT3.out.below hb4)))))
  clear hD5 hF5 hb4 hblk4
  go_wp2_with (first | (go_at_call 25; refine (Alike_c F1 F2 g1 g2 d w4 HW4.out.2.2.2.2.d1 HW4.out.2.2.2.2.d2 HI.out.sm).mono ?_; rintro e w5 ⟨rfl, hb5⟩; refine of_halt ?_))
  unfold G.Halt
  have hblk5 := (hb5.block _ (blk_lt HW4.out.2.1)).trans HW4.out.2.1
  have HW5 := Aside0.mk (And.intro (Kd.R_below HW4.out.1 hb5) (And.intro hblk5 (And.intro (HW4.out.2.2.1.below hb5) (HW4.out.2.2.2.2.below hb5))))
  have hq5 := (HCL.out w5 hblk5).2.2.2.2
  have hs5 := hb5.size
  clear hb5 hblk5
  go_wp2_with (first | (go_at_call 34; refine (X.colophonref01_Ints.calls (x.2.2.2.2.length + 1) A3 c3 x.2.2.2.2 K ck x.2.2.2.2 true w5 (Kd.R_reads' HW5.out.1).2.2 (Kd.R_reads' HW5.out.1).2.1 (HI.out.kept w5 HW5.out.2.2.2.fr.below) HI.out.keptLe (ints_f _ (Kd.C_max (HI.out.kept w5 HW5.out.2.2.2.fr.below)))).mono ?_; rintro e w6 ⟨rfl, hb6⟩; refine of_halt ?_))
  unfold G.Halt
  have hb6 : Below w5.heap.size w5 w6 := hb6.below
  have hblk6 := (hb6.block _ (blk_lt HW5.out.2.1)).trans HW5.out.2.1
  have HW6 := Aside0.mk (And.intro (HW5.out.2.2.1.below hb6) (HW5.out.2.2.2.below hb6))
  have hq6 := (HCL.out w6 hblk6).2.2.2.2
  clear hb6 hblk6 hq5
  go_wp2_with (first | (go_at_call 35; refine (RCrash_c F2 g2 d x.2.2.2.2 K ck w6 HW6.out.2.d2 HI.out.sm (HI.out.kept w6 HW6.out.2.fr.below) HI.out.keptLe).mono ?_; rintro e w7 ⟨g6, F6, rfl, hD6, hF6, hb7⟩; refine of_halt ?_))
  unfold G.Halt
  have HD7 := Aside0.mk (show Two w F5 F6 g5 g6 (crash d x.2.2.2.2) (crash d x.2.2.2.2) w7 from ⟨HW6.out.1.below hb7, hD6, HW6.out.2.fr.then_below hb7, fun k hk => ⟨Nat.le_trans HT3.out.fr.size (HW4.out.2.2.2.1 k hk), fun h6 => by have := hF6 k h6; have := HW6.out.1.2 k hk; omega⟩, fun k hk => Nat.le_trans HW6.out.2.fr.size (hF6 k hk)⟩)
  clear hD6 hF6 hb7
  go_wp2
  go_ret3
  exact ⟨_, _, _, _, rfl, HD7.out⟩
end Go.Proofs.Ytckbdckeijanlaa.G
