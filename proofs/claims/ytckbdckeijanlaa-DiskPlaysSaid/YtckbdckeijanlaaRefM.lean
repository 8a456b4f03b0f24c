/- The reference's disk in memory; is, step, Stop. By hand. -/
import Derived.Test.YtckbdckeijanlaaHImage
import Derived.Test.YtckbdckeijanlaaHActs
namespace Go.Proofs.Ytckbdckeijanlaa.G
open Go.RowKit Go.Shelf Go.Proofs.YtckbdckeijanlaaW.PrintWords Go.Proofs.YtckbdckeijanlaaW.PrintLast Go.Proofs.YtckbdckeijanlaaW.PrintMore Go.Proofs.Ytckbdckeijanlaa.Dsk
set_option linter.unusedVariables false
set_option linter.unusedSimpArgs false
abbrev rwK : Kd (Int × ByteArray) := Kd.pair (Kd.int .i64) Kd.string
def encR (w : Nat × List Int) : Int × ByteArray := ((w.1 : Int), strOfNums w.2)
/-- How many steps are left, as the reference tells it. -/
def lf (d : Dk) : Int := match d.left with | none => -1 | some n => (n : Int)
/-- The reference's disk at block g, its blocks within F. -/
structure RMem (F : Nat → Prop) (g gl cl : Nat) (d : Dk) (wv : Value) (W : World) : Prop where
  blk : W.heap[g]? = some (.cells #[.slice (some ⟨gl, 0, none⟩) d.lies.length cl, wv, .int .i64 (d.steps : Int), .int .i64 (lf d)] 71 (0, 0))
  fg : F g
  fl : F gl
  ne : gl ≠ g
  lies : Kd.string.R 9 W 0 (fun k => k = gl) (.slice (some ⟨gl, 0, none⟩) d.lies.length cl) (d.lies.map strOfNums)
  waits : rwK.R 78 W 0 (fun k => F k ∧ k ≠ g ∧ k ≠ gl) wv (d.waits.map encR)
  ok : Ok d
theorem RMem.move {F : Nat → Prop} {g gl cl : Nat} {d : Dk} {wv : Value} {W W' : World} (h : RMem F g gl cl d wv W) (hm : ∀ k, F k → k < W.heap.size → W'.heap[k]? = W.heap[k]?) : RMem F g gl cl d wv W' :=
  ⟨(hm g h.fg (blk_lt h.blk)).trans h.blk, h.fg, h.fl, h.ne, Kd.R_step h.lies (fun k hk => hm k (hk ▸ h.fl)), Kd.R_step h.waits (fun k hk => hm k hk.1), h.ok⟩
theorem RMem.below {F : Nat → Prop} {g gl cl : Nat} {d : Dk} {wv : Value} {W W' : World} (h : RMem F g gl cl d wv W) (hb : Below W.heap.size W W') : RMem F g gl cl d wv W' := h.move fun k _ hk => hb.block k hk
theorem RMem.kp {F G : Nat → Prop} {g gl cl : Nat} {d : Dk} {wv : Value} {W W' : World} (h : RMem F g gl cl d wv W) (hb : Kp G W W') (hd : ∀ k, F k → ¬ G k) : RMem F g gl cl d wv W' := h.move fun k hk hlt => hb.block k hlt (hd k hk)
theorem RMem.cells {F : Nat → Prop} {g gl cl : Nat} {d : Dk} {wv : Value} {W : World} (h : RMem F g gl cl d wv W) :
    W.cell? ⟨g, 0, none⟩ = some (.slice (some ⟨gl, 0, none⟩) d.lies.length cl) ∧ W.cell? ⟨g, 1, none⟩ = some wv ∧ W.cell? ⟨g, 2, none⟩ = some (.int .i64 (d.steps : Int)) ∧ W.cell? ⟨g, 3, none⟩ = some (.int .i64 (lf d)) :=
  ⟨(blk_cell h.blk 0).trans rfl, (blk_cell h.blk 1).trans rfl, (blk_cell h.blk 2).trans rfl, (blk_cell h.blk 3).trans rfl⟩
theorem RMem.free {F : Nat → Prop} {g gl cl : Nat} {d : Dk} {wv : Value} {W : World} (h : RMem F g gl cl d wv W) (i : Nat) : W.frozen? ⟨g, i, none⟩ = false := blk_frozen h.blk i
/-- Steps and stops: cells 2, 3 alone. -/
theorem RMem.tail {F : Nat → Prop} {g gl cl : Nat} {d d' : Dk} {wv : Value} {W W' : World} (h : RMem F g gl cl d wv W) (hl : d'.lies = d.lies) (hw : d'.waits = d.waits)
    (hb : W'.heap[g]? = some (.cells #[.slice (some ⟨gl, 0, none⟩) d.lies.length cl, wv, .int .i64 (d'.steps : Int), .int .i64 (lf d')] 71 (0, 0)))
    (hm : ∀ k, k ≠ g → k < W.heap.size → W'.heap[k]? = W.heap[k]?) : RMem F g gl cl d' wv W' :=
  ⟨by rw [hl]; exact hb, h.fg, h.fl, h.ne, by rw [hl]; exact Kd.R_step h.lies (fun k hk => hm k (hk ▸ h.ne)), by rw [hw]; exact Kd.R_step h.waits (fun k hk => hm k hk.2.1), ⟨by rw [hl]; exact h.ok.some_, by rw [hl]; exact h.ok.lies, by rw [hl, hw]; exact h.ok.waits⟩⟩
/-- The waits alone: cell 1. -/
theorem RMem.rewait {F F' : Nat → Prop} {g gl cl : Nat} {d d' : Dk} {wv wv' : Value} {W W' : World} (h : RMem F g gl cl d wv W) (hF : ∀ k, F k → F' k) (hl : d'.lies = d.lies) (hs : d'.steps = d.steps) (hlf : d'.left = d.left)
    (hb : W'.heap[g]? = some (.cells #[.slice (some ⟨gl, 0, none⟩) d.lies.length cl, wv', .int .i64 (d.steps : Int), .int .i64 (lf d)] 71 (0, 0)))
    (hgl : W'.heap[gl]? = W.heap[gl]?) (hw : rwK.R 78 W' 0 (fun k => F' k ∧ k ≠ g ∧ k ≠ gl) wv' (d'.waits.map encR)) (hok : Ok d') : RMem F' g gl cl d' wv' W' :=
  ⟨by rw [hl, hs, show lf d' = lf d by unfold lf; rw [hlf]]; exact hb, hF _ h.fg, hF _ h.fl, h.ne, by rw [hl]; exact Kd.R_step h.lies (fun k hk _ => hk ▸ hgl), hw, hok⟩
set_option maxHeartbeats 4000000 in
set_option maxRecDepth 100000 in
theorem ris_c (F : Nat → Prop) (g gl cl : Nat) (d : Dk) (wv : Value) (n : Int) (W : World) (h : RMem F g gl cl d wv W) :
    Calls Try.prog 38 #[.pointer (some ⟨g, 0, none⟩), .int .i64 n] W fun e w' => e = .returned (.bool (isS d n)) ∧ w' = W := by
  obtain ⟨hc0, _⟩ := h.cells
  clear h
  by_cases hn : 0 ≤ n
  · have e : isS d n = decide (n < (d.lies.length : Int)) := by
      unfold isS
      rw [Bool.eq_iff_iff]
      simp [hn]
    rw [e]
    have f1 : (0 ≤ n) = True := eq_true hn
    go_enter Try.func38, Try.ntmps38
    go_wp2
    all_goals (go_ret; exact ⟨by first | rfl | simp, rfl⟩)
  · have e : isS d n = false := decide_eq_false (by omega)
    rw [e]
    have f1 : (0 ≤ n) = False := eq_false hn
    go_enter Try.func38, Try.ntmps38
    go_wp2
    all_goals (go_ret; exact ⟨by first | rfl | simp, rfl⟩)
theorem lf_down {d : Dk} : down d = (lf d == 0) := by
  unfold down lf
  cases d.left with
  | none => rfl
  | some n =>
    show ((some n : Option Nat) == some 0) = ((n : Int) == 0)
    rw [Bool.eq_iff_iff]
    simp
theorem lf_lt {d : Dk} (h : d.left.getD 0 < 9223372036854775808) : -1 ≤ lf d ∧ lf d < 9223372036854775808 := by
  unfold lf
  cases hl : d.left with
  | none => simp
  | some n => rw [hl] at h; simp at h; simp; omega
theorem lf_stepped {d : Dk} (hd : down d = false) : lf (stepped d) = if 0 < lf d then lf d - 1 else lf d := by
  rw [lf_down] at hd
  unfold lf stepped at *
  cases hl : d.left with
  | none => simp
  | some n =>
    rw [hl] at hd
    simp at hd
    simp
    split <;> omega
set_option maxHeartbeats 4000000 in
set_option maxRecDepth 100000 in
theorem rstep_c (F : Nat → Prop) (g gl cl : Nat) (d : Dk) (wv : Value) (W : World) (h : RMem F g gl cl d wv W) (hs : d.steps < 4611686018427387904) (hd : down d = false) (hn : d.left.getD 0 < 9223372036854775808) :
    Calls Try.prog 39 #[.pointer (some ⟨g, 0, none⟩)] W fun e w' => e = .returned (.tuple #[]) ∧ RMem F g gl cl (stepped d) wv w' ∧ Kp (fun k => k = g) W w' := by
  obtain ⟨_, _, hc2, hc3⟩ := h.cells
  have z2 := h.free 2
  have z3 := h.free 3
  have HM := Aside0.mk h
  have hlf := lf_stepped hd
  have hlt := lf_lt hn
  have r1 : wrap64 ((d.steps : Int) + 1) = (d.steps : Int) + 1 := by unfold wrap64; omega
  have r2 : 0 < lf d → wrap64 (lf d - 1) = lf d - 1 := by intro _; unfold wrap64; omega
  by_cases hp : 0 < lf d
  · have r2 := r2 hp
    rw [if_pos hp] at hlf
    have f1 : (0 < lf d) = True := eq_true hp
    clear h hd hn hs hp hlt
    go_enter Try.func39, Try.ntmps39
    go_wp2
    go_end0
    refine ⟨rfl, HM.out.tail rfl rfl ?_ ?_, ((Kp.refl (fun k => k = g) W).set (p := ⟨g, 2, none⟩) (Or.inl rfl) _).set (p := ⟨g, 3, none⟩) (Or.inl rfl) _⟩
    · rw [hlf]
      exact blk_put (blk_put HM.out.blk 2 _ rfl) 3 _ rfl
    · intro k hk _
      rw [Below.heap_setCell _ _ _ k hk, Below.heap_setCell _ _ _ k hk]
  · rw [if_neg hp] at hlf
    have f1 : (0 < lf d) = False := eq_false hp
    clear h hd hn hs hp hlt r2
    go_enter Try.func39, Try.ntmps39
    go_wp2
    go_end0
    refine ⟨rfl, HM.out.tail rfl rfl ?_ ?_, (Kp.refl (fun k => k = g) W).set (p := ⟨g, 2, none⟩) (Or.inl rfl) _⟩
    · rw [hlf]
      exact blk_put HM.out.blk 2 _ rfl
    · intro k hk _
      rw [Below.heap_setCell _ _ _ k hk]
/-- The reference's disk within F; F has no more than there is. -/
def RDisk (F : Nat → Prop) (g : Nat) (d : Dk) (W : World) : Prop := (∃ gl cl wv, RMem F g gl cl d wv W) ∧ ∀ k, F k → k < W.heap.size
theorem RDisk.of {F : Nat → Prop} {g gl cl : Nat} {d : Dk} {wv : Value} {W : World} (h : RMem F g gl cl d wv W) : RDisk (fun k => F k ∧ k < W.heap.size) g d W :=
  ⟨⟨gl, cl, wv, ⟨h.blk, ⟨h.fg, blk_lt h.blk⟩, ⟨h.fl, Kd.R_lt h.lies gl rfl⟩, h.ne, h.lies, Kd.R_mono (Kd.R_bound h.waits) (fun k hk => ⟨⟨hk.1.1, hk.2.2.1⟩, hk.1.2⟩), h.ok⟩⟩, fun k hk => hk.2⟩
theorem RDisk.ok {F : Nat → Prop} {g : Nat} {d : Dk} {W : World} (h : RDisk F g d W) : Ok d := by
  obtain ⟨⟨_, _, _, h⟩, _⟩ := h
  exact h.ok
theorem RDisk.below {F : Nat → Prop} {g : Nat} {d : Dk} {W W' : World} (h : RDisk F g d W) (hb : Below W.heap.size W W') : RDisk F g d W' := by
  obtain ⟨⟨gl, cl, wv, h⟩, hF⟩ := h
  exact ⟨⟨gl, cl, wv, h.below hb⟩, fun k hk => Nat.lt_of_lt_of_le (hF k hk) hb.size⟩
theorem RDisk.kp {F G : Nat → Prop} {g : Nat} {d : Dk} {W W' : World} (h : RDisk F g d W) (hb : Kp G W W') (hd : ∀ k, F k → ¬ G k) : RDisk F g d W' := by
  obtain ⟨⟨gl, cl, wv, h⟩, hF⟩ := h
  exact ⟨⟨gl, cl, wv, h.kp hb hd⟩, fun k hk => Nat.lt_of_lt_of_le (hF k hk) hb.size⟩
def ROp (F : Nat → Prop) (g : Nat) (d : Dk) (c : Int) (W : World) (e : Ending) (w' : World) : Prop := e = .returned (.int .i64 c) ∧ ∃ F', RDisk F' g d w' ∧ (∀ k, F' k → F k ∨ W.heap.size ≤ k) ∧ Kp F W w'
theorem ROp.of_mem {F F' : Nat → Prop} {g gl cl : Nat} {d : Dk} {wv : Value} {c : Int} {W : World} {e : Ending} {w' : World} (he : e = .returned (.int .i64 c)) (hM : RMem F' g gl cl d wv w') (hF : ∀ k, F' k → F k ∨ W.heap.size ≤ k) (hK : Kp F W w') : ROp F g d c W e w' :=
  ⟨he, _, RDisk.of hM, fun k hk => hF k hk.1, hK⟩
theorem ROp.same {F : Nat → Prop} {g : Nat} {d : Dk} {c : Int} {W w' : World} {e : Ending} (h : RDisk F g d W) (he : e = .returned (.int .i64 c)) (hb : Below W.heap.size W w') : ROp F g d c W e w' :=
  ⟨he, F, h.below hb, fun k hk => .inl hk, Kp.of_below hb⟩
set_option maxHeartbeats 4000000 in
set_option maxRecDepth 100000 in
theorem RStop_c (F : Nat → Prop) (g : Nat) (d : Dk) (n : Int) (W : World) (h : RDisk F g d W) :
    Calls Try.prog 32 #[.pointer (some ⟨g, 0, none⟩), .int .i64 n] W (ROp F g (stop d n).1 (stop d n).2 W) := by
  obtain ⟨⟨gl, cl, wv, hM⟩, hF⟩ := h
  have HM := Aside0.mk (And.intro hM hF)
  have z3 := hM.free 3
  obtain ⟨_, _, _, hc3⟩ := hM.cells
  clear hM hF
  by_cases hn : n < 0
  · have e : stop d n = (d, 2) := by unfold stop; rw [if_pos hn]
    rw [e]
    have f1 : (n < 0) = True := eq_true hn
    go_enter Try.func32, Try.ntmps32
    go_wp2
    go_ret
    exact ROp.same ⟨⟨gl, cl, wv, HM.out.1⟩, HM.out.2⟩ rfl (Below.refl _ _)
  · have e : stop d n = (⟨d.lies, d.waits, d.steps, some n.toNat⟩, 0) := by unfold stop; rw [if_neg hn]
    have el : lf ⟨d.lies, d.waits, d.steps, some n.toNat⟩ = n := by show ((n.toNat : Nat) : Int) = n; omega
    rw [e]
    have f1 : (n < 0) = False := eq_false hn
    clear e hn
    go_enter Try.func32, Try.ntmps32
    go_wp2
    go_ret
    refine ROp.of_mem (F' := F) rfl (HM.out.1.tail (d' := ⟨d.lies, d.waits, d.steps, some n.toNat⟩) rfl rfl ?_ ?_) (fun k hk => .inl hk) (((Kp.refl (fun k => k = g) W).set (p := ⟨g, 3, none⟩) (Or.inl rfl) _).mono (fun q _ hq => hq ▸ HM.out.1.fg))
    · rw [el]
      exact blk_put HM.out.1.blk 3 _ rfl
    · intro k hk _
      rw [Below.heap_setCell _ _ _ k hk]
end Go.Proofs.Ytckbdckeijanlaa.G
/- The reference's disk: Read. By hand. -/
namespace Go.Proofs.Ytckbdckeijanlaa.G
open Go.RowKit Go.Shelf Go.Proofs.YtckbdckeijanlaaW.PrintWords Go.Proofs.YtckbdckeijanlaaW.PrintLast Go.Proofs.YtckbdckeijanlaaW.PrintMore Go.Proofs.Ytckbdckeijanlaa.Dsk
set_option linter.unusedVariables false
set_option linter.unusedSimpArgs false
theorem rwt_at {W : World} {ad : Addr} {n : Nat} {xs : List (Int × ByteArray)} (h : rwK.C W (some ad) n xs) (j : Nat) (hj : j < n) (x : Int × ByteArray) (hx : xs[j]? = some x) : W.cell? (ad.add (j * 2)) = some (.int .i64 x.1) ∧ W.cell? ⟨(ad.add (j * 2)).block, (ad.add (j * 2)).off + 1, none⟩ = some (.string x.2) := by
  obtain ⟨ad', e, hc⟩ := h.2.2 (by omega)
  injection e with e
  subst e
  obtain ⟨cs, hl, hk, hu⟩ := hc j x hx
  obtain ⟨c0, c1, rfl, h0, h1⟩ := hk
  have h0' : c0 = [.int .i64 x.1] := h0
  have h1' : c1 = [.string x.2] := h1
  subst h0' h1'
  have hs : rwK.sz = 2 := rfl
  rw [hs] at hu
  exact ⟨hu 0 _ rfl, by rw [← add_fld]; exact hu 1 _ rfl⟩
theorem rly_at {W : World} {gl cl : Nat} {d : Dk} {ok : Nat → Prop} {base : Nat} (h : Kd.string.R 9 W base ok (.slice (some ⟨gl, 0, none⟩) d.lies.length cl) (d.lies.map strOfNums)) (i : Nat) (hi : i < d.lies.length) : W.cell? ⟨gl, i, none⟩ = some (.string (strOfNums (d.lies.getD i []))) ∧ W.frozen? ⟨gl, i, none⟩ = false := by
  have := Kd.R_celln (d := strOfNums []) (enc := Value.string) (h1 := fun _ => rfl) h (i : Int) (by omega) (by omega)
  rw [Int.toNat_natCast] at this
  refine ⟨?_, this.2⟩
  rw [this.1]
  unfold rdOf
  rw [Int.toNat_natCast, List.getD_eq_getElem?_getD, List.getD_eq_getElem?_getD, List.getElem?_map]
  cases d.lies[i]? <;> rfl
def latestTo (d : Dk) (n i : Nat) : List Int := (d.waits.take i).foldl (fun b w => if w.1 = n then w.2 else b) (d.lies.getD n [])
theorem latestTo_all (d : Dk) (n : Nat) : latestTo d n d.waits.length = latest d n := by unfold latestTo latest; rw [List.take_length]
theorem latestTo_succ (d : Dk) (n i : Nat) (w : Nat × List Int) (h : d.waits[i]? = some w) : latestTo d n (i + 1) = if w.1 = n then w.2 else latestTo d n i := by
  unfold latestTo
  rw [List.take_add_one, h, List.foldl_append]
  rfl
def RRd (r : List Int × Int) (W : World) (e : Ending) (w' : World) : Prop := e = .returned (.tuple #[.string (strOfNums r.1), .int .i64 r.2]) ∧ Below W.heap.size W w'
set_option maxHeartbeats 8000000 in
set_option maxRecDepth 100000 in
theorem RRead_c (F : Nat → Prop) (g : Nat) (d : Dk) (n : Int) (W : World) (h : RDisk F g d W) (hw : d.waits.length < 1000000000) :
    Calls Try.prog 36 #[.pointer (some ⟨g, 0, none⟩), .int .i64 n] W (RRd (Dsk.read d n) W) := by
  obtain ⟨⟨gl, cl, wv, hM⟩, hF⟩ := h
  have HM := Aside0.mk hM
  have HW := Aside0.mk hw
  clear hM hF hw
  cases hS : isS d n with
  | false =>
    have e : Dsk.read d n = ([], 4) := by unfold Dsk.read; rw [if_pos hS]
    rw [e]
    go_enter Try.func36, Try.ntmps36
    go_wp2_with (first | (go_at_call 38; refine (ris_c F g gl cl d wv n W HM.out).mono ?_; rintro e w1 ⟨rfl, hw1⟩; refine of_halt ?_))
    unfold G.Halt
    obtain rfl := hw1.symm
    go_wp2
    go_ret2
    exact ⟨rfl, Below.refl _ _⟩
  | true =>
    have hn := of_decide_eq_true hS
    obtain ⟨j, rfl⟩ := Int.eq_ofNat_of_zero_le hn.1
    have hj : j < d.lies.length := by omega
    have HJ := Aside0.mk hj
    cases hd : down d with
    | true =>
      have e : Dsk.read d (j : Int) = ([], 170) := by unfold Dsk.read; rw [hS, if_neg (by simp), hd, if_pos rfl]
      rw [e]
      have hl : lf d = 0 := by rw [lf_down] at hd; simpa using hd
      obtain ⟨_, _, _, hc3⟩ := HM.out.cells
      rw [hl] at hc3
      clear hn hj
      go_enter Try.func36, Try.ntmps36
      go_wp2_with (first | (go_at_call 38; refine (ris_c F g gl cl d wv _ W HM.out).mono ?_; rintro e w1 ⟨rfl, hw1⟩; refine of_halt ?_))
      unfold G.Halt
      obtain rfl := hw1.symm
      go_wp2
      go_ret2
      exact ⟨rfl, Below.refl _ _⟩
    | false =>
      have e : Dsk.read d (j : Int) = (latest d j, 0) := by unfold Dsk.read; rw [hS, if_neg (by simp), hd, if_neg (by simp), Int.toNat_natCast]
      rw [e]
      have hl : (lf d == 0) = false := by rw [lf_down] at hd; exact hd
      obtain ⟨hc0, hc1, _, hc3⟩ := HM.out.cells
      have hly := (rly_at HM.out.lies j hj).1
      obtain ⟨s0, hs0⟩ : ∃ s0, d.lies.getD j [] = s0 := ⟨_, rfl⟩
      rw [hs0] at hly
      have HS0 := Aside0.mk hs0
      clear hs0
      obtain ⟨A, c, hwv, hwc, hwC⟩ := Kd.R_reads HM.out.waits
      rw [List.length_map] at hwv hwC hwc
      subst hwv
      have b1 : ((j : Int) < (d.lies.length : Int)) = True := eq_true (by omega)
      have b2 : (j < d.lies.length) = True := eq_true hj
      have HWC := Aside0.mk hwC
      clear hn hj hwC
      go_enter Try.func36, Try.ntmps36
      go_wp2_with (first | (go_at_call 38; refine (ris_c F g gl cl d _ _ W HM.out).mono ?_; rintro e w1 ⟨rfl, hw1⟩; refine of_halt ?_))
      unfold G.Halt
      obtain rfl := hw1.symm
      go_wp2
      go_loopg [6, 7] (d.waits.length + 1) (fun kq v6 v7 w' => ∃ i : Nat, v6 = .string (strOfNums (latestTo d j i)) ∧ v7 = .int .i64 (i : Int) ∧ Aside0 (i ≤ d.waits.length ∧ kq + i = d.waits.length + 1) ∧ w' = W)
      case atStart => exact ⟨0, by rw [← HS0.out]; rfl, rfl, ⟨by omega⟩, rfl⟩
      case round =>
        obtain ⟨i, rfl, rfl, HI, hwr⟩ := hrel
        obtain rfl := hwr.symm
        by_cases hi : i < d.waits.length
        · have e1 : ((i : Int) < (d.waits.length : Int)) = True := eq_true (by omega)
          have e2 : (i < d.waits.length) = True := eq_true hi
          obtain ⟨ad, hA, _⟩ := HWC.out.2.2 (by omega)
          subst hA
          obtain ⟨x, hx⟩ : ∃ x, d.waits[i]? = some x := ⟨_, List.getElem?_eq_getElem hi⟩
          obtain ⟨q0, q1⟩ := rwt_at HWC.out i hi (encR x) (by rw [List.getElem?_map, hx]; rfl)
          have q0' : W.cell? (ad.add (i * 2)) = some (.int .i64 ((x.1 : Nat) : Int)) := q0
          have q1' : W.cell? ⟨(ad.add (i * 2)).block, (ad.add (i * 2)).off + 1, none⟩ = some (.string (strOfNums x.2)) := q1
          have w3_ : wrap64 ((i : Int) + 1) = ((i + 1 : Nat) : Int) := by have := HW.out; unfold wrap64; omega
          have HX := Aside0.mk (show ∃ j, i + 1 + j = d.waits.length from ⟨d.waits.length - (i + 1), by omega⟩)
          have hls := latestTo_succ d j i x hx
          clear hi hx q0 q1
          by_cases hxj : x.1 = j
          · have f1 : ((x.1 : Int) == (j : Int)) = true := by rw [hxj]; simp
            have f2 : (x.1 = j) = True := eq_true hxj
            rw [if_pos hxj] at hls
            clear hxj
            go_wp2
            go_roundg (gk - 1)
            case measure => have := HI.out; omega
            case rel => exact ⟨i + 1, by first | rw [hls] | simp [hls], by first | rw [w3_] | rfl | simp, ⟨by have := HI.out; obtain ⟨j, hj⟩ := HX.out; omega⟩, rfl⟩
          · have f1 : ((x.1 : Int) == (j : Int)) = false := by rw [beq_eq_false_iff_ne]; omega
            have f2 : (x.1 = j) = False := eq_false hxj
            rw [if_neg hxj] at hls
            clear hxj
            go_wp2
            go_roundg (gk - 1)
            case measure => have := HI.out; omega
            case rel => exact ⟨i + 1, by first | rw [hls] | simp [hls], by first | rw [w3_] | rfl | simp, ⟨by have := HI.out; obtain ⟨j, hj⟩ := HX.out; omega⟩, rfl⟩
        · obtain rfl : i = d.waits.length := by have := HI.out; omega
          go_wp2
          go_ret2
          exact ⟨by rw [latestTo_all]; rfl, Below.refl _ _⟩
end Go.Proofs.Ytckbdckeijanlaa.G
/- The reference's disk: Write. By hand. -/
namespace Go.Proofs.Ytckbdckeijanlaa.G
open Go.RowKit Go.Shelf Go.Proofs.YtckbdckeijanlaaW.PrintWords Go.Proofs.YtckbdckeijanlaaW.PrintLast Go.Proofs.YtckbdckeijanlaaW.PrintMore Go.Proofs.Ytckbdckeijanlaa.Dsk
set_option linter.unusedVariables false
set_option linter.unusedSimpArgs false
def zeroRW : Value := .agg #[.int .i64 0, .string ⟨#[]⟩]
theorem infoRW : (Try.prog.info? 78).map (fun i => (i.zero, i.size, i.bytes)) = some (some zeroRW, 2, 24) := by kernel_rfl
theorem infoStr : (Try.prog.info? 9).map (fun i => (i.zero, i.size, i.bytes)) = some (some (.string ⟨#[]⟩), 1, 16) := by kernel_rfl
theorem rwK_M {W W' : World} {base : Nat} {ok : Nat → Prop} (x : Int × ByteArray) (cs : List Value) (h : rwK.K W x cs) : rwK.M W' base ok x cs := by
  obtain ⟨c0, c1, e, h0, h1⟩ := h
  exact ⟨c0, c1, e, h0, h1⟩
set_option maxHeartbeats 8000000 in
set_option maxRecDepth 100000 in
theorem RWrite_c (F : Nat → Prop) (g : Nat) (d : Dk) (n : Int) (ys : List Int) (W : World) (h : RDisk F g d W) (hs : Small d) :
    Calls Try.prog 30 #[.pointer (some ⟨g, 0, none⟩), .int .i64 n, .string (strOfNums ys)] W (ROp F g (write d n ys).1 (write d n ys).2 W) := by
  obtain ⟨⟨gl, cl, wv, hM⟩, hF⟩ := h
  have HM := Aside0.mk hM
  have HF := Aside0.mk hF
  have HSM := Aside0.mk hs
  clear hM hF hs
  have hsz := str_size ys
  cases hS : isS d n with
  | false =>
    have e : write d n ys = (d, 4) := by unfold write; rw [if_pos hS]
    rw [e]
    go_enter Try.func30, Try.ntmps30
    go_wp2_with (first | (go_at_call 38; refine (ris_c F g gl cl d wv n W HM.out).mono ?_; rintro e w1 ⟨rfl, hw1⟩; refine of_halt ?_))
    unfold G.Halt
    obtain rfl := hw1.symm
    try rw [hS]
    go_wp2
    go_ret
    exact ROp.same ⟨⟨gl, cl, wv, HM.out⟩, HF.out⟩ rfl (Below.refl _ _)
  | true =>
    by_cases hy : ys.length = 64
    · rw [hy] at hsz
      cases hd : down d with
      | true =>
        have e : write d n ys = (d, 170) := by unfold write; rw [hS, if_neg (by simp), if_neg (by rw [hy]; simp), hd, if_pos rfl]
        rw [e]
        have hl : lf d = 0 := by rw [lf_down] at hd; simpa using hd
        obtain ⟨_, _, _, hc3⟩ := HM.out.cells
        rw [hl] at hc3
        go_enter Try.func30, Try.ntmps30
        go_wp2_with (first | (go_at_call 38; refine (ris_c F g gl cl d wv _ W HM.out).mono ?_; rintro e w1 ⟨rfl, hw1⟩; refine of_halt ?_))
        unfold G.Halt
        obtain rfl := hw1.symm
        try rw [hS]
        go_wp2
        go_ret
        exact ROp.same ⟨⟨gl, cl, wv, HM.out⟩, HF.out⟩ rfl (Below.refl _ _)
      | false =>
        have e : write d n ys = (stepped ⟨d.lies, d.waits ++ [(n.toNat, ys)], d.steps, d.left⟩, 0) := by unfold write; rw [hS, if_neg (by simp), if_neg (by rw [hy]; simp), hd, if_neg (by simp)]
        rw [e]
        have hl : (lf d == 0) = false := by rw [lf_down] at hd; exact hd
        obtain ⟨hc0, hc1, _, hc3⟩ := HM.out.cells
        have HS := Aside0.mk (And.intro hS (And.intro hd hy))
        have hgW := blk_lt HM.out.blk
        have hglW := Kd.R_lt HM.out.lies gl rfl
        obtain ⟨A, c, hwv, hwc, hwC⟩ := Kd.R_reads HM.out.waits
        rw [List.length_map] at hwv hwC hwc
        subst hwv
        have HWC := Aside0.mk (And.intro hwC (And.intro hgW hglW))
        clear hwC hwc hgW hglW
        go_enter Try.func30, Try.ntmps30
        go_wp2_with (first | (go_at_call 38; refine (ris_c F g gl cl d _ _ W HM.out).mono ?_; rintro e w1 ⟨rfl, hw1⟩; refine of_halt ?_))
        unfold G.Halt
        obtain rfl := hw1.symm
        try rw [hS]
        have hc1' : (W.alloc (.cells #[] 78)).cell? ⟨g, 1, none⟩ = some (.slice A d.waits.length c) := (HM.out.below (below_alloc (Below.refl _ _) _)).cells.2.1
        go_wp2_with (first | ((with_reducible refine gate_builtin (b := .append) (xs := #[.tmp 20, .tmp 24]) rfl ?_); refine of_halt ?_))
        unfold G.Halt
        have hHO : rwK.R 78 (W.alloc (.cells #[] 78)) W.heap.size (fun k => W.heap.size ≤ k) (.slice (some ⟨W.heap.size, 0, none⟩) 0 0) [] := ⟨fun k hk => by simp [Value.ownBlock] at hk; omega, [], World.ownsRow_lit (base := W.heap.size) (e := 78) (size := 2) W #[] 0 (Nat.le_refl _) (by simp [maxLen]) rfl, Reps.none _ _⟩
        have hHR : rwK.C (W.alloc (.cells #[] 78)) A d.waits.length (d.waits.map encR) := Kd.C_below HWC.out.1 (below_alloc (Below.refl _ _) _)
        refine Kd.R_append_rows rwK (Rr := rwK.K (W.alloc (.cells #[] 78))) (w0 := W) W.heap.size rfl (.tmp 20) (.tmp 24) 69 78 zeroRW 24 rfl Try.underlying69 infoRW rfl (by decide) (by decide) (.slice (some ⟨W.heap.size, 0, none⟩) 0 0) [] (d.waits.map encR) A d.waits.length c (fun k => W.heap.size ≤ k) (fun _ => False) rfl rfl hHO hHR (fun x cs h => rwK_M x cs h) (fun _ hk => hk.elim) (fun k hk => by rw [World.size_alloc] at hk; omega) (below_alloc (Below.refl _ _) _) (by rw [World.size_alloc]; omega) (by have := HSM.out.waits; simp; omega) ?_
        intro v2 w2 ho2 hb2 hg2 hat2
        rw [List.nil_append] at ho2
        obtain ⟨A2, c2, rfl⟩ := Kd.R_slice ho2
        rw [List.length_map] at ho2
        rw [List.length_map]
        have HO2 := Aside0.mk (And.intro ho2 hb2)
        clear ho2 hb2 hg2 hat2 hHO hHR hc1'
        go_wp2_with (first | ((with_reducible refine gate_builtin (b := .append) (xs := #[.tmp 25, .tmp 29]) rfl ?_); refine of_halt ?_))
        unfold G.Halt
        refine Kd.R_append rwK (w0 := W) (W := w2) W.heap.size rfl (.tmp 25) (.tmp 29) 69 78 zeroRW 24 rfl Try.underlying69 infoRW rfl (by decide) (by decide) (.slice A2 d.waits.length c2) (d.waits.map encR) (n, strOfNums ys) [.int .i64 n, .string (strOfNums ys)] (fun k => W.heap.size ≤ k) (fun _ => False) rfl rfl ⟨[.int .i64 n], [.string (strOfNums ys)], rfl, rfl, rfl⟩ (fun _ hk => hk.elim) (fun k hk => Nat.le_trans HO2.out.2.size hk) HO2.out.1 HO2.out.2 HO2.out.2.size (by have := HSM.out.waits; rw [List.length_map]; omega) ?_
        intro v3 w3 ho3 hb3 hg3 hat3
        obtain ⟨A3, c3, rfl⟩ := Kd.R_slice ho3
        have hlen3 : (d.waits.map encR ++ [(n, strOfNums ys)]).length = d.waits.length + 1 := by simp
        rw [hlen3] at ho3
        rw [hlen3]
        have hM3 := HM.out.below hb3
        have hc31 := hM3.cells.2.1
        have hz31 := hM3.free 1
        have HO3 := Aside0.mk (And.intro ho3 (And.intro hb3 hM3))
        have hn0 : ((n.toNat : Nat) : Int) = n := Int.toNat_of_nonneg (of_decide_eq_true hS).1
        clear ho3 hb3 hg3 hat3 hM3 hlen3
        have hM8 : RMem (fun k => F k ∨ W.heap.size ≤ k) g gl cl ⟨d.lies, d.waits ++ [(n.toNat, ys)], d.steps, d.left⟩ (.slice A3 (d.waits.length + 1) c3) (w3.setCell ⟨g, 1, none⟩ (.slice A3 (d.waits.length + 1) c3)) := by
          refine HO3.out.2.2.rewait (fun k hk => .inl hk) rfl rfl rfl (blk_put HO3.out.2.2.blk 1 _ rfl) (Below.heap_setCell _ _ _ gl HM.out.ne) ?_ ?_
          · have h9 := Kd.R_far (p := ⟨g, 1, none⟩) HO3.out.1 (fun k hk => by have := HWC.out.2.1; show k ≠ g; have : W.heap.size ≤ k := hk; omega) (.slice A3 (d.waits.length + 1) c3)
            have e : (d.waits ++ [(n.toNat, ys)]).map encR = d.waits.map encR ++ [(n, strOfNums ys)] := by
              rw [List.map_append, List.map_singleton, encR, hn0]
            show Kd.R _ _ _ _ _ _ ((d.waits ++ [(n.toNat, ys)]).map encR)
            rw [e]
            exact Kd.R_mono (Kd.R_lower h9 (Nat.zero_le _)) (fun k hk => by have := HWC.out; have : W.heap.size ≤ k := hk; exact ⟨.inr hk, by omega, by omega⟩)
          · refine ⟨HM.out.ok.some_, HM.out.ok.lies, fun w hw => ?_⟩
            rcases List.mem_append.1 hw with hw | hw
            · exact HM.out.ok.waits w hw
            · obtain rfl : w = (n.toNat, ys) := by simpa using hw
              exact ⟨isS_lt (d := d) hS, hy⟩
        have hk8 : Kp F W (w3.setCell ⟨g, 1, none⟩ (.slice A3 (d.waits.length + 1) c3)) := (Kp.of_below HO3.out.2.1).set (p := ⟨g, 1, none⟩) (.inl HM.out.fg) _
        have HM8 := Aside0.mk (And.intro hM8 hk8)
        clear hM8 hk8 hc0 hc1 hc3
        go_wp2_with (first | (go_at_call 39; refine (rstep_c _ g gl cl _ _ _ HM8.out.1 HSM.out.steps HS.out.2.1 HSM.out.left).mono ?_; rintro e w9 ⟨rfl, hM9, hk9⟩; refine of_halt ?_))
        unfold G.Halt
        have HM9 := Aside0.mk (And.intro hM9 hk9)
        clear hM9 hk9
        go_wp2
        go_ret
        exact ROp.of_mem rfl HM9.out.1 (fun k hk => hk) (HM8.out.2.trans HM9.out.2 (fun q _ hq => by rw [hq]; exact HM.out.fg))
    · have e : write d n ys = (d, 2) := by unfold write; rw [hS, if_neg (by simp), if_pos hy]
      rw [e]
      have f1 : (ys.length = 64) = False := eq_false hy
      have f2 : ((ys.length : Int) = 64) = False := eq_false (by omega)
      have f3 : ((ys.length : Int) == 64) = false := by rw [beq_eq_false_iff_ne]; omega
      have f4 : (((strOfNums ys).size : Int) == 64) = false := by rw [hsz]; exact f3
      go_enter Try.func30, Try.ntmps30
      go_wp2_with (first | (go_at_call 38; refine (ris_c F g gl cl d wv _ W HM.out).mono ?_; rintro e w1 ⟨rfl, hw1⟩; refine of_halt ?_))
      unfold G.Halt
      obtain rfl := hw1.symm
      try rw [hS]
      go_wp2
      go_ret
      exact ROp.same ⟨⟨gl, cl, wv, HM.out⟩, HF.out⟩ rfl (Below.refl _ _)
end Go.Proofs.Ytckbdckeijanlaa.G
/- The reference's disk: Flush. By hand. -/
namespace Go.Proofs.Ytckbdckeijanlaa.G
open Go.RowKit Go.Shelf Go.Proofs.YtckbdckeijanlaaW.PrintWords Go.Proofs.YtckbdckeijanlaaW.PrintLast Go.Proofs.YtckbdckeijanlaaW.PrintMore Go.Proofs.Ytckbdckeijanlaa.Dsk
set_option linter.unusedVariables false
set_option linter.unusedSimpArgs false
/-- A sector's string, set. -/
theorem RMem.put {F : Nat → Prop} {g gl cl : Nat} {d : Dk} {wv : Value} {W : World} (h : RMem F g gl cl d wv W) (i : Nat) (x : List Int) (hi : i < d.lies.length) (hx : x.length = 64) :
    RMem F g gl cl ⟨d.lies.set i x, d.waits, d.steps, d.left⟩ wv (W.setCell ⟨gl, i, none⟩ (.string (strOfNums x))) ∧ Kp (fun k => k = gl) W (W.setCell ⟨gl, i, none⟩ (.string (strOfNums x))) := by
  have hp := Kd.R_putn (enc := Value.string) (h1 := fun _ => rfl) h.lies (i : Int) (strOfNums x)
  rw [Int.toNat_natCast] at hp
  refine ⟨⟨?_, h.fg, h.fl, h.ne, ?_, ?_, ?_⟩, (Kp.refl (fun k => k = gl) W).set (p := ⟨gl, i, none⟩) (Or.inl rfl) _⟩
  · rw [Below.heap_setCell _ _ _ g (Ne.symm h.ne)]
    show _ = some (Obj.cells #[.slice (some ⟨gl, 0, none⟩) (d.lies.set i x).length cl, _, _, _] _ _)
    rw [List.length_set]
    exact h.blk
  · show Kd.R _ _ _ _ _ (.slice _ (d.lies.set i x).length _) ((d.lies.set i x).map strOfNums)
    rw [List.length_set, List.map_set]
    exact hp
  · exact Kd.R_far (p := ⟨gl, i, none⟩) h.waits (fun k hk => hk.2.2) _
  · exact ⟨by show 0 < (d.lies.set i x).length; rw [List.length_set]; exact h.ok.some_, set_ok h.ok.lies i hx, fun w hw => by show w.1 < (d.lies.set i x).length ∧ _; rw [List.length_set]; exact h.ok.waits w hw⟩
theorem settle_snoc' (l : List (List Int)) (ws : List (Nat × List Int)) (w : Nat × List Int) : Dsk.settle l (ws ++ [w]) = (Dsk.settle l ws).set w.1 w.2 := by
  unfold Dsk.settle
  rw [List.foldl_append]
  rfl
set_option maxHeartbeats 8000000 in
set_option maxRecDepth 100000 in
theorem RFlush_c (F : Nat → Prop) (g : Nat) (d : Dk) (W : World) (h : RDisk F g d W) (hs : Small d) :
    Calls Try.prog 31 #[.pointer (some ⟨g, 0, none⟩)] W (ROp F g (Dsk.flush d).1 (Dsk.flush d).2 W) := by
  obtain ⟨⟨gl, cl, wv, hM⟩, hF⟩ := h
  have HM := Aside0.mk hM
  have HF := Aside0.mk hF
  have HSM := Aside0.mk hs
  clear hM hF hs
  cases hd : down d with
  | true =>
    have e : Dsk.flush d = (d, 170) := by unfold Dsk.flush; rw [hd, if_pos rfl]
    rw [e]
    have hl : lf d = 0 := by rw [lf_down] at hd; simpa using hd
    obtain ⟨_, _, _, hc3⟩ := HM.out.cells
    rw [hl] at hc3
    go_enter Try.func31, Try.ntmps31
    go_wp2
    go_ret
    exact ROp.same ⟨⟨gl, cl, wv, HM.out⟩, HF.out⟩ rfl (Below.refl _ _)
  | false =>
    have e : Dsk.flush d = (stepped ⟨Dsk.settle d.lies d.waits, [], d.steps, d.left⟩, 0) := by unfold Dsk.flush; rw [hd, if_neg (by simp)]
    rw [e]
    have hl : (lf d == 0) = false := by rw [lf_down] at hd; exact hd
    obtain ⟨_, _, _, hc3⟩ := HM.out.cells
    obtain ⟨A, c, hwv, hwc, hwC⟩ := Kd.R_reads HM.out.waits
    rw [List.length_map] at hwv hwC hwc
    subst hwv
    have HD := Aside0.mk hd
    clear hwC hwc hd
    go_enter Try.func31, Try.ntmps31
    go_wp2
    clear hc3 hl
    go_loopg [3] (d.waits.length + 1) (fun kq v3 w' => ∃ i : Nat, v3 = .int .i64 (i : Int) ∧ Aside0 (i ≤ d.waits.length ∧ kq + i = d.waits.length + 1) ∧ Aside0 (RMem F g gl cl ⟨Dsk.settle d.lies (d.waits.take i), d.waits, d.steps, d.left⟩ (.slice A d.waits.length c) w' ∧ Kp F W w'))
    case atStart => exact ⟨0, rfl, ⟨by omega⟩, ⟨HM.out, Kp.refl _ _⟩⟩
    case round =>
      obtain ⟨i, rfl, HI, HR⟩ := hrel
      obtain ⟨hc0, hc1, _, hc3⟩ := HR.out.1.cells
      have hz1 := HR.out.1.free 1
      by_cases hi : i < d.waits.length
      · have e1 : ((i : Int) < (d.waits.length : Int)) = True := eq_true (by omega)
        have e2 : (i < d.waits.length) = True := eq_true hi
        have hwC : rwK.C wr A d.waits.length (d.waits.map encR) := by
          obtain ⟨A', c', hv', _, hC'⟩ := Kd.R_reads HR.out.1.waits
          rw [List.length_map] at hv' hC'
          injection hv' with h1 h2 h3
          subst h1
          exact hC'
        obtain ⟨ad, hA, _⟩ := hwC.2.2 (by omega)
        subst hA
        obtain ⟨x, hx⟩ : ∃ x, d.waits[i]? = some x := ⟨_, List.getElem?_eq_getElem hi⟩
        have hxok := HM.out.ok.waits x (List.mem_of_getElem? hx)
        obtain ⟨q0, q1⟩ := rwt_at hwC i hi (encR x) (by rw [List.getElem?_map, hx]; rfl)
        have q0' : wr.cell? (ad.add (i * 2)) = some (.int .i64 ((x.1 : Nat) : Int)) := q0
        have q1' : wr.cell? ⟨(ad.add (i * 2)).block, (ad.add (i * 2)).off + 1, none⟩ = some (.string (strOfNums x.2)) := q1
        have hll : (Dsk.settle d.lies (d.waits.take i)).length = d.lies.length := settle_len _ _
        obtain ⟨hly, hzly⟩ := rly_at HR.out.1.lies x.1 (by show x.1 < (Dsk.settle _ _).length; rw [hll]; exact hxok.1)
        obtain ⟨sold, hsold⟩ : ∃ s, (Dsk.settle d.lies (d.waits.take i)).getD x.1 [] = s := ⟨_, rfl⟩
        have hly' : wr.cell? ⟨gl, x.1, none⟩ = some (.string (strOfNums sold)) := by rw [← hsold]; exact hly
        have hc0' : wr.cell? ⟨g, 0, none⟩ = some (.slice (some ⟨gl, 0, none⟩) d.lies.length cl) := by rw [← hll]; exact hc0
        have hput := (HR.out.1.below (below_drew (Below.refl _ _))).put x.1 x.2 (by show x.1 < (Dsk.settle _ _).length; rw [hll]; exact hxok.1) hxok.2
        have hset : Dsk.settle d.lies (d.waits.take (i + 1)) = (Dsk.settle d.lies (d.waits.take i)).set x.1 x.2 := by rw [List.take_add_one, hx]; exact settle_snoc' _ _ _
        rw [show (⟨Dsk.settle d.lies (d.waits.take i), d.waits, d.steps, d.left⟩ : Dk).lies = Dsk.settle d.lies (d.waits.take i) from rfl, ← hset] at hput
        have HP := Aside0.mk hput
        have w3_ : wrap64 ((i : Int) + 1) = ((i + 1 : Nat) : Int) := by have := HSM.out.waits; unfold wrap64; omega
        have HX := Aside0.mk (show ∃ j, i + 1 + j = d.waits.length from ⟨d.waits.length - (i + 1), by omega⟩)
        have b1 : ((x.1 : Int) < (d.lies.length : Int)) = True := eq_true (by omega)
        have b2 : (x.1 < d.lies.length) = True := eq_true hxok.1
        clear hi hx q0 q1 hly hc0 hsold hput hset hll hxok hwC
        go_upto_region 6 with (fail)
        refine start_ (n := 22) (S := fun w' => w'.cell? ⟨g, 0, none⟩ = some (.slice (some ⟨gl, 0, none⟩) d.lies.length cl) ∧ w'.cell? ⟨g, 1, none⟩ = some (.slice (some ad) d.waits.length c) ∧ w'.cell? (ad.add (i * 2)) = some (.int .i64 ((x.1 : Nat) : Int)) ∧ w'.cell? ⟨(ad.add (i * 2)).block, (ad.add (i * 2)).off + 1, none⟩ = some (.string (strOfNums x.2)) ∧ w'.cell? ⟨gl, x.1, none⟩ = some (.string (strOfNums sold))) (ds := [21]) #[false, false, false, false, false, false, false, false, false, false, false, false, false, false, false, false, false, false, false, false, false, false] (by kernel_rfl) rfl rfl ⟨hc0', hc1, q0', q1', hly'⟩ (fun hHeld => ?_)
        refine pure_ (i := 0) (N := some 18) (v := ?_) (a' := ?_) #[true, false, false, false, false, false, false, false, false, false, false, false, false, false, false, false, false, false, false, false, false, false] rfl rfl (by kernel_rfl) (fun _ _ _ h => h) (Or.inl ⟨by rfl, ?_⟩) ?_ ?_
        rotate_left
        · intro w'
          go_simp
          with_reducible rfl
        rotate_left
        · simp only [Act.put, List.setIfInBounds_toArray, List.set_cons_zero, List.set_cons_succ, i64_w, i32_w]
          rfl
        refine pure_ (i := 1) (N := some 19) (v := ?_) (a' := ?_) #[true, true, false, false, false, false, false, false, false, false, false, false, false, false, false, false, false, false, false, false, false, false] rfl rfl (by kernel_rfl) (fun _ _ _ h => h) (Or.inl ⟨by rfl, ?_⟩) ?_ ?_
        rotate_left
        · intro w'
          go_simp
          with_reducible rfl
        rotate_left
        · simp only [Act.put, List.setIfInBounds_toArray, List.set_cons_zero, List.set_cons_succ, i64_w, i32_w]
          rfl
        refine pure_ (i := 2) (N := some 20) (v := ?_) (a' := ?_) #[true, true, true, false, false, false, false, false, false, false, false, false, false, false, false, false, false, false, false, false, false, false] rfl rfl (by kernel_rfl) (fun _ _ _ h => h) (Or.inl ⟨by rfl, ?_⟩) ?_ ?_
        rotate_left
        · intro w'
          go_simp
          with_reducible rfl
        rotate_left
        · simp only [Act.put, List.setIfInBounds_toArray, List.set_cons_zero, List.set_cons_succ, i64_w, i32_w]
          rfl
        refine pure_ (i := 4) (N := some 22) (v := ?_) (a' := ?_) #[true, true, true, false, true, false, false, false, false, false, false, false, false, false, false, false, false, false, false, false, false, false] rfl rfl (by kernel_rfl) (fun _ _ _ h => h) (Or.inl ⟨by rfl, ?_⟩) ?_ ?_
        rotate_left
        · intro w'
          go_simp
          with_reducible rfl
        rotate_left
        · simp only [Act.put, List.setIfInBounds_toArray, List.set_cons_zero, List.set_cons_succ, i64_w, i32_w]
          rfl
        refine pure_ (i := 5) (N := some 23) (v := ?_) (a' := ?_) #[true, true, true, false, true, true, false, false, false, false, false, false, false, false, false, false, false, false, false, false, false, false] rfl rfl (by kernel_rfl) (fun _ _ _ h => h) (Or.inl ⟨by rfl, ?_⟩) ?_ ?_
        rotate_left
        · intro w'
          go_simp
          with_reducible rfl
        rotate_left
        · simp only [Act.put, List.setIfInBounds_toArray, List.set_cons_zero, List.set_cons_succ, i64_w, i32_w]
          rfl
        refine pure_ (i := 6) (N := some 24) (v := ?_) (a' := ?_) #[true, true, true, false, true, true, true, false, false, false, false, false, false, false, false, false, false, false, false, false, false, false] rfl rfl (by kernel_rfl) (fun _ _ _ h => h) (Or.inl ⟨by rfl, ?_⟩) ?_ ?_
        rotate_left
        · intro w'
          go_simp
          with_reducible rfl
        rotate_left
        · simp only [Act.put, List.setIfInBounds_toArray, List.set_cons_zero, List.set_cons_succ, i64_w, i32_w]
          rfl
        refine pure_ (i := 8) (N := some 26) (v := ?_) (a' := ?_) #[true, true, true, false, true, true, true, false, true, false, false, false, false, false, false, false, false, false, false, false, false, false] rfl rfl (by kernel_rfl) (fun _ _ _ h => h) (Or.inl ⟨by rfl, ?_⟩) ?_ ?_
        rotate_left
        · intro w'
          go_simp
          with_reducible rfl
        rotate_left
        · simp only [Act.put, List.setIfInBounds_toArray, List.set_cons_zero, List.set_cons_succ, i64_w, i32_w]
          rfl
        refine pure_ (i := 12) (N := some 30) (v := ?_) (a' := ?_) #[true, true, true, false, true, true, true, false, true, false, false, false, true, false, false, false, false, false, false, false, false, false] rfl rfl (by kernel_rfl) (fun _ _ _ h => h) (Or.inl ⟨by rfl, ?_⟩) ?_ ?_
        rotate_left
        · intro w'
          go_simp
          with_reducible rfl
        rotate_left
        · simp only [Act.put, List.setIfInBounds_toArray, List.set_cons_zero, List.set_cons_succ, i64_w, i32_w]
          rfl
        refine pure_ (i := 13) (N := some 31) (v := ?_) (a' := ?_) #[true, true, true, false, true, true, true, false, true, false, false, false, true, true, false, false, false, false, false, false, false, false] rfl rfl (by kernel_rfl) (fun _ _ _ h => h) (Or.inl ⟨by rfl, ?_⟩) ?_ ?_
        rotate_left
        · intro w'
          go_simp
          with_reducible rfl
        rotate_left
        · simp only [Act.put, List.setIfInBounds_toArray, List.set_cons_zero, List.set_cons_succ, i64_w, i32_w]
          rfl
        refine pure_ (i := 14) (N := some 32) (v := ?_) (a' := ?_) #[true, true, true, false, true, true, true, false, true, false, false, false, true, true, true, false, false, false, false, false, false, false] rfl rfl (by kernel_rfl) (fun _ _ _ h => h) (Or.inl ⟨by rfl, ?_⟩) ?_ ?_
        rotate_left
        · intro w'
          go_simp
          with_reducible rfl
        rotate_left
        · simp only [Act.put, List.setIfInBounds_toArray, List.set_cons_zero, List.set_cons_succ, i64_w, i32_w]
          rfl
        refine pure_ (i := 16) (N := some 34) (v := ?_) (a' := ?_) #[true, true, true, false, true, true, true, false, true, false, false, false, true, true, true, false, true, false, false, false, false, false] rfl rfl (by kernel_rfl) (fun _ _ _ h => h) (Or.inl ⟨by rfl, ?_⟩) ?_ ?_
        rotate_left
        · intro w'
          go_simp
          with_reducible rfl
        rotate_left
        · simp only [Act.put, List.setIfInBounds_toArray, List.set_cons_zero, List.set_cons_succ, i64_w, i32_w]
          rfl
        refine take_ (i := 3) (N := some 21) (v := ?_) (a' := ?_) #[true, true, true, true, true, true, true, false, true, false, false, false, true, true, true, false, true, false, false, false, false, false] rfl rfl (by kernel_rfl) (fun _ _ _ h => h) (Or.inl ⟨by rfl, ?_⟩) hHeld ?_ ?_
        rotate_left
        · rintro w' ⟨s0, s1, s2, s3, s4⟩
          go_simp
          with_reducible rfl
        rotate_left
        · simp only [Act.put, List.setIfInBounds_toArray, List.set_cons_zero, List.set_cons_succ, i64_w, i32_w]
          rfl
        refine take_ (i := 7) (N := some 25) (v := ?_) (a' := ?_) #[true, true, true, true, true, true, true, true, true, false, false, false, true, true, true, false, true, false, false, false, false, false] rfl rfl (by kernel_rfl) (fun _ _ _ h => h) (Or.inl ⟨by rfl, ?_⟩) hHeld ?_ ?_
        rotate_left
        · rintro w' ⟨s0, s1, s2, s3, s4⟩
          go_simp
          with_reducible rfl
        rotate_left
        · simp only [Act.put, List.setIfInBounds_toArray, List.set_cons_zero, List.set_cons_succ, i64_w, i32_w]
          rfl
        refine pure_ (i := 9) (N := some 27) (v := ?_) (a' := ?_) #[true, true, true, true, true, true, true, true, true, true, false, false, true, true, true, false, true, false, false, false, false, false] rfl rfl (by kernel_rfl) (fun _ _ _ h => h) (Or.inl ⟨by rfl, ?_⟩) ?_ ?_
        rotate_left
        · intro w'
          go_simp
          with_reducible rfl
        rotate_left
        · simp only [Act.put, List.setIfInBounds_toArray, List.set_cons_zero, List.set_cons_succ, i64_w, i32_w]
          rfl
        refine pure_ (i := 10) (N := some 28) (v := ?_) (a' := ?_) #[true, true, true, true, true, true, true, true, true, true, true, false, true, true, true, false, true, false, false, false, false, false] rfl rfl (by kernel_rfl) (fun _ _ _ h => h) (Or.inl ⟨by rfl, ?_⟩) ?_ ?_
        rotate_left
        · intro w'
          go_simp
          with_reducible rfl
        rotate_left
        · simp only [Act.put, List.setIfInBounds_toArray, List.set_cons_zero, List.set_cons_succ, i64_w, i32_w]
          rfl
        refine take_ (i := 11) (N := some 29) (v := ?_) (a' := ?_) #[true, true, true, true, true, true, true, true, true, true, true, true, true, true, true, false, true, false, false, false, false, false] rfl rfl (by kernel_rfl) (fun _ _ _ h => h) (Or.inl ⟨by rfl, ?_⟩) hHeld ?_ ?_
        rotate_left
        · rintro w' ⟨s0, s1, s2, s3, s4⟩
          go_simp
          with_reducible rfl
        rotate_left
        · simp only [Act.put, List.setIfInBounds_toArray, List.set_cons_zero, List.set_cons_succ, i64_w, i32_w]
          rfl
        refine take_ (i := 15) (N := some 33) (v := ?_) (a' := ?_) #[true, true, true, true, true, true, true, true, true, true, true, true, true, true, true, true, true, false, false, false, false, false] rfl rfl (by kernel_rfl) (fun _ _ _ h => h) (Or.inl ⟨by rfl, ?_⟩) hHeld ?_ ?_
        rotate_left
        · rintro w' ⟨s0, s1, s2, s3, s4⟩
          go_simp
          with_reducible rfl
        rotate_left
        · simp only [Act.put, List.setIfInBounds_toArray, List.set_cons_zero, List.set_cons_succ, i64_w, i32_w]
          rfl
        refine pure_ (i := 17) (N := some 35) (v := ?_) (a' := ?_) #[true, true, true, true, true, true, true, true, true, true, true, true, true, true, true, true, true, true, false, false, false, false] rfl rfl (by kernel_rfl) (fun _ _ _ h => h) (Or.inl ⟨by rfl, ?_⟩) ?_ ?_
        rotate_left
        · intro w'
          go_simp
          with_reducible rfl
        rotate_left
        · simp only [Act.put, List.setIfInBounds_toArray, List.set_cons_zero, List.set_cons_succ, i64_w, i32_w]
          rfl
        refine pure_ (i := 18) (N := some 36) (v := ?_) (a' := ?_) #[true, true, true, true, true, true, true, true, true, true, true, true, true, true, true, true, true, true, true, false, false, false] rfl rfl (by kernel_rfl) (fun _ _ _ h => h) (Or.inl ⟨by rfl, ?_⟩) ?_ ?_
        rotate_left
        · intro w'
          go_simp
          with_reducible rfl
        rotate_left
        · simp only [Act.put, List.setIfInBounds_toArray, List.set_cons_zero, List.set_cons_succ, i64_w, i32_w]
          rfl
        refine take_ (i := 19) (N := some 37) (v := ?_) (a' := ?_) #[true, true, true, true, true, true, true, true, true, true, true, true, true, true, true, true, true, true, true, true, false, false] rfl rfl (by kernel_rfl) (fun _ _ _ h => h) (Or.inl ⟨by rfl, ?_⟩) hHeld ?_ ?_
        rotate_left
        · rintro w' ⟨s0, s1, s2, s3, s4⟩
          go_simp
          with_reducible rfl
        rotate_left
        · simp only [Act.put, List.setIfInBounds_toArray, List.set_cons_zero, List.set_cons_succ, i64_w, i32_w]
          rfl
        refine pure_ (i := 20) (N := some 38) (v := ?_) (a' := ?_) #[true, true, true, true, true, true, true, true, true, true, true, true, true, true, true, true, true, true, true, true, true, false] rfl rfl (by kernel_rfl) (fun _ _ _ h => h) (Or.inl ⟨by rfl, ?_⟩) ?_ ?_
        rotate_left
        · intro w'
          go_simp
          with_reducible rfl
        rotate_left
        · simp only [Act.put, List.setIfInBounds_toArray, List.set_cons_zero, List.set_cons_succ, i64_w, i32_w]
          rfl
        refine last_ (i := 21) (N := none) #[true, true, true, true, true, true, true, true, true, true, true, true, true, true, true, true, true, true, true, true, true, true] rfl rfl (by kernel_rfl) (by decide) (fun K hK => ?_)
        refine skip_ (w1 := ?_) (by rfl) rfl ?_ ?_
        rotate_left
        · go_simp
          rfl
        refine hK.out _ _ ?_
        clear hK K
        refine done_ (by kernel_rfl) ?_
        have HP2 := Aside0.mk (And.intro HP.out.1 ((HR.out.2.trans (Kp.of_below (F := F) (below_drew (Below.refl _ _))) (fun q _ hq => hq)).trans HP.out.2 (fun q _ hq => by rw [hq]; exact HM.out.fl)))
        clear HP hzly hly' hc0' q0' q1' hc1
        go_wp2
        go_roundg (gk - 1)
        case measure => have := HI.out; omega
        case rel => exact ⟨i + 1, by first | rw [w3_] | rfl | simp, ⟨by have := HI.out; obtain ⟨j, hj⟩ := HX.out; omega⟩, HP2⟩
      · obtain rfl : i = d.waits.length := by have := HI.out; omega
        rw [List.take_length] at HR hc0
        have hM8 : RMem F g gl cl ⟨Dsk.settle d.lies d.waits, [], d.steps, d.left⟩ (.slice none 0 0) (wr.setCell ⟨g, 1, none⟩ (.slice none 0 0)) :=
          HR.out.1.rewait (fun k hk => hk) rfl rfl rfl (blk_put HR.out.1.blk 1 _ rfl) (Below.heap_setCell _ _ _ gl HM.out.ne) (Kd.R_nil _ _ _ _ _) ⟨HR.out.1.ok.some_, HR.out.1.ok.lies, fun w hw => by cases hw⟩
        have HM8 := Aside0.mk (And.intro hM8 (HR.out.2.set (p := ⟨g, 1, none⟩) (.inl HM.out.fg) (.slice none 0 0)))
        clear hM8
        go_wp2_with (first | (go_at_call 39; refine (rstep_c _ g gl cl _ _ _ HM8.out.1 HSM.out.steps HD.out HSM.out.left).mono ?_; rintro e w9 ⟨rfl, hM9, hk9⟩; refine of_halt ?_))
        unfold G.Halt
        have HM9 := Aside0.mk (And.intro hM9 hk9)
        clear hM9 hk9
        go_wp2
        go_ret
        exact ROp.of_mem rfl HM9.out.1 (fun k hk => .inl hk) (HM8.out.2.trans HM9.out.2 (fun q _ hq => by rw [hq]; exact HM.out.fg))
end Go.Proofs.Ytckbdckeijanlaa.G
/- The reference's disk: Spoil. By hand. -/
namespace Go.Proofs.Ytckbdckeijanlaa.G
open Go.RowKit Go.Shelf Go.Proofs.YtckbdckeijanlaaW.PrintWords Go.Proofs.YtckbdckeijanlaaW.PrintLast Go.Proofs.YtckbdckeijanlaaW.PrintMore Go.Proofs.Ytckbdckeijanlaa.Dsk
set_option linter.unusedVariables false
set_option linter.unusedSimpArgs false
theorem str_bytes (s0 : List Int) (a : Nat) (y : Int) : strOfNums ((bytesOf (strOfNums s0)).set a y) = strOfNums (s0.set a y) := by
  have e : (bytesOf (strOfNums s0)).map (fun n => UInt8.ofNat n.toNat) = s0.map (fun n => UInt8.ofNat n.toNat) := by
    unfold bytesOf
    rw [strOfNums_data, List.map_map, List.map_map]
    refine List.map_congr_left fun n _ => ?_
    show UInt8.ofNat (((UInt8.ofNat n.toNat).toNat : Int)).toNat = _
    rw [Int.toNat_natCast]
    exact UInt8.ofNat_toNat
  apply ByteArray.ext
  apply Array.ext'
  rw [strOfNums_data, strOfNums_data, List.map_set, List.map_set, e]
theorem bytes_new (W : World) (s0 : List Int) (h : s0.length = 64) (a : Nat) (ha : a < 64) (y : Int) :
    (Lib.bytesWorld W 5 (strOfNums s0)).frozen? ⟨W.heap.size, a, none⟩ = false ∧ (∃ v, (Lib.bytesWorld W 5 (strOfNums s0)).cell? ⟨W.heap.size, a, none⟩ = some v) ∧
    ReadsInt ((Lib.bytesWorld W 5 (strOfNums s0)).setCell ⟨W.heap.size, a, none⟩ (.int .u8 y)) .u8 (some ⟨W.heap.size, 0, none⟩) 64 ((bytesOf (strOfNums s0)).set a y) := by
  have hsz : (strOfNums s0).size = 64 := by rw [str_size, h]
  have hc : ∀ j, j < 64 → (Lib.bytesWorld W 5 (strOfNums s0)).cell? ⟨W.heap.size, j, none⟩ = some (.int .u8 ((strOfNums s0).data.toList.getD j 0).toNat) := fun j hj => Lib.bytesWorld_cell W _ _ j (by omega)
  refine ⟨?_, ⟨_, hc a ha⟩, ?_⟩
  · rw [World.frozen?, Lib.bytesWorld_at_new]
    have : ¬ (Lib.bytesCells W 5 (strOfNums s0)).size ≤ a := by
      unfold Lib.bytesCells
      rw [Array.size_append, Array.size_map]
      have : (strOfNums s0).data.size = 64 := hsz
      omega
    simp [this]
  · refine ⟨by rw [List.length_set, bytesOf_length, hsz], by omega, fun _ => ⟨_, rfl, fun j hj => ?_⟩⟩
    rw [add_plain]
    by_cases e : a = j
    · subst e
      rw [World.cell?_setCell_same (h := hc a ha), List.getD_eq_getElem?_getD, List.getElem?_set_self (by rw [bytesOf_length, hsz]; exact ha)]
      rfl
    · rw [World.cell?_setCell_other (h := fun q => e (by injection q)), hc j hj, show ((bytesOf (strOfNums s0)).set a y).getD j 0 = (bytesOf (strOfNums s0)).getD j 0 by rw [List.getD_eq_getElem?_getD, List.getD_eq_getElem?_getD, List.getElem?_set_ne e]]
      have h' : j < (strOfNums s0).data.toList.length := by rw [data_length, hsz]; exact hj
      simp [bytesOf, List.getD_eq_getElem?_getD, List.getElem?_eq_getElem h']
set_option maxHeartbeats 8000000 in
set_option maxRecDepth 100000 in
theorem RSpoil_c (F : Nat → Prop) (g : Nat) (d : Dk) (n at_ y : Int) (W : World) (h : RDisk F g d W) :
    Calls Try.prog 33 #[.pointer (some ⟨g, 0, none⟩), .int .i64 n, .int .i64 at_, .int .u8 y] W (ROp F g (spoil d n at_ y).1 (spoil d n at_ y).2 W) := by
  obtain ⟨⟨gl, cl, wv, hM⟩, hF⟩ := h
  have HM := Aside0.mk hM
  have HF := Aside0.mk hF
  clear hM hF
  by_cases hb : isS d n = false ∨ at_ < 0 ∨ 64 ≤ at_
  · have e : spoil d n at_ y = (d, 4) := by unfold spoil; rw [if_pos hb]
    rw [e]
    have hx : (isS d n = false) ∨ (isS d n = true ∧ (at_ < 0) = True) ∨ (isS d n = true ∧ (at_ < 0) = False ∧ (64 ≤ at_) = True) := by
      cases hS : isS d n with
      | false => exact .inl rfl
      | true =>
        rcases hb with q | q | q
        · rw [hS] at q; cases q
        · exact .inr (.inl ⟨rfl, eq_true q⟩)
        · exact .inr (.inr ⟨rfl, eq_false (by omega), eq_true q⟩)
    clear hb
    rcases hx with e1 | ⟨e1, e2⟩ | ⟨e1, e2, e3⟩
    all_goals
      go_enter Try.func33, Try.ntmps33
      go_wp2_with (first | (go_at_call 38; refine (ris_c F g gl cl d wv n W HM.out).mono ?_; rintro e w1 ⟨rfl, hw1⟩; refine of_halt ?_))
      unfold G.Halt
      obtain rfl := hw1.symm
      try rw [e1]
      go_wp2
      go_ret
      exact ROp.same ⟨⟨gl, cl, wv, HM.out⟩, HF.out⟩ rfl (Below.refl _ _)
  · have hS : isS d n = true := by cases hh : isS d n with | true => rfl | false => exact absurd (.inl hh) hb
    obtain ⟨j, rfl⟩ := Int.eq_ofNat_of_zero_le (of_decide_eq_true hS).1
    obtain ⟨a, rfl⟩ := Int.eq_ofNat_of_zero_le (show 0 ≤ at_ by omega)
    have ha : a < 64 := by omega
    have hj : j < d.lies.length := by have := (of_decide_eq_true hS).2; omega
    have e : spoil d (j : Int) (a : Int) y = (⟨d.lies.set j ((d.lies.getD j []).set a y), d.waits, d.steps, d.left⟩, 0) := by unfold spoil; rw [if_neg hb, Int.toNat_natCast, Int.toNat_natCast]
    rw [e]
    have h64 := getD_ok HM.out.ok.lies hj
    obtain ⟨s0, hs0⟩ : ∃ s0, d.lies.getD j [] = s0 := ⟨_, rfl⟩
    have hly := (rly_at HM.out.lies j hj).1
    have hzl := (rly_at HM.out.lies j hj).2
    rw [hs0] at h64 hly
    rw [hs0]
    have hc0 := HM.out.cells.1
    have hgl := Kd.R_lt HM.out.lies gl rfl
    obtain ⟨b1, b2, b3⟩ := bytes_new W s0 h64 a ha y
    have hbl := bytes_below (Below.refl W.heap.size W) (Nat.le_refl _) 5 (strOfNums s0)
    have hkb := print_bytes (P := Try.prog) 9 22 5 Try.underlying9 Try.underlying22 Try.underlying5 (strOfNums s0) W
    rw [show (strOfNums s0).size = 64 by rw [str_size, h64]] at hkb
    obtain ⟨W1, hW1⟩ : ∃ W1, Lib.bytesWorld W 5 (strOfNums s0) = W1 := ⟨_, rfl⟩
    rw [hW1] at b1 b2 b3 hbl hkb
    obtain ⟨cp, hcp⟩ : ∃ cp, grownCap W 64 0 5 = cp := ⟨_, rfl⟩
    rw [hcp] at hkb
    have hbl2 : Below W.heap.size W (W1.setCell ⟨W.heap.size, a, none⟩ (.int .u8 y)) := below_set hbl (Nat.le_refl _)
    have hst2 : ∀ V, Below (W1.setCell ⟨W.heap.size, a, none⟩ (.int .u8 y)).heap.size (W1.setCell ⟨W.heap.size, a, none⟩ (.int .u8 y)) V → (convert 22 9 (.slice (some ⟨W.heap.size, 0, none⟩) 64 cp)).run Try.prog V = .ok (.string (strOfNums (s0.set a y))) V := fun V hV => by
      rw [← str_bytes]
      exact string_of_reads Try.underlying22 Try.underlying5 Try.underlying9 (ReadsInt.below b3 hV)
    obtain ⟨v1, b2⟩ := b2
    have hM2 := HM.out.below hbl2
    obtain ⟨W2, hW2⟩ : ∃ W2, W1.setCell ⟨W.heap.size, a, none⟩ (.int .u8 y) = W2 := ⟨_, rfl⟩
    rw [hW2] at hM2 hbl2 hst2
    have HB := Aside0.mk (And.intro h64 (And.intro hbl hkb))
    have HB2 := Aside0.mk (And.intro hM2 (And.intro hbl2 (And.intro hst2 hW2)))
    have f1 : ((a : Int) < 0) = False := eq_false (by omega)
    have f2 : (64 ≤ (a : Int)) = False := eq_false (by omega)
    have f3 : (64 ≤ a) = False := eq_false (by omega)
    have f4 : ((a : Int) < 64) = True := eq_true (by omega)
    have f5 : (a < 64) = True := eq_true ha
    have f6 : ((j : Int) < (d.lies.length : Int)) = True := eq_true (by omega)
    have f7 : (j < d.lies.length) = True := eq_true hj
    have HJ := Aside0.mk hj
    clear hb hM2 hbl hbl2 hkb hst2 h64 ha hj hW2 b3 hcp hs0 hW1
    go_enter Try.func33, Try.ntmps33
    go_wp2_with (first | (go_at_call 38; refine (ris_c F g gl cl d wv _ W HM.out).mono ?_; rintro e w1 ⟨rfl, hw1⟩; refine of_halt ?_))
    unfold G.Halt
    obtain rfl := hw1.symm
    try rw [hS]
    go_wp2_with (first | ((with_reducible refine gate_ (.convert 9 22 (.tmp 28)) rfl ?_); refine wpList_exec rfl (exec_convert 9 22 _ _ _ rfl rfl HB.out.2.2) ?_; refine of_halt ?_))
    unfold G.Halt
    clear hc0 hly hzl
    go_upto_region 5 with (fail)
    rw [HB2.out.2.2.2]
    have hc0 := HB2.out.1.cells.1
    obtain ⟨hly, hzl⟩ := rly_at HB2.out.1.lies j HJ.out
    refine start_ (n := 9) (S := fun w' => w'.cell? ⟨g, 0, none⟩ = some (.slice (some ⟨gl, 0, none⟩) d.lies.length cl) ∧ (convert 22 9 (.slice (some ⟨W.heap.size, 0, none⟩) 64 cp)).run Try.prog w' = .ok (.string (strOfNums (s0.set a y))) w' ∧ w'.cell? ⟨gl, j, none⟩ = some (.string (strOfNums (d.lies.getD j [])))) (ds := [8]) #[false, false, false, false, false, false, false, false, false] (by kernel_rfl) rfl rfl ⟨hc0, HB2.out.2.2.1 _ (below_drew (Below.refl _ _)), hly⟩ (fun hHeld => ?_)
    refine pure_ (i := 0) (N := some 34) (v := ?_) (a' := ?_) #[true, false, false, false, false, false, false, false, false] rfl rfl (by kernel_rfl) (fun _ _ _ h => h) (Or.inl ⟨by rfl, ?_⟩) ?_ ?_
    rotate_left
    · intro w'
      go_simp
      with_reducible rfl
    rotate_left
    · simp only [Act.put, List.setIfInBounds_toArray, List.set_cons_zero, List.set_cons_succ, i64_w, i32_w]
      rfl
    refine pure_ (i := 1) (N := some 35) (v := ?_) (a' := ?_) #[true, true, false, false, false, false, false, false, false] rfl rfl (by kernel_rfl) (fun _ _ _ h => h) (Or.inl ⟨by rfl, ?_⟩) ?_ ?_
    rotate_left
    · intro w'
      go_simp
      with_reducible rfl
    rotate_left
    · simp only [Act.put, List.setIfInBounds_toArray, List.set_cons_zero, List.set_cons_succ, i64_w, i32_w]
      rfl
    refine pure_ (i := 2) (N := some 36) (v := ?_) (a' := ?_) #[true, true, true, false, false, false, false, false, false] rfl rfl (by kernel_rfl) (fun _ _ _ h => h) (Or.inl ⟨by rfl, ?_⟩) ?_ ?_
    rotate_left
    · intro w'
      go_simp
      with_reducible rfl
    rotate_left
    · simp only [Act.put, List.setIfInBounds_toArray, List.set_cons_zero, List.set_cons_succ, i64_w, i32_w]
      rfl
    refine pure_ (i := 4) (N := some 38) (v := ?_) (a' := ?_) #[true, true, true, false, true, false, false, false, false] rfl rfl (by kernel_rfl) (fun _ _ _ h => h) (Or.inl ⟨by rfl, ?_⟩) ?_ ?_
    rotate_left
    · intro w'
      go_simp
      with_reducible rfl
    rotate_left
    · simp only [Act.put, List.setIfInBounds_toArray, List.set_cons_zero, List.set_cons_succ, i64_w, i32_w]
      rfl
    refine pure_ (i := 5) (N := some 39) (v := ?_) (a' := ?_) #[true, true, true, false, true, true, false, false, false] rfl rfl (by kernel_rfl) (fun _ _ _ h => h) (Or.inl ⟨by rfl, ?_⟩) ?_ ?_
    rotate_left
    · intro w'
      go_simp
      with_reducible rfl
    rotate_left
    · simp only [Act.put, List.setIfInBounds_toArray, List.set_cons_zero, List.set_cons_succ, i64_w, i32_w]
      rfl
    refine take_ (i := 3) (N := some 37) (v := ?_) (a' := ?_) #[true, true, true, true, true, true, false, false, false] rfl rfl (by kernel_rfl) (fun _ _ _ h => h) (Or.inl ⟨by rfl, ?_⟩) hHeld ?_ ?_
    rotate_left
    · rintro w' ⟨s0, s1, s2⟩
      go_simp
      with_reducible rfl
    rotate_left
    · simp only [Act.put, List.setIfInBounds_toArray, List.set_cons_zero, List.set_cons_succ, i64_w, i32_w]
      rfl
    refine take_ (i := 6) (N := some 40) (v := ?_) (a' := ?_) #[true, true, true, true, true, true, true, false, false] rfl rfl (by kernel_rfl) (fun _ _ _ h => h) (Or.inl ⟨by rfl, ?_⟩) hHeld ?_ ?_
    rotate_left
    · rintro w' ⟨s0, s1, s2⟩
      go_simp
      with_reducible rfl
    rotate_left
    · simp only [Act.put, List.setIfInBounds_toArray, List.set_cons_zero, List.set_cons_succ, i64_w, i32_w]
      rfl
    refine pure_ (i := 7) (N := some 41) (v := ?_) (a' := ?_) #[true, true, true, true, true, true, true, true, false] rfl rfl (by kernel_rfl) (fun _ _ _ h => h) (Or.inl ⟨by rfl, ?_⟩) ?_ ?_
    rotate_left
    · intro w'
      go_simp
      with_reducible rfl
    rotate_left
    · simp only [Act.put, List.setIfInBounds_toArray, List.set_cons_zero, List.set_cons_succ, i64_w, i32_w]
      rfl
    refine last_ (i := 8) (N := none) #[true, true, true, true, true, true, true, true, true] rfl rfl (by kernel_rfl) (by decide) (fun K hK => ?_)
    refine skip_ (w1 := ?_) (by rfl) rfl ?_ ?_
    rotate_left
    · go_simp
      rfl
    refine hK.out _ _ ?_
    clear hK K
    refine done_ (by kernel_rfl) ?_
    have hput := (HB2.out.1.below (below_drew (Below.refl _ _))).put j (s0.set a y) HJ.out (by rw [List.length_set]; exact HB.out.1)
    have HPUT := Aside0.mk hput
    have HK := Aside0.mk (((Kp.of_below (F := F) HB2.out.2.1).trans (Kp.of_below (F := F) (below_drew (Below.refl _ _))) (fun q _ hq => hq)).trans hput.2 (fun q _ hq => by rw [hq]; exact HM.out.fl))
    clear hput hc0 hly hzl
    go_wp2
    go_ret
    exact ROp.of_mem rfl HPUT.out.1 (fun k hk => .inl hk) HK.out
end Go.Proofs.Ytckbdckeijanlaa.G
/- The reference's disk: New. By hand. -/
namespace Go.Proofs.Ytckbdckeijanlaa.G
open Go.RowKit Go.Shelf Go.Proofs.YtckbdckeijanlaaW.PrintWords Go.Proofs.YtckbdckeijanlaaW.PrintLast Go.Proofs.YtckbdckeijanlaaW.PrintMore Go.Proofs.Ytckbdckeijanlaa.Dsk
set_option linter.unusedVariables false
set_option linter.unusedSimpArgs false
set_option maxHeartbeats 8000000 in
set_option maxRecDepth 100000 in
theorem RNew_bad (n : Int) (W : World) (h : n < 1 ∨ 4096 < n) : Calls Try.prog 22 #[.int .i64 n] W fun e w' => e = .returned (.tuple #[.pointer none, .int .i64 2]) ∧ w' = W := by
  by_cases h1 : n < 1
  · clear h
    go_enter Try.func22, Try.ntmps22
    go_wp2
    go_ret2
    exact ⟨rfl, rfl⟩
  · have h2 : 4096 < n := by omega
    clear h
    go_enter Try.func22, Try.ntmps22
    go_wp2
    go_ret2
    exact ⟨rfl, rfl⟩
/-- What makes a new disk of the reference leaves. -/
def RMk (d : Dk) (W : World) (e : Ending) (w' : World) : Prop := ∃ g F, e = .returned (.tuple #[.pointer (some ⟨g, 0, none⟩), .int .i64 0]) ∧ RDisk F g d w' ∧ (∀ k, F k → W.heap.size ≤ k) ∧ Below W.heap.size W w'
/-- A disk that is being made. -/
structure Mkg (W w' : World) (g : Nat) (lv : Value) (xs : List ByteArray) : Prop where
  blk : w'.heap[g]? = some (.cells #[lv, .slice none 0 0, .int .i64 0, .int .i64 (-1)] 71 (0, 0))
  row : Kd.string.R 9 w' W.heap.size (fun k => W.heap.size ≤ k ∧ k ≠ g) lv xs
  bel : Below W.heap.size W w'
set_option maxHeartbeats 8000000 in
set_option maxRecDepth 100000 in
theorem RNew_ok (n : Int) (W : World) (h1 : 1 ≤ n) (h2 : n ≤ 4096) : Calls Try.prog 22 #[.int .i64 n] W (RMk (new n.toNat) W) := by
  obtain ⟨m, rfl⟩ := Int.eq_ofNat_of_zero_le (show 0 ≤ n by omega)
  have f1 : decide ((m : Int) < 1) = false := decide_eq_false (by omega)
  have f2 : decide (4096 < (m : Int)) = false := decide_eq_false (by omega)
  have f3 : (4096 < m) = False := eq_false (by omega)
  have f4 : (m < 1) = False := eq_false (by omega)
  have HN := Aside0.mk (show 1 ≤ m ∧ m ≤ 4096 by omega)
  have info5 : (Try.prog.info? 5).map (fun i => (i.zero, i.size, i.bytes)) = some (some (.int .u8 0), 1, 1) := by kernel_rfl
  have hmk := print_make (P := Try.prog) 22 5 .u8 1 Try.underlying22 info5 (by decide) 64 (by decide)
  have hzs : ∀ V : World, (convert 22 9 (.slice (some ⟨V.heap.size, 0, none⟩) 64 64)).run Try.prog (V.alloc (.cells (madeCells #[.int .u8 0] 64) 5)) = .ok (.string (strOfNums (zeros 64))) (V.alloc (.cells (madeCells #[.int .u8 0] 64) 5)) := fun V =>
    own_string Try.underlying22 Try.underlying5 Try.underlying9 (own_made V 0 5 .u8 64 (Nat.zero_le _) (by decide))
  have HMK := Aside0.mk (And.intro hmk hzs)
  clear h1 h2 hmk hzs info5
  go_enter Try.func22, Try.ntmps22
  go_wp2
  clear f1 f2 f3 f4
  go_loopg [5] (m + 1) (fun kq v5 w' => ∃ i : Nat, v5 = .int .i64 (i : Int) ∧ Aside0 (i ≤ m ∧ kq + i = m + 1) ∧ Aside0 (∃ lv, Mkg W w' W.heap.size lv (List.replicate i (strOfNums (zeros 64)))))
  case atStart => exact ⟨0, rfl, ⟨by omega⟩, ⟨.slice none 0 0, ⟨blk_new W _, Kd.R_nil _ _ _ _ _, below_alloc (Below.refl _ _) _⟩⟩⟩
  case round =>
    obtain ⟨i, rfl, HI, HR⟩ := hrel
    obtain ⟨lv, hM⟩ := HR.out
    by_cases hi : i < m
    · have e1 : ((i : Int) < (m : Int)) = True := eq_true (by omega)
      have e2 : (i < m) = True := eq_true hi
      have w3_ : wrap64 ((i : Int) + 1) = ((i + 1 : Nat) : Int) := by have := HN.out; unfold wrap64; omega
      have HX := Aside0.mk (show ∃ j, i + 1 + j = m from ⟨m - (i + 1), by omega⟩)
      have HMM := Aside0.mk hM
      have hsz : W.heap.size < wr.heap.size := blk_lt hM.blk
      have HSZ := Aside0.mk hsz
      clear HR hM hi hsz
      go_upto_region 7 with (fail)
      refine start_ (n := 12) (S := fun w' => w'.cell? ⟨W.heap.size, 0, none⟩ = some lv) (ds := [8, 11]) #[false, false, false, false, false, false, false, false, false, false, false, false] (by kernel_rfl) rfl rfl ((cells4 (blk_drew HMM.out.blk)).1) (fun hHeld => ?_)
      refine pure_ (i := 0) (N := some 19) (v := ?_) (a' := ?_) #[true, false, false, false, false, false, false, false, false, false, false, false] rfl rfl (by kernel_rfl) (fun _ _ _ h => h) (Or.inl ⟨by rfl, ?_⟩) ?_ ?_
      rotate_left
      · intro w'
        go_simp
        with_reducible rfl
      rotate_left
      · simp only [Act.put, List.setIfInBounds_toArray, List.set_cons_zero, List.set_cons_succ, i64_w, i32_w]
        rfl
      refine pure_ (i := 1) (N := some 20) (v := ?_) (a' := ?_) #[true, true, false, false, false, false, false, false, false, false, false, false] rfl rfl (by kernel_rfl) (fun _ _ _ h => h) (Or.inl ⟨by rfl, ?_⟩) ?_ ?_
      rotate_left
      · intro w'
        go_simp
        with_reducible rfl
      rotate_left
      · simp only [Act.put, List.setIfInBounds_toArray, List.set_cons_zero, List.set_cons_succ, i64_w, i32_w]
        rfl
      refine pure_ (i := 2) (N := some 21) (v := ?_) (a' := ?_) #[true, true, true, false, false, false, false, false, false, false, false, false] rfl rfl (by kernel_rfl) (fun _ _ _ h => h) (Or.inl ⟨by rfl, ?_⟩) ?_ ?_
      rotate_left
      · intro w'
        go_simp
        with_reducible rfl
      rotate_left
      · simp only [Act.put, List.setIfInBounds_toArray, List.set_cons_zero, List.set_cons_succ, i64_w, i32_w]
        rfl
      refine pure_ (i := 3) (N := some 22) (v := ?_) (a' := ?_) #[true, true, true, true, false, false, false, false, false, false, false, false] rfl rfl (by kernel_rfl) (fun _ _ _ h => h) (Or.inl ⟨by rfl, ?_⟩) ?_ ?_
      rotate_left
      · intro w'
        go_simp
        with_reducible rfl
      rotate_left
      · simp only [Act.put, List.setIfInBounds_toArray, List.set_cons_zero, List.set_cons_succ, i64_w, i32_w]
        rfl
      refine take_ (i := 4) (N := some 23) (v := ?_) (a' := ?_) #[true, true, true, true, true, false, false, false, false, false, false, false] rfl rfl (by kernel_rfl) (fun _ _ _ h => h) (Or.inl ⟨by rfl, ?_⟩) hHeld ?_ ?_
      rotate_left
      · intro w' s0
        go_simp
        with_reducible rfl
      rotate_left
      · simp only [Act.put, List.setIfInBounds_toArray, List.set_cons_zero, List.set_cons_succ, i64_w, i32_w]
        rfl
      refine one_ (i := 5) (N := some 24) #[true, true, true, true, true, true, false, false, false, false, false, false] rfl rfl (by kernel_rfl) (by decide) (fun K hK => ?_)
      refine value_ (by rfl) rfl (exec_makeSlice 22 _ _ (.int .i64 ((64 : Nat) : Int)) (.int .i64 ((64 : Nat) : Int)) _ rfl (by rfl) (by rfl) (HMK.out.1 _)) ?_
      refine hK.out _ _ ((cells4 (blk_alloc (blk_drew HMM.out.blk) _)).1) (fun hHeld => ?_)
      clear hK K
      refine norm_ (a' := ?_) ?_ ?_
      rotate_left
      · show Act.put _ (some 24) _ = _
        simp only [Act.put, List.setIfInBounds_toArray, List.set_cons_zero, List.set_cons_succ, i64_w, i32_w]
        rfl
      refine one_ (i := 6) (N := some 25) #[true, true, true, true, true, true, true, false, false, false, false, false] rfl rfl (by kernel_rfl) (by decide) (fun K hK => ?_)
      refine value_ (by rfl) rfl (exec_convert 22 9 _ (.slice (some ⟨wr.drew.heap.size, 0, none⟩) 64 64) _ rfl (by rfl) (HMK.out.2 wr.drew)) ?_
      refine hK.out _ _ (hHeld) (fun hHeld => ?_)
      clear hK K
      refine norm_ (a' := ?_) ?_ ?_
      rotate_left
      · show Act.put _ (some 25) _ = _
        simp only [Act.put, List.setIfInBounds_toArray, List.set_cons_zero, List.set_cons_succ, i64_w, i32_w]
        rfl
      refine one_ (i := 7) (N := some 26) #[true, true, true, true, true, true, true, true, false, false, false, false] rfl rfl (by kernel_rfl) (by decide) (fun K hK => ?_)
      refine value_ (by rfl) rfl (exec_buildSlice1 68 1 0 _ (.string (strOfNums (zeros 64))) _ rfl (by rfl) (buildSlice_one 68 9 1 16 (.string ⟨#[]⟩) _ Try.underlying68 infoStr (by omega) (by omega) rfl rfl _)) ?_
      refine hK.out _ _ ((cells4 (blk_alloc (blk_alloc (blk_drew HMM.out.blk) _) _)).1) (fun hHeld => ?_)
      clear hK K
      refine norm_ (a' := ?_) ?_ ?_
      rotate_left
      · show Act.put _ (some 26) _ = _
        simp only [Act.put, List.setIfInBounds_toArray, List.set_cons_zero, List.set_cons_succ, i64_w, i32_w]
        rfl
      refine last_ (i := 8) (N := some 27) #[true, true, true, true, true, true, true, true, true, false, false, false] rfl rfl (by kernel_rfl) (by decide) (fun K hK => ?_)
      refine Kd.R_append_step Kd.string (w0 := W) (W := wr.drew.alloc (.cells (madeCells #[.int .u8 0] 64) 5)) W.heap.size (by rfl) (.tmp 23) (.tmp 26) 68 9 (.string ⟨#[]⟩) 16 rfl Try.underlying68 infoStr rfl (by decide) (by omega) lv (List.replicate i (strOfNums (zeros 64))) (strOfNums (zeros 64)) [.string (strOfNums (zeros 64))] (fun k => W.heap.size ≤ k ∧ k ≠ W.heap.size) (fun _ => False) rfl rfl rfl (fun _ hk => hk.elim) (fun k hk => by have := HSZ.out; rw [World.size_alloc] at hk; have : wr.heap.size + 1 ≤ k := hk; omega) (Kd.R_alloc (Kd.R_drew HMM.out.row) _) (below_alloc (below_drew1 HMM.out.bel) _) (by have := HSZ.out; rw [World.size_alloc]; show _ ≤ wr.heap.size + 1; omega) (by have := HN.out; have := HI.out; simp; omega) ?_
      intro v7 w7 ho7 hb7 hg7 hat7
      obtain ⟨A7, c7, rfl⟩ := Kd.R_slice ho7
      generalize hl7 : (List.replicate i (strOfNums (zeros 64)) ++ [strOfNums (zeros 64)]).length = L7 at *
      have hblk7 : w7.heap[W.heap.size]? = some (.cells #[lv, .slice none 0 0, .int .i64 0, .int .i64 (-1)] 71 (0, 0)) := blk_grown (blk_alloc (blk_drew HMM.out.blk) _) hg7 (fun e => (HMM.out.row.1 _ e.symm).2 rfl)
      have hd7 := (cells4 hblk7).1
      have hz7 := blk_frozen hblk7 0
      have HO7 := Aside0.mk (And.intro ho7 (And.intro hb7 hblk7))
      clear ho7 hb7 hg7 hat7 hblk7 hl7
      refine hK.out _ _ ?_
      clear hK K
      refine norm_ (a' := ?_) ?_ ?_
      rotate_left
      · show Act.put _ (some 27) _ = _
        simp only [Act.put, List.setIfInBounds_toArray, List.set_cons_zero, List.set_cons_succ, i64_w, i32_w]
        rfl
      refine pure_ (i := 9) (N := some 28) (v := ?_) (a' := ?_) #[true, true, true, true, true, true, true, true, true, true, false, false] rfl rfl (by kernel_rfl) (fun _ _ _ h => h) (Or.inl ⟨by rfl, ?_⟩) ?_ ?_
      rotate_left
      · intro w'
        go_simp
        with_reducible rfl
      rotate_left
      · simp only [Act.put, List.setIfInBounds_toArray, List.set_cons_zero, List.set_cons_succ, i64_w, i32_w]
        rfl
      refine pure_ (i := 10) (N := some 29) (v := ?_) (a' := ?_) #[true, true, true, true, true, true, true, true, true, true, true, false] rfl rfl (by kernel_rfl) (fun _ _ _ h => h) (Or.inl ⟨by rfl, ?_⟩) ?_ ?_
      rotate_left
      · intro w'
        go_simp
        with_reducible rfl
      rotate_left
      · simp only [Act.put, List.setIfInBounds_toArray, List.set_cons_zero, List.set_cons_succ, i64_w, i32_w]
        rfl
      refine last_ (i := 11) (N := none) #[true, true, true, true, true, true, true, true, true, true, true, true] rfl rfl (by kernel_rfl) (by decide) (fun K hK => ?_)
      refine skip_ (w1 := ?_) (by rfl) rfl ?_ ?_
      rotate_left
      · go_simp
        rfl
      refine hK.out _ _ ?_
      clear hK K
      refine done_ (by kernel_rfl) ?_
      have hnew : Mkg W (w7.setCell ⟨W.heap.size, 0, none⟩ (.slice A7 L7 c7)) W.heap.size (.slice A7 L7 c7) (List.replicate (i + 1) (strOfNums (zeros 64))) := by
        refine ⟨blk_put HO7.out.2.2 0 _ rfl, ?_, below_set HO7.out.2.1 (Nat.le_refl _)⟩
        rw [List.replicate_succ']
        exact Kd.R_far (p := ⟨W.heap.size, 0, none⟩) HO7.out.1 (fun k hk => hk.2) _
      have HNEW := Aside0.mk hnew
      clear hnew hd7 hz7
      go_wp2
      go_roundg (gk - 1)
      case measure => have := HI.out; omega
      case rel => exact ⟨i + 1, by first | rw [w3_] | rfl | simp, ⟨by have := HI.out; obtain ⟨j, hj⟩ := HX.out; omega⟩, ⟨_, HNEW.out⟩⟩
    · obtain rfl : i = m := by have := HI.out; omega
      have HMM := Aside0.mk hM
      clear HR hM hi
      go_wp2
      go_ret2
      have hpos : 0 < (List.replicate i (strOfNums (zeros 64))).length := by have := HN.out; simp; omega
      obtain ⟨gl, cl, rfl, hgl, hgl2, _⟩ := Kd.R_form HMM.out.row hpos
      have hne := (HMM.out.row.1 gl rfl).2
      have hrow := HMM.out.row
      have hblk := HMM.out.blk
      rw [List.length_replicate] at hrow hblk
      refine ⟨W.heap.size, _, rfl, RDisk.of (F := fun k => W.heap.size ≤ k) (gl := gl) (cl := cl) (wv := .slice none 0 0) ⟨?_, Nat.le_refl _, hgl, hne, ?_, Kd.R_nil _ _ _ _ _, new_ok (by have := HN.out; rw [Int.toNat_natCast]; omega)⟩, fun k hk => hk.1, HMM.out.bel⟩
      · have hl : (new ((i : Int)).toNat).lies.length = i := by rw [Int.toNat_natCast]; simp [new]
        rw [hl]
        exact hblk
      · have hl : (new ((i : Int)).toNat).lies.length = i := by rw [Int.toNat_natCast]; simp [new]
        have hm : (new ((i : Int)).toNat).lies.map strOfNums = List.replicate i (strOfNums (zeros 64)) := by rw [Int.toNat_natCast]; simp [new]
        rw [hl, hm]
        exact Kd.R_mono (Kd.R_tight rfl (Kd.R_lower hrow (Nat.zero_le _))) (fun k hk => by simpa [Value.ownBlock] using hk)
end Go.Proofs.Ytckbdckeijanlaa.G
/- The reference's disk: Crash. By hand. -/
namespace Go.Proofs.Ytckbdckeijanlaa.G
open Go.RowKit Go.Shelf Go.Proofs.YtckbdckeijanlaaW.PrintWords Go.Proofs.YtckbdckeijanlaaW.PrintLast Go.Proofs.YtckbdckeijanlaaW.PrintMore Go.Proofs.Ytckbdckeijanlaa.Dsk
set_option linter.unusedVariables false
set_option linter.unusedSimpArgs false
theorem crashL_snoc : ∀ (ws : List (Nat × List Int)) (ks : List Int) (l : List (List Int)) (w : Nat × List Int) (k : Int), ws.length = ks.length → crashL l (ws ++ [w]) (ks ++ [k]) = torn (crashL l ws ks) w (clamp k)
  | [], [], l, w, k, _ => rfl
  | w0 :: ws, k0 :: ks, l, w, k, h => by
    show crashL (torn l w0 (clamp k0)) (ws ++ [w]) (ks ++ [k]) = _
    rw [crashL_snoc ws ks _ w k (by simpa using h)]
    rfl
theorem crashL_min : ∀ (ws : List (Nat × List Int)) (ks : List Int) (l : List (List Int)) (i : Nat), (ws.length ≤ i ∨ ks.length ≤ i) → crashL l (ws.take i) (ks.take i) = crashL l ws ks
  | [], ks, l, i, _ => by simp [crashL]
  | w :: ws, [], l, i, _ => by cases i <;> simp [crashL]
  | w :: ws, k :: ks, l, 0, h => by simp at h
  | w :: ws, k :: ks, l, i + 1, h => by
    show crashL (torn l w (clamp k)) (ws.take i) (ks.take i) = crashL (torn l w (clamp k)) ws ks
    exact crashL_min ws ks _ i (by simpa using h)
theorem crashL_step (ws : List (Nat × List Int)) (ks : List Int) (l : List (List Int)) (i : Nat) (w : Nat × List Int) (k : Int) (hw : ws[i]? = some w) (hk : ks[i]? = some k) : crashL l (ws.take (i + 1)) (ks.take (i + 1)) = torn (crashL l (ws.take i) (ks.take i)) w (clamp k) := by
  have h1 := (List.getElem?_eq_some_iff.1 hw).1
  have h2 := (List.getElem?_eq_some_iff.1 hk).1
  rw [List.take_add_one, List.take_add_one, hw, hk]
  exact crashL_snoc _ _ _ _ _ (by rw [List.length_take, List.length_take]; omega)
theorem str_take (xs : List Int) (k : Nat) : (strOfNums xs).extract 0 k = strOfNums (xs.take k) := by
  apply ByteArray.ext
  apply Array.ext'
  rw [ByteArray.data_extract, Array.toList_extract, strOfNums_data, strOfNums_data, List.map_take]
  simp
theorem str_drop (xs : List Int) (k : Nat) : (strOfNums xs).extract k (strOfNums xs).size = strOfNums (xs.drop k) := by
  apply ByteArray.ext
  apply Array.ext'
  rw [ByteArray.data_extract, Array.toList_extract, strOfNums_data, strOfNums_data, List.map_drop, str_size]
  simp only [List.extract_eq_take_drop]
  exact List.take_of_length_le (by simp)
section
variable {P : Program} {o : Oper} {a : Act} {W : World}
theorem exec_cut_hi (t : TypeId) (x y : Operand) (xs : List Int) (k : Nat) (ht : P.underlying t = some .string) (hk : k ≤ xs.length) (ho : o.op = .slice t x none (some y) none) (hx : a.eval x = .string (strOfNums xs)) (hy : a.eval y = .int .i64 (k : Int)) : (execOp a.eval o).run P W = .ok (.value (.string (strOfNums (xs.take k)))) W := by
  have h := run_slice_string_h (P := P) W t (strOfNums xs) ht .i64 (k : Int) (by omega) (by rw [str_size]; omega)
  rw [Int.toNat_natCast, str_take] at h
  unfold execOp
  have h2 : ∀ v, (Instr.sliceAt t v = Instr.sliceAt t v) := fun _ => rfl
  simp only [ho, Sem.run_bind, hx, hy, Option.map_some, Option.map_none]
  unfold Instr.sliceAt
  simp only [Sem.run_bind, run_underlying ht, h, Result.andThen_ok]
  rfl
theorem exec_cut_lo (t : TypeId) (x y : Operand) (xs : List Int) (k : Nat) (ht : P.underlying t = some .string) (hk : k ≤ xs.length) (ho : o.op = .slice t x (some y) none none) (hx : a.eval x = .string (strOfNums xs)) (hy : a.eval y = .int .i64 (k : Int)) : (execOp a.eval o).run P W = .ok (.value (.string (strOfNums (xs.drop k)))) W := by
  have h := run_slice_string_l (P := P) W t (strOfNums xs) ht .i64 (k : Int) (by omega) (by rw [str_size]; omega)
  rw [Int.toNat_natCast, str_drop] at h
  unfold execOp
  have h2 : ∀ v, (Instr.sliceAt t v = Instr.sliceAt t v) := fun _ => rfl
  simp only [ho, Sem.run_bind, hx, hy, Option.map_some, Option.map_none]
  unfold Instr.sliceAt
  simp only [Sem.run_bind, run_underlying ht, h, Result.andThen_ok]
  rfl
end
/-- What Crash of the reference leaves. -/
def RCr (d : Dk) (W : World) (e : Ending) (w' : World) : Prop := ∃ g F, e = .returned (.pointer (some ⟨g, 0, none⟩)) ∧ RDisk F g d w' ∧ (∀ k, F k → W.heap.size ≤ k) ∧ Below W.heap.size W w'
set_option maxHeartbeats 8000000 in
set_option maxRecDepth 100000 in
theorem RCrash_c (F : Nat → Prop) (g : Nat) (d : Dk) (ks : List Int) (K : Option Addr) (cm : Nat) (W : World) (h : RDisk F g d W) (hs : Small d) (hK : Kd.C (Kd.int .i64) W K ks.length ks) (hkc : ks.length ≤ cm) :
    Calls Try.prog 35 #[.pointer (some ⟨g, 0, none⟩), .slice K ks.length cm] W (RCr (crash d ks) W) := by
  obtain ⟨⟨gl, cl, wv, hM⟩, hF⟩ := h
  have HM := Aside0.mk hM
  have HF := Aside0.mk hF
  have HSM := Aside0.mk hs
  have HKC := Aside0.mk hK
  obtain ⟨A, c, hwv, hwc, hwC⟩ := Kd.R_reads HM.out.waits
  rw [List.length_map] at hwv hwC hwc
  subst hwv
  have HWC := Aside0.mk hwC
  have hc0' : (W.alloc (.cells #[] 9)).cell? ⟨g, 0, none⟩ = some (.slice (some ⟨gl, 0, none⟩) d.lies.length cl) := (HM.out.below (below_alloc (Below.refl _ _) _)).cells.1
  clear hM hF hs hK hkc hwC hwc
  go_enter Try.func35, Try.ntmps35
  go_wp2_with (first | ((with_reducible refine gate_builtin (b := .append) (xs := #[.tmp 9, .tmp 13]) rfl ?_); refine of_halt ?_))
  unfold G.Halt
  have hHO : Kd.string.R 9 (W.alloc (.cells #[] 9)) W.heap.size (fun k => W.heap.size ≤ k) (.slice (some ⟨W.heap.size, 0, none⟩) 0 0) [] := ⟨fun k hk => by simp [Value.ownBlock] at hk; omega, [], World.ownsRow_lit (base := W.heap.size) (e := 9) (size := 1) W #[] 0 (Nat.le_refl _) (by simp [maxLen]) rfl, Reps.none _ _⟩
  have hHR : Kd.string.C (W.alloc (.cells #[] 9)) (some ⟨gl, 0, none⟩) d.lies.length (d.lies.map strOfNums) := by
    have := (Kd.R_reads' (HM.out.below (below_alloc (Below.refl _ _) (.cells #[] 9))).lies).2.2
    rwa [List.length_map] at this
  refine Kd.R_append_rows Kd.string (Rr := Kd.string.K (W.alloc (.cells #[] 9))) (w0 := W) W.heap.size rfl (.tmp 9) (.tmp 13) 68 9 (.string ⟨#[]⟩) 16 rfl Try.underlying68 infoStr rfl (by decide) (by decide) (.slice (some ⟨W.heap.size, 0, none⟩) 0 0) [] (d.lies.map strOfNums) (some ⟨gl, 0, none⟩) d.lies.length cl (fun k => W.heap.size ≤ k) (fun _ => False) rfl rfl hHO hHR (fun x cs h => h) (fun _ hk => hk.elim) (fun k hk => by rw [World.size_alloc] at hk; omega) (below_alloc (Below.refl _ _) _) (by rw [World.size_alloc]; omega) (by have := HSM.out.lies; simp; omega) ?_
  intro v2 w2 ho2 hb2 hg2 hat2
  rw [List.nil_append] at ho2
  obtain ⟨gl2, cl2, rfl, hgl, hgl2, _⟩ := Kd.R_form ho2 (by rw [List.length_map]; exact HM.out.ok.some_)
  rw [List.length_map] at ho2
  rw [List.length_map]
  have HO2 := Aside0.mk (And.intro ho2 hb2)
  clear ho2 hb2 hg2 hat2 hHO hHR hc0'
  have hM0 : RMem (fun k => W.heap.size ≤ k) w2.heap.size gl2 cl2 ⟨d.lies, [], 0, none⟩ (.slice none 0 0) (w2.alloc (.cells #[.slice (some ⟨gl2, 0, none⟩) d.lies.length cl2, .slice none 0 0, .int .i64 0, .int .i64 (-1)] 71)) := by
    refine ⟨blk_new w2 _, HO2.out.2.size, hgl, by omega, ?_, Kd.R_nil _ _ _ _ _, ⟨HM.out.ok.some_, HM.out.ok.lies, fun w hw => by cases hw⟩⟩
    exact Kd.R_mono (Kd.R_tight rfl (Kd.R_lower (Kd.R_alloc HO2.out.1 _) (Nat.zero_le _))) (fun k hk => by simpa [Value.ownBlock] using hk)
  have HM0 := Aside0.mk (And.intro hM0 (below_alloc HO2.out.2 (.cells #[.slice (some ⟨gl2, 0, none⟩) d.lies.length cl2, .slice none 0 0, .int .i64 0, .int .i64 (-1)] 71)))
  clear hM0
  go_wp2
  go_loopg [6] (d.waits.length + ks.length + 1) (fun kq v6 w' => ∃ i : Nat, v6 = .int .i64 (i : Int) ∧ Aside0 (i ≤ d.waits.length ∧ i ≤ ks.length ∧ kq + i = d.waits.length + ks.length + 1) ∧ Aside0 (RMem (fun k => W.heap.size ≤ k) w2.heap.size gl2 cl2 ⟨crashL d.lies (d.waits.take i) (ks.take i), [], 0, none⟩ (.slice none 0 0) w' ∧ Below W.heap.size W w'))
  case atStart => exact ⟨0, rfl, ⟨by omega⟩, HM0⟩
  case round =>
    obtain ⟨i, rfl, HI, HR⟩ := hrel
    have HMr := Aside0.mk (HM.out.below HR.out.2)
    obtain ⟨hc0, hc1, _, hc3⟩ := HMr.out.cells
    by_cases hi : i < d.waits.length ∧ i < ks.length
    · have e1 : ((i : Int) < (d.waits.length : Int)) = True := eq_true (by omega)
      have e2 : (i < d.waits.length) = True := eq_true hi.1
      have e3 : ((i : Int) < (ks.length : Int)) = True := eq_true (by omega)
      have e4 : (i < ks.length) = True := eq_true hi.2
      obtain ⟨ad, hA, _⟩ := HWC.out.2.2 (by omega)
      subst hA
      obtain ⟨x, hx⟩ : ∃ x, d.waits[i]? = some x := ⟨_, List.getElem?_eq_getElem hi.1⟩
      have hxok := HM.out.ok.waits x (List.mem_of_getElem? hx)
      obtain ⟨q0, q1⟩ := rwt_at (Kd.C_below HWC.out HR.out.2) i hi.1 (encR x) (by rw [List.getElem?_map, hx]; rfl)
      have q0' : wr.cell? (ad.add (i * 2)) = some (.int .i64 ((x.1 : Nat) : Int)) := q0
      have q1' : wr.cell? ⟨(ad.add (i * 2)).block, (ad.add (i * 2)).off + 1, none⟩ = some (.string (strOfNums x.2)) := q1
      obtain ⟨kv, hkv⟩ : ∃ kv, ks[i]? = some kv := ⟨_, List.getElem?_eq_getElem hi.2⟩
      obtain ⟨kad, hK, hkc⟩ := (Kd.C_below HKC.out HR.out.2).2.2 (by omega)
      subst hK
      have hkcell : wr.cell? (kad.add i) = some (.int .i64 kv) := by
        obtain ⟨cb, p1, p2, p3⟩ := hkc i kv hkv
        have p2' : cb = [.int .i64 kv] := p2
        subst p2'
        have := p3 0 (.int .i64 kv) rfl
        simpa [Kd.int, Kd.scalar] using this
      have hstep := crashL_step d.waits ks d.lies i x kv hx hkv
      have w3_ : wrap64 ((i : Int) + 1) = ((i + 1 : Nat) : Int) := by have := HSM.out.waits; unfold wrap64; omega
      have HX := Aside0.mk (show (∃ j, i + 1 + j = d.waits.length) ∧ ∃ j, i + 1 + j = ks.length from ⟨⟨d.waits.length - (i + 1), by omega⟩, ⟨ks.length - (i + 1), by omega⟩⟩)
      have HST := Aside0.mk (And.intro hstep hxok)
      clear hi hx hkv hkc q0 q1 hstep hxok
      have hal := below_alloc (Below.refl wr.heap.size wr) (.cells #[.int .i64 ((x.1 : Nat) : Int), .string (strOfNums x.2)] 78)
      have hblk5 := blk_new wr (.cells #[.int .i64 ((x.1 : Nat) : Int), .string (strOfNums x.2)] 78)
      have hM5 := HR.out.1.below hal
      have hb5 := HR.out.2.trans (hal.mono HR.out.2.size)
      obtain ⟨W5, hW5⟩ : ∃ W5, wr.alloc (.cells #[.int .i64 ((x.1 : Nat) : Int), .string (strOfNums x.2)] 78) = W5 := ⟨_, rfl⟩
      rw [hW5] at hblk5 hM5 hb5
      have hll : (crashL d.lies (d.waits.take i) (ks.take i)).length = d.lies.length := (crashL_ok _ _ _ HM.out.ok.lies (fun w hw => HM.out.ok.waits w (List.mem_of_mem_take hw))).1
      have hxl := HST.out.2.1
      obtain ⟨hly, hzly⟩ := rly_at hM5.lies x.1 (by show x.1 < (crashL _ _ _).length; rw [hll]; exact hxl)
      have hs64 := getD_ok hM5.ok.lies (i := x.1) (by show x.1 < (crashL _ _ _).length; rw [hll]; exact hxl)
      obtain ⟨sold, hsold⟩ : ∃ s, (crashL d.lies (d.waits.take i) (ks.take i)).getD x.1 [] = s := ⟨_, rfl⟩
      have hly' : W5.cell? ⟨gl2, x.1, none⟩ = some (.string (strOfNums sold)) := by rw [← hsold]; exact hly
      have hs64' : sold.length = 64 := by rw [← hsold]; exact hs64
      have hc20 : W5.cell? ⟨w2.heap.size, 0, none⟩ = some (.slice (some ⟨gl2, 0, none⟩) d.lies.length cl2) := by rw [← hll]; exact hM5.cells.1
      have hx0 : W5.cell? ⟨wr.heap.size, 0, none⟩ = some (.int .i64 ((x.1 : Nat) : Int)) := (blk_cell hblk5 0).trans rfl
      have hx1 : W5.cell? ⟨wr.heap.size, 1, none⟩ = some (.string (strOfNums x.2)) := (blk_cell hblk5 1).trans rfl
      have hput := (hM5.below (below_drew (Below.refl _ _))).put x.1 (x.2.take (clamp kv) ++ sold.drop (clamp kv)) (by show x.1 < (crashL _ _ _).length; rw [hll]; exact hxl) (by have := HST.out.2.2; have := clamp_le kv; rw [List.length_append, List.length_take, List.length_drop]; omega)
      have hset : crashL d.lies (d.waits.take (i + 1)) (ks.take (i + 1)) = (crashL d.lies (d.waits.take i) (ks.take i)).set x.1 (x.2.take (clamp kv) ++ sold.drop (clamp kv)) := by rw [HST.out.1]; unfold torn; rw [hsold]
      rw [show (⟨crashL d.lies (d.waits.take i) (ks.take i), [], 0, none⟩ : Dk).lies = crashL d.lies (d.waits.take i) (ks.take i) from rfl, ← hset] at hput
      have HB5 := Aside0.mk (And.intro hput.1 ((hb5.trans (Below.mono (below_drew (Below.refl _ _)) hb5.size)).trans (hput.2.below hb5.size (fun k hk he => by have : k = gl2 := he; omega))))
      have HW5 := Aside0.mk hW5
      have HC := Aside0.mk (And.intro HST.out.2.2 (And.intro hs64' (clamp_le kv)))
      have hsz : (9223372036854775807 < (strOfNums (x.2.take (clamp kv))).size + (strOfNums (sold.drop (clamp kv))).size) = False := eq_false (by
        rw [str_size, str_size, List.length_take, List.length_drop]; have := HC.out; omega)
      have hst := str_append (x.2.take (clamp kv)) (sold.drop (clamp kv))
      have b1 : ((x.1 : Int) < (d.lies.length : Int)) = True := eq_true (by omega)
      have b2 : (x.1 < d.lies.length) = True := eq_true hxl
      clear hal hblk5 hM5 hb5 hly hs64 hput hset hsold hll hW5 hs64' hxl
      have hcl : (kv < 0 ∧ (0 : Int) = (clamp kv : Int)) ∨ (¬ kv < 0 ∧ 64 < kv ∧ (64 : Int) = (clamp kv : Int)) ∨ (¬ kv < 0 ∧ ¬ 64 < kv ∧ kv = (clamp kv : Int)) := by unfold clamp; omega
      have hcl' : ((kv < 0) = True ∧ Aside0 ((0 : Int) = (clamp kv : Int))) ∨ ((kv < 0) = False ∧ (64 < kv) = True ∧ Aside0 ((64 : Int) = (clamp kv : Int))) ∨ ((kv < 0) = False ∧ (64 < kv) = False ∧ Aside0 (kv = (clamp kv : Int))) := by
        rcases hcl with ⟨h1, h2⟩ | ⟨h1, h2, h3⟩ | ⟨h1, h2, h3⟩
        · exact .inl ⟨eq_true h1, ⟨h2⟩⟩
        · exact .inr (.inl ⟨eq_false h1, eq_true h2, ⟨h3⟩⟩)
        · exact .inr (.inr ⟨eq_false h1, eq_false h2, ⟨h3⟩⟩)
      clear hcl
      rcases hcl' with ⟨k1, HKI⟩ | ⟨k1, k2, HKI⟩ | ⟨k1, k2, HKI⟩
      all_goals
        go_upto_region 11 with (fail)
        rw [HW5.out]
        refine start_ (n := 23) (S := fun w' => w'.cell? ⟨w2.heap.size, 0, none⟩ = some (.slice (some ⟨gl2, 0, none⟩) d.lies.length cl2) ∧ w'.cell? ⟨wr.heap.size, 0, none⟩ = some (.int .i64 ((x.1 : Nat) : Int)) ∧ w'.cell? ⟨wr.heap.size, 1, none⟩ = some (.string (strOfNums x.2)) ∧ w'.cell? ⟨gl2, x.1, none⟩ = some (.string (strOfNums sold))) (ds := [22]) #[false, false, false, false, false, false, false, false, false, false, false, false, false, false, false, false, false, false, false, false, false, false, false] (by kernel_rfl) rfl rfl ⟨hc20, hx0, hx1, hly'⟩ (fun hHeld => ?_)
        refine pure_ (i := 0) (N := some 47) (v := ?_) (a' := ?_) #[true, false, false, false, false, false, false, false, false, false, false, false, false, false, false, false, false, false, false, false, false, false, false] rfl rfl (by kernel_rfl) (fun _ _ _ h => h) (Or.inl ⟨by rfl, ?_⟩) ?_ ?_
        rotate_left
        · intro w'
          go_simp
          with_reducible rfl
        rotate_left
        · simp only [Act.put, List.setIfInBounds_toArray, List.set_cons_zero, List.set_cons_succ, i64_w, i32_w]
          rfl
        refine pure_ (i := 1) (N := some 48) (v := ?_) (a' := ?_) #[true, true, false, false, false, false, false, false, false, false, false, false, false, false, false, false, false, false, false, false, false, false, false] rfl rfl (by kernel_rfl) (fun _ _ _ h => h) (Or.inl ⟨by rfl, ?_⟩) ?_ ?_
        rotate_left
        · intro w'
          go_simp
          with_reducible rfl
        rotate_left
        · simp only [Act.put, List.setIfInBounds_toArray, List.set_cons_zero, List.set_cons_succ, i64_w, i32_w]
          rfl
        refine pure_ (i := 2) (N := some 49) (v := ?_) (a' := ?_) #[true, true, true, false, false, false, false, false, false, false, false, false, false, false, false, false, false, false, false, false, false, false, false] rfl rfl (by kernel_rfl) (fun _ _ _ h => h) (Or.inl ⟨by rfl, ?_⟩) ?_ ?_
        rotate_left
        · intro w'
          go_simp
          with_reducible rfl
        rotate_left
        · simp only [Act.put, List.setIfInBounds_toArray, List.set_cons_zero, List.set_cons_succ, i64_w, i32_w]
          rfl
        refine pure_ (i := 4) (N := some 51) (v := ?_) (a' := ?_) #[true, true, true, false, true, false, false, false, false, false, false, false, false, false, false, false, false, false, false, false, false, false, false] rfl rfl (by kernel_rfl) (fun _ _ _ h => h) (Or.inl ⟨by rfl, ?_⟩) ?_ ?_
        rotate_left
        · intro w'
          go_simp
          with_reducible rfl
        rotate_left
        · simp only [Act.put, List.setIfInBounds_toArray, List.set_cons_zero, List.set_cons_succ, i64_w, i32_w]
          rfl
        refine pure_ (i := 6) (N := some 53) (v := ?_) (a' := ?_) #[true, true, true, false, true, false, true, false, false, false, false, false, false, false, false, false, false, false, false, false, false, false, false] rfl rfl (by kernel_rfl) (fun _ _ _ h => h) (Or.inl ⟨by rfl, ?_⟩) ?_ ?_
        rotate_left
        · intro w'
          go_simp
          with_reducible rfl
        rotate_left
        · simp only [Act.put, List.setIfInBounds_toArray, List.set_cons_zero, List.set_cons_succ, i64_w, i32_w]
          rfl
        refine pure_ (i := 8) (N := some 55) (v := ?_) (a' := ?_) #[true, true, true, false, true, false, true, false, true, false, false, false, false, false, false, false, false, false, false, false, false, false, false] rfl rfl (by kernel_rfl) (fun _ _ _ h => h) (Or.inl ⟨by rfl, ?_⟩) ?_ ?_
        rotate_left
        · intro w'
          go_simp
          with_reducible rfl
        rotate_left
        · simp only [Act.put, List.setIfInBounds_toArray, List.set_cons_zero, List.set_cons_succ, i64_w, i32_w]
          rfl
        refine pure_ (i := 10) (N := some 57) (v := ?_) (a' := ?_) #[true, true, true, false, true, false, true, false, true, false, true, false, false, false, false, false, false, false, false, false, false, false, false] rfl rfl (by kernel_rfl) (fun _ _ _ h => h) (Or.inl ⟨by rfl, ?_⟩) ?_ ?_
        rotate_left
        · intro w'
          go_simp
          with_reducible rfl
        rotate_left
        · simp only [Act.put, List.setIfInBounds_toArray, List.set_cons_zero, List.set_cons_succ, i64_w, i32_w]
          rfl
        refine pure_ (i := 11) (N := some 58) (v := ?_) (a' := ?_) #[true, true, true, false, true, false, true, false, true, false, true, true, false, false, false, false, false, false, false, false, false, false, false] rfl rfl (by kernel_rfl) (fun _ _ _ h => h) (Or.inl ⟨by rfl, ?_⟩) ?_ ?_
        rotate_left
        · intro w'
          go_simp
          with_reducible rfl
        rotate_left
        · simp only [Act.put, List.setIfInBounds_toArray, List.set_cons_zero, List.set_cons_succ, i64_w, i32_w]
          rfl
        refine pure_ (i := 12) (N := some 59) (v := ?_) (a' := ?_) #[true, true, true, false, true, false, true, false, true, false, true, true, true, false, false, false, false, false, false, false, false, false, false] rfl rfl (by kernel_rfl) (fun _ _ _ h => h) (Or.inl ⟨by rfl, ?_⟩) ?_ ?_
        rotate_left
        · intro w'
          go_simp
          with_reducible rfl
        rotate_left
        · simp only [Act.put, List.setIfInBounds_toArray, List.set_cons_zero, List.set_cons_succ, i64_w, i32_w]
          rfl
        refine pure_ (i := 14) (N := some 61) (v := ?_) (a' := ?_) #[true, true, true, false, true, false, true, false, true, false, true, true, true, false, true, false, false, false, false, false, false, false, false] rfl rfl (by kernel_rfl) (fun _ _ _ h => h) (Or.inl ⟨by rfl, ?_⟩) ?_ ?_
        rotate_left
        · intro w'
          go_simp
          with_reducible rfl
        rotate_left
        · simp only [Act.put, List.setIfInBounds_toArray, List.set_cons_zero, List.set_cons_succ, i64_w, i32_w]
          rfl
        refine pure_ (i := 18) (N := some 65) (v := ?_) (a' := ?_) #[true, true, true, false, true, false, true, false, true, false, true, true, true, false, true, false, false, false, true, false, false, false, false] rfl rfl (by kernel_rfl) (fun _ _ _ h => h) (Or.inl ⟨by rfl, ?_⟩) ?_ ?_
        rotate_left
        · intro w'
          go_simp
          with_reducible rfl
        rotate_left
        · simp only [Act.put, List.setIfInBounds_toArray, List.set_cons_zero, List.set_cons_succ, i64_w, i32_w]
          rfl
        refine take_ (i := 3) (N := some 50) (v := ?_) (a' := ?_) #[true, true, true, true, true, false, true, false, true, false, true, true, true, false, true, false, false, false, true, false, false, false, false] rfl rfl (by kernel_rfl) (fun _ _ _ h => h) (Or.inl ⟨by rfl, ?_⟩) hHeld ?_ ?_
        rotate_left
        · rintro w' ⟨s0, s1, s2, s3⟩
          go_simp
          with_reducible rfl
        rotate_left
        · simp only [Act.put, List.setIfInBounds_toArray, List.set_cons_zero, List.set_cons_succ, i64_w, i32_w]
          rfl
        refine take_ (i := 5) (N := some 52) (v := ?_) (a' := ?_) #[true, true, true, true, true, true, true, false, true, false, true, true, true, false, true, false, false, false, true, false, false, false, false] rfl rfl (by kernel_rfl) (fun _ _ _ h => h) (Or.inl ⟨by rfl, ?_⟩) hHeld ?_ ?_
        rotate_left
        · rintro w' ⟨s0, s1, s2, s3⟩
          go_simp
          with_reducible rfl
        rotate_left
        · simp only [Act.put, List.setIfInBounds_toArray, List.set_cons_zero, List.set_cons_succ, i64_w, i32_w]
          rfl
        refine take_ (i := 7) (N := some 54) (v := ?_) (a' := ?_) #[true, true, true, true, true, true, true, true, true, false, true, true, true, false, true, false, false, false, true, false, false, false, false] rfl rfl (by kernel_rfl) (fun _ _ _ h => h) (Or.inl ⟨by rfl, ?_⟩) hHeld ?_ ?_
        rotate_left
        · rintro w' ⟨s0, s1, s2, s3⟩
          go_simp
          with_reducible rfl
        rotate_left
        · simp only [Act.put, List.setIfInBounds_toArray, List.set_cons_zero, List.set_cons_succ, i64_w, i32_w]
          rfl
        refine pure_ (i := 9) (N := some 56) (v := ?_) (a' := ?_) #[true, true, true, true, true, true, true, true, true, true, true, true, true, false, true, false, false, false, true, false, false, false, false] rfl rfl (by kernel_rfl) (fun _ _ _ h => h) (Or.inl ⟨by rfl, ?_⟩) ?_ ?_
        rotate_left
        · intro w'
          refine Eq.trans (exec_cut_hi 9 _ _ x.2 (clamp kv) Try.underlying9 (by have := HC.out; omega) rfl (by rfl) (congrArg (Value.int .i64) HKI.out)) ?_
          with_reducible rfl
        rotate_left
        · simp only [Act.put, List.setIfInBounds_toArray, List.set_cons_zero, List.set_cons_succ, i64_w, i32_w]
          rfl
        refine take_ (i := 13) (N := some 60) (v := ?_) (a' := ?_) #[true, true, true, true, true, true, true, true, true, true, true, true, true, true, true, false, false, false, true, false, false, false, false] rfl rfl (by kernel_rfl) (fun _ _ _ h => h) (Or.inl ⟨by rfl, ?_⟩) hHeld ?_ ?_
        rotate_left
        · rintro w' ⟨s0, s1, s2, s3⟩
          go_simp
          with_reducible rfl
        rotate_left
        · simp only [Act.put, List.setIfInBounds_toArray, List.set_cons_zero, List.set_cons_succ, i64_w, i32_w]
          rfl
        refine take_ (i := 15) (N := some 62) (v := ?_) (a' := ?_) #[true, true, true, true, true, true, true, true, true, true, true, true, true, true, true, true, false, false, true, false, false, false, false] rfl rfl (by kernel_rfl) (fun _ _ _ h => h) (Or.inl ⟨by rfl, ?_⟩) hHeld ?_ ?_
        rotate_left
        · rintro w' ⟨s0, s1, s2, s3⟩
          go_simp
          with_reducible rfl
        rotate_left
        · simp only [Act.put, List.setIfInBounds_toArray, List.set_cons_zero, List.set_cons_succ, i64_w, i32_w]
          rfl
        refine pure_ (i := 16) (N := some 63) (v := ?_) (a' := ?_) #[true, true, true, true, true, true, true, true, true, true, true, true, true, true, true, true, true, false, true, false, false, false, false] rfl rfl (by kernel_rfl) (fun _ _ _ h => h) (Or.inl ⟨by rfl, ?_⟩) ?_ ?_
        rotate_left
        · intro w'
          go_simp
          with_reducible rfl
        rotate_left
        · simp only [Act.put, List.setIfInBounds_toArray, List.set_cons_zero, List.set_cons_succ, i64_w, i32_w]
          rfl
        refine take_ (i := 17) (N := some 64) (v := ?_) (a' := ?_) #[true, true, true, true, true, true, true, true, true, true, true, true, true, true, true, true, true, true, true, false, false, false, false] rfl rfl (by kernel_rfl) (fun _ _ _ h => h) (Or.inl ⟨by rfl, ?_⟩) hHeld ?_ ?_
        rotate_left
        · rintro w' ⟨s0, s1, s2, s3⟩
          go_simp
          with_reducible rfl
        rotate_left
        · simp only [Act.put, List.setIfInBounds_toArray, List.set_cons_zero, List.set_cons_succ, i64_w, i32_w]
          rfl
        refine pure_ (i := 19) (N := some 66) (v := ?_) (a' := ?_) #[true, true, true, true, true, true, true, true, true, true, true, true, true, true, true, true, true, true, true, true, false, false, false] rfl rfl (by kernel_rfl) (fun _ _ _ h => h) (Or.inl ⟨by rfl, ?_⟩) ?_ ?_
        rotate_left
        · intro w'
          refine Eq.trans (exec_cut_lo 9 _ _ sold (clamp kv) Try.underlying9 (by have := HC.out; omega) rfl (by rfl) (congrArg (Value.int .i64) HKI.out)) ?_
          with_reducible rfl
        rotate_left
        · simp only [Act.put, List.setIfInBounds_toArray, List.set_cons_zero, List.set_cons_succ, i64_w, i32_w]
          rfl
        refine pure_ (i := 20) (N := some 67) (v := ?_) (a' := ?_) #[true, true, true, true, true, true, true, true, true, true, true, true, true, true, true, true, true, true, true, true, true, false, false] rfl rfl (by kernel_rfl) (fun _ _ _ h => h) (Or.inl ⟨by rfl, ?_⟩) ?_ ?_
        rotate_left
        · intro w'
          go_simp
          with_reducible rfl
        rotate_left
        · simp only [Act.put, List.setIfInBounds_toArray, List.set_cons_zero, List.set_cons_succ, i64_w, i32_w]
          rfl
        refine pure_ (i := 21) (N := some 68) (v := ?_) (a' := ?_) #[true, true, true, true, true, true, true, true, true, true, true, true, true, true, true, true, true, true, true, true, true, true, false] rfl rfl (by kernel_rfl) (fun _ _ _ h => h) (Or.inl ⟨by rfl, ?_⟩) ?_ ?_
        rotate_left
        · intro w'
          go_simp
          with_reducible rfl
        rotate_left
        · simp only [Act.put, List.setIfInBounds_toArray, List.set_cons_zero, List.set_cons_succ, i64_w, i32_w]
          rfl
        refine last_ (i := 22) (N := none) #[true, true, true, true, true, true, true, true, true, true, true, true, true, true, true, true, true, true, true, true, true, true, true] rfl rfl (by kernel_rfl) (by decide) (fun K hK => ?_)
        refine skip_ (w1 := ?_) (by rfl) rfl ?_ ?_
        rotate_left
        · go_simp
          rfl
        refine hK.out _ _ ?_
        clear hK K
        refine done_ (by kernel_rfl) ?_
        go_wp2
        go_roundg (gk - 1)
        case measure => have := HI.out; omega
        case rel => exact ⟨i + 1, by first | rw [w3_] | rfl | simp, ⟨by have := HI.out; obtain ⟨⟨j, hj⟩, ⟨j2, hj2⟩⟩ := HX.out; omega⟩, HB5⟩
    · have hx : ((i < d.waits.length) = False ∧ ((i : Int) < (d.waits.length : Int)) = False) ∨ ((i < d.waits.length) = True ∧ ((i : Int) < (d.waits.length : Int)) = True ∧ (i < ks.length) = False ∧ ((i : Int) < (ks.length : Int)) = False) := by
        by_cases h : i < d.waits.length
        · exact .inr ⟨eq_true h, eq_true (by omega), eq_false (by omega), eq_false (by omega)⟩
        · exact .inl ⟨eq_false h, eq_false (by omega)⟩
      have hmin := crashL_min d.waits ks d.lies i (by omega)
      rw [hmin] at HR
      clear hi hmin
      rcases hx with ⟨e1, e2⟩ | ⟨e1, e2, e3, e4⟩
      all_goals
        go_wp2
        go_ret
        exact ⟨_, _, rfl, RDisk.of HR.out.1, fun k hk => hk.1, HR.out.2⟩
end Go.Proofs.Ytckbdckeijanlaa.G
