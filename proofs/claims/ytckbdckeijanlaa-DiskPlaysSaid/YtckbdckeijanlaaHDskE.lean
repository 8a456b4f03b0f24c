/- The disk: New, Spoil. By hand. -/
import Derived.Test.YtckbdckeijanlaaHDskD
namespace Go.Proofs.Ytckbdckeijanlaa.G
open Go.RowKit Go.Proofs.YtckbdckeijanlaaW.PrintWords Go.Proofs.YtckbdckeijanlaaW.PrintLast Go.Proofs.YtckbdckeijanlaaW.PrintMore Go.Proofs.Ytckbdckeijanlaa.Dsk
set_option linter.unusedVariables false
set_option linter.unusedSimpArgs false
/-- A disk somewhere within F. -/
def Dm (F : Nat → Prop) (g : Nat) (d : Dk) (W : World) : Prop := ∃ gl cl wv, Mem F g gl cl d wv W
def NewPost (n : Nat) (W : World) (e : Ending) (w' : World) : Prop := ∃ g, e = .returned (.tuple #[.pointer (some ⟨g, 0, none⟩), .int .i64 0]) ∧ Dm (fun k => W.heap.size ≤ k) g (new n) w' ∧ Below W.heap.size W w'
set_option maxHeartbeats 8000000 in
set_option maxRecDepth 100000 in
theorem New_bad (n : Int) (W : World) (h : n < 1 ∨ 4096 < n) : Calls Try.prog 10 #[.int .i64 n] W fun e w' => e = .returned (.tuple #[.pointer none, .int .i64 2]) ∧ w' = W := by
  by_cases h1 : n < 1
  · clear h
    go_enter Try.func10, Try.ntmps10
    go_wp2
    go_ret2
    exact ⟨rfl, rfl⟩
  · have h2 : 4096 < n := by omega
    clear h
    go_enter Try.func10, Try.ntmps10
    go_wp2
    go_ret2
    exact ⟨rfl, rfl⟩
theorem bts_zeros : (Value.agg (List.replicate 64 (Value.int .u8 0)).toArray).cells.toList = bts (zeros 64) := by
  show List.replicate 64 (Value.int .u8 0) = _
  simp [bts, zeros]
set_option maxHeartbeats 8000000 in
set_option maxRecDepth 100000 in
theorem New_ok (n : Int) (W : World) (h1 : 1 ≤ n) (h2 : n ≤ 4096) : Calls Try.prog 10 #[.int .i64 n] W (NewPost n.toNat W) := by
  have f1 : decide (n < 1) = false := decide_eq_false (by omega)
  have f2 : decide (4096 < n) = false := decide_eq_false (by omega)
  have HN := Aside0.mk (And.intro h1 h2)
  have HB := Aside0.mk (Below.refl W.heap.size W)
  clear h1 h2
  go_enter Try.func10, Try.ntmps10
  go_wp2_with (first | ((with_reducible refine gate_ (.makeSlice 48 (.tmp 10) (.tmp 10)) rfl ?_); refine Kd.R_make secK (w0 := W) W.heap.size 62 rfl (N := 11) rfl 48 (.tmp 10) (.tmp 10) rfl n rfl rfl Try.underlying48 _ 64 infoS rfl (by decide) (by decide) (zeros 64) (ok := fun k => W.heap.size ≤ k) (okp := fun _ => False) ⟨rfl, bts_zeros⟩ (fun _ hk => hk.elim) (Nat.le_refl _) (by have := HN.out; omega) (by have := HN.out; omega) HB.out (Nat.le_refl _) ?_; intro v1 w1 ho1 hb1 hg1 hat1; refine of_halt ?_))
  unfold Halt
  have hpos : 0 < (List.replicate n.toNat (zeros 64)).length := by have := HN.out; simp; omega
  obtain ⟨gl, cl, rfl, hgl, hgl2, _⟩ := Kd.R_form ho1 hpos
  have hlen : (List.replicate n.toNat (zeros 64)).length = n.toNat := by simp
  have HO := Aside0.mk ho1
  have HB1 := Aside0.mk hb1
  have HGL := Aside0.mk (And.intro hgl hgl2)
  have HP := Aside0.mk hpos
  have HLL := Aside0.mk hlen
  generalize hL : (List.replicate n.toNat (zeros 64)).length = L at *
  have HL := Aside0.mk hL
  clear ho1 hb1 hg1 hat1 hgl hgl2 hpos hlen hL f1 f2
  go_wp2
  go_ret2
  have hLn := HLL.out
  refine ⟨w1.heap.size, rfl, ⟨gl, cl, .slice none 0 0, ?_⟩, below_alloc HB1.out _⟩
  have hl2 : (new n.toNat).lies.length = L := by simpa [new] using hLn.symm
  refine ⟨?_, HB1.out.size, HGL.out.1, by have := HGL.out.2; omega, ?_, Kd.R_nil _ _ _ _ _, new_ok (by have := HN.out; omega)⟩
  · rw [hl2]
    exact blk_new w1 _
  · rw [hl2]
    have h3 := Kd.R_tight rfl (Kd.R_lower (Kd.R_alloc HO.out (.cells #[.slice (some ⟨gl, 0, none⟩) L cl, .slice none 0 0, .int .i64 0, .bool false, .int .i64 0] 51)) (Nat.zero_le _))
    exact Kd.R_mono h3 (fun k hk => by simpa [Value.ownBlock] using hk)
set_option maxHeartbeats 8000000 in
set_option maxRecDepth 100000 in
theorem Spoil_bad (F : Nat → Prop) (g gl cl : Nat) (d : Dk) (wv : Value) (n at_ y : Int) (W : World) (h : Mem F g gl cl d wv W) (hS : isS d n = false ∨ at_ < 0 ∨ 64 ≤ at_) :
    Calls Try.prog 20 #[.pointer (some ⟨g, 0, none⟩), .int .i64 n, .int .i64 at_, .int .u8 y] W fun e w' => e = .returned (.int .i64 4) ∧ w' = W := by
  have HW := Aside0.mk (wrong_calls F g gl cl d wv n W h)
  clear h
  cases hI : isS d n with
  | false =>
    rw [hI] at HW
    clear hS hI
    go_enter Try.func20, Try.ntmps20
    go_wp2_with (first | (go_at_call 26; refine HW.out.mono ?_; rintro e w5 ⟨rfl, rfl⟩))
    all_goals first | (go_ret; exact ⟨rfl, rfl⟩) | skip
  | true =>
    rw [hI] at HW hS
    by_cases h1 : at_ < 0
    · clear hS hI
      go_enter Try.func20, Try.ntmps20
      go_wp2_with (first | (go_at_call 26; refine HW.out.mono ?_; rintro e w5 ⟨rfl, rfl⟩))
      all_goals first | (exfalso; omega) | (go_ret; exact ⟨rfl, rfl⟩) | skip
    · have h2 : 64 ≤ at_ := by
        rcases hS with h | h | h
        · cases h
        · exact absurd h h1
        · exact h
      clear hS hI
      go_enter Try.func20, Try.ntmps20
      go_wp2_with (first | (go_at_call 26; refine HW.out.mono ?_; rintro e w5 ⟨rfl, rfl⟩))
      all_goals first | (exfalso; omega) | (go_ret; exact ⟨rfl, rfl⟩) | skip
theorem bts_set (x : List Int) (j : Nat) (y : Int) (hj : j < x.length) : (bts x).take j ++ [Value.int .u8 y] ++ (bts x).drop (j + 1) = bts (x.set j y) := by
  rw [bts, bts, List.map_set, List.set_eq_take_append_cons_drop, if_pos (by simpa using hj)]
  simp
theorem Mem.putByte {F : Nat → Prop} {g gl cl : Nat} {d : Dk} {wv : Value} {W : World} (h : Mem F g gl cl d wv W) (i j : Nat) (y : Int) (hi : i < d.lies.length) (hj : j < 64) :
    Mem F g gl cl ⟨d.lies.set i ((d.lies.getD i []).set j y), d.waits, d.steps, d.left⟩ wv (W.setCell ⟨gl, i * 64 + j, none⟩ (.int .u8 y)) := by
  obtain ⟨c, hcl, hcM, hcc, hcf⟩ := Kd.R_elem h.lies [] (i : Int) (by omega) (by omega)
  rw [Int.toNat_natCast] at hcM hcc
  obtain ⟨hx, rfl⟩ := hcM
  have hseg := Kd.R_seg (okp := fun _ => False) h.lies (i : Int) (by omega) (by omega) hcl (by rw [Int.toNat_natCast]; exact hcc) (seg := [.int .u8 y]) (j := j) (by show j + 1 ≤ 64; omega) (x' := (d.lies.getD i []).set j y) (by
    show _ ∧ _
    refine ⟨by rw [List.length_set]; exact hx, ?_⟩
    exact bts_set _ j y (by rw [hx]; exact hj)) (fun _ hk => hk.elim)
  rw [Int.toNat_natCast] at hseg
  have e : W.setCells gl (i * secK.sz + j) [.int .u8 y] = W.setCell ⟨gl, i * 64 + j, none⟩ (.int .u8 y) := rfl
  rw [e] at hseg
  refine ⟨?_, h.fg, h.fl, h.ne, ?_, Kd.R_far h.waits (fun k hk => hk.2.2) _, ⟨?_, ?_, ?_⟩⟩
  · show _ = some (Obj.cells #[.slice (some ⟨gl, 0, none⟩) (d.lies.set i _).length cl, _, _, _, _] _ _)
    rw [List.length_set]
    exact blk_far h.blk (fun e => h.ne e.symm) _
  · show secK.R _ _ _ _ (.slice _ (d.lies.set i _).length cl) _
    rw [List.length_set]
    exact hseg.1
  · show 0 < (d.lies.set i _).length
    rw [List.length_set]; exact h.ok.some_
  · exact set_ok h.ok.lies i (by rw [List.length_set]; exact hx)
  · intro w hw
    show w.1 < (d.lies.set i _).length ∧ _
    rw [List.length_set]
    exact h.ok.waits w hw
set_option maxHeartbeats 8000000 in
set_option maxRecDepth 100000 in
theorem Spoil_ok (F : Nat → Prop) (g gl cl : Nat) (d : Dk) (wv : Value) (n at_ y : Int) (W : World) (h : Mem F g gl cl d wv W) (hS : isS d n = true) (h1 : 0 ≤ at_) (h2 : at_ < 64) :
    Calls Try.prog 20 #[.pointer (some ⟨g, 0, none⟩), .int .i64 n, .int .i64 at_, .int .u8 y] W fun e w' => e = .returned (.int .i64 0) ∧ Mem F g gl cl (spoil d n at_ y).1 wv w' ∧ Kp (fun k => k = gl) W w' := by
  have HW := Aside0.mk (wrong_calls F g gl cl d wv n W h)
  rw [hS] at HW
  obtain ⟨hc0, _⟩ := h.cells
  have hn := of_decide_eq_true hS
  obtain ⟨i, rfl⟩ := Int.eq_ofNat_of_zero_le hn.1
  obtain ⟨j, rfl⟩ := Int.eq_ofNat_of_zero_le h1
  have hi : i < d.lies.length := by omega
  have hj : j < 64 := by omega
  obtain ⟨c, hcl, hcM, hcc, hcf⟩ := Kd.R_elem h.lies [] (i : Int) (by omega) (by omega)
  rw [Int.toNat_natCast] at hcM hcc
  obtain ⟨hx, rfl⟩ := hcM
  obtain ⟨cv, hcell⟩ : ∃ cv, W.cell? ⟨gl, i * 64 + j, none⟩ = some cv := ⟨_, hcc j _ (List.getElem?_eq_getElem (by rw [bts_length, hx]; exact hj))⟩
  have hfz : W.frozen? ⟨gl, i * 64 + j, none⟩ = false := hcf j
  have f1 : ((i : Int) < (d.lies.length : Int)) = True := eq_true (by omega)
  have f2 : (i < d.lies.length) = True := eq_true hi
  have f3 : ((j : Int) < 64) = True := eq_true (by omega)
  have f4 : decide ((j : Int) < 0) = false := decide_eq_false (by omega)
  have f5 : decide (64 ≤ (j : Int)) = false := decide_eq_false (by omega)
  have HM := Aside0.mk (h.putByte i j y hi hj)
  have HI := Aside0.mk (And.intro hS (And.intro hi hj))
  clear h hS hn h1 h2 hcc hcf hcl hx hi
  generalize hL : d.lies.length = L at *
  have HL := Aside0.mk hL
  clear hL hj
  go_enter Try.func20, Try.ntmps20
  go_wp2_with (first | (go_at_call 26; refine HW.out.mono ?_; rintro e w5 ⟨rfl, hw5⟩; obtain rfl := hw5.symm))

  go_ret
  have e : (spoil d (i : Int) (j : Int) y).1 = ⟨d.lies.set i ((d.lies.getD i []).set j y), d.waits, d.steps, d.left⟩ := by
    unfold spoil
    rw [HI.out.1, if_neg (by have := HI.out.2.2; simp; omega)]
    simp
  rw [e]
  exact ⟨rfl, HM.out, (Kp.refl (fun k => k = gl) W).set (p := ⟨gl, i * 64 + j, none⟩) (.inl rfl) _⟩
end Go.Proofs.Ytckbdckeijanlaa.G
