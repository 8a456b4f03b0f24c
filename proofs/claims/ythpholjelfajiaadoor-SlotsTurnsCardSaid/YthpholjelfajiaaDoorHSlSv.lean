/- Slots: Save. By hand. -/
import Derived.Test.YthpholjelfajiaaDoorSaveT
import Derived.Test.YthpholjelfajiaaDoorChkM
namespace Go.Proofs.YthpholjelfajiaaDoor.G
open Go.RowKit Go.Shelf Go.Proofs.YthpholjelfajiaaDoor.X Go.Proofs.YthpholjelfajiaaDoor.E Go.Proofs.YthpholjelfajiaaDoor.C Go.Proofs.YthpholjelfajiaaDoor.T Go.Proofs.YthpholjelfajiaaDoorW.PrintWords Go.Proofs.YthpholjelfajiaaDoorW.PrintLast Go.Proofs.YthpholjelfajiaaDoorW.PrintMore Go.Proofs.YthpholjelfajiaaDoor.Dsk Go.Proofs.YthpholjelfajiaaDoor.Sl
set_option linter.unusedVariables false
set_option linter.unusedSimpArgs false
/-- A row of a row of rows of bytes: its header's cell, and what it holds. -/
theorem hdr_at {w : World} {A : Option Addr} {n : Nat} {xs : List (List Int)} (h : Kd.C (Kd.slice 5 (Kd.int .u8)) w A n xs) (i : Nat) (hi : i < n) : ∃ ad x K ck, A = some ad ∧ xs[i]? = some x ∧ w.cell? (ad.add i) = some (.slice K x.length ck) ∧ x.length ≤ ck ∧ Kd.C (Kd.int .u8) w K x.length x := by
  obtain ⟨ad, hA, hc⟩ := h.2.2 (by omega)
  have hl : xs.length = n := h.1
  obtain ⟨x, hx⟩ : ∃ x, xs[i]? = some x := ⟨_, List.getElem?_eq_getElem (by omega)⟩
  obtain ⟨cs, hcs, hk, hu⟩ := hc i x hx
  obtain ⟨K, ck, rfl, h1, h2⟩ := hk
  refine ⟨ad, x, K, ck, hA, hx, ?_, h1, h2⟩
  have := hu 0 _ rfl
  rw [show (Kd.slice 5 (Kd.int .u8)).sz = 1 from rfl] at this
  simpa using this
/-- What Save meets: slots on a disk, apart from it. -/
structure SvIn (F H : Nat → Prop) (g gd fr ch : Nat) (s0 s1 : Slot) (v0 v1 : Value) (d : Dk) (A : Option Addr) (c : Nat) (l0 : List Int) (W : World) : Prop where
  sl : SlB H g gd fr ch s0 s1 v0 v1 W
  dk : Disk F gd d W
  ap : ∀ k, F k → ¬ H k
  rm : Room d 10000
  tab : ∀ V, Kp (fun k => F k ∨ H k) W V → Tab V
  row : ∀ V, Kp (fun k => F k ∨ H k) W V → Kd.C (Kd.int .u8) V A l0.length l0
  cap : l0.length ≤ c
theorem SvIn.below {F H : Nat → Prop} {g gd fr ch : Nat} {s0 s1 : Slot} {v0 v1 : Value} {d : Dk} {A : Option Addr} {c : Nat} {l0 : List Int} {W W' : World} (h : SvIn F H g gd fr ch s0 s1 v0 v1 d A c l0 W) (hb : Below W.heap.size W W') : SvIn F H g gd fr ch s0 s1 v0 v1 d A c l0 W' :=
  ⟨h.sl.below hb, h.dk.below hb, h.ap, h.rm, fun V hV => h.tab V ((Kp.of_below hb).trans hV (fun _ _ q => q)), fun V hV => h.row V ((Kp.of_below hb).trans hV (fun _ _ q => q)), h.cap⟩
theorem lastE_le {s0 s1 : Slot} (h0 : SlotOk s0) (h1 : SlotOk s1) : 0 ≤ lastE s0 s1 ∧ lastE s0 s1 ≤ 2147483647 := by
  unfold lastE
  split
  · exact h1.e
  · split
    · exact h0.e
    · decide
set_option maxHeartbeats 8000000 in
set_option maxRecDepth 100000 in
theorem Save_arg (F H : Nat → Prop) (g gd fr ch : Nat) (s0 s1 : Slot) (v0 v1 : Value) (d : Dk) (A : Option Addr) (c : Nat) (l0 : List Int) (e : Int) (W : World) (h : SvIn F H g gd fr ch s0 s1 v0 v1 d A c l0 W) (he : e ≤ lastE s0 s1 ∨ 2147483647 < e) :
    Calls Tryd.prog 10 #[.pointer (some ⟨g, 0, none⟩), .slice A l0.length c, .int .i64 e] W fun e' w' => e' = .returned (.int .i64 2) ∧ Below W.heap.size W w' := by
  have HS := Aside0.mk h
  obtain ⟨le, hle⟩ : ∃ le, lastE s0 s1 = le := ⟨_, rfl⟩
  rw [hle] at he
  have hb0 := below_alloc (Below.refl W.heap.size W) (.cells #[.pointer (some ⟨g, 0, none⟩)] 26)
  have hk0 := blk_new W (.cells #[.pointer (some ⟨g, 0, none⟩)] 26)
  obtain ⟨W0, hW0⟩ : ∃ W0, W.alloc (.cells #[.pointer (some ⟨g, 0, none⟩)] 26) = W0 := ⟨_, rfl⟩
  have HL := Aside0.mk hle
  have HE := Aside0.mk he
  have HW0 := Aside0.mk hW0
  rw [hW0] at hb0 hk0
  have H0 := Aside0.mk (And.intro hb0 hk0)
  have hc := cells9 (h.sl.below hb0).blk
  have hg0 := hc.1
  have hq0 : W0.cell? ⟨W.heap.size, 0, none⟩ = some (.pointer (some ⟨g, 0, none⟩)) := (blk_cell hk0 0).trans rfl
  clear h hle he hb0 hk0 hW0 hc
  go_enter Tryd.func10, Tryd.ntmps10
  go_upto_region 1 with (fail)
  rw [HW0.out]
  go_wp2_with (first | (go_at_call 8; refine (Latest_c H g gd fr ch s0 s1 v0 v1 W0 (HS.out.sl.below H0.out.1)).mono ?_; rintro e1 w1 ⟨v1_, rfl, hR1, hb1⟩; refine of_halt ?_))
  unfold G.Halt
  rw [HL.out]
  have HB1 := Aside0.mk (H0.out.1.trans (hb1.mono H0.out.1.size))
  clear hR1 hb1 hq0 hg0
  by_cases h1 : e ≤ le
  · have f1 : decide (e ≤ le) = true := decide_eq_true h1
    clear h1
    go_wp2
    go_ret
    exact ⟨rfl, HB1.out⟩
  · have f1 : decide (e ≤ le) = false := decide_eq_false h1
    have f2 : decide (2147483647 < e) = true := decide_eq_true (by have := HE.out; omega)
    clear h1
    go_wp2
    go_ret
    exact ⟨rfl, HB1.out⟩
set_option maxHeartbeats 8000000 in
set_option maxRecDepth 100000 in
theorem Save_big (F H : Nat → Prop) (g gd fr ch : Nat) (s0 s1 : Slot) (v0 v1 : Value) (d : Dk) (A : Option Addr) (c : Nat) (l0 : List Int) (e : Int) (W : World) (h : SvIn F H g gd fr ch s0 s1 v0 v1 d A c l0 W) (he : lastE s0 s1 < e ∧ e ≤ 2147483647) (hl : 54 * ch < l0.length) :
    Calls Tryd.prog 10 #[.pointer (some ⟨g, 0, none⟩), .slice A l0.length c, .int .i64 e] W fun e' w' => e' = .returned (.int .i64 3) ∧ Below W.heap.size W w' := by
  have HS := Aside0.mk h
  obtain ⟨le, hle⟩ : ∃ le, lastE s0 s1 = le := ⟨_, rfl⟩
  rw [hle] at he
  have hb0 := below_alloc (Below.refl W.heap.size W) (.cells #[.pointer (some ⟨g, 0, none⟩)] 26)
  have hk0 := blk_new W (.cells #[.pointer (some ⟨g, 0, none⟩)] 26)
  obtain ⟨W0, hW0⟩ : ∃ W0, W.alloc (.cells #[.pointer (some ⟨g, 0, none⟩)] 26) = W0 := ⟨_, rfl⟩
  have HL := Aside0.mk hle
  have HW0 := Aside0.mk hW0
  rw [hW0] at hb0 hk0
  have H0 := Aside0.mk (And.intro hb0 hk0)
  have hc := cells9 (h.sl.below hb0).blk
  have hg0 := hc.1
  have hq0 : W0.cell? ⟨W.heap.size, 0, none⟩ = some (.pointer (some ⟨g, 0, none⟩)) := (blk_cell hk0 0).trans rfl
  have f1 : decide (e ≤ le) = false := decide_eq_false (by omega)
  have f2 : decide (2147483647 < e) = false := decide_eq_false (by omega)
  obtain ⟨c54, hc54⟩ : ∃ c : Nat, c = 54 * ch := ⟨_, rfl⟩
  have hw54 : wrap64 (54 * (ch : Int)) = (c54 : Int) := by have := h.sl.ch_; unfold wrap64; omega
  have f3 : decide ((c54 : Int) < (l0.length : Int)) = true := decide_eq_true (by omega)
  have f3' : decide (c54 < l0.length) = true := decide_eq_true (by omega)
  clear h hle he hb0 hk0 hW0 hc hc54 hl
  go_enter Tryd.func10, Tryd.ntmps10
  go_upto_region 1 with (fail)
  rw [HW0.out]
  go_wp2_with (first | (go_at_call 8; refine (Latest_c H g gd fr ch s0 s1 v0 v1 W0 (HS.out.sl.below H0.out.1)).mono ?_; rintro e1 w1 ⟨v1_, rfl, hR1, hb1⟩; refine of_halt ?_))
  unfold G.Halt
  rw [HL.out]
  have HB1 := Aside0.mk (H0.out.1.trans (hb1.mono H0.out.1.size))
  have hq1 : w1.cell? ⟨W.heap.size, 0, none⟩ = some (.pointer (some ⟨g, 0, none⟩)) := (blk_cell ((hb1.block _ (blk_lt H0.out.2)).trans H0.out.2) 0).trans rfl
  have hg2 := (cells9 ((HS.out.sl.below H0.out.1).below hb1).blk).2.2.1
  clear hR1 hb1 hq0 hg0
  go_wp2
  go_ret
  exact ⟨rfl, HB1.out⟩
end Go.Proofs.YthpholjelfajiaaDoor.G
