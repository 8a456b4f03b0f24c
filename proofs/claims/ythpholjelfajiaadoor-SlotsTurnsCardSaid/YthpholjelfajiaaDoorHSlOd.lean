/- Chapter 21: opened. By hand. -/
import Derived.Test.YthpholjelfajiaaDoorSlotL
namespace Go.Proofs.YthpholjelfajiaaDoor.G
open Go.RowKit Go.Shelf Go.Proofs.YthpholjelfajiaaDoor.X Go.Proofs.YthpholjelfajiaaDoor.E Go.Proofs.YthpholjelfajiaaDoor.C Go.Proofs.YthpholjelfajiaaDoor.T Go.Proofs.YthpholjelfajiaaDoorW.PrintWords Go.Proofs.YthpholjelfajiaaDoorW.PrintLast Go.Proofs.YthpholjelfajiaaDoorW.PrintMore Go.Proofs.YthpholjelfajiaaDoor.Dsk Go.Proofs.YthpholjelfajiaaDoor.Sl
set_option linter.unusedVariables false
set_option linter.unusedSimpArgs false
theorem new_latest (n j : Nat) (h : j < n) : latest (new n) j = zeros 64 := by
  unfold latest new
  simp [List.getD_eq_getElem?_getD, List.getElem?_replicate, h]
theorem zeros_Bytes (n : Nat) : Bytes (zeros n) := fun x hx => by rw [List.eq_of_mem_replicate hx]; omega
theorem new_Bytes (n j : Nat) (h : j < n) : Bytes (latest (new n) j) := by rw [new_latest n j h]; exact zeros_Bytes 64
theorem new_readS (n fr ch k : Nat) (h : bg fr ch k < n) : readS (new n) fr ch k = slot0 := by
  refine readS_none _ _ _ _ ?_
  rw [new_latest n _ h]
  intro q
  have : num4 (zeros 64) = 0 := by decide
  have := q.1
  omega
/-- Slots on a disk, apart from it, all beyond a world's first blocks. -/
structure SlD (F H : Nat → Prop) (w : World) (gd g fr ch : Nat) (d : Dk) (s0 s1 : Slot) (v0 v1 : Value) (W : World) : Prop where
  dk : Disk F gd d W
  sl : SlB H g gd fr ch s0 s1 v0 v1 W
  ap : ∀ k, F k → ¬ H k
  f : ∀ k, F k → w.heap.size ≤ k
  h : ∀ k, H k → w.heap.size ≤ k
  fr_ : Fr w W
theorem SlD.below {F H : Nat → Prop} {w W W' : World} {gd g fr ch : Nat} {d : Dk} {s0 s1 : Slot} {v0 v1 : Value} (h : SlD F H w gd g fr ch d s0 s1 v0 v1 W) (hb : Below W.heap.size W W') : SlD F H w gd g fr ch d s0 s1 v0 v1 W' := ⟨h.dk.below hb, h.sl.below hb, h.ap, h.f, h.h, h.fr_.then_below hb⟩
/-- What opened leaves. -/
def OpenedP (ch : Nat) (w W : World) (e : Ending) (w' : World) : Prop := ∃ gd g F H v0 v1, e = .returned (.tuple #[.pointer (some ⟨gd, 0, none⟩), .pointer (some ⟨g, 0, none⟩)]) ∧ SlD F H w gd g 1 ch (new (2 * (1 + ch) + 2)) slot0 slot0 v0 v1 w' ∧ Below W.heap.size W w'
set_option maxHeartbeats 8000000 in
set_option maxRecDepth 100000 in
theorem opened_s (ch : Nat) (w W : World) (hT : Tab W) (hw : Below w.heap.size w W) (h1 : 1 ≤ ch) (h2 : ch ≤ 100) :
    Calls Tryd.prog 13 #[.int .i64 (ch : Int)] W (OpenedP ch w W) := by
  have HN := Aside0.mk (And.intro h1 h2)
  have HT := Aside0.mk hT
  have HW := Aside0.mk hw
  obtain ⟨n, hn⟩ : ∃ n : Nat, n = 2 * (1 + ch) + 2 := ⟨_, rfl⟩
  have w1_ : wrap64 (1 + (ch : Int)) = 1 + (ch : Int) := by unfold wrap64; omega
  have w2_ : wrap64 (2 * (1 + (ch : Int))) = 2 * (1 + (ch : Int)) := by unfold wrap64; omega
  have w3_ : wrap64 (2 * (1 + (ch : Int)) + 2) = (n : Int) := by unfold wrap64; omega
  have HNN := Aside0.mk hn
  clear h1 h2 hT hn hw
  go_enter Tryd.func13, Tryd.ntmps13
  go_wp2_with (first | (go_at_call 20; refine (New_c (n : Int) W (by have := HN.out; have := HNN.out; omega) (by have := HN.out; have := HNN.out; omega)).mono ?_; rintro e w1 ⟨gd, F, rfl, hD, hF, hb⟩; refine of_halt ?_))
  unfold G.Halt
  rw [Int.toNat_natCast] at hD
  have HD := Aside0.mk (And.intro hD (And.intro hF hb))
  have hlen : (new n).lies.length = n := by simp [new]
  have HLN := Aside0.mk hlen
  clear hD hF hb w1_ w2_ w3_ hlen
  have HOP := Aside0.mk (SOpen_c F gd 1 ch (new n) w1 (Kd.C_below HT.out HD.out.2.2) HD.out.1 ⟨by simp [new], by simp [new], by simp [new], by rw [HLN.out]; have := HN.out; have := HNN.out; omega⟩ rfl HN.out.1 (by rw [HLN.out]; have := HNN.out; omega) (by rw [HLN.out]; have := HN.out; have := HNN.out; omega) (fun j hj => new_Bytes n j (by rw [HLN.out] at hj; exact hj)))
  go_wp2_with (first | (go_at_call 11; refine (HOP.out).mono ?_; rintro e w2 ⟨H, g, v0, v1, rfl, hS, hH, hb⟩; refine of_halt ?_))
  unfold G.Halt
  rw [new_readS n 1 ch 0 (by have := HNN.out; unfold bg; omega), new_readS n 1 ch 1 (by have := HNN.out; unfold bg; omega)] at hS
  have HS := Aside0.mk (And.intro hS (And.intro hH hb))
  clear hS hH hb
  go_wp2
  go_ret2
  have hf : Fr w w2 := (Kp.of_below (F := fun k => w.heap.size ≤ k) HW.out).trans (Kp.of_below (F := fun k => w.heap.size ≤ k) (HD.out.2.2.trans (HS.out.2.2.mono HD.out.2.2.size))) (fun _ _ z => z)
  refine ⟨gd, g, F, H, v0, v1, rfl, ⟨?_, HS.out.1, fun k hf hh => ?_, fun k hk => Nat.le_trans HW.out.size (HD.out.2.1 k hk), fun k hk => ?_, hf⟩, HD.out.2.2.trans (HS.out.2.2.mono HD.out.2.2.size)⟩
  · rw [← HNN.out]; exact HD.out.1.below HS.out.2.2
  · have := HD.out.1.2 k hf; have := HS.out.2.1 k hh; omega
  · have := HS.out.2.1 k hk; have := HD.out.2.2.size; have := HW.out.size; omega
end Go.Proofs.YthpholjelfajiaaDoor.G
