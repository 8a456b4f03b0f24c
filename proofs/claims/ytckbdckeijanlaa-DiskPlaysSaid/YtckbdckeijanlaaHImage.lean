/- Chapter 17: image, all that is read of a disk. By hand. -/
import Derived.Test.YtckbdckeijanlaaHWorks17
namespace Go.Proofs.Ytckbdckeijanlaa.G
open Go.RowKit Go.Shelf Go.Proofs.YtckbdckeijanlaaW.PrintWords Go.Proofs.YtckbdckeijanlaaW.PrintLast Go.Proofs.YtckbdckeijanlaaW.PrintMore Go.Proofs.Ytckbdckeijanlaa.Dsk
set_option linter.unusedVariables false
set_option linter.unusedSimpArgs false
theorem str_append (a b : List Int) : strOfNums a ++ strOfNums b = strOfNums (a ++ b) := by
  apply ByteArray.ext
  rw [ByteArray.data_append]
  apply Array.ext'
  simp [strOfNums_data]
theorem str_size (a : List Int) : (strOfNums a).size = a.length := by
  have := congrArg List.length (strOfNums_data a)
  rw [Array.length_toList, List.length_map] at this
  exact this
def imgTo (d : Dk) (i : Nat) : List Int := ((List.range i).map (latest d)).flatten
def img (d : Dk) : List Int := imgTo d d.lies.length
theorem imgTo_succ (d : Dk) (i : Nat) : imgTo d (i + 1) = imgTo d i ++ latest d i := by simp [imgTo, List.range_succ]
theorem imgTo_len {d : Dk} (h : Ok d) : ∀ i, i ≤ d.lies.length → (imgTo d i).length = i * 64 := by
  intro i
  induction i with
  | zero => intro _; simp [imgTo]
  | succ i ih => intro hi; rw [imgTo_succ, List.length_append, ih (by omega), latest_len h (by omega)]; omega
theorem img_length {d : Dk} (h : Ok d) : (img d).length = d.lies.length * 64 := imgTo_len h _ (Nat.le_refl _)
def ImP (xs : List Int) (W : World) (e : Ending) (w' : World) : Prop := e = .returned (.string (strOfNums xs)) ∧ Below W.heap.size W w'
set_option maxHeartbeats 16000000 in
set_option maxRecDepth 100000 in
theorem image_c (F : Nat → Prop) (g : Nat) (d : Dk) (W : World) (h : Disk F g d W) (hs : Small d) (hl : d.left = none) :
    Calls Try.prog 17 #[.pointer (some ⟨g, 0, none⟩)] W (ImP (img d) W) := by
  have HD := Aside0.mk h
  have HS := Aside0.mk hs
  have HLL := Aside0.mk hl
  clear h hs hl
  go_enter Try.func17, Try.ntmps17
  go_wp2
  go_loopg [3, 4] (d.lies.length + 1) (fun kq v3 v4 w' => ∃ i : Nat, v3 = .string (strOfNums (imgTo d i)) ∧ v4 = .int .i64 (i : Int) ∧ Aside0 (i ≤ d.lies.length) ∧ Aside0 (kq + i = d.lies.length + 1) ∧ Aside0 (Below W.heap.size W w'))
  case atStart => exact ⟨0, rfl, rfl, ⟨Nat.zero_le _⟩, ⟨rfl⟩, ⟨Below.refl _ _⟩⟩
  case round =>
    obtain ⟨i, rfl, rfl, HI, HK, HB⟩ := hrel
    by_cases hi : i < d.lies.length
    · have e1 : decide ((i : Int) < (d.lies.length : Int)) = true := decide_eq_true (by omega)
      have e2 : ((i : Int) < (d.lies.length : Int)) = True := eq_true (by omega)
      have e3 : (i < d.lies.length) = True := eq_true hi
      have hrd : Dsk.read d (i : Int) = (latest d i, 0) := by
        unfold Dsk.read
        rw [show isS d (i : Int) = true from decide_eq_true (by omega), if_neg (by simp), show down d = false by unfold down; rw [HLL.out]; rfl, if_neg (by simp), Int.toNat_natCast]
      have hw : wrap64 ((i : Int) + 1) = ((i + 1 : Nat) : Int) := by have := HS.out.lies; unfold wrap64; omega
      have HIL := Aside0.mk (show ∃ j, i + 1 + j = d.lies.length from ⟨d.lies.length - (i + 1), by omega⟩)
      have HRD := Aside0.mk hrd
      have HW := Aside0.mk hw
      clear hi hrd hw
      go_wp2_with (first | (go_at_call 21; refine (Sectors_c F g d wr (HD.out.below HB.out)).mono ?_; rintro e w1 ⟨rfl, hw1⟩; refine of_halt ?_))
      unfold G.Halt
      obtain rfl := hw1.symm
      go_wp2_with (first | (go_at_call 15; refine (Read_c F g d (i : Int) wr (HD.out.below HB.out) HS.out).mono ?_; rintro e w2 ⟨v2, rfl, hR2, hb2⟩; refine of_halt ?_))
      unfold G.Halt
      rw [HRD.out] at hR2
      rw [HRD.out]
      obtain ⟨A2, c2, rfl⟩ := Kd.R_slice hR2
      have hcv := Kd.C_string (P := Try.prog) (src := 22) (dst := 9) Try.underlying22 Try.underlying5 Try.underlying9 (c := c2) (Kd.R_reads' hR2).2.2
      have HB2 := Aside0.mk (HB.out.trans (hb2.mono HB.out.size))
      have hsz : (9223372036854775807 < (strOfNums (imgTo d i)).size + (strOfNums (latest d i)).size) = False := eq_false (by
        rw [str_size, str_size, imgTo_len HD.out.ok i (by obtain ⟨j, hj⟩ := HIL.out; omega), latest_len HD.out.ok (by obtain ⟨j, hj⟩ := HIL.out; omega)]
        obtain ⟨j, hj⟩ := HIL.out; have := HS.out.lies; omega)
      have hst := str_append (imgTo d i) (latest d i)
      rw [← imgTo_succ] at hst
      clear hR2 hb2
      go_wp2
      go_roundg (gk - 1)
      case measure => have := HK.out; have := HI.out; omega
      case rel => exact ⟨i + 1, by first | rw [hst] | rfl, by rw [HW.out], ⟨by obtain ⟨j, hj⟩ := HIL.out; omega⟩, ⟨by have := HK.out; obtain ⟨j, hj⟩ := HIL.out; omega⟩, HB2⟩
    · obtain rfl : i = d.lies.length := by have := HI.out; omega
      go_wp2_with (first | (go_at_call 21; refine (Sectors_c F g d wr (HD.out.below HB.out)).mono ?_; rintro e w1 ⟨rfl, hw1⟩; refine of_halt ?_))
      unfold G.Halt
      obtain rfl := hw1.symm
      go_wp2
      go_ret
      exact ⟨rfl, HB.out⟩
end Go.Proofs.Ytckbdckeijanlaa.G
