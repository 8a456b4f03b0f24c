/- record.Bytes by hand. -/
import Derived.Test.YtoehjojipmeagaaDoorHNum
namespace Go.Proofs.YtoehjojipmeagaaDoor.X
open Go.RowKit Go.Proofs.YtoehjojipmeagaaDoorW.PrintWords Go.Proofs.YtoehjojipmeagaaDoorW.PrintLast Go.Proofs.YtoehjojipmeagaaDoorW.PrintMore Go.Proofs.YtoehjojipmeagaaDoor.G
set_option linter.unusedVariables false
set_option linter.unusedSimpArgs false

/-- a number's four bytes, the highest first -/
def be4 (n : Int) : List Int := [n / 16777216, n / 65536 % 256, n / 256 % 256, n % 256]
def headB (epoch seq : Int) (n : Int) : List Int := [n / 256 % 256, n % 256] ++ be4 epoch ++ be4 seq
/-- what stands there behind k numbers -/
def headAt (a0 a1 n : Int) (k : Nat) : List Int := [n / 256 % 256, n % 256] ++ (([a0, a1].take k).map be4).flatten
theorem headAt_01 (a0 a1 n : Int) : headAt a0 a1 n 1 = headAt a0 a1 n 0 ++ be4 a0 := by simp [headAt]
theorem headAt_12 (a0 a1 n : Int) : headAt a0 a1 n 2 = headAt a0 a1 n 1 ++ be4 a1 := by simp [headAt]
theorem headAt_two (a0 a1 n : Int) : headAt a0 a1 n 2 = headB a0 a1 n := by simp [headAt, headB]
def record_Bytes.f (a0 a1 : Int) (l2 : List Int) : Option (List Int × Int) :=
  if [a0, a1].all numB then (if l2.length ≤ 4096 then (sums_Seal.f (headB a0 a1 l2.length ++ l2)).bind fun s => some (s, 0) else some ([], 3)) else some ([], 2)

set_option maxHeartbeats 16000000 in
set_option maxRecDepth 100000 in
theorem record_Bytes.calls (a0 a1 : Int) (A2 : Option Addr) (c2 : Nat) (l2 : List Int) (r1 : List Int) (r2 : Int) (w : World) (hT : Tab w) (hr2 : Kd.C (Kd.int .u8) w A2 l2.length l2) (hc2 : l2.length ≤ c2) (h : record_Bytes.f a0 a1 l2 = some (r1, r2)) :
    Calls Tryd.prog 11 #[.int .i64 a0, .int .i64 a1, .slice A2 l2.length c2] w fun e w' => ∃ v0_ : Value, e = .returned (.tuple #[v0_, .int .i64 r2]) ∧ Kd.R (Kd.int .u8) 5 w' w.heap.size (fun _ => True) v0_ r1 ∧ Below w.heap.size w w' := by
  have info5 : (Tryd.prog.info? 5).map (fun i => (i.zero, i.size, i.bytes)) = some (some (.int .u8 0), 1, 1) := by kernel_rfl
  have HT := Aside0.mk hT
  have HR := Aside0.mk hr2
  have HC2 := Aside0.mk hc2
  have hlit := C_block (k := .i64) (w := w.alloc (.cells #[.int .i64 a0, .int .i64 a1] 3)) (g := w.heap.size) [a0, a1] (heap_alloc_new w _) rfl (by simp)
  have hnum := Aside0.mk (numbered_calls (some ⟨w.heap.size, 0, none⟩) 2 [a0, a1] _ hlit (by simp))
  have HB1 := Aside0.mk (below_alloc (Below.refl w.heap.size w) (.cells #[.int .i64 a0, .int .i64 a1] 3))
  clear hT hr2 hc2 hlit
  unfold record_Bytes.f at h
  by_cases hb : [a0, a1].all numB = true
  · rw [if_pos hb] at h
    rw [hb] at hnum
    have hn : (1 ≤ a0 ∧ a0 ≤ 2147483647) ∧ (1 ≤ a1 ∧ a1 ≤ 2147483647) := by simpa [numB] using hb
    clear hb
    by_cases hl : l2.length ≤ 4096
    · rw [if_pos hl] at h
      obtain ⟨s, hs, h⟩ := Option.bind_eq_some_iff.1 h
      simp only [Option.some.injEq, Prod.mk.injEq] at h
      obtain ⟨rfl, rfl⟩ := h
      have HS := Aside0.mk hs
      have HL := Aside0.mk hl
      obtain ⟨⟨e0, e1⟩, e2, e3⟩ := hn
      have b0 : decide (4096 < (l2.length : Int)) = false := decide_eq_false (by omega)
      have z0 : 0 ≤ a0 := by omega
      have z1 : 0 ≤ a1 := by omega
      clear hl hs
      go_enter Tryd.func11, Tryd.ntmps11
      go_wp2_with (first | (go_at_call 22; refine hnum.out.mono ?_; rintro e w' ⟨rfl, rfl⟩))
      go_loopg [8, 32] 3 (fun kq v8 v32 w' => ∃ (x : Nat), v32 = .int .i64 (x : Int) ∧ x ≤ 2 ∧ Aside0 (kq + x = 3) ∧ Aside0 (Kd.R (Kd.int .u8) 5 w' w.heap.size (fun _ => True) v8 (headAt a0 a1 l2.length x)) ∧ Aside0 (Below w.heap.size w w'))
      case atStart => exact ⟨0, rfl, by omega, ⟨rfl⟩, ⟨by have := lit_own .u8 5 (w.alloc (.cells #[.int .i64 a0, .int .i64 a1] 3)) w.heap.size HB1.out.size (headAt a0 a1 l2.length 0) (by simp [headAt, maxLen]) #[.int .u8 ((l2.length : Int) / 256 % 256), .int .u8 ((l2.length : Int) % 256)] rfl 2 rfl; rwa [World.size_alloc] at this⟩, ⟨below_alloc HB1.out _⟩⟩
      case round =>
        obtain ⟨x, rfl, hx2, HK, HO, HB⟩ := hrel
        have hx3 : x = 0 ∨ x = 1 ∨ x = 2 := by omega
        clear hx2
        rcases hx3 with rfl | rfl | rfl
        · -- round 0
          have hix : ∀ W, (Instr.index 55 (.agg #[.int .i64 a0, .int .i64 a1]) (.int .i64 0)).run Tryd.prog W = .ok (.int .i64 a0) W := fun W => by kernel_rfl
          go_wp2_with (first | ((with_reducible refine gate_builtin (b := .append) (xs := #[.tmp 35, .tmp 47]) rfl ?_); at_builtin; refine of_halt ?_))
          unfold G.Halt
          refine Kd.R_append_row (w0 := w) (Value.int .u8) 0 w.heap.size rfl (.tmp 35) (.tmp 47) 22 5 (.int .u8 0) 1 rfl Tryd.underlying22 info5 rfl (by omega) u8 (headAt a0 a1 l2.length 0) (be4 a0) (some ⟨wr.heap.size, 0, none⟩) 4 4 (fun _ => True) rfl rfl (fun _ _ => trivial) (Kd.R_alloc HO.out _) (C_block (be4 a0) (heap_alloc_new wr _) rfl (by simp [be4])) (below_alloc HB.out _) (by have := HB.out.size; simp; omega) (by simp [headAt, be4]) ?_
          intro v8 w8 ho8 hb8 hg8 hat8
          have HO8 := Aside0.mk (show Kd.R (Kd.int .u8) 5 w8 w.heap.size (fun _ => True) v8 (headAt a0 a1 l2.length 1) by rw [headAt_01]; exact ho8)
          have HB8 := Aside0.mk hb8
          clear ho8 hb8 hg8 hat8 hix
          go_wp2
          go_roundg (gk - 1)
          case measure => have := HK.out; omega
          case rel => exact ⟨1, rfl, by omega, ⟨by have := HK.out; omega⟩, HO8, HB8⟩
        · -- round 1
          have hix : ∀ W, (Instr.index 55 (.agg #[.int .i64 a0, .int .i64 a1]) (.int .i64 1)).run Tryd.prog W = .ok (.int .i64 a1) W := fun W => by kernel_rfl
          go_wp2_with (first | ((with_reducible refine gate_builtin (b := .append) (xs := #[.tmp 35, .tmp 47]) rfl ?_); at_builtin; refine of_halt ?_))
          unfold G.Halt
          refine Kd.R_append_row (w0 := w) (Value.int .u8) 0 w.heap.size rfl (.tmp 35) (.tmp 47) 22 5 (.int .u8 0) 1 rfl Tryd.underlying22 info5 rfl (by omega) u8 (headAt a0 a1 l2.length 1) (be4 a1) (some ⟨wr.heap.size, 0, none⟩) 4 4 (fun _ => True) rfl rfl (fun _ _ => trivial) (Kd.R_alloc HO.out _) (C_block (be4 a1) (heap_alloc_new wr _) rfl (by simp [be4])) (below_alloc HB.out _) (by have := HB.out.size; simp; omega) (by simp [headAt, be4]) ?_
          intro v8 w8 ho8 hb8 hg8 hat8
          have HO8 := Aside0.mk (show Kd.R (Kd.int .u8) 5 w8 w.heap.size (fun _ => True) v8 (headAt a0 a1 l2.length 2) by rw [headAt_12]; exact ho8)
          have HB8 := Aside0.mk hb8
          clear ho8 hb8 hg8 hat8 hix
          go_wp2
          go_roundg (gk - 1)
          case measure => have := HK.out; omega
          case rel => exact ⟨2, rfl, by omega, ⟨by have := HK.out; omega⟩, HO8, HB8⟩
        · go_wp2_with (first | ((with_reducible refine gate_builtin (b := .append) (xs := #[.tmp 50, .tmp 51]) rfl ?_); at_builtin; refine of_halt ?_))
          unfold G.Halt
          refine Kd.R_append_row (w0 := w) (Value.int .u8) 0 w.heap.size rfl (.tmp 50) (.tmp 51) 22 5 (.int .u8 0) 1 rfl Tryd.underlying22 info5 rfl (by omega) u8 (headAt a0 a1 l2.length 2) l2 A2 l2.length c2 (fun _ => True) rfl rfl (fun _ _ => trivial) HO.out (Kd.C_below HR.out HB.out) HB.out HB.out.size (by have := HL.out; simp [headAt, be4]; omega) ?_
          intro v8 w8 ho8 hb8 hg8 hat8
          obtain ⟨L, hL⟩ : ∃ L, L = headAt a0 a1 l2.length 2 ++ l2 := ⟨_, rfl⟩
          rw [← hL] at ho8
          obtain ⟨A8, c8, rfl, hc8, hC8⟩ := Kd.R_reads ho8
          have HS8 := Aside0.mk (sums_Seal.calls A8 c8 L s w8 (Kd.C_below HT.out hb8) hC8 hc8 (by rw [hL, headAt_two]; exact HS.out))
          have HLL := Aside0.mk hL
          clear hL
          have HB8 := Aside0.mk hb8
          clear ho8 hb8 hg8 hat8 hC8 hc8
          go_wp2_with (first | (go_at_call 23; refine HS8.out.mono ?_; rintro e w9 ⟨v9, rfl, ho9, hb9⟩))
          go_ret2
          exact ⟨v9, rfl, Kd.R_lower ho9 HB8.out.size, below_step HB8.out hb9⟩
    · rw [if_neg hl] at h
      simp only [Option.some.injEq, Prod.mk.injEq] at h
      obtain ⟨rfl, rfl⟩ := h
      have b0 : decide (4096 < (l2.length : Int)) = true := decide_eq_true (by omega)
      clear hl
      go_enter Tryd.func11, Tryd.ntmps11
      go_wp2_with (first | (go_at_call 22; refine hnum.out.mono ?_; rintro e w' ⟨rfl, rfl⟩))
      go_ret2
      exact ⟨_, rfl, Kd.R_nil _ _ _ _ _, HB1.out⟩
  · rw [if_neg hb] at h
    rw [Bool.eq_false_iff.2 hb] at hnum
    simp only [Option.some.injEq, Prod.mk.injEq] at h
    obtain ⟨rfl, rfl⟩ := h
    clear hb
    go_enter Tryd.func11, Tryd.ntmps11
    go_wp2_with (first | (go_at_call 22; refine hnum.out.mono ?_; rintro e w' ⟨rfl, rfl⟩))
    go_ret2
    exact ⟨_, rfl, Kd.R_nil _ _ _ _ _, HB1.out⟩
end Go.Proofs.YtoehjojipmeagaaDoor.X
