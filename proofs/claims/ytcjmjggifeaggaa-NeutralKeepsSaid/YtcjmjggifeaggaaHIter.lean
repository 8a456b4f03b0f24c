/- slices.All and slices.Backward over whole numbers: what they hand to a loop. -/
import Derived.RangeFuncNested
import Derived.RangeFuncBound
import Derived.RangeFuncCalls
import Derived.RangeFuncLeaves
import Derived.Shelf.Abstract
import Derived.Shelf.RegionOpen
import Derived.WalkKit
import Derived.OwnWalkIn
import Derived.TacticsInMore
import Derived.LoopNIn
import Derived.LoopIn
import Derived.Test.YtcjmjggifeaggaaHSides
namespace Go.Proofs.Ytcjmjggifeaggaa.G
open Go.RowKit Go.Shelf Go.Proofs.YtcjmjggifeaggaaW.PrintWords Go.Proofs.YtcjmjggifeaggaaW.PrintLast Go.Proofs.YtcjmjggifeaggaaW.PrintMore
set_option linter.unusedVariables false
set_option linter.unusedSimpArgs false
attribute [local go_sem] Oper.semAt_some

abbrev encIt {n : Nat} (x : Fin n × Int) : Array Value := #[.int .i64 ((x.1 : Nat) : Int), .int .i64 x.2]
theorem take_ofFn {α : Type} {n : Nat} (f : Fin n → α) (k : Nat) (h : k < n) : (List.ofFn f).take (k + 1) = (List.ofFn f).take k ++ [f ⟨k, h⟩] := by
  rw [List.take_succ_eq_append_getElem (by simpa using h)]
  simp
theorem take_ofFn_all {α : Type} {n : Nat} (f : Fin n → α) : (List.ofFn f).take n = List.ofFn f := List.take_of_length_le (by simp)
def allOf (zs : List Int) : List (Fin zs.length × Int) := List.ofFn (fun k => (k, zs[k]))
def backOf (zs : List Int) : List (Fin zs.length × Int) := List.ofFn (fun k => (k.rev, zs[k.rev]))

set_option maxRecDepth 100000 in
set_option maxHeartbeats 4000000 in
theorem all1_in (F : Fence) (n : Nat) (h8 : F.fn 24) (hro : F.round = none) (hn : 1 ≤ n) (l Bs c : Nat) (A : Option Addr) (zs : List Int) (w0 : World) (hlen : zs.length < 17592186044416) (hC : Kd.C (Kd.int .i64) w0 A zs.length zs) (hbs : w0.cell? ⟨Bs, 0, none⟩ = some (.slice A zs.length c))
    (J Jx : List (Fin zs.length × Int) → World → Prop)
    (hY : ∀ pre x W, J pre W → pre.length < zs.length → YieldAt F (n - 1) Try.prog l (encIt x) W fun e W' =>
      (e = .returned (.bool true) ∧ J (pre ++ [x]) W' ∧ Below w0.heap.size W W') ∨ (e = .returned (.bool false) ∧ Jx (pre ++ [x]) W'))
    (W : World) (hW : Below w0.heap.size w0 W) (h0 : J [] W) :
    CallsIn F n Try.prog 24 #[.func (.yield l) #[] #[], .pointer (some ⟨Bs, 0, none⟩)] W fun e W' => (∃ v, e = .returned v) ∧
      ((∃ ys, ys = allOf zs ∧ J ys W') ∨ (∃ pre, True ∧ Jx pre W')) := by
  have HC := Aside0.mk hC
  have hB0 := (hW.cell (p := ⟨Bs, 0, none⟩) (World.block_lt_of_cell? w0 _ hbs)).trans hbs
  have HW := Aside0.mk hW
  have HL := Aside0.mk hlen
  clear hC hW hbs hlen
  refine callsIn_of_wp Try.func24 rfl h8 ?_ hro
  simp only [Try.ntmps24, List.size_toArray, List.length_cons, List.length_nil, Nat.reduceAdd, Nat.reduceSub, Array.replicate_succ, Array.replicate_zero, List.push_toArray, List.append_toArray, List.nil_append, List.cons_append]
  gi_wp2
  gi_loopw [7] (fun i wr => ∃ k : Nat, Aside0 (k ≤ zs.length) ∧ i = .int .i64 k ∧ J ((allOf zs).take k) wr ∧ Aside0 (Below w0.heap.size w0 wr))
    (fun i _ => zs.length - (intOf i).toNat)
  case atStart => exact ⟨0, ⟨Nat.zero_le _⟩, rfl, by simpa using h0, HW⟩
  case round =>
    obtain ⟨k, HK, rfl, hJs, HB⟩ := hrel
    by_cases hlt : k < zs.length
    · obtain ⟨fn, tmps, assign, body, hy, hR⟩ := hY _ ((⟨k, hlt⟩ : Fin zs.length), zs[k]) wr hJs (by simp [allOf]; omega)
      (try dsimp only [encIt] at hy); (try dsimp only [encIt] at hR)
      obtain ⟨ad, e, hx⟩ := Kd.at_int (Kd.C_below HC.out HB.out) (k : Int) (by omega) (by omega)
      cases e
      rw [show rd zs (k : Int) = zs[k] by simp [rd, hlt]] at hx
      simp only [Int.toNat_natCast] at hx
      have hi : (k : Int) < (zs.length : Int) := by omega
      have HLT := Aside0.mk hlt
      generalize hz : zs[k] = z at *
      have HZ := Aside0.mk hz
      clear hz
      gi_wp2
      refine hR.mono ?_
      rintro e W3 (⟨rfl, hJ3, hk3⟩ | ⟨rfl, hJx3⟩)
      · gi_wp2
        go_roundw
        case rel => exact ⟨k + 1, ⟨by have := HLT.out; omega⟩, by rw [show wrap64 ((k : Int) + 1) = ((k + 1 : Nat) : Int) from by have := HLT.out; have := HL.out; unfold wrap64; omega], by rw [allOf, take_ofFn _ k HLT.out]; rw [← HZ.out] at hJ3; exact hJ3, ⟨HB.out.trans hk3⟩⟩
        case measure => rw [show wrap64 ((k : Int) + 1) = ((k + 1 : Nat) : Int) from by have := HLT.out; have := HL.out; unfold wrap64; omega]; simp only [intOf, Int.toNat_natCast]; have := HLT.out; omega
      · gi_wp2
        refine bodyPost_ret (results_none rfl _ _ _) rfl ?_
        exact ⟨⟨_, rfl⟩, .inr ⟨_, trivial, hJx3⟩⟩
    · obtain rfl : k = zs.length := by have := HK.out; omega
      gi_wp2
      go_end0
      exact ⟨⟨_, rfl⟩, .inl ⟨_, rfl, by rw [allOf, take_ofFn_all] at hJs; exact hJs⟩⟩

set_option maxRecDepth 100000 in
set_option maxHeartbeats 4000000 in
theorem back1_in (F : Fence) (n : Nat) (h8 : F.fn 25) (hro : F.round = none) (hn : 1 ≤ n) (l Bs c : Nat) (A : Option Addr) (zs : List Int) (w0 : World) (hlen : zs.length < 17592186044416) (hC : Kd.C (Kd.int .i64) w0 A zs.length zs) (hbs : w0.cell? ⟨Bs, 0, none⟩ = some (.slice A zs.length c))
    (J Jx : List (Fin zs.length × Int) → World → Prop)
    (hY : ∀ pre x W, J pre W → pre.length < zs.length → YieldAt F (n - 1) Try.prog l (encIt x) W fun e W' =>
      (e = .returned (.bool true) ∧ J (pre ++ [x]) W' ∧ Below w0.heap.size W W') ∨ (e = .returned (.bool false) ∧ Jx (pre ++ [x]) W'))
    (W : World) (hW : Below w0.heap.size w0 W) (h0 : J [] W) :
    CallsIn F n Try.prog 25 #[.func (.yield l) #[] #[], .pointer (some ⟨Bs, 0, none⟩)] W fun e W' => (∃ v, e = .returned v) ∧
      ((∃ ys, ys = backOf zs ∧ J ys W') ∨ (∃ pre, True ∧ Jx pre W')) := by
  have HC := Aside0.mk hC
  have hB0 := (hW.cell (p := ⟨Bs, 0, none⟩) (World.block_lt_of_cell? w0 _ hbs)).trans hbs
  have HBS := Aside0.mk hbs
  have HW := Aside0.mk hW
  have HL := Aside0.mk hlen
  clear hC hW hbs hlen
  have HN : Aside0 (wrap64 ((zs.length : Int) - 1) = (zs.length : Int) - 1) := ⟨by have := HL.out; unfold wrap64; omega⟩
  refine callsIn_of_wp Try.func25 rfl h8 ?_ hro
  simp only [Try.ntmps25, List.size_toArray, List.length_cons, List.length_nil, Nat.reduceAdd, Nat.reduceSub, Array.replicate_succ, Array.replicate_zero, List.push_toArray, List.append_toArray, List.nil_append, List.cons_append]
  gi_wp2
  clear hB0
  gi_loopw [3] (fun i wr => ∃ k : Nat, Aside0 (k ≤ zs.length) ∧ i = .int .i64 ((zs.length : Int) - 1 - k) ∧ J ((backOf zs).take k) wr ∧ Aside0 (Below w0.heap.size w0 wr))
    (fun i _ => ((intOf i) + 1).toNat)
  case atStart => exact ⟨0, ⟨Nat.zero_le _⟩, by first | rfl | (rw [HN.out]; congr 1; omega) | (congr 1; have := HN.out; omega), by simpa using h0, HW⟩
  case round =>
    obtain ⟨k, HK, rfl, hJs, HB⟩ := hrel
    by_cases hlt : k < zs.length
    · obtain ⟨j, hj⟩ : ∃ j : Nat, zs.length = j + 1 + k := ⟨zs.length - 1 - k, by omega⟩
      have hjl : j < zs.length := by omega
      have hrev : (⟨k, hlt⟩ : Fin zs.length).rev = ⟨j, hjl⟩ := by apply Fin.ext; simp [Fin.rev]; omega
      obtain ⟨fn, tmps, assign, body, hy, hR⟩ := hY _ ((⟨j, hjl⟩ : Fin zs.length), zs[j]) wr hJs (by simp [backOf]; omega)
      (try dsimp only [encIt] at hy); (try dsimp only [encIt] at hR)
      have hcs := (HB.out.cell (p := ⟨Bs, 0, none⟩) (World.block_lt_of_cell? w0 _ HBS.out)).trans HBS.out
      obtain ⟨ad, e, hx⟩ := Kd.at_int (Kd.C_below HC.out HB.out) (j : Int) (by omega) (by omega)
      cases e
      rw [show rd zs (j : Int) = zs[j] by simp [rd, hjl]] at hx
      simp only [Int.toNat_natCast] at hx
      have hi : (j : Int) < (zs.length : Int) := by omega
      rw [show (zs.length : Int) - 1 - (k : Int) = (j : Int) by omega]
      have HJ := Aside0.mk hj
      have HLT := Aside0.mk hlt
      have HRV := Aside0.mk hrev
      clear hj hrev
      generalize hz : zs[j] = z at *
      have HZ := Aside0.mk hz
      clear hz
      gi_wp2
      refine hR.mono ?_
      rintro e W3 (⟨rfl, hJ3, hk3⟩ | ⟨rfl, hJx3⟩)
      · gi_wp2
        go_roundw
        case rel => exact ⟨k + 1, ⟨by have := HLT.out; omega⟩, by congr 1; have := HJ.out; have := HL.out; first | omega | (unfold wrap64; omega), by rw [backOf, take_ofFn _ k HLT.out]; simp only [HRV.out]; rw [← HZ.out] at hJ3; exact hJ3, ⟨HB.out.trans hk3⟩⟩
        case measure => have := HJ.out; have := HL.out; simp only [intOf]; first | omega | (unfold wrap64; omega)
      · gi_wp2
        refine bodyPost_ret (results_none rfl _ _ _) rfl ?_
        exact ⟨⟨_, rfl⟩, .inr ⟨_, trivial, hJx3⟩⟩
    · obtain rfl : k = zs.length := by have := HK.out; omega
      rw [show (zs.length : Int) - 1 - (zs.length : Int) = -1 by omega]
      gi_wp2
      go_end0
      exact ⟨⟨_, rfl⟩, .inl ⟨_, rfl, by rw [backOf, take_ofFn_all] at hJs; exact hJs⟩⟩

theorem all_stops (F : Fence) (n : Nat) (h8 : F.fn 24) (hro : F.round = none) (hn : 1 ≤ n) (Bs c : Nat) (A : Option Addr) (zs : List Int) (w0 : World) (hlen : zs.length < 17592186044416) (hC : Kd.C (Kd.int .i64) w0 A zs.length zs) (hbs : w0.cell? ⟨Bs, 0, none⟩ = some (.slice A zs.length c)) :
    SeqStopsK F n Try.prog 24 #[.pointer (some ⟨Bs, 0, none⟩)] (fun x : Fin zs.length × Int => encIt x) (Below w0.heap.size) (fun ys => ys = allOf zs) (fun _ => True) zs.length w0 := fun l J Jx W hW _ _ hY h0 =>
  all1_in F n h8 hro hn l Bs c A zs w0 hlen hC hbs J Jx hY W hW h0
theorem back_stops (F : Fence) (n : Nat) (h8 : F.fn 25) (hro : F.round = none) (hn : 1 ≤ n) (Bs c : Nat) (A : Option Addr) (zs : List Int) (w0 : World) (hlen : zs.length < 17592186044416) (hC : Kd.C (Kd.int .i64) w0 A zs.length zs) (hbs : w0.cell? ⟨Bs, 0, none⟩ = some (.slice A zs.length c)) :
    SeqStopsK F n Try.prog 25 #[.pointer (some ⟨Bs, 0, none⟩)] (fun x : Fin zs.length × Int => encIt x) (Below w0.heap.size) (fun ys => ys = backOf zs) (fun _ => True) zs.length w0 := fun l J Jx W hW _ _ hY h0 =>
  back1_in F n h8 hro hn l Bs c A zs w0 hlen hC hbs J Jx hY W hW h0

set_option maxHeartbeats 4000000 in
theorem all_calls (A : Option Addr) (m c : Nat) (w : World) : Calls Try.prog 19 #[.slice A m c] w fun e w' => e = .returned (.func (.func 24) #[] #[.pointer (some ⟨w.heap.size, 0, none⟩)]) ∧ w' = w.alloc (.cells #[.slice A m c] 22) := by
  go_enter Try.func19, Try.ntmps19
  go_wp2
  go_ret
  exact ⟨rfl, rfl⟩
set_option maxHeartbeats 4000000 in
theorem back_calls (A : Option Addr) (m c : Nat) (w : World) : Calls Try.prog 20 #[.slice A m c] w fun e w' => e = .returned (.func (.func 25) #[] #[.pointer (some ⟨w.heap.size, 0, none⟩)]) ∧ w' = w.alloc (.cells #[.slice A m c] 22) := by
  go_enter Try.func20, Try.ntmps20
  go_wp2
  go_ret
  exact ⟨rfl, rfl⟩
end Go.Proofs.Ytcjmjggifeaggaa.G
