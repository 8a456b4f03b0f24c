/- The disk: each method in one contract. -/
import Derived.Test.YtckbdckeijanlaaHDskJ
namespace Go.Proofs.Ytckbdckeijanlaa.G
open Go.RowKit Go.Shelf Go.Proofs.YtckbdckeijanlaaW.PrintWords Go.Proofs.YtckbdckeijanlaaW.PrintLast Go.Proofs.YtckbdckeijanlaaW.PrintMore Go.Proofs.Ytckbdckeijanlaa.Dsk
set_option linter.unusedVariables false
set_option linter.unusedSimpArgs false
/-- Numbers that no disk of a statement comes to. -/
structure Small (d : Dk) : Prop where
  steps : d.steps < 4611686018427387904
  left : d.left.getD 0 < 9223372036854775808
  waits : d.waits.length < 1000000000
  lies : d.lies.length < 1000000000
/-- A disk within F; F has no more than there is. -/
def Disk (F : Nat → Prop) (g : Nat) (d : Dk) (W : World) : Prop := Dm F g d W ∧ ∀ k, F k → k < W.heap.size
theorem Dm.disk {F : Nat → Prop} {g : Nat} {d : Dk} {W : World} (h : Dm F g d W) : Disk (fun k => F k ∧ k < W.heap.size) g d W := by
  obtain ⟨gl, cl, wv, h⟩ := h
  exact ⟨⟨gl, cl, wv, h.bound⟩, fun k hk => hk.2⟩
theorem Disk.ok {F : Nat → Prop} {g : Nat} {d : Dk} {W : World} (h : Disk F g d W) : Ok d := by
  obtain ⟨⟨_, _, _, h⟩, _⟩ := h
  exact h.ok
theorem Disk.below {F : Nat → Prop} {g : Nat} {d : Dk} {W W' : World} (h : Disk F g d W) (hb : Below W.heap.size W W') : Disk F g d W' := by
  obtain ⟨⟨gl, cl, wv, h⟩, hF⟩ := h
  exact ⟨⟨gl, cl, wv, h.below hb⟩, fun k hk => Nat.lt_of_lt_of_le (hF k hk) hb.size⟩
theorem Disk.kp {F G : Nat → Prop} {g : Nat} {d : Dk} {W W' : World} (h : Disk F g d W) (hb : Kp G W W') (hd : ∀ k, F k → ¬ G k) : Disk F g d W' := by
  obtain ⟨⟨gl, cl, wv, h⟩, hF⟩ := h
  exact ⟨⟨gl, cl, wv, h.kp hb hd⟩, fun k hk => Nat.lt_of_lt_of_le (hF k hk) hb.size⟩
theorem Disk.move {F : Nat → Prop} {g : Nat} {d : Dk} {W W' : World} (h : Disk F g d W) (hm : ∀ k, F k → k < W.heap.size → W'.heap[k]? = W.heap[k]?) (hs : W.heap.size ≤ W'.heap.size) : Disk F g d W' := by
  obtain ⟨⟨gl, cl, wv, h⟩, hF⟩ := h
  exact ⟨⟨gl, cl, wv, h.move hm⟩, fun k hk => Nat.lt_of_lt_of_le (hF k hk) hs⟩
/-- What a call that changes a disk leaves. -/
def OpPost (F : Nat → Prop) (g : Nat) (d : Dk) (c : Int) (W : World) (e : Ending) (w' : World) : Prop := e = .returned (.int .i64 c) ∧ ∃ F', Disk F' g d w' ∧ (∀ k, F' k → F k ∨ W.heap.size ≤ k) ∧ Kp F W w'
theorem OpPost.of_mem {F : Nat → Prop} {g : Nat} {d : Dk} {c : Int} {W : World} {e : Ending} {w' : World} (h : MemPost F g d W (.returned (.int .i64 c)) e w') : OpPost F g d c W e w' := by
  obtain ⟨he, gl, cl, wv, F', hM, hF, hK⟩ := h
  exact ⟨he, _, Dm.disk ⟨gl, cl, wv, hM⟩, fun k hk => hF k hk.1, hK⟩
theorem OpPost.same {F : Nat → Prop} {g : Nat} {d : Dk} {c : Int} {W w' : World} {e : Ending} (h : Disk F g d W) (he : e = .returned (.int .i64 c)) (hb : Below W.heap.size W w') : OpPost F g d c W e w' :=
  ⟨he, F, h.below hb, fun k hk => .inl hk, Kp.of_below hb⟩
theorem Write_c (F : Nat → Prop) (g : Nat) (d : Dk) (n : Int) (A : Option Addr) (m cm : Nat) (ys : List Int) (W : World) (h : Disk F g d W) (hs : Small d) (hC : Kd.C (Kd.int .u8) W A m ys) :
    Calls Try.prog 12 #[.pointer (some ⟨g, 0, none⟩), .int .i64 n, .slice A m cm] W (OpPost F g (write d n ys).1 (write d n ys).2 W) := by
  obtain ⟨gl, cl, wv, hM⟩ := h.1
  have hlen : ys.length = m := hC.1
  cases hS : isS d n with
  | false =>
    have e : write d n ys = (d, 4) := by unfold write; rw [if_pos hS]
    rw [e]
    exact (Write_bad F g gl cl d wv n _ W hM hS).mono fun e w' ⟨he, hw⟩ => by subst hw; exact OpPost.same h he (Below.refl _ _)
  | true =>
    by_cases hm : m = 64
    · subst hm
      cases hd : down d with
      | true =>
        have e : write d n ys = (d, 170) := by unfold write; rw [hS, if_neg (by simp), if_neg (by rw [hlen]; simp), hd, if_pos rfl]
        rw [e]
        exact (Write_down F g gl cl d wv n A cm W hM hS hd).mono fun e w' ⟨he, hw⟩ => by subst hw; exact OpPost.same h he (Below.refl _ _)
      | false =>
        have e : (write d n ys).2 = 0 := by unfold write; rw [hS, if_neg (by simp), if_neg (by rw [hlen]; simp), hd, if_neg (by simp)]
        rw [e]
        obtain ⟨pb, hA, hc⟩ := hC.2.2 (by omega)
        subst hA
        have hcell : ∀ i u, (bts ys)[i]? = some u → W.cell? (pb.add i) = some u := fun i u hu => by
          rw [bts, List.getElem?_map] at hu
          obtain ⟨y, hy, rfl⟩ := Option.map_eq_some_iff.1 hu
          obtain ⟨c, hcl, hk, hcc⟩ := hc i y hy
          have hk' : c = [.int .u8 y] := hk
          subst hk'
          have := hcc 0 (.int .u8 y) rfl
          simpa [Kd.int, Kd.scalar] using this
        exact (Write_ok F g gl cl d wv n pb ys cm W hM hS hd hlen hcell hs.steps hs.left hs.waits).mono fun e w' he => OpPost.of_mem he
    · have e : write d n ys = (d, 2) := by unfold write; rw [hS, if_neg (by simp), if_pos (by rw [hlen]; exact hm)]
      rw [e]
      exact (Write_len F g gl cl d wv n A m cm W hM hS hm).mono fun e w' ⟨he, hw⟩ => by subst hw; exact OpPost.same h he (Below.refl _ _)
theorem Flush_c (F : Nat → Prop) (g : Nat) (d : Dk) (W : World) (h : Disk F g d W) (hs : Small d) :
    Calls Try.prog 13 #[.pointer (some ⟨g, 0, none⟩)] W (OpPost F g (flush d).1 (flush d).2 W) := by
  obtain ⟨gl, cl, wv, hM⟩ := h.1
  cases hd : down d with
  | true =>
    have e : flush d = (d, 170) := by unfold flush; rw [hd, if_pos rfl]
    rw [e]
    exact (Flush_down F g gl cl d wv W hM hd).mono fun e w' ⟨he, hw⟩ => OpPost.same h he hw
  | false =>
    have e : (flush d).2 = 0 := by unfold flush; rw [hd, if_neg (by simp)]
    rw [e]
    exact (Flush_ok F g gl cl d wv W hM hd hs.steps hs.left (by have := hs.waits; omega)).mono fun e w' he => OpPost.of_mem he
theorem Stop_c (F : Nat → Prop) (g : Nat) (d : Dk) (n : Int) (W : World) (h : Disk F g d W) (hn : n < 9223372036854775808) :
    Calls Try.prog 18 #[.pointer (some ⟨g, 0, none⟩), .int .i64 n] W (OpPost F g (stop d n).1 (stop d n).2 W) := by
  obtain ⟨gl, cl, wv, hM⟩ := h.1
  refine (Stop_calls F g gl cl d wv n W hM hn).mono fun e w' ⟨he, hM', hk⟩ => ⟨he, F, ⟨⟨gl, cl, wv, hM'⟩, fun k hf => Nat.lt_of_lt_of_le (h.2 k hf) hk.size⟩, fun k hf => .inl hf, hk.mono fun q _ hq => by rw [hq]; exact hM.fg⟩
theorem Spoil_c (F : Nat → Prop) (g : Nat) (d : Dk) (n at_ y : Int) (W : World) (h : Disk F g d W) :
    Calls Try.prog 20 #[.pointer (some ⟨g, 0, none⟩), .int .i64 n, .int .i64 at_, .int .u8 y] W (OpPost F g (spoil d n at_ y).1 (spoil d n at_ y).2 W) := by
  obtain ⟨gl, cl, wv, hM⟩ := h.1
  by_cases hb : isS d n = false ∨ at_ < 0 ∨ 64 ≤ at_
  · have e : spoil d n at_ y = (d, 4) := by unfold spoil; rw [if_pos hb]
    rw [e]
    exact (Spoil_bad F g gl cl d wv n at_ y W hM hb).mono fun e w' ⟨he, hw⟩ => by subst hw; exact OpPost.same h he (Below.refl _ _)
  · have hS : isS d n = true := by cases hh : isS d n with | true => rfl | false => exact absurd (.inl hh) hb
    have e : (spoil d n at_ y).2 = 0 := by unfold spoil; rw [if_neg hb]
    rw [e]
    refine (Spoil_ok F g gl cl d wv n at_ y W hM hS (by omega) (by omega)).mono fun e w' ⟨he, hM', hk⟩ => ⟨he, F, ⟨⟨gl, cl, wv, hM'⟩, fun k hf => Nat.lt_of_lt_of_le (h.2 k hf) hk.size⟩, fun k hf => .inl hf, hk.mono fun q _ hq => by rw [hq]; exact hM.fl⟩
/-- What Read leaves. -/
def RdP (r : List Int × Int) (W : World) (e : Ending) (w' : World) : Prop := ∃ v, e = .returned (.tuple #[v, .int .i64 r.2]) ∧ Kd.R (Kd.int .u8) 5 w' W.heap.size (fun _ => True) v r.1 ∧ Below W.heap.size W w'
theorem Read_c (F : Nat → Prop) (g : Nat) (d : Dk) (n : Int) (W : World) (h : Disk F g d W) (hs : Small d) :
    Calls Try.prog 15 #[.pointer (some ⟨g, 0, none⟩), .int .i64 n] W (RdP (Dsk.read d n) W) := by
  obtain ⟨gl, cl, wv, hM⟩ := h.1
  cases hS : isS d n with
  | false =>
    have e : Dsk.read d n = ([], 4) := by unfold Dsk.read; rw [if_pos hS]
    rw [e]
    exact (Read_bad F g gl cl d wv n W hM hS).mono fun e w' ⟨he, hw⟩ => ⟨_, he, Kd.R_nil _ _ _ _ _, hw⟩
  | true =>
    cases hd : down d with
    | true =>
      have e : Dsk.read d n = ([], 170) := by unfold Dsk.read; rw [hS, if_neg (by simp), hd, if_pos rfl]
      rw [e]
      exact (Read_down F g gl cl d wv n W hM hS hd).mono fun e w' ⟨he, hw⟩ => ⟨_, he, Kd.R_nil _ _ _ _ _, hw⟩
    | false =>
      have e : Dsk.read d n = (latest d n.toNat, 0) := by unfold Dsk.read; rw [hS, if_neg (by simp), hd, if_neg (by simp)]
      rw [e]
      have hn := of_decide_eq_true hS
      obtain ⟨i, rfl⟩ := Int.eq_ofNat_of_zero_le hn.1
      rw [Int.toNat_natCast]
      exact Read_ok F g gl cl d wv i W hM (by omega) hd (by have := hs.waits; omega)
theorem Waits_c (F : Nat → Prop) (g : Nat) (d : Dk) (W : World) (h : Disk F g d W) (hs : Small d) :
    Calls Try.prog 16 #[.pointer (some ⟨g, 0, none⟩)] W (WtPost (d.waits.map fun w => ((w.1 : Nat) : Int)) W) := by
  obtain ⟨gl, cl, wv, hM⟩ := h.1
  exact Waits_calls F g gl cl d wv W hM hs.waits
theorem Sectors_c (F : Nat → Prop) (g : Nat) (d : Dk) (W : World) (h : Disk F g d W) :
    Calls Try.prog 21 #[.pointer (some ⟨g, 0, none⟩)] W fun e w' => e = .returned (.int .i64 (d.lies.length : Int)) ∧ w' = W := by
  obtain ⟨gl, cl, wv, hM⟩ := h.1
  exact Sectors_calls F g gl cl d wv W hM
theorem Steps_c (F : Nat → Prop) (g : Nat) (d : Dk) (W : World) (h : Disk F g d W) :
    Calls Try.prog 19 #[.pointer (some ⟨g, 0, none⟩)] W fun e w' => e = .returned (.int .i64 (d.steps : Int)) ∧ w' = W := by
  obtain ⟨gl, cl, wv, hM⟩ := h.1
  exact Steps_calls F g gl cl d wv W hM
/-- What makes a new disk leaves. -/
def MkP (d : Dk) (W : World) (e : Ending) (w' : World) : Prop := ∃ g F, e = .returned (.tuple #[.pointer (some ⟨g, 0, none⟩), .int .i64 0]) ∧ Disk F g d w' ∧ (∀ k, F k → W.heap.size ≤ k) ∧ Below W.heap.size W w'
theorem Crash_c (F : Nat → Prop) (g : Nat) (d : Dk) (ks : List Int) (A : Option Addr) (cm : Nat) (W : World) (h : Disk F g d W) (hs : Small d) (hK : Kd.C (Kd.int .i64) W A ks.length ks) (hkc : ks.length ≤ cm) :
    Calls Try.prog 14 #[.pointer (some ⟨g, 0, none⟩), .slice A ks.length cm] W (MkP (crash d ks) W) := by
  obtain ⟨gl, cl, wv, hM⟩ := h.1
  exact (Crash_calls F g gl cl d wv ks A cm W hM hs.waits hs.lies hK hkc).mono fun e w' ⟨g2, he, hD, hb⟩ => ⟨g2, _, he, hD.disk, fun k hk => hk.1, hb⟩
theorem New_c (n : Int) (W : World) (h1 : 1 ≤ n) (h2 : n ≤ 4096) : Calls Try.prog 10 #[.int .i64 n] W (MkP (new n.toNat) W) :=
  (New_ok n W h1 h2).mono fun e w' ⟨g2, he, hD, hb⟩ => ⟨g2, _, he, hD.disk, fun k hk => hk.1, hb⟩
end Go.Proofs.Ytckbdckeijanlaa.G
