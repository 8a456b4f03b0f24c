/- Slots, plainly: a head, what lies in a slot, which one counts. -/
import Derived.Test.YthpholjelfajiaaDoorChunkT
import Derived.Test.YthpholjelfajiaaDoorDiskM
import Derived.Test.YthpholjelfajiaaDoorSlotH
import Derived.Test.YthpholjelfajiaaDoorX1
namespace Go.Proofs.YthpholjelfajiaaDoor.Sl
open Go.RowKit Go.Proofs.YthpholjelfajiaaDoor.X Go.Proofs.YthpholjelfajiaaDoor.G Go.Proofs.YthpholjelfajiaaDoor.T Go.Proofs.YthpholjelfajiaaDoor.E Go.Proofs.YthpholjelfajiaaDoor.C Go.Proofs.YthpholjelfajiaaDoor.Dsk Go.Proofs.YthpholjelfajiaaDoorW.PrintWords Go.Proofs.YthpholjelfajiaaDoorW.PrintLast Go.Proofs.YthpholjelfajiaaDoorW.PrintMore
set_option linter.unusedVariables false
set_option linter.unusedSimpArgs false
theorem or2 (i : Nat) (hi : i ≤ 62) (x y : Int) (hx0 : 0 ≤ x) (hx : x % 2 ^ i = 0) (hx1 : x < 4611686018427387904) (hy0 : 0 ≤ y) (hy : y < 2 ^ i) (hy1 : y < 4611686018427387904) : Go.bits .or .i64 x y = x + y :=
  bits_join .i64 62 (by decide) (fun n a b => by rw [IntKind.wrap_i64]; omega) i x y hx0 hx (by simpa using hx1) hy0 hy (by simpa using hy1)
theorem rd_bytes {l : List Int} (h : Bytes l) (i : Int) (h0 : 0 ≤ i) (h1 : i < l.length) : 0 ≤ rd l i ∧ rd l i < 256 := by
  obtain ⟨n, rfl⟩ := Int.eq_ofNat_of_zero_le h0
  have hn : n < l.length := by omega
  exact h _ (by simp [rd, hn])
theorem number_f (l : List Int) (h : 4 ≤ l.length) (hb : Bytes l) : slots_number.f l = some (num4 l) := by
  unfold slots_number.f num4
  rw [if_pos (by omega), if_pos (by omega), if_pos (by omega), if_pos (by omega)]
  have h0 := rd_bytes hb 0 (by omega) (by omega)
  have h1 := rd_bytes hb 1 (by omega) (by omega)
  have h2 := rd_bytes hb 2 (by omega) (by omega)
  have h3 := rd_bytes hb 3 (by omega) (by omega)
  generalize rd l 0 = a at *
  generalize rd l 1 = b at *
  generalize rd l 2 = c at *
  generalize rd l 3 = d at *
  rw [show wrap64 (wrap64 a * 16777216) = a * 16777216 by unfold wrap64; omega, show wrap64 (wrap64 b * 65536) = b * 65536 by unfold wrap64; omega, show wrap64 (wrap64 c * 256) = c * 256 by unfold wrap64; omega, show wrap64 d = d by unfold wrap64; omega]
  rw [or2 24 (by omega) (a * 16777216) (b * 65536) (by omega) (by omega) (by omega) (by omega) (by omega) (by omega)]
  rw [or2 16 (by omega) (a * 16777216 + b * 65536) (c * 256) (by omega) (by omega) (by omega) (by omega) (by omega) (by omega)]
  rw [or2 8 (by omega) (a * 16777216 + b * 65536 + c * 256) d (by omega) (by omega) (by omega) (by omega) (by omega) (by omega)]
  congr 1
  omega
theorem num4_range {l : List Int} (h : 4 ≤ l.length) (hb : Bytes l) : 0 ≤ num4 l ∧ num4 l < 4294967296 := by
  have h0 := rd_bytes hb 0 (by omega) (by omega)
  have h1 := rd_bytes hb 1 (by omega) (by omega)
  have h2 := rd_bytes hb 2 (by omega) (by omega)
  have h3 := rd_bytes hb 3 (by omega) (by omega)
  unfold num4
  omega
theorem num4_b4 (n : Int) (h : 0 ≤ n ∧ n < 4294967296) (r : List Int) : num4 (b4 n ++ r) = n := by
  have e : num4 (b4 n ++ r) = ((n / 16777216 % 256 * 256 + n / 65536 % 256) * 256 + n / 256 % 256) * 256 + n % 256 := rfl
  rw [e]
  omega
theorem b4_num4 (l : List Int) (h : 4 ≤ l.length) (hb : Bytes l) : b4 (num4 l) = l.take 4 := by
  match l, h with
  | a :: b :: c :: d :: r, _ =>
    have ha := hb a (by simp)
    have hbb := hb b (by simp)
    have hc := hb c (by simp)
    have hd := hb d (by simp)
    have e : num4 (a :: b :: c :: d :: r) = ((a * 256 + b) * 256 + c) * 256 + d := rfl
    rw [e]
    show b4 _ = [a, b, c, d]
    unfold b4
    congr 1
    · omega
    congr 1
    · omega
    congr 1
    · omega
    congr 1
    omega
theorem headB_num (k e s : Int) (he : 0 ≤ e ∧ e < 4294967296) : num4 (headB k e s) = e := by
  have : headB k e s = b4 e ++ ([99, 108, 112, 104] ++ [k % 256] ++ b4 s ++ List.replicate 43 0 ++ bytes4 (crc (headP k e s)) ++ b4 e) := by
    unfold headB headP
    simp only [List.append_assoc]
  rw [this, num4_b4 e he]
theorem headB_size (k e s : Int) (hs : 0 ≤ s ∧ s < 4294967296) : num4 ((headB k e s).drop 9) = s := by
  have : (headB k e s).drop 9 = b4 s ++ (List.replicate 43 0 ++ bytes4 (crc (headP k e s)) ++ b4 e) := by
    unfold headB headP
    rfl
  rw [this, num4_b4 s hs]
theorem b4_Bytes (n : Int) : Bytes (b4 n) := fun x hx => by
  simp only [b4, List.mem_cons, List.not_mem_nil, or_false] at hx
  omega
theorem bytes4_Bytes (c : Int) : Bytes (bytes4 c) := fun x hx => by
  simp only [bytes4, List.mem_cons, List.not_mem_nil, or_false] at hx
  omega
theorem headP_Bytes (k e s : Int) : Bytes (headP k e s) := by
  unfold headP
  refine Bytes.append (Bytes.append (Bytes.append (Bytes.append (b4_Bytes _) ?_) ?_) (b4_Bytes _)) ?_
  · intro x hx
    simp only [List.mem_cons, List.not_mem_nil, or_false] at hx
    omega
  · intro x hx
    obtain rfl : x = k % 256 := by simpa using hx
    omega
  · intro x hx
    rw [List.eq_of_mem_replicate hx]
    omega
theorem headB_Bytes (k e s : Int) : Bytes (headB k e s) := ((headP_Bytes k e s).append (bytes4_Bytes _)).append (b4_Bytes _)
/-- A slot: does it stand, its epoch, its text. -/
abbrev Slot := Bool × Int × List Int
def slot0 : Slot := (false, 0, [])
def bg (fr ch k : Nat) : Nat := fr + k * (1 + ch)
/-- A head that counts. -/
def HeadOk (b : List Int) (k ch : Nat) : Prop := 1 ≤ num4 b ∧ num4 b ≤ 2147483647 ∧ num4 (b.drop 9) ≤ 54 * (ch : Int) ∧ b = headB k (num4 b) (num4 (b.drop 9))
instance (b : List Int) (k ch : Nat) : Decidable (HeadOk b k ch) := by unfold HeadOk; infer_instance
def rowsOf (d : Dk) (at_ n : Nat) : List (List Int) := (List.range n).map fun i => latest d (at_ + i)
def sizeOf_ (b : List Int) : Nat := (cnt (num4 (b.drop 9))).toNat
/-- What lies in a slot. -/
def readS (d : Dk) (fr ch k : Nat) : Slot :=
  if HeadOk (latest d (bg fr ch k)) k ch then
    (if (JN (rowsOf d (bg fr ch k + 1) (sizeOf_ (latest d (bg fr ch k)))) (num4 (latest d (bg fr ch k))) (num4 ((latest d (bg fr ch k)).drop 9))).2 = 0 then (true, num4 (latest d (bg fr ch k)), (JN (rowsOf d (bg fr ch k + 1) (sizeOf_ (latest d (bg fr ch k)))) (num4 (latest d (bg fr ch k))) (num4 ((latest d (bg fr ch k)).drop 9))).1) else slot0)
  else slot0
/-- A slot with a head and its chunks. -/
theorem readS_saved (d : Dk) (fr ch k : Nat) (l0 : List Int) (e : Int) (he : 1 ≤ e ∧ e ≤ 2147483647) (hc : ch ≤ 4096) (hl : l0.length ≤ 54 * ch) (hh : latest d (bg fr ch k) = headB k e l0.length) (hb : ∀ i, i < (l0.length + 53) / 54 → latest d (bg fr ch k + 1 + i) = chunkOf l0 e i) : readS d fr ch k = (true, e, l0) := by
  have h1 : num4 (latest d (bg fr ch k)) = e := by rw [hh]; exact headB_num _ _ _ (by omega)
  have h2 : num4 ((latest d (bg fr ch k)).drop 9) = (l0.length : Int) := by rw [hh]; exact headB_size _ _ _ (by omega)
  have h3 : rowsOf d (bg fr ch k + 1) (sizeOf_ (latest d (bg fr ch k))) = chunks l0 e := by
    unfold rowsOf chunks sizeOf_
    rw [h2, cnt_len, Int.toNat_natCast]
    exact List.map_congr_left fun i hi => hb i (List.mem_range.1 hi)
  have h4 := JN_all l0 e he (by omega)
  unfold readS
  rw [if_pos (show HeadOk _ k ch from by unfold HeadOk; rw [h1, h2]; exact ⟨he.1, he.2, by omega, hh⟩), h1, h2, h3, h4, if_pos rfl]
/-- Another sector does not matter. -/
theorem readS_same (d d' : Dk) (fr ch k : Nat) (h : ∀ j, bg fr ch k ≤ j → j ≤ bg fr ch k + ch → latest d' j = latest d j) (hc : ch ≤ 4096) : readS d' fr ch k = readS d fr ch k := by
  have h0 := h (bg fr ch k) (Nat.le_refl _) (by omega)
  unfold readS
  rw [h0]
  by_cases hk : HeadOk (latest d (bg fr ch k)) k ch
  · have hs : sizeOf_ (latest d (bg fr ch k)) ≤ ch := by
      have := hk.2.2.1
      unfold sizeOf_ cnt
      split <;> omega
    have hr : rowsOf d' (bg fr ch k + 1) (sizeOf_ (latest d (bg fr ch k))) = rowsOf d (bg fr ch k + 1) (sizeOf_ (latest d (bg fr ch k))) :=
      List.map_congr_left fun i hi => h _ (by omega) (by have := List.mem_range.1 hi; omega)
    rw [if_pos hk, if_pos hk, hr]
  · rw [if_neg hk, if_neg hk]
theorem readS_none (d : Dk) (fr ch k : Nat) (h : ¬ HeadOk (latest d (bg fr ch k)) k ch) : readS d fr ch k = slot0 := by
  unfold readS
  rw [if_neg h]
/-- Which slot counts. -/
def which (s0 s1 : Slot) : Int := if s1.1 = true ∧ (s0.1 = false ∨ s0.2.1 < s1.2.1) then 1 else if s0.1 = true then 0 else -1
def lastE (s0 s1 : Slot) : Int := if which s0 s1 = 1 then s1.2.1 else if which s0 s1 = 0 then s0.2.1 else 0
def lastB (s0 s1 : Slot) : List Int := if which s0 s1 = 1 then s1.2.2 else if which s0 s1 = 0 then s0.2.2 else []
/-- A flush, if nothing went wrong so far. -/
def fl1 (a : Dk × Int) : Dk × Int := if a.2 = 0 then flush a.1 else a
/-- A write to the place that is next. -/
def st1 (x : (Dk × Int) × Nat) (b : List Int) : (Dk × Int) × Nat := if x.1.2 = 0 then (Dsk.write x.1.1 (x.2 : Int) b, x.2 + 1) else x
def wrs (x : (Dk × Int) × Nat) (l : List (List Int)) : (Dk × Int) × Nat := l.foldl st1 x
/-- What Save does to the disk. -/
def saveD (d : Dk) (fr ch k : Nat) (l0 : List Int) (e : Int) : Dk × Int :=
  fl1 (st1 (fl1 (wrs ((d, 0), bg fr ch k + 1) (chunks l0 e)).1, bg fr ch k) (headB k e l0.length)).1
def saveK (s0 s1 : Slot) : Nat := if which s0 s1 = 0 then 1 else 0
end Go.Proofs.YthpholjelfajiaaDoor.Sl
