/- Chapter 18 in plain Lean: records one behind another. -/
import Derived.Test.YtoehjojipmeagaaDoorRecRead
import Derived.Test.YtoehjojipmeagaaDoorBurstT
namespace Go.Proofs.YtoehjojipmeagaaDoor.Pure
open Go.RowKit Go.Proofs.YtoehjojipmeagaaDoor.X Go.Proofs.YtoehjojipmeagaaDoor.G Go.Proofs.YtoehjojipmeagaaDoor.T Go.Proofs.YtoehjojipmeagaaDoor.E Go.Proofs.YtoehjojipmeagaaDoor.S Go.Proofs.YtoehjojipmeagaaDoorW.PrintWords Go.Proofs.YtoehjojipmeagaaDoorW.PrintLast Go.Proofs.YtoehjojipmeagaaDoorW.PrintMore
set_option linter.unusedVariables false
set_option linter.unusedSimpArgs false

/-- A record. -/
def REC (ep sq : Int) (b : List Int) : List Int := sealed (headB ep sq b.length ++ b)
theorem REC_length (ep sq : Int) (b : List Int) : (REC ep sq b).length = 14 + b.length := by
  rw [REC, sealed, List.length_append, List.length_append, headB_length, bytes4_length]; omega
/-- The records at the front of bytes. -/
def scan : Nat → List Int → Int → Int → List (List Int) × Int
  | 0, _, _, _ => ([], 0)
  | n + 1, l, ep, sq => if (RD l ep sq).2.2 = 0 then ((RD l ep sq).1 :: (scan n (l.drop (RD l ep sq).2.1.toNat) ep (sq + 1)).1, (RD l ep sq).2.1 + (scan n (l.drop (RD l ep sq).2.1.toNat) ep (sq + 1)).2) else ([], 0)
/-- What is read. -/
theorem RD_ok (l : List Int) (ep sq : Int) (hb : Bytes l) (h : (RD l ep sq).2.2 = 0) : ∃ n : Nat, n ≤ 4096 ∧ n + 14 ≤ l.length ∧ RD l ep sq = ((l.drop 10).take n, (n : Int) + 14, 0) ∧ numB ep = true ∧ numB sq = true ∧ ((l.drop 10).take n).length = n := by
  unfold RD at h ⊢
  by_cases hn : [ep, sq].all numB = true
  rotate_left
  · rw [if_neg hn] at h; simp at h
  rw [if_pos hn] at h ⊢
  have hn' : numB ep = true ∧ numB sq = true := by simpa using hn
  by_cases h14 : l.length < 14
  · rw [if_pos h14] at h; simp at h
  rw [if_neg h14] at h ⊢
  have hnb := num_bound 2 (l.take 2) (by rw [List.length_take]; omega) (hb.take 2)
  obtain ⟨N, hN⟩ := Int.eq_ofNat_of_zero_le hnb.1
  rw [hN] at h ⊢
  by_cases h3 : 4096 < (N : Int)
  · rw [if_pos h3] at h; simp at h
  rw [if_neg h3] at h ⊢
  by_cases h4 : (l.length : Int) < (N : Int) + 14
  · rw [if_pos h4] at h; simp at h
  rw [if_neg h4] at h ⊢
  rw [Int.toNat_natCast] at h ⊢
  by_cases h5 : fits (l.take (N + 14)) = true
  rotate_left
  · rw [if_neg h5] at h; simp at h
  rw [if_pos h5] at h ⊢
  by_cases h6 : num ((l.drop 2).take 4) = ep ∧ num ((l.drop 6).take 4) = sq
  rotate_left
  · rw [if_neg h6] at h; simp at h
  rw [if_pos h6]
  exact ⟨N, by omega, by omega, rfl, hn'.1, hn'.2, by rw [List.length_take, List.length_drop]; omega⟩
theorem num_be4 (n : Int) (h : numB n = true) : num (be4 n) = n := by
  have hn : 1 ≤ n ∧ n ≤ 2147483647 := by simpa [numB] using h
  simp only [num, be4, List.foldl_cons, List.foldl_nil]
  omega
theorem num_two (n : Nat) (h : n ≤ 4096) : num [(n : Int) / 256 % 256, (n : Int) % 256] = n := by
  simp only [num, List.foldl_cons, List.foldl_nil]
  omega
theorem bytes4_Bytes (s : Int) (h : 0 ≤ s ∧ s < 4294967296) : Bytes (bytes4 s) := by
  intro x hx
  unfold bytes4 at hx
  simp only [List.mem_cons, List.not_mem_nil, or_false] at hx
  omega
theorem be4_Bytes (n : Int) (h : numB n = true) : Bytes (be4 n) := by
  have hn : 1 ≤ n ∧ n ≤ 2147483647 := by simpa [numB] using h
  intro x hx
  simp only [be4, List.mem_cons, List.not_mem_nil, or_false] at hx
  omega
theorem REC_Bytes (ep sq : Int) (b : List Int) (h1 : numB ep = true) (h2 : numB sq = true) (hb : Bytes b) : Bytes (REC ep sq b) := by
  rw [REC, sealed, headB]
  refine Bytes.append (Bytes.append (Bytes.append (Bytes.append ?_ (be4_Bytes _ h1)) (be4_Bytes _ h2)) hb) (bytes4_Bytes _ (crc_range _))
  intro x hx
  simp only [List.mem_cons, List.not_mem_nil, or_false] at hx
  omega
theorem REC_form (ep sq : Int) (b : List Int) : REC ep sq b = [(b.length : Int) / 256 % 256, (b.length : Int) % 256] ++ (be4 ep ++ (be4 sq ++ (b ++ bytes4 (crc (headB ep sq b.length ++ b))))) := by
  rw [REC, sealed]
  simp only [headB, List.append_assoc]
theorem fits_sealed (p : List Int) : fits (sealed p) = true := by
  unfold fits sealed
  have e : (p ++ bytes4 (crc p)).length - 4 = p.length := by rw [List.length_append, bytes4_length]; omega
  rw [e, List.take_left' rfl, List.drop_left' rfl]
  exact decide_eq_true ⟨by rw [List.length_append, bytes4_length]; omega, rfl⟩
/-- A record is read, wherever it stands; as another one it is stale. -/
theorem RD_REC (ep sq : Int) (b rest : List Int) (ep' sq' : Int) (h1 : numB ep = true) (h2 : numB sq = true) (hb : b.length ≤ 4096) :
    RD (REC ep sq b ++ rest) ep' sq' = if [ep', sq'].all numB = true then (if ep = ep' ∧ sq = sq' then (b, (b.length : Int) + 14, 0) else ([], 0, 180)) else ([], 0, 2) := by
  have hl := REC_length ep sq b
  have n2 : num ((REC ep sq b ++ rest).take 2) = (b.length : Int) := by
    rw [List.take_append_of_le_length (by omega), REC_form, List.take_left' (by rfl)]
    exact num_two _ hb
  have n4 : num (((REC ep sq b ++ rest).drop 2).take 4) = ep := by
    rw [List.drop_append_of_le_length (by omega), REC_form, List.drop_left' (by rfl), List.append_assoc, List.take_left' (by rfl)]
    exact num_be4 _ h1
  have n6 : num (((REC ep sq b ++ rest).drop 6).take 4) = sq := by
    rw [List.drop_append_of_le_length (by omega), REC_form, ← List.append_assoc, List.drop_left' (by rfl), List.append_assoc, List.take_left' (by rfl)]
    exact num_be4 _ h2
  have n10 : ((REC ep sq b ++ rest).drop 10).take b.length = b := by
    rw [List.drop_append_of_le_length (by omega), REC_form, ← List.append_assoc, ← List.append_assoc, List.drop_left' (by rfl), List.append_assoc, List.take_left' rfl]
  have nf : (REC ep sq b ++ rest).take (b.length + 14) = REC ep sq b := List.take_left' (by omega)
  unfold RD
  by_cases hn : [ep', sq'].all numB = true
  rotate_left
  · rw [if_neg hn, if_neg hn]
  rw [if_pos hn, if_pos hn, if_neg (by rw [List.length_append, hl]; omega), n2, if_neg (by omega), if_neg (by rw [List.length_append, hl]; omega), Int.toNat_natCast, nf, if_pos (show fits (REC ep sq b) = true from fits_sealed _), n4, n6, n10]
/-- Less than a record is none. -/
theorem RD_cut (ep sq : Int) (b : List Int) (k : Nat) (hb : b.length ≤ 4096) (hk : k < 14 + b.length) (ep' sq' : Int) : (RD ((REC ep sq b).take k) ep' sq').2.2 ≠ 0 := by
  have hl := REC_length ep sq b
  unfold RD
  by_cases hn : [ep', sq'].all numB = true
  rotate_left
  · rw [if_neg hn]; decide
  rw [if_pos hn]
  by_cases h14 : ((REC ep sq b).take k).length < 14
  · rw [if_pos h14]; decide
  rw [if_neg h14]
  rw [List.length_take] at h14
  have n2 : num (((REC ep sq b).take k).take 2) = (b.length : Int) := by
    rw [List.take_take, Nat.min_eq_left (by omega), REC_form, List.take_left' (by rfl)]
    exact num_two _ hb
  rw [n2, if_neg (by omega), if_pos (by rw [List.length_take]; omega)]
  decide
/-- The records of a log. -/
def WR (ep : Int) : Int → List (List Int) → List Int
  | _, [] => []
  | sq, b :: bs => REC ep sq b ++ WR ep (sq + 1) bs
theorem scan_stop (n : Nat) (l : List Int) (ep sq : Int) (h : (RD l ep sq).2.2 ≠ 0) : scan n l ep sq = ([], 0) := by
  cases n with
  | zero => rfl
  | succ n => rw [scan, if_neg h]
theorem scan_WR (ep : Int) (rest : List Int) (h1 : numB ep = true) : ∀ (bs : List (List Int)) (n : Nat) (sq : Int), (∀ b ∈ bs, b.length ≤ 4096) → (bs ≠ [] → numB sq = true ∧ numB (sq + bs.length - 1) = true) → bs.length ≤ n →
    scan n (WR ep sq bs ++ rest) ep sq = (bs ++ (scan (n - bs.length) rest ep (sq + bs.length)).1, (WR ep sq bs).length + (scan (n - bs.length) rest ep (sq + bs.length)).2)
  | [], n, sq, _, _, _ => by simp [WR]
  | b :: bs, n, sq, hb, hs, hn => by
    obtain ⟨n, rfl⟩ : ∃ m, n = m + 1 := ⟨n - 1, by simp at hn; omega⟩
    obtain ⟨h2, h3⟩ := hs (by simp)
    have hbl := hb b (by simp)
    have hr := RD_REC ep sq b (WR ep (sq + 1) bs ++ rest) ep sq h1 h2 hbl
    rw [if_pos (by simp [h1, h2]), if_pos ⟨rfl, rfl⟩] at hr
    rw [WR, List.append_assoc, scan, hr, if_pos rfl]
    have hd : (REC ep sq b ++ (WR ep (sq + 1) bs ++ rest)).drop ((b.length : Int) + 14).toNat = WR ep (sq + 1) bs ++ rest := List.drop_left' (by rw [REC_length]; omega)
    have ih := scan_WR ep rest h1 bs n (sq + 1) (fun b' hb' => hb b' (by simp [hb'])) (fun hne => by
      have : 0 < bs.length := List.length_pos_iff.2 hne
      have e : sq + 1 + (bs.length : Int) - 1 = sq + ((b :: bs).length : Int) - 1 := by simp; omega
      refine ⟨?_, by rw [e]; exact h3⟩
      simp [numB] at h2 h3 ⊢
      omega) (by simp at hn; omega)
    simp only [hd, ih]
    have e1 : n + 1 - (b :: bs).length = n - bs.length := by simp
    have e2 : sq + 1 + (bs.length : Int) = sq + ((b :: bs).length : Int) := by simp; omega
    rw [e1, e2, List.length_append, REC_length]
    simp
    omega
theorem WR_length_le (ep : Int) : ∀ (bs : List (List Int)) (sq : Int), bs.length * 14 ≤ (WR ep sq bs).length
  | [], _ => by simp
  | b :: bs, sq => by have := WR_length_le ep bs (sq + 1); rw [WR, List.length_append, REC_length]; simp; omega
theorem WR_Bytes (ep : Int) (h1 : numB ep = true) : ∀ (bs : List (List Int)) (sq : Int), (∀ b ∈ bs, Bytes b) → (bs ≠ [] → numB sq = true ∧ numB (sq + bs.length - 1) = true) → Bytes (WR ep sq bs)
  | [], _, _, _ => by intro x hx; simp [WR] at hx
  | b :: bs, sq, hb, hs => by
    obtain ⟨h2, h3⟩ := hs (by simp)
    refine Bytes.append (REC_Bytes _ _ _ h1 h2 (hb b (by simp))) (WR_Bytes ep h1 bs (sq + 1) (fun b' hb' => hb b' (by simp [hb'])) (fun hne => ?_))
    have : 0 < bs.length := List.length_pos_iff.2 hne
    have e : sq + 1 + (bs.length : Int) - 1 = sq + ((b :: bs).length : Int) - 1 := by simp; omega
    refine ⟨?_, by rw [e]; exact h3⟩
    simp [numB] at h2 h3 ⊢
    omega
/-- What Scan tells. -/
def SC (l : List Int) (ep sq : Int) : List (List Int) × Int × Int := if [ep, sq].all numB = true then ((scan (l.length + 1) l ep sq).1, (scan (l.length + 1) l ep sq).2, 0) else ([], 0, 2)
theorem scan_end (hl : Nat) : ∀ (n : Nat) (l : List Int) (ep sq : Int), Bytes l → 0 ≤ (scan n l ep sq).2 ∧ (scan n l ep sq).2 ≤ l.length
  | 0, l, _, _, _ => by simp [scan]
  | n + 1, l, ep, sq, hb => by
    rw [scan]
    by_cases h : (RD l ep sq).2.2 = 0
    · obtain ⟨m, _, hm, he, _⟩ := RD_ok l ep sq hb h
      rw [if_pos h, he]
      have ih := scan_end hl n (l.drop ((m : Int) + 14).toNat) ep (sq + 1) (hb.drop _)
      rw [List.length_drop] at ih
      simp only
      omega
    · rw [if_neg h]; simp
theorem scan_count : ∀ (n : Nat) (l : List Int) (ep sq : Int), Bytes l → (scan n l ep sq).1.length * 14 ≤ l.length
  | 0, l, _, _, _ => by simp [scan]
  | n + 1, l, ep, sq, hb => by
    rw [scan]
    by_cases h : (RD l ep sq).2.2 = 0
    · obtain ⟨m, _, hm, he, _⟩ := RD_ok l ep sq hb h
      rw [if_pos h, he]
      have ih := scan_count n (l.drop ((m : Int) + 14).toNat) ep (sq + 1) (hb.drop _)
      rw [List.length_drop] at ih
      simp only [List.length_cons]
      omega
    · rw [if_neg h]; simp
end Go.Proofs.YtoehjojipmeagaaDoor.Pure
