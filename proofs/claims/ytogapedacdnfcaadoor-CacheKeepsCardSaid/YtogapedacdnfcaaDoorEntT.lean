/- Chapter 25 in plain Lean: what is written of an entry is read, and what is read is written so. -/
import Derived.Test.YtogapedacdnfcaaDoorHCRead
import Derived.Test.YtogapedacdnfcaaDoorStrT
import Derived.Test.YtogapedacdnfcaaDoorEv0
import Derived.Test.YtogapedacdnfcaaDoorCrcF
import Derived.Test.YtogapedacdnfcaaDoorTurnT
namespace Go.Proofs.YtogapedacdnfcaaDoor.Pure
open Go.RowKit Go.Proofs.YtogapedacdnfcaaDoor.X Go.Proofs.YtogapedacdnfcaaDoor.G Go.Proofs.YtogapedacdnfcaaDoor.T Go.Proofs.YtogapedacdnfcaaDoor.E Go.Proofs.YtogapedacdnfcaaDoorW.PrintWords Go.Proofs.YtogapedacdnfcaaDoorW.PrintLast Go.Proofs.YtogapedacdnfcaaDoorW.PrintMore
set_option linter.unusedVariables false
set_option linter.unusedSimpArgs false

def U64 (k : Int) : Prop := 0 ≤ k ∧ k < 18446744073709551616
theorem keyF_eq (k b : Int) (hk : 0 ≤ k ∧ k < 72057594037927936) (hb : 0 ≤ b ∧ b < 256) : keyF k b = k * 256 + b := by
  obtain ⟨hk0, hk1⟩ := hk
  unfold keyF
  rw [wrap64u, wrap64u, show b % 18446744073709551616 = b by omega, show k * 256 % 18446744073709551616 = k * 256 by omega]
  exact bits_join .u64 64 (by decide) (fun n a b => by rw [wrap64u]; omega) 8 (k * 256) b (by omega) (by omega) (by omega) hb.1 (by omega) (by omega)
theorem key8 (b0 b1 b2 b3 b4 b5 b6 b7 : Int) (h0 : 0 ≤ b0 ∧ b0 < 256) (h1 : 0 ≤ b1 ∧ b1 < 256) (h2 : 0 ≤ b2 ∧ b2 < 256) (h3 : 0 ≤ b3 ∧ b3 < 256) (h4 : 0 ≤ b4 ∧ b4 < 256) (h5 : 0 ≤ b5 ∧ b5 < 256) (h6 : 0 ≤ b6 ∧ b6 < 256) (h7 : 0 ≤ b7 ∧ b7 < 256) :
    [b0, b1, b2, b3, b4, b5, b6, b7].foldl keyF 0 = ((((((b0 * 256 + b1) * 256 + b2) * 256 + b3) * 256 + b4) * 256 + b5) * 256 + b6) * 256 + b7 := by
  simp only [List.foldl_cons, List.foldl_nil]
  rw [keyF_eq 0 b0 (by omega) h0, keyF_eq _ b1 (by omega) h1, keyF_eq _ b2 (by omega) h2, keyF_eq _ b3 (by omega) h3, keyF_eq _ b4 (by omega) h4, keyF_eq _ b5 (by omega) h5, keyF_eq _ b6 (by omega) h6, keyF_eq _ b7 (by omega) h7]
  omega
theorem keys (k : Int) : (List.range 8).map (keyB k) = [k / 72057594037927936 % 256, k / 281474976710656 % 256, k / 1099511627776 % 256, k / 4294967296 % 256, k / 16777216 % 256, k / 65536 % 256, k / 256 % 256, k / 1 % 256] := rfl
/-- The eight bytes of a key tell it. -/
theorem key_of_bytes (k : Int) (hk : U64 k) : ((List.range 8).map (keyB k)).foldl keyF 0 = k := by
  obtain ⟨hk0, hk1⟩ := hk
  rw [keys, key8 _ _ _ _ _ _ _ _ (by omega) (by omega) (by omega) (by omega) (by omega) (by omega) (by omega) (by omega)]
  omega
theorem list8 (p : List Int) (h : p.length = 8) : ∃ b0 b1 b2 b3 b4 b5 b6 b7, p = [b0, b1, b2, b3, b4, b5, b6, b7] := by
  match p, h with
  | [b0, b1, b2, b3, b4, b5, b6, b7], _ => exact ⟨b0, b1, b2, b3, b4, b5, b6, b7, rfl⟩
theorem bytes_of_key (p : List Int) (h : p.length = 8) (hb : Bytes p) : U64 (p.foldl keyF 0) ∧ (List.range 8).map (keyB (p.foldl keyF 0)) = p := by
  obtain ⟨b0, b1, b2, b3, b4, b5, b6, b7, rfl⟩ := list8 p h
  have h0 := hb b0 (by simp)
  have h1 := hb b1 (by simp)
  have h2 := hb b2 (by simp)
  have h3 := hb b3 (by simp)
  have h4 := hb b4 (by simp)
  have h5 := hb b5 (by simp)
  have h6 := hb b6 (by simp)
  have h7 := hb b7 (by simp)
  rw [key8 _ _ _ _ _ _ _ _ h0 h1 h2 h3 h4 h5 h6 h7, keys]
  refine ⟨by unfold U64; omega, ?_⟩
  simp only [List.cons.injEq, and_true]
  refine ⟨?_, ?_, ?_, ?_, ?_, ?_, ?_, ?_⟩ <;> omega
theorem mayB_iff (a v : Int) (l : List Int) : mayB a v l = true ↔ -1 ≤ a ∧ a ≤ 1 ∧ (v = 0 ∨ v = 1) ∧ l.length ≤ 49 ∧ ∀ n ∈ l, -1 ≤ n ∧ n ≤ 126 := by
  unfold mayB
  rw [decide_eq_true_iff]
  have : l.any far = false ↔ ∀ n ∈ l, -1 ≤ n ∧ n ≤ 126 := by
    rw [List.any_eq_false]
    constructor
    · intro h n hn
      have := h n hn
      simp [far] at this
      omega
    · intro h n hn
      have := h n hn
      simp [far]
      omega
  rw [this]
theorem entB_length (k a v : Int) (l : List Int) (h : l.length ≤ 49) : (entB k a v l).length = 60 := by simp [entB]; omega
theorem entB_bytes (k a v : Int) (l : List Int) : Bytes (entB k a v l) := by
  intro x hx
  unfold entB at hx
  rcases List.mem_append.1 hx with hx | hx
  · rcases List.mem_append.1 hx with hx | hx
    · rcases List.mem_append.1 hx with hx | hx
      · obtain ⟨i, _, rfl⟩ := List.mem_map.1 hx
        unfold keyB; omega
      · simp only [List.mem_cons, List.not_mem_nil, or_false] at hx
        rcases hx with rfl | rfl | rfl <;> omega
    · obtain ⟨n, _, rfl⟩ := List.mem_map.1 hx
      omega
  · rw [List.eq_of_mem_replicate hx]; omega
/-- An entry's sixty bytes, cut into their parts. -/
def parts (K : List Int) (a v n : Int) (L Z : List Int) : List Int := K ++ ([a, v, n] ++ (L ++ Z))
theorem entB_parts (k a v : Int) (l : List Int) : entB k a v l = parts ((List.range 8).map (keyB k)) (wrap64 (a + 1) % 256) (v % 256) ((l.length : Int) % 256) (l.map (fun n => wrap64 (n + 1) % 256)) (List.replicate (49 - l.length) 0) := by
  simp [entB, parts]
section
variable {K L Z : List Int} {a v n : Int} (hK : K.length = 8)
include hK
theorem parts_key : (parts K a v n L Z).take 8 = K := by unfold parts; rw [List.take_append_of_le_length (by omega), List.take_of_length_le (by omega)]
theorem parts_rd : rd (parts K a v n L Z) 8 = a ∧ rd (parts K a v n L Z) 9 = v ∧ rd (parts K a v n L Z) 10 = n := by
  obtain ⟨b0, b1, b2, b3, b4, b5, b6, b7, rfl⟩ := list8 K hK
  exact ⟨rfl, rfl, rfl⟩
theorem parts_drop : (parts K a v n L Z).drop 11 = L ++ Z := by
  obtain ⟨b0, b1, b2, b3, b4, b5, b6, b7, rfl⟩ := list8 K hK
  rfl
end
/-- What is written of an entry is read. -/
theorem cRead_entB (k a v : Int) (l : List Int) (hk : U64 k) (h : mayB a v l = true) : cRead (entB k a v l) = (k, a, v, l, 0) := by
  obtain ⟨h1, h2, h3, h4, h5⟩ := (mayB_iff a v l).1 h
  have hK : ((List.range 8).map (keyB k)).length = 8 := by simp
  have ea : wrap64 (a + 1) % 256 = a + 1 := by unfold wrap64; omega
  have ev : v % 256 = v := by omega
  have en : (l.length : Int) % 256 = (l.length : Int) := by omega
  rw [entB_parts, ea, ev, en]
  obtain ⟨r8, r9, r10⟩ := parts_rd (a := a + 1) (v := v) (n := (l.length : Int)) (L := l.map (fun n => wrap64 (n + 1) % 256)) (Z := List.replicate (49 - l.length) 0) hK
  have hl : ((l.map (fun n => wrap64 (n + 1) % 256) ++ List.replicate (49 - l.length) 0).take l.length).map (fun c => c - 1) = l := by
    rw [List.take_append_of_le_length (by simp), List.take_of_length_le (by simp), List.map_map]
    refine (List.map_congr_left (fun n hn => ?_)).trans (List.map_id l)
    have := h5 n hn
    show wrap64 (n + 1) % 256 - 1 = n
    unfold wrap64; omega
  unfold cRead
  rw [r8, r9, r10, parts_drop hK, parts_key hK, Int.toNat_natCast, if_neg (by omega), hl, Int.add_sub_cancel, if_neg ?_, if_pos h, key_of_bytes k hk]
  rw [List.drop_append, List.drop_eq_nil_of_le (by simp), List.nil_append]
  intro hc
  obtain ⟨x, hx, hne⟩ := List.any_eq_true.1 hc
  have := List.eq_of_mem_replicate (List.mem_of_mem_drop hx)
  simp [this] at hne
theorem split60 (p : List Int) (h : p.length = 60) : p = parts (p.take 8) (rd p 8) (rd p 9) (rd p 10) ((p.drop 11).take (rd p 10).toNat) ((p.drop 11).drop (rd p 10).toNat) := by
  unfold parts
  rw [List.take_append_drop]
  have e : ∀ i : Nat, i < 60 → p.drop i = rd p (i : Int) :: p.drop (i + 1) := fun i hi => drop_rd p i (by omega)
  rw [show [rd p 8, rd p 9, rd p 10] ++ p.drop 11 = p.drop 8 from ?_, List.take_append_drop]
  rw [e 8 (by omega), e 9 (by omega), e 10 (by omega)]
  rfl
/-- What is read of sixty bytes is written so. -/
theorem entB_cRead (p : List Int) (hp : p.length = 60) (hb : Bytes p) (k a v : Int) (l : List Int) (h : cRead p = (k, a, v, l, 0)) : U64 k ∧ mayB a v l = true ∧ entB k a v l = p := by
  unfold cRead at h
  by_cases c1 : 49 < rd p 10
  · rw [if_pos c1] at h; simp at h
  rw [if_neg c1] at h
  by_cases c2 : ((p.drop 11).drop (rd p 10).toNat).any (fun c => c != 0) = true
  · rw [if_pos c2] at h; simp at h
  rw [if_neg c2] at h
  by_cases c3 : mayB (rd p 8 - 1) (rd p 9) (((p.drop 11).take (rd p 10).toNat).map (fun c => c - 1)) = true
  · rw [if_pos c3] at h
    injection h with h1 h
    injection h with h2 h
    injection h with h3 h
    injection h with h4 h5
    have hk8 := bytes_of_key (p.take 8) (by rw [List.length_take]; omega) (hb.take 8)
    obtain ⟨q1, q2, q3, q4, q5⟩ := (mayB_iff _ _ _).1 c3
    have hr : ∀ i : Nat, i < 60 → 0 ≤ rd p (i : Int) ∧ rd p (i : Int) < 256 := fun i hi => hb _ (mem_rd p i (by omega))
    have hr8 := hr 8 (by omega)
    have hr9 := hr 9 (by omega)
    have hr10 := hr 10 (by omega)
    have e8 : rd p ((8 : Nat) : Int) = rd p 8 := rfl
    have e9 : rd p ((9 : Nat) : Int) = rd p 9 := rfl
    have e10 : rd p ((10 : Nat) : Int) = rd p 10 := rfl
    rw [e8] at hr8
    rw [e9] at hr9
    rw [e10] at hr10
    have hln : (((p.drop 11).take (rd p 10).toNat).map (fun c => c - 1)).length = (rd p 10).toNat := by
      rw [List.length_map, List.length_take, List.length_drop, hp]; omega
    refine ⟨by rw [← h1]; exact hk8.1, by rw [← h2, ← h3, ← h4]; exact c3, ?_⟩
    rw [← h1, ← h2, ← h3, ← h4, entB_parts, hk8.2, hln]
    refine Eq.trans ?_ (split60 p hp).symm
    congr 1
    · unfold wrap64; omega
    · omega
    · omega
    · rw [List.map_map]
      refine (List.map_congr_left (fun c hc => ?_)).trans (List.map_id _)
      have := (hb.drop 11).take (rd p 10).toNat c hc
      show wrap64 (c - 1 + 1) % 256 = c
      unfold wrap64; omega
    · have hz : ∀ x ∈ (p.drop 11).drop (rd p 10).toNat, x = 0 := by
        intro x hx
        rcases Decidable.em (x = 0) with h | h
        · exact h
        · exact absurd (List.any_eq_true.2 ⟨x, hx, by simpa using h⟩) c2
      rw [List.eq_replicate_of_mem hz]
      congr 1
      rw [List.length_drop, List.length_drop]; omega
  · rw [if_neg c3] at h; simp at h
theorem cRead_err (p : List Int) (k a v : Int) (l : List Int) (e : Int) (h : cRead p = (k, a, v, l, e)) (he : e ≠ 0) : k = 0 ∧ a = 0 ∧ v = 0 ∧ l = [] := by
  unfold cRead at h
  split at h
  · injection h with h1 h; injection h with h2 h; injection h with h3 h; injection h with h4 h5; exact ⟨h1.symm, h2.symm, h3.symm, h4.symm⟩
  · split at h
    · injection h with h1 h; injection h with h2 h; injection h with h3 h; injection h with h4 h5; exact ⟨h1.symm, h2.symm, h3.symm, h4.symm⟩
    · split at h
      · injection h with h1 h; injection h with h2 h; injection h with h3 h; injection h with h4 h5; exact absurd h5.symm he
      · injection h with h1 h; injection h with h2 h; injection h with h3 h; injection h with h4 h5; exact ⟨h1.symm, h2.symm, h3.symm, h4.symm⟩
end Go.Proofs.YtogapedacdnfcaaDoor.Pure
