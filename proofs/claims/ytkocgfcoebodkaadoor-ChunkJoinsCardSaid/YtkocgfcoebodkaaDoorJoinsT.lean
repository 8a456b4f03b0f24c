/- What the document's Join goes through, step by step. -/
import Derived.Test.YtkocgfcoebodkaaDoorChunkR
import Derived.Test.YtkocgfcoebodkaaDoorHRefOpen2
namespace Go.Proofs.YtkocgfcoebodkaaDoor.X
open Go.RowKit Go.Proofs.YtkocgfcoebodkaaDoorW.PrintWords Go.Proofs.YtkocgfcoebodkaaDoorW.PrintLast Go.Proofs.YtkocgfcoebodkaaDoorW.PrintMore Go.Proofs.YtkocgfcoebodkaaDoor.G Go.Proofs.YtkocgfcoebodkaaDoor.T Go.Proofs.YtkocgfcoebodkaaDoor.C
set_option linter.unusedVariables false
set_option linter.unusedSimpArgs false

theorem jn_at (t size : Int) (l : List (List Int)) (k : Nat) (out : List Int) (hk : k < l.length) : jn t size k (l.drop k) out = if (CO (l.getD k []) k t).2 = 0 then (if ∀ c ∈ (CO (l.getD k []) k t).1.drop (left size out), c = 0 then jn t size (k + 1) (l.drop (k + 1)) (out ++ (CO (l.getD k []) k t).1.take (left size out)) else ([], 50)) else ([], (CO (l.getD k []) k t).2) := by
  rw [drop_cons l [] k hk]
  rfl
theorem jn_end (t size : Int) (l : List (List Int)) (out : List Int) : jn t size l.length (l.drop l.length) out = (out, 0) := by
  rw [List.drop_length]
  rfl
theorem jn_short (t size : Int) (l : List (List Int)) (k : Nat) (out : List Int) (hk : k < l.length) (h : ¬ (l.getD k []).length = 64) : jn t size k (l.drop k) out = ([], 20) := by
  rw [jn_at t size l k out hk, show CO (l.getD k []) k t = ([], 20) from if_neg h]
  rfl
theorem jn_shut (t size : Int) (l : List (List Int)) (k : Nat) (out : List Int) (hk : k < l.length) (h : (l.getD k []).length = 64) {p : List Int} {e : Int} (ho : RO (l.getD k []) = (p, e)) (he : ¬ e = 0) : jn t size k (l.drop k) out = ([], e) := by
  rw [jn_at t size l k out hk, show CO (l.getD k []) k t = ([], e) by rw [CO, if_pos h, ho]; exact if_neg he]
  exact if_neg he
theorem jn_head (t size : Int) (l : List (List Int)) (k : Nat) (out : List Int) (hk : k < l.length) (h : (l.getD k []).length = 64) {p : List Int} (ho : RO (l.getD k []) = (p, 0)) (he : ¬ p.take 6 = hd k t) : jn t size k (l.drop k) out = ([], 180) := by
  rw [jn_at t size l k out hk, show CO (l.getD k []) k t = ([], 180) by rw [CO, if_pos h, ho]; exact (if_pos rfl).trans (if_neg he)]
  rfl
theorem jn_in (t size : Int) (l : List (List Int)) (k : Nat) (out : List Int) (hk : k < l.length) (h : (l.getD k []).length = 64) {p : List Int} (ho : RO (l.getD k []) = (p, 0)) (he : p.take 6 = hd k t) : jn t size k (l.drop k) out = if ∀ c ∈ (p.drop 6).drop (left size out), c = 0 then jn t size (k + 1) (l.drop (k + 1)) (out ++ (p.drop 6).take (left size out)) else ([], 50) := by
  rw [jn_at t size l k out hk, show CO (l.getD k []) k t = (p.drop 6, 0) by rw [CO, if_pos h, ho]; exact (if_pos rfl).trans (if_pos he)]
  exact if_pos rfl
theorem cnt_room (N k : Nat) (h : (k : Int) < cnt N) : 54 * k < N := by
  unfold cnt at h
  split at h <;> omega
theorem cnt_over (N k : Nat) (h : (k : Int) = cnt N) : N ≤ 54 * k := by
  unfold cnt at h
  split at h <;> omega
/-- One chunk more: what hangs over must be zeros. -/
theorem jn_more (t : Int) (N : Nat) (l : List (List Int)) (k : Nat) (out : List Int) (hk : k < l.length) (hc : (l.length : Int) = cnt N) (hl : out.length = 54 * k) (h : (l.getD k []).length = 64) {p : List Int} (ho : RO (l.getD k []) = (p, 0)) (he : p.take 6 = hd k t) : jn t N k (l.drop k) (out.take N) = if ∀ c ∈ (out ++ p.drop 6).drop N, c = 0 then jn t N (k + 1) (l.drop (k + 1)) ((out ++ p.drop 6).take N) else ([], 50) := by
  have hN := cnt_room N k (by omega)
  have hp : p.length = 60 := by have := RO_len _ h (by rw [ho]); rw [ho] at this; exact this
  rw [jn_in t N l k _ hk h ho he, List.take_of_length_le (by omega)]
  have hlf : left N out = min 54 (N - 54 * k) := by unfold left; omega
  rw [hlf]
  have e1 : (out ++ p.drop 6).drop N = (p.drop 6).drop (min 54 (N - 54 * k)) := by
    rw [List.drop_append, List.drop_of_length_le (by omega), List.nil_append, hl]
    by_cases h5 : N - 54 * k ≤ 54
    · rw [Nat.min_eq_right h5]
    · rw [Nat.min_eq_left (by omega), List.drop_of_length_le (by rw [List.length_drop]; omega), List.drop_of_length_le (by rw [List.length_drop]; omega)]
  have e2 : (out ++ p.drop 6).take N = out ++ (p.drop 6).take (min 54 (N - 54 * k)) := by
    rw [List.take_append, List.take_of_length_le (by omega), hl]
    by_cases h5 : N - 54 * k ≤ 54
    · rw [Nat.min_eq_right h5]
    · rw [Nat.min_eq_left (by omega), List.take_of_length_le (by rw [List.length_drop]; omega), List.take_of_length_le (by rw [List.length_drop]; omega)]
  rw [e1, e2]
theorem hd_Bytes (k t : Int) : Bytes (hd k t) := by
  intro x hx
  simp only [hd, List.mem_cons, List.not_mem_nil, or_false] at hx
  omega
theorem chunk_head (l0 : List Int) (t : Int) (k : Nat) : (chunkOf l0 t k).take 6 = hd k t := by
  rw [chunkOf, piece, List.append_assoc, List.take_left' (by rfl)]
theorem chunk_len (l0 : List Int) (t : Int) (k : Nat) : (chunkOf l0 t k).length = 64 := by
  rw [chunkOf, List.length_append, piece_length]
  rfl
theorem tagged_calls (t : Int) (w : World) : Calls Tryd.prog 18 #[.int .i64 t] w fun e w' => e = .returned (.bool (decide (1 ≤ t ∧ t ≤ 2147483647))) ∧ Drawn0 w w' := by
  refine colophonref20_tagged.calls t _ w ?_
  unfold colophonref20_tagged.f
  split
  · congr 1; rw [Bool.eq_iff_iff]; simp; omega
  · congr 1; rw [Bool.eq_iff_iff]; simp; omega
/-- The answer of the document's Open: a row of what came in, or none; with its room. -/
def Open2 (A0 : Option Addr) (l0 : List Int) (w : World) (X : List Int) (r : Int) (e : Ending) (w' : World) : Prop := ∃ A c, e = .returned (.tuple #[.slice A X.length c, .int .i64 r]) ∧ X.length ≤ c ∧ (∀ W, Kd.C (Kd.int .u8) W A0 l0.length l0 → Kd.C (Kd.int .u8) W A X.length X) ∧ Below w.heap.size w w'
theorem refOpen_calls2 (A0 : Option Addr) (c0 : Nat) (l0 : List Int) (w : World) (hr0 : Kd.C (Kd.int .u8) w A0 l0.length l0) (hc0 : l0.length ≤ c0) (hw : Bytes l0) (hl : l0.length ≤ 140737488351232) :
    Calls Tryd.prog 21 #[.slice A0 l0.length c0] w (Open2 A0 l0 w (RO l0).1 (RO l0).2) := by
  by_cases h4 : l0.length < 4
  · rw [show RO l0 = ([], 20) from if_pos h4]
    refine (refOpen_short A0 c0 l0 w h4).mono ?_
    rintro e w' ⟨rfl, rfl⟩
    exact ⟨none, 0, rfl, Nat.le_refl _, fun _ _ => Kd.C_nil _ _, Below.refl _ _⟩
  · obtain ⟨ad, rfl⟩ : ∃ ad, A0 = some ad := by
      obtain ⟨ad, e, _⟩ := Kd.at_int hr0 0 (by omega) (by omega)
      exact ⟨ad, e⟩
    have hn : l0.length = (l0.length - 4) + 4 := by omega
    by_cases hf : l0.drop (l0.length - 4) = bytes4 (crc (l0.take (l0.length - 4)))
    · rw [show RO l0 = (l0.take (l0.length - 4), 0) from (if_neg h4).trans (if_pos hf)]
      refine (refOpen_yes ad c0 l0 w hr0 hc0 hw hl _ hn true (by rw [fits]; exact decide_eq_true ⟨by omega, hf⟩) _ _ rfl).mono ?_
      rintro e w' ⟨rfl, hb⟩
      have htl : (l0.take (l0.length - 4)).length = l0.length - 4 := by rw [List.length_take]; omega
      exact ⟨some ad, c0, by rw [htl], by rw [htl]; omega, fun W hC => Kd.C_take hC (by omega), hb⟩
    · rw [show RO l0 = ([], 21) from (if_neg h4).trans (if_neg hf)]
      refine (refOpen_yes ad c0 l0 w hr0 hc0 hw hl _ hn false (by rw [fits]; exact decide_eq_false (fun h => hf h.2)) _ _ rfl).mono ?_
      rintro e w' ⟨rfl, hb⟩
      exact ⟨none, 0, rfl, Nat.le_refl _, fun _ _ => Kd.C_nil _ _, hb⟩
end Go.Proofs.YtkocgfcoebodkaaDoor.X
