/- What the document reads of a sector is what the program reads. -/
import Derived.Test.YtogapedacdnfcaaDoorRefEnt
namespace Go.Proofs.YtogapedacdnfcaaDoor.Pure
open Go.RowKit Go.Proofs.YtogapedacdnfcaaDoor.X Go.Proofs.YtogapedacdnfcaaDoor.G Go.Proofs.YtogapedacdnfcaaDoor.T Go.Proofs.YtogapedacdnfcaaDoor.E Go.Proofs.YtogapedacdnfcaaDoor.S Go.Proofs.YtogapedacdnfcaaDoorW.PrintWords Go.Proofs.YtogapedacdnfcaaDoorW.PrintLast Go.Proofs.YtogapedacdnfcaaDoorW.PrintMore
set_option linter.unusedVariables false
set_option linter.unusedSimpArgs false

def keyR (k b : Int) : Int := IntKind.u64.wrap (IntKind.u64.wrap (k * 256) + IntKind.u64.wrap b)
theorem keyR_eq (k b : Int) (hk : 0 ≤ k ∧ k < 72057594037927936) (hb : 0 ≤ b ∧ b < 256) : keyR k b = k * 256 + b := by
  unfold keyR
  rw [wrap64u, wrap64u, wrap64u]
  omega
theorem keyR8 (p : List Int) (h : p.length = 8) (hb : Bytes p) : p.foldl keyR 0 = p.foldl keyF 0 := by
  obtain ⟨b0, b1, b2, b3, b4, b5, b6, b7, rfl⟩ := list8 p h
  have h0 := hb b0 (by simp)
  have h1 := hb b1 (by simp)
  have h2 := hb b2 (by simp)
  have h3 := hb b3 (by simp)
  have h4 := hb b4 (by simp)
  have h5 := hb b5 (by simp)
  have h6 := hb b6 (by simp)
  have h7 := hb b7 (by simp)
  rw [key8 _ _ _ _ _ _ _ _ h0 h1 h2 h3 h4 h5 h6 h7]
  simp only [List.foldl_cons, List.foldl_nil]
  rw [keyR_eq 0 b0 (by omega) h0, keyR_eq _ b1 (by omega) h1, keyR_eq _ b2 (by omega) h2, keyR_eq _ b3 (by omega) h3, keyR_eq _ b4 (by omega) h4, keyR_eq _ b5 (by omega) h5, keyR_eq _ b6 (by omega) h6, keyR_eq _ b7 (by omega) h7]
  omega
/-- The levels that the document takes. -/
def lvR (p : List Int) (j : Nat) : List Int := ((p.drop 11).take j).map (fun c => c - 1)
theorem lvR_succ (p : List Int) (j : Nat) (hp : p.length = 60) (hj : j < 49) : lvR p (j + 1) = lvR p j ++ [rd p ((11 + j : Nat) : Int) - 1] := by
  have hl : j < (p.drop 11).length := by rw [List.length_drop]; omega
  have hl2 : 11 + j < p.length := by omega
  rw [lvR, lvR, List.take_succ_eq_append_getElem hl, List.map_append, rd, Int.toNat_natCast]
  simp [hl2]
/-- What the document tells of sixty bytes with the right sum. -/
def refE (b p : List Int) : Int × Int × Int × List Int × Int :=
  if (ES (p.take 8 |>.foldl keyR 0) (rd p 8 - 1) (rd p 9) (lvR p (min (rd p 10).toNat 49))).2 = 0 ∧ (ES (p.take 8 |>.foldl keyR 0) (rd p 8 - 1) (rd p 9) (lvR p (min (rd p 10).toNat 49))).1 = b then (p.take 8 |>.foldl keyR 0, rd p 8 - 1, rd p 9, lvR p (min (rd p 10).toNat 49), 0) else (0, 0, 0, [], 50)
theorem cRead_cases (p : List Int) : (cRead p).2.2.2.2 = 0 ∨ cRead p = (0, 0, 0, [], 50) := by
  unfold cRead
  split
  · exact .inr rfl
  · split
    · exact .inr rfl
    · split
      · exact .inl rfl
      · exact .inr rfl
theorem refE_eq (b : List Int) (hb : b.length = 64) (hby : Bytes b) (hs : b.drop 60 = bytes4 (crc (b.take 60))) : refE b (b.take 60) = RB b := by
  have hl : (b.take 60).length = 60 := by rw [List.length_take]; omega
  have hy := hby.take 60
  have hRB : RB b = cRead (b.take 60) := by unfold RB; rw [if_pos hb, if_pos hs]
  have hbs : b = b.take 60 ++ bytes4 (crc (b.take 60)) := by rw [← hs, List.take_append_drop]
  have hk := keyR8 ((b.take 60).take 8) (by rw [List.length_take]; omega) (hy.take 8)
  have hku := (bytes_of_key ((b.take 60).take 8) (by rw [List.length_take]; omega) (hy.take 8)).1
  rw [hRB]
  unfold refE
  rw [hk]
  generalize hp : b.take 60 = p at *
  by_cases hc : (ES ((p.take 8).foldl keyF 0) (rd p 8 - 1) (rd p 9) (lvR p (min (rd p 10).toNat 49))).2 = 0 ∧ (ES ((p.take 8).foldl keyF 0) (rd p 8 - 1) (rd p 9) (lvR p (min (rd p 10).toNat 49))).1 = b
  · rw [if_pos hc]
    obtain ⟨h1, h2⟩ := hc
    have hm : mayB (rd p 8 - 1) (rd p 9) (lvR p (min (rd p 10).toNat 49)) = true := by
      cases hq : mayB (rd p 8 - 1) (rd p 9) (lvR p (min (rd p 10).toNat 49)) with
      | true => rfl
      | false => unfold ES at h1; rw [hq] at h1; simp at h1
    have he : entB ((p.take 8).foldl keyF 0) (rd p 8 - 1) (rd p 9) (lvR p (min (rd p 10).toNat 49)) = p := by
      unfold ES at h2
      rw [if_pos hm] at h2
      have h60 := entB_length ((p.take 8).foldl keyF 0) (rd p 8 - 1) (rd p 9) (lvR p (min (rd p 10).toNat 49)) ((mayB_iff _ _ _).1 hm).2.2.2.1
      have := congrArg (List.take 60) h2
      rw [List.take_left' h60, hp] at this
      exact this
    have := cRead_entB ((p.take 8).foldl keyF 0) (rd p 8 - 1) (rd p 9) (lvR p (min (rd p 10).toNat 49)) hku hm
    rw [he] at this
    exact this.symm
  · rw [if_neg hc]
    rcases cRead_cases p with h0 | h0
    · exfalso
      generalize hr : cRead p = r at h0
      obtain ⟨k, a, v, l, e⟩ := r
      simp only at h0
      subst h0
      obtain ⟨g1, g2, g3⟩ := entB_cRead p hl hy k a v l hr
      -- the entry that is read is the one that the document makes
      have hr2 := hr
      unfold cRead at hr2
      by_cases c1 : 49 < rd p 10
      · rw [if_pos c1] at hr2; simp at hr2
      rw [if_neg c1] at hr2
      by_cases c2 : ((p.drop 11).drop (rd p 10).toNat).any (fun c => c != 0) = true
      · rw [if_pos c2] at hr2; simp at hr2
      rw [if_neg c2] at hr2
      by_cases c3 : mayB (rd p 8 - 1) (rd p 9) (((p.drop 11).take (rd p 10).toNat).map (fun c => c - 1)) = true
      · rw [if_pos c3] at hr2
        injection hr2 with q1 hr2
        injection hr2 with q2 hr2
        injection hr2 with q3 hr2
        injection hr2 with q4 _
        apply hc
        rw [show min (rd p 10).toNat 49 = (rd p 10).toNat by omega, show lvR p (rd p 10).toNat = ((p.drop 11).take (rd p 10).toNat).map (fun c => c - 1) from rfl, q1, q2, q3, q4]
        unfold ES
        rw [if_pos g2, g3]
        exact ⟨rfl, hbs.symm⟩
      · rw [if_neg c3] at hr2; simp at hr2
    · exact h0.symm
end Go.Proofs.YtogapedacdnfcaaDoor.Pure
