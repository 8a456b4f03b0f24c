/- RunsCover, walked. By hand. -/
import Derived.Test.YteldofimjklckaaWorksT
import Derived.Deep.QuietTactic
import Derived.BigQuiet
import Derived.IntWalk
namespace Go.Proofs.Yteldofimjklckaa.G
open Go.RowKit Go.Proofs.Yteldofimjklckaa.X Go.Proofs.YteldofimjklckaaW.PrintWords Go.Proofs.YteldofimjklckaaW.PrintLast Go.Proofs.YteldofimjklckaaW.PrintMore Go.Proofs.Yteldofimjklckaa.Exp Go.Proofs.Yteldofimjklckaa.Run Go.Proofs.Yteldofimjklckaa.Iso
set_option linter.unusedVariables false
set_option linter.unusedSimpArgs false

def LawPost2 (w : World) (e : Ending) (w' : World) : Prop := e = .returned (.bool true) ∧ Below w.heap.size w w'
/-- How often each place was met. -/
def cntRow (n : Nat) (Q : List Nat) : List Int := (List.range n).map (fun i => (Q.count i : Int))
theorem cntRow_length (n : Nat) (Q : List Nat) : (cntRow n Q).length = n := by simp [cntRow]
theorem cntRow_get (n : Nat) (Q : List Nat) (i : Nat) (h : i < n) : (cntRow n Q).getD i 0 = (Q.count i : Int) := by simp [cntRow, List.getD_eq_getElem?_getD, h]
theorem cntRow_snoc (n : Nat) (Q : List Nat) (i : Nat) (h : i < n) : (cntRow n Q).set i ((Q.count i : Int) + 1) = cntRow n (Q ++ [i]) := by
  apply List.ext_getElem (by simp [cntRow])
  intro j h1 h2
  rw [List.length_set, cntRow_length] at h1
  rw [List.getElem_set]
  by_cases hj : i = j
  · subst hj
    rw [if_pos rfl]
    simp [cntRow, List.count_append]
  · rw [if_neg hj]
    simp [cntRow, List.count_append, List.count_cons, hj]
theorem count_flat (n i : Nat) : ∀ (L : List (List Nat)), (∀ r ∈ L, r.length ≤ n) → L.flatten.count i ≤ L.length * n
  | [], _ => by simp
  | r :: t, h => by
    have h1 := count_flat n i t (fun q hq => h q (by simp [hq]))
    have h2 := Nat.le_trans (List.count_le_length (a := i) (l := r)) (h r (by simp))
    simp only [List.flatten_cons, List.count_append, List.length_cons]
    rw [Nat.add_mul, Nat.one_mul]
    omega

set_option maxHeartbeats 16000000 in
set_option maxRecDepth 100000 in
theorem cover_main (A0 : Option Addr) (c0 : Nat) (c : List Int) (base : Int) (w : World) (hr0 : Kd.C (Kd.int .i64) w A0 c.length c) (hc0 : c.length ≤ c0) (hl : c.length ≤ 2000) (hB : base = 0 ∨ base = 1) (hf : formed c) :
    Calls Try.prog 5 #[.slice A0 c.length c0, .int .i64 base] w (LawPost2 w) := by
  have hb0 : 0 ≤ base := by rcases hB with rfl | rfl <;> decide
  have hb : base ≤ 125 := by rcases hB with rfl | rfl <;> decide
  have info3 : (Try.prog.info? 3).map (fun i => (i.zero, i.size, i.bytes)) = some (some (.int .i64 0), 1, 8) := by kernel_rfl
  have hSeq := seq_ok c base (by omega) hB hf
  have hRes := res_ok c base (by omega) hB hf
  have b1 : decide ((2000 : Int) < (c.length : Int)) = false := decide_eq_false (by omega)
  have b2 : decide (2000 < c.length) = false := decide_eq_false (by omega)
  obtain ⟨S, hS⟩ : ∃ S, (seqList c base).map toS = S := ⟨_, rfl⟩
  have hSl : S.length = (roots c base).length := by rw [← hS]; simp [seqList]
  have hrl : (roots c base).length ≤ 2000 := by
    have := sorted_len (roots c base) 0 c.length roots_sorted (fun x hx => ⟨Nat.zero_le _, (mem_roots.1 hx).1⟩)
    omega
  rw [hS] at hSeq
  have HS := Aside0.mk (And.intro hS (And.intro hSl hrl))
  have HSQ := Aside0.mk hSeq
  have HRS := Aside0.mk hRes
  have HR0 := Aside0.mk hr0
  have HC0 := Aside0.mk hc0
  have HL := Aside0.mk hl
  have HF := Aside0.mk (And.intro hf (And.intro hb0 hb))
  clear hSeq hRes hr0 hc0 hl hB hf hb0 hb hS hSl hrl
  go_enter Try.func5, Try.ntmps5
  go_wp2_with (first | (go_at_call 9; refine (works_calls _).mono ?_; rintro e w1 ⟨rfl, hb1⟩; refine of_halt ?_))
  unfold Halt
  have HB1 := Aside0.mk hb1
  clear hb1
  go_wp2_with (first | (go_at_call 16; refine of_halt ?_))
  unfold Halt
  refine (explicit_Resolve.calls A0 c0 c base _ _ _ _ (Kd.C_below HR0.out HB1.out) HC0.out HRS.out).mono ?_
  rintro e w2 ⟨vl, vt, rfl, hol, hot, hb2⟩
  obtain ⟨Al, cl, rfl, hcl, hCl⟩ := Kd.R_reads hol
  rw [lvs_length] at hcl hCl ⊢
  have HB2 := Aside0.mk (below_step HB1.out hb2)
  have HOL := Aside0.mk hCl
  clear hol hot hb2 hcl hCl
  dsimp only
  go_wp2_with (first | (go_at_call 14; refine of_halt ?_))
  unfold Halt
  refine (runs_Sequences.calls A0 c0 c base _ _ _ (Kd.C_below HR0.out HB2.out) HC0.out HSQ.out).mono ?_
  rintro e w5 ⟨vs, rfl, hos, hb5⟩
  obtain ⟨As, cs, rfl, hcs, hCs⟩ := Kd.S_reads hos
  have HB5 := Aside0.mk (below_step HB2.out hb5)
  have HOL5 := Aside0.mk (Kd.C_below HOL.out hb5)
  obtain ⟨Ln, hLn⟩ : ∃ n, S.length = n := ⟨_, rfl⟩
  rw [hLn] at hcs hCs ⊢
  have HLn := Aside0.mk hLn
  have HOSn := Aside0.mk hCs
  clear hos hb5 hcs hCs HOL hLn
  dsimp only
  have q0 : (0 : Int) ≤ (c.length : Int) := Int.natCast_nonneg _
  go_wp2_with (first | ((with_reducible refine gate_dst (N := 44) rfl ?_); refine of_halt ?_))
  unfold Halt
  refine Kd.R_make (Kd.int .i64) (w0 := w5) w5.heap.size 3 (by rfl) (N := 44) (by rfl) 22 (.tmp 43) (.tmp 43) (by rfl) (c.length : Int) (by rfl) (by rfl) Try.underlying22 (.int .i64 0) 8 info3 rfl (by decide) (by decide) 0 (ok := fun k => k = w5.heap.size) (okp := fun _ => False) rfl (fun _ hk => hk.elim) rfl q0 (by have := HL.out; rw [Int.toNat_natCast]; omega) (Below.refl _ _) (Nat.le_refl _) ?_
  intro v44 w44 ho44 hb44 hg44 hn44
  rw [Int.toNat_natCast] at ho44
  obtain ⟨Av, nv, cv, hnv, rfl⟩ : ∃ A m c', m = c.length ∧ v44 = .slice A m c' := by obtain ⟨A, c', e⟩ := Kd.R_slice ho44; exact ⟨A, _, c', List.length_replicate, e⟩
  subst hnv
  have hz : List.replicate c.length 0 = cntRow c.length (((roots c base).take 0).map (places c base c.length)).flatten := by
    apply List.ext_getElem (by simp [cntRow])
    intro j h1 h2
    simp [cntRow]
  rw [hz] at ho44
  have HO44 := Aside0.mk ho44
  have HB44 := Aside0.mk hb44
  clear ho44 hb44 hg44 hn44 hz
  obtain ⟨bs, hbs⟩ : ∃ b, b = w5.heap.size := ⟨_, rfl⟩
  rw [← hbs] at HO44
  have HBS := Aside0.mk hbs
  clear hbs
  have HSD : ∀ r, r < (roots c base).length → ∀ g, (roots c base)[r]? = some g → (((roots c base).take (r + 1)).map (places c base c.length)).flatten = (((roots c base).take r).map (places c base c.length)).flatten ++ places c base c.length g := fun r hr g hg => by
    rw [List.take_succ_eq_append_getElem hr, List.map_append, List.flatten_append]
    have : (roots c base)[r] = g := (List.getElem?_eq_some_iff.1 hg).2
    rw [this]
    simp
  have HSD := Aside0.mk HSD
  have HCN : ∀ r i, (((roots c base).take r).map (places c base c.length)).flatten.count i ≤ 4000000 := fun r i => by
    have hc := count_flat 2000 i (((roots c base).take r).map (places c base c.length)) (fun q hq => by
      obtain ⟨y, hy, rfl⟩ := List.mem_map.1 hq
      have := (seq_places HF.out.1 HF.out.2.1 HF.out.2.2 y (mem_roots.1 (List.mem_of_mem_take hy)).2.1).1
      have := HL.out
      omega)
    rw [List.length_map, List.length_take] at hc
    have h1 : min r (roots c base).length ≤ 2000 := by have := HS.out.2.2; omega
    have h3 : min r (roots c base).length * 2000 ≤ 2000 * 2000 := Nat.mul_le_mul_right _ h1
    omega
  have HCN := Aside0.mk HCN
  go_wp2
  go_loopg [47] (Ln + 1) (fun kq v47 w' => ∃ j : Nat, v47 = .int .i64 (j : Int) ∧ Aside0 (j ≤ Ln) ∧ Aside0 (kq + j = Ln + 1) ∧ Aside0 (Kd.R (Kd.int .i64) 3 w' bs (fun k => k = bs) (.slice Av c.length cv) (cntRow c.length (((roots c base).take j).map (places c base c.length)).flatten)) ∧ Aside0 (Below w5.heap.size w5 w'))
  case atStart => exact ⟨0, rfl, ⟨Nat.zero_le _⟩, ⟨rfl⟩, HO44, HB44⟩
  case round =>
    obtain ⟨j, rfl, HJ, HJQ, HOJ, HBJ⟩ := hrel
    obtain ⟨gj, hgj⟩ : ∃ n, n = gk := ⟨_, rfl⟩
    rw [← hgj] at HJQ
    have HGJ := Aside0.mk hgj
    clear hgj
    by_cases hlt : j < Ln
    · have hjr : j < (roots c base).length := by rw [← HS.out.2.1, HLn.out]; exact hlt
      obtain ⟨g, hg⟩ : ∃ g, (roots c base)[j] = g := ⟨_, rfl⟩
      obtain ⟨g1, g2, g3⟩ := mem_roots.1 (hg ▸ List.getElem_mem hjr : g ∈ roots c base)
      have hstep := HSD.out j hjr g (by rw [List.getElem?_eq_getElem hjr, hg])
      have hel : rd_T36 S (j : Int) = toS (seqOf c base g) := by
        unfold rd_T36
        rw [← HS.out.1, Int.toNat_natCast]
        unfold seqList
        rw [List.map_map, List.getD_eq_getElem?_getD, List.getElem?_map, List.getElem?_eq_getElem hjr, hg]
        rfl
      obtain ⟨ads, Aj, cj, eAs, hx0, hx1, hx2, hx3, hlj, hrj⟩ := at_T36 HOSn.out (j : Int) (by omega) (by omega)
      subst eAs
      replace hx0 := (HBJ.out.cell (World.block_lt_of_cell? w5 _ hx0)).trans hx0
      replace hx1 := (HBJ.out.cell (World.block_lt_of_cell? w5 _ hx1)).trans hx1
      replace hx2 := (HBJ.out.cell (World.block_lt_of_cell? w5 _ hx2)).trans hx2
      replace hx3 := (HBJ.out.cell (World.block_lt_of_cell? w5 _ hx3)).trans hx3
      rw [hel] at hx0 hx1 hx2 hx3 hlj hrj
      change _ = some (Value.slice Aj (toI (places c base c.length g)).length cj) at hx0
      change (Kd.int .i64).C w5 Aj (toI (places c base c.length g)).length (toI (places c base c.length g)) at hrj
      obtain ⟨q1, q2, q3, q4, q5⟩ := seq_places HF.out.1 HF.out.2.1 HF.out.2.2 g g2
      have hy1 : (toS (seqOf c base g)).f1 = lv c base g := by
        show lv c base ((places c base c.length g).getLastD 0) = _
        refine places_level HF.out.1 HF.out.2.1 HF.out.2.2 c.length g g2 _ ?_
        rw [List.getLastD_eq_getLast?, List.getLast?_eq_some_getLast q3]
        exact List.getLast_mem q3
      rw [hy1] at hx1
      generalize (toS (seqOf c base g)).f2 = y2 at hx2
      generalize (toS (seqOf c base g)).f3 = y3 at hx3
      obtain ⟨y1, hyl⟩ : ∃ y, lv c base g = y := ⟨_, rfl⟩
      rw [hyl] at hx1
      rw [Int.toNat_natCast] at hx0 hx1 hx2 hx3
      obtain ⟨N, hN⟩ : ∃ N, (toI (places c base c.length g)).length = N := ⟨_, rfl⟩
      rw [hN] at hx0 hrj
      have i1 : ((j : Int) < (Ln : Int)) = True := eq_true (by omega)
      have i2 : (j < Ln) = True := eq_true hlt
      have hcj : Kd.C (Kd.int .i64) w5 Aj N (toI (places c base c.length g)) := hrj
      have HRJ := Aside0.mk hcj
      have HG := Aside0.mk (And.intro g1 (And.intro g2 (And.intro g3 hyl)))
      have hpl : (places c base c.length g).length = N := by rw [← hN, toI_length]
      have HN := Aside0.mk (And.intro hpl (And.intro q1 q3))
      have HLT := Aside0.mk hlt
      have HST := Aside0.mk hstep
      clear hjr hg g1 g2 g3 hel hlj hrj q1 q2 q3 q4 q5 hN hlt hstep hy1 hyl hcj hpl
      go_upto_region 15 with (fail)
      have hbx := blk_new wr (.cells #[.slice Aj N cj, .int .i64 y1, .int .i64 y2, .int .i64 y3] 36)
      have hBX := below_alloc (Below.refl wr.heap.size wr) (.cells #[.slice Aj N cj, .int .i64 y1, .int .i64 y2, .int .i64 y3] 36)
      have hoX := Kd.R_alloc HOJ.out (.cells #[.slice Aj N cj, .int .i64 y1, .int .i64 y2, .int .i64 y3] 36)
      have hb4 := HBJ.out.trans (hBX.mono HBJ.out.size)
      generalize wr.alloc (.cells #[.slice Aj N cj, .int .i64 y1, .int .i64 y2, .int .i64 y3] 36) = WX at *
      generalize wr.heap.size = bx at hbx ⊢
      have hcx := (blk_cell hbx 0).trans (show _ = some (Value.slice Aj N cj) from rfl)
      have HBX := Aside0.mk hbx
      have HOX := Aside0.mk hoX
      have HB4X := Aside0.mk hb4
      clear hbx hBX hoX hb4 hx0 hx1 hx2 hx3
      go_wp2
      go_loopg [54] (N + 1) (fun kq v54 w' => ∃ k : Nat, v54 = .int .i64 (k : Int) ∧ Aside0 (k ≤ N) ∧ Aside0 (kq + k = N + 1) ∧ Aside0 (Kd.R (Kd.int .i64) 3 w' bs (fun k => k = bs) (.slice Av c.length cv) (cntRow c.length ((((roots c base).take j).map (places c base c.length)).flatten ++ (places c base c.length g).take k))) ∧ Aside0 (w'.heap[bx]? = some (.cells #[.slice Aj N cj, .int .i64 y1, .int .i64 y2, .int .i64 y3] 36 (0, 0))) ∧ Aside0 (Below w5.heap.size w5 w'))
      case atStart => exact ⟨0, rfl, ⟨Nat.zero_le _⟩, ⟨by omega⟩, ⟨by rw [List.take_zero, List.append_nil]; exact HOX.out⟩, HBX, HB4X⟩
      case round =>
        obtain ⟨k, rfl, HK, HKQ, HOK, HXK, HBK⟩ := hrel
        clear hcx
        by_cases hkn : k < N
        · have hlen := HN.out.1
          obtain ⟨i, hi⟩ : ∃ i, (places c base c.length g)[k]'(by omega) = i := ⟨_, rfl⟩
          have him : i ∈ places c base c.length g := hi ▸ List.getElem_mem _
          have hip := (mem_places HF.out.1 HF.out.2.1 HF.out.2.2 c.length g HG.out.2.1 i).1 him
          have hlvi := places_level HF.out.1 HF.out.2.1 HF.out.2.2 c.length g HG.out.2.1 i him
          rw [HG.out.2.2.2] at hlvi
          have hrk : rd (toI (places c base c.length g)) (k : Int) = (i : Int) := by rw [rd_nat]; simp [toI, ← hi, show k < (places c base c.length g).length by omega]
          obtain ⟨ada, eAj, hxk⟩ := Kd.at_int (Kd.C_below HRJ.out HBK.out) (k : Int) (by omega) (by omega)
          subst eAj
          rw [hrk, Int.toNat_natCast] at hxk
          have hc1 := (blk_cell HXK.out 0).trans (show _ = some (Value.slice (some ada) N cj) from rfl)
          have hc2 := (blk_cell HXK.out 1).trans (show _ = some (Value.int .i64 y1) from rfl)
          obtain ⟨adl, eAl, hxl⟩ := Kd.at_int (Kd.C_below HOL5.out HBK.out) (i : Int) (by omega) (by omega)
          subst eAl
          rw [Int.toNat_natCast, rd_nat, lvs_get c base i hip.1, hlvi] at hxl
          obtain ⟨Q, hQ⟩ : ∃ Q, (((roots c base).take j).map (places c base c.length)).flatten = Q := ⟨_, rfl⟩
          have hqc : (Q ++ (places c base c.length g).take k).count i ≤ 5000000 := by
            have h1 := HCN.out j i
            have h2 := List.count_le_length (a := i) (l := (places c base c.length g).take k)
            rw [List.length_take] at h2
            rw [hQ] at h1
            rw [List.count_append]
            have := HN.out.2.1
            have := HL.out
            omega
          have hok := HOK.out
          rw [hQ] at hok
          obtain ⟨gs, cvv, eAv, hgs1, hgs2, cellsv, hgs3⟩ := Kd.R_form hok (by rw [cntRow_length]; omega)
          injection eAv with eAv eN_ eCv
          clear eN_
          subst eAv eCv
          obtain ⟨hxs, hys⟩ := Kd.R_celln 0 hok (i : Int) (by omega) (by omega)
          rw [show rdOf 0 (cntRow c.length (Q ++ (places c base c.length g).take k)) (i : Int) = (cntRow c.length (Q ++ (places c base c.length g).take k)).getD (i : Int).toNat 0 from rfl, Int.toNat_natCast, cntRow_get _ _ i hip.1] at hxs
          rw [Int.toNat_natCast] at hys
          have hset := cntRow_snoc c.length (Q ++ (places c base c.length g).take k) i hip.1
          rw [List.append_assoc, show (places c base c.length g).take k ++ [i] = (places c base c.length g).take (k + 1) by rw [List.take_succ_eq_append_getElem (by omega), hi]] at hset
          have hne : bx ≠ gs := blk_ne HXK.out hgs3 (by decide)
          have HNE := Aside0.mk (And.intro hne (And.intro hQ hgs1))
          obtain ⟨z, hz⟩ : ∃ z, ((Q ++ (places c base c.length g).take k).count i : Int) = z := ⟨_, rfl⟩
          rw [hz] at hxs hset
          have HSET := Aside0.mk hset
          have e5 : wrap64 (z + 1) = z + 1 := by unfold wrap64; omega
          have n1 : ((k : Int) < (N : Int)) = True := eq_true (by omega)
          have n2 : (k < N) = True := eq_true hkn
          have n3 : ((i : Int) < (c.length : Int)) = True := eq_true (by omega)
          have n4 : (i < c.length) = True := eq_true hip.1
          have n5 : decide ((i : Int) < 0) = false := decide_eq_false (by omega)
          have n6 : decide ((c.length : Int) ≤ (i : Int)) = false := decide_eq_false (by omega)
          have n6' : decide (c.length ≤ i) = false := decide_eq_false (by omega)
          have n7 : (y1 != y1) = false := by simp
          have HOKQ := Aside0.mk hok
          have HI := Aside0.mk hip.1
          have HKN := Aside0.mk hkn
          have hprev : k = 0 ∨ ∃ k1 p, k = k1 + 1 ∧ p < i ∧ wr.cell? (ada.add k1) = some (.int .i64 (p : Int)) := by
            rcases Nat.eq_zero_or_pos k with h0 | h0
            · exact .inl h0
            · right
              obtain ⟨k1, hk1⟩ : ∃ k1, k = k1 + 1 := ⟨k - 1, by omega⟩
              obtain ⟨p, hp⟩ : ∃ p, (places c base c.length g)[k1]'(by omega) = p := ⟨_, rfl⟩
              refine ⟨k1, p, hk1, ?_, ?_⟩
              · rw [← hp, ← hi]
                exact List.pairwise_iff_getElem.1 (places_sorted HF.out.1 HF.out.2.1 HF.out.2.2 c.length g HG.out.2.1) k1 k (by omega) (by omega) (by omega)
              · obtain ⟨a_, e_, h_⟩ := Kd.at_int (Kd.C_below HRJ.out HBK.out) (k1 : Int) (by omega) (by omega)
                injection e_ with e_
                subst e_
                rw [show rd (toI (places c base c.length g)) (k1 : Int) = (p : Int) by rw [rd_nat]; simp [toI, ← hp, show k1 < (places c base c.length g).length by omega], Int.toNat_natCast] at h_
                exact h_
          clear hlen hi him hip hlvi hrk hQ hqc hok hgs1 hgs2 hgs3 hset hne hkn hz
          rcases hprev with rfl | ⟨k1, p, hk1, hpi, hxp⟩
          · have n8 : decide ((0 : Int) < ((0 : Nat) : Int)) = false := by decide
            have hxk0 : wr.cell? ada = some (.int .i64 (i : Int)) := by simpa [Addr.add] using hxk
            have hyz : ((0 : Nat) : Int) = 0 := rfl
            clear hyz
            go_upto_region 18 with (fail)
            go_quiet (fail)
            go_wp2
            go_roundg (gk - 1)
            case measure => have := HKQ.out; have := HKN.out; omega
            case rel =>
              refine ⟨0 + 1, rfl, ⟨HKN.out⟩, ⟨by have := HKQ.out; have := HKN.out; omega⟩, ⟨?_⟩, ⟨blk_far (blk_drewN HXK.out _) HNE.out.1 _⟩, ⟨(HBK.out.trans ((pw_below_drewN (Below.refl wr.heap.size wr) _).mono HBK.out.size)).setCell (p := ⟨gs, i, none⟩) (by have := HNE.out.2.2; have := HBS.out; show w5.heap.size ≤ gs; omega) _⟩⟩
              rw [HNE.out.2.1, ← HSET.out]
              have h_ := fun m_ => Kd.R_putn (Kd.R_drewN HOKQ.out m_) (i : Int) (z + 1)
              simp only [Int.toNat_natCast] at h_
              exact h_ _
          · have e4 : IntKind.i64.wrap ((k : Int) - 1) = (k1 : Int) := by rw [IntWalk.i64_in _ (by have := HKN.out; have := HN.out.1; have := HN.out.2.1; have := HL.out; omega)]; omega
            have n8 : decide ((0 : Int) < (k : Int)) = true := decide_eq_true (by omega)
            have n8' : decide (0 < k) = true := decide_eq_true (by omega)
            have n9 : decide ((i : Int) ≤ (p : Int)) = false := decide_eq_false (by omega)
            have n9' : decide (i ≤ p) = false := decide_eq_false (by omega)
            have n10 : ((k1 : Int) < (N : Int)) = True := eq_true (by have := HKN.out; omega)
            have n11 : (k1 < N) = True := eq_true (by have := HKN.out; omega)
            have n12 : ((0 : Int) ≤ (k1 : Int)) = True := eq_true (by omega)
            clear hk1 hpi
            go_upto_region 18 with (fail)
            go_quiet (fail)
            clear e4
            go_wp2
            go_roundg (gk - 1)
            case measure => have := HKQ.out; have := HKN.out; omega
            case rel =>
              refine ⟨k + 1, by rw [show wrap64 ((k : Int) + 1) = ((k + 1 : Nat) : Int) from by have := HKN.out; have := HN.out.1; have := HN.out.2.1; have := HL.out; unfold wrap64; omega], ⟨HKN.out⟩, ⟨by have := HKQ.out; have := HKN.out; omega⟩, ⟨?_⟩, ⟨blk_far (blk_drewN HXK.out _) HNE.out.1 _⟩, ⟨(HBK.out.trans ((pw_below_drewN (Below.refl wr.heap.size wr) _).mono HBK.out.size)).setCell (p := ⟨gs, i, none⟩) (by have := HNE.out.2.2; have := HBS.out; show w5.heap.size ≤ gs; omega) _⟩⟩
              rw [HNE.out.2.1, ← HSET.out]
              have h_ := fun m_ => Kd.R_putn (Kd.R_drewN HOKQ.out m_) (i : Int) (z + 1)
              simp only [Int.toNat_natCast] at h_
              exact h_ _
        · obtain rfl : k = N := by have := HK.out; omega
          have p3 : decide ((k : Int) < (k : Int)) = false := decide_eq_false (by omega)
          have p4 : decide (k < k) = false := decide_eq_false (by omega)
          clear hkn
          go_wp2
          go_roundg (gj - 1)
          case measure => have := HJQ.out; have := HLT.out; have := HGJ.out; omega
          case rel => exact ⟨j + 1, by rw [show wrap64 ((j : Int) + 1) = ((j + 1 : Nat) : Int) from by have := HLT.out; have := HS.out.2; have := HLn.out; unfold wrap64; omega], ⟨HLT.out⟩, ⟨by have := HJQ.out; have := HLT.out; omega⟩, ⟨by rw [HST.out]; have h_ := HOK.out; rw [← HN.out.1, List.take_length] at h_; exact h_⟩, HBK⟩
    · obtain rfl : j = Ln := by have := HJ.out; omega
      have p3 : decide ((j : Int) < (j : Int)) = false := decide_eq_false (by omega)
      have p4 : decide (j < j) = false := decide_eq_false (by omega)
      have hcv : ∀ i, i < c.length → (((roots c base).map (places c base c.length)).flatten).count i = if kp (lvs c base) i = true then 1 else 0 := fun i hi => _root_.Go.Proofs.Yteldofimjklckaa.Run.cover HF.out.1 HF.out.2.1 HF.out.2.2 i hi
      have HCV := Aside0.mk hcv
      have hoj := HOJ.out
      rw [List.take_of_length_le (by have := HS.out.2.1; have := HLn.out; omega)] at hoj
      have HOF := Aside0.mk hoj
      clear hlt hcv hoj
      go_wp2
      go_loopg [100] (c.length + 1) (fun kq v100 w' => ∃ i : Nat, v100 = .int .i64 (i : Int) ∧ Aside0 (i ≤ c.length) ∧ Aside0 (kq + i = c.length + 1) ∧ Aside0 (Below wr.heap.size wr w'))
      case atStart => exact ⟨0, rfl, ⟨Nat.zero_le _⟩, ⟨by omega⟩, ⟨Below.refl _ _⟩⟩
      case round =>
        obtain ⟨i, rfl, HII, HIQ, HBI⟩ := hrel
        by_cases hic : i < c.length
        · obtain ⟨adl, eAl, hxl⟩ := Kd.at_int (Kd.C_below HOL5.out (HBJ.out.trans (HBI.out.mono HBJ.out.size))) (i : Int) (by omega) (by omega)
          subst eAl
          have hok := Kd.R_below HOF.out HBI.out
          obtain ⟨gs, cvv, eAv, hgs1, hgs2, cellsv, hgs3⟩ := Kd.R_form hok (by rw [cntRow_length]; omega)
          injection eAv with eAv eN_ eCv
          clear eN_
          subst eAv eCv
          obtain ⟨hxs, _⟩ := Kd.R_celln 0 hok (i : Int) (by omega) (by omega)
          rw [show rdOf 0 (cntRow c.length (((roots c base).map (places c base c.length)).flatten)) (i : Int) = (cntRow c.length (((roots c base).map (places c base c.length)).flatten)).getD (i : Int).toNat 0 from rfl, Int.toNat_natCast, cntRow_get _ _ i hic, HCV.out i hic] at hxs
          rw [Int.toNat_natCast] at hxl
          have hk : kp (lvs c base) i = decide (0 ≤ rd (lvs c base) (i : Int)) := by unfold kp; rw [rd_nat, getD_same _ _ (by rw [lvs_length]; exact hic)]
          rw [hk] at hxs
          generalize rd (lvs c base) (i : Int) = x at *
          have n3 : ((i : Int) < (c.length : Int)) = True := eq_true (by omega)
          have n4 : (i < c.length) = True := eq_true hic
          have HIC := Aside0.mk hic
          clear hok hgs1 hgs2 hgs3 hk hic
          by_cases hx : 0 ≤ x
          · have n5 : decide (0 ≤ x) = true := decide_eq_true hx
            have n6 : decide (x < 0) = false := decide_eq_false (by omega)
            rw [n5, if_pos rfl] at hxs
            change _ = some (Value.int .i64 1) at hxs
            clear hx
            go_wp2
            go_roundg (gk - 1)
            case measure => have := HIQ.out; have := HIC.out; omega
            case rel => exact ⟨i + 1, by rw [show wrap64 ((i : Int) + 1) = ((i + 1 : Nat) : Int) from by have := HIC.out; have := HL.out; unfold wrap64; omega], ⟨HIC.out⟩, ⟨by have := HIQ.out; have := HIC.out; omega⟩, HBI⟩
          · have n5 : decide (0 ≤ x) = false := decide_eq_false hx
            have n6 : decide (x < 0) = true := decide_eq_true (by omega)
            rw [n5, if_neg (by simp)] at hxs
            change _ = some (Value.int .i64 0) at hxs
            clear hx
            go_wp2
            go_roundg (gk - 1)
            case measure => have := HIQ.out; have := HIC.out; omega
            case rel => exact ⟨i + 1, by rw [show wrap64 ((i : Int) + 1) = ((i + 1 : Nat) : Int) from by have := HIC.out; have := HL.out; unfold wrap64; omega], ⟨HIC.out⟩, ⟨by have := HIQ.out; have := HIC.out; omega⟩, HBI⟩
        · obtain rfl : i = c.length := by have := HII.out; omega
          have p5 : decide ((c.length : Int) < (c.length : Int)) = false := decide_eq_false (by omega)
          have p6 : decide (c.length < c.length) = false := decide_eq_false (by omega)
          clear hic
          go_wp2
          go_ret
          exact ⟨rfl, below_step HB5.out (HBJ.out.trans (HBI.out.mono HBJ.out.size))⟩
end Go.Proofs.Yteldofimjklckaa.G
