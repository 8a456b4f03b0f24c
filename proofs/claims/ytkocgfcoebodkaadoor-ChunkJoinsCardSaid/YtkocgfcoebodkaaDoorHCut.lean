/- chunk.Cut by hand. -/
import Derived.Test.YtkocgfcoebodkaaDoorHHead
import Derived.Test.YtkocgfcoebodkaaDoorCrcF
import Derived.Laws.CopyOwn
namespace Go.Proofs.YtkocgfcoebodkaaDoor.G
open Go.RowKit Go.Proofs.YtkocgfcoebodkaaDoorW.PrintWords Go.Proofs.YtkocgfcoebodkaaDoorW.PrintLast Go.Proofs.YtkocgfcoebodkaaDoorW.PrintMore Go.Proofs.YtkocgfcoebodkaaDoor.T
set_option linter.unusedVariables false
set_option linter.unusedSimpArgs false

/-- what chunk k holds of the bytes, filled up with noughts -/
def body (l0 : List Int) (k : Nat) : List Int := (l0.drop (k * 54)).take 54 ++ List.replicate (54 - min 54 (l0.length - k * 54)) 0
def piece (l0 : List Int) (t : Int) (k : Nat) : List Int := hd k t ++ body l0 k
def chunkOf (l0 : List Int) (t : Int) (k : Nat) : List Int := piece l0 t k ++ bytes4 (crc (piece l0 t k))
def chunks (l0 : List Int) (t : Int) : List (List Int) := (List.range ((l0.length + 53) / 54)).map (chunkOf l0 t)
theorem body_length (l0 : List Int) (k : Nat) : (body l0 k).length = 54 := by simp [body]; omega
theorem piece_length (l0 : List Int) (t : Int) (k : Nat) : (piece l0 t k).length = 60 := by simp [piece, hd, body_length]
theorem chunkOf_length (l0 : List Int) (t : Int) (k : Nat) : (chunkOf l0 t k).length = 64 := by simp [chunkOf, piece_length, bytes4]
def chunk_Cut.f (l0 : List Int) (a1 : Int) : Option (List (List Int) × Int) :=
  if 1 ≤ a1 ∧ a1 ≤ 2147483647 then (if l0.length ≤ 221184 then some (chunks l0 a1, 0) else some ([], 3)) else some ([], 2)
theorem splice_piece (l0 : List Int) (t : Int) (k : Nat) (h : k * 54 < l0.length) : splice (splice ((List.replicate 60 (0 : Int)).map (Value.int .u8)) 0 ((hd k t).map (Value.int .u8))) 6 (((l0.drop (k * 54)).take 54).map (Value.int .u8)) = (piece l0 t k).map (Value.int .u8) := by
  have e1 : ((hd k t).map (Value.int .u8)).length = 6 := rfl
  have e2 : splice ((List.replicate 60 (0 : Int)).map (Value.int .u8)) 0 ((hd k t).map (Value.int .u8)) = (hd k t ++ List.replicate 54 0).map (Value.int .u8) := rfl
  rw [e2, splice, piece, body, List.map_append, List.map_append, List.map_append, List.take_left' e1, List.drop_append, e1]
  have e3 : (List.drop (6 + (((l0.drop (k * 54)).take 54).map (Value.int .u8)).length) ((hd k t).map (Value.int .u8))) = [] := List.drop_eq_nil_of_le (by rw [e1]; omega)
  rw [e3, List.nil_append, Nat.add_sub_cancel_left]
  congr 2
  rw [List.map_replicate, List.map_replicate, List.drop_replicate, List.length_map, List.length_take, List.length_drop]
theorem range_map_succ {α : Type} (f : Nat → α) (k : Nat) : (List.range (k + 1)).map f = (List.range k).map f ++ [f k] := by rw [List.range_succ, List.map_append]; rfl
set_option maxHeartbeats 8000000 in
set_option maxRecDepth 100000 in
theorem chunk_Cut.calls (A0 : Option Addr) (c0 : Nat) (l0 : List Int) (a1 : Int) (r1 : List (List Int)) (r2 : Int) (w : World) (hT : Tab w) (hr0 : Kd.C (Kd.int .u8) w A0 l0.length l0) (hc0 : l0.length ≤ c0) (h : chunk_Cut.f l0 a1 = some (r1, r2)) :
    Calls Tryd.prog 9 #[.slice A0 l0.length c0, .int .i64 a1] w fun e w' => ∃ v0_ : Value, e = .returned (.tuple #[v0_, .int .i64 r2]) ∧ Kd.S (Kd.slice 5 (Kd.int .u8)) 22 w' w.heap.size (fun _ => True) v0_ r1 ∧ Below w.heap.size w w' := by
  have info22 : (Tryd.prog.info? 22).map (fun i => (i.zero, i.size, i.bytes)) = some (some (.slice none 0 0), 1, 24) := by kernel_rfl
  by_cases ht : 1 ≤ a1 ∧ a1 ≤ 2147483647
  · rw [chunk_Cut.f, if_pos ht] at h
    have f1 : decide (a1 < 1) = false := decide_eq_false (by omega)
    have f2 : decide (2147483647 < a1) = false := decide_eq_false (by omega)
    by_cases hl : l0.length ≤ 221184
    · rw [if_pos hl] at h
      injection h with h
      injection h with h1 h2
      have f3 : decide (221184 < (l0.length : Int)) = false := decide_eq_false (by omega)
      have f4 : decide (221184 < l0.length) = false := decide_eq_false (by omega)
      have HR := Aside0.mk hr0
      have HT := Aside0.mk hT
      have HL := Aside0.mk hl
      have H1 := Aside0.mk h1
      have HT1 := Aside0.mk ht
      have HC0 := Aside0.mk hc0
      subst h2
      clear h1 hr0 hT hl ht hc0
      go_enter Tryd.func9, Tryd.ntmps9
      go_wp2
      go_loopg [6, 7] ((l0.length + 53) / 54 + 1) (fun kq v6 v7 w' => ∃ k : Nat, v7 = .int .i64 (k : Int) ∧ Aside0 (k ≤ (l0.length + 53) / 54) ∧ Aside0 (kq + k = (l0.length + 53) / 54 + 1) ∧ Aside0 (Kd.S (Kd.slice 5 (Kd.int .u8)) 22 w' w.heap.size (fun _ => True) v6 ((List.range k).map (chunkOf l0 a1))) ∧ Aside0 (Below w.heap.size w w'))
      case atStart => exact ⟨0, rfl, ⟨Nat.zero_le _⟩, ⟨rfl⟩, ⟨Kd.S_nil _ _ _ _ _⟩, ⟨Below.refl _ _⟩⟩
      case round =>
        clear f1 f2 f3 f4
        obtain ⟨k, rfl, HN, HK, HO, HB⟩ := hrel
        have e1 : wrap64 ((k : Int) * 54) = (k : Int) * 54 := by have := HN.out; have := HL.out; unfold wrap64; omega
        have e2 : wrap64 ((k : Int) + 1) = (k : Int) + 1 := by have := HN.out; have := HL.out; unfold wrap64; omega
        by_cases c2 : (k : Int) * 54 < (l0.length : Int)
        · have c2b : decide ((k : Int) * 54 < (l0.length : Int)) = true := decide_eq_true c2
          have hkl : k * 54 < l0.length := by omega
          obtain ⟨ad, rfl⟩ : ∃ ad, A0 = some ad := by
            obtain ⟨ad, e, _⟩ := Kd.at_int HR.out 0 (by omega) (by omega)
            exact ⟨ad, e⟩
          have info5 : (Tryd.prog.info? 5).map (fun i => (i.zero, i.size, i.bytes)) = some (some (.int .u8 0), 1, 1) := by kernel_rfl
          obtain ⟨i5, hi5, hi5z, hi5s, hi5b⟩ := info_parts info5
          obtain ⟨pk, hpk⟩ : ∃ x, x = ad.add (k * 54) := ⟨_, rfl⟩
          obtain ⟨m, hm⟩ : ∃ x, x = l0.length - k * 54 := ⟨_, rfl⟩
          have hc0 := HC0.out
          have hcutB : ∀ W, (Instr.slice 22 (.slice (some ad) l0.length c0) (some (.int .i64 ((k : Int) * 54))) none none).run Tryd.prog W = .ok (.slice (some pk) m (c0 - k * 54)) W := fun W => by
            have ek : ((k : Int) * 54).toNat = k * 54 := by omega
            rw [cut_from 22 5 .i64 Tryd.underlying22 hi5 1 hi5s (some ad) l0.length c0 ((k : Int) * 54) (by omega) (by omega) W, ek, if_neg (by omega), hpk, hm, Nat.mul_one]; rfl
          obtain ⟨cs, hcs⟩ : ∃ x, x = (((l0.drop (k * 54)).take 54).map (Value.int .u8)) := ⟨_, rfl⟩
          have hcl : cs.length = Nat.min m 54 := by rw [hcs, List.length_map, List.length_take, List.length_drop, ← hm]; exact Nat.min_comm _ _
          have hsrc : ∀ W, Kd.C (Kd.int .u8) W (some ad) l0.length l0 → ∀ j v, cs[j]? = some v → W.cell? (pk.add j) = some v := by
            intro W hC j v hv
            rw [hcs, List.getElem?_map] at hv
            obtain ⟨x, hx, rfl⟩ := Option.map_eq_some_iff.1 hv
            rw [List.getElem?_take] at hx
            split at hx
            · rw [List.getElem?_drop] at hx
              obtain ⟨hlt, hx2⟩ := List.getElem?_eq_some_iff.1 hx
              obtain ⟨ad', e, hy⟩ := Kd.at_int hC ((k * 54 + j : Nat) : Int) (by omega) (by omega)
              injection e with e
              subst e
              rw [Int.toNat_natCast] at hy
              rw [hpk, Addr.add_add, hy]
              congr 2
              simp only [rd, Int.toNat_natCast, List.getD_eq_getElem?_getD, hx, Option.getD_some]
            · cases hx
          obtain ⟨pc, hpc⟩ : ∃ x, x = piece l0 a1 k := ⟨_, rfl⟩
          have hpl : pc.length = 60 := by rw [hpc]; exact piece_length _ _ _
          obtain ⟨ck, hck⟩ : ∃ x, x = chunkOf l0 a1 k := ⟨_, rfl⟩
          have hsf : sums_Seal.f pc = some ck := by rw [Seal_f pc (by omega), hck, hpc]; rfl
          have hsp := splice_piece l0 a1 k hkl
          rw [← hpc, ← hcs] at hsp
          obtain ⟨Z, hZ⟩ : ∃ x, x = (List.replicate 60 (0 : Int)).map (Value.int .u8) := ⟨_, rfl⟩
          obtain ⟨D, hD⟩ : ∃ x, x = (hd k a1).map (Value.int .u8) := ⟨_, rfl⟩
          rw [← hZ, ← hD] at hsp
          have hZl : Z.length = 60 := by rw [hZ]; rfl
          have hDl : D.length = 6 := by rw [hD]; rfl
          have hD1 : ∀ v ∈ D, v.oneCell' = true := by rw [hD]; intro v hv; obtain ⟨x, _, rfl⟩ := List.mem_map.1 hv; rfl
          have hC1 : ∀ v ∈ cs, v.oneCell' = true := by rw [hcs]; intro v hv; obtain ⟨x, _, rfl⟩ := List.mem_map.1 hv; rfl
          have HSeal := Aside0.mk (fun W g hT hh => by
            have := sums_Seal.calls (some ⟨g, 0, none⟩) 60 pc ck W hT (C_block (ty := 45) (fr := (0, 0)) pc hh rfl (by omega)) (by omega) hsf
            rwa [hpl] at this)
          have HM := Aside0.mk (And.intro hpk (And.intro hm (And.intro hcs hpc)))
          have HSP := Aside0.mk hsp
          have HSRC := Aside0.mk hsrc
          have HCL := Aside0.mk hcl
          have HZD := Aside0.mk (And.intro hZl (And.intro hDl (And.intro hD1 hC1)))
          have HCK := Aside0.mk hck
          have HDD := Aside0.mk hD
          have hg8 := heap_alloc_new wr (Obj.cells (Z.toArray) 45)
          have HPL := Aside0.mk hpl
          rw [hZ] at hg8
          clear hpk hm hcs hsp hsrc hcl hZl hDl hD1 hC1 hck hpc hsf hpl hc0 hD hi5 hi5z hi5s hi5b hkl
          go_upto_region 11 with (first | (go_at_call 16; refine (chunk_headed.calls k a1 _).mono ?_; rintro e w1 ⟨rfl, hb1⟩))
          have hW0 : wr.heap.size < (wr.alloc (Obj.cells (((List.replicate 60 (0 : Int)).map (Value.int .u8)).toArray) 45)).heap.size := blk_lt hg8
          have hb1' : Below (wr.alloc (Obj.cells (((List.replicate 60 (0 : Int)).map (Value.int .u8)).toArray) 45)).heap.size (wr.alloc (Obj.cells (((List.replicate 60 (0 : Int)).map (Value.int .u8)).toArray) 45)) w1 := hb1
          have hg1 : w1.heap[wr.heap.size]? = some (.cells Z.toArray 45 (0, 0)) := by rw [hb1'.block _ hW0, hg8, hZ]
          have hbw1 : Below wr.heap.size wr w1 := below_step (below_alloc (Below.refl wr.heap.size wr) _) hb1'
          have hgh : wr.heap.size < w1.heap.size := blk_lt hg1
          clear hb1 hb1' hg8 hW0 hZ
          have hD2 : (#[.int .u8 ((k : Int) / 256 % 256), .int .u8 ((k : Int) % 256), .int .u8 (a1 / 16777216 % 256), .int .u8 (a1 / 65536 % 256), .int .u8 (a1 / 256 % 256), .int .u8 (a1 % 256)] : Array Value) = D.toArray := by rw [HDD.out]; rfl
          rw [hD2]
          have hh2 := heap_alloc_new w1 (Obj.cells D.toArray 46)
          have hg2 : (w1.alloc (Obj.cells D.toArray 46)).heap[wr.heap.size]? = some (.cells Z.toArray 45 (0, 0)) := by rw [(below_alloc (Below.refl w1.heap.size w1) _).block _ hgh]; exact hg1
          have hbw2 := (below_step hbw1 (below_alloc (Below.refl w1.heap.size w1) (Obj.cells D.toArray 46)))
          clear hg1 hbw1 hD2
          have HG2 := Aside0.mk hg2
          have HH2 := Aside0.mk hh2
          have HB2 := Aside0.mk hbw2
          have HGH := Aside0.mk hgh
          have HWR := Aside0.mk (Nat.le_refl wr.heap.size)
          clear hg2 hh2 hbw2 hgh
          generalize hgg : wr.heap.size = g at *
          generalize w1.heap.size = hb at *
          generalize (w1.alloc (Obj.cells D.toArray 46)) = W2 at *
          have hsz : (Tryd.prog.info? 5).map (·.size) = some 1 := by kernel_rfl
          refine start_ (n := 3) (S := fun w' => True) (ds := []) #[false, false, false] (by kernel_rfl) rfl rfl trivial (fun hHeld => ?_)
          refine pure_ (i := 0) (N := some 31) (v := ?_) (a' := ?_) #[true, false, false] rfl rfl (by kernel_rfl) (fun _ _ _ h => h) (Or.inl ⟨by rfl, ?_⟩) ?_ ?_
          rotate_left
          · intro w'
            go_simp
            with_reducible rfl
          rotate_left
          · simp only [Act.put, List.setIfInBounds_toArray, List.set_cons_zero, List.set_cons_succ, i64_w, i32_w]
            rfl
          refine pure_ (i := 1) (N := some 32) (v := ?_) (a' := ?_) #[true, true, false] rfl rfl (by kernel_rfl) (fun _ _ _ h => h) (Or.inl ⟨by rfl, ?_⟩) ?_ ?_
          rotate_left
          · intro w'
            go_simp
            with_reducible rfl
          rotate_left
          · simp only [Act.put, List.setIfInBounds_toArray, List.set_cons_zero, List.set_cons_succ, i64_w, i32_w]
            rfl
          refine one_ (i := 2) (N := some 33) #[true, true, true] rfl rfl (by kernel_rfl) (by decide) (fun K hK => ?_)
          refine step_copy_splice (by rfl) (.tmp 31) (.tmp 32) 22 22 rfl 5 Tryd.underlying22 hsz (some ⟨g, 0, none⟩) (some ⟨hb, 0, none⟩) 6 6 6 6 rfl rfl g 0 Z 45 (blk_drew HG2.out) D (by rw [HZD.out.2.1]; rfl) (fun _ => ⟨rfl, _, rfl, fun j v hv => ?_⟩) (by rw [HZD.out.2.1, HZD.out.1]; omega) HZD.out.2.2.1 g wr (below_drew1 (by rw [← hgg] at HB2 ⊢; exact HB2.out)) (Nat.le_refl _) ?_
          · rw [show (Addr.add ⟨hb, 0, none⟩ j) = ⟨hb, j, none⟩ by cases j <;> simp [Addr.add], cell_of_row _ hb j _ _ _ (blk_drew HH2.out)]; simpa using hv
          intro W3 HG3 HB3
          refine hK.out _ _ trivial (fun hHeld => ?_)
          clear hK K
          refine norm_ (a' := ?_) ?_ ?_
          rotate_left
          · show Act.put _ (some 33) _ = _
            simp only [Act.put, List.setIfInBounds_toArray, List.set_cons_zero, List.set_cons_succ, i64_w, i32_w]
            rfl
          refine done_ (by kernel_rfl) ?_
          have HB3w := Aside0.mk (show Below wr.heap.size wr W3 by rw [hgg]; exact HB3)
          have HR3 := Aside0.mk (Kd.C_below HR.out (below_step HB.out HB3w.out))
          have HG3' := Aside0.mk HG3.out
          have HS3l : (splice Z 0 D).length = 60 := by rw [length_splice _ _ _ (by rw [HZD.out.1, HZD.out.2.1]; omega), HZD.out.1]
          clear HG3 HB3 HG2 HH2 HB2
          go_upto_region 12 with (fail)
          refine start_ (n := 6) (S := fun w' => True) (ds := []) #[false, false, false, false, false, false] (by kernel_rfl) rfl rfl trivial (fun hHeld => ?_)
          refine pure_ (i := 0) (N := some 34) (v := ?_) (a' := ?_) #[true, false, false, false, false, false] rfl rfl (by kernel_rfl) (fun _ _ _ h => h) (Or.inl ⟨by rfl, ?_⟩) ?_ ?_
          rotate_left
          · intro w'
            go_simp
            with_reducible rfl
          rotate_left
          · simp only [Act.put, List.setIfInBounds_toArray, List.set_cons_zero, List.set_cons_succ, i64_w, i32_w]
            rfl
          refine pure_ (i := 1) (N := some 35) (v := ?_) (a' := ?_) #[true, true, false, false, false, false] rfl rfl (by kernel_rfl) (fun _ _ _ h => h) (Or.inl ⟨by rfl, ?_⟩) ?_ ?_
          rotate_left
          · intro w'
            go_simp
            with_reducible rfl
          rotate_left
          · simp only [Act.put, List.setIfInBounds_toArray, List.set_cons_zero, List.set_cons_succ, i64_w, i32_w]
            rfl
          refine pure_ (i := 2) (N := some 36) (v := ?_) (a' := ?_) #[true, true, true, false, false, false] rfl rfl (by kernel_rfl) (fun _ _ _ h => h) (Or.inl ⟨by rfl, ?_⟩) ?_ ?_
          rotate_left
          · intro w'
            go_simp
            with_reducible rfl
          rotate_left
          · simp only [Act.put, List.setIfInBounds_toArray, List.set_cons_zero, List.set_cons_succ, i64_w, i32_w]
            rfl
          refine pure_ (i := 3) (N := some 37) (v := ?_) (a' := ?_) #[true, true, true, true, false, false] rfl rfl (by kernel_rfl) (fun _ _ _ h => h) (Or.inl ⟨by rfl, ?_⟩) ?_ ?_
          rotate_left
          · intro w'
            go_simp
            with_reducible rfl
          rotate_left
          · simp only [Act.put, List.setIfInBounds_toArray, List.set_cons_zero, List.set_cons_succ, i64_w, i32_w]
            rfl
          refine pure_ (i := 4) (N := some 38) (v := ?_) (a' := ?_) #[true, true, true, true, true, false] rfl rfl (by kernel_rfl) (fun _ _ _ h => h) (Or.inl ⟨by rfl, ?_⟩) ?_ ?_
          rotate_left
          · intro w'
            go_simp
            with_reducible rfl
          rotate_left
          · simp only [Act.put, List.setIfInBounds_toArray, List.set_cons_zero, List.set_cons_succ, i64_w, i32_w]
            rfl
          refine one_ (i := 5) (N := some 39) #[true, true, true, true, true, true] rfl rfl (by kernel_rfl) (by decide) (fun K hK => ?_)
          refine step_copy_splice (by rfl) (.tmp 34) (.tmp 38) 22 22 rfl 5 Tryd.underlying22 hsz (some ⟨g, 6, none⟩) (some pk) 54 54 m (c0 - k * 54) rfl rfl g 6 (splice Z 0 D) 45 (blk_drew HG3'.out) cs HCL.out (fun _ => ⟨rfl, _, rfl, fun j v hv => HSRC.out _ (Kd.C_drew HR3.out) j v hv⟩) (by rw [HS3l, HCL.out]; exact Nat.add_le_add_left (Nat.min_le_right m 54) 6) HZD.out.2.2.2 g wr (below_drew1 (by rw [← hgg]; exact HB3w.out)) (Nat.le_refl _) ?_
          intro W4 HG4 HB4
          refine hK.out _ _ trivial (fun hHeld => ?_)
          clear hK K
          refine norm_ (a' := ?_) ?_ ?_
          rotate_left
          · show Act.put _ (some 39) _ = _
            simp only [Act.put, List.setIfInBounds_toArray, List.set_cons_zero, List.set_cons_succ, i64_w, i32_w]
            rfl
          refine done_ (by kernel_rfl) ?_
          have HB4w := Aside0.mk (show Below wr.heap.size wr W4 by rw [hgg]; exact HB4)
          have HG4' := Aside0.mk (show W4.heap[g]? = some (.cells (pc.map (Value.int .u8)).toArray 45 (0, 0)) by rw [← HSP.out]; exact HG4.out)
          have HBw4 := Aside0.mk (below_step HB.out HB4w.out)
          have HO4 := Aside0.mk (Kd.S_below HO.out HB4w.out)
          clear HG4 HB4 HG3' HR3 HB3w HS3l HO HB
          have HS4 := Aside0.mk (HSeal.out W4 g (Kd.C_below HT.out HBw4.out) HG4'.out)
          go_wp2_with (first | (go_at_call 17; refine HS4.out.mono ?_; rintro e W5 ⟨v5, rfl, ho5, hb5⟩; refine of_halt ?_))
          unfold Halt
          have n0_ := Aside0.mk (Kd.S_elder' HO4.out (Kd.R_base ho5) hb5)
          have n1_ := Aside0.mk (Kd.R_lower ho5 (below_size HBw4.out))
          have n2_ := Aside0.mk (below_step HBw4.out hb5)
          obtain ⟨A5, c5, eo⟩ := Kd.R_slice n1_.out
          subst eo
          clear ho5 hb5 HO4 HBw4 HB4w HG4' HS4
          have hPa := Kd.R_mono (ok' := fun k_ => (True) ∧ some k_ ≠ (u6 : Value).ownBlock) (Kd.R_apart' (n1_.out) (Kd.S_typed n0_.out) (by decide)) (fun k_ hk => ⟨trivial, hk.2⟩)
          have HPA := Aside0.mk hPa
          clear hPa
          go_wp2_with (first | ((with_reducible refine gate_dst (N := 44) rfl ?_); refine of_halt ?_))
          unfold Halt
          refine Kd.S_append (Kd.slice 5 (Kd.int .u8)) (w0 := w) w.heap.size rfl (.tmp 40) (.tmp 43) 24 22 (.slice none 0 0) 24 rfl Tryd.underlying24 info22 rfl (by decide) (by omega) u6 ((List.range k).map (chunkOf l0 a1)) ck [.slice A5 ck.length c5] (fun _ => True) (fun k_ => some k_ = (.slice A5 ck.length c5 : Value).ownBlock) rfl rfl ?aP (fun k_ hk_ => HPA.out.1 k_ hk_.symm) ?aF ?aO ?aB ?aS ?aL ?_
          case aP => exact Kd.M_row (Kd.R_mono (Kd.R_tight rfl HPA.out) (fun _ h_ => h_))
          case aB => exact n2_.out
          case aF => exact (fun _ _ => trivial)
          case aO => exact Kd.S_mono n0_.out (fun k_ hk => ⟨trivial, fun e_ => hk.2 e_⟩)
          case aS => exact below_size n2_.out
          case aL => have := HN.out; have := HL.out; rw [List.length_map, List.length_range]; omega
          intro v6 W7 ho hb7 hg7 hat7
          rw [show (List.range k).map (chunkOf l0 a1) ++ [ck] = (List.range (k + 1)).map (chunkOf l0 a1) by rw [range_map_succ, HCK.out]] at ho
          have HO7 := Aside0.mk ho
          have HB7 := Aside0.mk hb7
          clear ho hb7 hg7 hat7
          have c3 := of_decide_eq_true c2b
          go_wp2
          go_roundg (gk - 1)
          case measure => have := HK.out; have := HN.out; omega
          case rel => exact ⟨k + 1, by rw [e2]; rfl, ⟨by omega⟩, ⟨by have := HK.out; have := HN.out; omega⟩, HO7, HB7⟩
        · have c2b : decide ((k : Int) * 54 < (l0.length : Int)) = false := decide_eq_false c2
          have hk : (l0.length + 53) / 54 = k := by have := HN.out; omega
          have hr : r1 = (List.range k).map (chunkOf l0 a1) := by rw [← H1.out, chunks, hk]
          go_wp2
          go_ret2
          exact ⟨_, rfl, HO.out, HB.out⟩
    · rw [if_neg hl] at h
      injection h with h
      injection h with h1 h2
      subst h1 h2
      have f3 : decide (221184 < (l0.length : Int)) = true := decide_eq_true (by omega)
      have f4 : decide (221184 < l0.length) = true := decide_eq_true (by omega)
      go_enter Tryd.func9, Tryd.ntmps9
      go_wp2
      go_ret2
      exact ⟨_, rfl, Kd.S_nil _ _ _ _ _, Below.refl _ _⟩
  · rw [chunk_Cut.f, if_neg ht] at h
    injection h with h
    injection h with h1 h2
    subst h1 h2
    by_cases hx : a1 < 1
    · have f1 : decide (a1 < 1) = true := decide_eq_true hx
      go_enter Tryd.func9, Tryd.ntmps9
      go_wp2
      go_ret2
      exact ⟨_, rfl, Kd.S_nil _ _ _ _ _, Below.refl _ _⟩
    · have f1 : decide (a1 < 1) = false := decide_eq_false hx
      have f2 : decide (2147483647 < a1) = true := decide_eq_true (by omega)
      go_enter Tryd.func9, Tryd.ntmps9
      go_wp2
      go_ret2
      exact ⟨_, rfl, Kd.S_nil _ _ _ _ _, Below.refl _ _⟩
end Go.Proofs.YtkocgfcoebodkaaDoor.G
