/- The law ChunkTurned, walked by hand. -/
import Derived.Test.YtkocgfcoebodkaaDoorChunkR
import Derived.Test.YtkocgfcoebodkaaDoorTurnT
namespace Go.Proofs.YtkocgfcoebodkaaDoor.X
open Go.RowKit Go.Proofs.YtkocgfcoebodkaaDoorW.PrintWords Go.Proofs.YtkocgfcoebodkaaDoorW.PrintLast Go.Proofs.YtkocgfcoebodkaaDoorW.PrintMore Go.Proofs.YtkocgfcoebodkaaDoor.G Go.Proofs.YtkocgfcoebodkaaDoor.T Go.Proofs.YtkocgfcoebodkaaDoor.C
set_option linter.unusedVariables false
set_option linter.unusedSimpArgs false

/-- What the program makes of a list of chunks, and what of bytes; the example. -/
def colophonlaw20_ChunkTurned.Pure : Prop := (∃ k, colophonlaw20_works.f k = some true) ∧ ∀ (l : List (List Int)) (t size : Int), l.length < 4611686018427387904 → ∃ k, chunk_Join.f k l t size = some (JN l t size)
/-- A list of chunks of which one is turned. -/
theorem JN_turned (l0 : List Int) (t : Int) (ht : 1 ≤ t ∧ t ≤ 2147483647) (hl : l0.length ≤ 221184) (m : Nat) (hm : m < (l0.length + 53) / 54) (y : List Int) (hy : y.length = 64) (hne : ¬ (y.drop (y.length - 4) = bytes4 (crc (y.take (y.length - 4))))) : JN ((chunks l0 t).set m y) t (l0.length : Int) = ([], 21) := by
  have hcl := chunks_length l0 t
  rw [JN, if_pos ⟨ht.1, ht.2, by omega, by omega, by rw [List.length_set, hcl, cnt_len]⟩]
  refine jn_bad l0 t _ (by rw [List.length_set, hcl]) m (by rw [List.length_set]; omega) (fun i hi => ?_) 21 ?_ (by decide)
  · rw [List.getD_eq_getElem?_getD, List.getElem?_set_ne (by omega), ← List.getD_eq_getElem?_getD, chunks_get l0 t i (by omega), CO_chunk, if_pos rfl]
  · rw [List.getD_eq_getElem?_getD, List.getElem?_set_self (by omega), Option.getD_some, CO, if_pos hy, show RO y = ([], 21) from (if_neg (by omega)).trans (if_neg hne)]
    rfl
theorem places (K n : Nat) (hK : K < 512 * n) (hn : n ≤ 38) : ∃ J m : Nat, J < n ∧ m < 512 ∧ wrap64 ((K : Int) / 512) = (J : Int) ∧ (K : Int) % 512 = (m : Int) := by
  obtain ⟨J, hJ⟩ : ∃ J : Nat, J = K / 512 := ⟨_, rfl⟩
  obtain ⟨m, hm⟩ : ∃ m : Nat, m = K % 512 := ⟨_, rfl⟩
  have e : (K : Int) / 512 = (J : Int) := by omega
  have e' : (K : Int) % 512 = (m : Int) := by omega
  have l : J < n := by omega
  have l' : m < 512 := by omega
  refine ⟨J, m, l, l', ?_, e'⟩
  · rw [e]
    exact E.w64' (by omega) (by omega)
theorem loopf (K m i : Nat) (hK : (K : Int) % 512 = (m : Int)) (hm : m < 512) (hi : i ≤ 32) : ∃ q p r : Nat, (q = m + i ∧ p = q / 8 ∧ r = q % 8) ∧ Aside0 (wrap64 ((K : Int) % 512 + (i : Int)) = (q : Int) ∧ wrap64 ((q : Int) / 8) = (p : Int) ∧ (q : Int) % 8 = (r : Int) ∧ wrap64 (r : Int) = (r : Int) ∧ IntKind.u64.wrap (r : Int) = (r : Int) ∧ IntKind.u64.wrap (i : Int) = (i : Int) ∧ wrap64 ((i : Int) + 1) = ((i + 1 : Nat) : Int)) := by
  obtain ⟨q, hq⟩ : ∃ q, q = m + i := ⟨_, rfl⟩
  obtain ⟨p, hp⟩ : ∃ p, p = q / 8 := ⟨_, rfl⟩
  obtain ⟨r, hr⟩ : ∃ r, r = q % 8 := ⟨_, rfl⟩
  have a1 : (K : Int) % 512 + (i : Int) = (q : Int) := by omega
  have a2 : (q : Int) / 8 = (p : Int) := by omega
  have a3 : (q : Int) % 8 = (r : Int) := by omega
  have l1 : q < 600 := by omega
  have l2 : p < 600 := by omega
  have l3 : r < 600 := by omega
  exact ⟨q, p, r, ⟨hq, hp, hr⟩, ⟨by rw [a1]; exact w64n q (by omega), by rw [a2]; exact w64n p (by omega), a3, w64n r (by omega), u64n r (by omega), u64n i (by omega), E.w64 (by omega)⟩⟩
theorem two_pow_mod (r : Nat) (hr : r < 8) : (2 : Int) ^ r % 256 = ((2 ^ r : Nat) : Int) := by
  have h2 : (2 : Nat) ^ r < 256 := Nat.pow_lt_pow_right (by decide) hr
  have : ((2 : Int) ^ r) = ((2 ^ r : Nat) : Int) := by simp
  rw [this]
  generalize 2 ^ r = z at h2 ⊢
  omega
/-- One bit turned. -/
theorem turned_step {s : List Int} {m i : Nat} {y : List Int} {x : Bool} {mask : T.W} (HV : Inv s m i y x mask) (hsl : s.length = 64) {q p r : Nat} (hq : q = m + i ∧ p = q / 8 ∧ r = q % 8) (hi : i < 32 ∧ q < 512) {e : Nat} {W : World} {base : Nat} {ok : Nat → Prop} {g cap : Nat} (HR : Kd.R (Kd.int .u8) e W base ok (.slice (some ⟨g, 0, none⟩) 64 cap) y) :
    Inv s m (i + 1) (y.set p (Go.bits .xor .u8 (rdOf 0 y (p : Int)) ((2 : Int) ^ r % 256))) true (mask ^^^ (1#32 <<< i)) ∧
    Kd.R (Kd.int .u8) e (W.setCell ⟨g, p, none⟩ (.int .u8 (Go.bits .xor .u8 (rdOf 0 y (p : Int)) ((2 : Int) ^ r % 256)))) base ok (.slice (some ⟨g, 0, none⟩) 64 cap) (y.set p (Go.bits .xor .u8 (rdOf 0 y (p : Int)) ((2 : Int) ^ r % 256))) := by
  obtain ⟨rfl, rfl, rfl⟩ := hq
  have h1 := HV.turn hi.1 (by omega)
  rw [two_pow_mod _ (Nat.mod_lt _ (by decide))]
  refine ⟨h1, ?_⟩
  have h2 := Kd.R_putn HR (((m + i) / 8 : Nat) : Int) (Go.bits .xor .u8 (rdOf 0 y (((m + i) / 8 : Nat) : Int)) ((2 ^ ((m + i) % 8) : Nat) : Int))
  rw [Int.toNat_natCast] at h2
  exact h2
theorem gset {w w' : World} {b : Nat} (h : w.grownBy w' (some b)) (j : Nat) (v : Value) : w.grownBy (w'.setCell ⟨b, j, none⟩ v) (some b) :=
  ⟨h.os, h.tape, h.output, by rw [World.size_setCell]; exact h.size, fun k hk hne => by rw [Below.heap_setCell _ _ _ _ (fun e => hne (by rw [e]))]; exact h.block k hk hne⟩
theorem set_same (l : List (List Int)) (J : Nat) (hJ : J < l.length) : l.set J (l.getD J []) = l := by
  apply List.ext_getElem?
  intro j
  by_cases hj : J = j
  · subst hj
    rw [List.getElem?_set_self hJ, List.getD_eq_getElem?_getD, List.getElem?_eq_getElem hJ]
    rfl
  · rw [List.getElem?_set_ne hj]
theorem chunk_Bytes (l0 : List Int) (t : Int) (k : Nat) (hb : Bytes l0) : Bytes (chunkOf l0 t k) := by
  rw [chunkOf, piece]
  refine Bytes.append (Bytes.append ?_ ?_) ?_
  · intro x hx
    simp only [hd, List.mem_cons, List.not_mem_nil, or_false] at hx
    omega
  · rw [body]
    refine Bytes.append ((hb.drop _).take _) (fun x hx => ?_)
    rw [List.eq_of_mem_replicate hx]
    omega
  · intro x hx
    have hc := crc_range (hd (k : Int) t ++ body l0 k)
    generalize crc (hd (k : Int) t ++ body l0 k) = c at hc hx
    unfold bytes4 at hx
    simp only [List.mem_cons, List.not_mem_nil, or_false] at hx
    omega
/-- What Join tells behind the bits. -/
theorem JN_behind (l0 : List Int) (t : Int) (hby : Bytes l0) (ht : 1 ≤ t ∧ t ≤ 2147483647) (hl : l0.length ≤ 221184) (J : Nat) (hJ : J < (chunks l0 t).length) {m i : Nat} {y : List Int} {x : Bool} {mask : T.W} (HV : Inv (chunkOf l0 t J) m i y x mask) :
    JN ((chunks l0 t).set J y) t (l0.length : Int) = if x = true then ([], 21) else (l0, 0) := by
  have hcl := chunks_length l0 t
  cases x with
  | false =>
    obtain ⟨rfl, _⟩ := HV.no rfl
    rw [← chunks_get l0 t J (by omega), set_same _ _ hJ]
    exact JN_all l0 t ht hl
  | true =>
    have h64 := chunkOf_length l0 t J
    refine JN_turned l0 t ht hl J (by omega) y (by rw [HV.len]; exact h64) (HV.refused (by omega) ?_)
    exact sealed_reg (piece l0 t J) _ rfl (chunk_Bytes l0 t J hby)
set_option maxHeartbeats 16000000 in
set_option maxRecDepth 100000 in
theorem colophonlaw20_ChunkTurned.walk (P : colophonlaw20_ChunkTurned.Pure) (a0 : Option Addr) (len0 cap0 : Nat) (z0 : List Int) (a1 a2 a3 : Int) (w : World) (hT : Tab w) (w0 : (a0 = none ∧ len0 = 0 ∧ cap0 = 0 ∧ z0 = []) ∨ ∃ x, a0 = some x ∧ len0 ≤ cap0 ∧ cap0 ≤ maxLen ∧ z0.length = cap0 ∧ (∀ i, i < z0.length → w.cell? (x.add i) = some (.int .u8 (z0.getD i 0))) ∧ ∀ n ∈ z0, (Lit.int .u8 n).wf = true) (y0 : len0 * 1 ≤ 140737488351232) (w1 : (Lit.int .i64 a1).wf = true) (w2 : (Lit.int .i64 a2).wf = true) (w3 : (Lit.int .u32 a3).wf = true) :
    Calls Tryd.prog 6 #[.slice a0 len0 cap0, .int .i64 a1, .int .i64 a2, .int .u32 a3] w fun e w' => e = .returned (.bool true) ∧ Below w.heap.size w w' := by
  obtain ⟨l0, rfl, hr0, hm0, hw0, hc0⟩ := ReadsInt.ofRowC w0
  obtain ⟨⟨kw, hworks⟩, hJoin⟩ := P
  have HJOIN := Aside0.mk hJoin
  clear hJoin
  have HR := Aside0.mk (show Kd.C (Kd.int .u8) w a0 l0.length l0 from Kd.C_of_reads (d := (0 : Int)) (h1 := fun _ => rfl) hr0)
  have HT := Aside0.mk hT
  have HC0 := Aside0.mk hc0
  have HBy := Aside0.mk (bytes_wf hw0)
  have HWk := Aside0.mk (fun W hT => colophonlaw20_works.calls kw true W hT hworks)
  clear hr0 hT w0 hm0 hw0 hc0 y0 w1 w2 w3 hworks
  by_cases c1 : (l0.length : Int) > 2000
  · have c1b : decide (2000 < (l0.length : Int)) = true := decide_eq_true c1
    have c1c : decide (2000 < l0.length) = true := decide_eq_true (by omega)
    go_enter Tryd.func6, Tryd.ntmps6
    go_wp2_with (first | (go_at_call 8; refine (HWk.out _ HT.out).mono ?_; rintro e W1 ⟨rfl, hb1⟩))
    go_ret
    exact ⟨rfl, hb1⟩
  have c1b : decide (2000 < (l0.length : Int)) = false := decide_eq_false c1
  have c1c : decide (2000 < l0.length) = false := decide_eq_false (by omega)
  obtain ⟨r, hr⟩ : ∃ r, chunk_Cut.f l0 a1 = some r := by
    unfold chunk_Cut.f; split <;> (try split) <;> exact ⟨_, rfl⟩
  obtain ⟨L, e⟩ := r
  have HCut := Aside0.mk (fun W hT hC => chunk_Cut.calls a0 cap0 l0 a1 L e W hT hC HC0.out hr)
  by_cases ce : e = 0
  rotate_left
  · have ceb : (e != 0) = true := by simpa using ce
    clear hr
    go_enter Tryd.func6, Tryd.ntmps6
    go_wp2_with (first | (go_at_call 8; refine (HWk.out _ HT.out).mono ?_; rintro e W1 ⟨rfl, hb1⟩; have HB1 := Aside0.mk hb1; clear hb1) | (go_at_call 9; refine (HCut.out _ (Kd.C_below HT.out HB1.out) (Kd.C_below HR.out HB1.out)).mono ?_; rintro e W2 ⟨v9, rfl, ho9, hb2⟩; obtain ⟨A9, c9, rfl⟩ := Kd.S_slice ho9))
    go_ret
    exact ⟨rfl, below_step HB1.out hb2⟩
  subst ce
  by_cases cl : L.length = 0
  · have clb : ((L.length : Int) == 0) = true := by simp [cl]
    clear hr
    go_enter Tryd.func6, Tryd.ntmps6
    go_wp2_with (first | (go_at_call 8; refine (HWk.out _ HT.out).mono ?_; rintro e W1 ⟨rfl, hb1⟩; have HB1 := Aside0.mk hb1; clear hb1) | (go_at_call 9; refine (HCut.out _ (Kd.C_below HT.out HB1.out) (Kd.C_below HR.out HB1.out)).mono ?_; rintro e W2 ⟨v9, rfl, ho9, hb2⟩; obtain ⟨A9, c9, rfl⟩ := Kd.S_slice ho9))
    go_ret
    exact ⟨rfl, below_step HB1.out hb2⟩
  have hsome := hr
  have ht : 1 ≤ a1 ∧ a1 ≤ 2147483647 := by
    apply Classical.byContradiction
    intro hn
    rw [chunk_Cut.f, if_neg hn] at hr
    cases hr
  rw [cut_f l0 a1 ht (by omega)] at hr
  obtain rfl : chunks l0 a1 = L := by injection hr with hr; injection hr
  have hcl := chunks_length l0 a1
  have clb : (((chunks l0 a1).length : Int) == 0) = false := beq_eq_false_iff_ne.2 (by omega)
  have HLL := Aside0.mk (show l0.length ≤ 2000 by omega)
  have hLen : (chunks l0 a1).length ≤ 38 ∧ 0 < (chunks l0 a1).length := by omega
  obtain ⟨N, hN⟩ : ∃ N, N = 512 * (chunks l0 a1).length := ⟨_, rfl⟩
  obtain ⟨K, hK0, hK⟩ := place a2 N (by omega) (by omega)
  have e1 : wrap64 (512 * ((chunks l0 a1).length : Int)) = (N : Int) := by rw [E.w64' (by omega) (by omega)]; omega
  have e2 : IntKind.u64.wrap (N : Int) = (N : Int) := u64n _ (by omega)
  have f0 : ((N : Int) == 0) = false := beq_eq_false_iff_ne.2 (by omega)
  have f0b : ((N : Int) = 0) = False := eq_false (by omega)
  have hs0 : ∀ J, J < (chunks l0 a1).length → (chunks l0 a1).getD J [] = chunkOf l0 a1 J := fun J hj => chunks_get l0 a1 J (by omega)
  have f0c : (N = 0) = False := eq_false (by omega)
  obtain ⟨J, m, hJl, hm5, e3, e4⟩ := places K (chunks l0 a1).length (by omega) hLen.1
  have E3 := Aside0.mk e3
  have E4 := Aside0.mk e4
  clear e3 e4
  have f1 : ((J : Int) < ((chunks l0 a1).length : Int)) = True := eq_true (Int.ofNat_lt.2 hJl)
  have f1b : (J < (chunks l0 a1).length) = True := eq_true hJl
  have hs := hs0 J hJl
  have HS := Aside0.mk (And.intro hs (And.intro hJl (And.intro hcl ht)))
  have HM5 := Aside0.mk hm5
  clear hr hsome hcl hN hK0 hs hs0 hJl hm5 ht hLen
  go_enter Tryd.func6, Tryd.ntmps6
  go_upto_region 8 with (first | (go_at_call 8; refine (HWk.out _ HT.out).mono ?_; rintro e W1 ⟨rfl, hb1⟩; have HB1 := Aside0.mk hb1; clear hb1) | (go_at_call 9; refine (HCut.out _ (Kd.C_below HT.out HB1.out) (Kd.C_below HR.out HB1.out)).mono ?_; rintro e W2 ⟨v9, rfl, ho9, hb2⟩; obtain ⟨A9, c9, rfl⟩ := Kd.S_slice ho9))
  go_upto_region 9 with (fail)
  simp only [hK]
  clear e1 e2 hK f0 f0b f0c
  have e3 := E3.out
  obtain ⟨g9, cap9, ev9, hg9, _⟩ := Kd.S_form ho9 (by have := HS.out.2.1; omega)
  injection ev9 with ea _ ec
  subst ea ec
  obtain ⟨oki, cs, hcsl, hM, hcc, hoki, hback⟩ := Kd.S_borrow ho9 ([] : List Int) (J : Int) (Int.natCast_nonneg J) (by have := HS.out.2.1; omega)
  obtain ⟨v12, rfl, hR12⟩ := hM
  rw [Int.toNat_natCast, HS.out.1] at hR12
  obtain ⟨gc, capc, rfl, hgc, hgcl, hgcc⟩ := Kd.R_form hR12 (by rw [chunkOf_length]; omega)
  have hc9 : W2.cell? ⟨g9, J, none⟩ = some (.slice (some ⟨gc, 0, none⟩) 64 capc) := by
    have := hcc 0 _ rfl
    rw [Int.toNat_natCast, chunkOf_length, Nat.add_zero, show J * (Kd.slice 5 (Kd.int .u8)).sz = J from Nat.mul_one J, add_plain] at this
    exact this
  go_upto_region 10 with (fail)
  clear e3 f1 f1b hc9
  obtain ⟨s, hs⟩ : ∃ x, x = chunkOf l0 a1 J := ⟨_, rfl⟩
  have hsl : s.length = 64 := by rw [hs]; exact chunkOf_length _ _ _
  rw [← hs] at hR12
  have HSL := Aside0.mk (And.intro hs hsl)
  rw [hsl] at hR12
  have HR0 := Aside0.mk hR12
  have HBK := Aside0.mk (@hback)
  have HOK := Aside0.mk hoki
  have HBW := Aside0.mk (below_step HB1.out hb2)
  have HBW1 := Aside0.mk HB1.out.size
  have HS9 := Aside0.mk ho9
  have HGC := Aside0.mk (And.intro hgc hgcl)
  have hinv : Inv s m 0 s false 0#32 := ⟨rfl, by rw [hs]; exact chunk_Bytes _ _ _ HBy.out, by rw [sn_zero, BitVec.xor_zero], fun j _ => by simp, (fun hf => by cases hf), fun _ => ⟨rfl, rfl⟩⟩
  have HI0 := Aside0.mk hinv
  clear hinv hs hsl hR12 hback hoki hb2 ho9 hgc hgcl hgcc hg9 hcc hcsl
  go_wp2
  go_loopg [13, 14] 33 (fun kq v13 v14 w' => ∃ (i : Nat) (y : List Int) (x : Bool) (mask : T.W), v13 = .bool x ∧ v14 = .int .i64 (i : Int) ∧ Aside0 (i ≤ 32) ∧ Aside0 (kq + i = 33) ∧ Aside0 (Inv s m i y x mask) ∧ Aside0 (Kd.R (Kd.int .u8) 5 w' W1.heap.size oki (.slice (some ⟨gc, 0, none⟩) 64 capc) y) ∧ Aside0 (W2.grownBy w' (some gc)) ∧ Aside0 (Below w.heap.size w w'))
  case atStart => exact ⟨0, s, false, 0#32, rfl, rfl, ⟨by omega⟩, ⟨rfl⟩, HI0, HR0, ⟨World.grownBy.refl _ _⟩, HBW⟩
  case round =>
    clear HI0 HR0
    obtain ⟨i, y, x, mask, rfl, rfl, HI, HK, HV, HRy, HG, HB⟩ := hrel
    obtain ⟨q, p, r, ⟨hq, hp, hr⟩, EE⟩ := loopf K m i E4.out HM5.out HI.out
    have HQ := Aside0.mk (And.intro hq (And.intro hp hr))
    have b1 := HM5.out
    have b2 := HI.out
    by_cases c2 : i < 32 ∧ q < 512
    · have c2a : decide ((i : Int) < 32) = true := decide_eq_true (by omega)
      have c2b : decide ((q : Int) < 512) = true := decide_eq_true (by omega)
      have c2c : decide (i < 32) = true := decide_eq_true c2.1
      have c2d : decide (q < 512) = true := decide_eq_true c2.2
      have hpl : p < 64 := by omega
      have hrl : r < 8 := by omega
      have C2 := Aside0.mk c2
      have f5 : ((p : Int) < 64) = True := eq_true (by omega)
      have f6 : (p < 64) = True := eq_true hpl
      have HPR := Aside0.mk (And.intro hpl hrl)
      have hyl : y.length = 64 := by rw [HV.out.len]; exact HSL.out.2
      have hcy := (Kd.R_celln 0 HRy.out (p : Int) (by omega) (by omega)).1
      have hfy := (Kd.R_celln 0 HRy.out (p : Int) (by omega) (by omega)).2
      rw [Int.toNat_natCast] at hcy hfy
      clear hq hp hr c2 b1 b2 hpl hrl hyl
      obtain ⟨e5, e7, e8, e9, e10, e6, e11⟩ := EE.out
      by_cases hb : (bits BinOp.and IntKind.u32 (a3 / 2 ^ min i 32) 1 == 1) = true
      · go_wp2
        clear e5 e7 e8 e9 e10 e6 e11 hb
        have HST := turned_step HV.out HSL.out.2 HQ.out C2.out HRy.out
        go_roundg (gk - 1)
        case measure => have := HK.out; have := C2.out; omega
        case rel => exact ⟨i + 1, _, true, _, rfl, by rw [EE.out.2.2.2.2.2.2], ⟨by have := C2.out; omega⟩, ⟨by have := HK.out; have := C2.out; omega⟩, ⟨HST.1⟩, ⟨HST.2⟩, ⟨gset HG.out _ _⟩, ⟨HB.out.setCell (p := ⟨gc, p, none⟩) (Nat.le_trans HBW1.out HGC.out.1) _⟩⟩
      · have hb' : (bits BinOp.and IntKind.u32 (a3 / 2 ^ min i 32) 1 == 1) = false := by simpa using hb
        go_wp2
        clear e5 e7 e8 e9 e10 e6 e11 hb hb'
        go_roundg (gk - 1)
        case measure => have := HK.out; have := C2.out; omega
        case rel => exact ⟨i + 1, y, x, mask, rfl, by rw [EE.out.2.2.2.2.2.2], ⟨by have := C2.out; omega⟩, ⟨by have := HK.out; have := C2.out; omega⟩, ⟨HV.out.keep⟩, HRy, HG, HB⟩
    · obtain ⟨L', hL'⟩ : ∃ L', L' = (chunks l0 a1).set J y := ⟨_, rfl⟩
      have hll : L'.length = (chunks l0 a1).length := by rw [hL', List.length_set]
      have hS9 := HBK.out HG.out (fun k hk => by injection hk with hk; subst hk; exact HRy.out.1 _ (by simp [Value.ownBlock])) ⟨.slice (some ⟨gc, 0, none⟩) 64 capc, by rw [chunkOf_length], HRy.out⟩
      rw [Int.toNat_natCast, ← hL'] at hS9
      obtain ⟨A', c', he, hlc, hC⟩ := Kd.R_reads (Kd.S_R hS9)
      injection he with he1 he2 he3
      subst he1 he3
      have hjn : JN L' a1 (l0.length : Int) = if x = true then ([], 21) else (l0, 0) := by
        rw [hL']
        exact JN_behind l0 a1 HBy.out HS.out.2.2.2 (by have := HLL.out; omega) J HS.out.2.1 (HSL.out.1 ▸ HV.out)
      obtain ⟨kj, hj⟩ := HJOIN.out L' a1 (l0.length : Int) (by rw [hll]; have := HS.out.2.2.1; have := HLL.out; omega)
      rw [hjn] at hj
      have HJ := Aside0.mk (chunk_Join.calls kj _ _ L' a1 (l0.length : Int) (if x = true then ([], 21) else (l0, 0)).1 (if x = true then ([], 21) else (l0, 0)).2 wr (Kd.C_below HT.out HB.out) hC hlc hj)
      rw [hll] at HJ
      clear hS9 hC hlc hjn hj hL' hll he2 hq hp hr b1 b2
      have e5 := EE.out.1
      by_cases c3 : i < 32
      · have c2a : decide ((i : Int) < 32) = true := decide_eq_true (by omega)
        have c2c : decide (i < 32) = true := decide_eq_true c3
        have c2b : decide ((q : Int) < 512) = false := decide_eq_false (by omega)
        have c2d : decide (q < 512) = false := decide_eq_false (by omega)
        clear c2 c3
        cases x with
        | false =>
          simp only [Bool.false_eq_true, if_false] at HJ
          go_wp2_with (first | (go_at_call 14; refine HJ.out.mono ?_; rintro e W5 ⟨v5, rfl, ho5, hb5⟩; refine of_halt ?_))
          unfold G.Halt
          obtain ⟨A5, c5, rfl, hc5, hC5⟩ := Kd.R_reads ho5
          have HB5 := Aside0.mk (below_step HB.out hb5)
          have hcv1 := Kd.C_string (P := Tryd.prog) (src := 22) (dst := 9) Tryd.underlying22 Tryd.underlying5 Tryd.underlying9 (c := c5) hC5
          have hcv2 := Kd.C_string (P := Tryd.prog) (src := 22) (dst := 9) Tryd.underlying22 Tryd.underlying5 Tryd.underlying9 (c := cap0) (Kd.C_below HR.out HB5.out)
          clear ho5 hb5 hc5 hC5
          go_wp2
          go_ret
          exact ⟨rfl, HB5.out⟩
        | true =>
          simp only [if_true] at HJ
          go_wp2_with (first | (go_at_call 14; refine HJ.out.mono ?_; rintro e W5 ⟨v5, rfl, ho5, hb5⟩; refine of_halt ?_))
          unfold G.Halt
          obtain ⟨A5, c5, rfl, hc5, hC5⟩ := Kd.R_reads ho5
          have HB5 := Aside0.mk (below_step HB.out hb5)
          clear ho5 hb5 hc5 hC5
          go_wp2
          go_ret
          exact ⟨rfl, HB5.out⟩
      · have c2a : decide ((i : Int) < 32) = false := decide_eq_false (by omega)
        have c2c : decide (i < 32) = false := decide_eq_false c3
        clear c2 c3 e5
        cases x with
        | false =>
          simp only [Bool.false_eq_true, if_false] at HJ
          go_wp2_with (first | (go_at_call 14; refine HJ.out.mono ?_; rintro e W5 ⟨v5, rfl, ho5, hb5⟩; refine of_halt ?_))
          unfold G.Halt
          obtain ⟨A5, c5, rfl, hc5, hC5⟩ := Kd.R_reads ho5
          have HB5 := Aside0.mk (below_step HB.out hb5)
          have hcv1 := Kd.C_string (P := Tryd.prog) (src := 22) (dst := 9) Tryd.underlying22 Tryd.underlying5 Tryd.underlying9 (c := c5) hC5
          have hcv2 := Kd.C_string (P := Tryd.prog) (src := 22) (dst := 9) Tryd.underlying22 Tryd.underlying5 Tryd.underlying9 (c := cap0) (Kd.C_below HR.out HB5.out)
          clear ho5 hb5 hc5 hC5
          go_wp2
          go_ret
          exact ⟨rfl, HB5.out⟩
        | true =>
          simp only [if_true] at HJ
          go_wp2_with (first | (go_at_call 14; refine HJ.out.mono ?_; rintro e W5 ⟨v5, rfl, ho5, hb5⟩; refine of_halt ?_))
          unfold G.Halt
          obtain ⟨A5, c5, rfl, hc5, hC5⟩ := Kd.R_reads ho5
          have HB5 := Aside0.mk (below_step HB.out hb5)
          clear ho5 hb5 hc5 hC5
          go_wp2
          go_ret
          exact ⟨rfl, HB5.out⟩
end Go.Proofs.YtkocgfcoebodkaaDoor.X
