/- The state of explicit levels: embed, begin, end, pop. By hand. -/
import Derived.Test.YthokljlalgclkaaHPush
namespace Go.Proofs.Ythokljlalgclkaa.G
open Go.RowKit Go.Proofs.YthokljlalgclkaaW.PrintWords Go.Proofs.YthokljlalgclkaaW.PrintLast Go.Proofs.YthokljlalgclkaaW.PrintMore Go.Proofs.Ythokljlalgclkaa.Exp
set_option linter.unusedVariables false
set_option linter.unusedSimpArgs false

/-- What every state on the way meets. -/
structure Fits (s : S) : Prop where
  ne : s.stk ≠ []
  lo : 0 ≤ (top s).lvl
  hi : (top s).lvl ≤ 125
  len : s.stk.length ≤ 1000
  isl : s.isl ≤ 4611686018427387904
  emb : s.emb ≤ 4611686018427387904
  val : s.val ≤ 4611686018427387904
theorem cast1 (n : Nat) (h : n ≤ 4611686018427387904) : wrap64 ((n : Int) + 1) = ((n + 1 : Nat) : Int) := by unfold wrap64; omega
theorem cast2 (n : Nat) (h : n ≤ 4611686018427387904) (h0 : 0 < n) : wrap64 ((n : Int) - 1) = ((n - 1 : Nat) : Int) := by unfold wrap64; omega
set_option maxHeartbeats 16000000 in
set_option maxRecDepth 100000 in
theorem embed_calls (Z : Nat → Option Obj) (b0 g : Nat) (base : Int) (s : S) (lv ty : List Int) (sv lvv tyv : Value) (x : Int) (W : World) (hst : St Z b0 g base s lv ty sv lvv tyv W) (hf : Fits s) (hb : b0 ≤ W.heap.size) (hx : x = 15 ∨ x = 16 ∨ x = 17 ∨ x = 18) :
    Calls Try.prog 19 #[.pointer (some ⟨g, 0, none⟩), .int .i64 x] W (StPost Z b0 g base (embed s x) lv ty W (.returned (.tuple #[]))) := by
  have hp := push_calls Z b0 g base s lv ty sv lvv tyv (rgt x) (frcOf x) false W hst hf.ne hf.lo hf.hi hf.len hb
  have HF := Aside0.mk hf
  have hcase : (can s (rgt x) = true ∧ embed s x = push s (rgt x) (frcOf x) false) ∨ (can s (rgt x) = false ∧ ((s.isl : Int) == 0) = true ∧ embed s x = ⟨s.stk, s.isl, s.emb + 1, s.val⟩) ∨ (can s (rgt x) = false ∧ ((s.isl : Int) == 0) = false ∧ embed s x = s) := by
    unfold embed
    by_cases h1 : can s (rgt x) = true
    · exact .inl ⟨h1, if_pos h1⟩
    · by_cases h2 : s.isl = 0
      · exact .inr (.inl ⟨by simpa using h1, by simp [h2], by rw [if_neg h1, if_pos h2]⟩)
      · exact .inr (.inr ⟨by simpa using h1, by simp [h2], by rw [if_neg h1, if_neg h2]⟩)
  have hcc : ∀ y, y = embed s x → StPost Z b0 g base (embed s x) lv ty W = StPost Z b0 g base y lv ty W := fun y h => by rw [h]
  rcases hcase with ⟨h1, h2⟩ | ⟨h1, h3, h2⟩ | ⟨h1, h3, h2⟩
  · rw [h2]
    rw [h1, if_pos rfl] at hp
    have HP := Aside0.mk hp
    clear hp hst hf hb h2 h1 hcc
    rcases hx with rfl | rfl | rfl | rfl
    all_goals
      go_enter Try.func19, Try.ntmps19
      go_wp2_with (first | (go_at_call 30; refine HP.out.mono ?_; rintro e w5 ⟨rfl, sv5, lvv5, tyv5, hst5, hb5⟩))
      go_end0
      exact StPost.of hst5 hb5
  · rw [h2]
    rw [h1, if_neg (by simp)] at hp
    have HP := Aside0.mk hp
    clear hp hst hf hb h2 h1 hcc
    rcases hx with rfl | rfl | rfl | rfl
    all_goals
      go_enter Try.func19, Try.ntmps19
      go_wp2_with (first | (go_at_call 30; refine HP.out.mono ?_; rintro e w5 ⟨rfl, sv5, lvv5, tyv5, hst5, hb5⟩; refine of_halt ?_))
      unfold Halt
      have HST5 := Aside0.mk hst5
      have HB5 := Aside0.mk hb5
      obtain ⟨_, _, _, _, hc4, hc5, _, _, _⟩ := hst5.cells
      have hz5 := blk_frozen hst5.blk 5
      clear hst5 hb5
      go_wp2
      go_end0
      refine StPost.of (HST5.out.put (s' := ⟨s.stk, s.isl, s.emb + 1, s.val⟩) 5 _ rfl ?_) (HB5.out.setCell (p := ⟨g, 5, none⟩) HST5.out.ge _)
      rw [cast1 s.emb HF.out.emb]
      rfl
  · rw [h2]
    rw [h1, if_neg (by simp)] at hp
    have HP := Aside0.mk hp
    clear hp hst hf hb h2 h1 hcc
    rcases hx with rfl | rfl | rfl | rfl
    all_goals
      go_enter Try.func19, Try.ntmps19
      go_wp2_with (first | (go_at_call 30; refine HP.out.mono ?_; rintro e w5 ⟨rfl, sv5, lvv5, tyv5, hst5, hb5⟩; refine of_halt ?_))
      unfold Halt
      have HST5 := Aside0.mk hst5
      have HB5 := Aside0.mk hb5
      obtain ⟨_, _, _, _, hc4, hc5, _, _, _⟩ := hst5.cells
      clear hst5 hb5
      go_wp2
      go_end0
      exact StPost.of HST5.out HB5.out
set_option maxHeartbeats 16000000 in
set_option maxRecDepth 100000 in
theorem begin_calls (Z : Nat → Option Obj) (b0 g : Nat) (base : Int) (s : S) (lv ty : List Int) (sv lvv tyv : Value) (i : Nat) (r : Bool) (W : World) (hst : St Z b0 g base s lv ty sv lvv tyv W) (hf : Fits s) (hb : b0 ≤ W.heap.size) (hi : i < lv.length) (hi2 : i < ty.length) :
    Calls Try.prog 20 #[.pointer (some ⟨g, 0, none⟩), .int .i64 (i : Int), .bool r] W (StPost Z b0 g base (begin_ s r) (tkL s lv i) (tkT s ty i) W (.returned (.tuple #[]))) := by
  have HTk := Aside0.mk (take_calls Z b0 g base s lv ty sv lvv tyv i W hst hf.ne hi hi2 hb)
  have HPu := Aside0.mk (fun (sv lvv tyv : Value) (V : World) (h : St Z b0 g base s (tkL s lv i) (tkT s ty i) sv lvv tyv V) (hbV : b0 ≤ V.heap.size) => push_calls Z b0 g base s (tkL s lv i) (tkT s ty i) sv lvv tyv r 0 true V h hf.ne hf.lo hf.hi hf.len hbV)
  have HF := Aside0.mk hf
  have HB := Aside0.mk hb
  clear hst hf hb hi hi2
  by_cases h1 : can s r = true
  · have hbg : begin_ s r = ⟨(push s r 0 true).stk, s.isl, s.emb, s.val + 1⟩ := by unfold begin_; rw [if_pos h1]; rfl
    rw [h1] at HPu
    simp only [if_true] at HPu
    rw [hbg]
    clear hbg h1
    go_enter Try.func20, Try.ntmps20
    go_wp2_with (first | (go_at_call 24; refine HTk.out.mono ?_; rintro e w4 ⟨rfl, sv4, lvv4, tyv4, hst4, hb4⟩; refine of_halt ?_))
    unfold Halt
    have HB4 := Aside0.mk hb4
    have HP4 := Aside0.mk (HPu.out _ _ _ _ hst4 (Nat.le_trans HB.out hb4.size))
    clear hst4 hb4
    go_wp2_with (first | (go_at_call 30; refine HP4.out.mono ?_; rintro e w5 ⟨rfl, sv5, lvv5, tyv5, hst5, hb5⟩; refine of_halt ?_))
    unfold Halt
    have HST5 := Aside0.mk hst5
    have HB5 := Aside0.mk (HB4.out.trans hb5)
    obtain ⟨_, _, _, _, _, _, hc6, _, _⟩ := hst5.cells
    have hz6 := blk_frozen hst5.blk 6
    clear hst5 hb5
    go_wp2
    go_end0
    refine StPost.of (HST5.out.put (s' := ⟨(push s r 0 true).stk, s.isl, s.emb, s.val + 1⟩) 6 _ rfl ?_) (HB5.out.setCell (p := ⟨g, 6, none⟩) HST5.out.ge _)
    rw [show wrap64 (((push s r 0 true).val : Int) + 1) = ((s.val + 1 : Nat) : Int) from cast1 s.val HF.out.val]
    rfl
  · have hbg : begin_ s r = ⟨s.stk, s.isl + 1, s.emb, s.val⟩ := by unfold begin_; rw [if_neg h1]
    have h1f : can s r = false := by simpa using h1
    rw [h1f] at HPu
    simp only [Bool.false_eq_true, if_false] at HPu
    rw [hbg]
    clear hbg h1 h1f
    go_enter Try.func20, Try.ntmps20
    go_wp2_with (first | (go_at_call 24; refine HTk.out.mono ?_; rintro e w4 ⟨rfl, sv4, lvv4, tyv4, hst4, hb4⟩; refine of_halt ?_))
    unfold Halt
    have HB4 := Aside0.mk hb4
    have HP4 := Aside0.mk (HPu.out _ _ _ _ hst4 (Nat.le_trans HB.out hb4.size))
    clear hst4 hb4
    go_wp2_with (first | (go_at_call 30; refine HP4.out.mono ?_; rintro e w5 ⟨rfl, sv5, lvv5, tyv5, hst5, hb5⟩; refine of_halt ?_))
    unfold Halt
    have HST5 := Aside0.mk hst5
    have HB5 := Aside0.mk (HB4.out.trans hb5)
    obtain ⟨_, _, _, _, hc4, _, _, _, _⟩ := hst5.cells
    have hz4 := blk_frozen hst5.blk 4
    clear hst5 hb5
    go_wp2
    go_end0
    refine StPost.of (HST5.out.put (s' := ⟨s.stk, s.isl + 1, s.emb, s.val⟩) 4 _ rfl ?_) (HB5.out.setCell (p := ⟨g, 4, none⟩) HST5.out.ge _)
    rw [cast1 s.isl HF.out.isl]
    rfl
/-- The stack without its last entry. -/
theorem St.cut {Z : Nat → Option Obj} {b0 g : Nat} {base : Int} {s s' : S} {lv ty : List Int} {A : Option Addr} {n c : Nat} {lvv tyv : Value} {W : World} (h : St Z b0 g base s lv ty (.slice A n c) lvv tyv W) (m : Nat) (hm : n = m + 1) (hs : s' = ⟨s.stk.tail, s.isl, s.emb, s.val⟩) : St Z b0 g base s' lv ty (.slice A m c) lvv tyv (W.setCell ⟨g, 0, none⟩ (.slice A m c)) := by
  have hl := (Kd.R_reads' h.stk).1
  rw [List.length_map, List.length_reverse] at hl
  subst hs
  refine ⟨blk_put h.blk 0 _ rfl, h.ge, h.zg, fun k o e => far_any (h.zk k o e) (h.zne e) _, Kd.R_set ?_ h.blk (by decide) 0 _, Kd.R_set h.lvs h.blk (by decide) 0 _, Kd.R_set h.tys h.blk (by decide) 0 _⟩
  have := Kd.R_take (m := m) h.stk (by rw [List.length_map, List.length_reverse]; omega)
  rwa [show (s.stk.reverse.map enc).take m = s.stk.tail.reverse.map enc from ?_] at this
  cases hs : s.stk with
  | nil => rw [hs] at hl; simp at hl; omega
  | cons e t =>
    rw [hs] at hl
    simp only [List.length_cons] at hl
    rw [List.reverse_cons, List.map_append, List.take_append_of_le_length (by rw [List.length_map, List.length_reverse]; omega), List.take_of_length_le (by rw [List.length_map, List.length_reverse]; omega)]
    rfl
set_option maxHeartbeats 16000000 in
set_option maxRecDepth 100000 in
/-- 's.stack = s.stack[:len(s.stack)-1]', in each of its places: what a walk behind it needs. -/
theorem cut_facts {Z : Nat → Option Obj} {b0 g : Nat} {base : Int} {s : S} {lv ty : List Int} {sv lvv tyv : Value} {W : World} (h : St Z b0 g base s lv ty sv lvv tyv W) (hf : 1 < s.stk.length) :
    ∃ A N m c, sv = .slice A N c ∧ N = m + 1 ∧ N = s.stk.length ∧ N ≤ c ∧ N ≤ 9223372036854775807 ∧ wrap64 ((N : Int) - 1) = (m : Int) := by
  obtain ⟨A, c, hsv, hc, hC⟩ := Kd.R_reads h.stk
  rw [List.length_map, List.length_reverse] at hsv hc
  have hm := Kd.C_max hC
  rw [List.length_map, List.length_reverse] at hm
  refine ⟨A, s.stk.length, s.stk.length - 1, c, hsv, by omega, rfl, hc, hm, by unfold wrap64; omega⟩
set_option maxHeartbeats 16000000 in
set_option maxRecDepth 100000 in
theorem end_calls (Z : Nat → Option Obj) (b0 g : Nat) (base : Int) (s : S) (lv ty : List Int) (sv lvv tyv : Value) (i : Nat) (W : World) (hst : St Z b0 g base s lv ty sv lvv tyv W) (hf : Fits s) (hI : Inv base s) (hb : b0 ≤ W.heap.size) (hi : i < lv.length) (hi2 : i < ty.length) :
    Calls Try.prog 22 #[.pointer (some ⟨g, 0, none⟩), .int .i64 (i : Int)] W (StPost Z b0 g base (fin s) (tkL (fin s) lv i) (tkT (fin s) ty i) W (.returned (.tuple #[]))) := by
  have HF := Aside0.mk hf
  have HB := Aside0.mk hb
  have HST := Aside0.mk hst
  have HTk := Aside0.mk (fun (s' : S) (sv lvv tyv : Value) (V : World) (h : St Z b0 g base s' lv ty sv lvv tyv V) (hne : s'.stk ≠ []) (hbV : b0 ≤ V.heap.size) => take_calls Z b0 g base s' lv ty sv lvv tyv i V h hne hi hi2 hbV)
  by_cases h1 : 0 < s.isl
  · have hfin : fin s = ⟨s.stk, s.isl - 1, s.emb, s.val⟩ := by unfold fin; rw [if_pos h1]
    rw [hfin]
    have b1 : decide ((0 : Int) < (s.isl : Int)) = true := decide_eq_true (by omega)
    have b1b : decide (0 < s.isl) = true := decide_eq_true h1
    obtain ⟨_, _, _, _, hc4, _, _, _, _⟩ := hst.cells
    have hz4 := blk_frozen hst.blk 4
    have e1 := cast2 s.isl hf.isl h1
    have HS2 := Aside0.mk (hst.put (s' := ⟨s.stk, s.isl - 1, s.emb, s.val⟩) 4 (.int .i64 (wrap64 ((s.isl : Int) - 1))) rfl (by rw [e1]; rfl))
    have HE1 := Aside0.mk e1
    have hge := hst.ge
    have HSZ := Aside0.mk (show b0 ≤ (W.setCell ⟨g, 4, none⟩ (.int .i64 (wrap64 ((s.isl : Int) - 1)))).heap.size by simpa [World.setCell] using hb)
    have HBB := Aside0.mk ((Below.refl b0 W).setCell (p := ⟨g, 4, none⟩) hge (.int .i64 (wrap64 ((s.isl : Int) - 1))))
    clear hst hf hI hb hi hi2 h1 hfin e1 hge
    go_enter Try.func22, Try.ntmps22
    go_upto_region 8 with (fail)
    generalize W.setCell ⟨g, 4, none⟩ (.int .i64 (wrap64 ((s.isl : Int) - 1))) = W2 at *
    have HT2 := Aside0.mk (HTk.out _ _ _ _ W2 HS2.out HF.out.ne HSZ.out)
    go_wp2_with (first | (go_at_call 24; refine HT2.out.mono ?_; rintro e w4 ⟨rfl, sv4, lvv4, tyv4, hst4, hb4⟩))
    go_end0
    exact StPost.of hst4 (HBB.out.trans hb4)
  · have b1 : decide ((0 : Int) < (s.isl : Int)) = false := decide_eq_false (by omega)
    have b1b : decide (0 < s.isl) = false := decide_eq_false h1
    by_cases h2 : 0 < s.val
    · have hfin : fin s = ⟨unto s.stk, s.isl, 0, s.val - 1⟩ := by unfold fin; rw [if_neg h1, if_pos h2]
      rw [hfin]
      have b2 : decide ((0 : Int) < (s.val : Int)) = true := decide_eq_true (by omega)
      have b2b : decide (0 < s.val) = true := decide_eq_true h2
      obtain ⟨_, _, _, _, hc4, hc5, hc6, _, _⟩ := hst.cells
      have hz5 := blk_frozen hst.blk 5
      have HS2 := Aside0.mk (hst.put (s' := ⟨s.stk, s.isl, 0, s.val⟩) 5 (.int .i64 0) rfl rfl)
      have HGE := Aside0.mk hst.ge
      have HSZ := Aside0.mk (show b0 ≤ (W.setCell ⟨g, 5, none⟩ (.int .i64 0)).heap.size by simpa [World.setCell] using hb)
      have HBB := Aside0.mk ((Below.refl b0 W).setCell (p := ⟨g, 5, none⟩) hst.ge (.int .i64 0))
      have HGd := Aside0.mk hI.good
      have HCn := Aside0.mk (show 0 < cnt s.stk by rw [← hI.val]; exact h2)
      have HV := Aside0.mk (cast2 s.val hf.val h2)
      clear hst hf hI hb hi hi2 h1 hfin h2
      go_enter Try.func22, Try.ntmps22
      go_upto_block 0 with (fail)
      generalize W.setCell ⟨g, 5, none⟩ (.int .i64 0) = W2 at *
      clear hc4 hc5 hc6 hz5
      go_wp2
      go_loopg [] (s.stk.length + 1) (fun kq w' => ∃ (l : List E) (sv' lvv' tyv' : Value), Aside0 (St Z b0 g base ⟨l, s.isl, 0, s.val⟩ lv ty sv' lvv' tyv' w') ∧ Aside0 (Exp.Good base l ∧ 0 < cnt l ∧ unto l = unto s.stk) ∧ Aside0 (kq = l.length + 1) ∧ Aside0 (Below b0 W w' ∧ b0 ≤ w'.heap.size))
      case atStart => exact ⟨s.stk, _, _, _, HS2, ⟨HGd.out, HCn.out, rfl⟩, ⟨rfl⟩, ⟨HBB.out, HSZ.out⟩⟩
      case round =>
        clear HS2 HGd HCn HBB HSZ
        obtain ⟨l, sv', lvv', tyv', HS, HL, HK, HBW⟩ := hrel
        cases l with
        | nil => exact absurd HL.out.1 (fun h => h.elim)
        | cons x t =>
          have hlen : 1 < (x :: t).length := by
            cases t with
            | nil =>
              rcases HL.out.1 with ⟨rfl, _⟩ | ⟨_, _, _, _, h⟩
              · have := HL.out.2.1; simp [cnt] at this
              · exact h.elim
            | cons y t => simp
          obtain ⟨A, N, m, c, rfl, hN, hNl, hNc, hNm, eN⟩ := cut_facts HS.out hlen
          have hl1 := last_calls Z b0 g base ⟨x :: t, s.isl, 0, s.val⟩ lv ty _ _ _ wr HS.out (by simp)
          rw [show top ⟨x :: t, s.isl, 0, s.val⟩ = x from rfl] at hl1
          obtain ⟨xi, hxi⟩ : ∃ b, x.iso = b := ⟨_, rfl⟩
          rw [hxi] at hl1
          have HLa := Aside0.mk hl1
          have hf2 := fld2 x.lvl x.frc xi
          have p1 : ((m : Int) ≤ (c : Int)) = True := eq_true (by omega)
          have p2 : (m ≤ c) = True := eq_true (by omega)
          have HN := Aside0.mk hN
          have HXI := Aside0.mk hxi
          have hm0 : (0 : Int) ≤ (m : Int) := by omega
          clear hl1 hxi hlen hN hNl hNc hNm
          go_wp2_with (first | (go_at_call 32; refine HLa.out.mono ?_; rintro e w5 ⟨rfl, hb5⟩; refine of_halt ?_))
          unfold Halt
          have HS5 := Aside0.mk (HS.out.below hb5)
          have HB5 := Aside0.mk (And.intro (HBW.out.1.trans (hb5.mono HBW.out.2)) (Nat.le_trans HBW.out.2 hb5.size))
          have HC0 := Aside0.mk HS5.out.cells.1
          have hz0 := blk_frozen HS5.out.blk 0
          clear hb5
          cases xi with
          | false =>
            go_upto_region 5 with (fail)
            refine start_ (n := 15) (S := fun w' => w'.cell? ⟨g, 0, none⟩ = some (.slice A N c)) (ds := [14]) #[false, false, false, false, false, false, false, false, false, false, false, false, false, false, false] (by kernel_rfl) rfl rfl ((by exact HC0.out)) (fun hHeld => ?_)
            refine pure_ (i := 0) (N := some 28) (v := ?_) (a' := ?_) #[true, false, false, false, false, false, false, false, false, false, false, false, false, false, false] rfl rfl (by kernel_rfl) (fun _ _ _ h => h) (Or.inl ⟨by rfl, ?_⟩) ?_ ?_
            rotate_left
            · intro w'
              go_simp
              with_reducible rfl
            rotate_left
            · simp only [Act.put, List.setIfInBounds_toArray, List.set_cons_zero, List.set_cons_succ, i64_w, i32_w]
              rfl
            refine pure_ (i := 1) (N := some 29) (v := ?_) (a' := ?_) #[true, true, false, false, false, false, false, false, false, false, false, false, false, false, false] rfl rfl (by kernel_rfl) (fun _ _ _ h => h) (Or.inl ⟨by rfl, ?_⟩) ?_ ?_
            rotate_left
            · intro w'
              go_simp
              with_reducible rfl
            rotate_left
            · simp only [Act.put, List.setIfInBounds_toArray, List.set_cons_zero, List.set_cons_succ, i64_w, i32_w]
              rfl
            refine pure_ (i := 2) (N := some 30) (v := ?_) (a' := ?_) #[true, true, true, false, false, false, false, false, false, false, false, false, false, false, false] rfl rfl (by kernel_rfl) (fun _ _ _ h => h) (Or.inl ⟨by rfl, ?_⟩) ?_ ?_
            rotate_left
            · intro w'
              go_simp
              with_reducible rfl
            rotate_left
            · simp only [Act.put, List.setIfInBounds_toArray, List.set_cons_zero, List.set_cons_succ, i64_w, i32_w]
              rfl
            refine pure_ (i := 3) (N := some 31) (v := ?_) (a' := ?_) #[true, true, true, true, false, false, false, false, false, false, false, false, false, false, false] rfl rfl (by kernel_rfl) (fun _ _ _ h => h) (Or.inl ⟨by rfl, ?_⟩) ?_ ?_
            rotate_left
            · intro w'
              go_simp
              with_reducible rfl
            rotate_left
            · simp only [Act.put, List.setIfInBounds_toArray, List.set_cons_zero, List.set_cons_succ, i64_w, i32_w]
              rfl
            refine pure_ (i := 5) (N := some 33) (v := ?_) (a' := ?_) #[true, true, true, true, false, true, false, false, false, false, false, false, false, false, false] rfl rfl (by kernel_rfl) (fun _ _ _ h => h) (Or.inl ⟨by rfl, ?_⟩) ?_ ?_
            rotate_left
            · intro w'
              go_simp
              with_reducible rfl
            rotate_left
            · simp only [Act.put, List.setIfInBounds_toArray, List.set_cons_zero, List.set_cons_succ, i64_w, i32_w]
              rfl
            refine pure_ (i := 6) (N := some 34) (v := ?_) (a' := ?_) #[true, true, true, true, false, true, true, false, false, false, false, false, false, false, false] rfl rfl (by kernel_rfl) (fun _ _ _ h => h) (Or.inl ⟨by rfl, ?_⟩) ?_ ?_
            rotate_left
            · intro w'
              go_simp
              with_reducible rfl
            rotate_left
            · simp only [Act.put, List.setIfInBounds_toArray, List.set_cons_zero, List.set_cons_succ, i64_w, i32_w]
              rfl
            refine pure_ (i := 7) (N := some 35) (v := ?_) (a' := ?_) #[true, true, true, true, false, true, true, true, false, false, false, false, false, false, false] rfl rfl (by kernel_rfl) (fun _ _ _ h => h) (Or.inl ⟨by rfl, ?_⟩) ?_ ?_
            rotate_left
            · intro w'
              go_simp
              with_reducible rfl
            rotate_left
            · simp only [Act.put, List.setIfInBounds_toArray, List.set_cons_zero, List.set_cons_succ, i64_w, i32_w]
              rfl
            refine take_ (i := 4) (N := some 32) (v := ?_) (a' := ?_) #[true, true, true, true, true, true, true, true, false, false, false, false, false, false, false] rfl rfl (by kernel_rfl) (fun _ _ _ h => h) (Or.inl ⟨by rfl, ?_⟩) hHeld ?_ ?_
            rotate_left
            · intro w' s0
              go_simp
              with_reducible rfl
            rotate_left
            · simp only [Act.put, List.setIfInBounds_toArray, List.set_cons_zero, List.set_cons_succ, i64_w, i32_w]
              rfl
            refine take_ (i := 8) (N := some 36) (v := ?_) (a' := ?_) #[true, true, true, true, true, true, true, true, true, false, false, false, false, false, false] rfl rfl (by kernel_rfl) (fun _ _ _ h => h) (Or.inl ⟨by rfl, ?_⟩) hHeld ?_ ?_
            rotate_left
            · intro w' s0
              go_simp
              with_reducible rfl
            rotate_left
            · simp only [Act.put, List.setIfInBounds_toArray, List.set_cons_zero, List.set_cons_succ, i64_w, i32_w]
              rfl
            refine pure_ (i := 9) (N := some 37) (v := ?_) (a' := ?_) #[true, true, true, true, true, true, true, true, true, true, false, false, false, false, false] rfl rfl (by kernel_rfl) (fun _ _ _ h => h) (Or.inl ⟨by rfl, ?_⟩) ?_ ?_
            rotate_left
            · intro w'
              go_simp
              with_reducible rfl
            rotate_left
            · simp only [Act.put, List.setIfInBounds_toArray, List.set_cons_zero, List.set_cons_succ, i64_w, i32_w]
              rfl
            refine pure_ (i := 10) (N := some 38) (v := ?_) (a' := ?_) #[true, true, true, true, true, true, true, true, true, true, true, false, false, false, false] rfl rfl (by kernel_rfl) (fun _ _ _ h => h) (Or.inl ⟨by rfl, ?_⟩) ?_ ?_
            rotate_left
            · intro w'
              go_simp
              with_reducible rfl
            rotate_left
            · simp only [Act.put, List.setIfInBounds_toArray, List.set_cons_zero, List.set_cons_succ, i64_w, i32_w]
              rfl
            refine pure_ (i := 11) (N := some 39) (v := ?_) (a' := ?_) #[true, true, true, true, true, true, true, true, true, true, true, true, false, false, false] rfl rfl (by kernel_rfl) (fun _ _ _ h => h) (Or.inl ⟨by rfl, ?_⟩) ?_ ?_
            rotate_left
            · intro w'
              go_simp
              with_reducible rfl
            rotate_left
            · simp only [Act.put, List.setIfInBounds_toArray, List.set_cons_zero, List.set_cons_succ, i64_w, i32_w]
              rfl
            refine pure_ (i := 12) (N := some 40) (v := ?_) (a' := ?_) #[true, true, true, true, true, true, true, true, true, true, true, true, true, false, false] rfl rfl (by kernel_rfl) (fun _ _ _ h => h) (Or.inl ⟨by rfl, ?_⟩) ?_ ?_
            rotate_left
            · intro w'
              go_simp
              with_reducible rfl
            rotate_left
            · simp only [Act.put, List.setIfInBounds_toArray, List.set_cons_zero, List.set_cons_succ, i64_w, i32_w]
              rfl
            refine pure_ (i := 13) (N := some 41) (v := ?_) (a' := ?_) #[true, true, true, true, true, true, true, true, true, true, true, true, true, true, false] rfl rfl (by kernel_rfl) (fun _ _ _ h => h) (Or.inl ⟨by rfl, ?_⟩) ?_ ?_
            rotate_left
            · intro w'
              go_simp
              with_reducible rfl
            rotate_left
            · simp only [Act.put, List.setIfInBounds_toArray, List.set_cons_zero, List.set_cons_succ, i64_w, i32_w]
              rfl
            refine last_ (i := 14) (N := none) #[true, true, true, true, true, true, true, true, true, true, true, true, true, true, true] rfl rfl (by kernel_rfl) (by decide) (fun K hK => ?_)
            refine skip_ (w1 := ?_) (by rfl) rfl ?_ ?_
            rotate_left
            · go_simp
              rfl
            refine hK.out _ _ ?_
            clear hK K
            refine done_ (by kernel_rfl) ?_
            have HS6 := Aside0.mk (St.drew (St.cut (s' := ⟨t, s.isl, 0, s.val⟩) HS5.out m HN.out rfl))
            have HB6 := Aside0.mk (Below.drew (HB5.out.1.setCell (p := ⟨g, 0, none⟩) HGE.out (.slice A m c)))
            have HL6 := Aside0.mk (show Exp.Good base t ∧ 0 < cnt t ∧ unto t = unto s.stk by
              have h3 := HL.out.2.1
              have h4 := HL.out.2.2
              rw [← h4]
              refine ⟨?_, by simpa [cnt, HXI.out] using h3, by simp [unto, HXI.out]⟩
              rcases HL.out.1 with ⟨rfl, rfl⟩ | ⟨_, _, _, _, h⟩
              · simp [cnt] at h3
              · exact h)
            clear hz0
            go_wp2
            go_roundg (gk - 1)
            case measure => have := HK.out; simp at this ⊢; omega
            case rel => exact ⟨t, _, _, _, HS6, HL6, ⟨by have := HK.out; simp at this ⊢; omega⟩, ⟨HB6.out, by have := HB5.out.2; simpa [World.setCell] using this⟩⟩
          | true =>
            go_upto_region 6 with (fail)
            refine start_ (n := 15) (S := fun w' => w'.cell? ⟨g, 0, none⟩ = some (.slice A N c)) (ds := [14]) #[false, false, false, false, false, false, false, false, false, false, false, false, false, false, false] (by kernel_rfl) rfl rfl ((by exact HC0.out)) (fun hHeld => ?_)
            refine pure_ (i := 0) (N := some 42) (v := ?_) (a' := ?_) #[true, false, false, false, false, false, false, false, false, false, false, false, false, false, false] rfl rfl (by kernel_rfl) (fun _ _ _ h => h) (Or.inl ⟨by rfl, ?_⟩) ?_ ?_
            rotate_left
            · intro w'
              go_simp
              with_reducible rfl
            rotate_left
            · simp only [Act.put, List.setIfInBounds_toArray, List.set_cons_zero, List.set_cons_succ, i64_w, i32_w]
              rfl
            refine pure_ (i := 1) (N := some 43) (v := ?_) (a' := ?_) #[true, true, false, false, false, false, false, false, false, false, false, false, false, false, false] rfl rfl (by kernel_rfl) (fun _ _ _ h => h) (Or.inl ⟨by rfl, ?_⟩) ?_ ?_
            rotate_left
            · intro w'
              go_simp
              with_reducible rfl
            rotate_left
            · simp only [Act.put, List.setIfInBounds_toArray, List.set_cons_zero, List.set_cons_succ, i64_w, i32_w]
              rfl
            refine pure_ (i := 2) (N := some 44) (v := ?_) (a' := ?_) #[true, true, true, false, false, false, false, false, false, false, false, false, false, false, false] rfl rfl (by kernel_rfl) (fun _ _ _ h => h) (Or.inl ⟨by rfl, ?_⟩) ?_ ?_
            rotate_left
            · intro w'
              go_simp
              with_reducible rfl
            rotate_left
            · simp only [Act.put, List.setIfInBounds_toArray, List.set_cons_zero, List.set_cons_succ, i64_w, i32_w]
              rfl
            refine pure_ (i := 3) (N := some 45) (v := ?_) (a' := ?_) #[true, true, true, true, false, false, false, false, false, false, false, false, false, false, false] rfl rfl (by kernel_rfl) (fun _ _ _ h => h) (Or.inl ⟨by rfl, ?_⟩) ?_ ?_
            rotate_left
            · intro w'
              go_simp
              with_reducible rfl
            rotate_left
            · simp only [Act.put, List.setIfInBounds_toArray, List.set_cons_zero, List.set_cons_succ, i64_w, i32_w]
              rfl
            refine pure_ (i := 5) (N := some 47) (v := ?_) (a' := ?_) #[true, true, true, true, false, true, false, false, false, false, false, false, false, false, false] rfl rfl (by kernel_rfl) (fun _ _ _ h => h) (Or.inl ⟨by rfl, ?_⟩) ?_ ?_
            rotate_left
            · intro w'
              go_simp
              with_reducible rfl
            rotate_left
            · simp only [Act.put, List.setIfInBounds_toArray, List.set_cons_zero, List.set_cons_succ, i64_w, i32_w]
              rfl
            refine pure_ (i := 6) (N := some 48) (v := ?_) (a' := ?_) #[true, true, true, true, false, true, true, false, false, false, false, false, false, false, false] rfl rfl (by kernel_rfl) (fun _ _ _ h => h) (Or.inl ⟨by rfl, ?_⟩) ?_ ?_
            rotate_left
            · intro w'
              go_simp
              with_reducible rfl
            rotate_left
            · simp only [Act.put, List.setIfInBounds_toArray, List.set_cons_zero, List.set_cons_succ, i64_w, i32_w]
              rfl
            refine pure_ (i := 7) (N := some 49) (v := ?_) (a' := ?_) #[true, true, true, true, false, true, true, true, false, false, false, false, false, false, false] rfl rfl (by kernel_rfl) (fun _ _ _ h => h) (Or.inl ⟨by rfl, ?_⟩) ?_ ?_
            rotate_left
            · intro w'
              go_simp
              with_reducible rfl
            rotate_left
            · simp only [Act.put, List.setIfInBounds_toArray, List.set_cons_zero, List.set_cons_succ, i64_w, i32_w]
              rfl
            refine take_ (i := 4) (N := some 46) (v := ?_) (a' := ?_) #[true, true, true, true, true, true, true, true, false, false, false, false, false, false, false] rfl rfl (by kernel_rfl) (fun _ _ _ h => h) (Or.inl ⟨by rfl, ?_⟩) hHeld ?_ ?_
            rotate_left
            · intro w' s0
              go_simp
              with_reducible rfl
            rotate_left
            · simp only [Act.put, List.setIfInBounds_toArray, List.set_cons_zero, List.set_cons_succ, i64_w, i32_w]
              rfl
            refine take_ (i := 8) (N := some 50) (v := ?_) (a' := ?_) #[true, true, true, true, true, true, true, true, true, false, false, false, false, false, false] rfl rfl (by kernel_rfl) (fun _ _ _ h => h) (Or.inl ⟨by rfl, ?_⟩) hHeld ?_ ?_
            rotate_left
            · intro w' s0
              go_simp
              with_reducible rfl
            rotate_left
            · simp only [Act.put, List.setIfInBounds_toArray, List.set_cons_zero, List.set_cons_succ, i64_w, i32_w]
              rfl
            refine pure_ (i := 9) (N := some 51) (v := ?_) (a' := ?_) #[true, true, true, true, true, true, true, true, true, true, false, false, false, false, false] rfl rfl (by kernel_rfl) (fun _ _ _ h => h) (Or.inl ⟨by rfl, ?_⟩) ?_ ?_
            rotate_left
            · intro w'
              go_simp
              with_reducible rfl
            rotate_left
            · simp only [Act.put, List.setIfInBounds_toArray, List.set_cons_zero, List.set_cons_succ, i64_w, i32_w]
              rfl
            refine pure_ (i := 10) (N := some 52) (v := ?_) (a' := ?_) #[true, true, true, true, true, true, true, true, true, true, true, false, false, false, false] rfl rfl (by kernel_rfl) (fun _ _ _ h => h) (Or.inl ⟨by rfl, ?_⟩) ?_ ?_
            rotate_left
            · intro w'
              go_simp
              with_reducible rfl
            rotate_left
            · simp only [Act.put, List.setIfInBounds_toArray, List.set_cons_zero, List.set_cons_succ, i64_w, i32_w]
              rfl
            refine pure_ (i := 11) (N := some 53) (v := ?_) (a' := ?_) #[true, true, true, true, true, true, true, true, true, true, true, true, false, false, false] rfl rfl (by kernel_rfl) (fun _ _ _ h => h) (Or.inl ⟨by rfl, ?_⟩) ?_ ?_
            rotate_left
            · intro w'
              go_simp
              with_reducible rfl
            rotate_left
            · simp only [Act.put, List.setIfInBounds_toArray, List.set_cons_zero, List.set_cons_succ, i64_w, i32_w]
              rfl
            refine pure_ (i := 12) (N := some 54) (v := ?_) (a' := ?_) #[true, true, true, true, true, true, true, true, true, true, true, true, true, false, false] rfl rfl (by kernel_rfl) (fun _ _ _ h => h) (Or.inl ⟨by rfl, ?_⟩) ?_ ?_
            rotate_left
            · intro w'
              go_simp
              with_reducible rfl
            rotate_left
            · simp only [Act.put, List.setIfInBounds_toArray, List.set_cons_zero, List.set_cons_succ, i64_w, i32_w]
              rfl
            refine pure_ (i := 13) (N := some 55) (v := ?_) (a' := ?_) #[true, true, true, true, true, true, true, true, true, true, true, true, true, true, false] rfl rfl (by kernel_rfl) (fun _ _ _ h => h) (Or.inl ⟨by rfl, ?_⟩) ?_ ?_
            rotate_left
            · intro w'
              go_simp
              with_reducible rfl
            rotate_left
            · simp only [Act.put, List.setIfInBounds_toArray, List.set_cons_zero, List.set_cons_succ, i64_w, i32_w]
              rfl
            refine last_ (i := 14) (N := none) #[true, true, true, true, true, true, true, true, true, true, true, true, true, true, true] rfl rfl (by kernel_rfl) (by decide) (fun K hK => ?_)
            refine skip_ (w1 := ?_) (by rfl) rfl ?_ ?_
            rotate_left
            · go_simp
              rfl
            refine hK.out _ _ ?_
            clear hK K
            refine done_ (by kernel_rfl) ?_
            have hut : t = unto s.stk := by rw [← HL.out.2.2]; simp [unto, HXI.out]
            have hs6 := St.drew (St.cut (s' := ⟨t, s.isl, 0, s.val⟩) HS5.out m HN.out rfl)
            rw [hut] at hs6
            have HS6 := Aside0.mk hs6
            have HB6 := Aside0.mk (And.intro (Below.drew (HB5.out.1.setCell (p := ⟨g, 0, none⟩) HGE.out (.slice A m c))) (show b0 ≤ (w5.setCell ⟨g, 0, none⟩ (.slice A m c)).drew.heap.size by have := HB5.out.2; simpa [World.setCell] using this))
            have HNE := Aside0.mk (show unto s.stk ≠ [] by
              rw [← HL.out.2.2]
              exact (HL.out.1.unto HL.out.2.1).1.ne)
            clear hz0 hs6 hut HS5 HB5 HC0 p1 p2 hm0 eN hf2 HLa HS HBW
            generalize (w5.setCell ⟨g, 0, none⟩ (.slice A m c)).drew = W6 at *
            obtain ⟨_, _, _, _, _, _, hd6, _, _⟩ := HS6.out.cells
            have hz6 := blk_frozen HS6.out.blk 6
            go_upto_region 8 with (fail)
            have hev : (.int .i64 (wrap64 ((s.val : Int) - 1)) : Value) = .int .i64 ((s.val - 1 : Nat) : Int) := by rw [HV.out]
            have HS7 := Aside0.mk (HS6.out.put (s' := ⟨unto s.stk, s.isl, 0, s.val - 1⟩) 6 (.int .i64 (wrap64 ((s.val : Int) - 1))) rfl (by rw [hev]; rfl))
            have HB7 := Aside0.mk (And.intro (HB6.out.1.setCell (p := ⟨g, 6, none⟩) HGE.out (.int .i64 (wrap64 ((s.val : Int) - 1)))) (show b0 ≤ (W6.setCell ⟨g, 6, none⟩ (.int .i64 (wrap64 ((s.val : Int) - 1)))).heap.size by have := HB6.out.2; simpa [World.setCell] using this))
            clear hz6 hd6 HS6 HB6 hev
            generalize W6.setCell ⟨g, 6, none⟩ (.int .i64 (wrap64 ((s.val : Int) - 1))) = W7 at *
            have HT2 := Aside0.mk (HTk.out _ _ _ _ W7 HS7.out HNE.out HB7.out.2)
            go_wp2_with (first | (go_at_call 24; refine HT2.out.mono ?_; rintro e w4 ⟨rfl, sv4, lvv4, tyv4, hst4, hb4⟩))
            go_end0
            exact StPost.of hst4 (HB7.out.1.trans hb4)
    · have hfin : fin s = s := by unfold fin; rw [if_neg h1, if_neg h2]
      rw [hfin]
      have b2 : decide ((0 : Int) < (s.val : Int)) = false := decide_eq_false (by omega)
      have b2b : decide (0 < s.val) = false := decide_eq_false h2
      obtain ⟨_, _, _, _, hc4, _, hc6, _, _⟩ := hst.cells
      have HT2 := Aside0.mk (HTk.out _ _ _ _ W HST.out HF.out.ne HB.out)
      clear hst hf hI hb hi hi2 h1 hfin h2
      go_enter Try.func22, Try.ntmps22
      go_wp2_with (first | (go_at_call 24; refine HT2.out.mono ?_; rintro e w4 ⟨rfl, sv4, lvv4, tyv4, hst4, hb4⟩))
      go_end0
      exact StPost.of hst4 hb4
end Go.Proofs.Ythokljlalgclkaa.G
