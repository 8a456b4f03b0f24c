/- The law CacheKeeps, walked by hand: under way. -/
import Derived.Test.YtogapedacdnfcaaDoorCacheM
namespace Go.Proofs.YtogapedacdnfcaaDoor.G
open Go.RowKit Go.Shelf Go.Proofs.YtogapedacdnfcaaDoorW.PrintWords Go.Proofs.YtogapedacdnfcaaDoorW.PrintLast Go.Proofs.YtogapedacdnfcaaDoorW.PrintMore Go.Proofs.YtogapedacdnfcaaDoor.Dsk
set_option linter.unusedVariables false
set_option linter.unusedSimpArgs false
/-- What the law asks of what it calls. -/
structure KHyp (w : World) (U : Ent → Prop) (ES : Ent → List Int × Int) (rd_ : List Int → Ent × Int) (P : List Int → Prop) : Prop where
  works : ∀ V, Below w.heap.size w V → Calls Tryd.prog 9 #[] V fun e w' => e = .returned (.bool true) ∧ Below V.heap.size V w'
  bytes : ∀ V, Below w.heap.size w V → ∀ (x : Ent) A c, Kd.C (Kd.int .i64) V A x.2.2.2.length x.2.2.2 → x.2.2.2.length ≤ c → Calls Tryd.prog 10 #[entVal x A c] V fun e w' => ∃ v0_ : Value, e = .returned (.tuple #[v0_, .int .i64 (ES x).2]) ∧ Kd.R (Kd.int .u8) 5 w' V.heap.size (fun _ => True) v0_ (ES x).1 ∧ Below V.heap.size V w'
  read : RdOk rd_ w P
  zero : P (zeros 64) ∧ (rd_ (zeros 64)).2 ≠ 0
  good : ∀ x, U x → (ES x).2 = 0 → P (ES x).1 ∧ (ES x).1.length = 64 ∧ rd_ (ES x).1 = (x, 0) ∧ (0 ≤ x.1 ∧ x.1 < 18446744073709551616) ∧ (-1 ≤ x.2.1 ∧ x.2.1 ≤ 1) ∧ x.2.2.2.length ≤ 49
  bad : ∀ x, (ES x).2 ≠ 0 → (ES x).2 = 50
  same : ∀ V, Below w.heap.size w V → ∀ (x : Ent) A c A' c', x.2.2.2.length ≤ 49 → Kd.C (Kd.int .i64) V A x.2.2.2.length x.2.2.2 → x.2.2.2.length ≤ c → Kd.C (Kd.int .i64) V A' x.2.2.2.length x.2.2.2 → x.2.2.2.length ≤ c' → Calls Tryd.prog 15 #[entVal x A c, entVal x A' c'] V fun e w' => e = .returned (.bool true) ∧ Below V.heap.size V w'
theorem KHyp.sames {w : World} {U : Ent → Prop} {ES : Ent → List Int × Int} {rd_ : List Int → Ent × Int} {P : List Int → Prop} (h : KHyp w U ES rd_ P) (V : World) (hV : Below w.heap.size w V) (x : Ent) (hx : x.2.2.2.length ≤ 49) (A : Option Addr) (c : Nat) (A' : Option Addr) (c' : Nat) (h1 : Kd.C (Kd.int .i64) V A x.2.2.2.length x.2.2.2) (h2 : x.2.2.2.length ≤ c) (h3 : Kd.C (Kd.int .i64) V A' x.2.2.2.length x.2.2.2) (h4 : x.2.2.2.length ≤ c') :
    Calls Tryd.prog 15 #[.agg #[.int .u64 x.1, .int .i64 x.2.1, .int .i64 x.2.2.1, .slice A x.2.2.2.length c], .agg #[.int .u64 x.1, .int .i64 x.2.1, .int .i64 x.2.2.1, .slice A' x.2.2.2.length c']] V fun e w' => e = .returned (.bool true) ∧ Below V.heap.size V w' := h.same V hV x A c A' c' hx h1 h2 h3 h4
theorem CIn.opened {w : World} {ct : Nat} {W : World} {e : Ending} {w' : World} (h : OpdP ct W e w') : ∃ gd gc S, e = .returned (.tuple #[.pointer (some ⟨gd, 0, none⟩), .pointer (some ⟨gc, 0, none⟩)]) ∧ CIn S gc gd 1 ct (new (ct + 2)) (fun _ => none) w' ∧ (∀ k, S k → W.heap.size ≤ k) ∧ Below W.heap.size W w' := by
  obtain ⟨gd, gc, bm, F, H, he, hC, hFH, hb⟩ := h
  exact ⟨gd, gc, fun k => F k ∨ H k, he, ⟨F, H, bm, hC, fun k hk => hk, fun k hk => hk.elim (hC.disk.2 k) (hC.lt k)⟩, hFH, hb⟩
theorem CIn.put_bad {S : Nat → Prop} {gc gd ct : Nat} {d : Dk} {m : Nat → Option Ent} {W : World} (h : CIn S gc gd 1 ct d m W) (x : Ent) (A : Option Addr) (c : Nat) (er : Int) (bs : List Int) (he : er ≠ 0)
    (hb : ∀ V, Below W.heap.size W V → Calls Tryd.prog 10 #[entVal x A c] V fun e w' => ∃ v0_ : Value, e = .returned (.tuple #[v0_, .int .i64 er]) ∧ Kd.R (Kd.int .u8) 5 w' V.heap.size (fun _ => True) v0_ bs ∧ Below V.heap.size V w') :
    Calls Tryd.prog 17 #[.pointer (some ⟨gc, 0, none⟩), .agg #[.int .u64 x.1, .int .i64 x.2.1, .int .i64 x.2.2.1, .slice A x.2.2.2.length c]] W fun e w' => e = .returned (.int .i64 er) ∧ Below W.heap.size W w' := by
  obtain ⟨F, H, bm, hC, hFH, hlt⟩ := h
  exact Put_bad F H gc gd bm 1 ct d m x A c er bs W hC he hb
set_option maxHeartbeats 16000000 in
set_option maxRecDepth 100000 in
theorem keeps_walk (U : Ent → Prop) (ES : Ent → List Int × Int) (rd_ : List Int → Ent × Int) (P : List Int → Prop) (A0 : Option Addr) (c0 : Nat) (l0 : List Ent) (A1 : Option Addr) (c1 : Nat) (l1 : List Int) (w : World) (hy : KHyp w U ES rd_ P) (hr0 : Kd.C entK w A0 l0.length l0) (hu : ∀ x ∈ l0, U x) (hr1 : Kd.C (Kd.int .i64) w A1 l1.length l1) (hc1 : l1.length ≤ c1) :
    Calls Tryd.prog 7 #[.slice A0 l0.length c0, .slice A1 l1.length c1] w fun e w' => e = .returned (.bool true) ∧ Below w.heap.size w w' := by
  have HY := Aside0.mk hy
  have HR0 := Aside0.mk (And.intro hr0 hu)
  have HR1 := Aside0.mk (And.intro hr1 hc1)
  clear hy hr0 hu hr1 hc1
  go_enter Tryd.func7, Tryd.ntmps7
  go_wp2_with (first | (go_at_call 9; refine (HY.out.works w (Below.refl _ _)).mono ?_; rintro e w1 ⟨rfl, hb1⟩; refine of_halt ?_))
  unfold G.Halt
  have HB1 := Aside0.mk hb1
  clear hb1
  go_wp2_with (first | (go_at_call 21; refine ((opened_c rd_ 5 w1 (by decide) (by decide) (fun V hV l hl => (HY.out.read.below HB1.out) V hV l (by rw [hl]; exact HY.out.zero.1)) HY.out.zero.2).mono (fun e w' h => CIn.opened (w := w) h)).mono ?_; rintro e w2 ⟨e5, g5, S5, rfl, hC5, hS5, hb2⟩; refine of_halt ?_))
  unfold G.Halt
  have H2 := Aside0.mk (And.intro hC5 (And.intro hS5 (HB1.out.trans (hb2.mono HB1.out.size))))
  clear hC5 hS5 hb2
  go_wp2_with (first | (go_at_call 21; refine ((opened_c rd_ 1 w2 (by decide) (by decide) (fun V hV l hl => (HY.out.read.below H2.out.2.2) V hV l (by rw [hl]; exact HY.out.zero.1)) HY.out.zero.2).mono (fun e w' h => CIn.opened (w := w) h)).mono ?_; rintro e w3 ⟨e1, g1, S1, rfl, hC1, hS1, hb3⟩; refine of_halt ?_))
  unfold G.Halt
  have hT3 : TwoC w S5 S1 g5 e5 g1 e1 (new (5 + 2)) (new (1 + 2)) (fun _ => none) (fun _ => none) w3 := by
    obtain ⟨F, H, bm, q1, q2, q3⟩ := H2.out.1
    exact ⟨H2.out.1.below hb3, hC1, Kp.of_below (H2.out.2.2.trans (hb3.mono H2.out.2.2.size)), fun k hk => ⟨Nat.le_trans HB1.out.size (H2.out.2.1 k hk), fun h1 => by have := hS1 k h1; have := q3 k hk; omega⟩, fun k hk => Nat.le_trans H2.out.2.2.size (hS1 k hk)⟩
  have HT3 := Aside0.mk hT3
  obtain ⟨F1, H1, bm1, hq1, _⟩ := hT3.c1
  have HQ1 := Aside0.mk hq1
  clear hC1 hS1 hb3 hT3 hq1
  go_wp2_with (first | (go_at_call 22; refine (Sectors_c F1 e1 _ w3 HQ1.out.disk).mono ?_; rintro e w4 ⟨rfl, hw4⟩; refine of_halt ?_))
  unfold G.Halt
  obtain rfl := hw4.symm
  rw [show (new (1 + 2)).lies.length = 3 from by simp [new]]
  go_upto_region 8 with (fail)
  have hbl := below_alloc (Below.refl w3.heap.size w3) (.cells #[.int .i64 0, .int .i64 0, .int .i64 0, .int .i64 0, .int .i64 0] 68)
  have hkl := blk_new w3 (.cells #[.int .i64 0, .int .i64 0, .int .i64 0, .int .i64 0, .int .i64 0] 68)
  obtain ⟨gl, hgl⟩ : ∃ gl, w3.heap.size = gl := ⟨_, rfl⟩
  have HT4 := Aside0.mk (HT3.out.below hbl)
  have HGL := Aside0.mk (show w.heap.size ≤ gl ∧ (∀ k, S5 k → k < gl) ∧ (∀ k, S1 k → k < gl) from by
    rw [← hgl]
    refine ⟨HT3.out.fr.size, ?_, ?_⟩
    · obtain ⟨_, _, _, _, _, q⟩ := HT3.out.c5; exact q
    · obtain ⟨_, _, _, _, _, q⟩ := HT3.out.c1; exact q)
  rw [hgl] at hkl
  have HKL := Aside0.mk hkl
  clear hbl hkl
  go_wp2
  try rw [hgl]
  clear hgl
  go_loopg [10] 31 (fun kq v10 w' => ∃ i : Nat, v10 = .int .i64 (i : Int) ∧ Aside0 (i ≤ 30 ∧ i ≤ l0.length ∧ kq + i = 31) ∧ Aside0 (∃ S T d5 d1 m5 m1 last last1, TwoC w S T g5 e5 g1 e1 d5 d1 m5 m1 w' ∧ w'.heap[gl]? = some (.cells (last.map fun n => Value.int .i64 ((n : Nat) : Int)).toArray 68 (0, 0)) ∧ (¬ S gl ∧ ¬ T gl) ∧ Kp5 (fun x => (ES x).1) (fun x => U x ∧ (ES x).2 = 0) l0 5 i last m5 d5 ∧ Kp5 (fun x => (ES x).1) (fun x => U x ∧ (ES x).2 = 0) l0 1 i last1 m1 d1))
  case atStart => exact ⟨0, rfl, ⟨by omega⟩, ⟨S5, S1, _, _, _, _, List.replicate 5 0, List.replicate 1 0, HT4.out, HKL.out, ⟨fun q => by have := HGL.out.2.1 gl q; omega, fun q => by have := HGL.out.2.2 gl q; omega⟩, Kp5.start _ _ _ 5, Kp5.start _ _ _ 1⟩⟩
  case round =>
    obtain ⟨i, rfl, HI, HD⟩ := hrel
    obtain ⟨S, T, d5, d1, m5, m1, last, last1, hT, hL, hST, hK5, hK1⟩ := HD.out
    have HT := Aside0.mk hT
    have HLst := Aside0.mk (And.intro hL hST)
    have HK := Aside0.mk (And.intro hK5 hK1)
    clear HD hT hL hST hK5 hK1
    have hlen0 : l0.length ≤ 9223372036854775807 := Kd.C_max HR0.out.1
    by_cases hi : i < l0.length ∧ i < 30
    · have x1_ : ((i : Int) < (l0.length : Int)) = True := eq_true (by omega)
      have x2_ : (i < l0.length) = True := eq_true hi.1
      have x3_ : ((i : Int) < 30) = True := eq_true (by omega)
      have x4_ : (i < 30) = True := eq_true hi.2
      obtain ⟨ad, x, Kr, ck, hA, hx, hact⟩ := ent_at HR0.out.1 i hi.1
      subst hA
      have hin := hact _ HT.out.fr.below
      have q0 := hin.key
      have q1 := hin.asked
      have q2 := hin.level
      have q3 := hin.levels
      have HACT := Aside0.mk hact
      have HXX := Aside0.mk hx
      have w3_ : wrap64 ((i : Int) + 1) = ((i + 1 : Nat) : Int) := by unfold wrap64; omega
      have HX := Aside0.mk (show ∃ j, i + 1 + j = l0.length from ⟨l0.length - (i + 1), by omega⟩)
      have HX6 := Aside0.mk (show ∃ j, i + 1 + j = 30 from ⟨30 - (i + 1), by omega⟩)
      clear hact hin hi hx
      by_cases hbig : 500 < x.2.2.2.length
      · have y1_ : ((500 : Int) < (x.2.2.2.length : Int)) = True := eq_true (by omega)
        have y2_ : (500 < x.2.2.2.length) = True := eq_true hbig
        clear hbig
        go_wp2
        go_ret
        exact ⟨rfl, (HT.out.fr.then_below (below_alloc (Below.refl _ _) _)).below⟩
      · have y1_ : ((500 : Int) < (x.2.2.2.length : Int)) = False := eq_false (by omega)
        have y2_ : (500 < x.2.2.2.length) = False := eq_false hbig
        clear hbig
        go_upto_region 14 with (fail)
        have hbX := below_alloc (Below.refl wr.heap.size wr) (.cells #[.int .u64 x.1, .int .i64 x.2.1, .int .i64 x.2.2.1, .slice Kr x.2.2.2.length ck] 25)
        have hkX := blk_new wr (.cells #[.int .u64 x.1, .int .i64 x.2.1, .int .i64 x.2.2.1, .slice Kr x.2.2.2.length ck] 25)
        obtain ⟨WX, hWX⟩ : ∃ WX, wr.alloc (.cells #[.int .u64 x.1, .int .i64 x.2.1, .int .i64 x.2.2.1, .slice Kr x.2.2.2.length ck] 25) = WX := ⟨_, rfl⟩
        rw [hWX] at hbX hkX
        rw [hWX]
        have HWXE := Aside0.mk hWX
        have HTd := Aside0.mk (HT.out.below (hbX.trans (Below.mono (below_drew (Below.refl WX.heap.size WX)) hbX.size)))
        have HKX := Aside0.mk (And.intro (blk_drew hkX) (show (∀ k, S k → k ≠ wr.heap.size) ∧ (∀ k, T k → k ≠ wr.heap.size) from by
          refine ⟨fun k hk => ?_, fun k hk => ?_⟩
          · obtain ⟨_, _, _, _, _, q⟩ := HT.out.c5; have := q k hk; omega
          · obtain ⟨_, _, _, _, _, q⟩ := HT.out.c1; have := q k hk; omega))
        clear hbX hkX hWX q0 q1 q2 q3
        obtain ⟨t0, t1, t2, t3, _⟩ := cells4 HKX.out.1
        by_cases hE : (ES x).2 = 0
        · obtain ⟨hP, h64, hrd, hkey, hask, h49⟩ := HY.out.good x (HR0.out.2 x (List.mem_of_getElem? HXX.out)) hE
          have hp5 := HK.out.1.put (by decide) x HXX.out ⟨HR0.out.2 x (List.mem_of_getElem? HXX.out), hE⟩ h64
          have hp1 := HK.out.2.put (by decide) x HXX.out ⟨HR0.out.2 x (List.mem_of_getElem? HXX.out), hE⟩ h64
          have HP := Aside0.mk (And.intro hp5 (And.intro hp1 (And.intro hkey (And.intro hask (And.intro h49 hE)))))
          have hs5 : Small d5 := ⟨by have := HK.out.1.steps; have := HI.out; omega, by rw [HK.out.1.left]; decide, by have := HK.out.1.waits; have := HI.out; omega, by rw [HK.out.1.lies]; decide⟩
          have hs1 : Small d1 := ⟨by have := HK.out.2.steps; have := HI.out; omega, by rw [HK.out.2.left]; decide, by have := HK.out.2.waits; have := HI.out; omega, by rw [HK.out.2.lies]; decide⟩
          have hby : ∀ W, Below w.heap.size w W → ∀ V, Below W.heap.size W V → Calls Tryd.prog 10 #[entVal x Kr ck] V fun e w' => ∃ v0_ : Value, e = .returned (.tuple #[v0_, .int .i64 0]) ∧ Kd.R (Kd.int .u8) 5 w' V.heap.size (fun _ => True) v0_ (ES x).1 ∧ Below V.heap.size V w' := fun W hW V hV => by
            have hB := hW.trans (hV.mono hW.size)
            have := HY.out.bytes V hB x Kr ck (HACT.out V hB).rowC (HACT.out V hB).rowLe
            rwa [hE] at this
          have HBY := Aside0.mk (And.intro hby (And.intro hs5 hs1))
          clear hP h64 hrd hkey hask h49 hp5 hp1 hs5 hs1 hby
          refine start_ (n := 8) (S := fun w' => w'.cell? ⟨wr.heap.size, 0, none⟩ = some (.int .u64 x.1) ∧ w'.cell? ⟨wr.heap.size, 1, none⟩ = some (.int .i64 x.2.1) ∧ w'.cell? ⟨wr.heap.size, 2, none⟩ = some (.int .i64 x.2.2.1) ∧ w'.cell? ⟨wr.heap.size, 3, none⟩ = some (.slice Kr x.2.2.2.length ck)) (ds := []) #[false, false, false, false, false, false, false, false] (by kernel_rfl) rfl rfl ⟨t0, t1, t2, t3⟩ (fun hHeld => ?_)
          refine pure_ (i := 0) (N := some 65) (v := ?_) (a' := ?_) #[true, false, false, false, false, false, false, false] rfl rfl (by kernel_rfl) (fun _ _ _ h => h) (Or.inl ⟨by rfl, ?_⟩) ?_ ?_
          rotate_left
          · intro w'
            go_simp
            with_reducible rfl
          rotate_left
          · simp only [Act.put, List.setIfInBounds_toArray, List.set_cons_zero, List.set_cons_succ, i64_w, i32_w]
            rfl
          refine pure_ (i := 3) (N := some 68) (v := ?_) (a' := ?_) #[true, false, false, true, false, false, false, false] rfl rfl (by kernel_rfl) (fun _ _ _ h => h) (Or.inl ⟨by rfl, ?_⟩) ?_ ?_
          rotate_left
          · intro w'
            go_simp
            with_reducible rfl
          rotate_left
          · simp only [Act.put, List.setIfInBounds_toArray, List.set_cons_zero, List.set_cons_succ, i64_w, i32_w]
            rfl
          refine take_ (i := 1) (N := some 66) (v := ?_) (a' := ?_) #[true, true, false, true, false, false, false, false] rfl rfl (by kernel_rfl) (fun _ _ _ h => h) (Or.inl ⟨by rfl, ?_⟩) hHeld ?_ ?_
          rotate_left
          · rintro w' ⟨s0, s1, s2, s3⟩
            go_simp
            with_reducible rfl
          rotate_left
          · simp only [Act.put, List.setIfInBounds_toArray, List.set_cons_zero, List.set_cons_succ, i64_w, i32_w]
            rfl
          refine take_ (i := 4) (N := some 69) (v := ?_) (a' := ?_) #[true, true, false, true, true, false, false, false] rfl rfl (by kernel_rfl) (fun _ _ _ h => h) (Or.inl ⟨by rfl, ?_⟩) hHeld ?_ ?_
          rotate_left
          · rintro w' ⟨s0, s1, s2, s3⟩
            go_simp
            with_reducible rfl
          rotate_left
          · simp only [Act.put, List.setIfInBounds_toArray, List.set_cons_zero, List.set_cons_succ, i64_w, i32_w]
            rfl
          refine one_ (i := 2) (N := some 67) #[true, true, true, true, true, false, false, false] rfl rfl (by kernel_rfl) (by decide) (fun K hK => ?_)
          refine goes_ Tryd.func17 (by kernel_rfl) rfl #[.pointer (some ⟨g5, 0, none⟩), .agg #[.int .u64 x.1, .int .i64 x.2.1, .int .i64 x.2.2.1, .slice Kr x.2.2.2.length ck]] (by rfl) rfl rfl (by simp only [List.map_toArray, List.map_cons, List.map_nil]; rfl) ?_
          with_reducible refine (HTd.out.c5.put_c w HTd.out.fr.below (fun k hk => (HTd.out.s k hk).1) HBY.out.2.1 (by decide) (by decide) x Kr ck (ES x).1 HP.out.2.2.1 (HACT.out w (Below.refl _ _)).rowC (HACT.out w (Below.refl _ _)).rowLe (Nat.le_trans HP.out.2.2.2.2.1 (by decide)) HP.out.2.2.2.1 (HBY.out.1 _ HTd.out.fr.below) HP.out.1.1).mono ?_
          rintro e w5 ⟨rfl, S', hC5, hS5', hk5⟩
          refine ⟨_, rfl, ?_⟩
          have hT5 := HTd.out.put5 hC5 hS5' hk5
          have hX5 := hk5.blk HKX.out.1 (fun hs => HKX.out.2.1 _ hs rfl)
          have HT5 := Aside0.mk hT5
          have HX5 := Aside0.mk (And.intro hX5 (And.intro hS5' hk5))
          clear hC5 hS5' hk5 hT5 hX5
          refine hK.out _ _ ⟨(cells4 HX5.out.1).1, (cells4 HX5.out.1).2.1, (cells4 HX5.out.1).2.2.1, (cells4 HX5.out.1).2.2.2.1⟩ (fun hHeld => ?_)
          clear hK K
          refine norm_ (a' := ?_) ?_ ?_
          rotate_left
          · show Act.put _ (some 67) _ = _
            simp only [Act.put, List.setIfInBounds_toArray, List.set_cons_zero, List.set_cons_succ, i64_w, i32_w]
            rfl
          refine one_ (i := 5) (N := some 70) #[true, true, true, true, true, true, false, false] rfl rfl (by kernel_rfl) (by decide) (fun K hK => ?_)
          refine goes_ Tryd.func17 (by kernel_rfl) rfl #[.pointer (some ⟨g1, 0, none⟩), .agg #[.int .u64 x.1, .int .i64 x.2.1, .int .i64 x.2.2.1, .slice Kr x.2.2.2.length ck]] (by rfl) rfl rfl (by simp only [List.map_toArray, List.map_cons, List.map_nil]; rfl) ?_
          with_reducible refine (HT5.out.c1.put_c w HT5.out.fr.below HT5.out.t HBY.out.2.2 (by decide) (by decide) x Kr ck (ES x).1 HP.out.2.2.1 (HACT.out w (Below.refl _ _)).rowC (HACT.out w (Below.refl _ _)).rowLe (Nat.le_trans HP.out.2.2.2.2.1 (by decide)) HP.out.2.2.2.1 (HBY.out.1 _ HT5.out.fr.below) HP.out.2.1.1).mono ?_
          rintro e w6 ⟨rfl, T', hC6, hT6', hk6⟩
          refine ⟨_, rfl, ?_⟩
          have hT6 := HT5.out.put1 hC6 hT6' hk6
          have hX6 := hk6.blk HX5.out.1 (fun hs => HKX.out.2.2 _ hs rfl)
          have HT6 := Aside0.mk hT6
          have HX6b := Aside0.mk (And.intro hX6 (And.intro hT6' hk6))
          clear hC6 hT6' hk6 hT6 hX6
          refine hK.out _ _ ⟨(cells4 HX6b.out.1).1, (cells4 HX6b.out.1).2.1, (cells4 HX6b.out.1).2.2.1, (cells4 HX6b.out.1).2.2.2.1⟩ (fun hHeld => ?_)
          clear hK K
          refine norm_ (a' := ?_) ?_ ?_
          rotate_left
          · show Act.put _ (some 70) _ = _
            simp only [Act.put, List.setIfInBounds_toArray, List.set_cons_zero, List.set_cons_succ, i64_w, i32_w]
            rfl
          refine pure_ (i := 6) (N := some 12) (v := ?_) (a' := ?_) #[true, true, true, true, true, true, true, false] rfl rfl (by kernel_rfl) (fun _ _ _ h => h) (Or.inl ⟨by rfl, ?_⟩) ?_ ?_
          rotate_left
          · intro w'
            go_simp
            with_reducible rfl
          rotate_left
          · simp only [Act.put, List.setIfInBounds_toArray, List.set_cons_zero, List.set_cons_succ, i64_w, i32_w]
            rfl
          refine pure_ (i := 7) (N := some 13) (v := ?_) (a' := ?_) #[true, true, true, true, true, true, true, true] rfl rfl (by kernel_rfl) (fun _ _ _ h => h) (Or.inl ⟨by rfl, ?_⟩) ?_ ?_
          rotate_left
          · intro w'
            go_simp
            with_reducible rfl
          rotate_left
          · simp only [Act.put, List.setIfInBounds_toArray, List.set_cons_zero, List.set_cons_succ, i64_w, i32_w]
            rfl
          refine done_ (by kernel_rfl) ?_
          have hL6 : w6.heap[gl]? = some (.cells (last.map fun n => Value.int .i64 ((n : Nat) : Int)).toArray 68 (0, 0)) := by
            have hlt := blk_lt HLst.out.1
            have h1 := (below_alloc (Below.refl wr.heap.size wr) (.cells #[.int .u64 x.1, .int .i64 x.2.1, .int .i64 x.2.2.1, .slice Kr x.2.2.2.length ck] 25))
            rw [HWXE.out] at h1
            have h2 := h1.trans (Below.mono (below_drew (Below.refl WX.heap.size WX)) h1.size)
            have h3 := (h2.block gl hlt).trans HLst.out.1
            exact HX6b.out.2.2.blk (HX5.out.2.2.blk h3 HLst.out.2.1) HLst.out.2.2
          obtain ⟨p, hp⟩ : ∃ p, pl 5 x.1 x.2.1 = p := ⟨_, rfl⟩
          have hp5 : p < 5 := by rw [← hp]; exact pl_lt 5 _ _ (by decide)
          obtain ⟨r, hr⟩ := Int.eq_ofNat_of_zero_le (show 0 ≤ x.1 % 5 from Int.emod_nonneg _ (by decide))
          obtain ⟨s, hs⟩ := Int.eq_ofNat_of_zero_le (show 0 ≤ (r : Int) + x.2.1 + 1 by have := HP.out.2.2.2.1; omega)
          have hnum : x.1.tmod 5 = (r : Int) ∧ wrap64 (r : Int) = (r : Int) ∧ wrap64 ((r : Int) + x.2.1) = (r : Int) + x.2.1 ∧ wrap64 ((r : Int) + x.2.1 + 1) = (s : Int) ∧ (s : Int).tmod 5 = (p : Int) := by
            have hk := HP.out.2.2.1
            have ha := HP.out.2.2.2.1
            have hr5 : x.1 % 5 < 5 := Int.emod_lt_of_pos _ (by decide)
            refine ⟨by rw [Int.tmod_eq_emod_of_nonneg hk.1, hr], by unfold wrap64; omega, by unfold wrap64; omega, by rw [hs]; unfold wrap64; omega, ?_⟩
            rw [Int.tmod_eq_emod_of_nonneg (by omega), ← hp]
            unfold pl
            show _ = ((((x.1 % 5 + x.2.1 + 1) % 5).toNat : Nat) : Int)
            rw [hr, hs]
            omega
          obtain ⟨n1, n2, n3, n4, n5⟩ := hnum
          have HLP := Aside0.mk (And.intro hL6 (And.intro hp hp5))
          have hlcell : w6.cell? ⟨gl, p, none⟩ = some (.int .i64 ((last.getD p 0 : Nat) : Int)) := by
            rw [blk_cell hL6 p]
            have hlen := HK.out.1.len
            simp [List.getD_eq_getElem?_getD, List.getElem?_eq_getElem (show p < last.length by omega)]
          have hlz := blk_frozen hL6 p
          have p1_ : ((p : Int) < 5) = True := eq_true (by omega)
          have p2_ : (p < 5) = True := eq_true hp5
          obtain ⟨v0_, v1_, v2_, v3_, _⟩ := cells4 HX6b.out.1
          clear hL6 hp hp5 hr hs
          have hng : ¬ S' gl ∧ ¬ T' gl := by
            have hlt := blk_lt HLst.out.1
            have h1 := (below_alloc (Below.refl wr.heap.size wr) (.cells #[.int .u64 x.1, .int .i64 x.2.1, .int .i64 x.2.2.1, .slice Kr x.2.2.2.length ck] 25)).size
            rw [HWXE.out] at h1
            have h5 : wr.heap.size ≤ w5.heap.size := Nat.le_trans h1 HX5.out.2.2.size
            have h4 : wr.heap.size ≤ WX.drew.heap.size := h1
            exact ⟨fun hs => (HX5.out.2.1 gl hs).elim HLst.out.2.1 (fun q => by omega), fun hs => (HX6b.out.2.1 gl hs).elim HLst.out.2.2 (fun q => by omega)⟩
          have HNG := Aside0.mk hng
          clear hng
          have hT7 : ∀ v, TwoC w S' T' g5 e5 g1 e1 _ _ _ _ (w6.setCell ⟨gl, p, none⟩ v) := fun v => by
            have hk : Kp (fun k => k = gl) w6 (w6.setCell ⟨gl, p, none⟩ v) := (Kp.refl (fun k => k = gl) w6).set (p := ⟨gl, p, none⟩) (Or.inl rfl) v
            have hlt := blk_lt HLst.out.1
            have h5 : wr.heap.size ≤ w5.heap.size := by
              have h1 := (below_alloc (Below.refl wr.heap.size wr) (.cells #[.int .u64 x.1, .int .i64 x.2.1, .int .i64 x.2.2.1, .slice Kr x.2.2.2.length ck] 25)).size
              rw [HWXE.out] at h1
              exact Nat.le_trans h1 HX5.out.2.2.size
            have h4 : wr.heap.size ≤ WX.drew.heap.size := by
              have h1 := (below_alloc (Below.refl wr.heap.size wr) (.cells #[.int .u64 x.1, .int .i64 x.2.1, .int .i64 x.2.2.1, .slice Kr x.2.2.2.length ck] 25)).size
              rw [HWXE.out] at h1
              exact h1
            have hgw : w.heap.size ≤ gl := HGL.out.1
            refine ⟨HT6.out.c5.kp hk (fun k hs e => ?_), HT6.out.c1.kp hk (fun k hs e => ?_), HT6.out.fr.then_kp hk (fun k e => by rw [e]; exact hgw), HT6.out.s, HT6.out.t⟩
            · rw [e] at hs
              exact (HX5.out.2.1 gl hs).elim HLst.out.2.1 (fun q => by omega)
            · rw [e] at hs
              exact (HX6b.out.2.1 gl hs).elim HLst.out.2.2 (fun q => by omega)
          have HT7 := Aside0.mk hT7
          have hln1 : ∀ q e, putM m1 (pl 1 x.1 x.2.1) x q = some e → e.2.2.2.length ≤ 1000 := fun q e he => by
            have hk := HP.out.2.1.2
            rcases Nat.lt_or_ge q 1 with h | h
            · rcases hk.at_ q h with ⟨_, h2, _⟩ | ⟨k, y, _, _, _, hok, _, h6, _⟩
              · rw [h2] at he; cases he
              · rw [h6] at he; injection he with he; subst he; exact Nat.le_trans (HY.out.good _ hok.1 hok.2).2.2.2.2.2 (by decide)
            · rw [hk.out q h] at he; cases he
          have HLN1 := Aside0.mk hln1
          have hne1 : (gl = wr.heap.size) = False := eq_false (by have := blk_lt HLst.out.1; omega)
          have hne2 : (wr.heap.size = gl) = False := eq_false (by have := blk_lt HLst.out.1; omega)
          clear hT7 hln1
          go_wp2_with (first | (go_at_call 16; refine ((HT7.out _).c1.get_c (by decide) (by decide) x.1 x.2.1 HP.out.2.2.1 HP.out.2.2.2.1 HLN1.out).mono ?_; rintro e w8 ⟨v8, b8, rfl, hm8, hb8⟩; refine of_halt ?_))
          unfold G.Halt
          rw [getM_put] at hm8
          obtain ⟨rfl, A8, c8, rfl, hR8⟩ := hm8
          unfold entVal
          have hX8 := (hb8.block _ (blk_lt (blk_far (p := ⟨gl, p, none⟩) HX6b.out.1 (by have := blk_lt HLst.out.1; show wr.heap.size ≠ gl; omega) _))).trans (blk_far (p := ⟨gl, p, none⟩) HX6b.out.1 (by have := blk_lt HLst.out.1; show wr.heap.size ≠ gl; omega) _)
          have hL8 := (hb8.block _ (blk_lt (blk_put HLP.out.1 p _ rfl))).trans (blk_put HLP.out.1 p _ rfl)
          have HT8 := Aside0.mk ((HT7.out _).below hb8)
          have H8 := Aside0.mk (And.intro hR8 (And.intro hX8 hL8))
          obtain ⟨b0_, b1_, b2_, b3_, _⟩ := cells4 hX8
          clear hR8 hX8 hL8 hb8 v0_ v1_ v2_ v3_ hlcell hlz
          go_upto_region 20 with (fail)
          have hb9 := below_alloc (Below.refl w8.heap.size w8) (.cells #[.int .u64 x.1, .int .i64 x.2.1, .int .i64 x.2.2.1, .slice A8 x.2.2.2.length c8] 25)
          have HT9 := Aside0.mk (HT8.out.below hb9)
          have HB9 := Aside0.mk hb9
          obtain ⟨s0_, s1_, s2_, s3_, _⟩ := cells4 (blk_alloc H8.out.2.1 (.cells #[.int .u64 x.1, .int .i64 x.2.1, .int .i64 x.2.2.1, .slice A8 x.2.2.2.length c8] 25))
          clear hb9 b0_ b1_ b2_ b3_
          go_wp2_with (first | (go_at_call 15; refine (HY.out.same _ HT9.out.fr.below x A8 c8 Kr ck HP.out.2.2.2.2.1 (Kd.C_below (Kd.R_reads' H8.out.1).2.2 HB9.out) (Kd.R_reads' H8.out.1).2.1 (HACT.out _ HT9.out.fr.below).rowC (HACT.out _ HT9.out.fr.below).rowLe).mono ?_; rintro e w10 ⟨rfl, hb10⟩; refine of_halt ?_))
          unfold G.Halt
          have HT10 := Aside0.mk (HT9.out.below hb10)
          have HB10 := Aside0.mk (HB9.out.trans (hb10.mono HB9.out.size))
          clear hb10
          go_wp2_with (first | (go_at_call 19; refine (HT10.out.c1.ents_c (by decide) HLN1.out).mono ?_; rintro e w11 ⟨v11, rfl, hR11, hb11⟩; refine of_halt ?_))
          unfold G.Halt
          obtain ⟨A11, c11, rfl⟩ := Kd.R_slice hR11
          have hpl0 : pl 1 x.1 x.2.1 = 0 := by have := pl_lt 1 x.1 x.2.1 (by decide); omega
          have hel : (entsTo (putM m1 (pl 1 x.1 x.2.1) x) 1).length = 1 := by rw [entsTo_some (i := 0) (x := x) (by rw [hpl0]; simp [putM])]; rfl
          rw [hel]
          have HT11 := Aside0.mk (HT10.out.below hb11)
          have HB11 := Aside0.mk (HB10.out.trans (hb11.mono HB10.out.size))
          clear hR11 hb11 hel
          have hL11 : w11.heap[gl]? = some (.cells ((last.set p (i + 1)).map fun n => Value.int .i64 ((n : Nat) : Int)).toArray 68 (0, 0)) := by
            have h1 := (HB11.out.block _ (blk_lt H8.out.2.2)).trans H8.out.2.2
            rw [h1]
            congr 2
            apply Array.ext'
            rw [List.map_set]
            simp
          have HL11 := Aside0.mk hL11
          clear hL11 s0_ s1_ s2_ s3_
          go_wp2
          go_roundg (gk - 1)
          case measure => have := HI.out; omega
          case rel =>
            have e5 := HP.out.1.2
            rw [HLP.out.2.1] at e5
            refine ⟨i + 1, by first | rw [w3_] | rfl | simp, ⟨by have := HI.out; obtain ⟨j, hj⟩ := HX.out; obtain ⟨j6, hj6⟩ := HX6.out; omega⟩, ⟨S', T', _, _, _, _, last.set p (i + 1), last1.set (pl 1 x.1 x.2.1) (i + 1), ?_, HL11.out, ⟨?_, ?_⟩, e5, HP.out.2.1.2⟩⟩
            · have := HT11.out
              rw [HLP.out.2.1] at this
              exact this
            · exact HNG.out.1
            · exact HNG.out.2
        · have hE50 := HY.out.bad x hE
          have hby : ∀ W, Below w.heap.size w W → ∀ V, Below W.heap.size W V → Calls Tryd.prog 10 #[entVal x Kr ck] V fun e w' => ∃ v0_ : Value, e = .returned (.tuple #[v0_, .int .i64 50]) ∧ Kd.R (Kd.int .u8) 5 w' V.heap.size (fun _ => True) v0_ (ES x).1 ∧ Below V.heap.size V w' := fun W hW V hV => by
            have hB := hW.trans (hV.mono hW.size)
            have := HY.out.bytes V hB x Kr ck (HACT.out V hB).rowC (HACT.out V hB).rowLe
            rwa [hE50] at this
          have HBY := Aside0.mk hby
          clear hby hE hE50
          refine start_ (n := 8) (S := fun w' => w'.cell? ⟨wr.heap.size, 0, none⟩ = some (.int .u64 x.1) ∧ w'.cell? ⟨wr.heap.size, 1, none⟩ = some (.int .i64 x.2.1) ∧ w'.cell? ⟨wr.heap.size, 2, none⟩ = some (.int .i64 x.2.2.1) ∧ w'.cell? ⟨wr.heap.size, 3, none⟩ = some (.slice Kr x.2.2.2.length ck)) (ds := []) #[false, false, false, false, false, false, false, false] (by kernel_rfl) rfl rfl ⟨t0, t1, t2, t3⟩ (fun hHeld => ?_)
          refine pure_ (i := 0) (N := some 65) (v := ?_) (a' := ?_) #[true, false, false, false, false, false, false, false] rfl rfl (by kernel_rfl) (fun _ _ _ h => h) (Or.inl ⟨by rfl, ?_⟩) ?_ ?_
          rotate_left
          · intro w'
            go_simp
            with_reducible rfl
          rotate_left
          · simp only [Act.put, List.setIfInBounds_toArray, List.set_cons_zero, List.set_cons_succ, i64_w, i32_w]
            rfl
          refine pure_ (i := 3) (N := some 68) (v := ?_) (a' := ?_) #[true, false, false, true, false, false, false, false] rfl rfl (by kernel_rfl) (fun _ _ _ h => h) (Or.inl ⟨by rfl, ?_⟩) ?_ ?_
          rotate_left
          · intro w'
            go_simp
            with_reducible rfl
          rotate_left
          · simp only [Act.put, List.setIfInBounds_toArray, List.set_cons_zero, List.set_cons_succ, i64_w, i32_w]
            rfl
          refine take_ (i := 1) (N := some 66) (v := ?_) (a' := ?_) #[true, true, false, true, false, false, false, false] rfl rfl (by kernel_rfl) (fun _ _ _ h => h) (Or.inl ⟨by rfl, ?_⟩) hHeld ?_ ?_
          rotate_left
          · rintro w' ⟨s0, s1, s2, s3⟩
            go_simp
            with_reducible rfl
          rotate_left
          · simp only [Act.put, List.setIfInBounds_toArray, List.set_cons_zero, List.set_cons_succ, i64_w, i32_w]
            rfl
          refine take_ (i := 4) (N := some 69) (v := ?_) (a' := ?_) #[true, true, false, true, true, false, false, false] rfl rfl (by kernel_rfl) (fun _ _ _ h => h) (Or.inl ⟨by rfl, ?_⟩) hHeld ?_ ?_
          rotate_left
          · rintro w' ⟨s0, s1, s2, s3⟩
            go_simp
            with_reducible rfl
          rotate_left
          · simp only [Act.put, List.setIfInBounds_toArray, List.set_cons_zero, List.set_cons_succ, i64_w, i32_w]
            rfl
          refine one_ (i := 2) (N := some 67) #[true, true, true, true, true, false, false, false] rfl rfl (by kernel_rfl) (by decide) (fun K hK => ?_)
          refine goes_ Tryd.func17 (by kernel_rfl) rfl #[.pointer (some ⟨g5, 0, none⟩), .agg #[.int .u64 x.1, .int .i64 x.2.1, .int .i64 x.2.2.1, .slice Kr x.2.2.2.length ck]] (by rfl) rfl rfl (by simp only [List.map_toArray, List.map_cons, List.map_nil]; rfl) ?_
          with_reducible refine (HTd.out.c5.put_bad x Kr ck 50 (ES x).1 (by decide) (HBY.out _ HTd.out.fr.below)).mono ?_
          rintro e w5 ⟨rfl, hb5⟩
          refine ⟨_, rfl, ?_⟩
          have HX5 := Aside0.mk (And.intro ((hb5.block _ (blk_lt HKX.out.1)).trans HKX.out.1) (HTd.out.below hb5))
          have HB5 := Aside0.mk hb5
          clear hb5
          refine hK.out _ _ ⟨(cells4 HX5.out.1).1, (cells4 HX5.out.1).2.1, (cells4 HX5.out.1).2.2.1, (cells4 HX5.out.1).2.2.2.1⟩ (fun hHeld => ?_)
          clear hK K
          refine norm_ (a' := ?_) ?_ ?_
          rotate_left
          · show Act.put _ (some 67) _ = _
            simp only [Act.put, List.setIfInBounds_toArray, List.set_cons_zero, List.set_cons_succ, i64_w, i32_w]
            rfl
          refine one_ (i := 5) (N := some 70) #[true, true, true, true, true, true, false, false] rfl rfl (by kernel_rfl) (by decide) (fun K hK => ?_)
          refine goes_ Tryd.func17 (by kernel_rfl) rfl #[.pointer (some ⟨g1, 0, none⟩), .agg #[.int .u64 x.1, .int .i64 x.2.1, .int .i64 x.2.2.1, .slice Kr x.2.2.2.length ck]] (by rfl) rfl rfl (by simp only [List.map_toArray, List.map_cons, List.map_nil]; rfl) ?_
          with_reducible refine (HX5.out.2.c1.put_bad x Kr ck 50 (ES x).1 (by decide) (HBY.out _ HX5.out.2.fr.below)).mono ?_
          rintro e w6 ⟨rfl, hb6⟩
          refine ⟨_, rfl, ?_⟩
          have HX6b := Aside0.mk (And.intro ((hb6.block _ (blk_lt HX5.out.1)).trans HX5.out.1) (HX5.out.2.below hb6))
          have HB6 := Aside0.mk hb6
          clear hb6
          refine hK.out _ _ ⟨(cells4 HX6b.out.1).1, (cells4 HX6b.out.1).2.1, (cells4 HX6b.out.1).2.2.1, (cells4 HX6b.out.1).2.2.2.1⟩ (fun hHeld => ?_)
          clear hK K
          refine norm_ (a' := ?_) ?_ ?_
          rotate_left
          · show Act.put _ (some 70) _ = _
            simp only [Act.put, List.setIfInBounds_toArray, List.set_cons_zero, List.set_cons_succ, i64_w, i32_w]
            rfl
          refine pure_ (i := 6) (N := some 12) (v := ?_) (a' := ?_) #[true, true, true, true, true, true, true, false] rfl rfl (by kernel_rfl) (fun _ _ _ h => h) (Or.inl ⟨by rfl, ?_⟩) ?_ ?_
          rotate_left
          · intro w'
            go_simp
            with_reducible rfl
          rotate_left
          · simp only [Act.put, List.setIfInBounds_toArray, List.set_cons_zero, List.set_cons_succ, i64_w, i32_w]
            rfl
          refine pure_ (i := 7) (N := some 13) (v := ?_) (a' := ?_) #[true, true, true, true, true, true, true, true] rfl rfl (by kernel_rfl) (fun _ _ _ h => h) (Or.inl ⟨by rfl, ?_⟩) ?_ ?_
          rotate_left
          · intro w'
            go_simp
            with_reducible rfl
          rotate_left
          · simp only [Act.put, List.setIfInBounds_toArray, List.set_cons_zero, List.set_cons_succ, i64_w, i32_w]
            rfl
          refine done_ (by kernel_rfl) ?_
          have hL6 : w6.heap[gl]? = some (.cells (last.map fun n => Value.int .i64 ((n : Nat) : Int)).toArray 68 (0, 0)) := by
            have hlt := blk_lt HLst.out.1
            have h1 := (below_alloc (Below.refl wr.heap.size wr) (.cells #[.int .u64 x.1, .int .i64 x.2.1, .int .i64 x.2.2.1, .slice Kr x.2.2.2.length ck] 25))
            rw [HWXE.out] at h1
            have h2 := h1.trans (Below.mono (below_drew (Below.refl WX.heap.size WX)) h1.size)
            have h3 := h2.trans (HB5.out.mono h2.size)
            have h4 := h3.trans (HB6.out.mono h3.size)
            exact (h4.block gl hlt).trans HLst.out.1
          have HL6 := Aside0.mk hL6
          clear hL6 t0 t1 t2 t3
          go_wp2
          go_roundg (gk - 1)
          case measure => have := HI.out; omega
          case rel => exact ⟨i + 1, by first | rw [w3_] | rfl | simp, ⟨by have := HI.out; obtain ⟨j, hj⟩ := HX.out; obtain ⟨j6, hj6⟩ := HX6.out; omega⟩, ⟨S, T, d5, d1, m5, m1, last, last1, HX6b.out.2, HL6.out, HLst.out.2, HK.out.1.skip, HK.out.2.skip⟩⟩
    · have hag := HK.out.1.again rd_ HY.out.zero.2 (fun x hx => (HY.out.good x hx.1 hx.2).2.2.1) l1
      have hs5 : Small d5 := ⟨by have := HK.out.1.steps; have := HI.out; omega, by rw [HK.out.1.left]; decide, by have := HK.out.1.waits; have := HI.out; omega, by rw [HK.out.1.lies]; decide⟩
      have hdn := HK.out.1.down
      have hsa : Small (flush d5).1 := by
        unfold flush
        rw [hdn, if_neg (by simp)]
        exact ⟨by show d5.steps + 1 < _; have := hs5.steps; have := HK.out.1.steps; have := HI.out; omega, by show (d5.left.map _).getD 0 < _; rw [HK.out.1.left]; decide, by show ([] : List (Nat × List Int)).length < _; decide, by show (Dsk.settle _ _).length < _; rw [settle_len]; exact hs5.lies⟩
      have hlx : (crash (flush d5).1 l1).lies.length = 7 := by rw [crash_len (flush_ok HT.out.c5.ok), flush_len, HK.out.1.lies]
      have HAG := Aside0.mk (And.intro hag (And.intro hs5 (And.intro hsa hlx)))
      clear hag hs5 hdn hsa hlx
      have hcase : (i < l0.length ∧ ¬ i < 30) ∨ ¬ i < l0.length := by omega
      have hq : ((((i : Int) < (l0.length : Int)) = True) ∧ ((i < l0.length) = True) ∧ (((i : Int) < 30) = False) ∧ ((i < 30) = False)) ∨ ((((i : Int) < (l0.length : Int)) = False) ∧ ((i < l0.length) = False)) := by
        rcases hcase with ⟨hi1, hi2⟩ | hi1
        · exact .inl ⟨eq_true (by omega), eq_true hi1, eq_false (by omega), eq_false hi2⟩
        · exact .inr ⟨eq_false (by omega), eq_false hi1⟩
      clear hcase hi
      rcases hq with ⟨x1_, x2_, x3_, x4_⟩ | ⟨x1_, x2_⟩
      all_goals
        go_wp2_with (first | (go_at_call 23; refine (HT.out.c5.flush0_c HAG.out.2.1 HAG.out.1.1).mono ?_; rintro e wa ⟨rfl, Sa, hCa, hSa, hka⟩; refine of_halt ?_))
        unfold G.Halt
        have hfa : Fr w wa := HT.out.fr.then_kp hka (fun k hk => (HT.out.s k hk).1)
        have HA := Aside0.mk (And.intro hCa (And.intro hfa (hka.blk HLst.out.1 HLst.out.2.1)))
        clear hCa hSa hka hfa
        go_wp2_with (first | (go_at_call 24; refine (HA.out.1.crash_c HAG.out.2.2.1 l1 A1 c1 (Kd.C_below HR1.out.1 HA.out.2.1.below) HR1.out.2).mono ?_; rintro e wb ⟨gx, Fx, rfl, hDx, hFx, hbx⟩; refine of_halt ?_))
        unfold G.Halt
        have hfb := HA.out.2.1.below.trans (hbx.mono HA.out.2.1.below.size)
        have hrd : RdOk rd_ wb P := HY.out.read.below hfb
        have HB := Aside0.mk (And.intro (HA.out.1.below hbx) (And.intro hfb (And.intro ((hbx.block _ (blk_lt HA.out.2.2)).trans HA.out.2.2) (And.intro hDx hrd))))
        clear hDx hFx hbx hfb hrd
        have HO := Aside0.mk ((Open_c rd_ Fx gx 1 5 (crash (flush d5).1 l1) wb HB.out.2.2.2.1 ⟨by show (0 : Nat) < _; decide, by show (0 : Nat) < _; decide, by show (0 : Nat) < _; decide, by rw [HAG.out.2.2.2]; decide⟩ rfl (by decide) (by rw [HAG.out.2.2.2]; decide) (by rw [HAG.out.2.2.2]; decide) (fun V hV j hj A c hC hc => by
            have hP : P (latest (crash (flush d5).1 l1) (1 + j)) := by
              rcases HAG.out.1.2.2 j hj with q | ⟨x, hx, q⟩
              · rw [q]; exact HY.out.zero.1
              · rw [q]; exact (HY.out.good x hx.1 hx.2).1
            exact HB.out.2.2.2.2 V hV _ hP A c hC hc) (fun j hj he => by
            rcases HAG.out.1.2.2 j hj with q | ⟨x, hx, q⟩
            · rw [q] at he; exact absurd he HY.out.zero.2
            · have hg := HY.out.good x hx.1 hx.2
              rw [q, hg.2.2.1]
              exact ⟨hg.2.2.2.1, hg.2.2.2.2.1⟩)).mono (fun e w' h => OpenP.cin (m := m5) (by rw [HAG.out.1.2.1] at h; exact h)))
        go_wp2_with (first | (go_at_call 20; refine (HO.out).mono ?_; rintro e wc ⟨go_, So, rfl, hCo, hbo⟩; refine of_halt ?_))
        unfold G.Halt
        have HC := Aside0.mk (And.intro (HB.out.1.below hbo) (And.intro hCo (And.intro (HB.out.2.1.trans (hbo.mono HB.out.2.1.size)) ((hbo.block _ (blk_lt HB.out.2.2.1)).trans HB.out.2.2.1))))
        clear hCo hbo
        have hq : ∀ j, j < 5 → wc.cell? ⟨gl, j, none⟩ = some (.int .i64 ((last.getD j 0 : Nat) : Int)) := fun j hj => by
          rw [blk_cell HC.out.2.2.2 j]
          have hlen := HK.out.1.len
          simp [List.getD_eq_getElem?_getD, List.getElem?_eq_getElem (show j < last.length by omega)]
        have q0_ := hq 0 (by decide)
        have q1_ := hq 1 (by decide)
        have q2_ := hq 2 (by decide)
        have q3_ := hq 3 (by decide)
        have q4_ := hq 4 (by decide)
        obtain ⟨a0, ha0⟩ : ∃ a, last.getD 0 0 = a := ⟨_, rfl⟩
        obtain ⟨a1, ha1⟩ : ∃ a, last.getD 1 0 = a := ⟨_, rfl⟩
        obtain ⟨a2, ha2⟩ : ∃ a, last.getD 2 0 = a := ⟨_, rfl⟩
        obtain ⟨a3, ha3⟩ : ∃ a, last.getD 3 0 = a := ⟨_, rfl⟩
        obtain ⟨a4, ha4⟩ : ∃ a, last.getD 4 0 = a := ⟨_, rfl⟩
        rw [ha0] at q0_
        rw [ha1] at q1_
        rw [ha2] at q2_
        rw [ha3] at q3_
        rw [ha4] at q4_
        have HAS := Aside0.mk (show ∀ j, j < 5 → (#[Value.int .i64 (a0 : Int), .int .i64 (a1 : Int), .int .i64 (a2 : Int), .int .i64 (a3 : Int), .int .i64 (a4 : Int)] : Array Value)[j]? = some (.int .i64 ((last.getD j 0 : Nat) : Int)) from fun j hj => by
          rcases j with _ | _ | _ | _ | _ | j
          · rw [ha0]; rfl
          · rw [ha1]; rfl
          · rw [ha2]; rfl
          · rw [ha3]; rfl
          · rw [ha4]; rfl
          · omega)
        clear hq ha0 ha1 ha2 ha3 ha4
        go_wp2
        clear q0_ q1_ q2_ q3_ q4_
        have hmax : ∀ q e, m5 q = some e → e.2.2.2.length ≤ 1000 := fun q e he => by
          have hk := HK.out.1
          rcases Nat.lt_or_ge q 5 with h | h
          · rcases hk.at_ q h with ⟨_, h2, _⟩ | ⟨k, y, _, _, _, hok, _, h6, _⟩
            · rw [h2] at he; cases he
            · rw [h6] at he; injection he with he; subst he; exact Nat.le_trans (HY.out.good _ hok.1 hok.2).2.2.2.2.2 (by decide)
          · rw [hk.out q h] at he; cases he
        have HMAX := Aside0.mk hmax
        clear hmax
        go_loopg [146, 19] 6 (fun kq v146 v19 w' => ∃ j : Nat, v146 = .int .i64 (j : Int) ∧ v19 = .int .i64 ((entsTo m5 j).length : Int) ∧ Aside0 (j ≤ 5 ∧ kq + j = 6) ∧ Aside0 (Below wc.heap.size wc w'))
        case atStart => exact ⟨0, rfl, rfl, ⟨by omega⟩, ⟨Below.refl _ _⟩⟩
        case round =>
          obtain ⟨j, rfl, rfl, HJ, HW⟩ := hrel
          by_cases hj : j < 5
          · have y1_ : ((j : Int) < 5) = True := eq_true (by omega)
            have y2_ : (j < 5) = True := eq_true hj
            have y3_ : wrap64 ((j : Int) + 1) = ((j + 1 : Nat) : Int) := by unfold wrap64; omega
            have hv := HAS.out j hj
            have hjj := hj
            have hcnt := HK.out.1.count j hj
            have hat := HK.out.1.at_ j hj
            have HJ2 := Aside0.mk hj
            obtain ⟨n, hn⟩ : ∃ n, last.getD j 0 = n := ⟨_, rfl⟩
            rw [hn] at hv hcnt hat
            replace hv := index5 a0 a1 a2 a3 a4 j n wr hjj hv
            clear hjj
            by_cases hn0 : n = 0
            · subst hn0
              have HCN := Aside0.mk (hcnt.1 rfl)
              clear hcnt hn hj hat
              go_wp2
              go_roundg (gk - 1)
              case measure => have := HJ.out; omega
              case rel => exact ⟨j + 1, by first | rw [y3_] | rfl | simp, by rw [HCN.out], ⟨by have := HJ2.out; have := HJ.out; omega⟩, HW⟩
            · have HCN := Aside0.mk (hcnt.2 hn0)
              obtain ⟨k, x, e, hki, hlk, hok, hpl, hm, _⟩ := hat.resolve_left (fun q => hn0 q.1)
              have hkl : k < l0.length := (List.getElem?_eq_some_iff.1 hlk).1
              obtain ⟨ad, x', Kr, ck, hA, hx, hact⟩ := ent_at HR0.out.1 k hkl
              obtain rfl : x' = x := by rw [hlk] at hx; injection hx with hx; exact hx.symm
              subst hA
              have hg := HY.out.good x' hok.1 hok.2
              have z1_ : ((n : Int) = 0) = False := eq_false (by omega)
              have z2_ : ((n : Int) == 0) = false := by rw [beq_eq_false_iff_ne]; omega
              have z3_ : (n = 0) = False := eq_false hn0
              have z4_ : wrap64 ((n : Int) - 1) = (k : Int) := by unfold wrap64; omega
              have z5_ : ((k : Int) < (l0.length : Int)) = True := eq_true (by omega)
              have z6_ : (k < l0.length) = True := eq_true hkl
              have hbd := below_drew (HC.out.2.2.1.trans (HW.out.mono HC.out.2.2.1.size))
              have hbe := below_drew HW.out
              have HG := Aside0.mk (And.intro hg.2.2.2.1 (And.intro hg.2.2.2.2.1 (And.intro hpl (And.intro hm (And.intro hbd hbe)))))
              have HG49 := Aside0.mk hg.2.2.2.2.2
              have HACT := Aside0.mk hact
              have hl8 : ((entsTo m5 (j + 1)).length : Int) < 100 := by have := entsTo_len m5 (j + 1); omega
              have y4_ : wrap64 (((entsTo m5 j).length : Int) + 1) = ((entsTo m5 (j + 1)).length : Int) := by rw [HCN.out]; unfold wrap64; have := HCN.out; omega
              have HY4 := Aside0.mk y4_
              clear hcnt hn hj hat hn0 e hki hlk hok hpl hm hkl hx hg hbd hbe hact hl8 y4_
              go_upto_region 35 with (fail)
              have HC5W := Aside0.mk (HC.out.1.below HW.out)
              have HC3W := Aside0.mk (HC.out.2.1.below HW.out)
              have HC5A := Aside0.mk (show CIn Sa g5 e5 1 5 (flush d5).1 m5 ((wr.alloc (.cells #[.int .u64 0, .int .i64 0, .int .i64 0, .slice none 0 0] 25)).drew) from HC5W.out.below (below_alloc (below_drew (Below.refl _ _)) _))
              have HS35 := Aside0.mk (show ∀ V, Below wr.heap.size wr V → V.cell? (ad.add (k * 4)) = some (.int .u64 x'.1) ∧ V.cell? ⟨(ad.add (k * 4)).block, (ad.add (k * 4)).off + 1, none⟩ = some (.int .i64 x'.2.1) from fun V hV => by
                have hq := (HC.out.2.2.1.trans (HW.out.mono HC.out.2.2.1.size))
                have := HACT.out V (hq.trans (hV.mono hq.size))
                exact ⟨this.key, this.asked⟩)
              refine start_ (n := 20) (S := fun w' => w'.cell? (ad.add (k * 4)) = some (.int .u64 x'.1) ∧ w'.cell? ⟨(ad.add (k * 4)).block, (ad.add (k * 4)).off + 1, none⟩ = some (.int .i64 x'.2.1)) (ds := [18]) #[false, false, false, false, false, false, false, false, false, false, false, false, false, false, false, false, false, false, false, false] (by kernel_rfl) rfl rfl ⟨(HS35.out _ (below_drew (Below.refl _ _))).1, (HS35.out _ (below_drew (Below.refl _ _))).2⟩ (fun hHeld => ?_)
              refine pure_ (i := 0) (N := some 152) (v := ?_) (a' := ?_) #[true, false, false, false, false, false, false, false, false, false, false, false, false, false, false, false, false, false, false, false] rfl rfl (by kernel_rfl) (fun _ _ _ h => h) (Or.inl ⟨by rfl, ?_⟩) ?_ ?_
              rotate_left
              · intro w'
                go_simp
                with_reducible rfl
              rotate_left
              · simp only [Act.put, List.setIfInBounds_toArray, List.set_cons_zero, List.set_cons_succ, i64_w, i32_w]
                rfl
              refine pure_ (i := 1) (N := some 153) (v := ?_) (a' := ?_) #[true, true, false, false, false, false, false, false, false, false, false, false, false, false, false, false, false, false, false, false] rfl rfl (by kernel_rfl) (fun _ _ _ h => h) (Or.inl ⟨by rfl, ?_⟩) ?_ ?_
              rotate_left
              · intro w'
                go_simp
                with_reducible rfl
              rotate_left
              · simp only [Act.put, List.setIfInBounds_toArray, List.set_cons_zero, List.set_cons_succ, i64_w, i32_w]
                rfl
              refine pure_ (i := 2) (N := some 154) (v := ?_) (a' := ?_) #[true, true, true, false, false, false, false, false, false, false, false, false, false, false, false, false, false, false, false, false] rfl rfl (by kernel_rfl) (fun _ _ _ h => h) (Or.inl ⟨by rfl, ?_⟩) ?_ ?_
              rotate_left
              · intro w'
                go_simp
                with_reducible rfl
              rotate_left
              · simp only [Act.put, List.setIfInBounds_toArray, List.set_cons_zero, List.set_cons_succ, i64_w, i32_w]
                rfl
              refine pure_ (i := 3) (N := some 155) (v := ?_) (a' := ?_) #[true, true, true, true, false, false, false, false, false, false, false, false, false, false, false, false, false, false, false, false] rfl rfl (by kernel_rfl) (fun _ _ _ h => h) (Or.inl ⟨by rfl, ?_⟩) ?_ ?_
              rotate_left
              · intro w'
                go_simp
                with_reducible rfl
              rotate_left
              · simp only [Act.put, List.setIfInBounds_toArray, List.set_cons_zero, List.set_cons_succ, i64_w, i32_w]
                rfl
              refine pure_ (i := 4) (N := some 156) (v := ?_) (a' := ?_) #[true, true, true, true, true, false, false, false, false, false, false, false, false, false, false, false, false, false, false, false] rfl rfl (by kernel_rfl) (fun _ _ _ h => h) (Or.inl ⟨by rfl, ?_⟩) ?_ ?_
              rotate_left
              · intro w'
                go_simp
                with_reducible rfl
              rotate_left
              · simp only [Act.put, List.setIfInBounds_toArray, List.set_cons_zero, List.set_cons_succ, i64_w, i32_w]
                rfl
              refine pure_ (i := 5) (N := some 157) (v := ?_) (a' := ?_) #[true, true, true, true, true, true, false, false, false, false, false, false, false, false, false, false, false, false, false, false] rfl rfl (by kernel_rfl) (fun _ _ _ h => h) (Or.inl ⟨by rfl, ?_⟩) ?_ ?_
              rotate_left
              · intro w'
                go_simp
                with_reducible rfl
              rotate_left
              · simp only [Act.put, List.setIfInBounds_toArray, List.set_cons_zero, List.set_cons_succ, i64_w, i32_w]
                rfl
              refine pure_ (i := 7) (N := some 159) (v := ?_) (a' := ?_) #[true, true, true, true, true, true, false, true, false, false, false, false, false, false, false, false, false, false, false, false] rfl rfl (by kernel_rfl) (fun _ _ _ h => h) (Or.inl ⟨by rfl, ?_⟩) ?_ ?_
              rotate_left
              · intro w'
                go_simp
                with_reducible rfl
              rotate_left
              · simp only [Act.put, List.setIfInBounds_toArray, List.set_cons_zero, List.set_cons_succ, i64_w, i32_w]
                rfl
              refine pure_ (i := 8) (N := some 160) (v := ?_) (a' := ?_) #[true, true, true, true, true, true, false, true, true, false, false, false, false, false, false, false, false, false, false, false] rfl rfl (by kernel_rfl) (fun _ _ _ h => h) (Or.inl ⟨by rfl, ?_⟩) ?_ ?_
              rotate_left
              · intro w'
                go_simp
                with_reducible rfl
              rotate_left
              · simp only [Act.put, List.setIfInBounds_toArray, List.set_cons_zero, List.set_cons_succ, i64_w, i32_w]
                rfl
              refine pure_ (i := 9) (N := some 161) (v := ?_) (a' := ?_) #[true, true, true, true, true, true, false, true, true, true, false, false, false, false, false, false, false, false, false, false] rfl rfl (by kernel_rfl) (fun _ _ _ h => h) (Or.inl ⟨by rfl, ?_⟩) ?_ ?_
              rotate_left
              · intro w'
                go_simp
                with_reducible rfl
              rotate_left
              · simp only [Act.put, List.setIfInBounds_toArray, List.set_cons_zero, List.set_cons_succ, i64_w, i32_w]
                rfl
              refine pure_ (i := 10) (N := some 162) (v := ?_) (a' := ?_) #[true, true, true, true, true, true, false, true, true, true, true, false, false, false, false, false, false, false, false, false] rfl rfl (by kernel_rfl) (fun _ _ _ h => h) (Or.inl ⟨by rfl, ?_⟩) ?_ ?_
              rotate_left
              · intro w'
                go_simp
                with_reducible rfl
              rotate_left
              · simp only [Act.put, List.setIfInBounds_toArray, List.set_cons_zero, List.set_cons_succ, i64_w, i32_w]
                rfl
              refine pure_ (i := 11) (N := some 163) (v := ?_) (a' := ?_) #[true, true, true, true, true, true, false, true, true, true, true, true, false, false, false, false, false, false, false, false] rfl rfl (by kernel_rfl) (fun _ _ _ h => h) (Or.inl ⟨by rfl, ?_⟩) ?_ ?_
              rotate_left
              · intro w'
                go_simp
                with_reducible rfl
              rotate_left
              · simp only [Act.put, List.setIfInBounds_toArray, List.set_cons_zero, List.set_cons_succ, i64_w, i32_w]
                rfl
              refine take_ (i := 6) (N := some 158) (v := ?_) (a' := ?_) #[true, true, true, true, true, true, true, true, true, true, true, true, false, false, false, false, false, false, false, false] rfl rfl (by kernel_rfl) (fun _ _ _ h => h) (Or.inl ⟨by rfl, ?_⟩) hHeld ?_ ?_
              rotate_left
              · rintro w' ⟨s0, s1⟩
                go_simp
                with_reducible rfl
              rotate_left
              · simp only [Act.put, List.setIfInBounds_toArray, List.set_cons_zero, List.set_cons_succ, i64_w, i32_w]
                rfl
              refine take_ (i := 12) (N := some 164) (v := ?_) (a' := ?_) #[true, true, true, true, true, true, true, true, true, true, true, true, true, false, false, false, false, false, false, false] rfl rfl (by kernel_rfl) (fun _ _ _ h => h) (Or.inl ⟨by rfl, ?_⟩) hHeld ?_ ?_
              rotate_left
              · rintro w' ⟨s0, s1⟩
                go_simp
                with_reducible rfl
              rotate_left
              · simp only [Act.put, List.setIfInBounds_toArray, List.set_cons_zero, List.set_cons_succ, i64_w, i32_w]
                rfl
              refine join_ (σ := Nat × Option Addr × Nat) 2 #[true, true, true, true, true, true, true, true, true, true, true, true, true, true, true, true, true, true, false, false] (fun s => [(165, .tuple #[.agg #[.int .u64 x'.1, .int .i64 x'.2.1, .int .i64 x'.2.2.1, .slice s.2.1 x'.2.2.2.length s.2.2], .bool true]), (151, .tuple #[.agg #[.int .u64 x'.1, .int .i64 x'.2.1, .int .i64 x'.2.2.1, .slice s.2.1 x'.2.2.2.length s.2.2], .bool true]), (166, .agg #[.int .u64 x'.1, .int .i64 x'.2.1, .int .i64 x'.2.2.1, .slice s.2.1 x'.2.2.2.length s.2.2]), (167, .bool true), (22, .pointer (some ⟨s.1, 0, none⟩))]) (fun s w' => Below wr.heap.size wr w' ∧ w'.heap[s.1]? = some (.cells #[.int .u64 0, .int .i64 0, .int .i64 0, .slice none 0 0] 25 (0, 0)) ∧ wr.heap.size ≤ s.1 ∧ RowI w' s.2.1 s.2.2 x'.2.2.2) ?_ ?_
              rotate_left
              · intro hCont
                refine two_ (i := 13) (j := 17) (Ni := some 165) (Nj := some 22) #[true, true, true, true, true, true, true, true, true, true, true, true, true, true, false, false, false, false, false, false] #[true, true, true, true, true, true, true, true, true, true, true, true, true, false, false, false, false, true, false, false] rfl rfl rfl rfl (by kernel_rfl) (by decide) (by decide) (fun K hK => ?_) (fun K hK => ?_)
                · skip
                  refine goes_ Tryd.func16 (by kernel_rfl) rfl #[.pointer (some ⟨g5, 0, none⟩), .int .u64 x'.1, .int .i64 x'.2.1] (by rfl) rfl rfl (by simp only [List.map_toArray, List.map_cons, List.map_nil]; rfl) ?_
                  with_reducible refine ((HC5W.out.below (below_drew (Below.refl wr.heap.size wr))).got_c (by decide) (by decide) x' j HG.out.2.2.1 HG.out.2.2.2.1 HG.out.1 HG.out.2.1 HMAX.out).mono ?_
                  rintro e w5 ⟨A5, c5, rfl, hC5, hb5⟩
                  refine ⟨_, rfl, ?_⟩
                  have hB5 := (below_drew (Below.refl wr.heap.size wr)).trans hb5
                  refine hK.out _ _ ⟨(HS35.out _ hB5).1, (HS35.out _ hB5).2⟩ (fun hHeld => ?_)
                  clear hK K
                  refine norm_ (a' := ?_) ?_ ?_
                  rotate_left
                  · show Act.put _ (some 165) _ = _
                    simp only [Act.put, List.setIfInBounds_toArray, List.set_cons_zero, List.set_cons_succ, i64_w, i32_w]
                    rfl
                  refine pure_ (i := 14) (N := some 151) (v := ?_) (a' := ?_) #[true, true, true, true, true, true, true, true, true, true, true, true, true, true, true, false, false, false, false, false] rfl rfl (by kernel_rfl) (fun _ _ _ h => h) (Or.inl ⟨by rfl, ?_⟩) ?_ ?_
                  rotate_left
                  · intro w'
                    go_simp
                    with_reducible rfl
                  rotate_left
                  · simp only [Act.put, List.setIfInBounds_toArray, List.set_cons_zero, List.set_cons_succ, i64_w, i32_w]
                    rfl
                  refine pure_ (i := 15) (N := some 166) (v := ?_) (a' := ?_) #[true, true, true, true, true, true, true, true, true, true, true, true, true, true, true, true, false, false, false, false] rfl rfl (by kernel_rfl) (fun _ _ _ h => h) (Or.inl ⟨by rfl, ?_⟩) ?_ ?_
                  rotate_left
                  · intro w'
                    go_simp
                    with_reducible rfl
                  rotate_left
                  · simp only [Act.put, List.setIfInBounds_toArray, List.set_cons_zero, List.set_cons_succ, i64_w, i32_w]
                    rfl
                  refine pure_ (i := 16) (N := some 167) (v := ?_) (a' := ?_) #[true, true, true, true, true, true, true, true, true, true, true, true, true, true, true, true, true, false, false, false] rfl rfl (by kernel_rfl) (fun _ _ _ h => h) (Or.inl ⟨by rfl, ?_⟩) ?_ ?_
                  rotate_left
                  · intro w'
                    go_simp
                    with_reducible rfl
                  rotate_left
                  · simp only [Act.put, List.setIfInBounds_toArray, List.set_cons_zero, List.set_cons_succ, i64_w, i32_w]
                    rfl
                  refine one_ (i := 17) (N := some 22) #[true, true, true, true, true, true, true, true, true, true, true, true, true, true, true, true, true, true, false, false] rfl rfl (by kernel_rfl) (by decide) (fun K hK => ?_)
                  refine value_ (w1 := ?_) (v := ?_) (by rfl) rfl ?_ ?_
                  rotate_left 2
                  · go_simp
                    constructor
                    · rfl
                    · rfl
                  refine hK.out _ _ ⟨(HS35.out _ (below_alloc hB5 _)).1, (HS35.out _ (below_alloc hB5 _)).2⟩ (fun hHeld => ?_)
                  clear hK K
                  refine norm_ (a' := ?_) ?_ ?_
                  rotate_left
                  · show Act.put _ (some 22) _ = _
                    simp only [Act.put, List.setIfInBounds_toArray, List.set_cons_zero, List.set_cons_succ, i64_w, i32_w]
                    rfl
                  exact norm_ (by simp only [putAll, Act.put, List.setIfInBounds_toArray, List.set_cons_zero, List.set_cons_succ]) (hCont (w5.heap.size, A5, c5) _ ⟨below_alloc hB5 _, blk_new w5 _, hb5.size, hC5.below (below_alloc (Below.refl _ _) _)⟩)
                · skip
                  refine value_ (w1 := ?_) (v := ?_) (by rfl) rfl ?_ ?_
                  rotate_left 2
                  · go_simp
                    constructor
                    · rfl
                    · rfl
                  refine hK.out _ _ ⟨(HS35.out _ (below_alloc (below_drew (Below.refl _ _)) _)).1, (HS35.out _ (below_alloc (below_drew (Below.refl _ _)) _)).2⟩ (fun hHeld => ?_)
                  clear hK K
                  refine norm_ (a' := ?_) ?_ ?_
                  rotate_left
                  · show Act.put _ (some 22) _ = _
                    simp only [Act.put, List.setIfInBounds_toArray, List.set_cons_zero, List.set_cons_succ, i64_w, i32_w]
                    rfl
                  refine one_ (i := 13) (N := some 165) #[true, true, true, true, true, true, true, true, true, true, true, true, true, true, false, false, false, true, false, false] rfl rfl (by kernel_rfl) (by decide) (fun K hK => ?_)
                  refine goes_ Tryd.func16 (by kernel_rfl) rfl #[.pointer (some ⟨g5, 0, none⟩), .int .u64 x'.1, .int .i64 x'.2.1] (by rfl) rfl rfl (by simp only [List.map_toArray, List.map_cons, List.map_nil]; rfl) ?_
                  with_reducible refine (HC5A.out.got_c (by decide) (by decide) x' j HG.out.2.2.1 HG.out.2.2.2.1 HG.out.1 HG.out.2.1 HMAX.out).mono ?_
                  rintro e w6 ⟨A6, c6, rfl, hC6, hb6⟩
                  refine ⟨_, rfl, ?_⟩
                  have hb7 := below_alloc (below_drew (Below.refl wr.heap.size wr)) (.cells #[.int .u64 0, .int .i64 0, .int .i64 0, .slice none 0 0] 25)
                  have hB6 := hb7.trans (hb6.mono hb7.size)
                  refine hK.out _ _ ⟨(HS35.out _ hB6).1, (HS35.out _ hB6).2⟩ (fun hHeld => ?_)
                  clear hK K
                  refine norm_ (a' := ?_) ?_ ?_
                  rotate_left
                  · show Act.put _ (some 165) _ = _
                    simp only [Act.put, List.setIfInBounds_toArray, List.set_cons_zero, List.set_cons_succ, i64_w, i32_w]
                    rfl
                  refine pure_ (i := 14) (N := some 151) (v := ?_) (a' := ?_) #[true, true, true, true, true, true, true, true, true, true, true, true, true, true, true, false, false, true, false, false] rfl rfl (by kernel_rfl) (fun _ _ _ h => h) (Or.inl ⟨by rfl, ?_⟩) ?_ ?_
                  rotate_left
                  · intro w'
                    go_simp
                    with_reducible rfl
                  rotate_left
                  · simp only [Act.put, List.setIfInBounds_toArray, List.set_cons_zero, List.set_cons_succ, i64_w, i32_w]
                    rfl
                  refine pure_ (i := 15) (N := some 166) (v := ?_) (a' := ?_) #[true, true, true, true, true, true, true, true, true, true, true, true, true, true, true, true, false, true, false, false] rfl rfl (by kernel_rfl) (fun _ _ _ h => h) (Or.inl ⟨by rfl, ?_⟩) ?_ ?_
                  rotate_left
                  · intro w'
                    go_simp
                    with_reducible rfl
                  rotate_left
                  · simp only [Act.put, List.setIfInBounds_toArray, List.set_cons_zero, List.set_cons_succ, i64_w, i32_w]
                    rfl
                  refine pure_ (i := 16) (N := some 167) (v := ?_) (a' := ?_) #[true, true, true, true, true, true, true, true, true, true, true, true, true, true, true, true, true, true, false, false] rfl rfl (by kernel_rfl) (fun _ _ _ h => h) (Or.inl ⟨by rfl, ?_⟩) ?_ ?_
                  rotate_left
                  · intro w'
                    go_simp
                    with_reducible rfl
                  rotate_left
                  · simp only [Act.put, List.setIfInBounds_toArray, List.set_cons_zero, List.set_cons_succ, i64_w, i32_w]
                    rfl
                  exact norm_ (by simp only [putAll, Act.put, List.setIfInBounds_toArray, List.set_cons_zero, List.set_cons_succ]) (hCont (wr.heap.size, A6, c6) _ ⟨hB6, (hb6.block _ (blk_lt (blk_new wr.drew _))).trans (blk_new wr.drew _), Nat.le_refl _, hC6⟩)
              rintro ⟨s5, A5, c5⟩ W5 ⟨HB5, HK5, HS5, HC5⟩
              have hHeld := HS35.out _ HB5
              have hs0 := (cells4 HK5).1
              have hs1 := (cells4 HK5).2.1
              have hs2 := (cells4 HK5).2.2.1
              have hs3 := (cells4 HK5).2.2.2.1
              have hz0 := blk_frozen HK5 0
              have hz1 := blk_frozen HK5 1
              have hz2 := blk_frozen HK5 2
              have hz3 := blk_frozen HK5 3
              refine norm_ (a' := ?_) ?_ ?_
              rotate_left
              · simp only [putAll, Act.put, List.setIfInBounds_toArray, List.set_cons_zero, List.set_cons_succ]
                rfl
              refine last_ (i := 18) (N := none) #[true, true, true, true, true, true, true, true, true, true, true, true, true, true, true, true, true, true, true, false] rfl rfl (by kernel_rfl) (by decide) (fun K hK => ?_)
              refine skip_ (w1 := ?_) (by rfl) rfl ?_ ?_
              rotate_left
              · go_simp
                rfl
              refine hK.out _ _ ?_
              clear hK K
              refine pure_ (i := 19) (N := some 23) (v := ?_) (a' := ?_) #[true, true, true, true, true, true, true, true, true, true, true, true, true, true, true, true, true, true, true, true] rfl rfl (by kernel_rfl) (fun _ _ _ h => h) (Or.inl ⟨by rfl, ?_⟩) ?_ ?_
              rotate_left
              · intro w'
                go_simp
                with_reducible rfl
              rotate_left
              · simp only [Act.put, List.setIfInBounds_toArray, List.set_cons_zero, List.set_cons_succ, i64_w, i32_w]
                rfl
              refine done_ (by kernel_rfl) ?_
              have hK6 := blk4 HK5 (.int .u64 x'.1) (.int .i64 x'.2.1) (.int .i64 x'.2.2.1) (.slice A5 x'.2.2.2.length c5)
              have hB6 := below4 HB5 HS5 (.int .u64 x'.1) (.int .i64 x'.2.1) (.int .i64 x'.2.2.1) (.slice A5 x'.2.2.2.length c5)
              have hC6 := HC5.set4 HK5 (.int .u64 x'.1) (.int .i64 x'.2.1) (.int .i64 x'.2.2.1) (.slice A5 x'.2.2.2.length c5)
              replace HS5 : wr.heap.size ≤ s5 := HS5
              obtain ⟨W6, hW6⟩ : ∃ W6, ((((W5.setCell ⟨s5, 0, none⟩ (.int .u64 x'.1)).setCell ⟨s5, 1, none⟩ (.int .i64 x'.2.1)).setCell ⟨s5, 2, none⟩ (.int .i64 x'.2.2.1)).setCell ⟨s5, 3, none⟩ (.slice A5 x'.2.2.2.length c5)) = W6 := ⟨_, rfl⟩
              simp only [] at hK6 hB6 hC6
              rw [hW6] at hK6 hB6 hC6
              rw [hW6]
              have H6 := Aside0.mk (And.intro hK6 (And.intro hB6 (And.intro hC6 HS5)))
              clear hK6 hB6 hC6 hW6 hHeld hs0 hs1 hs2 hs3 hz0 hz1 hz2 hz3 HB5 HK5 HC5 HS5 W5
              have HC3V := Aside0.mk (HC3W.out.below H6.out.2.1)
              have HC3A := Aside0.mk (show CIn So go_ gx 1 5 (crash (flush d5).1 l1) m5 ((W6.alloc (.cells #[.int .u64 0, .int .i64 0, .int .i64 0, .slice none 0 0] 25)).drew) from HC3V.out.below (below_alloc (below_drew (Below.refl _ _)) _))
              have HS36 := Aside0.mk (show ∀ V, Below W6.heap.size W6 V → V.cell? (ad.add (k * 4)) = some (.int .u64 x'.1) ∧ V.cell? ⟨(ad.add (k * 4)).block, (ad.add (k * 4)).off + 1, none⟩ = some (.int .i64 x'.2.1) from fun V hV => HS35.out V (H6.out.2.1.trans (hV.mono H6.out.2.1.size)))
              go_upto_region 36 with (fail)
              refine start_ (n := 20) (S := fun w' => w'.cell? (ad.add (k * 4)) = some (.int .u64 x'.1) ∧ w'.cell? ⟨(ad.add (k * 4)).block, (ad.add (k * 4)).off + 1, none⟩ = some (.int .i64 x'.2.1)) (ds := [18]) #[false, false, false, false, false, false, false, false, false, false, false, false, false, false, false, false, false, false, false, false] (by kernel_rfl) rfl rfl ⟨(HS36.out _ (below_drew (Below.refl _ _))).1, (HS36.out _ (below_drew (Below.refl _ _))).2⟩ (fun hHeld => ?_)
              refine pure_ (i := 0) (N := some 169) (v := ?_) (a' := ?_) #[true, false, false, false, false, false, false, false, false, false, false, false, false, false, false, false, false, false, false, false] rfl rfl (by kernel_rfl) (fun _ _ _ h => h) (Or.inl ⟨by rfl, ?_⟩) ?_ ?_
              rotate_left
              · intro w'
                go_simp
                with_reducible rfl
              rotate_left
              · simp only [Act.put, List.setIfInBounds_toArray, List.set_cons_zero, List.set_cons_succ, i64_w, i32_w]
                rfl
              refine pure_ (i := 1) (N := some 170) (v := ?_) (a' := ?_) #[true, true, false, false, false, false, false, false, false, false, false, false, false, false, false, false, false, false, false, false] rfl rfl (by kernel_rfl) (fun _ _ _ h => h) (Or.inl ⟨by rfl, ?_⟩) ?_ ?_
              rotate_left
              · intro w'
                go_simp
                with_reducible rfl
              rotate_left
              · simp only [Act.put, List.setIfInBounds_toArray, List.set_cons_zero, List.set_cons_succ, i64_w, i32_w]
                rfl
              refine pure_ (i := 2) (N := some 171) (v := ?_) (a' := ?_) #[true, true, true, false, false, false, false, false, false, false, false, false, false, false, false, false, false, false, false, false] rfl rfl (by kernel_rfl) (fun _ _ _ h => h) (Or.inl ⟨by rfl, ?_⟩) ?_ ?_
              rotate_left
              · intro w'
                go_simp
                with_reducible rfl
              rotate_left
              · simp only [Act.put, List.setIfInBounds_toArray, List.set_cons_zero, List.set_cons_succ, i64_w, i32_w]
                rfl
              refine pure_ (i := 3) (N := some 172) (v := ?_) (a' := ?_) #[true, true, true, true, false, false, false, false, false, false, false, false, false, false, false, false, false, false, false, false] rfl rfl (by kernel_rfl) (fun _ _ _ h => h) (Or.inl ⟨by rfl, ?_⟩) ?_ ?_
              rotate_left
              · intro w'
                go_simp
                with_reducible rfl
              rotate_left
              · simp only [Act.put, List.setIfInBounds_toArray, List.set_cons_zero, List.set_cons_succ, i64_w, i32_w]
                rfl
              refine pure_ (i := 4) (N := some 173) (v := ?_) (a' := ?_) #[true, true, true, true, true, false, false, false, false, false, false, false, false, false, false, false, false, false, false, false] rfl rfl (by kernel_rfl) (fun _ _ _ h => h) (Or.inl ⟨by rfl, ?_⟩) ?_ ?_
              rotate_left
              · intro w'
                go_simp
                with_reducible rfl
              rotate_left
              · simp only [Act.put, List.setIfInBounds_toArray, List.set_cons_zero, List.set_cons_succ, i64_w, i32_w]
                rfl
              refine pure_ (i := 5) (N := some 174) (v := ?_) (a' := ?_) #[true, true, true, true, true, true, false, false, false, false, false, false, false, false, false, false, false, false, false, false] rfl rfl (by kernel_rfl) (fun _ _ _ h => h) (Or.inl ⟨by rfl, ?_⟩) ?_ ?_
              rotate_left
              · intro w'
                go_simp
                with_reducible rfl
              rotate_left
              · simp only [Act.put, List.setIfInBounds_toArray, List.set_cons_zero, List.set_cons_succ, i64_w, i32_w]
                rfl
              refine pure_ (i := 7) (N := some 176) (v := ?_) (a' := ?_) #[true, true, true, true, true, true, false, true, false, false, false, false, false, false, false, false, false, false, false, false] rfl rfl (by kernel_rfl) (fun _ _ _ h => h) (Or.inl ⟨by rfl, ?_⟩) ?_ ?_
              rotate_left
              · intro w'
                go_simp
                with_reducible rfl
              rotate_left
              · simp only [Act.put, List.setIfInBounds_toArray, List.set_cons_zero, List.set_cons_succ, i64_w, i32_w]
                rfl
              refine pure_ (i := 8) (N := some 177) (v := ?_) (a' := ?_) #[true, true, true, true, true, true, false, true, true, false, false, false, false, false, false, false, false, false, false, false] rfl rfl (by kernel_rfl) (fun _ _ _ h => h) (Or.inl ⟨by rfl, ?_⟩) ?_ ?_
              rotate_left
              · intro w'
                go_simp
                with_reducible rfl
              rotate_left
              · simp only [Act.put, List.setIfInBounds_toArray, List.set_cons_zero, List.set_cons_succ, i64_w, i32_w]
                rfl
              refine pure_ (i := 9) (N := some 178) (v := ?_) (a' := ?_) #[true, true, true, true, true, true, false, true, true, true, false, false, false, false, false, false, false, false, false, false] rfl rfl (by kernel_rfl) (fun _ _ _ h => h) (Or.inl ⟨by rfl, ?_⟩) ?_ ?_
              rotate_left
              · intro w'
                go_simp
                with_reducible rfl
              rotate_left
              · simp only [Act.put, List.setIfInBounds_toArray, List.set_cons_zero, List.set_cons_succ, i64_w, i32_w]
                rfl
              refine pure_ (i := 10) (N := some 179) (v := ?_) (a' := ?_) #[true, true, true, true, true, true, false, true, true, true, true, false, false, false, false, false, false, false, false, false] rfl rfl (by kernel_rfl) (fun _ _ _ h => h) (Or.inl ⟨by rfl, ?_⟩) ?_ ?_
              rotate_left
              · intro w'
                go_simp
                with_reducible rfl
              rotate_left
              · simp only [Act.put, List.setIfInBounds_toArray, List.set_cons_zero, List.set_cons_succ, i64_w, i32_w]
                rfl
              refine pure_ (i := 11) (N := some 180) (v := ?_) (a' := ?_) #[true, true, true, true, true, true, false, true, true, true, true, true, false, false, false, false, false, false, false, false] rfl rfl (by kernel_rfl) (fun _ _ _ h => h) (Or.inl ⟨by rfl, ?_⟩) ?_ ?_
              rotate_left
              · intro w'
                go_simp
                with_reducible rfl
              rotate_left
              · simp only [Act.put, List.setIfInBounds_toArray, List.set_cons_zero, List.set_cons_succ, i64_w, i32_w]
                rfl
              refine take_ (i := 6) (N := some 175) (v := ?_) (a' := ?_) #[true, true, true, true, true, true, true, true, true, true, true, true, false, false, false, false, false, false, false, false] rfl rfl (by kernel_rfl) (fun _ _ _ h => h) (Or.inl ⟨by rfl, ?_⟩) hHeld ?_ ?_
              rotate_left
              · rintro w' ⟨s0, s1⟩
                go_simp
                with_reducible rfl
              rotate_left
              · simp only [Act.put, List.setIfInBounds_toArray, List.set_cons_zero, List.set_cons_succ, i64_w, i32_w]
                rfl
              refine take_ (i := 12) (N := some 181) (v := ?_) (a' := ?_) #[true, true, true, true, true, true, true, true, true, true, true, true, true, false, false, false, false, false, false, false] rfl rfl (by kernel_rfl) (fun _ _ _ h => h) (Or.inl ⟨by rfl, ?_⟩) hHeld ?_ ?_
              rotate_left
              · rintro w' ⟨s0, s1⟩
                go_simp
                with_reducible rfl
              rotate_left
              · simp only [Act.put, List.setIfInBounds_toArray, List.set_cons_zero, List.set_cons_succ, i64_w, i32_w]
                rfl
              refine join_ (σ := Nat × Option Addr × Nat) 2 #[true, true, true, true, true, true, true, true, true, true, true, true, true, true, true, true, true, true, false, false] (fun s => [(182, .tuple #[.agg #[.int .u64 x'.1, .int .i64 x'.2.1, .int .i64 x'.2.2.1, .slice s.2.1 x'.2.2.2.length s.2.2], .bool true]), (168, .tuple #[.agg #[.int .u64 x'.1, .int .i64 x'.2.1, .int .i64 x'.2.2.1, .slice s.2.1 x'.2.2.2.length s.2.2], .bool true]), (183, .agg #[.int .u64 x'.1, .int .i64 x'.2.1, .int .i64 x'.2.2.1, .slice s.2.1 x'.2.2.2.length s.2.2]), (184, .bool true), (24, .pointer (some ⟨s.1, 0, none⟩))]) (fun s w' => Below W6.heap.size W6 w' ∧ w'.heap[s.1]? = some (.cells #[.int .u64 0, .int .i64 0, .int .i64 0, .slice none 0 0] 25 (0, 0)) ∧ W6.heap.size ≤ s.1 ∧ RowI w' s.2.1 s.2.2 x'.2.2.2) ?_ ?_
              rotate_left
              · intro hCont
                refine two_ (i := 13) (j := 17) (Ni := some 182) (Nj := some 24) #[true, true, true, true, true, true, true, true, true, true, true, true, true, true, false, false, false, false, false, false] #[true, true, true, true, true, true, true, true, true, true, true, true, true, false, false, false, false, true, false, false] rfl rfl rfl rfl (by kernel_rfl) (by decide) (by decide) (fun K hK => ?_) (fun K hK => ?_)
                · skip
                  refine goes_ Tryd.func16 (by kernel_rfl) rfl #[.pointer (some ⟨go_, 0, none⟩), .int .u64 x'.1, .int .i64 x'.2.1] (by rfl) rfl rfl (by simp only [List.map_toArray, List.map_cons, List.map_nil]; rfl) ?_
                  with_reducible refine ((HC3V.out.below (below_drew (Below.refl W6.heap.size W6))).got_c (by decide) (by decide) x' j HG.out.2.2.1 HG.out.2.2.2.1 HG.out.1 HG.out.2.1 HMAX.out).mono ?_
                  rintro e w5 ⟨A5, c5, rfl, hC5, hb5⟩
                  refine ⟨_, rfl, ?_⟩
                  have hB5 := (below_drew (Below.refl W6.heap.size W6)).trans hb5
                  refine hK.out _ _ ⟨(HS36.out _ hB5).1, (HS36.out _ hB5).2⟩ (fun hHeld => ?_)
                  clear hK K
                  refine norm_ (a' := ?_) ?_ ?_
                  rotate_left
                  · show Act.put _ (some 182) _ = _
                    simp only [Act.put, List.setIfInBounds_toArray, List.set_cons_zero, List.set_cons_succ, i64_w, i32_w]
                    rfl
                  refine pure_ (i := 14) (N := some 168) (v := ?_) (a' := ?_) #[true, true, true, true, true, true, true, true, true, true, true, true, true, true, true, false, false, false, false, false] rfl rfl (by kernel_rfl) (fun _ _ _ h => h) (Or.inl ⟨by rfl, ?_⟩) ?_ ?_
                  rotate_left
                  · intro w'
                    go_simp
                    with_reducible rfl
                  rotate_left
                  · simp only [Act.put, List.setIfInBounds_toArray, List.set_cons_zero, List.set_cons_succ, i64_w, i32_w]
                    rfl
                  refine pure_ (i := 15) (N := some 183) (v := ?_) (a' := ?_) #[true, true, true, true, true, true, true, true, true, true, true, true, true, true, true, true, false, false, false, false] rfl rfl (by kernel_rfl) (fun _ _ _ h => h) (Or.inl ⟨by rfl, ?_⟩) ?_ ?_
                  rotate_left
                  · intro w'
                    go_simp
                    with_reducible rfl
                  rotate_left
                  · simp only [Act.put, List.setIfInBounds_toArray, List.set_cons_zero, List.set_cons_succ, i64_w, i32_w]
                    rfl
                  refine pure_ (i := 16) (N := some 184) (v := ?_) (a' := ?_) #[true, true, true, true, true, true, true, true, true, true, true, true, true, true, true, true, true, false, false, false] rfl rfl (by kernel_rfl) (fun _ _ _ h => h) (Or.inl ⟨by rfl, ?_⟩) ?_ ?_
                  rotate_left
                  · intro w'
                    go_simp
                    with_reducible rfl
                  rotate_left
                  · simp only [Act.put, List.setIfInBounds_toArray, List.set_cons_zero, List.set_cons_succ, i64_w, i32_w]
                    rfl
                  refine one_ (i := 17) (N := some 24) #[true, true, true, true, true, true, true, true, true, true, true, true, true, true, true, true, true, true, false, false] rfl rfl (by kernel_rfl) (by decide) (fun K hK => ?_)
                  refine value_ (w1 := ?_) (v := ?_) (by rfl) rfl ?_ ?_
                  rotate_left 2
                  · go_simp
                    constructor
                    · rfl
                    · rfl
                  refine hK.out _ _ ⟨(HS36.out _ (below_alloc hB5 _)).1, (HS36.out _ (below_alloc hB5 _)).2⟩ (fun hHeld => ?_)
                  clear hK K
                  refine norm_ (a' := ?_) ?_ ?_
                  rotate_left
                  · show Act.put _ (some 24) _ = _
                    simp only [Act.put, List.setIfInBounds_toArray, List.set_cons_zero, List.set_cons_succ, i64_w, i32_w]
                    rfl
                  exact norm_ (by simp only [putAll, Act.put, List.setIfInBounds_toArray, List.set_cons_zero, List.set_cons_succ]) (hCont (w5.heap.size, A5, c5) _ ⟨below_alloc hB5 _, blk_new w5 _, hb5.size, hC5.below (below_alloc (Below.refl _ _) _)⟩)
                · skip
                  refine value_ (w1 := ?_) (v := ?_) (by rfl) rfl ?_ ?_
                  rotate_left 2
                  · go_simp
                    constructor
                    · rfl
                    · rfl
                  refine hK.out _ _ ⟨(HS36.out _ (below_alloc (below_drew (Below.refl _ _)) _)).1, (HS36.out _ (below_alloc (below_drew (Below.refl _ _)) _)).2⟩ (fun hHeld => ?_)
                  clear hK K
                  refine norm_ (a' := ?_) ?_ ?_
                  rotate_left
                  · show Act.put _ (some 24) _ = _
                    simp only [Act.put, List.setIfInBounds_toArray, List.set_cons_zero, List.set_cons_succ, i64_w, i32_w]
                    rfl
                  refine one_ (i := 13) (N := some 182) #[true, true, true, true, true, true, true, true, true, true, true, true, true, true, false, false, false, true, false, false] rfl rfl (by kernel_rfl) (by decide) (fun K hK => ?_)
                  refine goes_ Tryd.func16 (by kernel_rfl) rfl #[.pointer (some ⟨go_, 0, none⟩), .int .u64 x'.1, .int .i64 x'.2.1] (by rfl) rfl rfl (by simp only [List.map_toArray, List.map_cons, List.map_nil]; rfl) ?_
                  with_reducible refine (HC3A.out.got_c (by decide) (by decide) x' j HG.out.2.2.1 HG.out.2.2.2.1 HG.out.1 HG.out.2.1 HMAX.out).mono ?_
                  rintro e w6 ⟨A6, c6, rfl, hC6, hb6⟩
                  refine ⟨_, rfl, ?_⟩
                  have hb7 := below_alloc (below_drew (Below.refl W6.heap.size W6)) (.cells #[.int .u64 0, .int .i64 0, .int .i64 0, .slice none 0 0] 25)
                  have hB6 := hb7.trans (hb6.mono hb7.size)
                  refine hK.out _ _ ⟨(HS36.out _ hB6).1, (HS36.out _ hB6).2⟩ (fun hHeld => ?_)
                  clear hK K
                  refine norm_ (a' := ?_) ?_ ?_
                  rotate_left
                  · show Act.put _ (some 182) _ = _
                    simp only [Act.put, List.setIfInBounds_toArray, List.set_cons_zero, List.set_cons_succ, i64_w, i32_w]
                    rfl
                  refine pure_ (i := 14) (N := some 168) (v := ?_) (a' := ?_) #[true, true, true, true, true, true, true, true, true, true, true, true, true, true, true, false, false, true, false, false] rfl rfl (by kernel_rfl) (fun _ _ _ h => h) (Or.inl ⟨by rfl, ?_⟩) ?_ ?_
                  rotate_left
                  · intro w'
                    go_simp
                    with_reducible rfl
                  rotate_left
                  · simp only [Act.put, List.setIfInBounds_toArray, List.set_cons_zero, List.set_cons_succ, i64_w, i32_w]
                    rfl
                  refine pure_ (i := 15) (N := some 183) (v := ?_) (a' := ?_) #[true, true, true, true, true, true, true, true, true, true, true, true, true, true, true, true, false, true, false, false] rfl rfl (by kernel_rfl) (fun _ _ _ h => h) (Or.inl ⟨by rfl, ?_⟩) ?_ ?_
                  rotate_left
                  · intro w'
                    go_simp
                    with_reducible rfl
                  rotate_left
                  · simp only [Act.put, List.setIfInBounds_toArray, List.set_cons_zero, List.set_cons_succ, i64_w, i32_w]
                    rfl
                  refine pure_ (i := 16) (N := some 184) (v := ?_) (a' := ?_) #[true, true, true, true, true, true, true, true, true, true, true, true, true, true, true, true, true, true, false, false] rfl rfl (by kernel_rfl) (fun _ _ _ h => h) (Or.inl ⟨by rfl, ?_⟩) ?_ ?_
                  rotate_left
                  · intro w'
                    go_simp
                    with_reducible rfl
                  rotate_left
                  · simp only [Act.put, List.setIfInBounds_toArray, List.set_cons_zero, List.set_cons_succ, i64_w, i32_w]
                    rfl
                  exact norm_ (by simp only [putAll, Act.put, List.setIfInBounds_toArray, List.set_cons_zero, List.set_cons_succ]) (hCont (W6.heap.size, A6, c6) _ ⟨hB6, (hb6.block _ (blk_lt (blk_new W6.drew _))).trans (blk_new W6.drew _), Nat.le_refl _, hC6⟩)
              rintro ⟨s7, A7, c7⟩ W7 ⟨HB7, HK7, HS7, HC7⟩
              have hHeld := HS36.out _ HB7
              have hs0 := (cells4 HK7).1
              have hs1 := (cells4 HK7).2.1
              have hs2 := (cells4 HK7).2.2.1
              have hs3 := (cells4 HK7).2.2.2.1
              have hz0 := blk_frozen HK7 0
              have hz1 := blk_frozen HK7 1
              have hz2 := blk_frozen HK7 2
              have hz3 := blk_frozen HK7 3
              refine norm_ (a' := ?_) ?_ ?_
              rotate_left
              · simp only [putAll, Act.put, List.setIfInBounds_toArray, List.set_cons_zero, List.set_cons_succ]
                rfl
              refine last_ (i := 18) (N := none) #[true, true, true, true, true, true, true, true, true, true, true, true, true, true, true, true, true, true, true, false] rfl rfl (by kernel_rfl) (by decide) (fun K hK => ?_)
              refine skip_ (w1 := ?_) (by rfl) rfl ?_ ?_
              rotate_left
              · go_simp
                rfl
              refine hK.out _ _ ?_
              clear hK K
              refine pure_ (i := 19) (N := some 25) (v := ?_) (a' := ?_) #[true, true, true, true, true, true, true, true, true, true, true, true, true, true, true, true, true, true, true, true] rfl rfl (by kernel_rfl) (fun _ _ _ h => h) (Or.inl ⟨by rfl, ?_⟩) ?_ ?_
              rotate_left
              · intro w'
                go_simp
                with_reducible rfl
              rotate_left
              · simp only [Act.put, List.setIfInBounds_toArray, List.set_cons_zero, List.set_cons_succ, i64_w, i32_w]
                rfl
              refine done_ (by kernel_rfl) ?_
              have hK8 := blk4 HK7 (.int .u64 x'.1) (.int .i64 x'.2.1) (.int .i64 x'.2.2.1) (.slice A7 x'.2.2.2.length c7)
              have hB8 := below4 HB7 HS7 (.int .u64 x'.1) (.int .i64 x'.2.1) (.int .i64 x'.2.2.1) (.slice A7 x'.2.2.2.length c7)
              have hC8 := HC7.set4 HK7 (.int .u64 x'.1) (.int .i64 x'.2.1) (.int .i64 x'.2.2.1) (.slice A7 x'.2.2.2.length c7)
              obtain ⟨W8, hW8⟩ : ∃ W8, ((((W7.setCell ⟨s7, 0, none⟩ (.int .u64 x'.1)).setCell ⟨s7, 1, none⟩ (.int .i64 x'.2.1)).setCell ⟨s7, 2, none⟩ (.int .i64 x'.2.2.1)).setCell ⟨s7, 3, none⟩ (.slice A7 x'.2.2.2.length c7)) = W8 := ⟨_, rfl⟩
              simp only [] at hK8 hB8 hC8
              rw [hW8] at hK8 hB8 hC8
              rw [hW8]
              have hbw : Below wc.heap.size wc W8 := HW.out.trans ((H6.out.2.1.trans (hB8.mono H6.out.2.1.size)).mono HW.out.size)
              have hbv : Below w.heap.size w W8 := HC.out.2.2.1.trans (hbw.mono HC.out.2.2.1.size)
              have H8 := Aside0.mk (And.intro hK8 (And.intro ((hB8.block _ (blk_lt H6.out.1)).trans H6.out.1) (And.intro hC8 (And.intro (H6.out.2.2.1.below hB8) (And.intro hbw hbv)))))
              clear hK8 hB8 hC8 hW8 hbw hbv hHeld hs0 hs1 hs2 hs3 hz0 hz1 hz2 hz3 HB7 HK7 HC7 HS7 W7
              have HS37 := Aside0.mk (show ∀ V, Below W8.heap.size W8 V → V.cell? ⟨s5, 0, none⟩ = some (.int .u64 x'.1) ∧ V.cell? ⟨s5, 1, none⟩ = some (.int .i64 x'.2.1) ∧ V.cell? ⟨s5, 2, none⟩ = some (.int .i64 x'.2.2.1) ∧ V.cell? ⟨s5, 3, none⟩ = some (.slice A5 x'.2.2.2.length c5) ∧ V.cell? ⟨s7, 0, none⟩ = some (.int .u64 x'.1) ∧ V.cell? ⟨s7, 1, none⟩ = some (.int .i64 x'.2.1) ∧ V.cell? ⟨s7, 2, none⟩ = some (.int .i64 x'.2.2.1) ∧ V.cell? ⟨s7, 3, none⟩ = some (.slice A7 x'.2.2.2.length c7) ∧ V.cell? (ad.add (k * 4)) = some (.int .u64 x'.1) ∧ V.cell? ⟨(ad.add (k * 4)).block, (ad.add (k * 4)).off + 1, none⟩ = some (.int .i64 x'.2.1) ∧ V.cell? ⟨(ad.add (k * 4)).block, (ad.add (k * 4)).off + 2, none⟩ = some (.int .i64 x'.2.2.1) ∧ V.cell? ⟨(ad.add (k * 4)).block, (ad.add (k * 4)).off + 3, none⟩ = some (.slice Kr x'.2.2.2.length ck) from fun V hV => by
                obtain ⟨a0, a1, a2, a3, _⟩ := cells4 ((hV.block _ (blk_lt H8.out.2.1)).trans H8.out.2.1)
                obtain ⟨b0, b1, b2, b3, _⟩ := cells4 ((hV.block _ (blk_lt H8.out.1)).trans H8.out.1)
                have e := HACT.out V (H8.out.2.2.2.2.2.trans (hV.mono H8.out.2.2.2.2.2.size))
                exact ⟨a0, a1, a2, a3, b0, b1, b2, b3, e.key, e.asked, e.level, e.levels⟩)
              have HSM := Aside0.mk (HY.out.sames W8.drew (below_drew H8.out.2.2.2.2.2) x' HG49.out A5 c5 Kr ck H8.out.2.2.2.1.C.1 H8.out.2.2.2.1.C.2 (HACT.out _ H8.out.2.2.2.2.2).rowC (HACT.out _ H8.out.2.2.2.2.2).rowLe)
              go_upto_region 37 with (fail)
              refine start_ (n := 22) (S := fun w' => w'.cell? ⟨s5, 0, none⟩ = some (.int .u64 x'.1) ∧ w'.cell? ⟨s5, 1, none⟩ = some (.int .i64 x'.2.1) ∧ w'.cell? ⟨s5, 2, none⟩ = some (.int .i64 x'.2.2.1) ∧ w'.cell? ⟨s5, 3, none⟩ = some (.slice A5 x'.2.2.2.length c5) ∧ w'.cell? ⟨s7, 0, none⟩ = some (.int .u64 x'.1) ∧ w'.cell? ⟨s7, 1, none⟩ = some (.int .i64 x'.2.1) ∧ w'.cell? ⟨s7, 2, none⟩ = some (.int .i64 x'.2.2.1) ∧ w'.cell? ⟨s7, 3, none⟩ = some (.slice A7 x'.2.2.2.length c7) ∧ w'.cell? (ad.add (k * 4)) = some (.int .u64 x'.1) ∧ w'.cell? ⟨(ad.add (k * 4)).block, (ad.add (k * 4)).off + 1, none⟩ = some (.int .i64 x'.2.1) ∧ w'.cell? ⟨(ad.add (k * 4)).block, (ad.add (k * 4)).off + 2, none⟩ = some (.int .i64 x'.2.2.1) ∧ w'.cell? ⟨(ad.add (k * 4)).block, (ad.add (k * 4)).off + 3, none⟩ = some (.slice Kr x'.2.2.2.length ck)) (ds := []) #[false, false, false, false, false, false, false, false, false, false, false, false, false, false, false, false, false, false, false, false, false, false] (by kernel_rfl) rfl rfl ⟨(HS37.out _ (below_drew (Below.refl _ _))).1, (HS37.out _ (below_drew (Below.refl _ _))).2.1, (HS37.out _ (below_drew (Below.refl _ _))).2.2.1, (HS37.out _ (below_drew (Below.refl _ _))).2.2.2.1, (HS37.out _ (below_drew (Below.refl _ _))).2.2.2.2.1, (HS37.out _ (below_drew (Below.refl _ _))).2.2.2.2.2.1, (HS37.out _ (below_drew (Below.refl _ _))).2.2.2.2.2.2.1, (HS37.out _ (below_drew (Below.refl _ _))).2.2.2.2.2.2.2.1, (HS37.out _ (below_drew (Below.refl _ _))).2.2.2.2.2.2.2.2.1, (HS37.out _ (below_drew (Below.refl _ _))).2.2.2.2.2.2.2.2.2.1, (HS37.out _ (below_drew (Below.refl _ _))).2.2.2.2.2.2.2.2.2.2.1, (HS37.out _ (below_drew (Below.refl _ _))).2.2.2.2.2.2.2.2.2.2.2⟩ (fun hHeld => ?_)
              refine pure_ (i := 0) (N := some 185) (v := ?_) (a' := ?_) #[true, false, false, false, false, false, false, false, false, false, false, false, false, false, false, false, false, false, false, false, false, false] rfl rfl (by kernel_rfl) (fun _ _ _ h => h) (Or.inl ⟨by rfl, ?_⟩) ?_ ?_
              rotate_left
              · intro w'
                go_simp
                with_reducible rfl
              rotate_left
              · simp only [Act.put, List.setIfInBounds_toArray, List.set_cons_zero, List.set_cons_succ, i64_w, i32_w]
                rfl
              refine pure_ (i := 1) (N := some 186) (v := ?_) (a' := ?_) #[true, true, false, false, false, false, false, false, false, false, false, false, false, false, false, false, false, false, false, false, false, false] rfl rfl (by kernel_rfl) (fun _ _ _ h => h) (Or.inl ⟨by rfl, ?_⟩) ?_ ?_
              rotate_left
              · intro w'
                go_simp
                with_reducible rfl
              rotate_left
              · simp only [Act.put, List.setIfInBounds_toArray, List.set_cons_zero, List.set_cons_succ, i64_w, i32_w]
                rfl
              refine pure_ (i := 2) (N := some 187) (v := ?_) (a' := ?_) #[true, true, true, false, false, false, false, false, false, false, false, false, false, false, false, false, false, false, false, false, false, false] rfl rfl (by kernel_rfl) (fun _ _ _ h => h) (Or.inl ⟨by rfl, ?_⟩) ?_ ?_
              rotate_left
              · intro w'
                go_simp
                with_reducible rfl
              rotate_left
              · simp only [Act.put, List.setIfInBounds_toArray, List.set_cons_zero, List.set_cons_succ, i64_w, i32_w]
                rfl
              refine pure_ (i := 3) (N := some 188) (v := ?_) (a' := ?_) #[true, true, true, true, false, false, false, false, false, false, false, false, false, false, false, false, false, false, false, false, false, false] rfl rfl (by kernel_rfl) (fun _ _ _ h => h) (Or.inl ⟨by rfl, ?_⟩) ?_ ?_
              rotate_left
              · intro w'
                go_simp
                with_reducible rfl
              rotate_left
              · simp only [Act.put, List.setIfInBounds_toArray, List.set_cons_zero, List.set_cons_succ, i64_w, i32_w]
                rfl
              refine pure_ (i := 4) (N := some 189) (v := ?_) (a' := ?_) #[true, true, true, true, true, false, false, false, false, false, false, false, false, false, false, false, false, false, false, false, false, false] rfl rfl (by kernel_rfl) (fun _ _ _ h => h) (Or.inl ⟨by rfl, ?_⟩) ?_ ?_
              rotate_left
              · intro w'
                go_simp
                with_reducible rfl
              rotate_left
              · simp only [Act.put, List.setIfInBounds_toArray, List.set_cons_zero, List.set_cons_succ, i64_w, i32_w]
                rfl
              refine pure_ (i := 5) (N := some 190) (v := ?_) (a' := ?_) #[true, true, true, true, true, true, false, false, false, false, false, false, false, false, false, false, false, false, false, false, false, false] rfl rfl (by kernel_rfl) (fun _ _ _ h => h) (Or.inl ⟨by rfl, ?_⟩) ?_ ?_
              rotate_left
              · intro w'
                go_simp
                with_reducible rfl
              rotate_left
              · simp only [Act.put, List.setIfInBounds_toArray, List.set_cons_zero, List.set_cons_succ, i64_w, i32_w]
                rfl
              refine pure_ (i := 6) (N := some 191) (v := ?_) (a' := ?_) #[true, true, true, true, true, true, true, false, false, false, false, false, false, false, false, false, false, false, false, false, false, false] rfl rfl (by kernel_rfl) (fun _ _ _ h => h) (Or.inl ⟨by rfl, ?_⟩) ?_ ?_
              rotate_left
              · intro w'
                go_simp
                with_reducible rfl
              rotate_left
              · simp only [Act.put, List.setIfInBounds_toArray, List.set_cons_zero, List.set_cons_succ, i64_w, i32_w]
                rfl
              refine pure_ (i := 8) (N := some 193) (v := ?_) (a' := ?_) #[true, true, true, true, true, true, true, false, true, false, false, false, false, false, false, false, false, false, false, false, false, false] rfl rfl (by kernel_rfl) (fun _ _ _ h => h) (Or.inl ⟨by rfl, ?_⟩) ?_ ?_
              rotate_left
              · intro w'
                go_simp
                with_reducible rfl
              rotate_left
              · simp only [Act.put, List.setIfInBounds_toArray, List.set_cons_zero, List.set_cons_succ, i64_w, i32_w]
                rfl
              refine pure_ (i := 9) (N := some 194) (v := ?_) (a' := ?_) #[true, true, true, true, true, true, true, false, true, true, false, false, false, false, false, false, false, false, false, false, false, false] rfl rfl (by kernel_rfl) (fun _ _ _ h => h) (Or.inl ⟨by rfl, ?_⟩) ?_ ?_
              rotate_left
              · intro w'
                go_simp
                with_reducible rfl
              rotate_left
              · simp only [Act.put, List.setIfInBounds_toArray, List.set_cons_zero, List.set_cons_succ, i64_w, i32_w]
                rfl
              refine pure_ (i := 10) (N := some 195) (v := ?_) (a' := ?_) #[true, true, true, true, true, true, true, false, true, true, true, false, false, false, false, false, false, false, false, false, false, false] rfl rfl (by kernel_rfl) (fun _ _ _ h => h) (Or.inl ⟨by rfl, ?_⟩) ?_ ?_
              rotate_left
              · intro w'
                go_simp
                with_reducible rfl
              rotate_left
              · simp only [Act.put, List.setIfInBounds_toArray, List.set_cons_zero, List.set_cons_succ, i64_w, i32_w]
                rfl
              refine pure_ (i := 11) (N := some 196) (v := ?_) (a' := ?_) #[true, true, true, true, true, true, true, false, true, true, true, true, false, false, false, false, false, false, false, false, false, false] rfl rfl (by kernel_rfl) (fun _ _ _ h => h) (Or.inl ⟨by rfl, ?_⟩) ?_ ?_
              rotate_left
              · intro w'
                go_simp
                with_reducible rfl
              rotate_left
              · simp only [Act.put, List.setIfInBounds_toArray, List.set_cons_zero, List.set_cons_succ, i64_w, i32_w]
                rfl
              refine take_ (i := 7) (N := some 192) (v := ?_) (a' := ?_) #[true, true, true, true, true, true, true, true, true, true, true, true, false, false, false, false, false, false, false, false, false, false] rfl rfl (by kernel_rfl) (fun _ _ _ h => h) (Or.inl ⟨by rfl, ?_⟩) hHeld ?_ ?_
              rotate_left
              · rintro w' ⟨s0, s1, s2, s3, s4, s5, s6, s7, s8, s9, s10, s11⟩
                go_simp
                with_reducible rfl
              rotate_left
              · simp only [Act.put, List.setIfInBounds_toArray, List.set_cons_zero, List.set_cons_succ, i64_w, i32_w]
                rfl
              refine take_ (i := 12) (N := some 197) (v := ?_) (a' := ?_) #[true, true, true, true, true, true, true, true, true, true, true, true, true, false, false, false, false, false, false, false, false, false] rfl rfl (by kernel_rfl) (fun _ _ _ h => h) (Or.inl ⟨by rfl, ?_⟩) hHeld ?_ ?_
              rotate_left
              · rintro w' ⟨s0, s1, s2, s3, s4, s5, s6, s7, s8, s9, s10, s11⟩
                go_simp
                with_reducible rfl
              rotate_left
              · simp only [Act.put, List.setIfInBounds_toArray, List.set_cons_zero, List.set_cons_succ, i64_w, i32_w]
                rfl
              refine one_ (i := 13) (N := some 198) #[true, true, true, true, true, true, true, true, true, true, true, true, true, true, false, false, false, false, false, false, false, false] rfl rfl (by kernel_rfl) (by decide) (fun K hK => ?_)
              refine goes_ Tryd.func15 (by kernel_rfl) rfl #[.agg #[.int .u64 x'.1, .int .i64 x'.2.1, .int .i64 x'.2.2.1, .slice A5 x'.2.2.2.length c5], .agg #[.int .u64 x'.1, .int .i64 x'.2.1, .int .i64 x'.2.2.1, .slice Kr x'.2.2.2.length ck]] (by rfl) rfl rfl (by simp only [List.map_toArray, List.map_cons, List.map_nil]; rfl) ?_
              with_reducible refine (HSM.out).mono ?_
              rintro e w9 ⟨rfl, hb9⟩
              refine ⟨_, rfl, ?_⟩
              have hB9 := (below_drew (Below.refl W8.heap.size W8)).trans hb9
              have hV9 : Below w.heap.size w w9 := H8.out.2.2.2.2.2.trans (hB9.mono H8.out.2.2.2.2.2.size)
              refine hK.out _ _ ⟨(HS37.out _ hB9).1, (HS37.out _ hB9).2.1, (HS37.out _ hB9).2.2.1, (HS37.out _ hB9).2.2.2.1, (HS37.out _ hB9).2.2.2.2.1, (HS37.out _ hB9).2.2.2.2.2.1, (HS37.out _ hB9).2.2.2.2.2.2.1, (HS37.out _ hB9).2.2.2.2.2.2.2.1, (HS37.out _ hB9).2.2.2.2.2.2.2.2.1, (HS37.out _ hB9).2.2.2.2.2.2.2.2.2.1, (HS37.out _ hB9).2.2.2.2.2.2.2.2.2.2.1, (HS37.out _ hB9).2.2.2.2.2.2.2.2.2.2.2⟩ (fun hHeld => ?_)
              clear hK K
              refine norm_ (a' := ?_) ?_ ?_
              rotate_left
              · show Act.put _ (some 198) _ = _
                simp only [Act.put, List.setIfInBounds_toArray, List.set_cons_zero, List.set_cons_succ, i64_w, i32_w]
                rfl
              refine pure_ (i := 14) (N := some 199) (v := ?_) (a' := ?_) #[true, true, true, true, true, true, true, true, true, true, true, true, true, true, true, false, false, false, false, false, false, false] rfl rfl (by kernel_rfl) (fun _ _ _ h => h) (Or.inl ⟨by rfl, ?_⟩) ?_ ?_
              rotate_left
              · intro w'
                go_simp
                with_reducible rfl
              rotate_left
              · simp only [Act.put, List.setIfInBounds_toArray, List.set_cons_zero, List.set_cons_succ, i64_w, i32_w]
                rfl
              refine pure_ (i := 15) (N := some 200) (v := ?_) (a' := ?_) #[true, true, true, true, true, true, true, true, true, true, true, true, true, true, true, true, false, false, false, false, false, false] rfl rfl (by kernel_rfl) (fun _ _ _ h => h) (Or.inl ⟨by rfl, ?_⟩) ?_ ?_
              rotate_left
              · intro w'
                go_simp
                with_reducible rfl
              rotate_left
              · simp only [Act.put, List.setIfInBounds_toArray, List.set_cons_zero, List.set_cons_succ, i64_w, i32_w]
                rfl
              refine pure_ (i := 16) (N := some 201) (v := ?_) (a' := ?_) #[true, true, true, true, true, true, true, true, true, true, true, true, true, true, true, true, true, false, false, false, false, false] rfl rfl (by kernel_rfl) (fun _ _ _ h => h) (Or.inl ⟨by rfl, ?_⟩) ?_ ?_
              rotate_left
              · intro w'
                go_simp
                with_reducible rfl
              rotate_left
              · simp only [Act.put, List.setIfInBounds_toArray, List.set_cons_zero, List.set_cons_succ, i64_w, i32_w]
                rfl
              refine take_ (i := 17) (N := some 202) (v := ?_) (a' := ?_) #[true, true, true, true, true, true, true, true, true, true, true, true, true, true, true, true, true, true, false, false, false, false] rfl rfl (by kernel_rfl) (fun _ _ _ h => h) (Or.inl ⟨by rfl, ?_⟩) hHeld ?_ ?_
              rotate_left
              · rintro w' ⟨s0, s1, s2, s3, s4, s5, s6, s7, s8, s9, s10, s11⟩
                go_simp
                with_reducible rfl
              rotate_left
              · simp only [Act.put, List.setIfInBounds_toArray, List.set_cons_zero, List.set_cons_succ, i64_w, i32_w]
                rfl
              refine take_ (i := 18) (N := some 203) (v := ?_) (a' := ?_) #[true, true, true, true, true, true, true, true, true, true, true, true, true, true, true, true, true, true, true, false, false, false] rfl rfl (by kernel_rfl) (fun _ _ _ h => h) (Or.inl ⟨by rfl, ?_⟩) hHeld ?_ ?_
              rotate_left
              · rintro w' ⟨s0, s1, s2, s3, s4, s5, s6, s7, s8, s9, s10, s11⟩
                go_simp
                with_reducible rfl
              rotate_left
              · simp only [Act.put, List.setIfInBounds_toArray, List.set_cons_zero, List.set_cons_succ, i64_w, i32_w]
                rfl
              refine one_ (i := 19) (N := some 204) #[true, true, true, true, true, true, true, true, true, true, true, true, true, true, true, true, true, true, true, true, false, false] rfl rfl (by kernel_rfl) (by decide) (fun K hK => ?_)
              refine goes_ Tryd.func15 (by kernel_rfl) rfl #[.agg #[.int .u64 x'.1, .int .i64 x'.2.1, .int .i64 x'.2.2.1, .slice A7 x'.2.2.2.length c7], .agg #[.int .u64 x'.1, .int .i64 x'.2.1, .int .i64 x'.2.2.1, .slice A5 x'.2.2.2.length c5]] (by rfl) rfl rfl (by simp only [List.map_toArray, List.map_cons, List.map_nil]; rfl) ?_
              with_reducible refine (HY.out.sames w9 hV9 x' HG49.out A7 c7 A5 c5 (H8.out.2.2.1.below hB9).C.1 H8.out.2.2.1.C.2 (H8.out.2.2.2.1.below hB9).C.1 H8.out.2.2.2.1.C.2).mono ?_
              rintro e w10 ⟨rfl, hb10⟩
              refine ⟨_, rfl, ?_⟩
              have hB10 := hB9.trans (hb10.mono hB9.size)
              refine hK.out _ _ ⟨(HS37.out _ hB10).1, (HS37.out _ hB10).2.1, (HS37.out _ hB10).2.2.1, (HS37.out _ hB10).2.2.2.1, (HS37.out _ hB10).2.2.2.2.1, (HS37.out _ hB10).2.2.2.2.2.1, (HS37.out _ hB10).2.2.2.2.2.2.1, (HS37.out _ hB10).2.2.2.2.2.2.2.1, (HS37.out _ hB10).2.2.2.2.2.2.2.2.1, (HS37.out _ hB10).2.2.2.2.2.2.2.2.2.1, (HS37.out _ hB10).2.2.2.2.2.2.2.2.2.2.1, (HS37.out _ hB10).2.2.2.2.2.2.2.2.2.2.2⟩ (fun hHeld => ?_)
              clear hK K
              refine norm_ (a' := ?_) ?_ ?_
              rotate_left
              · show Act.put _ (some 204) _ = _
                simp only [Act.put, List.setIfInBounds_toArray, List.set_cons_zero, List.set_cons_succ, i64_w, i32_w]
                rfl
              refine pure_ (i := 20) (N := some 205) (v := ?_) (a' := ?_) #[true, true, true, true, true, true, true, true, true, true, true, true, true, true, true, true, true, true, true, true, true, false] rfl rfl (by kernel_rfl) (fun _ _ _ h => h) (Or.inl ⟨by rfl, ?_⟩) ?_ ?_
              rotate_left
              · intro w'
                go_simp
                with_reducible rfl
              rotate_left
              · simp only [Act.put, List.setIfInBounds_toArray, List.set_cons_zero, List.set_cons_succ, i64_w, i32_w]
                rfl
              refine pure_ (i := 21) (N := some 206) (v := ?_) (a' := ?_) #[true, true, true, true, true, true, true, true, true, true, true, true, true, true, true, true, true, true, true, true, true, true] rfl rfl (by kernel_rfl) (fun _ _ _ h => h) (Or.inl ⟨by rfl, ?_⟩) ?_ ?_
              rotate_left
              · intro w'
                go_simp
                with_reducible rfl
              rotate_left
              · simp only [Act.put, List.setIfInBounds_toArray, List.set_cons_zero, List.set_cons_succ, i64_w, i32_w]
                rfl
              refine done_ (by kernel_rfl) ?_
              have HW10 := Aside0.mk (H8.out.2.2.2.2.1.trans (hB10.mono H8.out.2.2.2.2.1.size))
              clear hB10 hB9 hb9 hb10 hV9
              go_wp2
              go_roundg (gk - 1)
              case measure => have := HJ.out; omega
              case rel => exact ⟨j + 1, by first | rw [y3_] | rfl | simp, by first | rw [HY4.out] | rfl, ⟨by have := HJ2.out; have := HJ.out; omega⟩, HW10⟩
          · have y1_ : ((j : Int) < 5) = False := eq_false (by omega)
            have y2_ : (j < 5) = False := eq_false hj
            obtain rfl : j = 5 := by have := HJ.out; omega
            clear hj
            go_wp2_with (first | (go_at_call 19; refine ((HC.out.1.below HW.out).ents_c (by decide) HMAX.out).mono ?_; rintro e wx ⟨vx, rfl, hRx, hbx⟩; refine of_halt ?_))
            unfold G.Halt
            obtain ⟨Ax, cx, rfl⟩ := Kd.R_slice hRx
            have HBX := Aside0.mk (HW.out.trans (hbx.mono HW.out.size))
            clear hRx hbx
            go_wp2_with (first | (go_at_call 19; refine ((HC.out.2.1.below HBX.out).ents_c (by decide) HMAX.out).mono ?_; rintro e wy ⟨vy, rfl, hRy, hby⟩; refine of_halt ?_))
            unfold G.Halt
            obtain ⟨Ay, cy, rfl⟩ := Kd.R_slice hRy
            have hbz := HBX.out.trans (hby.mono HBX.out.size)
            have HBZ := Aside0.mk (HC.out.2.2.1.trans (hbz.mono HC.out.2.2.1.size))
            clear hRy hby hbz
            go_wp2
            go_ret
            exact ⟨rfl, HBZ.out⟩
end Go.Proofs.YtogapedacdnfcaaDoor.G
