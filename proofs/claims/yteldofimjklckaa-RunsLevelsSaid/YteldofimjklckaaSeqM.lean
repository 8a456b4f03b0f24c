/- runs.Sequences: the closure that lets a sequence grow. By hand. -/
import Derived.Test.YteldofimjklckaaSeqP
import Derived.Test.YteldofimjklckaaKitM
import Derived.Test.YteldofimjklckaaX2
import Derived.Deep.QuietTactic
import Derived.BigQuiet
import Derived.Test.YteldofimjklckaaHResM
import Derived.Laws.EntriesVeiled
import Derived.IntWalk
namespace Go.Proofs.Yteldofimjklckaa.G
open Go.RowKit Go.Proofs.Yteldofimjklckaa.X Go.Proofs.YteldofimjklckaaW.PrintWords Go.Proofs.YteldofimjklckaaW.PrintLast Go.Proofs.YteldofimjklckaaW.PrintMore Go.Proofs.Yteldofimjklckaa.Exp Go.Proofs.Yteldofimjklckaa.Run Go.Proofs.Yteldofimjklckaa.Iso
set_option linter.unusedVariables false
set_option linter.unusedSimpArgs false

def growV (bc bm bb bg ba : Nat) : Value := .func (.func 22) #[] #[.pointer (some ⟨bc, 0, none⟩), .pointer (some ⟨bm, 0, none⟩), .pointer (some ⟨bb, 0, none⟩), .pointer (some ⟨bg, 0, none⟩), .pointer (some ⟨ba, 0, none⟩)]
/-- What the closure meets: the classes, whose PDI is whose, the runs, and where they begin. -/
structure Env (c : List Int) (base : Int) (bc bm bb bg ba bp : Nat) (A0 Am Aa : Option Addr) (c0 cm ca : Nat) (W : World) : Prop where
  vc : W.heap[bc]? = some (.cells #[.slice A0 c.length c0] 22 (0, 0))
  vm : W.heap[bm]? = some (.cells #[.slice Am c.length cm] 22 (0, 0))
  vb : W.heap[bb]? = some (.cells #[.map (some bp)] 43 (0, 0))
  vg : W.heap[bg]? = some (.cells #[growV bc bm bb bg ba] 40 (0, 0))
  va : W.heap[ba]? = some (.cells #[.slice Aa (heads (lvs c base) c.length).length ca] 24 (0, 0))
  mp : W.heap[bp]? = some (mapObj (heads (lvs c base) c.length))
  hc : Kd.C (Kd.int .i64) W A0 c.length c
  hm : Kd.C (Kd.int .i64) W Am c.length (mts c)
  ha : Kd.C (Kd.slice 3 (Kd.int .i64)) W Aa (heads (lvs c base) c.length).length (levI (lvs c base) c.length)
theorem Env.below {c : List Int} {base : Int} {bc bm bb bg ba bp : Nat} {A0 Am Aa : Option Addr} {c0 cm ca : Nat} {W W' : World} (h : Env c base bc bm bb bg ba bp A0 Am Aa c0 cm ca W) (hb : Below W.heap.size W W') : Env c base bc bm bb bg ba bp A0 Am Aa c0 cm ca W' :=
  ⟨blk_below h.vc hb, blk_below h.vm hb, blk_below h.vb hb, blk_below h.vg hb, blk_below h.va hb, (hb.block _ (blk_lt h.mp)).trans h.mp, Kd.C_below h.hc hb, Kd.C_below h.hm hb, Kd.C_below h.ha hb⟩
theorem grown_trans {W W1 W2 : World} {row row1 : Option Nat} (h : W.grownBy W1 row) (k : W1.grownBy W2 row1) (hr : row1 = row ∨ ∃ b, row1 = some b ∧ W.heap.size ≤ b) : W.grownBy W2 row :=
  ⟨k.os.trans h.os, k.tape.trans h.tape, k.output.trans h.output, Nat.le_trans h.size k.size, fun i hi hn => (k.block i (Nat.lt_of_lt_of_le hi h.size) (by
    rcases hr with rfl | ⟨b, rfl, hb⟩
    · exact hn
    · intro e; injection e with e; omega)).trans (h.block i hi hn)⟩
theorem grown_of_below {W W1 : World} {row : Option Nat} (h : Below W.heap.size W W1) : W.grownBy W1 row := ⟨h.os, h.tape, h.output, h.size, fun i hi _ => h.block i hi⟩
theorem grown_below1 {B : Nat} {W W1 : World} {row : Option Nat} (h : W.grownBy W1 row) (hB : B ≤ W.heap.size) (hr : ∀ g, row = some g → B ≤ g) : Below B W W1 := ⟨h.os, h.tape, h.output, h.size, fun k hk => h.block k (by omega) (fun e => by have := hr k e.symm; omega)⟩
theorem hat_trans {W W1 W2 : World} {v v1 v2 : Value} (h1 : v1.ownBlock = v.ownBlock ∨ ∃ b, v1.ownBlock = some b ∧ W1.heap.size ≤ b) (h2 : v2.ownBlock = v1.ownBlock ∨ ∃ b, v2.ownBlock = some b ∧ W2.heap.size ≤ b) (hs : W.heap.size ≤ W1.heap.size) (hs2 : W1.heap.size ≤ W2.heap.size) : v2.ownBlock = v.ownBlock ∨ ∃ b, v2.ownBlock = some b ∧ W.heap.size ≤ b := by
  rcases h2 with h2 | ⟨b, h2, hb⟩
  · rcases h1 with h1 | ⟨b, h1, hb⟩
    · exact .inl (h2.trans h1)
    · exact .inr ⟨b, h2.trans h1, by omega⟩
  · exact .inr ⟨b, h2, by omega⟩
def GrowPost (b1 : Nat) (ok : Nat → Prop) (xs : List Int) (v : Value) (W : World) (e : Ending) (w' : World) : Prop := ∃ v', e = .returned v' ∧ Kd.R (Kd.int .i64) 3 w' b1 ok v' xs ∧ W.grownBy w' v.ownBlock ∧ (v'.ownBlock = v.ownBlock ∨ ∃ b, v'.ownBlock = some b ∧ W.heap.size ≤ b)
theorem starts_q (x : Int) (W : World) (n : Nat) : Calls Try.prog 23 #[.int .i64 x] (W.drewN n) fun e w'' => e = .returned (.bool (st x)) ∧ ∃ m, w'' = W.drewN m :=
  Calls.quiet_of ((runs_starts.calls x (st x) _ (rstarts_eq x)).mono fun _ _ h => ⟨h.1, h.2.out⟩)
/-- Places that rise, so many. -/
theorem sorted_len : ∀ (l : List Nat) (a n : Nat), l.Pairwise (· < ·) → (∀ x ∈ l, a ≤ x ∧ x < n) → l.length ≤ n - a
  | [], a, n, _, _ => by simp
  | x :: t, a, n, hp, hx => by
    have h1 := List.pairwise_cons.1 hp
    have h2 := hx x (by simp)
    have := sorted_len t (x + 1) n h1.2 (fun y hy => ⟨h1.1 y hy, (hx y (by simp [hy])).2⟩)
    simp only [List.length_cons]
    omega
theorem mts_rd (c : List Int) (i : Nat) (hi : i < c.length) : rd (mts c) (i : Int) = mtc c i := by rw [rd_nat, mts_get c i hi]
theorem last_get {r : List Nat} (h : r ≠ []) (P : List Int) (m : Nat) (hm : (P ++ toI r).length = m + 1) : rd (P ++ toI r) (m : Int) = ((r.getLastD 0 : Nat) : Int) := by
  rw [rd_nat, List.getD_eq_getElem?_getD]
  have hl : (P ++ toI r).length - 1 = m := by omega
  have h1 : (P ++ toI r).getLast? = some ((r.getLastD 0 : Nat) : Int) := by
    obtain ⟨t, z, rfl⟩ : ∃ t z, r = t ++ [z] := ⟨r.dropLast, r.getLast h, (List.dropLast_concat_getLast h).symm⟩
    rw [List.getLastD_eq_getLast?]
    simp [toI]
  rw [List.getLast?_eq_getElem?, hl] at h1
  rw [h1]
  rfl
section
variable {c : List Int} {base : Int} (hf : formed c) (hb0 : 0 ≤ base) (hb : base ≤ 125)
theorem run_ne {g : Nat} (hg : isH (lvs c base) g = true) : run (lvs c base) c.length g ≠ [] := by
  have hgl : g < c.length := by have := kp_lt (isH_kp hg); rwa [lvs_length] at this
  obtain ⟨t, ht⟩ := run_head hg hgl
  rw [ht]
  simp
end
set_option maxHeartbeats 16000000 in
set_option maxRecDepth 100000 in
theorem grow_calls {c : List Int} {base : Int} (hf : formed c) (hb0 : 0 ≤ base) (hb : base ≤ 125) (hl : c.length ≤ 1048576) {bc bm bb bg ba bp : Nat} {A0 Am Aa : Option Addr} {c0 cm ca : Nat} {W1 : World} (hE : Env c base bc bm bb bg ba bp A0 Am Aa c0 cm ca W1) :
    ∀ (f g : Nat), isH (lvs c base) g = true → c.length ≤ g + f → ∀ (P : List Int) (v : Value) (ok : Nat → Prop) (W : World), Below W1.heap.size W1 W → (∀ k, W.heap.size ≤ k → ok k) → P.length + (places c base f g).length ≤ 4194304 → Kd.R (Kd.int .i64) 3 W W1.heap.size ok v (P ++ toI (run (lvs c base) c.length g)) →
      Calls Try.prog 22 #[v, .pointer (some ⟨bc, 0, none⟩), .pointer (some ⟨bm, 0, none⟩), .pointer (some ⟨bb, 0, none⟩), .pointer (some ⟨bg, 0, none⟩), .pointer (some ⟨ba, 0, none⟩)] W (GrowPost W1.heap.size ok (P ++ toI (places c base f g)) v W) := by
  have info3 : (Try.prog.info? 3).map (fun i => (i.zero, i.size, i.bytes)) = some (some (.int .i64 0), 1, 8) := by kernel_rfl
  intro f
  induction f with
  | zero =>
    intro g hg hfu
    exfalso
    have := kp_lt (isH_kp hg)
    rw [lvs_length] at this
    omega
  | succ f ih =>
    intro g hg hfu P v ok W hB hfr hlen hR
    have hgl : g < c.length := by have := kp_lt (isH_kp hg); rwa [lvs_length] at this
    have hne := run_ne (c := c) hg
    have hmem := last_mem hg hgl
    have hel : lst c base g < c.length := (mem_run.1 hmem).1
    obtain ⟨m, N, hN, hm⟩ : ∃ m N, (P ++ toI (run (lvs c base) c.length g)).length = N ∧ N = m + 1 := ⟨(P ++ toI (run (lvs c base) c.length g)).length - 1, _, rfl, by
      have := List.length_pos_iff.2 hne
      rw [List.length_append, toI_length]; omega⟩
    have hlast := last_get hne P m (hN.trans hm)
    change rd _ _ = ((lst c base g : Nat) : Int) at hlast
    obtain ⟨gp, cp, rfl, hgp, _⟩ := Kd.R_form hR (by omega)
    rw [hN] at hR ⊢
    obtain ⟨hx, _⟩ := Kd.R_celln 0 hR (m : Int) (by omega) (by omega)
    rw [show rdOf 0 (P ++ toI (run (lvs c base) c.length g)) (m : Int) = rd (P ++ toI (run (lvs c base) c.length g)) (m : Int) from rfl, hlast, Int.toNat_natCast] at hx
    have hEW := hE.below hB
    have hmax : N ≤ 9223372036854775807 := by
      have := Kd.C_max (Kd.R_reads' hR).2.2
      rw [← hN]; exact this
    obtain ⟨e, he⟩ : ∃ e, lst c base g = e := ⟨_, rfl⟩
    rw [he] at hx hel
    obtain ⟨adc, eA0, hxc⟩ := Kd.at_int hEW.hc (e : Int) (by omega) (by omega)
    obtain ⟨adm, eAm, hxm⟩ := Kd.at_int hEW.hm (e : Int) (by omega) (by omega)
    subst eA0 eAm
    rw [Int.toNat_natCast] at hxc hxm
    rw [mts_rd c e hel] at hxm
    have hcb := (blk_cell hEW.vc 0).trans (show _ = some (Value.slice (some adc) c.length c0) from rfl)
    have hmb := (blk_cell hEW.vm 0).trans (show _ = some (Value.slice (some adm) c.length cm) from rfl)
    have hbb := (blk_cell hEW.vb 0).trans (show _ = some (Value.map (some bp)) from rfl)
    have e1 : wrap64 ((N : Int) - 1) = (m : Int) := by unfold wrap64; omega
    have p1 : ((m : Int) < (N : Int)) = True := eq_true (by omega)
    have p2 : (m < N) = True := eq_true (by omega)
    have p3 : ((e : Int) < (c.length : Int)) = True := eq_true (by omega)
    have p4 : (e < c.length) = True := eq_true hel
    have HEW := Aside0.mk hEW
    have HR := Aside0.mk hR
    have HB := Aside0.mk hB
    have HFR := Aside0.mk hfr
    have HLEN := Aside0.mk hlen
    have IH := Aside0.mk ih
    have HG := Aside0.mk hg
    have HF := Aside0.mk (And.intro hf (And.intro hb0 hb))
    have HM := Aside0.mk (And.intro hN (And.intro hm hlast))
    have HL := Aside0.mk (And.intro hl (And.intro hfu hgl))
    have HE := Aside0.mk he
    have HQ : ∀ x V n, Calls Try.prog 23 #[.int .i64 x] (World.drewN V n) fun e w'' => e = .returned (.bool (st x)) ∧ ∃ m, w'' = World.drewN V m := fun x V n => starts_q x V n
    have HQ := Aside0.mk HQ
    by_cases hs : st (c.getD e 0) = true
    · have hs' : st (rd c (e : Int)) = true := by rw [rd_nat]; exact hs
      have hmt : mtc c e = (partner c e : Int) := by unfold mtc; rw [if_pos hs]
      obtain ⟨q, hq⟩ : ∃ q, partner c e = q := ⟨_, rfl⟩
      rw [hmt, hq] at hxm
      have HQ2 := Aside0.mk (fun V n => by have := HQ.out (rd c (e : Int)) V n; rw [hs'] at this; exact this)
      by_cases hp : q < c.length
      · have b1 : decide (q < c.length) = true := decide_eq_true hp
        have b2 : decide ((q : Int) < (c.length : Int)) = true := decide_eq_true (by omega)
        have hsuc : succ c base g = some q := by unfold succ; rw [he, hq, if_pos ⟨hs, hp⟩]
        obtain ⟨s1, s2, s3, _, _⟩ := succ_some hf hb0 hb hg hsuc
        have hpl : places c base (f + 1) g = run (lvs c base) c.length g ++ places c base f q := by simp only [places]; rw [hsuc]
        obtain ⟨kq, hkq⟩ := List.mem_iff_getElem?.1 (mem_heads.2 ⟨hp, s3⟩)
        have hkl : kq < (heads (lvs c base) c.length).length := (List.getElem?_eq_some_iff.1 hkq).1
        have hlv : (levI (lvs c base) c.length)[kq]? = some (toI (run (lvs c base) c.length q)) := by
          unfold levI
          rw [lev_eq, List.map_map, List.getElem?_map, hkq]
          rfl
        obtain ⟨ada, cs, eAa, hcl, hck, hcu⟩ := Kd.C_get hE.ha [] (kq : Int) (by omega) (by omega)
        subst eAa
        rw [Int.toNat_natCast, List.getD_eq_getElem?_getD, hlv, Option.getD_some] at hck
        obtain ⟨Ak, ck, rfl, hlk, hCk⟩ := hck
        have hcell := hcu 0 _ rfl
        rw [Int.toNat_natCast, Nat.add_zero, show kq * (Kd.slice 3 (Kd.int .i64)).sz = kq from Nat.mul_one kq] at hcell
        have hlook : ∀ n, (Instr.lookup 43 (.map (some bp)) (.int .i64 (q : Int)) true).run Try.prog (World.drewN W n) = .ok (.tuple #[.int .i64 (kq : Int), .bool true]) (World.drewN W n) := fun n => heads_some Try.underlying43 Try.underlying3 _ bp (((HEW.out.below (pw_below_drewN (Below.refl _ _) n))).mp) (heads_sorted _ _) q kq hkq
        have HV : ∀ V, Below W1.heap.size W1 V → V.cell? ⟨bg, 0, none⟩ = some (growV bc bm bb bg ba) ∧ V.cell? ⟨ba, 0, none⟩ = some (.slice (some ada) (heads (lvs c base) c.length).length ca) ∧ V.cell? (ada.add kq) = some (.slice Ak (toI (run (lvs c base) c.length q)).length ck) ∧ Kd.C (Kd.int .i64) V Ak (toI (run (lvs c base) c.length q)).length (toI (run (lvs c base) c.length q)) := fun V hV =>
          ⟨(blk_cell (hE.below hV).vg 0).trans rfl, (blk_cell (hE.below hV).va 0).trans rfl, (hV.cell (World.block_lt_of_cell? W1 _ hcell)).trans hcell, Kd.C_below hCk hV⟩
        have HV := Aside0.mk HV
        have HPL := Aside0.mk hpl
        have HS3 := Aside0.mk (And.intro s3 (show c.length ≤ q + f by omega))
        have HLK := Aside0.mk hlk
        have q0 : (0 : Int) ≤ (kq : Int) := by omega
        generalize hRL : (toI (run (lvs c base) c.length q)) = RL at *
        have HRL := Aside0.mk hRL
        have hL2 : P.length + (run (lvs c base) c.length g).length + (places c base f q).length ≤ 4194304 := by rw [hpl, List.length_append] at hlen; omega
        have hRLl : RL.length ≤ 1048576 := by
          rw [← hRL, toI_length]
          have := sorted_len _ 0 c.length (run_sorted (lvs c base) c.length q) (fun x hx => ⟨Nat.zero_le _, (mem_run.1 hx).1⟩)
          omega
        have HL2 := Aside0.mk (And.intro hL2 hRLl)
        generalize hLn : (heads (lvs c base) c.length).length = Ln at *
        have q1 : (kq : Int) < (Ln : Int) := by omega
        have q2 : (kq < Ln) = True := eq_true hkl
        clear hEW hR hB hfr hlen ih hg hf hb0 hb hN hm hlast hl hfu hgl he hs hs' hpl hne hmem hel hmax hE HQ hmt hq hsuc s1 s2 s3 hkq hkl hlv hcl hCk hcell hcu hlk hRL hL2 hRLl hLn
        go_enter Try.func22, Try.ntmps22
        go_wp2
        go_quiet ((go_at_call 23; exact HQ2.out _ _))
        rename Nat => nqa
        go_wp2
        go_quiet (fail)
        rename Nat => nqb
        go_upto_region 5 with (fail)
        obtain ⟨W5, hW5⟩ : ∃ W5, (World.drewN (World.drewN W nqa) nqb) = W5 := ⟨_, rfl⟩
        rw [hW5]
        have hb5 : Below W.heap.size W W5 := by rw [← hW5]; exact pw_below_drewN (pw_below_drewN (Below.refl _ _) _) _
        have HB5 := Aside0.mk hb5
        have HB5' := Aside0.mk (HB.out.trans (hb5.mono HB.out.size))
        have hdW : Below W.heap.size W (World.drew W5) := below_drew1 hb5
        have HRD := Aside0.mk (Kd.R_below HR.out hdW)
        have HFR5 := Aside0.mk (fun k (hk : (World.drew W5).heap.size ≤ k) => HFR.out k (Nat.le_trans hdW.size hk))
        have HBD := Aside0.mk (HB.out.trans (hdW.mono HB.out.size))
        have HSZ := Aside0.mk (Nat.le_trans HB.out.size hdW.size)
        have HLL := Aside0.mk (show (P ++ toI (run (lvs c base) c.length g)).length + (places c base f q).length ≤ 4194304 by have h1_ := HL2.out.1; rw [List.length_append, toI_length]; omega)
        clear hb5 hW5 hdW hxc hxm hcb hmb hbb hlook hx
        refine start_ (n := 9) (S := fun w' => w'.cell? ⟨bg, 0, none⟩ = some (growV bc bm bb bg ba) ∧ w'.cell? ⟨ba, 0, none⟩ = some (.slice (some ada) Ln ca) ∧ w'.cell? (ada.add kq) = some (.slice Ak RL.length ck)) (ds := []) #[false, false, false, false, false, false, false, false, false] (by kernel_rfl) rfl rfl ⟨(HV.out _ HBD.out).1, (HV.out _ HBD.out).2.1, (HV.out _ HBD.out).2.2.1⟩ (fun hHeld => ?_)
        refine pure_ (i := 1) (N := some 42) (v := ?_) (a' := ?_) #[false, true, false, false, false, false, false, false, false] rfl rfl (by kernel_rfl) (fun _ _ _ h => h) (Or.inl ⟨by rfl, ?_⟩) ?_ ?_
        rotate_left
        · intro w'
          go_simp
          with_reducible rfl
        rotate_left
        · simp only [Act.put, List.setIfInBounds_toArray, List.set_cons_zero, List.set_cons_succ, i64_w, i32_w]
          rfl
        refine pure_ (i := 3) (N := some 44) (v := ?_) (a' := ?_) #[false, true, false, true, false, false, false, false, false] rfl rfl (by kernel_rfl) (fun _ _ _ h => h) (Or.inl ⟨by rfl, ?_⟩) ?_ ?_
        rotate_left
        · intro w'
          go_simp
          with_reducible rfl
        rotate_left
        · simp only [Act.put, List.setIfInBounds_toArray, List.set_cons_zero, List.set_cons_succ, i64_w, i32_w]
          rfl
        refine take_ (i := 0) (N := some 41) (v := ?_) (a' := ?_) #[true, true, false, true, false, false, false, false, false] rfl rfl (by kernel_rfl) (fun _ _ _ h => h) (Or.inl ⟨by rfl, ?_⟩) hHeld ?_ ?_
        rotate_left
        · rintro w' ⟨s0, s1, s2⟩
          go_simp
          with_reducible rfl
        rotate_left
        · simp only [Act.put, List.setIfInBounds_toArray, List.set_cons_zero, List.set_cons_succ, i64_w, i32_w]
          rfl
        refine take_ (i := 2) (N := some 43) (v := ?_) (a' := ?_) #[true, true, true, true, false, false, false, false, false] rfl rfl (by kernel_rfl) (fun _ _ _ h => h) (Or.inl ⟨by rfl, ?_⟩) hHeld ?_ ?_
        rotate_left
        · rintro w' ⟨s0, s1, s2⟩
          go_simp
          with_reducible rfl
        rotate_left
        · simp only [Act.put, List.setIfInBounds_toArray, List.set_cons_zero, List.set_cons_succ, i64_w, i32_w]
          rfl
        refine pure_ (i := 4) (N := some 45) (v := ?_) (a' := ?_) #[true, true, true, true, true, false, false, false, false] rfl rfl (by kernel_rfl) (fun _ _ _ h => h) (Or.inl ⟨by rfl, ?_⟩) ?_ ?_
        rotate_left
        · intro w'
          go_simp
          with_reducible rfl
        rotate_left
        · simp only [Act.put, List.setIfInBounds_toArray, List.set_cons_zero, List.set_cons_succ, i64_w, i32_w]
          rfl
        refine take_ (i := 5) (N := some 46) (v := ?_) (a' := ?_) #[true, true, true, true, true, true, false, false, false] rfl rfl (by kernel_rfl) (fun _ _ _ h => h) (Or.inl ⟨by rfl, ?_⟩) hHeld ?_ ?_
        rotate_left
        · rintro w' ⟨s0, s1, s2⟩
          go_simp
          with_reducible rfl
        rotate_left
        · simp only [Act.put, List.setIfInBounds_toArray, List.set_cons_zero, List.set_cons_succ, i64_w, i32_w]
          rfl
        refine one_ (i := 6) (N := some 47) #[true, true, true, true, true, true, true, false, false] rfl rfl (by kernel_rfl) (by decide) (fun K hK => ?_)
        refine step_append_row .i64 (w0 := W1) W1.heap.size (by rfl) (.tmp 42) (.tmp 46) 22 3 8 (by rfl) Try.underlying22 info3 (by decide) (.slice (some ⟨gp, 0, none⟩) N cp) (P ++ toI (run (lvs c base) c.length g)) RL Ak RL.length ck ok (by rfl) (by rfl) HFR5.out HRD.out (HV.out _ HBD.out).2.2.2 HBD.out HSZ.out (by have h1_ := HL2.out.1; have h2_ := HL2.out.2; rw [List.length_append, toI_length]; omega) ?_
        intro v47 w47 ho47 hb47 hg47 hat47
        have HG47 := Aside0.mk (And.intro hg47 hat47)
        refine hK.out _ _ ⟨(HV.out _ hb47).1, (HV.out _ hb47).2.1, (HV.out _ hb47).2.2.1⟩ (fun hHeld => ?_)
        clear hK K
        refine norm_ (a' := ?_) ?_ ?_
        rotate_left
        · show Act.put _ (some 47) _ = _
          simp only [Act.put, List.setIfInBounds_toArray, List.set_cons_zero, List.set_cons_succ, i64_w, i32_w]
          rfl
        refine one_ (i := 7) (N := some 48) #[true, true, true, true, true, true, true, true, false] rfl rfl (by kernel_rfl) (by decide) (fun K hK => ?_)
        refine goesV_ Try.func22 (by kernel_rfl) rfl (.tmp 41) #[.pointer (some ⟨bc, 0, none⟩), .pointer (some ⟨bm, 0, none⟩), .pointer (some ⟨bb, 0, none⟩), .pointer (some ⟨bg, 0, none⟩), .pointer (some ⟨ba, 0, none⟩)] #[v47, .pointer (some ⟨bc, 0, none⟩), .pointer (some ⟨bm, 0, none⟩), .pointer (some ⟨bb, 0, none⟩), .pointer (some ⟨bg, 0, none⟩), .pointer (some ⟨ba, 0, none⟩)] (by rfl) rfl rfl (by rfl) (by simp only [List.map_toArray, List.map_cons, List.map_nil]; rfl) ?_
        with_reducible refine (IH.out q HS3.out.1 HS3.out.2 (P ++ toI (run (lvs c base) c.length g)) v47 ok w47 hb47 (fun k hk => HFR5.out k (Nat.le_trans hg47.size hk)) HLL.out (HRL.out.symm ▸ ho47)).mono ?_
        rintro e w8 ⟨v8, rfl, ho8, hg8, hat8⟩
        refine ⟨_, rfl, ?_⟩
        have hb8 : Below W1.heap.size W1 w8 := HBD.out.trans (grown_below1 (grown_trans hg47 hg8 hat47) HSZ.out (Kd.R_base HRD.out))
        refine hK.out _ _ ⟨(HV.out _ hb8).1, (HV.out _ hb8).2.1, (HV.out _ hb8).2.2.1⟩ (fun hHeld => ?_)
        clear hK K
        refine norm_ (a' := ?_) ?_ ?_
        rotate_left
        · show Act.put _ (some 48) _ = _
          simp only [Act.put, List.setIfInBounds_toArray, List.set_cons_zero, List.set_cons_succ, i64_w, i32_w]
          rfl
        refine pure_ (i := 8) (N := some 7) (v := ?_) (a' := ?_) #[true, true, true, true, true, true, true, true, true] rfl rfl (by kernel_rfl) (fun _ _ _ h => h) (Or.inl ⟨by rfl, ?_⟩) ?_ ?_
        rotate_left
        · intro w'
          go_simp
          with_reducible rfl
        rotate_left
        · simp only [Act.put, List.setIfInBounds_toArray, List.set_cons_zero, List.set_cons_succ, i64_w, i32_w]
          rfl
        refine done_ (by kernel_rfl) ?_
        go_wp2
        go_ret
        rw [HPL.out, toI_append, ← List.append_assoc]
        refine ⟨v8, rfl, ho8, ?_, ?_⟩
        · exact grown_trans (grown_of_below (row := some gp) (below_drew1 HB5.out)) (grown_trans hg47 hg8 hat47) (.inl rfl)
        · exact hat_trans hat47 hat8 (below_drew1 HB5.out).size hg47.size
      · have b1 : decide (q < c.length) = false := decide_eq_false hp
        have b2 : decide ((q : Int) < (c.length : Int)) = false := decide_eq_false (by omega)
        have hsuc : succ c base g = none := by unfold succ; rw [he, hq, if_neg (fun z => hp z.2)]
        have hpl : places c base (f + 1) g = run (lvs c base) c.length g := by simp only [places]; rw [hsuc]; simp
        have HPL := Aside0.mk hpl
        clear hEW hR hB hfr hlen ih hg hf hb0 hb hN hm hlast hl hfu hgl he hs hs' hsuc hpl hne hmem hel hmax hE HQ hmt hq hp
        go_enter Try.func22, Try.ntmps22
        go_wp2
        go_quiet ((go_at_call 23; exact HQ2.out _ _))
        go_wp2
        go_ret
        rw [HPL.out]
        exact ⟨_, rfl, Kd.R_drewN HR.out _, grown_of_below (pw_below_drewN (Below.refl _ _) _), .inl rfl⟩
    · have hs' : st (rd c (e : Int)) = false := by rw [rd_nat]; simpa using hs
      have HS := Aside0.mk hs'
      have hsuc : succ c base g = none := by unfold succ; rw [he, if_neg (fun q => hs q.1)]
      have hpl : places c base (f + 1) g = run (lvs c base) c.length g := by simp only [places]; rw [hsuc]; simp
      have HPL := Aside0.mk hpl
      have HQ2 := Aside0.mk (fun V n => by have := HQ.out (rd c (e : Int)) V n; rw [hs'] at this; exact this)
      clear hEW hR hB hfr hlen ih hg hf hb0 hb hN hm hlast hl hfu hgl he hs hs' hsuc hpl hne hmem hel hmax hE HQ
      go_enter Try.func22, Try.ntmps22
      go_wp2
      go_quiet ((go_at_call 23; exact HQ2.out _ _))
      go_wp2
      go_ret
      rw [HPL.out]
      exact ⟨_, rfl, Kd.R_drewN HR.out _, grown_of_below (pw_below_drewN (Below.refl _ _) _), .inl rfl⟩
end Go.Proofs.Yteldofimjklckaa.G
/- runs.Sequences: what is refused; and its walk. By hand. -/
namespace Go.Proofs.Yteldofimjklckaa.G
open Go.RowKit Go.Proofs.Yteldofimjklckaa.X Go.Proofs.YteldofimjklckaaW.PrintWords Go.Proofs.YteldofimjklckaaW.PrintLast Go.Proofs.YteldofimjklckaaW.PrintMore Go.Proofs.Yteldofimjklckaa.Exp Go.Proofs.Yteldofimjklckaa.Run Go.Proofs.Yteldofimjklckaa.Iso
set_option linter.unusedVariables false
set_option linter.unusedSimpArgs false

/-- What the first so many runs bring. -/
def outsOf (c : List Int) (base : Int) (j : Nat) : List S36 := (((heads (lvs c base) c.length).take j).filter (fun h => !owned c h)).map (fun g => toS (seqOf c base g))
theorem outsOf_all (c : List Int) (base : Int) : outsOf c base (heads (lvs c base) c.length).length = (seqList c base).map toS := by
  unfold outsOf seqList roots
  rw [List.take_of_length_le (Nat.le_refl _), List.map_map]
  rfl
theorem outsOf_succ (c : List Int) (base : Int) (j h : Nat) (hh : (heads (lvs c base) c.length)[j]? = some h) : outsOf c base (j + 1) = outsOf c base j ++ (if owned c h = true then [] else [toS (seqOf c base h)]) := by
  obtain ⟨hl, he⟩ := List.getElem?_eq_some_iff.1 hh
  unfold outsOf
  rw [List.take_succ_eq_append_getElem hl, he, List.filter_append, List.map_append]
  congr 1
  cases ho : owned c h <;> simp [ho]
/-- A run of all of them, as it lies in memory. -/
theorem rowAt {c : List Int} {base : Int} {W : World} {Aa : Option Addr} {Ln : Nat} (ha : Kd.C (Kd.slice 3 (Kd.int .i64)) W Aa Ln (levI (lvs c base) c.length)) (k h : Nat) (hk : k < Ln) (hh : (heads (lvs c base) c.length)[k]? = some h) :
    ∃ ada adk ck n, Aa = some ada ∧ W.cell? (ada.add k) = some (.slice (some adk) n ck) ∧ n = (toI (run (lvs c base) c.length h)).length ∧ n ≤ ck ∧ 0 < n ∧ Kd.C (Kd.int .i64) W (some adk) n (toI (run (lvs c base) c.length h)) ∧ W.cell? adk = some (.int .i64 (h : Int)) := by
  obtain ⟨hl, hi⟩ := mem_heads.1 (List.mem_of_getElem? hh)
  have hlv : (levI (lvs c base) c.length)[k]? = some (toI (run (lvs c base) c.length h)) := by
    unfold levI
    rw [lev_eq, List.map_map, List.getElem?_map, hh]
    rfl
  obtain ⟨ada, cs, eAa, hcl, hck, hcu⟩ := Kd.C_get ha [] (k : Int) (by omega) (by omega)
  rw [Int.toNat_natCast, List.getD_eq_getElem?_getD, hlv, Option.getD_some] at hck
  obtain ⟨Ak, ck, rfl, hlk, hCk⟩ := hck
  have hcell := hcu 0 _ rfl
  rw [Int.toNat_natCast, Nat.add_zero, show k * (Kd.slice 3 (Kd.int .i64)).sz = k from Nat.mul_one k] at hcell
  obtain ⟨t, ht⟩ := run_head hi hl
  have hp : 0 < (toI (run (lvs c base) c.length h)).length := by rw [ht]; simp [toI]
  obtain ⟨adk, e, hx⟩ := Kd.at_int hCk 0 (by omega) (by omega)
  subst e
  rw [show rd (toI (run (lvs c base) c.length h)) 0 = (h : Int) by rw [ht]; rfl] at hx
  exact ⟨ada, adk, ck, _, eAa, hcell, rfl, hlk, hp, hCk, by simpa [Addr.add] using hx⟩
theorem Kd.C_grown0 {α : Type} {d : Kd α} {w w1 : World} {A : Option Addr} {n : Nat} {xs : List α} (h : Kd.C d w A n xs) (hb : Below w.heap.size w w1) : Kd.C d w1 A n xs := Kd.C_below h hb
/-- A sequence's places. -/
theorem seq_places {c : List Int} {base : Int} (hf : formed c) (hb0 : 0 ≤ base) (hb : base ≤ 125) (h : Nat) (hh : isH (lvs c base) h = true) :
    (places c base c.length h).length ≤ c.length ∧ (run (lvs c base) c.length h).length ≤ c.length ∧ places c base c.length h ≠ [] ∧ (places c base c.length h).getLastD 0 < c.length ∧ kp (lvs c base) ((places c base c.length h).getLastD 0) = true := by
  have hhl : h < c.length := by have := kp_lt (isH_kp hh); rwa [lvs_length] at this
  have h1 := sorted_len _ 0 c.length (places_sorted hf hb0 hb c.length h hh) (fun x hx => ⟨Nat.zero_le _, ((mem_places hf hb0 hb c.length h hh x).1 hx).1⟩)
  have h2 := sorted_len _ 0 c.length (run_sorted (lvs c base) c.length h) (fun x hx => ⟨Nat.zero_le _, (mem_run.1 hx).1⟩)
  have h3 : places c base c.length h ≠ [] := by
    obtain ⟨m, hm⟩ : ∃ m, c.length = m + 1 := ⟨c.length - 1, by omega⟩
    obtain ⟨t, ht⟩ := places_head m h hh
    rw [hm, ht]
    simp
  have h4 : (places c base c.length h).getLastD 0 ∈ places c base c.length h := by
    rw [List.getLastD_eq_getLast?, List.getLast?_eq_some_getLast h3]
    exact List.getLast_mem h3
  have h5 := (mem_places hf hb0 hb c.length h hh _).1 h4
  exact ⟨by omega, by omega, h3, h5.1, h5.2.1⟩
/-- What Sequences leaves. -/
def SeqPost (r : List S36) (n : Int) (w : World) (e : Ending) (w' : World) : Prop := ∃ v0_ : Value, e = .returned (.tuple #[v0_, .int .i64 n]) ∧ Kd.S k36 36 w' w.heap.size (fun _ => True) v0_ r ∧ Below w.heap.size w w'
set_option maxHeartbeats 16000000 in
set_option maxRecDepth 100000 in
theorem seq_bad (A0 : Option Addr) (c0 : Nat) (c : List Int) (base n : Int) (w : World) (hr0 : Kd.C (Kd.int .i64) w A0 c.length c) (hc0 : c.length ≤ c0) (hR : explicit_Resolve.f c base = some ([], [], n)) (hn : n ≠ 0) :
    Calls Try.prog 14 #[.slice A0 c.length c0, .int .i64 base] w (SeqPost [] n w) := by
  have b1 : (n != 0) = true := by simpa using hn
  have HRS := Aside0.mk hR
  have HR0 := Aside0.mk hr0
  have HC0 := Aside0.mk hc0
  clear hR hr0 hc0 hn
  go_enter Try.func14, Try.ntmps14
  go_wp2_with (first | (go_at_call 16; refine (explicit_Resolve.calls A0 c0 c base _ _ _ _ (Kd.C_alloc HR0.out _) HC0.out HRS.out).mono ?_; rintro e w1 ⟨v0, v1, rfl, _, _, hb1⟩))
  go_ret2
  exact ⟨_, rfl, Kd.S_nil _ _ _ _ _, below_step (below_alloc (Below.refl _ _) _) hb1⟩
set_option maxHeartbeats 16000000 in
set_option maxRecDepth 100000 in
theorem seq_main (A0 : Option Addr) (c0 : Nat) (c : List Int) (base : Int) (w : World) (hr0 : Kd.C (Kd.int .i64) w A0 c.length c) (hc0 : c.length ≤ c0) (hl : c.length ≤ 1048576) (hB : base = 0 ∨ base = 1) (hf : formed c) :
    Calls Try.prog 14 #[.slice A0 c.length c0, .int .i64 base] w (SeqPost ((seqList c base).map toS) 0 w) := by
  have hRes := res_ok c base (by omega) hB hf
  have info3 : (Try.prog.info? 3).map (fun i => (i.zero, i.size, i.bytes)) = some (some (.int .i64 0), 1, 8) := by kernel_rfl
  obtain ⟨km, hkm⟩ := Ev.rounds (Iso.Match_ev c (by omega))
  obtain ⟨kl, hkl⟩ := Ev.rounds (Levels_ev (lvs c base) (by rw [lvs_length]; exact hl))
  rw [lvs_length] at hkl
  have info36 : (Try.prog.info? 36).map (fun i => (i.zero, i.size, i.bytes)) = some (some (.agg #[.slice none 0 0, .int .i64 0, .int .i64 0, .int .i64 0]), 4, 48) := by kernel_rfl
  have HRS := Aside0.mk hRes
  have HKM := Aside0.mk hkm
  have HKL := Aside0.mk hkl
  have HR0 := Aside0.mk hr0
  have HC0 := Aside0.mk hc0
  have HL := Aside0.mk hl
  have HBS := Aside0.mk hB
  have HF := Aside0.mk hf
  clear hRes hkm hkl hr0 hc0 hl hB hf
  go_enter Try.func14, Try.ntmps14
  go_wp2_with (first | (go_at_call 16; refine of_halt ?_))
  unfold Halt
  refine (explicit_Resolve.calls A0 c0 c base _ _ _ _ (Kd.C_alloc HR0.out _) HC0.out HRS.out).mono ?_
  rintro e w1 ⟨vl, vt, rfl, hol, hot, hb1⟩
  obtain ⟨Al, cl, rfl, hcl, hCl⟩ := Kd.R_reads hol
  rw [lvs_length] at hcl hCl
  have hbc := blk_below (blk_new w (.cells #[.slice A0 c.length c0] 22)) hb1
  have HB1 := Aside0.mk (below_step (below_alloc (Below.refl w.heap.size w) _) hb1)
  have HOL := Aside0.mk hCl
  have HCL := Aside0.mk hcl
  have HBC := Aside0.mk hbc
  have hcb := (blk_cell hbc 0).trans (show _ = some (Value.slice A0 c.length c0) from rfl)
  rw [lvs_length]
  clear hol hot hb1 hCl hcl hbc
  dsimp only
  go_wp2_with (first | (go_at_call 17; refine of_halt ?_))
  unfold Halt
  refine (isolate_Match.calls km A0 c0 c (mts c) _ (Kd.C_below HR0.out HB1.out) HC0.out HKM.out).mono ?_
  rintro e w2 ⟨vm, rfl, hom, hb2⟩
  obtain ⟨Am, cm, rfl, hcm, hCm⟩ := Kd.R_reads hom
  rw [mts_length] at hcm hCm ⊢
  have HB2 := Aside0.mk (below_step HB1.out hb2)
  have HOL2 := Aside0.mk (Kd.C_below HOL.out hb2)
  have HBC2 := Aside0.mk (blk_below HBC.out hb2)
  have HOM := Aside0.mk hCm
  have HCM := Aside0.mk hcm
  clear hom hb2 hCm hcm hcb
  dsimp only
  go_wp2_with (first | (go_at_call 10; refine of_halt ?_))
  unfold Halt
  have hbm := blk_new w2 (.cells #[.slice Am c.length cm] 22)
  have hb2a := below_alloc HB2.out (.cells #[.slice Am c.length cm] 22)
  have HCl2 := Kd.C_alloc HOL2.out (.cells #[.slice Am c.length cm] 22)
  have hll := lvs_length c base
  have HLv := Aside0.mk hll
  have h3 := runs_Levels.calls kl Al cl (lvs c base) (levI (lvs c base) c.length) (w2.alloc (.cells #[.slice Am c.length cm] 22)) (by rw [hll]; exact HCl2) (by rw [hll]; exact HCL.out) HKL.out
  rw [hll] at h3
  refine h3.mono ?_
  rintro e w3 ⟨va, rfl, hoa, hb3⟩
  obtain ⟨Aa, ca, rfl, hca, hCa⟩ := Kd.S_reads hoa
  have hlen : (levI (lvs c base) c.length).length = (heads (lvs c base) c.length).length := by rw [levI_length, lev_eq, List.length_map]
  rw [hlen] at hca hCa ⊢
  have HB3 := Aside0.mk (below_step hb2a hb3)
  have HBM3 := Aside0.mk (blk_below hbm hb3)
  have HBC3 := Aside0.mk (blk_below (blk_alloc HBC2.out _) hb3)
  have HOM3 := Aside0.mk (Kd.C_below (Kd.C_alloc HOM.out _) hb3)
  have HOL3 := Aside0.mk (Kd.C_below (Kd.C_alloc HOL2.out _) hb3)
  have HOA3 := Aside0.mk hCa
  have HCA := Aside0.mk hca
  generalize hLn : (heads (lvs c base) c.length).length = Ln at *
  have HLN := Aside0.mk (And.intro hlen hLn)
  have hmm := @run_makeMap Try.prog
  clear hbm hb2a HCl2 hll h3 hoa hb3 hCa hca hlen hLn HBC2 HOL2 HOM HBC HOL
  dsimp only
  go_wp2
  obtain ⟨W4, hW4⟩ : ∃ W4, (((w3.alloc (Obj.cells #[.slice Aa Ln ca] 24)).alloc (Obj.map #[] 0)).alloc (Obj.cells #[.map (some (w3.heap.size + 1))] 43)) = W4 := ⟨_, rfl⟩
  rw [hW4]
  have hva : W4.heap[w3.heap.size]? = some (.cells #[.slice Aa Ln ca] 24 (0, 0)) := by rw [← hW4]; exact blk_alloc (blk_alloc (blk_new _ _) _) _
  have hmp : W4.heap[w3.heap.size + 1]? = some (mapObj []) := by
    rw [← hW4]
    refine blk_alloc ?_ _
    have := blk_new (w3.alloc (Obj.cells #[.slice Aa Ln ca] 24)) (Obj.map #[] 0)
    rwa [World.size_alloc] at this
  have hvb : W4.heap[w3.heap.size + 1 + 1]? = some (.cells #[.map (some (w3.heap.size + 1))] 43 (0, 0)) := by
    rw [← hW4]
    have := blk_new ((w3.alloc (Obj.cells #[.slice Aa Ln ca] 24)).alloc (Obj.map #[] 0)) (Obj.cells #[.map (some (w3.heap.size + 1))] 43)
    rwa [World.size_alloc, World.size_alloc] at this
  have hb4 : Below w3.heap.size w3 W4 := by rw [← hW4]; exact below_alloc (below_alloc (below_alloc (Below.refl _ _) _) _) _
  have hs4 : W4.heap.size = w3.heap.size + 3 := by rw [← hW4]; simp
  have HVA := Aside0.mk hva
  have HVB := Aside0.mk hvb
  have HB4 := Aside0.mk hb4
  have HS4 := Aside0.mk hs4
  have HMP0 := Aside0.mk hmp
  clear hW4 hva hmp hvb hb4 hs4 hmm
  have hLnb : Ln ≤ 1048576 := by
    have h1 := HLN.out.2
    have h2 := sorted_len _ 0 c.length (heads_sorted (lvs c base) c.length) (fun x hx => ⟨Nat.zero_le _, (mem_heads.1 hx).1⟩)
    have h3 := HL.out
    omega
  have HLNB := Aside0.mk hLnb
  clear hLnb
  generalize hba : w3.heap.size = ba at *
  have HBA := Aside0.mk hba
  clear hba
  go_loopg [39] (Ln + 1) (fun kq v39 w' => ∃ k : Nat, v39 = .int .i64 (k : Int) ∧ Aside0 (k ≤ Ln) ∧ Aside0 (kq + k = Ln + 1) ∧ Aside0 (w'.heap[ba + 1]? = some (mapObj ((heads (lvs c base) c.length).take k))) ∧ Aside0 (Kp (fun j => j = ba + 1) W4 w'))
  case atStart => exact ⟨0, rfl, ⟨Nat.zero_le _⟩, ⟨rfl⟩, ⟨HMP0.out⟩, ⟨Kp.refl _ _⟩⟩
  case round =>
    obtain ⟨k, rfl, HK, HKQ, HMP, HKP⟩ := hrel
    have hbw : Below w3.heap.size w3 wr := by
      rw [HBA.out]
      exact HB4.out.trans (HKP.out.below (by have := HS4.out; have := HBA.out; omega) (fun j hj e => by have := HBA.out; omega))
    have HBW := Aside0.mk hbw
    clear hbw
    by_cases hlt : k < Ln
    · have hkl : k < (heads (lvs c base) c.length).length := by rw [HLN.out.2]; exact hlt
      obtain ⟨h, hh⟩ : ∃ h, (heads (lvs c base) c.length)[k]? = some h := ⟨_, List.getElem?_eq_getElem hkl⟩
      obtain ⟨ada, adk, ck, n, rfl, hrow, hneq, _, hn0, _, hfst⟩ := rowAt (Kd.C_below HOA3.out HBW.out) k h hlt hh
      clear hneq
      have hvb := HKP.out.blk HVB.out (by omega)
      have hbb := (blk_cell hvb 0).trans (show _ = some (Value.map (some (ba + 1))) from rfl)
      have htl : ((heads (lvs c base) c.length).take k).length = k := by rw [List.length_take]; omega
      have hts : (heads (lvs c base) c.length).take (k + 1) = (heads (lvs c base) c.length).take k ++ [h] := by
        rw [List.take_succ_eq_append_getElem hkl]
        congr 2
        exact (List.getElem?_eq_some_iff.1 hh).2
      have hsrt := heads_sorted (lvs c base) c.length
      rw [← List.take_append_drop k (heads (lvs c base) c.length)] at hsrt
      have hnew : ∀ q ∈ (heads (lvs c base) c.length).take k, q ≠ h := fun q hq e => by
        have h1 := (List.pairwise_append.1 hsrt).2.2 q hq h (by rw [List.drop_eq_getElem_cons hkl]; exact List.mem_cons.2 (.inl (List.getElem?_eq_some_iff.1 hh).2.symm))
        omega
      obtain ⟨W7, hput, hm7, hg7⟩ := heads_put Try.underlying43 Try.underlying3 (World.drew wr) (ba + 1) HMP.out h hnew
      rw [htl] at hput
      rw [← hts] at hm7
      have HM7 := Aside0.mk hm7
      have HG7 := Aside0.mk (grown_trans (grown_of_below (W := wr) (row := some (ba + 1)) (below_drew1 (Below.refl _ _))) hg7 (.inl rfl))
      have HLT := Aside0.mk hlt
      have q0 : (0 : Int) ≤ (k : Int) := by omega
      have q1 : (k : Int) < (Ln : Int) := by omega
      have q2 : (k < Ln) = True := eq_true hlt
      have q3 : (0 < n) = True := eq_true hn0
      have q4 : ((0 : Int) < (n : Int)) = True := eq_true (by omega)
      clear hkl hh hvb htl hts hsrt hnew hm7 hg7 hlt hn0
      go_upto_region 10 with (fail)
      refine start_ (n := 6) (S := fun w' => w'.cell? ⟨ba + 1 + 1, 0, none⟩ = some (.map (some (ba + 1))) ∧ w'.cell? adk = some (.int .i64 (h : Int))) (ds := [5]) #[false, false, false, false, false, false] (by kernel_rfl) rfl rfl ⟨hbb, hfst⟩ (fun hHeld => ?_)
      refine pure_ (i := 1) (N := some 45) (v := ?_) (a' := ?_) #[false, true, false, false, false, false] rfl rfl (by kernel_rfl) (fun _ _ _ h => h) (Or.inl ⟨by rfl, ?_⟩) ?_ ?_
      rotate_left
      · intro w'
        go_simp
        with_reducible rfl
      rotate_left
      · simp only [Act.put, List.setIfInBounds_toArray, List.set_cons_zero, List.set_cons_succ, i64_w, i32_w]
        rfl
      refine pure_ (i := 2) (N := some 46) (v := ?_) (a' := ?_) #[false, true, true, false, false, false] rfl rfl (by kernel_rfl) (fun _ _ _ h => h) (Or.inl ⟨by rfl, ?_⟩) ?_ ?_
      rotate_left
      · intro w'
        go_simp
        with_reducible rfl
      rotate_left
      · simp only [Act.put, List.setIfInBounds_toArray, List.set_cons_zero, List.set_cons_succ, i64_w, i32_w]
        rfl
      refine pure_ (i := 4) (N := some 48) (v := ?_) (a' := ?_) #[false, true, true, false, true, false] rfl rfl (by kernel_rfl) (fun _ _ _ h => h) (Or.inl ⟨by rfl, ?_⟩) ?_ ?_
      rotate_left
      · intro w'
        go_simp
        with_reducible rfl
      rotate_left
      · simp only [Act.put, List.setIfInBounds_toArray, List.set_cons_zero, List.set_cons_succ, i64_w, i32_w]
        rfl
      refine take_ (i := 0) (N := some 44) (v := ?_) (a' := ?_) #[true, true, true, false, true, false] rfl rfl (by kernel_rfl) (fun _ _ _ h => h) (Or.inl ⟨by rfl, ?_⟩) hHeld ?_ ?_
      rotate_left
      · rintro w' ⟨s0, s1⟩
        go_simp
        with_reducible rfl
      rotate_left
      · simp only [Act.put, List.setIfInBounds_toArray, List.set_cons_zero, List.set_cons_succ, i64_w, i32_w]
        rfl
      refine take_ (i := 3) (N := some 47) (v := ?_) (a' := ?_) #[true, true, true, true, true, false] rfl rfl (by kernel_rfl) (fun _ _ _ h => h) (Or.inl ⟨by rfl, ?_⟩) hHeld ?_ ?_
      rotate_left
      · rintro w' ⟨s0, s1⟩
        go_simp
        with_reducible rfl
      rotate_left
      · simp only [Act.put, List.setIfInBounds_toArray, List.set_cons_zero, List.set_cons_succ, i64_w, i32_w]
        rfl
      refine last_ (i := 5) (N := none) #[true, true, true, true, true, true] rfl rfl (by kernel_rfl) (by decide) (fun K hK => ?_)
      refine skip_ (w1 := ?_) (by rfl) rfl ?_ ?_
      rotate_left
      · go_simp
        rfl
      refine hK.out _ _ ?_
      clear hK K
      refine done_ (by kernel_rfl) ?_
      go_wp2
      go_roundg (gk - 1)
      case measure => have := HKQ.out; have := HLT.out; omega
      case rel => exact ⟨k + 1, by rw [show wrap64 ((k : Int) + 1) = ((k + 1 : Nat) : Int) from by have := HLT.out; have := HLNB.out; unfold wrap64; omega], ⟨HLT.out⟩, ⟨by have := HKQ.out; have := HLT.out; omega⟩, ⟨HM7.out⟩, ⟨HKP.out.trans (Kp.of_grown (F := fun j => j = ba + 1) HG7.out (fun g e => by injection e with e; exact e.symm)) (fun q _ h => h)⟩⟩
    · obtain rfl : k = Ln := by have := HK.out; omega
      have p3 : decide ((k : Int) < (k : Int)) = false := decide_eq_false (by omega)
      have p4 : decide (k < k) = false := decide_eq_false (by omega)
      have hvaw := HKP.out.blk HVA.out (by omega)
      have hvbw := HKP.out.blk HVB.out (by omega)
      have hmpw := HMP.out
      rw [List.take_of_length_le (by have := HLN.out.2; omega)] at hmpw
      have hsz : w3.heap.size + 3 ≤ wr.heap.size := by have := HKP.out.size; have := HS4.out; have := HBA.out; omega
      obtain ⟨W6, hW6⟩ : ∃ W6, wr.alloc (Obj.cells #[growV w.heap.size w2.heap.size (ba + 1 + 1) wr.heap.size ba] 40) = W6 := ⟨_, rfl⟩
      have hb6 : Below wr.heap.size wr W6 := by rw [← hW6]; exact below_alloc (Below.refl _ _) _
      have hb36 : Below w3.heap.size w3 W6 := HBW.out.trans (hb6.mono (by omega))
      have hE6 : Env c base w.heap.size w2.heap.size (ba + 1 + 1) wr.heap.size ba (ba + 1) A0 Am Aa c0 cm ca W6 :=
        { vc := blk_below HBC3.out hb36
          vm := blk_below HBM3.out hb36
          vb := blk_below hvbw hb6
          vg := by rw [← hW6]; exact blk_new _ _
          va := by rw [HLN.out.2]; exact blk_below hvaw hb6
          mp := (hb6.block _ (blk_lt hmpw)).trans hmpw
          hc := Kd.C_below HR0.out (below_step HB3.out hb36)
          hm := Kd.C_below HOM3.out hb36
          ha := by rw [HLN.out.2]; exact Kd.C_below HOA3.out hb36 }
      have HE6 := Aside0.mk hE6
      have HCL6 := Aside0.mk (Kd.C_below HOL3.out hb36)
      have HB6 := Aside0.mk (below_step HB3.out hb36)
      have hgrow := grow_calls HF.out (by rcases HBS.out with h | h <;> omega) (by rcases HBS.out with h | h <;> omega) HL.out hE6
      have HGROW := Aside0.mk hgrow
      clear hlt hvaw hvbw hmpw hb6 hb36 hE6 hgrow hsz
      go_upto_region 15 with (fail)
      simp only [growV] at hW6
      rw [hW6]
      generalize hbg : wr.heap.size = bg at *
      clear hbg
      have hca := (blk_cell HE6.out.va 0).trans (show _ = some (Value.slice Aa _ ca) from rfl)
      rw [HLN.out.2] at hca
      clear hW6
      go_wp2
      go_loopg [15, 53] (k + 1) (fun kq v15 v53 w' => ∃ j : Nat, v53 = .int .i64 (j : Int) ∧ Aside0 (j ≤ k) ∧ Aside0 (kq + j = k + 1) ∧ Aside0 (Kd.S k36 36 w' W6.heap.size (fun _ => True) v15 (outsOf c base j)) ∧ Aside0 (Below W6.heap.size W6 w'))
      case atStart => exact ⟨0, rfl, ⟨Nat.zero_le _⟩, ⟨rfl⟩, ⟨Kd.S_nil _ _ _ _ _⟩, ⟨Below.refl _ _⟩⟩
      case round =>
        obtain ⟨j, rfl, HJ, HJQ, HO, HBJ⟩ := hrel
        clear hca
        by_cases hlt : j < k
        · have hkl : j < (heads (lvs c base) c.length).length := by rw [HLN.out.2]; exact hlt
          obtain ⟨h, hh⟩ : ∃ h, (heads (lvs c base) c.length)[j]? = some h := ⟨_, List.getElem?_eq_getElem hkl⟩
          obtain ⟨hhl, hhH⟩ := mem_heads.1 (List.mem_of_getElem? hh)
          have hEj := HE6.out.below HBJ.out
          have hCa := hEj.ha
          rw [HLN.out.2] at hCa
          obtain ⟨ada, adk, ck, n, rfl, hrow, hneq, hnc, hn0, hCk, hfst⟩ := rowAt hCa j h hlt hh
          have hso := outsOf_succ c base j h hh
          have q0 : (0 : Int) ≤ (j : Int) := by omega
          have q1 : (j : Int) < (k : Int) := by omega
          have q2 : (j < k) = True := eq_true hlt
          have q3 : (0 < n) = True := eq_true hn0
          have q4 : ((0 : Int) < (n : Int)) = True := eq_true (by omega)
          have hcb := (blk_cell hEj.vc 0).trans (show _ = some (Value.slice A0 c.length c0) from rfl)
          have hmb := (blk_cell hEj.vm 0).trans (show _ = some (Value.slice Am c.length cm) from rfl)
          obtain ⟨adc, eA0, hxc⟩ := Kd.at_int hEj.hc (h : Int) (by omega) (by omega)
          obtain ⟨adm, eAm, hxm⟩ := Kd.at_int hEj.hm (h : Int) (by omega) (by omega)
          subst eA0 eAm
          rw [Int.toNat_natCast] at hxc hxm
          have p5 : ((h : Int) < (c.length : Int)) = True := eq_true (by omega)
          have p6 : (h < c.length) = True := eq_true hhl
          have how : owned c h = ((rd c (h : Int) == 23) && decide (0 ≤ rd (mts c) (h : Int))) := by unfold owned; rw [rd_nat, mts_rd c h hhl]
          have HROW := Aside0.mk (And.intro hCk (And.intro hnc hneq))
          have HLT := Aside0.mk hlt
          have HHH := Aside0.mk (And.intro hhl (And.intro hhH hh))
          have hcase : ((rd c (h : Int) == 23) = true ∧ decide (0 ≤ rd (mts c) (h : Int)) = true ∧ owned c h = true) ∨ ((rd c (h : Int) == 23) = true ∧ decide (0 ≤ rd (mts c) (h : Int)) = false ∧ owned c h = false) ∨ ((rd c (h : Int) == 23) = false ∧ owned c h = false) := by
            rw [how]
            cases (rd c (h : Int) == 23) <;> cases decide (0 ≤ rd (mts c) (h : Int)) <;> simp
          clear hkl hhl hhH hEj hCa hnc hneq hCk how hlt hn0
          rcases hcase with ⟨b1, b2, ho⟩ | hcase
          · rw [ho, if_pos rfl, List.append_nil] at hso
            have HSO := Aside0.mk hso
            clear hso hh ho
            go_wp2
            go_roundg (gk - 1)
            case measure => have := HJQ.out; have := HLT.out; omega
            case rel => exact ⟨j + 1, by rw [show wrap64 ((j : Int) + 1) = ((j + 1 : Nat) : Int) from by have := HLT.out; have := HLNB.out; unfold wrap64; omega], ⟨HLT.out⟩, ⟨by have := HJQ.out; have := HLT.out; omega⟩, ⟨by rw [HSO.out]; exact HO.out⟩, HBJ⟩
          · have ho : owned c h = false := by rcases hcase with h | h <;> simp [h]
            rw [ho, if_neg (by simp)] at hso
            have HSO := Aside0.mk hso
            have HOW := Aside0.mk ho
            clear hso hh ho
            rcases hcase with ⟨b1, b2, _⟩ | ⟨b1, _⟩
            all_goals
              go_upto_region 20 with (fail)
              have hrD := (below_drew1 (Below.refl wr.heap.size wr))
              have hBD := HBJ.out.trans (hrD.mono HBJ.out.size)
              have HBD := Aside0.mk hBD
              have HRD := Aside0.mk hrD
              have hgc := (blk_cell (HE6.out.below hBD).vg 0).trans (show _ = some (growV w.heap.size w2.heap.size (ba + 1 + 1) bg ba) from rfl)
              have HPS := Aside0.mk (seq_places HF.out (by rcases HBS.out with h | h <;> omega) (by rcases HBS.out with h | h <;> omega) h HHH.out.2.1)
              have HPL := Aside0.mk (show ([] : List Int).length + (places c base c.length h).length ≤ 4194304 by have h1_ := HPS.out.1; have h2_ := HL.out; simp; omega)
              clear hrow hxc hxm hcb hmb hfst hrD hBD
              refine start_ (n := 6) (S := fun w' => w'.cell? ⟨bg, 0, none⟩ = some (growV w.heap.size w2.heap.size (ba + 1 + 1) bg ba)) (ds := []) #[false, false, false, false, false, false] (by kernel_rfl) rfl rfl (hgc) (fun hHeld => ?_)
              refine pure_ (i := 2) (N := some 74) (v := ?_) (a' := ?_) #[false, false, true, false, false, false] rfl rfl (by kernel_rfl) (fun _ _ _ h => h) (Or.inl ⟨by rfl, ?_⟩) ?_ ?_
              rotate_left
              · intro w'
                go_simp
                with_reducible rfl
              rotate_left
              · simp only [Act.put, List.setIfInBounds_toArray, List.set_cons_zero, List.set_cons_succ, i64_w, i32_w]
                rfl
              refine take_ (i := 0) (N := some 72) (v := ?_) (a' := ?_) #[true, false, true, false, false, false] rfl rfl (by kernel_rfl) (fun _ _ _ h => h) (Or.inl ⟨by rfl, ?_⟩) hHeld ?_ ?_
              rotate_left
              · intro w' s0
                go_simp
                with_reducible rfl
              rotate_left
              · simp only [Act.put, List.setIfInBounds_toArray, List.set_cons_zero, List.set_cons_succ, i64_w, i32_w]
                rfl
              refine one_ (i := 1) (N := some 73) #[true, true, true, false, false, false] rfl rfl (by kernel_rfl) (by decide) (fun K hK => ?_)
              refine Kd.R_lit_step (Kd.int .i64) (w0 := W6) W6.heap.size 3 (by rfl) (N := 73) (by rfl) (xs := ([] : List Int)) (inner := []) (ok := fun q => wr.heap.size ≤ q) (okp := fun _ => False) ?hr (Reps.none _ _) (fun _ hk => hk.elim) (Nat.le_refl wr.heap.size) HBD.out HBD.out.size (by simp) ?_
              case hr => first | (go_simp; done) | (go_simp; rfl)
              intro v73 w73 ho73 hb73 hg73 hn73
              refine hK.out _ _ ((blk_cell (HE6.out.below hb73).vg 0).trans rfl) (fun hHeld => ?_)
              clear hK K
              refine norm_ (a' := ?_) ?_ ?_
              rotate_left
              · show Act.put _ (some 73) _ = _
                simp only [Act.put, List.setIfInBounds_toArray, List.set_cons_zero, List.set_cons_succ, i64_w, i32_w]
                rfl
              refine one_ (i := 3) (N := some 75) #[true, true, true, true, false, false] rfl rfl (by kernel_rfl) (by decide) (fun K hK => ?_)
              refine step_append_row .i64 (w0 := W6) W6.heap.size (by rfl) (.tmp 73) (.tmp 74) 22 3 8 (by rfl) Try.underlying22 info3 (by decide) v73 [] (toI (run (lvs c base) c.length h)) (some adk) n ck (fun q => wr.heap.size ≤ q) (by rfl) (by rfl) (fun q hq => Nat.le_trans (Nat.le_trans HRD.out.size hg73.size) hq) ho73 (Kd.C_grown0 HROW.out.1 (HRD.out.trans (grown_below1 hg73 HRD.out.size (fun g e => by cases e)))) hb73 hb73.size (by have h1_ := HPS.out.2.1; have h2_ := HROW.out.2.2; have h3_ := HL.out; rw [toI_length] at h2_; simp; omega) ?_
              intro v75 w75 ho75 hb75 hg75 hat75
              refine hK.out _ _ ((blk_cell (HE6.out.below hb75).vg 0).trans rfl) (fun hHeld => ?_)
              clear hK K
              refine norm_ (a' := ?_) ?_ ?_
              rotate_left
              · show Act.put _ (some 75) _ = _
                simp only [Act.put, List.setIfInBounds_toArray, List.set_cons_zero, List.set_cons_succ, i64_w, i32_w]
                rfl
              refine one_ (i := 4) (N := some 76) #[true, true, true, true, true, false] rfl rfl (by kernel_rfl) (by decide) (fun K hK => ?_)
              refine goesV_ Try.func22 (by kernel_rfl) rfl (.tmp 72) #[.pointer (some ⟨w.heap.size, 0, none⟩), .pointer (some ⟨w2.heap.size, 0, none⟩), .pointer (some ⟨ba + 1 + 1, 0, none⟩), .pointer (some ⟨bg, 0, none⟩), .pointer (some ⟨ba, 0, none⟩)] #[v75, .pointer (some ⟨w.heap.size, 0, none⟩), .pointer (some ⟨w2.heap.size, 0, none⟩), .pointer (some ⟨ba + 1 + 1, 0, none⟩), .pointer (some ⟨bg, 0, none⟩), .pointer (some ⟨ba, 0, none⟩)] (by rfl) rfl rfl (by rfl) (by simp only [List.map_toArray, List.map_cons, List.map_nil]; rfl) ?_
              with_reducible refine (HGROW.out c.length h HHH.out.2.1 (Nat.le_add_left _ _) [] v75 (fun q => wr.heap.size ≤ q) w75 hb75 (fun q hq => Nat.le_trans (Nat.le_trans (Nat.le_trans HRD.out.size hg73.size) hg75.size) hq) HPL.out ho75).mono ?_
              rintro e w20 ⟨vp, rfl, hop, hgp, hatp⟩
              refine ⟨_, rfl, ?_⟩
              have hr20 : Below wr.heap.size wr w20 := ((HRD.out.trans (grown_below1 hg73 HRD.out.size (fun g e => by cases e))).trans (grown_below1 hg75 (Nat.le_trans HRD.out.size hg73.size) ho73.1)).trans (grown_below1 hgp (Nat.le_trans (Nat.le_trans HRD.out.size hg73.size) hg75.size) ho75.1)
              have hb20 := HBJ.out.trans (hr20.mono HBJ.out.size)
              refine hK.out _ _ ((blk_cell (HE6.out.below hb20).vg 0).trans rfl) (fun hHeld => ?_)
              clear hK K
              refine norm_ (a' := ?_) ?_ ?_
              rotate_left
              · show Act.put _ (some 76) _ = _
                simp only [Act.put, List.setIfInBounds_toArray, List.set_cons_zero, List.set_cons_succ, i64_w, i32_w]
                rfl
              refine pure_ (i := 5) (N := some 19) (v := ?_) (a' := ?_) #[true, true, true, true, true, true] rfl rfl (by kernel_rfl) (fun _ _ _ h => h) (Or.inl ⟨by rfl, ?_⟩) ?_ ?_
              rotate_left
              · intro w'
                go_simp
                with_reducible rfl
              rotate_left
              · simp only [Act.put, List.setIfInBounds_toArray, List.set_cons_zero, List.set_cons_succ, i64_w, i32_w]
                rfl
              refine done_ (by kernel_rfl) ?_
              obtain ⟨gp, cp, rfl, hgpl, _, _⟩ := Kd.R_form hop (by rw [List.nil_append, toI_length]; exact List.length_pos_iff.2 HPS.out.2.2.1)
              obtain ⟨e, he⟩ : ∃ e, (places c base c.length h).getLastD 0 = e := ⟨_, rfl⟩
              obtain ⟨m, N, hN, hm⟩ : ∃ m N, ([] ++ toI (places c base c.length h)).length = N ∧ N = m + 1 := ⟨([] ++ toI (places c base c.length h)).length - 1, _, rfl, by
                have := List.length_pos_iff.2 HPS.out.2.2.1
                rw [List.nil_append, toI_length]; omega⟩
              have hlast := last_get HPS.out.2.2.1 [] m (hN.trans hm)
              rw [he] at hlast
              have hfirst : rd ([] ++ toI (places c base c.length h)) 0 = (h : Int) := by
                obtain ⟨m', hm'⟩ : ∃ m', c.length = m' + 1 := ⟨c.length - 1, by have := HHH.out.1; omega⟩
                obtain ⟨t, ht⟩ := places_head (c := c) (base := base) m' h HHH.out.2.1
                rw [hm', ht]
                rfl
              rw [hN] at hop ⊢
              have hmax : N ≤ 9223372036854775807 := by
                have := Kd.C_max (Kd.R_reads' hop).2.2
                rw [← hN]; exact this
              obtain ⟨hxe, _⟩ := Kd.R_celln 0 hop (m : Int) (by omega) (by omega)
              rw [show rdOf 0 ([] ++ toI (places c base c.length h)) (m : Int) = rd ([] ++ toI (places c base c.length h)) (m : Int) from rfl, hlast, Int.toNat_natCast] at hxe
              have hel : e < c.length := by rw [← he]; exact HPS.out.2.2.2.1
              obtain ⟨adl, eAl, hxl⟩ := Kd.at_int (Kd.C_below HCL6.out hb20) (e : Int) (by omega) (by omega)
              subst eAl
              obtain ⟨x, hx⟩ : ∃ x, lv c base e = x := ⟨_, rfl⟩
              have hlvx : rd (lvs c base) (e : Int) = x := by rw [rd_nat, ← getD_same _ _ (by rw [lvs_length]; exact hel), lvs_at c base e hel, hx]
              rw [Int.toNat_natCast, hlvx] at hxl
              have e1 : wrap64 ((N : Int) - 1) = (m : Int) := by unfold wrap64; omega
              have p7 : ((m : Int) < (N : Int)) = True := eq_true (by omega)
              have p8 : (m < N) = True := eq_true (by omega)
              have p9 : ((e : Int) < (c.length : Int)) = True := eq_true (by omega)
              have p10 : (e < c.length) = True := eq_true hel
              have p11 : ((0 : Int) < (N : Int)) = True := eq_true (by omega)
              have p12 : (0 < N) = True := eq_true (by omega)
              have HOP := Aside0.mk hop
              have HR20 := Aside0.mk hr20
              have HB20 := Aside0.mk hb20
              have HNM := Aside0.mk (And.intro hN (And.intro hm (And.intro hfirst (And.intro he (And.intro hx hel)))))
              clear hop hr20 hb20 hN hm hlast hfirst he hx hel hlvx hmax hgp hatp ho75 hb75 hg75 hat75 ho73 hb73 hg73 hn73 hgc
              go_upto_region 23 with (fail)
              have hxb := blk_new w20 (.cells #[.slice (some ⟨gp, 0, none⟩) N cp, .int .i64 x, .int .i64 0, .int .i64 0] 36)
              have hr22 := HR20.out.trans ((below_alloc (Below.refl w20.heap.size w20) (.cells #[.slice (some ⟨gp, 0, none⟩) N cp, .int .i64 x, .int .i64 0, .int .i64 0] 36)).mono HR20.out.size)
              have hop22 := Kd.R_alloc HOP.out (.cells #[.slice (some ⟨gp, 0, none⟩) N cp, .int .i64 x, .int .i64 0, .int .i64 0] 36)
              have hgx : wr.heap.size ≤ w20.heap.size := HR20.out.size
              have hgx6 : W6.heap.size ≤ w20.heap.size := HB20.out.size
              generalize w20.alloc (.cells #[.slice (some ⟨gp, 0, none⟩) N cp, .int .i64 x, .int .i64 0, .int .i64 0] 36) = W22 at *
              generalize w20.heap.size = bx at *
              have HXB := Aside0.mk hxb
              have HR22 := Aside0.mk hr22
              have HOP22 := Aside0.mk hop22
              have HGX := Aside0.mk (And.intro hgx hgx6)
              have HCLV := Aside0.mk (fun V (hV : Below wr.heap.size wr V) => Kd.C_below HCL6.out (HBJ.out.trans (hV.mono HBJ.out.size)))
              have hx0 : ∀ V, Kd.R (Kd.int .i64) 3 V W6.heap.size (fun q => wr.heap.size ≤ q) (.slice (some ⟨gp, 0, none⟩) N cp) ([] ++ toI (places c base c.length h)) → V.cell? ⟨gp, 0, none⟩ = some (.int .i64 (h : Int)) := fun V hV => by
                obtain ⟨h1, _⟩ := Kd.R_celln 0 hV 0 (by omega) (by have := HNM.out.2.1; omega)
                rw [show rdOf 0 ([] ++ toI (places c base c.length h)) 0 = rd ([] ++ toI (places c base c.length h)) 0 from rfl, HNM.out.2.2.1] at h1
                exact h1
              have HX0 := Aside0.mk hx0
              have hxn : 0 ≤ x ∧ 0 ≤ base := by
                have h1 := HPS.out.2.2.2.2
                rw [HNM.out.2.2.2.1] at h1
                have h2 := of_decide_eq_true h1
                rw [lvs_at c base e HNM.out.2.2.2.2.2, HNM.out.2.2.2.2.1] at h2
                exact ⟨h2, by rcases HBS.out with h | h <;> omega⟩
              have HXN := Aside0.mk hxn
              obtain ⟨kb, hkb⟩ := Ev.rounds (keptB_ev (lvs c base) base (by rw [lvs_length]; exact HL.out) h (by rw [lvs_length]; have := HHH.out.1; omega))
              obtain ⟨kaf, hkaf⟩ := Ev.rounds (keptA_ev (lvs c base) base (by rw [lvs_length]; exact HL.out) (e + 1) (by rw [lvs_length]; have := HNM.out.2.2.2.2.2; omega))
              have e2 : IntKind.i64.wrap ((h : Int) - 1) = (h : Int) - 1 := IntWalk.i64_in _ (by have := HHH.out.1; have := HL.out; omega)
              have e3 : IntKind.i64.wrap ((e : Int) + 1) = (e : Int) + 1 := IntWalk.i64_in _ (by have := HNM.out.2.2.2.2.2; have := HL.out; omega)
              have E2 := Aside0.mk e2
              have E3 := Aside0.mk e3
              clear e2 e3
              have hKB : ∀ V, Below wr.heap.size wr V → Calls Try.prog 25 #[.slice (some adl) c.length cl, .int .i64 ((h : Int) - 1), .int .i64 (-1), .int .i64 base] V (fun e w' => e = .returned (.int .i64 (keptB (lvs c base) base h)) ∧ Drawn0 V w') := fun V hV => by
                have h1 := runs_kept.calls kb (some adl) cl (lvs c base) ((h : Int) - 1) (-1) base _ V (by rw [lvs_length]; exact HCLV.out V hV) (by rw [lvs_length]; exact HCL.out) hkb
                rw [lvs_length] at h1
                exact h1
              have hKA : ∀ V, Below wr.heap.size wr V → Calls Try.prog 25 #[.slice (some adl) c.length cl, .int .i64 ((e : Int) + 1), .int .i64 1, .int .i64 base] V (fun e' w' => e' = .returned (.int .i64 (keptA (lvs c base) base (e + 1))) ∧ Drawn0 V w') := fun V hV => by
                have h1 := runs_kept.calls kaf (some adl) cl (lvs c base) ((e : Int) + 1) 1 base (keptA (lvs c base) base (e + 1)) V (by rw [lvs_length]; exact HCLV.out V hV) (by rw [lvs_length]; exact HCL.out) (by have h2 := hkaf; rw [show ((e + 1 : Nat) : Int) = (e : Int) + 1 from by omega] at h2; exact h2)
                rw [lvs_length] at h1
                exact h1
              have HKB := Aside0.mk hKB
              have HKA := Aside0.mk hKA
              generalize hkbv : keptB (lvs c base) base h = kbv at *
              generalize hkav : keptA (lvs c base) base (e + 1) = kav at *
              have HKV := Aside0.mk (And.intro hkbv hkav)
              have hsd : ∀ a V, Calls Try.prog 24 #[.int .i64 x, .int .i64 a] V (fun e w' => e = .returned (.int .i64 (sideI x a)) ∧ Below V.heap.size V w') := fun a V => runs_side.calls x a _ V (side_eq x a (by have := HXN.out.1; omega))
              have HSD := Aside0.mk hsd
              clear hxb hr22 hop22 hgx hgx6 hx0 hxn hkb hkaf hKB hKA hkbv hkav hsd hxe hxl
              have e2 := E2.out
              refine start_ (n := 12) (S := fun w' => w'.cell? ⟨bx, 1, none⟩ = some (.int .i64 x) ∧ w'.cell? ⟨gp, 0, none⟩ = some (.int .i64 (h : Int))) (ds := [11]) #[false, false, false, false, false, false, false, false, false, false, false, false] (by kernel_rfl) rfl rfl ⟨(blk_cell HXB.out 1).trans rfl, HX0.out _ HOP22.out⟩ (fun hHeld => ?_)
              refine pure_ (i := 0) (N := some 89) (v := ?_) (a' := ?_) #[true, false, false, false, false, false, false, false, false, false, false, false] rfl rfl (by kernel_rfl) (fun _ _ _ h => h) (Or.inl ⟨by rfl, ?_⟩) ?_ ?_
              rotate_left
              · intro w'
                go_simp
                with_reducible rfl
              rotate_left
              · simp only [Act.put, List.setIfInBounds_toArray, List.set_cons_zero, List.set_cons_succ, i64_w, i32_w]
                rfl
              refine pure_ (i := 2) (N := some 91) (v := ?_) (a' := ?_) #[true, false, true, false, false, false, false, false, false, false, false, false] rfl rfl (by kernel_rfl) (fun _ _ _ h => h) (Or.inl ⟨by rfl, ?_⟩) ?_ ?_
              rotate_left
              · intro w'
                go_simp
                with_reducible rfl
              rotate_left
              · simp only [Act.put, List.setIfInBounds_toArray, List.set_cons_zero, List.set_cons_succ, i64_w, i32_w]
                rfl
              refine pure_ (i := 3) (N := some 92) (v := ?_) (a' := ?_) #[true, false, true, true, false, false, false, false, false, false, false, false] rfl rfl (by kernel_rfl) (fun _ _ _ h => h) (Or.inl ⟨by rfl, ?_⟩) ?_ ?_
              rotate_left
              · intro w'
                go_simp
                with_reducible rfl
              rotate_left
              · simp only [Act.put, List.setIfInBounds_toArray, List.set_cons_zero, List.set_cons_succ, i64_w, i32_w]
                rfl
              refine pure_ (i := 4) (N := some 93) (v := ?_) (a' := ?_) #[true, false, true, true, true, false, false, false, false, false, false, false] rfl rfl (by kernel_rfl) (fun _ _ _ h => h) (Or.inl ⟨by rfl, ?_⟩) ?_ ?_
              rotate_left
              · intro w'
                go_simp
                with_reducible rfl
              rotate_left
              · simp only [Act.put, List.setIfInBounds_toArray, List.set_cons_zero, List.set_cons_succ, i64_w, i32_w]
                rfl
              refine pure_ (i := 7) (N := some 96) (v := ?_) (a' := ?_) #[true, false, true, true, true, false, false, true, false, false, false, false] rfl rfl (by kernel_rfl) (fun _ _ _ h => h) (Or.inl ⟨by rfl, ?_⟩) ?_ ?_
              rotate_left
              · intro w'
                go_simp
                with_reducible rfl
              rotate_left
              · simp only [Act.put, List.setIfInBounds_toArray, List.set_cons_zero, List.set_cons_succ, i64_w, i32_w]
                rfl
              refine take_ (i := 1) (N := some 90) (v := ?_) (a' := ?_) #[true, true, true, true, true, false, false, true, false, false, false, false] rfl rfl (by kernel_rfl) (fun _ _ _ h => h) (Or.inl ⟨by rfl, ?_⟩) hHeld ?_ ?_
              rotate_left
              · rintro w' ⟨s0, s1⟩
                go_simp
                with_reducible rfl
              rotate_left
              · simp only [Act.put, List.setIfInBounds_toArray, List.set_cons_zero, List.set_cons_succ, i64_w, i32_w]
                rfl
              refine take_ (i := 5) (N := some 94) (v := ?_) (a' := ?_) #[true, true, true, true, true, true, false, true, false, false, false, false] rfl rfl (by kernel_rfl) (fun _ _ _ h => h) (Or.inl ⟨by rfl, ?_⟩) hHeld ?_ ?_
              rotate_left
              · rintro w' ⟨s0, s1⟩
                go_simp
                with_reducible rfl
              rotate_left
              · simp only [Act.put, List.setIfInBounds_toArray, List.set_cons_zero, List.set_cons_succ, i64_w, i32_w]
                rfl
              refine pure_ (i := 6) (N := some 95) (v := ?_) (a' := ?_) #[true, true, true, true, true, true, true, true, false, false, false, false] rfl rfl (by kernel_rfl) (fun _ _ _ h => h) (Or.inl ⟨by rfl, ?_⟩) ?_ ?_
              rotate_left
              · intro w'
                go_simp
                with_reducible rfl
              rotate_left
              · simp only [Act.put, List.setIfInBounds_toArray, List.set_cons_zero, List.set_cons_succ, i64_w, i32_w]
                rfl
              refine one_ (i := 8) (N := some 97) #[true, true, true, true, true, true, true, true, true, false, false, false] rfl rfl (by kernel_rfl) (by decide) (fun K hK => ?_)
              refine goes_ Try.func25 (by kernel_rfl) rfl #[.slice (some adl) c.length cl, .int .i64 ((h : Int) - 1), .int .i64 (-1), .int .i64 base] (by rfl) rfl rfl (by simp only [List.map_toArray, List.map_cons, List.map_nil]; rfl) ?_
              with_reducible refine (HKB.out _ (HR22.out.trans ((below_drew1 (Below.refl _ _)).mono HR22.out.size))).mono ?_
              rintro e' w8 ⟨rfl, hd8⟩
              refine ⟨_, rfl, ?_⟩
              have hb8 : Below W22.heap.size W22 w8 := (below_drew1 (Below.refl W22.heap.size W22)).trans (hd8.below.mono (Nat.le_refl _))
              refine hK.out _ _ ⟨(blk_cell (blk_below HXB.out hb8) 1).trans rfl, HX0.out _ (Kd.R_below HOP22.out hb8)⟩ (fun hHeld => ?_)
              clear hK K
              refine norm_ (a' := ?_) ?_ ?_
              rotate_left
              · show Act.put _ (some 97) _ = _
                simp only [Act.put, List.setIfInBounds_toArray, List.set_cons_zero, List.set_cons_succ, i64_w, i32_w]
                rfl
              refine one_ (i := 9) (N := some 98) #[true, true, true, true, true, true, true, true, true, true, false, false] rfl rfl (by kernel_rfl) (by decide) (fun K hK => ?_)
              refine goes_ Try.func24 (by kernel_rfl) rfl #[.int .i64 x, .int .i64 kbv] (by rfl) rfl rfl (by simp only [List.map_toArray, List.map_cons, List.map_nil]; rfl) ?_
              with_reducible refine (HSD.out _ _).mono ?_
              rintro e' w9 ⟨rfl, hb9⟩
              refine ⟨_, rfl, ?_⟩
              have hb9' : Below W22.heap.size W22 w9 := below_step hb8 hb9
              have hz2 := blk_frozen (blk_below HXB.out hb9') 2
              have hy2 := (blk_cell (blk_below HXB.out hb9') 2).trans (show _ = some (.int .i64 0 : Value) from rfl)
              refine hK.out _ _ ⟨(blk_cell (blk_below HXB.out hb9') 1).trans rfl, HX0.out _ (Kd.R_below HOP22.out hb9')⟩ (fun hHeld => ?_)
              clear hK K
              refine norm_ (a' := ?_) ?_ ?_
              rotate_left
              · show Act.put _ (some 98) _ = _
                simp only [Act.put, List.setIfInBounds_toArray, List.set_cons_zero, List.set_cons_succ, i64_w, i32_w]
                rfl
              refine pure_ (i := 10) (N := some 99) (v := ?_) (a' := ?_) #[true, true, true, true, true, true, true, true, true, true, true, false] rfl rfl (by kernel_rfl) (fun _ _ _ h => h) (Or.inl ⟨by rfl, ?_⟩) ?_ ?_
              rotate_left
              · intro w'
                go_simp
                with_reducible rfl
              rotate_left
              · simp only [Act.put, List.setIfInBounds_toArray, List.set_cons_zero, List.set_cons_succ, i64_w, i32_w]
                rfl
              refine last_ (i := 11) (N := none) #[true, true, true, true, true, true, true, true, true, true, true, true] rfl rfl (by kernel_rfl) (by decide) (fun K hK => ?_)
              refine skip_ (w1 := ?_) (by rfl) rfl ?_ ?_
              rotate_left
              · go_simp
                rfl
              refine hK.out _ _ ?_
              clear hK K
              refine done_ (by kernel_rfl) ?_
              clear e2
              have hxb23 := blk_put (blk_below HXB.out hb9') 2 (.int .i64 (sideI x kbv)) rfl
              have hop23 := Kd.R_set (Kd.R_below HOP22.out hb9') (blk_below HXB.out hb9') (by decide) 2 (.int .i64 (sideI x kbv))
              have hr23 := (HR22.out.trans (hb9'.mono HR22.out.size)).setCell (p := ⟨bx, 2, none⟩) HGX.out.1 (.int .i64 (sideI x kbv))
              clear hz2 hy2 hb8 hb9 hb9'
              generalize w9.setCell ⟨bx, 2, none⟩ (.int .i64 (sideI x kbv)) = W23 at *
              have HXB23 := Aside0.mk hxb23
              have HR23 := Aside0.mk hr23
              have HOP23 := Aside0.mk hop23
              clear hxb23 hr23 hop23
              go_upto_region 24 with (fail)
              have e3 := E3.out
              refine start_ (n := 10) (S := fun w' => w'.cell? ⟨bx, 1, none⟩ = some (.int .i64 x)) (ds := [9]) #[false, false, false, false, false, false, false, false, false, false] (by kernel_rfl) rfl rfl ((blk_cell HXB23.out 1).trans rfl) (fun hHeld => ?_)
              refine pure_ (i := 0) (N := some 100) (v := ?_) (a' := ?_) #[true, false, false, false, false, false, false, false, false, false] rfl rfl (by kernel_rfl) (fun _ _ _ h => h) (Or.inl ⟨by rfl, ?_⟩) ?_ ?_
              rotate_left
              · intro w'
                go_simp
                with_reducible rfl
              rotate_left
              · simp only [Act.put, List.setIfInBounds_toArray, List.set_cons_zero, List.set_cons_succ, i64_w, i32_w]
                rfl
              refine pure_ (i := 2) (N := some 102) (v := ?_) (a' := ?_) #[true, false, true, false, false, false, false, false, false, false] rfl rfl (by kernel_rfl) (fun _ _ _ h => h) (Or.inl ⟨by rfl, ?_⟩) ?_ ?_
              rotate_left
              · intro w'
                go_simp
                with_reducible rfl
              rotate_left
              · simp only [Act.put, List.setIfInBounds_toArray, List.set_cons_zero, List.set_cons_succ, i64_w, i32_w]
                rfl
              refine pure_ (i := 3) (N := some 103) (v := ?_) (a' := ?_) #[true, false, true, true, false, false, false, false, false, false] rfl rfl (by kernel_rfl) (fun _ _ _ h => h) (Or.inl ⟨by rfl, ?_⟩) ?_ ?_
              rotate_left
              · intro w'
                go_simp
                with_reducible rfl
              rotate_left
              · simp only [Act.put, List.setIfInBounds_toArray, List.set_cons_zero, List.set_cons_succ, i64_w, i32_w]
                rfl
              refine pure_ (i := 4) (N := some 104) (v := ?_) (a' := ?_) #[true, false, true, true, true, false, false, false, false, false] rfl rfl (by kernel_rfl) (fun _ _ _ h => h) (Or.inl ⟨by rfl, ?_⟩) ?_ ?_
              rotate_left
              · intro w'
                go_simp
                with_reducible rfl
              rotate_left
              · simp only [Act.put, List.setIfInBounds_toArray, List.set_cons_zero, List.set_cons_succ, i64_w, i32_w]
                rfl
              refine pure_ (i := 5) (N := some 105) (v := ?_) (a' := ?_) #[true, false, true, true, true, true, false, false, false, false] rfl rfl (by kernel_rfl) (fun _ _ _ h => h) (Or.inl ⟨by rfl, ?_⟩) ?_ ?_
              rotate_left
              · intro w'
                go_simp
                with_reducible rfl
              rotate_left
              · simp only [Act.put, List.setIfInBounds_toArray, List.set_cons_zero, List.set_cons_succ, i64_w, i32_w]
                rfl
              refine take_ (i := 1) (N := some 101) (v := ?_) (a' := ?_) #[true, true, true, true, true, true, false, false, false, false] rfl rfl (by kernel_rfl) (fun _ _ _ h => h) (Or.inl ⟨by rfl, ?_⟩) hHeld ?_ ?_
              rotate_left
              · intro w' s0
                go_simp
                with_reducible rfl
              rotate_left
              · simp only [Act.put, List.setIfInBounds_toArray, List.set_cons_zero, List.set_cons_succ, i64_w, i32_w]
                rfl
              refine one_ (i := 6) (N := some 106) #[true, true, true, true, true, true, true, false, false, false] rfl rfl (by kernel_rfl) (by decide) (fun K hK => ?_)
              refine goes_ Try.func25 (by kernel_rfl) rfl #[.slice (some adl) c.length cl, .int .i64 ((e : Int) + 1), .int .i64 1, .int .i64 base] (by rfl) rfl rfl (by simp only [List.map_toArray, List.map_cons, List.map_nil]; rfl) ?_
              with_reducible refine (HKA.out _ (HR23.out.trans ((below_drew1 (Below.refl _ _)).mono HR23.out.size))).mono ?_
              rintro e' w8 ⟨rfl, hd8⟩
              refine ⟨_, rfl, ?_⟩
              have hb8 : Below W23.heap.size W23 w8 := (below_drew1 (Below.refl W23.heap.size W23)).trans (hd8.below.mono (Nat.le_refl _))
              refine hK.out _ _ ((blk_cell (blk_below HXB23.out hb8) 1).trans rfl) (fun hHeld => ?_)
              clear hK K
              refine norm_ (a' := ?_) ?_ ?_
              rotate_left
              · show Act.put _ (some 106) _ = _
                simp only [Act.put, List.setIfInBounds_toArray, List.set_cons_zero, List.set_cons_succ, i64_w, i32_w]
                rfl
              refine one_ (i := 7) (N := some 107) #[true, true, true, true, true, true, true, true, false, false] rfl rfl (by kernel_rfl) (by decide) (fun K hK => ?_)
              refine goes_ Try.func24 (by kernel_rfl) rfl #[.int .i64 x, .int .i64 kav] (by rfl) rfl rfl (by simp only [List.map_toArray, List.map_cons, List.map_nil]; rfl) ?_
              with_reducible refine (HSD.out _ _).mono ?_
              rintro e' w9 ⟨rfl, hb9⟩
              refine ⟨_, rfl, ?_⟩
              have hb9' : Below W23.heap.size W23 w9 := below_step hb8 hb9
              have hz2 := blk_frozen (blk_below HXB23.out hb9') 3
              have hy2 := (blk_cell (blk_below HXB23.out hb9') 3).trans (show _ = some (.int .i64 0 : Value) from rfl)
              refine hK.out _ _ ((blk_cell (blk_below HXB23.out hb9') 1).trans rfl) (fun hHeld => ?_)
              clear hK K
              refine norm_ (a' := ?_) ?_ ?_
              rotate_left
              · show Act.put _ (some 107) _ = _
                simp only [Act.put, List.setIfInBounds_toArray, List.set_cons_zero, List.set_cons_succ, i64_w, i32_w]
                rfl
              refine pure_ (i := 8) (N := some 108) (v := ?_) (a' := ?_) #[true, true, true, true, true, true, true, true, true, false] rfl rfl (by kernel_rfl) (fun _ _ _ h => h) (Or.inl ⟨by rfl, ?_⟩) ?_ ?_
              rotate_left
              · intro w'
                go_simp
                with_reducible rfl
              rotate_left
              · simp only [Act.put, List.setIfInBounds_toArray, List.set_cons_zero, List.set_cons_succ, i64_w, i32_w]
                rfl
              refine last_ (i := 9) (N := none) #[true, true, true, true, true, true, true, true, true, true] rfl rfl (by kernel_rfl) (by decide) (fun K hK => ?_)
              refine skip_ (w1 := ?_) (by rfl) rfl ?_ ?_
              rotate_left
              · go_simp
                rfl
              refine hK.out _ _ ?_
              clear hK K
              refine done_ (by kernel_rfl) ?_
              clear e3
              have hxb24 := blk_put (blk_below HXB23.out hb9') 3 (.int .i64 (sideI x kav)) rfl
              have hop24 := Kd.R_set (Kd.R_below HOP23.out hb9') (blk_below HXB23.out hb9') (by decide) 3 (.int .i64 (sideI x kav))
              have hr24 := (HR23.out.trans (hb9'.mono HR23.out.size)).setCell (p := ⟨bx, 3, none⟩) HGX.out.1 (.int .i64 (sideI x kav))
              clear hz2 hy2 hb8 hb9 hb9'
              generalize w9.setCell ⟨bx, 3, none⟩ (.int .i64 (sideI x kav)) = W24 at *
              have HXB24 := Aside0.mk hxb24
              have HR24 := Aside0.mk hr24
              have HOP24 := Aside0.mk hop24
              have hE24 := HE6.out.below (HBJ.out.trans (hr24.mono HBJ.out.size))
              have hcb := (blk_cell hE24.vc 0).trans (show _ = some (Value.slice (some adc) c.length c0) from rfl)
              obtain ⟨adc', eA0', hxc⟩ := Kd.at_int hE24.hc (e : Int) (by omega) (by have := HNM.out.2.2.2.2.2; omega)
              injection eA0' with eA0'
              subst eA0'
              rw [Int.toNat_natCast] at hxc
              clear hxb24 hr24 hop24 hE24
              by_cases hs : st (rd c (e : Int)) = true
              · have HS := Aside0.mk hs
                have hst : ∀ V, Calls Try.prog 23 #[.int .i64 (rd c (e : Int))] V (fun e' w' => e' = .returned (.bool true) ∧ Drawn0 V w') := fun V => runs_starts.calls (rd c (e : Int)) true V ((rstarts_eq _).trans (congrArg some hs))
                have HST := Aside0.mk hst
                clear hst
                clear hs
                go_wp2_with (first | (go_at_call 23; refine (HST.out _).mono ?_; rintro e' w25 ⟨rfl, hd25⟩; refine of_halt ?_))
                unfold Halt
                have hb25 := hd25.below
                have hx25 := blk_below HXB24.out hb25
                have hcx1 := (blk_cell hx25 1).trans (show _ = some (.int .i64 x : Value) from rfl)
                have HX25 := Aside0.mk hx25
                have HB25 := Aside0.mk hb25
                clear hd25 hb25 hx25
                go_upto_region 26 with (fail)
                go_wp2_with (first | ((with_reducible refine gate_callee (f := 24) rfl ?_); refine goesL_ (some 117) rfl rfl Try.func24 (by kernel_rfl) rfl #[.int .i64 x, .int .i64 base] rfl (by (try simp only [List.map_toArray, List.map_cons, List.map_nil]); first | done | rfl) ?_; refine (HSD.out _ _).mono ?_; rintro e' w26 ⟨rfl, hb26⟩; have HX26 := Aside0.mk (blk_below HX25.out hb26); have HB26 := Aside0.mk hb26; have hz3 := blk_frozen HX26.out 3; have hy3 := (blk_cell HX26.out 3).trans (show _ = some (.int .i64 (sideI x kav) : Value) from rfl); clear hb26; refine ⟨_, rfl, ?_⟩; refine of_halt ?_))
                unfold Halt
                go_upto_region 27 with (fail)
                have hop27 := Kd.R_set (Kd.R_below (Kd.R_below HOP24.out HB25.out) HB26.out) HX26.out (by decide) 3 (.int .i64 (sideI x base))
                have hxb27 := blk_put HX26.out 3 (.int .i64 (sideI x base)) rfl
                have hr27 := (HR24.out.trans ((below_step HB25.out HB26.out).mono HR24.out.size)).setCell (p := ⟨bx, 3, none⟩) HGX.out.1 (.int .i64 (sideI x base))
                clear hz3 hy3
                generalize w26.setCell ⟨bx, 3, none⟩ (.int .i64 (sideI x base)) = W27 at *
                have HXB27 := Aside0.mk hxb27
                have HR27 := Aside0.mk hr27
                have HOP27 := Aside0.mk hop27
                clear hxb27 hr27 hop27
                have hE27 := HSO.out
                have HLTS := Aside0.mk (fun g (hg : (u15 : Value).ownBlock = some g) => Kd.S_lt HO.out g hg)
                have HOS := Aside0.mk (Kd.S_mono (Kd.S_step (Kd.S_bound HO.out) (fun q hq hlt => HR27.out.block q hlt)) (ok' := fun q => True ∧ ¬ (wr.heap.size ≤ q)) (fun q hq => ⟨trivial, by have := hq.2.2.1; omega⟩))
                obtain ⟨hc0_, hc1_, hc2_, hc3_, _, _, _, _⟩ := cells4 HXB27.out
                clear hE27
                go_wp2_with (first | ((with_reducible refine gate_builtin (b := .append) (xs := #[.tmp 119, .tmp 121]) rfl ?_); at_builtin; refine of_halt ?_))
                unfold Halt
                refine Kd.S_append k36 (w0 := W6) W6.heap.size rfl (.tmp 119) (.tmp 121) 29 36 (.agg #[.slice none 0 0, .int .i64 0, .int .i64 0, .int .i64 0]) 48 rfl Try.underlying29 info36 rfl (by decide) (by omega) u15 (outsOf c base j) (toS (seqOf c base h)) [.slice (some ⟨gp, 0, none⟩) N cp, .int .i64 x, .int .i64 (sideI x kbv), .int .i64 (sideI x base)] (fun _ => True) (fun q => wr.heap.size ≤ q) rfl rfl ?aP (fun q hq => ⟨trivial, fun e_ => by have := HLTS.out q e_.symm; omega⟩) (fun _ _ => trivial) HOS.out ?aB ?aS ?aL ?_
                case aP =>
                  have hq_ := k36_mkM W27 W6.heap.size (fun q => wr.heap.size ≤ q) (toS (seqOf c base h)) (v0 := .slice (some ⟨gp, 0, none⟩) N cp) (by rw [List.nil_append] at HOP27; exact HOP27.out)
                  have hf_ : (toS (seqOf c base h)).f1 = x ∧ (toS (seqOf c base h)).f2 = sideI x kbv ∧ (toS (seqOf c base h)).f3 = (sideI x base) := by
                    simp only [toS, seqOf]
                    rw [HNM.out.2.2.2.1, HNM.out.2.2.2.2.1, HKV.out.1]
                    refine ⟨rfl, rfl, ?_⟩
                    rw [if_pos (by have h5_ := HS.out; rw [rd_nat] at h5_; exact h5_)]
                  rw [hf_.1, hf_.2.1, hf_.2.2] at hq_
                  exact hq_
                case aB => exact HBJ.out.trans (HR27.out.mono HBJ.out.size)
                case aS => exact Nat.le_trans HBJ.out.size HR27.out.size
                case aL =>
                  have h1_ : (outsOf c base j).length ≤ j := by
                    unfold outsOf
                    rw [List.length_map]
                    refine Nat.le_trans (List.length_filter_le _ _) ?_
                    rw [List.length_take]
                    omega
                  have h2_ := HJ.out
                  have h3_ := HLNB.out
                  omega
                intro v28 w28 ho28 hb28 hg28 hat28
                rw [← HSO.out] at ho28
                have HO28 := Aside0.mk ho28
                have HB28 := Aside0.mk hb28
                clear ho28 hb28 hg28 hat28
                go_wp2
                go_roundg (gk - 1)
                case measure => have := HJQ.out; have := HLT.out; omega
                case rel => exact ⟨j + 1, by rw [show wrap64 ((j : Int) + 1) = ((j + 1 : Nat) : Int) from by have := HLT.out; have := HLNB.out; unfold wrap64; omega], ⟨HLT.out⟩, ⟨by have := HJQ.out; have := HLT.out; omega⟩, HO28, HB28⟩
              · have HS := Aside0.mk hs
                have hst : ∀ V, Calls Try.prog 23 #[.int .i64 (rd c (e : Int))] V (fun e' w' => e' = .returned (.bool false) ∧ Drawn0 V w') := fun V => runs_starts.calls (rd c (e : Int)) false V ((rstarts_eq _).trans (congrArg some (by simpa using hs)))
                have HST := Aside0.mk hst
                clear hst hs
                go_upto_region 27 with (first | (go_at_call 23; refine (HST.out _).mono ?_; rintro e' W27 ⟨rfl, hd25⟩))
                have hb25 := hd25.below
                have HXB27 := Aside0.mk (blk_below HXB24.out hb25)
                have HR27 := Aside0.mk (HR24.out.trans (hb25.mono HR24.out.size))
                have HOP27 := Aside0.mk (Kd.R_below HOP24.out hb25)
                clear hd25 hb25
                have hE27 := HSO.out
                have HLTS := Aside0.mk (fun g (hg : (u15 : Value).ownBlock = some g) => Kd.S_lt HO.out g hg)
                have HOS := Aside0.mk (Kd.S_mono (Kd.S_step (Kd.S_bound HO.out) (fun q hq hlt => HR27.out.block q hlt)) (ok' := fun q => True ∧ ¬ (wr.heap.size ≤ q)) (fun q hq => ⟨trivial, by have := hq.2.2.1; omega⟩))
                obtain ⟨hc0_, hc1_, hc2_, hc3_, _, _, _, _⟩ := cells4 HXB27.out
                clear hE27
                go_wp2_with (first | ((with_reducible refine gate_builtin (b := .append) (xs := #[.tmp 119, .tmp 121]) rfl ?_); at_builtin; refine of_halt ?_))
                unfold Halt
                refine Kd.S_append k36 (w0 := W6) W6.heap.size rfl (.tmp 119) (.tmp 121) 29 36 (.agg #[.slice none 0 0, .int .i64 0, .int .i64 0, .int .i64 0]) 48 rfl Try.underlying29 info36 rfl (by decide) (by omega) u15 (outsOf c base j) (toS (seqOf c base h)) [.slice (some ⟨gp, 0, none⟩) N cp, .int .i64 x, .int .i64 (sideI x kbv), .int .i64 (sideI x kav)] (fun _ => True) (fun q => wr.heap.size ≤ q) rfl rfl ?aP (fun q hq => ⟨trivial, fun e_ => by have := HLTS.out q e_.symm; omega⟩) (fun _ _ => trivial) HOS.out ?aB ?aS ?aL ?_
                case aP =>
                  have hq_ := k36_mkM W27 W6.heap.size (fun q => wr.heap.size ≤ q) (toS (seqOf c base h)) (v0 := .slice (some ⟨gp, 0, none⟩) N cp) (by rw [List.nil_append] at HOP27; exact HOP27.out)
                  have hf_ : (toS (seqOf c base h)).f1 = x ∧ (toS (seqOf c base h)).f2 = sideI x kbv ∧ (toS (seqOf c base h)).f3 = (sideI x kav) := by
                    simp only [toS, seqOf]
                    rw [HNM.out.2.2.2.1, HNM.out.2.2.2.2.1, HKV.out.1]
                    refine ⟨rfl, rfl, ?_⟩
                    rw [if_neg (by have h5_ := HS.out; rw [rd_nat] at h5_; exact h5_), HKV.out.2]
                  rw [hf_.1, hf_.2.1, hf_.2.2] at hq_
                  exact hq_
                case aB => exact HBJ.out.trans (HR27.out.mono HBJ.out.size)
                case aS => exact Nat.le_trans HBJ.out.size HR27.out.size
                case aL =>
                  have h1_ : (outsOf c base j).length ≤ j := by
                    unfold outsOf
                    rw [List.length_map]
                    refine Nat.le_trans (List.length_filter_le _ _) ?_
                    rw [List.length_take]
                    omega
                  have h2_ := HJ.out
                  have h3_ := HLNB.out
                  omega
                intro v28 w28 ho28 hb28 hg28 hat28
                rw [← HSO.out] at ho28
                have HO28 := Aside0.mk ho28
                have HB28 := Aside0.mk hb28
                clear ho28 hb28 hg28 hat28
                go_wp2
                go_roundg (gk - 1)
                case measure => have := HJQ.out; have := HLT.out; omega
                case rel => exact ⟨j + 1, by rw [show wrap64 ((j : Int) + 1) = ((j + 1 : Nat) : Int) from by have := HLT.out; have := HLNB.out; unfold wrap64; omega], ⟨HLT.out⟩, ⟨by have := HJQ.out; have := HLT.out; omega⟩, HO28, HB28⟩
        · obtain rfl : j = k := by have := HJ.out; omega
          have p3 : decide ((j : Int) < (j : Int)) = false := decide_eq_false (by omega)
          have p4 : decide (j < j) = false := decide_eq_false (by omega)
          clear hlt
          go_wp2
          go_ret2
          refine ⟨_, rfl, ?_, below_step HB6.out HBJ.out⟩
          have h := HO.out
          rw [← HLN.out.2, outsOf_all] at h
          exact Kd.S_lower h HB6.out.size
end Go.Proofs.Yteldofimjklckaa.G
/- runs.Sequences. By hand. -/
namespace Go.Proofs.Yteldofimjklckaa.G
open Go.RowKit Go.Proofs.Yteldofimjklckaa.X Go.Proofs.YteldofimjklckaaW.PrintWords Go.Proofs.YteldofimjklckaaW.PrintLast Go.Proofs.YteldofimjklckaaW.PrintMore Go.Proofs.Yteldofimjklckaa.Exp Go.Proofs.Yteldofimjklckaa.Run Go.Proofs.Yteldofimjklckaa.Iso
set_option linter.unusedVariables false

def runs_Sequences.f (c : List Int) (base : Int) : Option (List S36 × Int) := if c.length ≤ 1048576 then some (if base ≠ 0 ∧ base ≠ 1 then ([], 2) else if formedB c = false then ([], 50) else ((seqList c base).map toS, 0)) else none
theorem runs_Sequences.calls (A0 : Option Addr) (c0 : Nat) (l0 : List Int) (a1 : Int) (r1 : List S36) (r2 : Int) (w : World) (hr0 : Kd.C (Kd.int .i64) w A0 l0.length l0) (hc0 : l0.length ≤ c0) (h : runs_Sequences.f l0 a1 = some (r1, r2)) :
    Calls Try.prog 14 #[.slice A0 l0.length c0, .int .i64 a1] w fun e w' => ∃ v0_ : Value, e = .returned (.tuple #[v0_, .int .i64 r2]) ∧ Kd.S k36 36 w' w.heap.size (fun _ => True) v0_ r1 ∧ Below w.heap.size w w' := by
  have hl : l0.length ≤ 1048576 := by unfold runs_Sequences.f at h; split at h; assumption; simp at h
  rw [runs_Sequences.f, if_pos hl] at h
  by_cases h1 : a1 ≠ 0 ∧ a1 ≠ 1
  · rw [if_pos h1] at h
    simp only [Option.some.injEq, Prod.mk.injEq] at h
    obtain ⟨rfl, rfl⟩ := h
    exact seq_bad A0 c0 l0 a1 2 w hr0 hc0 (by rw [explicit_Resolve.f, if_pos (by omega), if_pos h1]) (by decide)
  · rw [if_neg h1] at h
    by_cases h2 : formedB l0 = false
    · rw [if_pos h2] at h
      simp only [Option.some.injEq, Prod.mk.injEq] at h
      obtain ⟨rfl, rfl⟩ := h
      exact seq_bad A0 c0 l0 a1 50 w hr0 hc0 (by rw [explicit_Resolve.f, if_pos (by omega), if_neg h1, if_pos h2]) (by decide)
    · rw [if_neg h2] at h
      simp only [Option.some.injEq, Prod.mk.injEq] at h
      obtain ⟨rfl, rfl⟩ := h
      exact seq_main A0 c0 l0 a1 w hr0 hc0 hl (by omega) ((formedB_iff l0).1 (by simpa using h2))
end Go.Proofs.Yteldofimjklckaa.G
