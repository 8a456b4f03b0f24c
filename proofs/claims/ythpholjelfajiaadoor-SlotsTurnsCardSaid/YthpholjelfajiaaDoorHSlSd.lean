/- Slots on a disk that is not stopped: Save, Which, Latest, Open in one form. -/
import Derived.Test.YthpholjelfajiaaDoorHSlOd
import Derived.Test.YthpholjelfajiaaDoorHSlDo
namespace Go.Proofs.YthpholjelfajiaaDoor.G
open Go.RowKit Go.Shelf Go.Proofs.YthpholjelfajiaaDoor.X Go.Proofs.YthpholjelfajiaaDoor.E Go.Proofs.YthpholjelfajiaaDoor.C Go.Proofs.YthpholjelfajiaaDoor.T Go.Proofs.YthpholjelfajiaaDoorW.PrintWords Go.Proofs.YthpholjelfajiaaDoorW.PrintLast Go.Proofs.YthpholjelfajiaaDoorW.PrintMore Go.Proofs.YthpholjelfajiaaDoor.Dsk Go.Proofs.YthpholjelfajiaaDoor.Sl
set_option linter.unusedVariables false
set_option linter.unusedSimpArgs false
section
variable {F H : Nat → Prop} {w W : World} {gd g fr ch : Nat} {d : Dk} {s0 s1 : Slot} {v0 v1 : Value}
theorem SlD.kpFr (h : SlD F H w gd g fr ch d s0 s1 v0 v1 W) {V : World} (hV : Kp (fun k => F k ∨ H k) W V) : Fr w V := h.fr_.then_kp hV (fun k hk => hk.elim (h.f k) (h.h k))
theorem SlD.svin (h : SlD F H w gd g fr ch d s0 s1 v0 v1 W) (hT : Tab w) (hrm : Room d 10000) (A : Option Addr) (c : Nat) (l0 : List Int) (hrow : ∀ V, Kp (fun k => F k ∨ H k) W V → Kd.C (Kd.int .u8) V A l0.length l0) (hc : l0.length ≤ c) : SvIn F H g gd fr ch s0 s1 v0 v1 d A c l0 W :=
  ⟨h.sl, h.dk, h.ap, hrm, fun V hV => Kd.C_below hT (h.kpFr hV).below, hrow, hc⟩
/-- What a slot is behind a Save. -/
def putS (k k' : Nat) (e : Int) (l0 : List Int) (s : Slot) : Slot := if k = k' then (true, e, l0) else s
def SvDP (F H : Nat → Prop) (w : World) (gd g fr ch : Nat) (d : Dk) (s0 s1 : Slot) (k : Nat) (l0 : List Int) (ep : Int) (W : World) (e : Ending) (w' : World) : Prop :=
  e = .returned (.int .i64 0) ∧ ∃ F' H' v0 v1 d', SlD F' H' w gd g fr ch d' (putS k 0 ep l0 s0) (putS k 1 ep l0 s1) v0 v1 w' ∧ Saved d fr ch k l0 ep d' ∧ Kp (fun k => F k ∨ H k) W w' ∧ (∀ k, F' k → F k ∨ W.heap.size ≤ k) ∧ (∀ k, H' k → H k ∨ W.heap.size ≤ k)
theorem SlD.of_save {k : Nat} {l0 : List Int} {ep : Int} {e : Ending} {w' : World} (h : SlD F H w gd g fr ch d s0 s1 v0 v1 W) (hsv : (saveD d fr ch k l0 ep).2 = 0 ∧ Saved d fr ch k l0 ep (saveD d fr ch k l0 ep).1) (hp : SaveP F H g gd fr ch (putS k 0 ep l0 s0) (putS k 1 ep l0 s1) (saveD d fr ch k l0 ep) W e w') : SvDP F H w gd g fr ch d s0 s1 k l0 ep W e w' := by
  obtain ⟨he, F', H', u0, u1, hD, hS, hF, hH, hap, hk⟩ := hp
  refine ⟨by rw [he, hsv.1], F', H', u0, u1, _, ⟨hD, hS, hap, fun q hq => ?_, fun q hq => ?_, h.kpFr hk⟩, hsv.2, hk, hF, hH⟩
  · exact (hF q hq).elim (h.f q) (fun z => Nat.le_trans h.fr_.size z)
  · exact (hH q hq).elim (h.h q) (fun z => Nat.le_trans h.fr_.size z)
theorem SlD.save_c (h : SlD F H w gd g fr ch d s0 s1 v0 v1 W) (hT : Tab w) (hrm : Room d 10000) (A : Option Addr) (c : Nat) (l0 : List Int) (hrow : ∀ V, Kp (fun k => F k ∨ H k) W V → Kd.C (Kd.int .u8) V A l0.length l0) (hc : l0.length ≤ c) (e : Int) (he : lastE s0 s1 < e ∧ e ≤ 2147483647) (hl : l0.length ≤ 54 * ch) (hlf : d.left = none) (hr : fr + 2 * (1 + ch) ≤ d.lies.length) :
    Calls Tryd.prog 10 #[.pointer (some ⟨g, 0, none⟩), .slice A l0.length c, .int .i64 e] W (SvDP F H w gd g fr ch d s0 s1 (saveK s0 s1) l0 e W) := by
  have hi := h.svin hT hrm A c l0 hrow hc
  by_cases hw : which s0 s1 = 0
  · rw [show saveK s0 s1 = 1 by unfold saveK; rw [if_pos hw]]
    have hsv := saveD_none d fr ch 1 l0 e hlf (by unfold bg; omega) hl
    refine (Save_do1 F H g gd fr ch s0 s1 v0 v1 d A c l0 e W hi he hl hw).mono fun e' w' hp => h.of_save hsv ?_
    rw [show svSlot d fr ch 1 l0 e s1 = putS 1 1 e l0 s1 by unfold svSlot putS; rw [if_pos hsv.1, if_pos rfl]] at hp
    exact hp
  · rw [show saveK s0 s1 = 0 by unfold saveK; rw [if_neg hw]]
    have hsv := saveD_none d fr ch 0 l0 e hlf (by unfold bg; omega) hl
    refine (Save_do0 F H g gd fr ch s0 s1 v0 v1 d A c l0 e W hi he hl hw).mono fun e' w' hp => h.of_save hsv ?_
    rw [show svSlot d fr ch 0 l0 e s0 = putS 0 0 e l0 s0 by unfold svSlot putS; rw [if_pos hsv.1, if_pos rfl]] at hp
    exact hp
theorem SlD.save_no (h : SlD F H w gd g fr ch d s0 s1 v0 v1 W) (hT : Tab w) (hrm : Room d 10000) (A : Option Addr) (c : Nat) (l0 : List Int) (hrow : ∀ V, Kp (fun k => F k ∨ H k) W V → Kd.C (Kd.int .u8) V A l0.length l0) (hc : l0.length ≤ c) (e : Int) (he : e ≤ lastE s0 s1 ∨ 2147483647 < e) :
    Calls Tryd.prog 10 #[.pointer (some ⟨g, 0, none⟩), .slice A l0.length c, .int .i64 e] W fun e' w' => e' = .returned (.int .i64 2) ∧ Below W.heap.size W w' :=
  Save_arg F H g gd fr ch s0 s1 v0 v1 d A c l0 e W (h.svin hT hrm A c l0 hrow hc) he
theorem SlD.save_big (h : SlD F H w gd g fr ch d s0 s1 v0 v1 W) (hT : Tab w) (hrm : Room d 10000) (A : Option Addr) (c : Nat) (l0 : List Int) (hrow : ∀ V, Kp (fun k => F k ∨ H k) W V → Kd.C (Kd.int .u8) V A l0.length l0) (hc : l0.length ≤ c) (e : Int) (he : lastE s0 s1 < e ∧ e ≤ 2147483647) (hl : 54 * ch < l0.length) :
    Calls Tryd.prog 10 #[.pointer (some ⟨g, 0, none⟩), .slice A l0.length c, .int .i64 e] W fun e' w' => e' = .returned (.int .i64 3) ∧ Below W.heap.size W w' :=
  Save_big F H g gd fr ch s0 s1 v0 v1 d A c l0 e W (h.svin hT hrm A c l0 hrow hc) he hl
theorem SlD.which_c (h : SlD F H w gd g fr ch d s0 s1 v0 v1 W) : Calls Tryd.prog 9 #[.pointer (some ⟨g, 0, none⟩)] W fun e w' => e = .returned (.int .i64 (which s0 s1)) ∧ Below W.heap.size W w' := Which_c H g gd fr ch s0 s1 v0 v1 W h.sl
theorem SlD.latest_c (h : SlD F H w gd g fr ch d s0 s1 v0 v1 W) : Calls Tryd.prog 8 #[.pointer (some ⟨g, 0, none⟩)] W (LatP s0 s1 W) := Latest_c H g gd fr ch s0 s1 v0 v1 W h.sl
end
/-- A row of the call's own stays where it is apart. -/
theorem row_kp {k : IntKind} {e base : Nat} {ok F : Nat → Prop} {xs : List Int} {A : Option Addr} {c : Nat} {w w' : World} (h : (Kd.int k).R e w base ok (.slice A xs.length c) xs) (hk : Kp F w w') (hd : ∀ q, ok q → ¬ F q) : Kd.C (Kd.int k) w' A xs.length xs := (Kd.R_reads' (hk.R h hd)).2.2
end Go.Proofs.YthpholjelfajiaaDoor.G
