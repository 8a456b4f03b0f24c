/- Regions without calls, walked inside a fence and within a round as everywhere else. -/
import Derived.Test.YthpholjelfajiaaDoorHBig
import Derived.OrdersIn
import Derived.OwnWalkIn
import Derived.TacticsIn
namespace Go.Proofs.YthpholjelfajiaaDoor.G
open Go.RowKit Go.Proofs.YthpholjelfajiaaDoorW.PrintWords Go.Proofs.YthpholjelfajiaaDoorW.PrintLast Go.Proofs.YthpholjelfajiaaDoorW.PrintMore
set_option linter.unusedVariables false
set_option linter.unusedSimpArgs false

def tameOp : Op → Bool
  | .move _ | .assign _ | .pick .. | .alloc _ | .box .. | .build .. | .buildSlice .. | .load .. | .store .. | .binOp .. | .unOp .. | .convert .. | .sliceToArrayPointer .. | .makeSlice .. | .slice .. | .fieldAddr .. | .indexAddr .. => true
  | .nilCheck _ => true
  | .call { callee := .builtin .append, .. } | .call { callee := .builtin .cap, .. } | .call { callee := .builtin .copy, .. } | .call { callee := .builtin .len, .. } | .call { callee := .builtin .max, .. } | .call { callee := .builtin .min, .. } => true
  | _ => false
def Tame (r : Result Next) : Prop := match r with
  | .ok (.value _) _ | .ok .skip _ | .halt _ _ => True
  | _ => False
theorem tame_v (P : Program) (w : World) (s : Sem Value) : Tame ((do let x ← s; pure (Next.value x) : Sem Next).run P w) := by
  rw [Sem.run_bind]
  cases s.run P w <;> exact trivial
theorem tame_u (P : Program) (w : World) (s : Sem Unit) : Tame ((do s; pure Next.skip : Sem Next).run P w) := by
  rw [Sem.run_bind]
  cases s.run P w <;> exact trivial
theorem tame_bind {α : Type} (P : Program) (w : World) (s : Sem α) (f : α → Sem Next) (hf : ∀ x w, Tame ((f x).run P w)) : Tame ((s >>= f).run P w) := by
  rw [Sem.run_bind]
  cases s.run P w with
  | ok x w' => exact hf x w'
  | halt h w' => exact trivial
theorem tame_pure (P : Program) (w : World) (v : Value) : Tame ((pure (Next.value v) : Sem Next).run P w) := trivial
theorem tame_nil (P : Program) (ρ : Operand → Value) (o : Oper) (x : Operand) (h : o.op = .nilCheck x) (w : World) : Tame ((execOp ρ o).run P w) := by
  unfold execOp
  rw [h]
  simp only
  split
  · exact trivial
  · exact trivial
  · exact trivial
  · split
    · exact trivial
    · refine tame_bind _ _ _ _ fun p w1 => tame_bind _ _ _ _ fun q w2 => ?_
      split
      · refine tame_bind _ _ _ _ fun p w1 => trivial
      · exact trivial
    · exact trivial
  · exact trivial
theorem tame_exec (P : Program) (ρ : Operand → Value) (o : Oper) (h : tameOp o.op = true) (w : World) : Tame ((execOp ρ o).run P w) := by
  cases ho : o.op with
  | nilCheck x => exact tame_nil P ρ o x ho w
  | call c =>
    obtain ⟨callee, args, ats⟩ := c
    rw [ho] at h
    cases callee with
    | builtin b => cases b <;> first | (simp [tameOp] at h; done) | (unfold execOp; rw [ho]; exact tame_v P w _)
    | value f => exact absurd h (by simp [tameOp])
    | invoke r n => exact absurd h (by simp [tameOp])
  | _ => first
    | (rw [ho] at h; simp [tameOp] at h; done)
    | (unfold execOp; rw [ho]; first | exact trivial | exact tame_v P w _ | exact tame_u P w _ | (refine tame_bind _ _ _ _ fun x w1 => ?_; exact trivial))
theorem tame_about {P : Program} {w : World} {ρ : Operand → Value} {o : Oper} (h : tameOp o.op = true) : o.about P w ρ = none := by
  unfold Oper.about
  cases ho : o.op with
  | call c =>
    obtain ⟨callee, args, ats⟩ := c
    rw [ho] at h
    cases callee with
    | builtin b => rfl
    | value f => exact absurd h (by simp [tameOp])
    | invoke r n => exact absurd h (by simp [tameOp])
  | _ => rfl
theorem tame_defer {o : Oper} (h : tameOp o.op = true) : ∀ c, o.op ≠ .defer c := fun c e => by rw [e] at h; cases h
/-- A piece of code that is left in no other way than behind its end. -/
def NormalOnly (Q : Exit → Act → World → Prop) : Exit → Act → World → Prop
  | .normal, a, w => Q .normal a w
  | _, _, _ => False
theorem normal_of {Q : Exit → Act → World → Prop} {a : Act} {w : World} (h : Q .normal a w) : NormalOnly Q .normal a w := h
theorem wp_normal {P : Program} {c : Code} {Q : Exit → Act → World → Prop} {a : Act} {w : World} (h : c.wp P (NormalOnly Q) a w) : c.wp P Q a w :=
  wp_mono h (fun e a w h => by cases e <;> first | exact h | exact h.elim)
theorem wpIn_normal {F : Fence} {n : Nat} {P : Program} {c : Code} {Q : Exit → Act → World → Prop} {a : Act} {w : World} (h : c.wpIn F n P (NormalOnly Q) a w) : c.wpIn F n P Q a w :=
  wpIn_mono h (fun e a w h => by cases e <;> first | exact h | exact h.elim)
section
variable {F : Fence} {n : Nat} {P : Program} {o : Oper} {a : Act} {w : World} {K : Act → World → Prop} {Q : Exit → Act → World → Prop}
theorem wpIn_of_wp_tame (ht : tameOp o.op = true) (h : o.wp P a w K Q) : o.wpIn F n P a w K Q := by
  refine ⟨fun f hf => (by rw [tame_about ht] at hf; cases hf), ?_⟩
  rw [Oper.semAt_plain F _ _ (tame_defer ht)]
  unfold Oper.wp at h
  have hT := tame_exec P a.eval o ht w
  generalize (execOp a.eval o).run P w = r at *
  cases r with
  | ok x w' => cases x <;> first | exact h | exact hT.elim
  | halt x w' => cases x <;> first | exact h | exact h.elim
variable {ops : Array Oper} {md : Region.Mode}
theorem wpOpIn_of_tame (hL : ¬ LetsOut Q) (ht : ∀ o ∈ ops, tameOp o.op = true) {i : Nat} {K K' : Act → World → Prop} (hK : ∀ a w, K a w → K' a w) {a : Act} {w : World} (h : wpOp P ops Q i K a w) : wpOpIn F n P ops Q i K' a w := by
  unfold wpOp at h
  unfold wpOpIn
  cases ho : ops[i]? with
  | none => rw [ho] at h; exact hK _ _ h
  | some o =>
    have hto := ht o (Array.mem_of_getElem? ho)
    rw [ho] at h
    simp only at h ⊢
    split
    · rename_i hw
      rw [if_pos hw] at h
      rcases h with h | h
      · exact wpIn_of_wp_tame hto (Oper.wp_mono hK h)
      · exact absurd h.2 hL
    · rename_i hw
      rw [if_neg hw] at h
      exact ⟨fun f hf => (by rw [tame_about hto] at hf; cases hf), hK _ _ h⟩
theorem wpAnyIn_of_tame (hL : ¬ LetsOut Q) (ht : ∀ o ∈ ops, tameOp o.op = true) : ∀ (fuel : Nat) (l : Array Bool) (a : Act) (w : World), wpAny P md ops Q fuel l a w → wpAnyIn F n P md ops Q fuel l a w
  | 0, _, _, _, h => h
  | fuel + 1, _, _, _, h => ⟨h.1, fun i hi => wpOpIn_of_tame hL ht (fun a w => wpAnyIn_of_tame hL ht fuel _ a w) (h.2 i hi)⟩
theorem wpListIn_of_tame (hL : ¬ LetsOut Q) : ∀ (l : List Oper) (ht : ∀ o ∈ l, tameOp o.op = true) (a : Act) (w : World), wpList P ops Q l a w → wpListIn F n P ops Q l a w
  | [], _, _, _, h => h
  | o :: l, ht, a, w, h => by
    have hto := ht o (by simp)
    unfold wpList at h
    unfold wpListIn
    split
    · rename_i hw
      rw [if_pos hw] at h
      rcases h with h | h
      · exact wpIn_of_wp_tame hto (Oper.wp_mono (fun a w => wpListIn_of_tame hL l (fun o ho => ht o (by simp [ho])) a w) h)
      · exact absurd h.2 hL
    · rename_i hw
      rw [if_neg hw] at h
      exact ⟨fun f hf => (by rw [tame_about hto] at hf; cases hf), wpListIn_of_tame hL l (fun o ho => ht o (by simp [ho])) _ _ h⟩
/-- start_ inside a fence: for regions without calls. -/
theorem startIn_ {S : World → Prop} {ds : List Nat} {id m : Nat} (l : Array Bool) (hm : P.follows .mixedOrders = true) (hL : ¬ LetsOut Q) (ht : ops.toList.all (fun o => tameOp o.op) = true) (hn : ops.size = m) (hl : Array.replicate m false = l) (hS : S w.drew)
    (h : S w.drew → wpAnyLast P .any ops Q S ds m l a w.drew) : (Code.region id ops true).wpIn F n P Q a w := by
  subst hn
  subst hl
  exact wpIn_region_any hm (wpAnyIn_of_tame hL (fun o ho => List.all_eq_true.1 ht o (by simpa using ho)) _ _ _ _ (wpAny_of_last _ _ _ _ (h hS)))
/-- A plain region without calls inside a fence. -/
theorem plainIn_ {id : Nat} (hL : ¬ LetsOut Q) (ht : ops.toList.all (fun o => tameOp o.op) = true) (h : wpList P ops Q ops.toList a w) : (Code.region id ops false).wpIn F n P Q a w :=
  wpIn_region_list (wpListIn_of_tame hL _ (fun o ho => List.all_eq_true.1 ht o ho) _ _ h)
theorem gateIn_ {rest : List Oper} (op : Op) (_ho : o.op = op) (h : wpListIn F n P ops Q (o :: rest) a w) : wpListIn F n P ops Q (o :: rest) a w := h
theorem wpListIn_exec {rest : List Oper} {v : Value} {w1 : World} (hg : o.guard = none) (ht : tameOp o.op = true) (hr : (execOp a.eval o).run P w = .ok (.value v) w1) (h : wpListIn F n P ops Q rest (a.put o.dst v) w1) : wpListIn F n P ops Q (o :: rest) a w :=
  wpListIn_plain hg fun _ hK => wpIn_of_wp_tame ht (by
    unfold Oper.wp
    rw [hr]
    exact hK _ _ h)
theorem wpListIn_exec_skip {rest : List Oper} {w1 : World} (hg : o.guard = none) (hd : o.dst = none) (ht : tameOp o.op = true) (hr : (execOp a.eval o).run P w = .ok .skip w1) (h : wpListIn F n P ops Q rest a w1) : wpListIn F n P ops Q (o :: rest) a w :=
  wpListIn_plain hg fun _ hK => wpIn_of_wp_tame ht (by
    unfold Oper.wp
    rw [hr]
    refine hK _ _ ?_
    rw [hd]
    exact h)
end
end Go.Proofs.YthpholjelfajiaaDoor.G
