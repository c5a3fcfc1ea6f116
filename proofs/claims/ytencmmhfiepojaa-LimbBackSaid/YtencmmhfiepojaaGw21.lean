/- Part of the proof that is named in YtencmmhfiepojaaLRowBack: a library for walks, or a function's walk. -/
import Derived.Test.YtencmmhfiepojaaGw20
import Derived.Test.YtencmmhfiepojaaGw19
import Derived.RangeFuncNested
import Derived.RangeFuncBound
import Derived.RangeFuncCalls
import Derived.RangeFuncLeaves
import Derived.RangeFuncRecord
import Derived.OrdersIn
import Derived.Sort.LoopGhostIn
set_option linter.unusedSimpArgs false
set_option linter.unusedVariables false
/-! ### Walks inside a round, or around a loop over a function -/
namespace Go.Gw
open Go.RowKit
def FI (ro : Option Nat) : Fence := { Fence.wide with round := ro }
theorem rows_in {ro : Option Nat} {m : Nat} {P : Program} {row : String} {args : Array Value} {w : World} {R : Value → World → Prop} (h : Rows P row args w R) : RowsIn (FI ro) m P row args w R :=
  fun c cs _ => let ⟨v, w', r, s⟩ := h c cs; ⟨v, w', r, stepsIn_wide.2 s⟩
theorem calls_in {ro : Option Nat} {m : Nat} {P : Program} {f : FuncId} {args : Array Value} {w : World} {R : Ending → World → Prop} (h : Calls P f args w R) : CallsIn (FI ro) m P f args w R :=
  callsIn_wide.2 h
def notDefer (o : Op) : Bool := match o with | .defer _ => false | _ => true
theorem oper_in {ro : Option Nat} {m : Nat} {P : Program} {o : Oper} {a : Act} {w : World} {K : Act → World → Prop} {Q : Exit → Act → World → Prop} (hd : notDefer o.op = true) (h : o.wp P a w K Q) : o.wpIn (FI ro) m P a w K Q := by
  refine ⟨fun _ _ => trivial, ?_⟩
  have hs : o.semAt (FI ro).round a.eval = execOp a.eval o := by
    cases ro with
    | none => rfl
    | some l => exact Oper.semAt_some _ _ _ (fun c e => by rw [e] at hd; cases hd)
  rw [hs]
  unfold Oper.wp at h
  generalize (execOp a.eval o).run P w = r at h ⊢
  cases r with
  | ok x w' =>
    cases x with
    | enter f args => exact ⟨(by intro e; cases e), calls_in h⟩
    | row r args => exact ⟨(by intro e; cases e), rows_in h⟩
    | round l f tmps assign body => exact h.elim
    | _ => exact h
  | halt x w' => cases x <;> exact h

def IReg (ro : Option Nat) (m : Nat) (P : Program) (ops : Array Oper) (Q : Exit → Act → World → Prop) (l : List Oper) (n : Nat) (D : List Deferred) (ρ : Env) (w : World) : Prop :=
  ∀ a, Fr n D ρ a → wpListIn (FI ro) m P ops Q l a w
def IW (ro : Option Nat) (m : Nat) (P : Program) (c : Code) (Q : Exit → Act → World → Prop) (n : Nat) (D : List Deferred) (ρ : Env) (w : World) : Prop :=
  ∀ a, Fr n D ρ a → c.wpIn (FI ro) m P Q a w
section
variable {ro : Option Nat} {m : Nat} {P : Program} {ops : Array Oper} {Q : Exit → Act → World → Prop} {rest : List Oper} {n : Nat} {D : List Deferred} {ρ : Env} {w : World}
theorem i_seq {x y : Code} (h : IW ro m P x (Exit.then (fun a w => y.wpIn (FI ro) m P Q a w) Q) n D ρ w) : IW ro m P (.seq x y) Q n D ρ w := fun a ha => wpIn_seq (h a ha)
theorem i_skip' (h : Nx n D ρ w (Q .normal)) : IW ro m P .skip Q n D ρ w := fun a ha => wpIn_skip (h a ha)
theorem i_block {id : Nat} {c : Code} (h : IW ro m P c (Exit.inBlock id Q) n D ρ w) : IW ro m P (.block id c) Q n D ρ w := fun a ha => wpIn_block (h a ha)
theorem i_exit' {id : Nat} (h : Nx n D ρ w (Q (.exit id))) : IW ro m P (.exit id) Q n D ρ w := fun a ha => wpIn_exit (h a ha)
theorem i_ret (h : Nx n D ρ w (Q .ret)) : IW ro m P .ret Q n D ρ w := fun a ha => wpIn_ret (h a ha)
theorem i_region {id : Nat} {l : List Oper} (h : IReg ro m P l.toArray Q l n D ρ w) : IW ro m P (.region id l.toArray false) Q n D ρ w := fun a ha => wpIn_region_lit (h a ha)
theorem i_cond {c : Operand} {x y : Code} {b : Bool} (hc : opv ρ c = some (.bool b)) (ht : b = true → IW ro m P x Q n D ρ w) (hf : b = false → IW ro m P y Q n D ρ w) : IW ro m P (.cond c x y) Q n D ρ w :=
  fun a ha => wpIn_cond_split (ha.eval hc) (fun h => ht h a ha) (fun h => hf h a ha)
theorem i_condP {c : Operand} {x y : Code} {p : Prop} [Decidable p] (hc : opv ρ c = some (.bool (decide p))) (ht : p → IW ro m P x Q n D ρ w) (hf : ¬ p → IW ro m P y Q n D ρ w) : IW ro m P (.cond c x y) Q n D ρ w :=
  i_cond hc (fun h => ht (of_decide_eq_true h)) (fun h => hf (of_decide_eq_false h))
theorem i_condT {c : Operand} {x y : Code} (hc : opv ρ c = some (.bool true)) (ht : IW ro m P x Q n D ρ w) : IW ro m P (.cond c x y) Q n D ρ w := i_cond hc (fun _ => ht) (fun h => by cases h)
theorem i_condF {c : Operand} {x y : Code} (hc : opv ρ c = some (.bool false)) (hf : IW ro m P y Q n D ρ w) : IW ro m P (.cond c x y) Q n D ρ w := i_cond hc (fun h => by cases h) (fun _ => hf)
theorem i_end (h : Nx n D ρ w (Q .normal)) : IReg ro m P ops Q [] n D ρ w := fun a ha => wpListIn_nil (h a ha)
theorem in_then {y : Code} (h : IW ro m P y Q n D ρ w) : Nx n D ρ w (Exit.then (fun a w => y.wpIn (FI ro) m P Q a w) Q .normal) := h
/-- Of the plain logic. -/
theorem i_of {c : Code} (h : IW none m P c Q n D ρ w) : W P c Q n D ρ w := fun a ha => wpIn_wide.1 (h a ha)
theorem i_to {c : Code} (h : W P c Q n D ρ w) : IW none m P c Q n D ρ w := fun a ha => wpIn_wide.2 (h a ha)
theorem ist {op : Op} {d ty : Nat} {pos : String} {after : Array Edge} (h : OpW P ⟨some d, op, ty, pos, after, none⟩ n D ρ w (fun v w' => IReg ro m P ops Q rest n D ((d, v) :: ρ) w')) (hd : Nat.blt d n = true := by rfl) (hn : notDefer op = true := by rfl) :
    IReg ro m P ops Q (⟨some d, op, ty, pos, after, none⟩ :: rest) n D ρ w := by
  intro a ha
  unfold wpListIn
  rw [if_pos (by simp [Region.wanted])]
  refine oper_in hn (wp_mono' (h a ha Q) ?_)
  rintro a' w' ⟨v, rfl, hk⟩
  exact hk _ (ha.put v hd)
theorem ist0 {op : Op} {ty : Nat} {pos : String} {after : Array Edge} (h : OpW P ⟨none, op, ty, pos, after, none⟩ n D ρ w (fun _ w' => IReg ro m P ops Q rest n D ρ w')) (hn : notDefer op = true := by rfl) :
    IReg ro m P ops Q (⟨none, op, ty, pos, after, none⟩ :: rest) n D ρ w := by
  intro a ha
  unfold wpListIn
  rw [if_pos (by simp [Region.wanted])]
  refine oper_in hn (wp_mono' (h a ha Q) ?_)
  rintro a' w' ⟨v, rfl, hk⟩
  exact hk _ ha
/-- A call of what a loop over a function is told by. -/
theorem i_yield {d l t : Nat} {ty : Nat} {pos : String} {after : Array Edge} {args : List Operand} {ats : Array TypeId} {vs : List Value} {R : Ending → World → Prop} (hf : look ρ t = some (.func (.yield l) #[] #[])) (ha : opvs ρ args = some vs)
    (hY : YieldAt Fence.wide (m - 1) P l vs.toArray w R) (k : ∀ e w', R e w' → ∃ v, e = .returned v ∧ IReg none m P ops Q rest n D ((d, v) :: ρ) w') (hd : Nat.blt d n = true := by rfl) :
    IReg none m P ops Q (⟨some d, .call { callee := .value (.tmp t), args := args.toArray, argTypes := ats }, ty, pos, after, none⟩ :: rest) n D ρ w := by
  intro a hF
  unfold wpListIn
  rw [if_pos (by simp [Region.wanted])]
  refine ⟨fun _ _ => trivial, ?_⟩
  obtain ⟨fn, tmps, assign, body, hy, hR⟩ := hY
  have he : (execOp a.eval ⟨some d, .call { callee := .value (.tmp t), args := args.toArray, argTypes := ats }, ty, pos, after, none⟩).run P w = .ok (.round l fn tmps assign body) w := by
    have hv : args.map a.eval = vs := hF.evals ha
    have hf' : a.eval (.tmp t) = .func (.yield l) #[] #[] := hF.eval (x := .tmp t) hf
    simp [execOp, resolve, hf', Deferred.ofValue, invoke, hv, hy]
  have hs : ∀ o, Oper.semAt (FI none).round a.eval o = execOp a.eval o := fun o => rfl
  rw [hs]
  rw [he, Oper.uponIn_round]
  refine ⟨(by intro e; cases e), hR.mono ?_⟩
  intro e w' hr
  obtain ⟨v, rfl, hk⟩ := k e w' hr
  exact hk _ (hF.put v hd)
theorem i_loop {body : Code} {α : Type} (E : α → Env) (I : α → World → Prop) (μ : α → Nat) (x0 : α) (h0 : I x0 w) (hs : Sub (E x0) ρ)
    (round : ∀ x w, I x w → IW ro m P body (Exit.then (Round n D E I μ (μ x)) Q) n D (E x) w) : IW ro m P (.loop body) Q n D ρ w := by
  intro a ha
  refine wpIn_loop_ghost (fun m a w => ∃ x, μ x = m ∧ I x w ∧ Fr n D (E x) a) (μ x0) ⟨x0, rfl, h0, ha.sub hs⟩ ?_
  rintro m a w ⟨x, rfl, hI, hF⟩
  refine wpIn_mono (round x w hI a hF) ?_
  intro e a' w' hq
  cases e with
  | normal => obtain ⟨x', h1, h2, h3⟩ := hq; exact ⟨_, h1, x', rfl, h2, h3⟩
  | _ => exact hq
theorem ienter {f : FuncId} {fn : Func} {c : Code} {vs : List Value} {R : Ending → World → Prop} (hf : P.funcs[f]? = some fn) (hb : fn.body = some c) (hn : Nat.ble vs.length fn.ntmps = true)
    (h : IW none m P c (bodyPost P fn R) fn.ntmps [] (argEnv 0 vs) w) : CallsIn Fence.wide m P f vs.toArray w R :=
  callsIn_wide.2 (enter hf hb hn (i_of h))
/-- A function that holds a loop over a function. -/
theorem menter {f : FuncId} {fn : Func} {c : Code} {vs : List Value} {R : Ending → World → Prop} (m : Nat) (hf : P.funcs[f]? = some fn) (hb : fn.body = some c) (hn : Nat.ble vs.length fn.ntmps = true)
    (h : W P c (bodyPostM Fence.wide m P fn R) fn.ntmps [] (argEnv 0 vs) w) : Calls P f vs.toArray w R := by
  refine callsIn_wide.1 (callsIn_of_wp_marks (F := Fence.wide) (n := m) hf hb trivial (wpIn_wide.2 (h _ ⟨rfl, ?_, ?_⟩)))
  · have : vs.length ≤ fn.ntmps := Nat.le_of_ble_eq_true hn
    simp; omega
  · intro t v hl
    obtain ⟨_, h2⟩ := look_argEnv vs _ _ _ hl
    have ht : t < vs.length := by
      rcases Nat.lt_or_ge t vs.length with h | h
      · exact h
      · rw [Nat.sub_zero, List.getElem?_eq_none h] at h2; cases h2
    simp only [Nat.sub_zero] at h2
    rw [Array.getElem?_append_left (by simpa using ht)]
    simpa using h2
end
end Go.Gw
