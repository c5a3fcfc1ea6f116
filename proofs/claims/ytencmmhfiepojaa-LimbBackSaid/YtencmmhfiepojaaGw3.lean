/- Part of the proof that is named in YtencmmhfiepojaaLRowBack: a library for walks, or a function's walk. -/
import Derived.Test.YtencmmhfiepojaaGw2
import Derived.Deep.LoopGhost
set_option linter.unusedSimpArgs false
set_option linter.unusedVariables false
namespace Go.Gw
open Go.RowKit

section
variable {P : Program} {ops : Array Oper} {Q : Exit → Act → World → Prop} {rest : List Oper} {n : Nat} {D : List Deferred} {ρ : Env} {w : World}

/-! ### What comes next -/
/-- The next thing to do once the frame is as 'ρ' says. -/
def Nx (n : Nat) (D : List Deferred) (ρ : Env) (w : World) (K : Act → World → Prop) : Prop := ∀ a, Fr n D ρ a → K a w
theorem r_end (h : Nx n D ρ w (Q .normal)) : Reg P ops Q [] n D ρ w := fun a ha => wpList_nil (h a ha)
theorem n_then {y : Code} (h : W P y Q n D ρ w) : Nx n D ρ w (Exit.then (fun a w => y.wp P Q a w) Q .normal) := h
theorem n_block {id : Nat} (h : Nx n D ρ w (Q .normal)) : Nx n D ρ w (Exit.inBlock id Q .normal) := h
theorem n_then_exit {K : Act → World → Prop} {id : Nat} (h : Nx n D ρ w (Q (.exit id))) : Nx n D ρ w (Exit.then K Q (.exit id)) := h
theorem n_block_exit {id : Nat} (h : Nx n D ρ w (Q .normal)) : Nx n D ρ w (Exit.inBlock id Q (.exit id)) := fun a ha => by simp only [Exit.inBlock, if_true]; exact h a ha
theorem n_block_exit_other {id id' : Nat} (h : Nx n D ρ w (Q (.exit id'))) (hne : Nat.beq id' id = false := by rfl) : Nx n D ρ w (Exit.inBlock id Q (.exit id')) := fun a ha => by
  have : id' ≠ id := by intro e; subst e; simp at hne
  simp only [Exit.inBlock, if_neg this]; exact h a ha
theorem w_exit' {id : Nat} (h : Nx n D ρ w (Q (.exit id))) : W P (.exit id) Q n D ρ w := fun a ha => wp_exit (h a ha)
theorem w_skip' (h : Nx n D ρ w (Q .normal)) : W P .skip Q n D ρ w := fun a ha => wp_skip (h a ha)

/-! ### A loop -/
/-- What a round hands on. -/
def Round {α : Type} (n : Nat) (D : List Deferred) (E : α → Env) (I : α → World → Prop) (μ : α → Nat) (m : Nat) (a : Act) (w : World) : Prop := ∃ x, μ x < m ∧ I x w ∧ Fr n D (E x) a
theorem w_loop {body : Code} {α : Type} (E : α → Env) (I : α → World → Prop) (μ : α → Nat) (x0 : α) (h0 : I x0 w) (hs : Sub (E x0) ρ)
    (round : ∀ x w, I x w → W P body (Exit.then (Round n D E I μ (μ x)) Q) n D (E x) w) : W P (.loop body) Q n D ρ w := by
  intro a ha
  refine wp_loop_ghost (fun m a w => ∃ x, μ x = m ∧ I x w ∧ Fr n D (E x) a) (μ x0) ⟨x0, rfl, h0, ha.sub hs⟩ ?_
  rintro m a w ⟨x, rfl, hI, hF⟩
  refine wp_mono (round x w hI a hF) ?_
  intro e a' w' hq
  cases e with
  | normal => obtain ⟨x', h1, h2, h3⟩ := hq; exact ⟨_, h1, x', rfl, h2, h3⟩
  | _ => exact hq
theorem n_round {α : Type} {E : α → Env} {I : α → World → Prop} {μ : α → Nat} {m : Nat} (x : α) (hI : I x w) (hm : μ x < m) (hs : Sub (E x) ρ) : Nx n D ρ w (Exit.then (Round n D E I μ m) Q .normal) :=
  fun a ha => ⟨x, hm, hI, ha.sub hs⟩
/-- Ways that meet again. -/
def Meet {α : Type} (n : Nat) (D : List Deferred) (E : α → Env) (I : α → World → Prop) (a : Act) (w : World) : Prop := ∃ x, I x w ∧ Fr n D (E x) a
theorem w_cut {x y : Code} {α : Type} (E : α → Env) (I : α → World → Prop) (h : W P x (Exit.then (Meet n D E I) Q) n D ρ w) (k : ∀ v w, I v w → W P y Q n D (E v) w) : W P (.seq x y) Q n D ρ w := by
  intro a ha
  refine wp_seq (wp_mono (h a ha) ?_)
  intro e a' w' hq
  cases e with
  | normal => obtain ⟨x', h1, h2⟩ := hq; exact k x' w' h1 a' h2
  | _ => exact hq
theorem n_meet {α : Type} {E : α → Env} {I : α → World → Prop} (x : α) (hI : I x w) (hs : Sub (E x) ρ) : Nx n D ρ w (Exit.then (Meet n D E I) Q .normal) :=
  fun a ha => ⟨x, hI, ha.sub hs⟩

/-! ### Calls -/
variable {d ty : Nat} {pos : String} {after : Array Edge}
structure FunF (P : Program) (f : Nat) : Prop where
  out : ∃ fn c, P.funcs[f]? = some fn ∧ (fn.name == "runtime.NumGoroutine") = false ∧ fn.body = some c
theorem run_callFunc_go {f : Nat} (h : FunF P f) (args : Array Value) (w : World) : (callFunc f args).run P w = .ok (.enter f args) w := by
  obtain ⟨fn, c, hf, hn, hb⟩ := h.out
  have hn' : ¬ fn.name = "runtime.NumGoroutine" := by simpa using hn
  simp [callFunc, hf, hn', hb]
theorem s_call {gd : Option (Nat × Bool)} {C : Value → World → Prop} {f : Nat} {args : List Operand} {ats : Array TypeId} {vs : List Value} {R : Value → World → Prop} (hf : FunF P f) (ha : opvs ρ args = some vs)
    (hc : Calls P f vs.toArray w (fun e w' => ∃ v, e = .returned v ∧ R v w')) (k : ∀ v w', R v w' → C v w') :
    OpW P ⟨some d, .call { callee := .value (.func f), args := args.toArray, argTypes := ats }, ty, pos, after, gd⟩ n D ρ w C := by
  intro a hF Q
  unfold Oper.wp
  have he : (execOp a.eval ⟨some d, .call { callee := .value (.func f), args := args.toArray, argTypes := ats }, ty, pos, after, gd⟩).run P w = .ok (.enter f vs.toArray) w := by
    have hv : args.map a.eval = vs := hF.evals ha
    simp [execOp, resolve, Act.eval, Deferred.ofValue, invoke, hv, run_callFunc_go hf]
  rw [he, Oper.upon_enter]
  refine hc.mono ?_
  rintro e w' ⟨v, rfl, hR⟩
  exact ⟨v, rfl, k v w' hR⟩

/-! ### In and out -/
def argEnv : Nat → List Value → Env
  | _, [] => []
  | i, v :: r => (i, v) :: argEnv (i + 1) r
theorem look_argEnv (vs : List Value) : ∀ (i t : Nat) (v : Value), look (argEnv i vs) t = some v → i ≤ t ∧ vs[t - i]? = some v := by
  induction vs with
  | nil => intro i t v h; simp [argEnv, look] at h
  | cons u r ih =>
    intro i t v h
    unfold argEnv at h
    rw [look_cons] at h
    split at h
    · rename_i e; subst e; cases h; simp
    · rename_i e
      obtain ⟨h1, h2⟩ := ih _ _ _ h
      refine ⟨by omega, ?_⟩
      rw [show t - i = (t - (i + 1)) + 1 by omega]; simpa using h2
theorem enter {f : FuncId} {fn : Func} {c : Code} {vs : List Value} {R : Ending → World → Prop} (hf : P.funcs[f]? = some fn) (hb : fn.body = some c) (hn : Nat.ble vs.length fn.ntmps = true)
    (h : W P c (bodyPost P fn R) fn.ntmps [] (argEnv 0 vs) w) : Calls P f vs.toArray w R := by
  refine calls_of_wp hf hb (h _ ⟨rfl, ?_, ?_⟩)
  · have : vs.length ≤ fn.ntmps := Nat.le_of_ble_eq_true hn
    simp; omega
  · intro t v hl
    obtain ⟨_, h2⟩ := look_argEnv vs _ _ _ hl
    have ht : t < vs.length := by
      rcases Nat.lt_or_ge t vs.length with h | h
      · exact h
      · rw [Nat.sub_zero, List.getElem?_eq_none h] at h2; cases h2
    simp only [Nat.sub_zero] at h2
    rw [Array.getElem?_append_left (by simpa using ht)]
    simpa using h2
theorem w_ret1 {fn : Func} {R : Ending → World → Prop} {t : Nat} {v : Value} (hr : fn.results = #[.tmp t]) (hl : look ρ t = some v) (h : R (.returned v) w)
    (hQ : ∀ a w, Q .ret a w = bodyPost P fn R .ret a w := by exact fun _ _ => rfl) : W P .ret Q n [] ρ w := by
  intro a ha
  refine wp_ret ?_
  rw [hQ]
  exact bodyPost_ret (v := v) (by rw [results_tmp hr, Array.getD_eq_getD_getElem?, ha.slot t v hl]; rfl) ha.defers h
theorem w_ret2 {fn : Func} {R : Ending → World → Prop} {t u : Nat} {v x : Value} (hr : fn.results = #[.tmp t, .tmp u]) (hl : look ρ t = some v) (hl2 : look ρ u = some x) (h : R (.returned (.tuple #[v, x])) w)
    (hQ : ∀ a w, Q .ret a w = bodyPost P fn R .ret a w := by exact fun _ _ => rfl) : W P .ret Q n [] ρ w := by
  intro a ha
  refine wp_ret ?_
  rw [hQ]
  refine bodyPost_ret (v := .tuple #[v, x]) ?_ ha.defers h
  rw [results_tmp2 hr, Array.getD_eq_getD_getElem?, Array.getD_eq_getD_getElem?, ha.slot t v hl, ha.slot u x hl2]; rfl
theorem w_ret0 {fn : Func} {R : Ending → World → Prop} (hr : fn.results = #[]) (h : R (.returned (.tuple #[])) w)
    (hQ : ∀ a w, Q .ret a w = bodyPost P fn R .ret a w := by exact fun _ _ => rfl) : W P .ret Q n [] ρ w := by
  intro a ha
  refine wp_ret ?_
  rw [hQ]
  exact bodyPost_ret (results_none hr _ _ _) ha.defers h
theorem n_end0 {fn : Func} {R : Ending → World → Prop} (hr : fn.results = #[]) (h : R (.returned (.tuple #[])) w)
    (hQ : ∀ a w, Q .normal a w = bodyPost P fn R .normal a w := by exact fun _ _ => rfl) : Nx n [] ρ w (Q .normal) := by
  intro a ha
  rw [hQ]
  exact bodyPost_end (results_none hr _ _ _) ha.defers h
end
end Go.Gw
