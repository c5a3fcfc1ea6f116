/- Part of the proof that is named in YtencmmhfiepojaaLRowBack: a library for walks, or a function's walk. -/
import Derived.WalkKit
import Derived.WalkSpells
import Derived.WalkLawsBesides
import Derived.Maps.AppendAt
import Derived.Deep.Quiet
import Derived.Orders
set_option linter.unusedSimpArgs false
set_option linter.unusedVariables false
namespace Go.Gw
open Go.RowKit

/-! ### The frame as a list of what its slots hold -/
abbrev Env := List (Nat × Value)
def look : Env → Nat → Option Value
  | [], _ => none
  | (t, v) :: r, s => bif Nat.beq t s then some v else look r s
def opv (ρ : Env) : Operand → Option Value
  | .tmp t => look ρ t
  | .const v => some v
  | .func f => some (.func (.func f) #[] #[])
  | .global g => some (.pointer (some ⟨g, 0, none⟩))
def opvs (ρ : Env) : List Operand → Option (List Value)
  | [] => some []
  | x :: r => match opv ρ x with
    | some v => match opvs ρ r with
      | some vs => some (v :: vs)
      | none => none
    | none => none
structure Fr (n : Nat) (D : List Deferred) (ρ : Env) (a : Act) : Prop where
  defers : a.defers = D
  size : a.tmps.size = n
  slot : ∀ t v, look ρ t = some v → a.tmps[t]? = some v
def Sub : Env → Env → Prop
  | [], _ => True
  | (t, v) :: r, ρ => look ρ t = some v ∧ Sub r ρ
theorem look_cons (t : Nat) (v : Value) (r : Env) (s : Nat) : look ((t, v) :: r) s = if t = s then some v else look r s := by
  show (bif Nat.beq t s then some v else look r s) = _
  by_cases h : t = s
  · subst h; simp
  · have : Nat.beq t s = false := by rw [← Bool.not_eq_true, Nat.beq_eq]; exact h
    simp [this, h]
theorem Sub.look {ρ' ρ : Env} (h : Sub ρ' ρ) {t : Nat} {v : Value} (hl : look ρ' t = some v) : look ρ t = some v := by
  induction ρ' with
  | nil => simp [Gw.look] at hl
  | cons p r ih =>
    obtain ⟨s, u⟩ := p
    rw [look_cons] at hl
    obtain ⟨h1, h2⟩ := h
    split at hl
    · rename_i e; subst e; cases hl; exact h1
    · exact ih h2 hl
theorem Fr.sub {n : Nat} {D : List Deferred} {ρ ρ' : Env} {a : Act} (h : Fr n D ρ a) (hs : Sub ρ' ρ) : Fr n D ρ' a :=
  ⟨h.defers, h.size, fun t v hl => h.slot t v (hs.look hl)⟩
theorem Fr.eval {n : Nat} {D : List Deferred} {ρ : Env} {a : Act} (h : Fr n D ρ a) {x : Operand} {v : Value} (hx : opv ρ x = some v) : a.eval x = v := by
  cases x with
  | tmp t => have := h.slot t v hx; simp [Act.eval, Array.getD_eq_getD_getElem?, this]
  | const u => simpa [opv, Act.eval] using hx
  | func f => simpa [opv, Act.eval] using hx
  | global g => simpa [opv, Act.eval] using hx
theorem Fr.evals {n : Nat} {D : List Deferred} {ρ : Env} {a : Act} (h : Fr n D ρ a) : ∀ {xs : List Operand} {vs : List Value}, opvs ρ xs = some vs → xs.map a.eval = vs
  | [], vs, hx => by simpa [opvs] using hx
  | x :: r, vs, hx => by
    unfold opvs at hx
    split at hx
    · rename_i v hv
      split at hx
      · rename_i us hu
        cases hx
        simp [h.eval hv, h.evals hu]
      · cases hx
    · cases hx
theorem Fr.put {n : Nat} {D : List Deferred} {ρ : Env} {a : Act} (h : Fr n D ρ a) {d : Nat} (v : Value) (hd : Nat.blt d n = true) : Fr n D ((d, v) :: ρ) (a.put (some d) v) := by
  have hd' : d < n := by simpa [Nat.blt_eq] using hd
  refine ⟨h.defers, by simp [Act.put, h.size], fun t u hl => ?_⟩
  rw [look_cons] at hl
  simp only [Act.put, Array.getElem?_setIfInBounds]
  split at hl
  · rename_i e; subst e; cases hl; simp [h.size, hd']
  · rename_i e; rw [if_neg e]; exact h.slot t u hl

/-! ### The judgements -/
def Reg (P : Program) (ops : Array Oper) (Q : Exit → Act → World → Prop) (l : List Oper) (n : Nat) (D : List Deferred) (ρ : Env) (w : World) : Prop :=
  ∀ a, Fr n D ρ a → wpList P ops Q l a w
def W (P : Program) (c : Code) (Q : Exit → Act → World → Prop) (n : Nat) (D : List Deferred) (ρ : Env) (w : World) : Prop :=
  ∀ a, Fr n D ρ a → c.wp P Q a w

section
variable {P : Program} {ops : Array Oper} {Q : Exit → Act → World → Prop} {rest : List Oper} {n : Nat} {D : List Deferred} {ρ : Env} {w : World}

theorem w_seq {x y : Code} (h : W P x (Exit.then (fun a w => y.wp P Q a w) Q) n D ρ w) : W P (.seq x y) Q n D ρ w :=
  fun a ha => wp_seq (h a ha)
theorem w_skip {Q' : Exit → Act → World → Prop} (h : ∀ a, Fr n D ρ a → Q .normal a w) : W P .skip Q n D ρ w := fun a ha => wp_skip (h a ha)
theorem w_block {id : Nat} {c : Code} (h : W P c (Exit.inBlock id Q) n D ρ w) : W P (.block id c) Q n D ρ w := fun a ha => wp_block (h a ha)
theorem w_exit {id : Nat} (h : ∀ a, Fr n D ρ a → Q (.exit id) a w) : W P (.exit id) Q n D ρ w := fun a ha => wp_exit (h a ha)
theorem w_region {id : Nat} {l : List Oper} (h : Reg P l.toArray Q l n D ρ w) : W P (.region id l.toArray false) Q n D ρ w := fun a ha => wp_region_lit (h a ha)
theorem w_cond {c : Operand} {x y : Code} {b : Bool} (hc : opv ρ c = some (.bool b)) (ht : b = true → W P x Q n D ρ w) (hf : b = false → W P y Q n D ρ w) : W P (.cond c x y) Q n D ρ w :=
  fun a ha => wp_cond_split (ha.eval hc) (fun h => ht h a ha) (fun h => hf h a ha)
theorem w_condP {c : Operand} {x y : Code} {p : Prop} [Decidable p] (hc : opv ρ c = some (.bool (decide p))) (ht : p → W P x Q n D ρ w) (hf : ¬ p → W P y Q n D ρ w) : W P (.cond c x y) Q n D ρ w :=
  w_cond hc (fun h => ht (of_decide_eq_true h)) (fun h => hf (of_decide_eq_false h))
theorem w_weak {c : Code} {ρ' : Env} (hs : Sub ρ' ρ) (h : W P c Q n D ρ' w) : W P c Q n D ρ w := fun a ha => h a (ha.sub hs)

theorem r_nil (h : ∀ a, Fr n D ρ a → Q .normal a w) : Reg P ops Q [] n D ρ w := fun a ha => wpList_nil (h a ha)

/-- A region's end, a block's end, ..: what comes next. -/
def Then (n : Nat) (D : List Deferred) (ρ : Env) (w : World) (K : Act → World → Prop) : Prop := ∀ a, Fr n D ρ a → K a w

/-! ### Steps -/
/-- One operation, carried out: what it yields. -/
def OpW (P : Program) (o : Oper) (n : Nat) (D : List Deferred) (ρ : Env) (w : World) (C : Value → World → Prop) : Prop :=
  ∀ a, Fr n D ρ a → ∀ Q, o.wp P a w (fun a' w' => ∃ v, a' = a.put o.dst v ∧ C v w') Q
theorem wp_mono' {o : Oper} {a : Act} {K K' : Act → World → Prop} (h : o.wp P a w K Q) (hk : ∀ a w, K a w → K' a w) : o.wp P a w K' Q := Oper.wp_mono hk h
theorem st {op : Op} {d ty : Nat} {pos : String} {after : Array Edge} (h : OpW P ⟨some d, op, ty, pos, after, none⟩ n D ρ w (fun v w' => Reg P ops Q rest n D ((d, v) :: ρ) w')) (hd : Nat.blt d n = true := by rfl) :
    Reg P ops Q (⟨some d, op, ty, pos, after, none⟩ :: rest) n D ρ w := by
  intro a ha
  refine wpList_plain rfl fun K hK => wp_mono' (h a ha Q) ?_
  rintro a' w' ⟨v, rfl, hk⟩
  exact hK _ _ (hk _ (ha.put v hd))
theorem st0 {op : Op} {ty : Nat} {pos : String} {after : Array Edge} (h : OpW P ⟨none, op, ty, pos, after, none⟩ n D ρ w (fun _ w' => Reg P ops Q rest n D ρ w')) :
    Reg P ops Q (⟨none, op, ty, pos, after, none⟩ :: rest) n D ρ w := by
  intro a ha
  refine wpList_plain rfl fun K hK => wp_mono' (h a ha Q) ?_
  rintro a' w' ⟨v, rfl, hk⟩
  exact hK _ _ (hk _ ha)
theorem stg {op : Op} {ty : Nat} {pos : String} {after : Array Edge} {d j t : Nat} {b : Bool} (h : OpW P ⟨some d, op, ty, pos, after, some (j, b)⟩ n D ρ w (fun v w' => Reg P ops Q rest n D ((d, v) :: ρ) w'))
    (hj : (ops[j]?).bind (·.dst) = some t := by rfl) (hb : look ρ t = some (.bool b) := by rfl) (hd : Nat.blt d n = true := by rfl) : Reg P ops Q (⟨some d, op, ty, pos, after, some (j, b)⟩ :: rest) n D ρ w := by
  intro a ha
  refine wpList_step fun K hK => ?_
  have hw : Region.wanted ⟨some d, op, ty, pos, after, some (j, b)⟩ (yielded ops a.tmps) = true := by simp [Region.wanted, yielded, hj, ha.slot _ _ hb]
  rw [if_pos hw]
  refine wp_mono' (h a ha Q) ?_
  rintro a' w' ⟨v, rfl, hk⟩
  exact hK _ _ (hk _ (ha.put v hd))
theorem st0g {op : Op} {ty : Nat} {pos : String} {after : Array Edge} {j t : Nat} {b : Bool} (h : OpW P ⟨none, op, ty, pos, after, some (j, b)⟩ n D ρ w (fun _ w' => Reg P ops Q rest n D ρ w'))
    (hj : (ops[j]?).bind (·.dst) = some t := by rfl) (hb : look ρ t = some (.bool b) := by rfl) : Reg P ops Q (⟨none, op, ty, pos, after, some (j, b)⟩ :: rest) n D ρ w := by
  intro a ha
  refine wpList_step fun K hK => ?_
  have hw : Region.wanted ⟨none, op, ty, pos, after, some (j, b)⟩ (yielded ops a.tmps) = true := by simp [Region.wanted, yielded, hj, ha.slot _ _ hb]
  rw [if_pos hw]
  refine wp_mono' (h a ha Q) ?_
  rintro a' w' ⟨v, rfl, hk⟩
  exact hK _ _ (hk _ ha)
theorem opw_val {C : Value → World → Prop} {o : Oper} {v : Value} {w' : World} (hrun : ∀ e : Operand → Value, (∀ x v, opv ρ x = some v → e x = v) → (execOp e o).run P w = .ok (.value v) w') (k : C v w') : OpW P o n D ρ w C := by
  intro a ha Q
  unfold Oper.wp
  rw [hrun a.eval (fun x v hx => ha.eval hx), Oper.upon_value]
  exact ⟨v, rfl, k⟩
theorem opw_unit {C : Value → World → Prop} {o : Oper} {w' : World} (hrun : ∀ e : Operand → Value, (∀ x v, opv ρ x = some v → e x = v) → (execOp e o).run P w = .ok .skip w') (k : C undef w') : OpW P o n D ρ w C := by
  intro a ha Q
  unfold Oper.wp
  rw [hrun a.eval (fun x v hx => ha.eval hx), Oper.upon_skip]
  exact ⟨_, rfl, k⟩
/-- What a slot holds, said in other words. -/
theorem r_re (t : Nat) {v v' : Value} (h : look ρ t = some v) (e : v = v') (k : Reg P ops Q rest n D ((t, v') :: ρ) w) : Reg P ops Q rest n D ρ w := by
  subst e
  intro a ha
  refine k a ⟨ha.defers, ha.size, fun s u hl => ?_⟩
  rw [look_cons] at hl
  split at hl
  · rename_i e; subst e; cases hl; exact ha.slot _ _ h
  · exact ha.slot _ _ hl
theorem w_re {c : Code} (t : Nat) {v v' : Value} (h : look ρ t = some v) (e : v = v') (k : W P c Q n D ((t, v') :: ρ) w) : W P c Q n D ρ w := by
  subst e
  intro a ha
  refine k a ⟨ha.defers, ha.size, fun s u hl => ?_⟩
  rw [look_cons] at hl
  split at hl
  · rename_i e; subst e; cases hl; exact ha.slot _ _ h
  · exact ha.slot _ _ hl
theorem r_sub {ρ' : Env} (hs : Sub ρ' ρ) (k : Reg P ops Q rest n D ρ' w) : Reg P ops Q rest n D ρ w := fun a ha => k a (ha.sub hs)

/-! #### guards -/
theorem s_pass {o : Op} {d : Nat} {ty : Nat} {pos : String} {after : Array Edge} {j t : Nat} {b c : Bool} (hj : (ops[j]?).bind (·.dst) = some t) (hb : look ρ t = some (.bool b))
    (k : Reg P ops Q rest n D ((d, undef) :: ρ) w) (hbc : Bool.xor b c = true := by rfl) (hd : Nat.blt d n = true := by rfl) : Reg P ops Q (⟨some d, o, ty, pos, after, some (j, c)⟩ :: rest) n D ρ w := by
  intro a ha
  have h1 := k _ (ha.put undef hd)
  unfold wpList
  have hw : Region.wanted ⟨some d, o, ty, pos, after, some (j, c)⟩ (yielded ops a.tmps) = false := by
    simp [Region.wanted, yielded, hj, ha.slot _ _ hb]
    cases b <;> cases c <;> simp at hbc ⊢
  rw [if_neg (by rw [hw]; simp)]
  exact h1
theorem s_pass0 {o : Op} {ty : Nat} {pos : String} {after : Array Edge} {j t : Nat} {b c : Bool} (hj : (ops[j]?).bind (·.dst) = some t) (hb : look ρ t = some (.bool b))
    (k : Reg P ops Q rest n D ρ w) (hbc : Bool.xor b c = true := by rfl) : Reg P ops Q (⟨none, o, ty, pos, after, some (j, c)⟩ :: rest) n D ρ w := by
  intro a ha
  have h1 := k _ ha
  unfold wpList
  have hw : Region.wanted ⟨none, o, ty, pos, after, some (j, c)⟩ (yielded ops a.tmps) = false := by
    simp [Region.wanted, yielded, hj, ha.slot _ _ hb]
    cases b <;> cases c <;> simp at hbc ⊢
  rw [if_neg (by rw [hw]; simp)]
  exact h1
/-- A Bool in a slot: its two cases. -/
theorem r_case (t : Nat) {b : Bool} (h : look ρ t = some (.bool b)) (ht : b = true → Reg P ops Q rest n D ((t, .bool true) :: ρ) w) (hf : b = false → Reg P ops Q rest n D ((t, .bool false) :: ρ) w) : Reg P ops Q rest n D ρ w := by
  cases b with
  | true => exact r_re t h rfl (ht rfl)
  | false => exact r_re t h rfl (hf rfl)
theorem r_caseP (t : Nat) {p : Prop} [Decidable p] (h : look ρ t = some (.bool (decide p))) (ht : p → Reg P ops Q rest n D ((t, .bool true) :: ρ) w) (hf : ¬ p → Reg P ops Q rest n D ((t, .bool false) :: ρ) w) : Reg P ops Q rest n D ρ w :=
  r_case t h (fun e => ht (of_decide_eq_true e)) (fun e => hf (of_decide_eq_false e))

section
variable {d ty : Nat} {pos : String} {after : Array Edge} {gd : Option (Nat × Bool)} {C : Value → World → Prop}
theorem s_move {x : Operand} {v : Value} (hx : opv ρ x = some v) (k : C (v) w) :
    OpW P ⟨some d, .move x, ty, pos, after, gd⟩ n D ρ w C :=
  opw_val (fun e he => by simp [execOp, he x v hx]) k
theorem s_assign {x : Operand} {v : Value} (hx : opv ρ x = some v) (k : C (v) w) :
    OpW P ⟨some d, .assign x, ty, pos, after, gd⟩ n D ρ w C :=
  opw_val (fun e he => by simp [execOp, he x v hx]) k
theorem s_pick {c x y : Operand} {b : Bool} {v : Value} (hc : opv ρ c = some (.bool b)) (hx : opv ρ (bif b then x else y) = some v) (k : C (v) w) :
    OpW P ⟨some d, .pick c x y, ty, pos, after, gd⟩ n D ρ w C :=
  opw_val (fun e he => by
    have h1 := he _ _ hx
    cases b <;> simp at h1 <;> simp [execOp, he c _ hc, asBool, h1]) k
theorem s_bin {op : BinOp} {x y : Operand} {xt yt : Nat} {a b v : Value} (hx : opv ρ x = some a) (hy : opv ρ y = some b) (hg : ∀ w, (eqGuard op xt x y a b).run P w = .ok () w) (hr : (binOp op xt a b).run P w = .ok v w)
    (k : C (v) w) :
    OpW P ⟨some d, .binOp op xt x y yt, ty, pos, after, gd⟩ n D ρ w C :=
  opw_val (fun e he => by simp [execOp, he x _ hx, he y _ hy, hg, hr]) k
theorem eqGuard_int (op : BinOp) (t : Nat) (x y : Operand) (j k : IntKind) (a b : Int) (w : World) : (eqGuard op t x y (.int j a) (.int k b)).run P w = .ok () w := by
  unfold eqGuard; split <;> simp
section
variable {x y : Operand} {xt yt : Nat} {k : IntKind} {a b : Int}
theorem s_arith {op : BinOp} (hx : opv ρ x = some (.int k a)) (hy : opv ρ y = some (.int k b)) {v : Value} (hr : (Op.intArith op k a b) = pure v) (hop : (match op with | .add | .sub | .mul => true | _ => false) = true)
    (h : C (v) w) : OpW P ⟨some d, .binOp op xt x y yt, ty, pos, after, gd⟩ n D ρ w C :=
  s_bin hx hy (eqGuard_int _ _ _ _ _ _ _ _) (by cases op <;> simp at hop <;> simp [binOp, hr]) h
theorem wrap64_of {q : Int} (h : -9223372036854775808 ≤ q ∧ q ≤ 9223372036854775807) : IntKind.i64.wrap q = q := by
  rw [IntKind.wrap_i64]; omega
theorem s_add (hx : opv ρ x = some (.int .i64 a)) (hy : opv ρ y = some (.int .i64 b)) (hb : -9223372036854775808 ≤ a + b ∧ a + b ≤ 9223372036854775807)
    (h : C (.int .i64 (a + b)) w) : OpW P ⟨some d, .binOp .add xt x y yt, ty, pos, after, gd⟩ n D ρ w C :=
  s_arith hx hy (by simp [Op.intArith, wrap64_of hb]) rfl h
theorem s_sub (hx : opv ρ x = some (.int .i64 a)) (hy : opv ρ y = some (.int .i64 b)) (hb : -9223372036854775808 ≤ a - b ∧ a - b ≤ 9223372036854775807)
    (h : C (.int .i64 (a - b)) w) : OpW P ⟨some d, .binOp .sub xt x y yt, ty, pos, after, gd⟩ n D ρ w C :=
  s_arith hx hy (by simp [Op.intArith, wrap64_of hb]) rfl h
theorem s_mul (hx : opv ρ x = some (.int .i64 a)) (hy : opv ρ y = some (.int .i64 b)) (hb : -9223372036854775808 ≤ a * b ∧ a * b ≤ 9223372036854775807)
    (h : C (.int .i64 (a * b)) w) : OpW P ⟨some d, .binOp .mul xt x y yt, ty, pos, after, gd⟩ n D ρ w C :=
  s_arith hx hy (by simp [Op.intArith, wrap64_of hb]) rfl h
theorem s_addw (hx : opv ρ x = some (.int k a)) (hy : opv ρ y = some (.int k b))
    (h : C (.int k (k.wrap (a + b))) w) : OpW P ⟨some d, .binOp .add xt x y yt, ty, pos, after, gd⟩ n D ρ w C :=
  s_arith hx hy rfl rfl h
theorem s_subw (hx : opv ρ x = some (.int k a)) (hy : opv ρ y = some (.int k b))
    (h : C (.int k (k.wrap (a - b))) w) : OpW P ⟨some d, .binOp .sub xt x y yt, ty, pos, after, gd⟩ n D ρ w C :=
  s_arith hx hy rfl rfl h
theorem s_mulw (hx : opv ρ x = some (.int k a)) (hy : opv ρ y = some (.int k b))
    (h : C (.int k (k.wrap (a * b))) w) : OpW P ⟨some d, .binOp .mul xt x y yt, ty, pos, after, gd⟩ n D ρ w C :=
  s_arith hx hy rfl rfl h
theorem s_cmp {op : BinOp} (hx : opv ρ x = some (.int k a)) (hy : opv ρ y = some (.int k b)) {v : Value} (hr : (Op.intCmp op a b) = pure v) (hop : (match op with | .eql | .neq | .lss | .leq | .gtr | .geq => true | _ => false) = true)
    (h : C (v) w) : OpW P ⟨some d, .binOp op xt x y yt, ty, pos, after, gd⟩ n D ρ w C :=
  s_bin hx hy (eqGuard_int _ _ _ _ _ _ _ _) (by cases op <;> simp at hop <;> simp [binOp, hr]) h
theorem s_lt (hx : opv ρ x = some (.int k a)) (hy : opv ρ y = some (.int k b)) (h : C (.bool (decide (a < b))) w) :
    OpW P ⟨some d, .binOp .lss xt x y yt, ty, pos, after, gd⟩ n D ρ w C := s_cmp hx hy rfl rfl h
theorem s_le (hx : opv ρ x = some (.int k a)) (hy : opv ρ y = some (.int k b)) (h : C (.bool (decide (a ≤ b))) w) :
    OpW P ⟨some d, .binOp .leq xt x y yt, ty, pos, after, gd⟩ n D ρ w C := s_cmp hx hy rfl rfl h
theorem s_gt (hx : opv ρ x = some (.int k a)) (hy : opv ρ y = some (.int k b)) (h : C (.bool (decide (b < a))) w) :
    OpW P ⟨some d, .binOp .gtr xt x y yt, ty, pos, after, gd⟩ n D ρ w C := s_cmp hx hy rfl rfl h
theorem s_ge (hx : opv ρ x = some (.int k a)) (hy : opv ρ y = some (.int k b)) (h : C (.bool (decide (b ≤ a))) w) :
    OpW P ⟨some d, .binOp .geq xt x y yt, ty, pos, after, gd⟩ n D ρ w C := s_cmp hx hy rfl rfl h
theorem beq_dec (a b : Int) : (a == b) = decide (a = b) := by by_cases h : a = b <;> simp [h]
theorem bne_dec (a b : Int) : (a != b) = decide (a ≠ b) := by by_cases h : a = b <;> simp [h]
theorem s_eq (hx : opv ρ x = some (.int k a)) (hy : opv ρ y = some (.int k b)) (h : C (.bool (decide (a = b))) w) :
    OpW P ⟨some d, .binOp .eql xt x y yt, ty, pos, after, gd⟩ n D ρ w C := s_cmp hx hy (by simp [Op.intCmp, beq_dec]) rfl h
theorem s_ne (hx : opv ρ x = some (.int k a)) (hy : opv ρ y = some (.int k b)) (h : C (.bool (decide (a ≠ b))) w) :
    OpW P ⟨some d, .binOp .neq xt x y yt, ty, pos, after, gd⟩ n D ρ w C := s_cmp hx hy (by simp [Op.intCmp, bne_dec]) rfl h
theorem s_quo (hx : opv ρ x = some (.int k a)) (hy : opv ρ y = some (.int k b)) (hb : b ≠ 0) (h : C (.int k (k.wrap (a.tdiv b))) w) :
    OpW P ⟨some d, .binOp .quo xt x y yt, ty, pos, after, gd⟩ n D ρ w C :=
  s_bin hx hy (eqGuard_int _ _ _ _ _ _ _ _) (by simp [binOp, Op.intDiv, hb]) h
theorem s_rem (hx : opv ρ x = some (.int k a)) (hy : opv ρ y = some (.int k b)) (hb : b ≠ 0) (h : C (.int k (a.tmod b)) w) :
    OpW P ⟨some d, .binOp .rem xt x y yt, ty, pos, after, gd⟩ n D ρ w C :=
  s_bin hx hy (eqGuard_int _ _ _ _ _ _ _ _) (by simp [binOp, Op.intDiv, hb]) h
theorem s_shl {j : IntKind} (hx : opv ρ x = some (.int k a)) (hy : opv ρ y = some (.int j b)) (hb : 0 ≤ b) (h : C (.int k (k.wrap (a * 2 ^ (min b.toNat k.bits)))) w) :
    OpW P ⟨some d, .binOp .shl xt x y yt, ty, pos, after, gd⟩ n D ρ w C :=
  s_bin hx hy (eqGuard_int _ _ _ _ _ _ _ _) (by simp [binOp, Op.shift, show ¬ b < 0 by omega]) h
theorem s_shr {j : IntKind} (hx : opv ρ x = some (.int k a)) (hy : opv ρ y = some (.int j b)) (hb : 0 ≤ b) (h : C (.int k (a.fdiv (2 ^ (min b.toNat k.bits)))) w) :
    OpW P ⟨some d, .binOp .shr xt x y yt, ty, pos, after, gd⟩ n D ρ w C :=
  s_bin hx hy (eqGuard_int _ _ _ _ _ _ _ _) (by simp [binOp, Op.shift, show ¬ b < 0 by omega]) h
theorem s_bits {op : BinOp} (hx : opv ρ x = some (.int k a)) (hy : opv ρ y = some (.int k b)) {v : Value} (hr : (Op.intBits op k a b) = pure v) (hop : (match op with | .and | .or | .xor | .andNot => true | _ => false) = true)
    (h : C (v) w) : OpW P ⟨some d, .binOp op xt x y yt, ty, pos, after, gd⟩ n D ρ w C :=
  s_bin hx hy (eqGuard_int _ _ _ _ _ _ _ _) (by cases op <;> simp at hop <;> simp [binOp, hr]) h
theorem s_notP {p : Prop} [Decidable p] (hx : opv ρ x = some (.bool (decide p))) (h : C (.bool (decide (¬ p))) w) :
    OpW P ⟨some d, .unOp .not xt x, ty, pos, after, gd⟩ n D ρ w C :=
  opw_val (fun e he => by simp [execOp, he x _ hx, Op.unary]) h
theorem s_not {c : Bool} (hx : opv ρ x = some (.bool c)) (h : C (.bool (!c)) w) :
    OpW P ⟨some d, .unOp .not xt x, ty, pos, after, gd⟩ n D ρ w C :=
  opw_val (fun e he => by simp [execOp, he x _ hx, Op.unary]) h
end
end
end
end Go.Gw
