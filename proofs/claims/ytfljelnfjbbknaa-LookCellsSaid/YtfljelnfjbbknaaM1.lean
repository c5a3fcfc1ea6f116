/- Part of the proof: a library for walks, plain laws, and functions' walks. -/
import Derived.WalkKit
import Derived.WalkSpells
import Derived.WalkLawsBesides
import Derived.Maps.AppendAt
import Derived.Deep.Quiet
import Derived.Orders
import Derived.Deep.MidRow
import Derived.Deep.LoopGhost
import Derived.Laws.OwnMore
import Derived.Laws.MakeOwn
import Derived.Laws.StructEq
import Derived.ChangeKeysEq
set_option linter.unusedSimpArgs false
set_option linter.unusedVariables false
namespace Go.Gw
theorem om {p : Prop} (h : p := by omega) : p := h
theorem dc {p : Prop} (h : p := by decide) : p := h
theorem kr {p : Prop} (h : p := by kernel_rfl) : p := h
end Go.Gw
namespace Go.Gw
open Go.RowKit
abbrev Env := List (Nat × Value)
def look : Env → Nat → Option Value
  | [], _ => none
  | (t, v) :: r, s => bif Nat.beq t s then some v else look r s
def opv (ρ : Env) : Operand → Option Value
  | .tmp t => look ρ t
  | .const v => some v
  | .func f => some (.func (.func f) #[] #[])
  | .global g => some (.pointer (some ⟨g, 0, none⟩))
def opvs (ρ : Env) : List Operand → Option (List Value)
  | [] => some []
  | x :: r => match opv ρ x with
    | some v => match opvs ρ r with
      | some vs => some (v :: vs)
      | none => none
    | none => none
structure Fr (n : Nat) (D : List Deferred) (ρ : Env) (a : Act) : Prop where
  defers : a.defers = D
  size : a.tmps.size = n
  slot : ∀ t v, look ρ t = some v → a.tmps[t]? = some v
def Sub : Env → Env → Prop
  | [], _ => True
  | (t, v) :: r, ρ => look ρ t = some v ∧ Sub r ρ
theorem Zb1 (t : Nat) (v : Value) (r : Env) (s : Nat) : look ((t, v) :: r) s = if t = s then some v else look r s := by
  show (bif Nat.beq t s then some v else look r s) = _
  by_cases h : t = s
  · subst h; simp
  · have : Nat.beq t s = false := by rw [← Bool.not_eq_true, Nat.beq_eq]; exact h
    simp [this, h]
theorem Sub.look {ρ' ρ : Env} (h : Sub ρ' ρ) {t : Nat} {v : Value} (hl : look ρ' t = some v) : look ρ t = some v := by
  induction ρ' with
  | nil => simp [Gw.look] at hl
  | cons p r ih =>
    obtain ⟨s, u⟩ := p
    rw [Zb1] at hl
    obtain ⟨h1, h2⟩ := h
    split at hl
    · rename_i e; subst e; cases hl; exact h1
    · exact ih h2 hl
theorem Fr.sub {n : Nat} {D : List Deferred} {ρ ρ' : Env} {a : Act} (h : Fr n D ρ a) (hs : Sub ρ' ρ) : Fr n D ρ' a :=
  ⟨h.defers, h.size, fun t v hl => h.slot t v (hs.look hl)⟩
theorem Fr.eval {n : Nat} {D : List Deferred} {ρ : Env} {a : Act} (h : Fr n D ρ a) {x : Operand} {v : Value} (hx : opv ρ x = some v) : a.eval x = v := by
  cases x with
  | tmp t => have := h.slot t v hx; simp [Act.eval, Array.getD_eq_getD_getElem?, this]
  | const u => simpa [opv, Act.eval] using hx
  | func f => simpa [opv, Act.eval] using hx
  | global g => simpa [opv, Act.eval] using hx
theorem Fr.evals {n : Nat} {D : List Deferred} {ρ : Env} {a : Act} (h : Fr n D ρ a) : ∀ {xs : List Operand} {vs : List Value}, opvs ρ xs = some vs → xs.map a.eval = vs
  | [], vs, hx => by simpa [opvs] using hx
  | x :: r, vs, hx => by
    unfold opvs at hx
    split at hx
    · rename_i v hv
      split at hx
      · rename_i us hu
        cases hx
        simp [h.eval hv, h.evals hu]
      · cases hx
    · cases hx
theorem Fr.put {n : Nat} {D : List Deferred} {ρ : Env} {a : Act} (h : Fr n D ρ a) {d : Nat} (v : Value) (hd : Nat.blt d n = true) : Fr n D ((d, v) :: ρ) (a.put (some d) v) := by
  have hd' : d < n := by simpa [Nat.blt_eq] using hd
  refine ⟨h.defers, by simp [Act.put, h.size], fun t u hl => ?_⟩
  rw [Zb1] at hl
  simp only [Act.put, Array.getElem?_setIfInBounds]
  split at hl
  · rename_i e; subst e; cases hl; simp [h.size, hd']
  · rename_i e; rw [if_neg e]; exact h.slot t u hl
def Reg (P : Program) (ops : Array Oper) (Q : Exit → Act → World → Prop) (l : List Oper) (n : Nat) (D : List Deferred) (ρ : Env) (w : World) : Prop :=
  ∀ a, Fr n D ρ a → wpList P ops Q l a w
def W (P : Program) (c : Code) (Q : Exit → Act → World → Prop) (n : Nat) (D : List Deferred) (ρ : Env) (w : World) : Prop :=
  ∀ a, Fr n D ρ a → c.wp P Q a w
section
variable {P : Program} {ops : Array Oper} {Q : Exit → Act → World → Prop} {Zao : List Oper} {n : Nat} {D : List Deferred} {ρ : Env} {w : World}
theorem Zh {x y : Code} (h : W P x (Exit.then (fun a w => y.wp P Q a w) Q) n D ρ w) : W P (.seq x y) Q n D ρ w :=
  fun a ha => wp_seq (h a ha)
theorem Zz {id : Nat} {c : Code} (h : W P c (Exit.inBlock id Q) n D ρ w) : W P (.block id c) Q n D ρ w := fun a ha => wp_block (h a ha)
theorem Zb {id : Nat} {l : List Oper} (h : Reg P l.toArray Q l n D ρ w) : W P (.region id l.toArray false) Q n D ρ w := fun a ha => wp_region_lit (h a ha)
theorem Zba {c : Operand} {x y : Code} {b : Bool} (hc : opv ρ c = some (.bool b)) (ht : b = true → W P x Q n D ρ w) (hf : b = false → W P y Q n D ρ w) : W P (.cond c x y) Q n D ρ w :=
  fun a ha => wp_cond_split (ha.eval hc) (fun h => ht h a ha) (fun h => hf h a ha)
theorem Zw {c : Operand} {x y : Code} {p : Prop} [Decidable p] (hc : opv ρ c = some (.bool (decide p))) (ht : p → W P x Q n D ρ w) (hf : ¬ p → W P y Q n D ρ w) : W P (.cond c x y) Q n D ρ w :=
  Zba hc (fun h => ht (of_decide_eq_true h)) (fun h => hf (of_decide_eq_false h))
def OpW (P : Program) (o : Oper) (n : Nat) (D : List Deferred) (ρ : Env) (w : World) (C : Value → World → Prop) : Prop :=
  ∀ a, Fr n D ρ a → ∀ Q, o.wp P a w (fun a' w' => ∃ v, a' = a.put o.dst v ∧ C v w') Q
theorem Zi7 {o : Oper} {a : Act} {K K' : Act → World → Prop} (h : o.wp P a w K Q) (hk : ∀ a w, K a w → K' a w) : o.wp P a w K' Q := Oper.wp_mono hk h
theorem st {op : Op} {d ty : Nat} {pos : String} {after : Array Edge} (h : OpW P ⟨some d, op, ty, pos, after, none⟩ n D ρ w (fun v w' => Reg P ops Q Zao n D ((d, v) :: ρ) w')) (hd : Nat.blt d n = true := by rfl) :
    Reg P ops Q (⟨some d, op, ty, pos, after, none⟩ :: Zao) n D ρ w := by
  intro a ha
  refine wpList_plain rfl fun K hK => Zi7 (h a ha Q) ?_
  rintro a' w' ⟨v, rfl, hk⟩
  exact hK _ _ (hk _ (ha.put v hd))
theorem st0 {op : Op} {ty : Nat} {pos : String} {after : Array Edge} (h : OpW P ⟨none, op, ty, pos, after, none⟩ n D ρ w (fun _ w' => Reg P ops Q Zao n D ρ w')) :
    Reg P ops Q (⟨none, op, ty, pos, after, none⟩ :: Zao) n D ρ w := by
  intro a ha
  refine wpList_plain rfl fun K hK => Zi7 (h a ha Q) ?_
  rintro a' w' ⟨v, rfl, hk⟩
  exact hK _ _ (hk _ ha)
theorem stg {op : Op} {ty : Nat} {pos : String} {after : Array Edge} {d j t : Nat} {b : Bool} (h : OpW P ⟨some d, op, ty, pos, after, some (j, b)⟩ n D ρ w (fun v w' => Reg P ops Q Zao n D ((d, v) :: ρ) w'))
    (hj : (ops[j]?).bind (·.dst) = some t := by rfl) (hb : look ρ t = some (.bool b) := by rfl) (hd : Nat.blt d n = true := by rfl) : Reg P ops Q (⟨some d, op, ty, pos, after, some (j, b)⟩ :: Zao) n D ρ w := by
  intro a ha
  refine wpList_step fun K hK => ?_
  have hw : Region.wanted ⟨some d, op, ty, pos, after, some (j, b)⟩ (yielded ops a.tmps) = true := by simp [Region.wanted, yielded, hj, ha.slot _ _ hb]
  rw [if_pos hw]
  refine Zi7 (h a ha Q) ?_
  rintro a' w' ⟨v, rfl, hk⟩
  exact hK _ _ (hk _ (ha.put v hd))
theorem Za3 {C : Value → World → Prop} {o : Oper} {v : Value} {w' : World} (hrun : ∀ e : Operand → Value, (∀ x v, opv ρ x = some v → e x = v) → (execOp e o).run P w = .ok (.value v) w') (k : C v w') : OpW P o n D ρ w C := by
  intro a ha Q
  unfold Oper.wp
  rw [hrun a.eval (fun x v hx => ha.eval hx), Oper.upon_value]
  exact ⟨v, rfl, k⟩
theorem Zi1 {C : Value → World → Prop} {o : Oper} {w' : World} (hrun : ∀ e : Operand → Value, (∀ x v, opv ρ x = some v → e x = v) → (execOp e o).run P w = .ok .skip w') (k : C undef w') : OpW P o n D ρ w C := by
  intro a ha Q
  unfold Oper.wp
  rw [hrun a.eval (fun x v hx => ha.eval hx), Oper.upon_skip]
  exact ⟨_, rfl, k⟩
theorem r_re (t : Nat) {v v' : Value} (h : look ρ t = some v) (e : v = v') (k : Reg P ops Q Zao n D ((t, v') :: ρ) w) : Reg P ops Q Zao n D ρ w := by
  subst e
  intro a ha
  refine k a ⟨ha.defers, ha.size, fun s u hl => ?_⟩
  rw [Zb1] at hl
  split at hl
  · rename_i e; subst e; cases hl; exact ha.slot _ _ h
  · exact ha.slot _ _ hl
theorem Zj {o : Op} {d : Nat} {ty : Nat} {pos : String} {after : Array Edge} {j t : Nat} {b c : Bool} (hj : (ops[j]?).bind (·.dst) = some t) (hb : look ρ t = some (.bool b))
    (k : Reg P ops Q Zao n D ((d, undef) :: ρ) w) (hbc : Bool.xor b c = true := by rfl) (hd : Nat.blt d n = true := by rfl) : Reg P ops Q (⟨some d, o, ty, pos, after, some (j, c)⟩ :: Zao) n D ρ w := by
  intro a ha
  have h1 := k _ (ha.put undef hd)
  unfold wpList
  have hw : Region.wanted ⟨some d, o, ty, pos, after, some (j, c)⟩ (yielded ops a.tmps) = false := by
    simp [Region.wanted, yielded, hj, ha.slot _ _ hb]
    cases b <;> cases c <;> simp at hbc ⊢
  rw [if_neg (by rw [hw]; simp)]
  exact h1
theorem Zd7 (t : Nat) {b : Bool} (h : look ρ t = some (.bool b)) (ht : b = true → Reg P ops Q Zao n D ((t, .bool true) :: ρ) w) (hf : b = false → Reg P ops Q Zao n D ((t, .bool false) :: ρ) w) : Reg P ops Q Zao n D ρ w := by
  cases b with
  | true => exact r_re t h rfl (ht rfl)
  | false => exact r_re t h rfl (hf rfl)
theorem Zax (t : Nat) {p : Prop} [Decidable p] (h : look ρ t = some (.bool (decide p))) (ht : p → Reg P ops Q Zao n D ((t, .bool true) :: ρ) w) (hf : ¬ p → Reg P ops Q Zao n D ((t, .bool false) :: ρ) w) : Reg P ops Q Zao n D ρ w :=
  Zd7 t h (fun e => ht (of_decide_eq_true e)) (fun e => hf (of_decide_eq_false e))
section
variable {d ty : Nat} {pos : String} {after : Array Edge} {gd : Option (Nat × Bool)} {C : Value → World → Prop}
theorem Zc {x : Operand} {v : Value} (hx : opv ρ x = some v) (k : C (v) w) :
    OpW P ⟨some d, .move x, ty, pos, after, gd⟩ n D ρ w C :=
  Za3 (fun e he => by simp [execOp, he x v hx]) k
theorem Ze {x : Operand} {v : Value} (hx : opv ρ x = some v) (k : C (v) w) :
    OpW P ⟨some d, .assign x, ty, pos, after, gd⟩ n D ρ w C :=
  Za3 (fun e he => by simp [execOp, he x v hx]) k
theorem Zr {c x y : Operand} {b : Bool} {v : Value} (hc : opv ρ c = some (.bool b)) (hx : opv ρ (bif b then x else y) = some v) (k : C (v) w) :
    OpW P ⟨some d, .pick c x y, ty, pos, after, gd⟩ n D ρ w C :=
  Za3 (fun e he => by
    have h1 := he _ _ hx
    cases b <;> simp at h1 <;> simp [execOp, he c _ hc, asBool, h1]) k
theorem Zh8 {op : BinOp} {x y : Operand} {xt yt : Nat} {a b v : Value} (hx : opv ρ x = some a) (hy : opv ρ y = some b) (hg : ∀ w, (eqGuard op xt x y a b).run P w = .ok () w) (hr : (binOp op xt a b).run P w = .ok v w)
    (k : C (v) w) :
    OpW P ⟨some d, .binOp op xt x y yt, ty, pos, after, gd⟩ n D ρ w C :=
  Za3 (fun e he => by simp [execOp, he x _ hx, he y _ hy, hg, hr]) k
theorem Zee (op : BinOp) (t : Nat) (x y : Operand) (j k : IntKind) (a b : Int) (w : World) : (eqGuard op t x y (.int j a) (.int k b)).run P w = .ok () w := by
  unfold eqGuard; split <;> simp
section
variable {x y : Operand} {xt yt : Nat} {k : IntKind} {a b : Int}
theorem Zjf {op : BinOp} (hx : opv ρ x = some (.int k a)) (hy : opv ρ y = some (.int k b)) {v : Value} (hr : (Op.intArith op k a b) = pure v) (hop : (match op with | .add | .sub | .mul => true | _ => false) = true)
    (h : C (v) w) : OpW P ⟨some d, .binOp op xt x y yt, ty, pos, after, gd⟩ n D ρ w C :=
  Zh8 hx hy (Zee _ _ _ _ _ _ _ _) (by cases op <;> simp at hop <;> simp [binOp, hr]) h
theorem Zgm {q : Int} (h : -9223372036854775808 ≤ q ∧ q ≤ 9223372036854775807) : IntKind.i64.wrap q = q := by
  rw [IntKind.wrap_i64]; omega
theorem Zah (hx : opv ρ x = some (.int .i64 a)) (hy : opv ρ y = some (.int .i64 b)) (hb : -9223372036854775808 ≤ a + b ∧ a + b ≤ 9223372036854775807)
    (h : C (.int .i64 (a + b)) w) : OpW P ⟨some d, .binOp .add xt x y yt, ty, pos, after, gd⟩ n D ρ w C :=
  Zjf hx hy (by simp [Op.intArith, Zgm hb]) rfl h
theorem Za7 (hx : opv ρ x = some (.int .i64 a)) (hy : opv ρ y = some (.int .i64 b)) (hb : -9223372036854775808 ≤ a - b ∧ a - b ≤ 9223372036854775807)
    (h : C (.int .i64 (a - b)) w) : OpW P ⟨some d, .binOp .sub xt x y yt, ty, pos, after, gd⟩ n D ρ w C :=
  Zjf hx hy (by simp [Op.intArith, Zgm hb]) rfl h
theorem s_mul (hx : opv ρ x = some (.int .i64 a)) (hy : opv ρ y = some (.int .i64 b)) (hb : -9223372036854775808 ≤ a * b ∧ a * b ≤ 9223372036854775807)
    (h : C (.int .i64 (a * b)) w) : OpW P ⟨some d, .binOp .mul xt x y yt, ty, pos, after, gd⟩ n D ρ w C :=
  Zjf hx hy (by simp [Op.intArith, Zgm hb]) rfl h
theorem s_addw (hx : opv ρ x = some (.int k a)) (hy : opv ρ y = some (.int k b))
    (h : C (.int k (k.wrap (a + b))) w) : OpW P ⟨some d, .binOp .add xt x y yt, ty, pos, after, gd⟩ n D ρ w C :=
  Zjf hx hy rfl rfl h
theorem s_subw (hx : opv ρ x = some (.int k a)) (hy : opv ρ y = some (.int k b))
    (h : C (.int k (k.wrap (a - b))) w) : OpW P ⟨some d, .binOp .sub xt x y yt, ty, pos, after, gd⟩ n D ρ w C :=
  Zjf hx hy rfl rfl h
theorem s_mulw (hx : opv ρ x = some (.int k a)) (hy : opv ρ y = some (.int k b))
    (h : C (.int k (k.wrap (a * b))) w) : OpW P ⟨some d, .binOp .mul xt x y yt, ty, pos, after, gd⟩ n D ρ w C :=
  Zjf hx hy rfl rfl h
theorem s_cmp {op : BinOp} (hx : opv ρ x = some (.int k a)) (hy : opv ρ y = some (.int k b)) {v : Value} (hr : (Op.intCmp op a b) = pure v) (hop : (match op with | .eql | .neq | .lss | .leq | .gtr | .geq => true | _ => false) = true)
    (h : C (v) w) : OpW P ⟨some d, .binOp op xt x y yt, ty, pos, after, gd⟩ n D ρ w C :=
  Zh8 hx hy (Zee _ _ _ _ _ _ _ _) (by cases op <;> simp at hop <;> simp [binOp, hr]) h
theorem Zbd (hx : opv ρ x = some (.int k a)) (hy : opv ρ y = some (.int k b)) (h : C (.bool (decide (a < b))) w) :
    OpW P ⟨some d, .binOp .lss xt x y yt, ty, pos, after, gd⟩ n D ρ w C := s_cmp hx hy rfl rfl h
theorem s_le (hx : opv ρ x = some (.int k a)) (hy : opv ρ y = some (.int k b)) (h : C (.bool (decide (a ≤ b))) w) :
    OpW P ⟨some d, .binOp .leq xt x y yt, ty, pos, after, gd⟩ n D ρ w C := s_cmp hx hy rfl rfl h
theorem Zch (hx : opv ρ x = some (.int k a)) (hy : opv ρ y = some (.int k b)) (h : C (.bool (decide (b < a))) w) :
    OpW P ⟨some d, .binOp .gtr xt x y yt, ty, pos, after, gd⟩ n D ρ w C := s_cmp hx hy rfl rfl h
theorem Zg3 (hx : opv ρ x = some (.int k a)) (hy : opv ρ y = some (.int k b)) (h : C (.bool (decide (b ≤ a))) w) :
    OpW P ⟨some d, .binOp .geq xt x y yt, ty, pos, after, gd⟩ n D ρ w C := s_cmp hx hy rfl rfl h
theorem beq_dec (a b : Int) : (a == b) = decide (a = b) := by by_cases h : a = b <;> simp [h]
theorem bne_dec (a b : Int) : (a != b) = decide (a ≠ b) := by by_cases h : a = b <;> simp [h]
theorem Zbu (hx : opv ρ x = some (.int k a)) (hy : opv ρ y = some (.int k b)) (h : C (.bool (decide (a = b))) w) :
    OpW P ⟨some d, .binOp .eql xt x y yt, ty, pos, after, gd⟩ n D ρ w C := s_cmp hx hy (by simp [Op.intCmp, beq_dec]) rfl h
theorem s_ne (hx : opv ρ x = some (.int k a)) (hy : opv ρ y = some (.int k b)) (h : C (.bool (decide (a ≠ b))) w) :
    OpW P ⟨some d, .binOp .neq xt x y yt, ty, pos, after, gd⟩ n D ρ w C := s_cmp hx hy (by simp [Op.intCmp, bne_dec]) rfl h
theorem s_quo (hx : opv ρ x = some (.int k a)) (hy : opv ρ y = some (.int k b)) (hb : b ≠ 0) (h : C (.int k (k.wrap (a.tdiv b))) w) :
    OpW P ⟨some d, .binOp .quo xt x y yt, ty, pos, after, gd⟩ n D ρ w C :=
  Zh8 hx hy (Zee _ _ _ _ _ _ _ _) (by simp [binOp, Op.intDiv, hb]) h
theorem s_rem (hx : opv ρ x = some (.int k a)) (hy : opv ρ y = some (.int k b)) (hb : b ≠ 0) (h : C (.int k (a.tmod b)) w) :
    OpW P ⟨some d, .binOp .rem xt x y yt, ty, pos, after, gd⟩ n D ρ w C :=
  Zh8 hx hy (Zee _ _ _ _ _ _ _ _) (by simp [binOp, Op.intDiv, hb]) h
theorem s_shl {j : IntKind} (hx : opv ρ x = some (.int k a)) (hy : opv ρ y = some (.int j b)) (hb : 0 ≤ b) (h : C (.int k (k.wrap (a * 2 ^ (min b.toNat k.bits)))) w) :
    OpW P ⟨some d, .binOp .shl xt x y yt, ty, pos, after, gd⟩ n D ρ w C :=
  Zh8 hx hy (Zee _ _ _ _ _ _ _ _) (by simp [binOp, Op.shift, show ¬ b < 0 by omega]) h
theorem s_shr {j : IntKind} (hx : opv ρ x = some (.int k a)) (hy : opv ρ y = some (.int j b)) (hb : 0 ≤ b) (h : C (.int k (a.fdiv (2 ^ (min b.toNat k.bits)))) w) :
    OpW P ⟨some d, .binOp .shr xt x y yt, ty, pos, after, gd⟩ n D ρ w C :=
  Zh8 hx hy (Zee _ _ _ _ _ _ _ _) (by simp [binOp, Op.shift, show ¬ b < 0 by omega]) h
theorem s_bits {op : BinOp} (hx : opv ρ x = some (.int k a)) (hy : opv ρ y = some (.int k b)) {v : Value} (hr : (Op.intBits op k a b) = pure v) (hop : (match op with | .and | .or | .xor | .andNot => true | _ => false) = true)
    (h : C (v) w) : OpW P ⟨some d, .binOp op xt x y yt, ty, pos, after, gd⟩ n D ρ w C :=
  Zh8 hx hy (Zee _ _ _ _ _ _ _ _) (by cases op <;> simp at hop <;> simp [binOp, hr]) h
theorem s_notP {p : Prop} [Decidable p] (hx : opv ρ x = some (.bool (decide p))) (h : C (.bool (decide (¬ p))) w) :
    OpW P ⟨some d, .unOp .not xt x, ty, pos, after, gd⟩ n D ρ w C :=
  Za3 (fun e he => by simp [execOp, he x _ hx, Op.unary]) h
theorem Zdd {c : Bool} (hx : opv ρ x = some (.bool c)) (h : C (.bool (!c)) w) :
    OpW P ⟨some d, .unOp .not xt x, ty, pos, after, gd⟩ n D ρ w C :=
  Za3 (fun e he => by simp [execOp, he x _ hx, Op.unary]) h
end
end
end
end Go.Gw
namespace Go.Gw
open Go.RowKit
def fieldOf (P : Program) (s i : Nat) : Option (Nat × Bool) :=
  match P.underlying s with
  | some (.struct fs) => match fs[i]? with
    | some f => match P.info? f.type with
      | some j => some (f.offset, j.size != 0)
      | none => none
    | none => none
  | _ => none
structure FieldF (P : Program) (s i off : Nat) : Prop where
  is : fieldOf P s i = some (off, true)
theorem FieldF.out {P : Program} {s i off : Nat} (h : FieldF P s i off) : ∃ fs f, P.underlying s = some (.struct fs) ∧ fs[i]? = some f ∧ f.offset = off ∧ ∃ j, P.info? f.type = some j ∧ j.size ≠ 0 := by
  have h := h.is
  unfold fieldOf at h
  split at h
  · rename_i fs hu
    split at h
    · rename_i f hf
      split at h
      · rename_i j hj
        simp at h
        exact ⟨fs, f, hu, hf, h.1, j, hj, h.2⟩
      · cases h
    · cases h
  · cases h
def rowOf (P : Program) (t : Nat) : Option (Bool × Nat) :=
  match P.underlying t with
  | some d => match P.info? t with
    | some i => some (d.isRow, i.size)
    | none => none
  | none => none
theorem rowOf_out {P : Program} {t k : Nat} {b : Bool} (h : rowOf P t = some (b, k)) : ∃ d, P.underlying t = some d ∧ d.isRow = b ∧ (P.info? t).map (·.size) = some k := by
  unfold rowOf at h
  split at h
  · rename_i d hd
    split at h
    · rename_i i hi
      simp at h
      exact ⟨d, hd, h.1, by simp [hi, h.2]⟩
    · cases h
  · cases h
structure RowF (P : Program) (t k : Nat) : Prop where
  is : rowOf P t = some (true, k)
theorem RowF.out {P : Program} {t k : Nat} (h : RowF P t k) : ∃ d, P.underlying t = some d ∧ d.isRow = true ∧ (P.info? t).map (·.size) = some k := rowOf_out h.is
structure OneF (P : Program) (t : Nat) : Prop where
  is : rowOf P t = some (false, 1)
theorem OneF.out {P : Program} {t : Nat} (h : OneF P t) : ∃ d, P.underlying t = some d ∧ d.isRow = false ∧ (P.info? t).map (·.size) = some 1 := rowOf_out h.is
structure ZeroF (P : Program) (t : Nat) (cs : Array Value) : Prop where
  is : ((P.info? t).bind (·.zero)).map (·.cells) = some cs
theorem ZeroF.out {P : Program} {t : Nat} {cs : Array Value} (h : ZeroF P t cs) : ∃ i z, P.info? t = some i ∧ i.zero = some z ∧ z.cells = cs := by
  have h := h.is
  cases hi : P.info? t with
  | none => simp [hi] at h
  | some i =>
    cases hz : i.zero with
    | none => simp [hi, hz] at h
    | some z => simp [hi, hz] at h; exact ⟨i, z, rfl, hz, h⟩
structure SlF (P : Program) (t e sz by_ : Nat) (z : Value) : Prop where
  und : P.underlying t = some (.slice e)
  is : (P.info? e).map (fun i => (i.zero, i.size, i.bytes)) = some (some z, sz, by_)
  zsz : z.cells.size = sz
  pos : 0 < sz
theorem SlF.inf {P : Program} {t e sz by_ : Nat} {z : Value} (h : SlF P t e sz by_ z) : ∃ i, P.info? e = some i ∧ i.zero = some z ∧ i.size = sz ∧ i.bytes = by_ := by
  have h := h.is
  cases hi : P.info? e with
  | none => simp [hi] at h
  | some i => simp [hi] at h; exact ⟨i, rfl, h.1, h.2.1, h.2.2⟩
structure ArrF (P : Program) (t n e sz : Nat) : Prop where
  und : P.underlying t = some (.array n e)
  is : (P.info? e).map (·.size) = some sz
structure IntF (P : Program) (t : Nat) (k : IntKind) : Prop where
  und : P.underlying t = some (.int k)
def Blk (w : World) (g t : Nat) (cs : Array Value) : Prop := w.heap[g]? = some (.cells cs t (0, 0))
section
variable {w w' : World} {g t : Nat} {cs : Array Value}
theorem Blk.lt (h : Blk w g t cs) : g < w.heap.size := by
  rcases Nat.lt_or_ge g w.heap.size with hlt | hge
  · exact hlt
  · unfold Blk at h; rw [Array.getElem?_eq_none hge] at h; cases h
theorem Blk.cell (h : Blk w g t cs) (i : Nat) : w.cell? ⟨g, i, none⟩ = cs[i]? := cell_of_row w g i cs t (0, 0) h
theorem Blk.frozen (h : Blk w g t cs) (i : Nat) : w.frozen? ⟨g, i, none⟩ = false := by unfold Blk at h; simp [World.frozen?, h]
theorem Blk.new (w : World) (t : Nat) (cs : Array Value) : Blk (w.alloc (.cells cs t)) w.heap.size t cs := heap_alloc_new w _
theorem Blk.grown {row : Option Nat} (h : Blk w g t cs) (hb : w.grownBy w' row) (hg : some g ≠ row) : Blk w' g t cs := (hb.block g h.lt hg).trans h
theorem Blk.g0 (h : Blk w g t cs) (hb : w.grownBy w' none) : Blk w' g t cs := h.grown hb (by simp)
theorem Blk.range (h : Blk w g t cs) : w.rangeAt g 0 cs.toList := by
  intro j v hv
  rw [Nat.zero_add, h.cell]
  simpa using hv
end
theorem Ze8 (w : World) (o : Obj) : w.grownBy (w.alloc o) none := ⟨rfl, rfl, rfl, by simp, fun k hk _ => Below.heap_alloc w o k hk⟩
theorem grown_setCell (w : World) (p : Addr) (u : Value) : w.grownBy (w.setCell p u) (some p.block) :=
  ⟨rfl, rfl, rfl, by simp [World.setCell], fun k _ hne => Below.heap_setCell w p u k (fun e => hne (by rw [e]))⟩
theorem Zef (w : World) : w.grownBy w.drew none := ⟨rfl, rfl, rfl, Nat.le_refl _, fun _ _ _ => rfl⟩
theorem Zf {a w w' : World} (h : Below a.heap.size a w) (k : w.grownBy w' none) : Below a.heap.size a w' := h.grown k h.size (by simp)
theorem Zhf {a w w' : World} {g : Nat} (h : Below a.heap.size a w) (k : w.grownBy w' (some g)) (hg : a.heap.size ≤ g) : Below a.heap.size a w' := h.grown k h.size (by rintro _ ⟨⟩; exact hg)
theorem Zi {w w' : World} (h : Below w.heap.size w w') (row : Option Nat) : w.grownBy w' row := ⟨h.os, h.tape, h.output, h.size, fun k hk _ => h.block k hk⟩
theorem Zaj {w w' : World} {b o : Nat} {cs : List Value} (h : w.rangeAt b o cs) (k : w.grownBy w' none) : w'.rangeAt b o cs := fun j v hv => by
  have h1 := h j v hv
  rw [World.cell?_of_block (w := w) (k.block b (World.block_lt_of_cell? w _ h1) (by simp))]
  exact h1
section
variable {P : Program} {ops : Array Oper} {Q : Exit → Act → World → Prop} {Zao : List Oper} {n : Nat} {D : List Deferred} {ρ : Env} {w : World}
variable {d ty : Nat} {pos : String} {after : Array Edge} {gd : Option (Nat × Bool)} {C : Value → World → Prop}
theorem Zan {t : Nat} {cs : Array Value} (hz : ZeroF P t cs)
    (k : ∀ g w', w.heap.size = g → Blk w' g t cs → w.grownBy w' none → w'.heap.size = g + 1 → C (.pointer (some ⟨g, 0, none⟩)) w') :
    OpW P ⟨some d, .alloc t, ty, pos, after, gd⟩ n D ρ w C := by
  obtain ⟨i, z, hi, hz, hc⟩ := hz.out
  exact Za3 (fun e he => by simp [execOp, Instr.alloc, zeroValue, typeInfo, hi, hz, newVar, newRow, hc]) (k _ _ rfl (Blk.new w t cs) (Ze8 _ _) (by simp))
theorem Zbs {t : Nat} {x : Operand} {v : Value} (hx : opv ρ x = some v)
    (k : ∀ g w', w.heap.size = g → Blk w' g t v.cells → w.grownBy w' none → w'.heap.size = g + 1 → C (.pointer (some ⟨g, 0, none⟩)) w') :
    OpW P ⟨some d, .box t x, ty, pos, after, gd⟩ n D ρ w C := 
  Za3 (fun e he => by simp [execOp, Instr.box, he x _ hx, newVar, newRow]) (k _ _ rfl (Blk.new w t v.cells) (Ze8 _ _) (by simp))
theorem Zn {s i off b o : Nat} {x : Operand} (hf : FieldF P s i off) (hx : opv ρ x = some (.pointer (some ⟨b, o, none⟩)))
    (k : C (.pointer (some ⟨b, o + off, none⟩)) w) :
    OpW P ⟨some d, .fieldAddr s x i, ty, pos, after, gd⟩ n D ρ w C := by
  obtain ⟨fs, f, hu, hff, ho, j, hj, hs⟩ := hf.out
  subst ho
  exact Za3 (fun e he => by
    simp [execOp, Instr.fieldAt, he x _ hx, run_underlying hu, hff, Instr.sureAddr, fieldPlace, sizeOf, typeInfo, hj, hs, Addr.add_mid]) k
theorem Zt {t b o o0 j : Nat} {x : Operand} {cs : List Value} {v : Value} (ht : OneF P t) (hx : opv ρ x = some (.pointer (some ⟨b, o0, none⟩))) (hc : w.rangeAt b o cs) (hj : cs[j]? = some v)
    (k : C (v) w) (ho : o0 = o + j := by rfl) :
    OpW P ⟨some d, .load t x, ty, pos, after, gd⟩ n D ρ w C := by
  obtain ⟨dd, hu, hr, hs⟩ := ht.out
  subst ho
  have hcell := hc j v hj
  exact Za3 (fun e he => by
    have hagg : (isAgg t).run P w = .ok false w := by
      unfold isAgg; rw [Sem.run_bind, run_underlying hu w]; cases dd <;> simp_all
    simp [execOp, Instr.loadAt, Instr.sureAddr, he x _ hx, loadVar, Sem.run_bind, hagg, hcell, run_load]) k
theorem Zp {t m b o : Nat} {x : Operand} {cs : List Value} (ht : RowF P t m) (hx : opv ρ x = some (.pointer (some ⟨b, o, none⟩))) (hc : w.rangeAt b o cs) (hl : cs.length = m)
    (k : C (.agg cs.toArray) w) :
    OpW P ⟨some d, .load t x, ty, pos, after, gd⟩ n D ρ w C := by
  obtain ⟨dd, hu, hr, hs⟩ := ht.out
  exact Za3 (fun e he => by
    simp [execOp, he x _ hx, run_loadAt_mid w b o t cs dd hc hu hr (by rw [hs, hl])]) k
theorem Zbf {t m b o o0 j : Nat} {x : Operand} {cs us : List Value} (ht : RowF P t m) (hx : opv ρ x = some (.pointer (some ⟨b, o0, none⟩))) (hc : w.rangeAt b o cs) (hj : (cs.drop j).take m = us) (hl : us.length = m)
    (k : C (.agg us.toArray) w) (ho : o0 = o + j := by rfl) :
    OpW P ⟨some d, .load t x, ty, pos, after, gd⟩ n D ρ w C := by
  obtain ⟨dd, hu, hr, hs⟩ := ht.out
  subst ho
  have hc' : w.rangeAt b (o + j) us := by
    intro i v hv
    rw [Nat.add_assoc]
    refine hc (j + i) v ?_
    rw [← hj] at hv
    rw [List.getElem?_take] at hv
    split at hv
    · rw [List.getElem?_drop] at hv; exact hv
    · cases hv
  exact Za3 (fun e he => by
    simp [execOp, he x _ hx, run_loadAt_mid w b (o + j) t us dd hc' hu hr (by rw [hs, hl])]) k
theorem Blk.set_ {w : World} {g t : Nat} {cs : Array Value} (h : Blk w g t cs) (i : Nat) (u : Value) : Blk (w.setCell ⟨g, i, none⟩ u) g t (cs.setIfInBounds i u) := by
  unfold Blk at h ⊢
  simp [World.setCell, Array.getElem?_modify, h]
theorem Zdt {t b o tb : Nat} {x y : Operand} {cs : Array Value} {v : Value} (ht : OneF P t) (hx : opv ρ x = some (.pointer (some ⟨b, o, none⟩))) (hy : opv ρ y = some v) (h1 : v.oneCell' = true) (hb : Blk w b tb cs) (ho : o < cs.size)
    (k : ∀ w', Blk w' b tb (cs.setIfInBounds o v) → w.grownBy w' (some b) → w'.heap.size = w.heap.size → C undef w') :
    OpW P ⟨none, .store t x y, ty, pos, after, gd⟩ n D ρ w C := by
  obtain ⟨dd, hu, hr, hs⟩ := ht.out
  refine Zi1 (w' := w.setCell ⟨b, o, none⟩ v) (fun e he => ?_) (k _ (hb.set_ o v) (grown_setCell w _ v) (by simp [World.setCell]))
  have hcells : v.cells = #[v] := by cases v <;> simp [Value.oneCell'] at h1 <;> rfl
  cases hq : P.info? t with
  | none => simp [hq] at hs
  | some i =>
    have hsz : i.size = 1 := by simpa [hq] using hs
    have hc : w.cell? ⟨b, o, none⟩ = some (cs[o]) := by rw [hb.cell]; simp [ho]
    have hst : (store ⟨b, o, none⟩ v).run P w = .ok () (w.setCell ⟨b, o, none⟩ v) := by
      rw [run_store P w _ v _ (by cases v <;> simp [Value.oneCell'] at h1 <;> rfl)]
      simp [stored, hc, hb.frozen]
    have h2 : (storeVar t ⟨b, o, none⟩ v).run P w = .ok () (w.setCell ⟨b, o, none⟩ v) := by
      simp [storeVar, sizeOf, typeInfo, hq, hsz, hcells, storeCells, Addr.add_mid, hst]
    simp [execOp, Instr.storeAt, Instr.sureAddr, he x _ hx, he y _ hy, h2]
theorem Zv {t m b tb : Nat} {x y : Operand} {cs : Array Value} {us : List Value} (ht : RowF P t m) (hx : opv ρ x = some (.pointer (some ⟨b, 0, none⟩))) (hy : opv ρ y = some (.agg us.toArray)) (hb : Blk w b tb cs) (h1 : us.all (·.oneCell') = true) (hl : us.length = m) (hl2 : cs.size = m)
    (k : ∀ w', Blk w' b tb us.toArray → w.grownBy w' (some b) → w'.heap.size = w.heap.size → C undef w') :
    OpW P ⟨none, .store t x y, ty, pos, after, gd⟩ n D ρ w C := by
  obtain ⟨dd, hu, hr, hs⟩ := ht.out
  have hrun := run_storeVar_row (P := P) w b tb t cs us.toArray hb (by rw [hs, ← hl]; simp) (by rw [hl2, ← hl]; simp) (by simpa using h1)
  refine Zi1 (w' := w.setRow b us.toArray) (fun e he => ?_) (k _ (setRow_heap w b cs us.toArray tb _ hb) ?_ (by simp))
  · simp [execOp, Instr.storeAt, Instr.sureAddr, he x _ hx, he y _ hy, hrun]
  · exact ⟨rfl, rfl, rfl, by simp, fun k _ hne => setRow_other w b k us.toArray (by simpa using hne)⟩
end
end Go.Gw
namespace Go.Gw
open Go.RowKit
section
variable {P : Program} {ops : Array Oper} {Q : Exit → Act → World → Prop} {Zao : List Oper} {n : Nat} {D : List Deferred} {ρ : Env} {w : World}
def Nx (n : Nat) (D : List Deferred) (ρ : Env) (w : World) (K : Act → World → Prop) : Prop := ∀ a, Fr n D ρ a → K a w
theorem Zg (h : Nx n D ρ w (Q .normal)) : Reg P ops Q [] n D ρ w := fun a ha => wpList_nil (h a ha)
theorem Zd {y : Code} (h : W P y Q n D ρ w) : Nx n D ρ w (Exit.then (fun a w => y.wp P Q a w) Q .normal) := h
theorem Zab {id : Nat} (h : Nx n D ρ w (Q .normal)) : Nx n D ρ w (Exit.inBlock id Q .normal) := h
theorem Zk {K : Act → World → Prop} {id : Nat} (h : Nx n D ρ w (Q (.exit id))) : Nx n D ρ w (Exit.then K Q (.exit id)) := h
theorem Zs {id : Nat} (h : Nx n D ρ w (Q .normal)) : Nx n D ρ w (Exit.inBlock id Q (.exit id)) := fun a ha => by simp only [Exit.inBlock, if_true]; exact h a ha
theorem Zak {id : Nat} (h : Nx n D ρ w (Q (.exit id))) : W P (.exit id) Q n D ρ w := fun a ha => wp_exit (h a ha)
theorem Zo (h : Nx n D ρ w (Q .normal)) : W P .skip Q n D ρ w := fun a ha => wp_skip (h a ha)
def Round {α : Type} (n : Nat) (D : List Deferred) (E : α → Env) (I : α → World → Prop) (μ : α → Nat) (m : Nat) (a : Act) (w : World) : Prop := ∃ x, μ x < m ∧ I x w ∧ Fr n D (E x) a
theorem Za2 {body : Code} {α : Type} (E : α → Env) (I : α → World → Prop) (μ : α → Nat) (x0 : α) (h0 : I x0 w) (hs : Sub (E x0) ρ)
    (round : ∀ x w, I x w → W P body (Exit.then (Round n D E I μ (μ x)) Q) n D (E x) w) : W P (.loop body) Q n D ρ w := by
  intro a ha
  refine wp_loop_ghost (fun m a w => ∃ x, μ x = m ∧ I x w ∧ Fr n D (E x) a) (μ x0) ⟨x0, rfl, h0, ha.sub hs⟩ ?_
  rintro m a w ⟨x, rfl, hI, hF⟩
  refine wp_mono (round x w hI a hF) ?_
  intro e a' w' hq
  cases e with
  | normal => obtain ⟨x', h1, h2, h3⟩ := hq; exact ⟨_, h1, x', rfl, h2, h3⟩
  | _ => exact hq
theorem Zac {α : Type} {E : α → Env} {I : α → World → Prop} {μ : α → Nat} {m : Nat} (x : α) (hI : I x w) (hm : μ x < m) (hs : Sub (E x) ρ) : Nx n D ρ w (Exit.then (Round n D E I μ m) Q .normal) :=
  fun a ha => ⟨x, hm, hI, ha.sub hs⟩
def Meet {α : Type} (n : Nat) (D : List Deferred) (E : α → Env) (I : α → World → Prop) (a : Act) (w : World) : Prop := ∃ x, I x w ∧ Fr n D (E x) a
theorem w_cut {x y : Code} {α : Type} (E : α → Env) (I : α → World → Prop) (h : W P x (Exit.then (Meet n D E I) Q) n D ρ w) (k : ∀ v w, I v w → W P y Q n D (E v) w) : W P (.seq x y) Q n D ρ w := by
  intro a ha
  refine wp_seq (wp_mono (h a ha) ?_)
  intro e a' w' hq
  cases e with
  | normal => obtain ⟨x', h1, h2⟩ := hq; exact k x' w' h1 a' h2
  | _ => exact hq
theorem Ze2 {α : Type} {E : α → Env} {I : α → World → Prop} (x : α) (hI : I x w) (hs : Sub (E x) ρ) : Nx n D ρ w (Exit.then (Meet n D E I) Q .normal) :=
  fun a ha => ⟨x, hI, ha.sub hs⟩
variable {d ty : Nat} {pos : String} {after : Array Edge}
structure FunF (P : Program) (f : Nat) : Prop where
  out : ∃ fn c, P.funcs[f]? = some fn ∧ (fn.name == "runtime.NumGoroutine") = false ∧ fn.body = some c
theorem Zf8 {f : Nat} (h : FunF P f) (args : Array Value) (w : World) : (callFunc f args).run P w = .ok (.enter f args) w := by
  obtain ⟨fn, c, hf, hn, hb⟩ := h.out
  have hn' : ¬ fn.name = "runtime.NumGoroutine" := by simpa using hn
  simp [callFunc, hf, hn', hb]
theorem Zq {gd : Option (Nat × Bool)} {C : Value → World → Prop} {f : Nat} {args : List Operand} {ats : Array TypeId} {vs : List Value} {R : Value → World → Prop} (hf : FunF P f) (ha : opvs ρ args = some vs)
    (hc : Calls P f vs.toArray w (fun e w' => ∃ v, e = .returned v ∧ R v w')) (k : ∀ v w', R v w' → C v w') :
    OpW P ⟨some d, .call { callee := .value (.func f), args := args.toArray, argTypes := ats }, ty, pos, after, gd⟩ n D ρ w C := by
  intro a hF Q
  unfold Oper.wp
  have he : (execOp a.eval ⟨some d, .call { callee := .value (.func f), args := args.toArray, argTypes := ats }, ty, pos, after, gd⟩).run P w = .ok (.enter f vs.toArray) w := by
    have hv : args.map a.eval = vs := hF.evals ha
    simp [execOp, resolve, Act.eval, Deferred.ofValue, invoke, hv, Zf8 hf]
  rw [he, Oper.upon_enter]
  refine hc.mono ?_
  rintro e w' ⟨v, rfl, hR⟩
  exact ⟨v, rfl, k v w' hR⟩
def Zj4 : Nat → List Value → Env
  | _, [] => []
  | i, v :: r => (i, v) :: Zj4 (i + 1) r
theorem Zma (vs : List Value) : ∀ (i t : Nat) (v : Value), look (Zj4 i vs) t = some v → i ≤ t ∧ vs[t - i]? = some v := by
  induction vs with
  | nil => intro i t v h; simp [Zj4, look] at h
  | cons u r ih =>
    intro i t v h
    unfold Zj4 at h
    rw [Zb1] at h
    split at h
    · rename_i e; subst e; cases h; simp
    · rename_i e
      obtain ⟨h1, h2⟩ := ih _ _ _ h
      refine ⟨by omega, ?_⟩
      rw [show t - i = (t - (i + 1)) + 1 by omega]; simpa using h2
theorem enter {f : FuncId} {fn : Func} {c : Code} {vs : List Value} {R : Ending → World → Prop} (hf : P.funcs[f]? = some fn) (hb : fn.body = some c) (hn : Nat.ble vs.length fn.ntmps = true)
    (h : W P c (bodyPost P fn R) fn.ntmps [] (Zj4 0 vs) w) : Calls P f vs.toArray w R := by
  refine calls_of_wp hf hb (h _ ⟨rfl, ?_, ?_⟩)
  · have : vs.length ≤ fn.ntmps := Nat.le_of_ble_eq_true hn
    simp; omega
  · intro t v hl
    obtain ⟨_, h2⟩ := Zma vs _ _ _ hl
    have ht : t < vs.length := by
      rcases Nat.lt_or_ge t vs.length with h | h
      · exact h
      · rw [Nat.sub_zero, List.getElem?_eq_none h] at h2; cases h2
    simp only [Nat.sub_zero] at h2
    rw [Array.getElem?_append_left (by simpa using ht)]
    simpa using h2
theorem Zaa {fn : Func} {R : Ending → World → Prop} {t : Nat} {v : Value} (hr : fn.results = #[.tmp t]) (hl : look ρ t = some v) (h : R (.returned v) w)
    (hQ : ∀ a w, Q .ret a w = bodyPost P fn R .ret a w := by exact fun _ _ => rfl) : W P .ret Q n [] ρ w := by
  intro a ha
  refine wp_ret ?_
  rw [hQ]
  exact bodyPost_ret (v := v) (by rw [results_tmp hr, Array.getD_eq_getD_getElem?, ha.slot t v hl]; rfl) ha.defers h
theorem Zdl {fn : Func} {R : Ending → World → Prop} {t u : Nat} {v x : Value} (hr : fn.results = #[.tmp t, .tmp u]) (hl : look ρ t = some v) (hl2 : look ρ u = some x) (h : R (.returned (.tuple #[v, x])) w)
    (hQ : ∀ a w, Q .ret a w = bodyPost P fn R .ret a w := by exact fun _ _ => rfl) : W P .ret Q n [] ρ w := by
  intro a ha
  refine wp_ret ?_
  rw [hQ]
  refine bodyPost_ret (v := .tuple #[v, x]) ?_ ha.defers h
  rw [results_tmp2 hr, Array.getD_eq_getD_getElem?, Array.getD_eq_getD_getElem?, ha.slot t v hl, ha.slot u x hl2]; rfl
theorem n_end0 {fn : Func} {R : Ending → World → Prop} (hr : fn.results = #[]) (h : R (.returned (.tuple #[])) w)
    (hQ : ∀ a w, Q .normal a w = bodyPost P fn R .normal a w := by exact fun _ _ => rfl) : Nx n [] ρ w (Q .normal) := by
  intro a ha
  rw [hQ]
  exact bodyPost_end (results_none hr _ _ _) ha.defers h
end
end Go.Gw
namespace Go.Gw
open Go.RowKit
structure Kd (α : Type) where
  sz : Nat
  rep : World → (Nat → Prop) → List Value → α → Prop
  len : ∀ {w : World} {F : Nat → Prop} {us : List Value} {x : α}, rep w F us x → us.length = sz
  keep : ∀ {w w' : World} {F : Nat → Prop} {us : List Value} {x : α}, rep w F us x → (∀ k, k < w.heap.size → ¬ F k → w'.heap[k]? = w.heap[k]?) → rep w' F us x
  weak : ∀ {w : World} {F F' : Nat → Prop} {us : List Value} {x : α}, rep w F us x → (∀ k, k < w.heap.size → F' k → F k) → rep w F' us x
def Kd.flat {α : Type} (sz : Nat) (f : α → List Value) (ok : α → Prop) (h : ∀ x, (f x).length = sz) : Kd α where
  sz := sz
  rep := fun _ _ us x => us = f x ∧ ok x
  len := by rintro _ _ _ _ ⟨rfl, _⟩; exact h _
  keep := fun hr _ => hr
  weak := fun hr _ => hr
def Kd.int (k : IntKind) : Kd Int := Kd.flat 1 (fun x => [.int k x]) (fun x => k.min ≤ x ∧ x ≤ k.max) (fun _ => rfl)
def Kd.bool : Kd Bool := Kd.flat 1 (fun x => [.bool x]) (fun _ => True) (fun _ => rfl)
section
variable {α : Type} {K : Kd α} {w w' : World} {F F' : Nat → Prop} {v : Value} {xs : List α}
def Sl (K : Kd α) (w : World) (F : Nat → Prop) (v : Value) (xs : List α) : Prop :=
  ∃ A c, v = .slice A xs.length c ∧ xs.length ≤ c ∧ c ≤ maxLen ∧ ∀ i x, xs[i]? = some x → ∃ g o us, A = some ⟨g, o, none⟩ ∧ g < w.heap.size ∧ ¬ F g ∧ K.rep w F us x ∧ w.rangeAt g (o + i * K.sz) us
theorem Zim {w w' : World} {b o : Nat} {us : List Value} (h : w.rangeAt b o us) (hk : w'.heap[b]? = w.heap[b]?) : w'.rangeAt b o us := fun j v hv => by
  rw [World.cell?_of_block (w := w) hk]; exact h j v hv
theorem Sl.keep (h : Sl K w F v xs) (hk : ∀ k, k < w.heap.size → ¬ F k → w'.heap[k]? = w.heap[k]?) : Sl K w' F v xs := by
  obtain ⟨A, c, e, h1, h2, h3⟩ := h
  refine ⟨A, c, e, h1, h2, fun i x hx => ?_⟩
  obtain ⟨g, o, us, ea, hg, hF, hr, hc⟩ := h3 i x hx
  have hb := hk g hg hF
  refine ⟨g, o, us, ea, ?_, hF, K.keep hr hk, Zim hc hb⟩
  rcases Nat.lt_or_ge g w'.heap.size with h | h
  · exact h
  · rw [Array.getElem?_eq_none h, Array.getElem?_eq_getElem hg] at hb; cases hb
theorem Sl.weak (h : Sl K w F v xs) (hf : ∀ k, k < w.heap.size → F' k → F k) : Sl K w F' v xs := by
  obtain ⟨A, c, e, h1, h2, h3⟩ := h
  refine ⟨A, c, e, h1, h2, fun i x hx => ?_⟩
  obtain ⟨g, o, us, ea, hg, hF, hr, hc⟩ := h3 i x hx
  exact ⟨g, o, us, ea, hg, fun hF' => hF (hf _ hg hF'), K.weak hr hf, hc⟩
theorem Sl.g0 (h : Sl K w F v xs) (k : w.grownBy w' none) : Sl K w' F v xs := h.keep fun i hi _ => k.block i hi (by simp)
theorem Sl.below (h : Sl K w F v xs) (k : Below w.heap.size w w') : Sl K w' F v xs := h.keep fun i hi _ => k.block i hi
theorem Sl.g {g : Nat} (h : Sl K w F v xs) (k : w.grownBy w' (some g)) (hg : F g) : Sl K w' F v xs := h.keep fun i hi hF => k.block i hi (by rintro ⟨⟩; exact hF hg)
theorem Sl.lenle (h : Sl K w F v xs) : xs.length ≤ 9223372036854775807 := by
  obtain ⟨A, c, e, h1, h2, h3⟩ := h
  simp only [maxLen] at h2; omega
end
def Kd.sl {α : Type} (K : Kd α) : Kd (List α) where
  sz := 1
  rep := fun w F us xs => ∃ v, us = [v] ∧ Sl K w F v xs
  len := by rintro _ _ _ _ ⟨v, rfl, _⟩; rfl
  keep := by rintro _ _ _ _ _ ⟨v, rfl, h⟩ hk; exact ⟨v, rfl, h.keep hk⟩
  weak := by rintro _ _ _ _ _ ⟨v, rfl, h⟩ hk; exact ⟨v, rfl, h.weak hk⟩
def Kd.two {α β : Type} (K : Kd α) (L : Kd β) : Kd (α × β) where
  sz := K.sz + L.sz
  rep := fun w F us x => ∃ a b, us = a ++ b ∧ K.rep w F a x.1 ∧ L.rep w F b x.2
  len := by rintro _ _ _ _ ⟨a, b, rfl, h1, h2⟩; simp [K.len h1, L.len h2]
  keep := by rintro _ _ _ _ _ ⟨a, b, rfl, h1, h2⟩ hk; exact ⟨a, b, rfl, K.keep h1 hk, L.keep h2 hk⟩
  weak := by rintro _ _ _ _ _ ⟨a, b, rfl, h1, h2⟩ hk; exact ⟨a, b, rfl, K.weak h1 hk, L.weak h2 hk⟩
def Kd.by {α β : Type} (K : Kd α) (f : β → α) : Kd β where
  sz := K.sz
  rep := fun w F us x => K.rep w F us (f x)
  len := K.len
  keep := K.keep
  weak := K.weak
def ix {α : Type} [Inhabited α] (xs : List α) (i : Int) : α := xs.getD i.toNat default
section
variable {P : Program} {ops : Array Oper} {Q : Exit → Act → World → Prop} {Zao : List Oper} {n : Nat} {D : List Deferred} {ρ : Env} {w : World}
variable {d ty : Nat} {pos : String} {after : Array Edge} {gd : Option (Nat × Bool)} {C : Value → World → Prop}
variable {α : Type} [Inhabited α] {K : Kd α} {F : Nat → Prop} {v : Value} {xs : List α} {x y : Operand} {t e by_ : Nat} {z : Value}
omit [Inhabited α] in
theorem Zaq (hs : SlF P t e K.sz by_ z) (hx : opv ρ x = some v) (hl : Sl K w F v xs) (k : C (.int .i64 (xs.length : Int)) w) :
    OpW P ⟨some d, .call { callee := .builtin .len, args := #[x], argTypes := #[t] }, ty, pos, after, gd⟩ n D ρ w C := by
  obtain ⟨A, c, rfl, _⟩ := hl
  refine Za3 (fun ev he => ?_) k
  simp [execOp, resolve, invoke, builtin, he x _ hx, Builtin.len_, run_underlying hs.und, goInt]
theorem Zat {kd : IntKind} {i : Int} (hs : SlF P t e K.sz by_ z) (hx : opv ρ x = some v) (hy : opv ρ y = some (.int kd i)) (hl : Sl K w F v xs) (h0 : 0 ≤ i) (h1 : i < xs.length)
    (k : ∀ b o us, K.rep w F us (ix xs i) → w.rangeAt b o us → ¬ F b → b < w.heap.size → C (.pointer (some ⟨b, o, none⟩)) w) :
    OpW P ⟨some d, .indexAddr t x y, ty, pos, after, gd⟩ n D ρ w C := by
  obtain ⟨A, c, rfl, h2, h3, h4⟩ := hl
  have hi : i.toNat < xs.length := by omega
  obtain ⟨g, o, us, rfl, hg, hF, hr, hc⟩ := h4 i.toNat xs[i.toNat] (by simp [hi])
  have he' : ix xs i = xs[i.toNat] := by simp [ix, hi]
  obtain ⟨inf, hinf, _, hsz, _⟩ := hs.inf
  refine Za3 (fun ev he => ?_) (k g (o + i.toNat * K.sz) us (by rw [he']; exact hr) hc hF hg)
  simp [execOp, Instr.indexAt, asIntOf, run_underlying hs.und, he x _ hx, he y _ hy, h0, h1, sizeOf, typeInfo, hinf, hsz, Addr.add_mid]
end
end Go.Gw
namespace Go.Gw
open Go.RowKit
abbrev Zcf := List (Option Nat × (Value → World → Prop))
abbrev Is (t : Value) : Value → World → Prop := fun v _ => v = t
theorem kv {t : Value} {R : World → World → Prop} : ∀ v w w', Is t v w → R w w' → Is t v w' := fun _ _ _ h _ => h
def Zd3 (sp : Zcf) : List Nat → Env → World → (Env → Prop) → Prop
  | [], ρ, _, K => K ρ
  | j :: r, ρ, w, K => match sp[j]? with
    | some (some d, φ) => ∀ v, φ v w → Zd3 sp r ((d, v) :: ρ) w K
    | _ => Zd3 sp r ρ w K
def AllV : Zcf → Env → World → (Env → Prop) → Prop
  | [], ρ, _, K => K ρ
  | (some d, φ) :: r, ρ, w, K => ∀ v, φ v w → AllV r ((d, v) :: ρ) w K
  | (none, _) :: r, ρ, w, K => AllV r ρ w K
def Op1 (P : Program) (ops : Array Oper) (o : Oper) (n : Nat) (D : List Deferred) (ρ : Env) (w : World) (C : Value → World → Prop) : Prop :=
  ∀ a, Fr n D ρ a → if Region.wanted o (yielded ops a.tmps) = true then ∀ Q, o.wp P a w (fun a' w' => ∃ v, a' = a.put o.dst v ∧ C v w') Q else C undef w
section
variable {P : Program} {ops : Array Oper} {o : Oper} {n : Nat} {D : List Deferred} {ρ : Env} {w : World} {C : Value → World → Prop}
theorem op1 {op : Op} {dst : Option Nat} {ty : Nat} {pos : String} {after : Array Edge} (h : OpW P ⟨dst, op, ty, pos, after, none⟩ n D ρ w C) : Op1 P ops ⟨dst, op, ty, pos, after, none⟩ n D ρ w C := by
  intro a ha
  rw [if_pos (by simp [Region.wanted])]
  exact h a ha
theorem Zas {op : Op} {dst : Option Nat} {ty : Nat} {pos : String} {after : Array Edge} {j t : Nat} {b : Bool} (h : OpW P ⟨dst, op, ty, pos, after, some (j, b)⟩ n D ρ w C) (hj : (ops[j]?).bind (·.dst) = some t := by rfl) (hb : look ρ t = some (.bool b) := by rfl) : Op1 P ops ⟨dst, op, ty, pos, after, some (j, b)⟩ n D ρ w C := by
  intro a ha
  rw [if_pos (by simp [Region.wanted, yielded, hj, ha.slot _ _ hb])]
  exact h a ha
theorem Za0 {op : Op} {dst : Option Nat} {ty : Nat} {pos : String} {after : Array Edge} {j t : Nat} {b c : Bool} (h : C undef w) (hj : (ops[j]?).bind (·.dst) = some t := by rfl) (hb : look ρ t = some (.bool b) := by rfl) (hbc : Bool.xor b c = true := by rfl) : Op1 P ops ⟨dst, op, ty, pos, after, some (j, c)⟩ n D ρ w C := by
  intro a ha
  have hw : Region.wanted ⟨dst, op, ty, pos, after, some (j, c)⟩ (yielded ops a.tmps) = false := by
    simp [Region.wanted, yielded, hj, ha.slot _ _ hb]
    cases b <;> cases c <;> simp at hbc ⊢
  rw [if_neg (by rw [hw]; simp)]
  exact h
end
def Zhs (R : World → World → Prop) : Zcf → Prop
  | [] => True
  | (_, φ) :: r => (∀ v w w', φ v w → R w w' → φ v w') ∧ Zhs R r
def Zka (P : Program) (ops : Array Oper) (n : Nat) (D : List Deferred) (ρ0 : Env) (w0 : World) (R : World → World → Prop) (sp : Zcf) : List Oper → List (List Nat) → Zcf → Prop
  | o :: os, d :: ds, (_, φ) :: r => (∀ w, R w0 w → Zd3 sp d ρ0 w (fun ρ => Op1 P ops o n D ρ w (fun v w' => φ v w' ∧ R w w'))) ∧ Zka P ops n D ρ0 w0 R sp os ds r
  | _, _, [] => True
  | _, _, _ => False
def Zb4 (o : Oper) (j : Nat) : Bool := o.after.any fun e => Region.binds .any e && e.on == j
def Zl3 (l : List Oper) (m n : Nat) (keys : List Nat) (sd : List (Option Nat)) (ds : List (List Nat)) : Bool :=
  decide (m ≤ l.length) && decide (sd.length = m) && decide (ds.length = m) &&
  (List.range l.length).all (fun i => match l[i]? with
    | some o => o.after.all (fun e => !Region.binds .any e || decide (e.on < i)) &&
      (if i < m then (ds.getD i []).all (fun j => decide (j < m) && Zb4 o j) && (decide (sd.getD i none = o.dst)) && (match o.dst with | some d => decide (d < n) && !keys.contains d | none => true)
       else (List.range i).all (fun j => Zb4 o j))
    | none => false) &&
  (List.range m).all (fun i => (List.range m).all fun j => i == j || (match sd.getD i none, sd.getD j none with | some d, some e => d != e | _, _ => true))
def Ze0 : Env → List Nat
  | [] => []
  | (t, _) :: r => t :: Ze0 r
theorem Zcp {ρ : Env} {t : Nat} {v : Value} (h : look ρ t = some v) : t ∈ Ze0 ρ := by
  induction ρ with
  | nil => simp [look] at h
  | cons p r ih =>
    obtain ⟨s, u⟩ := p
    rw [Zb1] at h
    unfold Ze0
    split at h
    · rename_i e; subst e; simp
    · exact List.mem_cons_of_mem _ (ih h)
section
variable {P : Program} {l : List Oper} {Q : Exit → Act → World → Prop} {n m : Nat} {D : List Deferred} {ρ0 : Env} {w0 : World} {R : World → World → Prop} {sp : Zcf} {ds : List (List Nat)}
theorem Zka.at_ {ops : Array Oper} : ∀ {l' : List Oper} {ds' : List (List Nat)} {sp' : Zcf}, Zka P ops n D ρ0 w0 R sp l' ds' sp' → ∀ {i : Nat} {dst : Option Nat} {φ : Value → World → Prop} {o : Oper}, sp'[i]? = some (dst, φ) → l'[i]? = some o →
    ∀ w, R w0 w → Zd3 sp (ds'.getD i []) ρ0 w (fun ρ => Op1 P ops o n D ρ w (fun v w' => φ v w' ∧ R w w')) := by
  intro l' ds' sp' h
  induction sp' generalizing l' ds' with
  | nil => intro i dst φ o hs; simp at hs
  | cons p r ih =>
    intro i dst φ o hs hl
    obtain ⟨pd, pφ⟩ := p
    match l', ds', h with
    | o' :: os, d :: dd, h =>
      obtain ⟨h1, h2⟩ := h
      cases i with
      | zero => simp at hs hl; obtain ⟨rfl, rfl⟩ := hs; subst hl; exact h1
      | succ i => simp at hs hl; simpa using ih h2 hs hl
theorem Zhs.at_ : ∀ {sp : Zcf}, Zhs R sp → ∀ {i : Nat} {dst : Option Nat} {φ : Value → World → Prop}, sp[i]? = some (dst, φ) → ∀ v w w', φ v w → R w w' → φ v w' := by
  intro sp h
  induction sp with
  | nil => intro i dst φ hs; simp at hs
  | cons p r ih =>
    intro i dst φ hs
    cases i with
    | zero => simp at hs; subst hs; exact h.1
    | succ i => simp at hs; exact ih h.2 hs
structure Mid (n : Nat) (D : List Deferred) (ρ0 : Env) (w0 : World) (R : World → World → Prop) (sp : Zcf) (m N : Nat) (listed : Array Bool) (vals : Nat → Value) (a : Act) (w : World) : Prop where
  fr : Fr n D ρ0 a
  wr : R w0 w
  size : listed.size = N
  tail : ∀ i, m ≤ i → listed.getD i false = false
  got : ∀ i dst φ, sp[i]? = some (dst, φ) → listed.getD i false = true → φ (vals i) w ∧ ∀ d, dst = some d → a.tmps[d]? = some (vals i)
theorem Zja {listed : Array Bool} {vals : Nat → Value} {a : Act} {w : World} {N : Nat} (hM : Mid n D ρ0 w0 R sp m N listed vals a w) : ∀ (d : List Nat) (ρ : Env) (K : Env → Prop), Fr n D ρ a → (∀ j ∈ d, listed.getD j false = true) →
    Zd3 sp d ρ w K → ∃ ρ', Fr n D ρ' a ∧ K ρ'
  | [], ρ, K, hF, _, h => ⟨ρ, hF, h⟩
  | j :: r, ρ, K, hF, hl, h => by
    unfold Zd3 at h
    split at h
    · rename_i d φ hs
      obtain ⟨h1, h2⟩ := hM.got j _ _ hs (hl j (by simp))
      refine Zja hM r _ K ⟨hF.defers, hF.size, fun t v hlk => ?_⟩ (fun i hi => hl i (by simp [hi])) (h _ h1)
      rw [Zb1] at hlk
      split at hlk
      · rename_i e; subst e; cases hlk; exact h2 _ rfl
      · exact hF.slot _ _ hlk
    · exact Zja hM r _ K hF (fun i hi => hl i (by simp [hi])) h
theorem Zgk {w : World} (vals : Nat → Value) {a : Act} : ∀ (r : Zcf) (k : Nat) (ρ : Env) (K : Env → Prop), Fr n D ρ a → (∀ i dst φ, r[i]? = some (dst, φ) → φ (vals (k + i)) w ∧ ∀ d, dst = some d → a.tmps[d]? = some (vals (k + i))) →
    AllV r ρ w K → ∃ ρ', Fr n D ρ' a ∧ K ρ'
  | [], k, ρ, K, hF, _, h => ⟨ρ, hF, h⟩
  | (some d, φ) :: r, k, ρ, K, hF, hg, h => by
    obtain ⟨h1, h2⟩ := hg 0 _ _ rfl
    refine Zgk vals r (k + 1) _ K ⟨hF.defers, hF.size, fun t v hlk => ?_⟩ (fun i dst φ hs => by have := hg (i + 1) dst φ (by simpa using hs); rwa [show k + 1 + i = k + (i + 1) by omega]) (h _ h1)
    rw [Zb1] at hlk
    split at hlk
    · rename_i e; subst e; cases hlk; exact h2 _ rfl
    · exact hF.slot _ _ hlk
  | (none, φ) :: r, k, ρ, K, hF, hg, h => Zgk vals r (k + 1) _ K hF (fun i dst φ hs => by have := hg (i + 1) dst φ (by simpa using hs); rwa [show k + 1 + i = k + (i + 1) by omega]) h
theorem Zam {o : Oper} {j : Nat} {listed : Array Bool} (h : Zb4 o j = true) (hl : (o.after.all fun e => !Region.binds .any e || listed.getD e.on false) = true) : listed.getD j false = true := by
  unfold Zb4 at h
  rw [Array.any_eq_true] at h
  obtain ⟨k, hk, he⟩ := h
  simp only [Bool.and_eq_true, beq_iff_eq] at he
  have := (Array.all_eq_true.1 hl) k hk
  simp only [he.1, Bool.not_true, Bool.false_or] at this
  rwa [he.2] at this
theorem Zbm {ops : Array Oper} {listed : Array Bool} {i : Nat} (hs : listed.size = ops.size) : i ∈ Region.ready .any ops listed ↔ ∃ o, ops[i]? = some o ∧ listed.getD i false = false ∧ (o.after.all fun e => !Region.binds .any e || listed.getD e.on false) = true := by
  unfold Region.ready
  rw [List.mem_filter, List.mem_range]
  constructor
  · rintro ⟨hi, h⟩
    simp only [Bool.and_eq_true, Bool.not_eq_true'] at h
    have hi' : i < listed.size := by omega
    refine ⟨ops[i], by simp [hi], ?_, ?_⟩
    · have := h.1; simp [Array.getD, hi'] at this ⊢; exact this
    · simpa [hi] using h.2
  · rintro ⟨o, ho, h1, h2⟩
    have hi : i < ops.size := (Array.getElem?_eq_some_iff.1 ho).1
    have hi' : i < listed.size := by omega
    refine ⟨hi, ?_⟩
    simp only [Bool.and_eq_true, Bool.not_eq_true']
    refine ⟨?_, by simpa [ho] using h2⟩
    simp [Array.getD, hi'] at h1 ⊢; exact h1
def cnt : Nat → Array Bool → Nat
  | 0, _ => 0
  | k + 1, L => cnt k L + (if L.getD k false = true then 0 else 1)
theorem Zar (L : Array Bool) (i j : Nat) (hi : i < L.size) : (L.setIfInBounds i true).getD j false = if i = j then true else L.getD j false := by
  simp only [Array.getD_eq_getD_getElem?, Array.getElem?_setIfInBounds]
  split
  · rename_i e; subst e; simp [hi]
  · rfl
theorem cnt_ge (L : Array Bool) (i : Nat) (hi : i < L.size) : ∀ k, k ≤ i → cnt k (L.setIfInBounds i true) = cnt k L
  | 0, _ => rfl
  | k + 1, h => by
    unfold cnt
    rw [cnt_ge L i hi k om, Zar L i k hi, if_neg (show ¬ i = k by omega)]
theorem Zgd (L : Array Bool) (i : Nat) (hi : i < L.size) (hf : L.getD i false = false) : ∀ k, i < k → cnt k (L.setIfInBounds i true) + 1 = cnt k L
  | 0, h => by omega
  | k + 1, h => by
    unfold cnt
    rw [Zar L i k hi]
    by_cases e : i = k
    · subst e
      rw [cnt_ge L i hi i (Nat.le_refl _), hf]; simp
    · rw [if_neg e]
      have := Zgd L i hi hf k om
      omega
theorem Zfc (L : Array Bool) : ∀ k, cnt k L = 0 → ∀ i, i < k → L.getD i false = true
  | 0, _, i, h => by omega
  | k + 1, h, i, hi => by
    unfold cnt at h
    by_cases e : i = k
    · subst e; by_cases hb : L.getD i false = true
      · exact hb
      · rw [if_neg hb] at h; omega
    · exact Zfc L k om i om
structure DrawFacts (l : List Oper) (m n : Nat) (keys : List Nat) (sp : Zcf) (ds : List (List Nat)) : Prop where
  le : m ≤ l.length
  spl : sp.length = m
  before : ∀ (i : Nat) (o : Oper), l[i]? = some o → ∀ e, e ∈ o.after → Region.binds .any e = true → e.on < i
  deps : ∀ (i : Nat) (o : Oper), i < m → l[i]? = some o → ∀ j, j ∈ ds.getD i [] → j < m ∧ Zb4 o j = true
  dst : ∀ (i : Nat) (o : Oper) (dst : Option Nat) (φ : Value → World → Prop), l[i]? = some o → sp[i]? = some (dst, φ) → o.dst = dst
  ok : ∀ (i : Nat) (o : Oper) (d : Nat), i < m → l[i]? = some o → o.dst = some d → d < n ∧ d ∉ keys
  tail : ∀ (i : Nat) (o : Oper), m ≤ i → l[i]? = some o → ∀ j, j < i → Zb4 o j = true
  apart : ∀ (i j : Nat) (o o' : Oper) (d : Nat), i < m → j < m → i ≠ j → l[i]? = some o → l[j]? = some o' → o.dst = some d → o'.dst ≠ some d
theorem Zjn {keys : List Nat} (h : Zl3 l m n keys (sp.map (·.1)) ds = true) : DrawFacts l m n keys sp ds := by
  unfold Zl3 at h
  simp only [Bool.and_eq_true, decide_eq_true_eq, List.all_eq_true, List.mem_range, List.length_map] at h
  obtain ⟨⟨⟨⟨h1, h2⟩, h3⟩, h4⟩, h5⟩ := h
  have hat : ∀ i o, l[i]? = some o → i < l.length := fun i o ho => (List.getElem?_eq_some_iff.1 ho).1
  have hsd : ∀ i, (List.map (·.1) sp).getD i none = ((sp[i]?).map (·.1)).getD none := fun i => by simp [List.getD_eq_getElem?_getD]
  refine ⟨h1, h2, ?_, ?_, ?_, ?_, ?_, ?_⟩
  · intro i o ho e he hb
    have := h4 i (hat i o ho)
    rw [ho] at this
    simp only [Bool.and_eq_true] at this
    obtain ⟨k, hk, rfl⟩ := Array.getElem_of_mem he
    have := (Array.all_eq_true.1 this.1) k hk
    simpa [hb] using this
  · intro i o hi ho j hj
    have := h4 i (hat i o ho)
    rw [ho] at this
    simp only [Bool.and_eq_true, if_pos hi, List.all_eq_true, decide_eq_true_eq] at this
    exact this.2.1.1 j hj
  · intro i o dst φ ho hs
    have hi : i < m := by rw [← h2]; exact (List.getElem?_eq_some_iff.1 hs).1
    have := h4 i (hat i o ho)
    rw [ho] at this
    simp only [Bool.and_eq_true, if_pos hi, List.all_eq_true, decide_eq_true_eq] at this
    have h6 := this.2.1.2
    rw [hsd, hs] at h6
    simpa using h6.symm
  · intro i o d hi ho hd
    have := h4 i (hat i o ho)
    rw [ho] at this
    simp only [Bool.and_eq_true, if_pos hi, List.all_eq_true, decide_eq_true_eq] at this
    have h6 := this.2.2
    rw [hd] at h6
    simpa using h6
  · intro i o hi ho j hj
    have := h4 i (hat i o ho)
    rw [ho] at this
    simp only [Bool.and_eq_true, if_neg (show ¬ i < m by omega), List.all_eq_true, List.mem_range] at this
    exact this.2 j hj
  · intro i j o o' d hi hj hne ho ho' hd hd'
    have h6 := h5 i hi j hj
    have a1 : (List.map (·.1) sp).getD i none = some d := by
      have := h4 i (hat i o ho)
      rw [ho] at this
      simp only [Bool.and_eq_true, if_pos hi, decide_eq_true_eq] at this
      rw [this.2.1.2, hd]
    have a2 : (List.map (·.1) sp).getD j none = some d := by
      have := h4 j (hat j o' ho')
      rw [ho'] at this
      simp only [Bool.and_eq_true, if_pos hj, decide_eq_true_eq] at this
      rw [this.2.1.2, hd']
    rw [a1, a2] at h6
    simp [hne] at h6
theorem Zk0 {keys : List Nat} (hF : DrawFacts l m n keys sp ds) : ∀ (fuel k : Nat) (listed : Array Bool) (a : Act) (w : World), m ≤ k → k ≤ l.length → l.length - k ≤ fuel → listed.size = l.length →
    (∀ i, i < k → listed.getD i false = true) → (∀ i, k ≤ i → listed.getD i false = false) → wpList P l.toArray Q (l.drop k) a w → wpAny P .any l.toArray Q fuel listed a w := by
  intro fuel
  induction fuel with
  | zero =>
    intro k listed a w hm hk hf hs h1 h2 h
    have hk' : k = l.length := by omega
    subst hk'
    rw [List.drop_length] at h
    refine ⟨?_, h⟩
    rw [List.eq_nil_iff_forall_not_mem]
    intro i hi
    obtain ⟨o, ho, hf', _⟩ := (Zbm (by simpa using hs)).1 hi
    have : i < l.length := by simpa using (Array.getElem?_eq_some_iff.1 ho).1
    rw [h1 i this] at hf'; cases hf'
  | succ fuel ih =>
    intro k listed a w hm hk hf hs h1 h2 h
    rcases Nat.lt_or_ge k l.length with hlt | hge
    · have hget : l[k]? = some l[k] := List.getElem?_eq_getElem hlt
      have hr : k ∈ Region.ready .any l.toArray listed := by
        refine (Zbm (by simpa using hs)).2 ⟨l[k], by simp, h2 k (Nat.le_refl _), ?_⟩
        rw [Array.all_eq_true]
        intro j hj
        by_cases hb : Region.binds .any l[k].after[j] = true
        · rw [h1 _ (hF.before k _ hget _ (Array.getElem_mem hj) hb)]; simp
        · simp [hb]
      refine ⟨fun h0 => by rw [h0] at hr; simp at hr, fun i hi => ?_⟩
      obtain ⟨o, ho, hfi, hall⟩ := (Zbm (by simpa using hs)).1 hi
      have ho' : l[i]? = some o := by simpa using ho
      have hik : i = k := by
        rcases Nat.lt_trichotomy i k with h3 | h3 | h3
        · rw [h1 i h3] at hfi; cases hfi
        · exact h3
        · have := Zam (hF.tail i o om ho' k h3) hall
          rw [h2 k (Nat.le_refl _)] at this; cases this
      subst hik
      have hsz : i < listed.size := by omega
      have hnext : ∀ a w, wpList P l.toArray Q (l.drop (i + 1)) a w → wpAny P .any l.toArray Q fuel (listed.setIfInBounds i true) a w := fun a w hh =>
        ih (i + 1) _ a w om om om (by simpa using hs) (fun j hj => by
          rw [Zar _ _ _ hsz]
          by_cases e : i = j
          · rw [if_pos e]
          · rw [if_neg e]; exact h1 j om)
          (fun j hj => by rw [Zar _ _ _ hsz, if_neg om]; exact h2 j om) hh
      rw [List.drop_eq_getElem_cons hlt] at h
      unfold wpList at h
      unfold wpOp
      rw [ho]
      have hoe : o = l[i] := by rw [hget] at ho'; injection ho' with e; exact e.symm
      subst hoe
      dsimp only
      split
      · rename_i hw
        rw [if_pos hw] at h
        rcases h with h | h
        · exact .inl (Oper.wp_mono hnext h)
        · exact .inr h
      · rename_i hw
        rw [if_neg hw] at h
        exact hnext _ _ h
    · have hk' : k = l.length := by omega
      subst hk'
      rw [List.drop_length] at h
      refine ⟨fun _ => h, fun i hi => ?_⟩
      obtain ⟨o, ho, hf', _⟩ := (Zbm (by simpa using hs)).1 hi
      have : i < l.length := by simpa using (Array.getElem?_eq_some_iff.1 ho).1
      rw [h1 i this] at hf'; cases hf'
theorem mid_any {keys : List Nat} (hF : DrawFacts l m n keys sp ds) (hkeys : ∀ t v, look ρ0 t = some v → t ∈ keys) (hRt : ∀ a b c, R a b → R b c → R a c) (hst : Zhs R sp) (hobs : Zka P l.toArray n D ρ0 w0 R sp l ds sp)
    (hend : ∀ w, R w0 w → AllV sp ρ0 w (fun ρ => Reg P l.toArray Q (l.drop m) n D ρ w)) :
    ∀ (fuel : Nat) (listed : Array Bool) (vals : Nat → Value) (a : Act) (w : World), Mid n D ρ0 w0 R sp m l.length listed vals a w → cnt l.length listed ≤ fuel → wpAny P .any l.toArray Q fuel listed a w := by
  have hfin : ∀ (fuel : Nat) (listed : Array Bool) (vals : Nat → Value) (a : Act) (w : World), Mid n D ρ0 w0 R sp m l.length listed vals a w → (∀ i, i < m → listed.getD i false = true) → l.length - m ≤ fuel → wpAny P .any l.toArray Q fuel listed a w := by
    intro fuel listed vals a w hM hall hf
    obtain ⟨ρ', hFr, hReg⟩ := Zgk (w := w) vals sp 0 ρ0 _ hM.fr (fun i dst φ hs => by
      have hi : i < m := by rw [← hF.spl]; exact (List.getElem?_eq_some_iff.1 hs).1
      rw [Nat.zero_add]; exact hM.got i dst φ hs (hall i hi)) (hend w hM.wr)
    exact Zk0 hF fuel m listed a w (Nat.le_refl _) hF.le hf hM.size hall hM.tail (hReg a hFr)
  have hcnt : ∀ listed : Array Bool, (∀ i, m ≤ i → listed.getD i false = false) → ∀ k, m ≤ k → k - m ≤ cnt k listed := by
    intro listed ht k
    induction k with
    | zero => intro _; omega
    | succ k ih =>
      intro hk
      unfold cnt
      rcases Nat.lt_or_ge k m with h | h
      · omega
      · rw [ht k h]; have := ih h; simp; omega
  intro fuel
  induction fuel with
  | zero =>
    intro listed vals a w hM hc
    have h0 : cnt l.length listed = 0 := by omega
    have hall := Zfc listed _ h0
    refine hfin 0 listed vals a w hM (fun i hi => hall i (by have := hF.le; omega)) ?_
    have := hcnt listed hM.tail l.length hF.le
    omega
  | succ fuel ih =>
    intro listed vals a w hM hc
    by_cases hall : ∀ i, i < m → listed.getD i false = true
    · refine hfin _ listed vals a w hM hall ?_
      have := hcnt listed hM.tail l.length hF.le
      omega
    · 
      refine ⟨fun h0 => absurd ?_ hall, fun i hi => ?_⟩
      · 
        intro i hi
        induction i using Nat.strongRecOn with
        | _ i ihh =>
          by_cases hb : listed.getD i false = true
          · exact hb
          · exfalso
            have hil : i < l.length := by have := hF.le; omega
            have hr : i ∈ Region.ready .any l.toArray listed := by
              refine (Zbm (by simpa using hM.size)).2 ⟨l[i], by simp [hil], by simpa using hb, ?_⟩
              rw [Array.all_eq_true]
              intro j hj
              by_cases hbd : Region.binds .any l[i].after[j] = true
              · have := hF.before i _ (List.getElem?_eq_getElem hil) _ (Array.getElem_mem hj) hbd
                rw [ihh _ this om]; simp
              · simp [hbd]
            rw [h0] at hr; simp at hr
      · obtain ⟨o, ho, hfi, hal⟩ := (Zbm (by simpa using hM.size)).1 hi
        have ho' : l[i]? = some o := by simpa using ho
        have hil : i < l.length := (List.getElem?_eq_some_iff.1 ho').1
        have him : i < m := by
          rcases Nat.lt_or_ge i m with h | h
          · exact h
          · exact absurd (fun j hj => Zam (hF.tail i o h ho' j om) hal) hall
        have hsp : ∃ dst φ, sp[i]? = some (dst, φ) := by
          have : i < sp.length := by rw [hF.spl]; exact him
          exact ⟨_, _, List.getElem?_eq_getElem this⟩
        obtain ⟨dst, φ, hs⟩ := hsp
        have hdst := hF.dst i o dst φ ho' hs
        subst hdst
        have hsz : i < listed.size := by rw [hM.size]; exact hil
        obtain ⟨ρ', hFr, hOp⟩ := Zja hM (ds.getD i []) ρ0 _ hM.fr (fun j hj => Zam (hF.deps i o him ho' j hj).2 hal) (hobs.at_ hs ho' w hM.wr)
        have hnew : ∀ (v : Value) (w' : World), φ v w' → R w w' → Mid n D ρ0 w0 R sp m l.length (listed.setIfInBounds i true) (fun j => if j = i then v else vals j) (a.put o.dst v) w' := by
          intro v w' hv hR
          have hput : ∀ t, (∀ d, o.dst = some d → t ≠ d) → (a.put o.dst v).tmps[t]? = a.tmps[t]? := by
            intro t ht
            cases hd : o.dst with
            | none => rfl
            | some d => simp only [Act.put, Array.getElem?_setIfInBounds]; rw [if_neg (fun e => ht d hd e.symm)]
          have hputd : ∀ d, o.dst = some d → (a.put o.dst v).tmps[d]? = some v := by
            intro d hd
            have := (hF.ok i o d him ho' hd).1
            rw [hd]
            simp [Act.put, hM.fr.size, this]
          refine ⟨⟨?_, ?_, ?_⟩, hRt _ _ _ hM.wr hR, by simpa using hM.size, ?_, ?_⟩
          · rw [← hM.fr.defers]; cases o.dst <;> rfl
          · rw [← hM.fr.size]; cases o.dst <;> simp [Act.put]
          · intro t u hl
            rw [hput t (fun d hd e => (hF.ok i o d him ho' hd).2 (by rw [← e]; exact hkeys t u hl))]
            exact hM.fr.slot t u hl
          · intro j hj
            rw [Zar _ _ _ hsz, if_neg om]; exact hM.tail j hj
          · intro j dst φ' hs' hl
            rw [Zar _ _ _ hsz] at hl
            by_cases e : j = i
            · subst e
              rw [hs] at hs'
              injection hs' with hs'
              injection hs' with e1 e2
              subst e1; subst e2
              rw [if_pos rfl]
              exact ⟨hv, hputd⟩
            · rw [if_neg (fun e' => e e'.symm)] at hl
              rw [if_neg e]
              obtain ⟨g1, g2⟩ := hM.got j dst φ' hs' hl
              refine ⟨hst.at_ hs' _ _ _ g1 hR, fun d hd => ?_⟩
              have hj : j < m := by rw [← hF.spl]; exact (List.getElem?_eq_some_iff.1 hs').1
              have hjl : j < l.length := by have := hF.le; omega
              have hoj := List.getElem?_eq_getElem hjl
              have hdj := hF.dst j _ dst φ' hoj hs'
              rw [hput d (fun d' hd' e' => by subst e'; exact hF.apart j i _ o d hj him e hoj ho' (by rw [hdj, hd]) hd')]
              exact g2 d hd
        have hcnt' := Zgd listed i hsz hfi l.length hil
        unfold wpOp
        rw [ho]
        dsimp only
        have h1 := hOp a hFr
        split
        · rename_i hw
          rw [if_pos hw] at h1
          refine .inl (Oper.wp_mono ?_ (h1 Q))
          rintro a' w' ⟨v, rfl, hv, hR⟩
          exact ih _ _ _ _ (hnew v w' hv hR) om
        · rename_i hw
          rw [if_neg hw] at h1
          exact ih _ _ _ _ (hnew undef w h1.1 h1.2) om
theorem Zce {id : Nat} {w : World} {ρ : Env} (m : Nat) (R : World → World → Prop) (sp : Zcf) (ds : List (List Nat)) (ρ0 : Env) (hsub : Sub ρ0 ρ) (hm : P.follows .mixedOrders = true)
    (hchk : Zl3 l m n (Ze0 ρ0) (sp.map (·.1)) ds = true) (hR : ∀ a, R a a) (hRt : ∀ a b c, R a b → R b c → R a c) (hst : Zhs R sp)
    (h : ∀ w0, w.grownBy w0 none → w0.heap.size = w.heap.size → Zka P l.toArray n D ρ0 w0 R sp l ds sp ∧ (∀ w', R w0 w' → AllV sp ρ0 w' (fun ρ => Reg P l.toArray Q (l.drop m) n D ρ w'))) :
    W P (.region id l.toArray true) Q n D ρ w := by
  intro a ha
  have hF := Zjn hchk
  obtain ⟨h1, h2⟩ := h w.drew (Zef w) rfl
  refine wp_region_any hm ?_
  have := mid_any hF (fun t v hl => Zcp hl) hRt hst h1 h2 l.length (Array.replicate l.length false) (fun _ => undef) a w.drew ⟨ha.sub hsub, hR _, by simp, fun i _ => by simp [Array.getD_eq_getD_getElem?, Array.getElem?_replicate]; split <;> rfl, fun i dst φ hs hl => by
    simp [Array.getD_eq_getD_getElem?, Array.getElem?_replicate] at hl
    split at hl <;> simp at hl⟩ (by
      have : ∀ k L, cnt k L ≤ k := by
        intro k L; induction k with
        | zero => exact Nat.le_refl _
        | succ k ih => unfold cnt; split <;> omega
      exact this _ _)
  simpa using this
end
end Go.Gw
namespace Go.Gw
theorem sb {a b : Env} (h : Sub a b := by repeat first | exact trivial | refine ⟨rfl, ?_⟩) : Sub a b := h
abbrev xi (d : Nat) (v : Value) : Option Nat × (Value → World → Prop) := (some d, Is v)
abbrev xu (d : Nat) : Option Nat × (Value → World → Prop) := (some d, Is undef)
end Go.Gw
namespace Go.Gw
open Go.RowKit
abbrev Zbh (w : World) (R : Value → World → Prop) (e : Ending) (w' : World) : Prop := ∃ v, e = .returned v ∧ Below w.heap.size w w' ∧ R v w'
def Loc (F : Nat → Prop) (w : World) (k : Nat) : Prop := F k ∨ w.heap.size ≤ k
theorem Loc.lt {F : Nat → Prop} {w : World} {b : Nat} (h : ¬ Loc F w b) : b < w.heap.size := by
  unfold Loc at h; omega
theorem Loc.no {F : Nat → Prop} {w : World} {b : Nat} (h : ¬ Loc F w b) : ¬ F b := fun hf => h (.inl hf)
section
variable {α : Type} {K : Kd α} {w w' : World} {F F' : Nat → Prop} {v : Value} {xs : List α}
theorem Sl.loc (h : Sl K w F v xs) : Sl K w (Loc F w) v xs := h.weak fun k hk hF => by unfold Loc at hF; rcases hF with h | h; exact h; omega
theorem Sl.at0 (h : Sl K w F v xs) (hb : Below w.heap.size w w') : Sl K w' (Loc F w) v xs := h.loc.below hb
theorem Sl.one (h : Sl K w F v xs) : v.oneCell' = true := by obtain ⟨A, c, rfl, _⟩ := h; rfl
end
theorem Blk.gne {w w' : World} {g g' t : Nat} {cs : Array Value} (h : Blk w g t cs) (hb : w.grownBy w' (some g')) (hg : g ≠ g') : Blk w' g t cs := h.grown hb (by simpa using hg)
def Zae (a b c d : Int) (i : Int) : Int := if i = 0 then a else if i = 1 then b else if i = 2 then c else d
theorem Zl4 {a b c : World} (h : a.grownBy b none) (k : b.grownBy c none) : a.grownBy c none :=
  ⟨k.os.trans h.os, k.tape.trans h.tape, k.output.trans h.output, Nat.le_trans h.size k.size, fun i hi hn => (k.block i (Nat.lt_of_lt_of_le hi h.size) hn).trans (h.block i hi hn)⟩
theorem Za (a : World) : a.grownBy a none := ⟨rfl, rfl, rfl, Nat.le_refl _, fun _ _ _ => rfl⟩
def IdxAt (v : Value) (i : Int) (sz b o : Nat) : Prop := ∃ o0 n c, v = .slice (some ⟨b, o0, none⟩) n c ∧ 0 ≤ i ∧ i < (n : Int) ∧ o = o0 + i.toNat * sz
theorem Sl.elem {α : Type} [Inhabited α] {K : Kd α} {w : World} {F : Nat → Prop} {v : Value} {xs : List α} (h : Sl K w F v xs) (i : Int) (h0 : 0 ≤ i) (h1 : i < xs.length) :
    ∃ b o us, IdxAt v i K.sz b o ∧ K.rep w F us (ix xs i) ∧ w.rangeAt b o us ∧ ¬ F b ∧ b < w.heap.size := by
  obtain ⟨A, c, rfl, h2, h3, h4⟩ := h
  have hi : i.toNat < xs.length := by omega
  obtain ⟨g, o, us, rfl, hg, hF, hr, hc⟩ := h4 i.toNat xs[i.toNat] (by simp [hi])
  have he' : ix xs i = xs[i.toNat] := by simp [ix, hi]
  exact ⟨g, _, us, ⟨o, _, c, rfl, h0, h1, rfl⟩, by rw [he']; exact hr, hc, hF, hg⟩
section
variable {P : Program} {ops : Array Oper} {Q : Exit → Act → World → Prop} {Zao : List Oper} {n : Nat} {D : List Deferred} {ρ : Env} {w : World}
variable {d ty : Nat} {pos : String} {after : Array Edge} {gd : Option (Nat × Bool)} {C : Value → World → Prop} {x y : Operand}
theorem Zb0 {c : Operand} {x y : Code} (hc : opv ρ c = some (.bool true)) (ht : W P x Q n D ρ w) : W P (.cond c x y) Q n D ρ w := Zba hc (fun _ => ht) nofun
theorem Zbv {c : Operand} {x y : Code} (hc : opv ρ c = some (.bool false)) (hf : W P y Q n D ρ w) : W P (.cond c x y) Q n D ρ w := Zba hc nofun (fun _ => hf)
theorem Zkj {t e : Nat} {kd k : IntKind} {a b c d' i : Int} (ht : ArrF P t 4 e 1) (he1 : OneF P e) (hx : opv ρ x = some (.agg [.int k a, .int k b, .int k c, .int k d'].toArray)) (hy : opv ρ y = some (.int kd i)) (h0 : 0 ≤ i) (h1 : i < 4)
    (h : C (.int k (Zae a b c d' i)) w) : OpW P ⟨some d, .index t x y, ty, pos, after, gd⟩ n D ρ w C := by
  obtain ⟨dd, hu, hr, hs⟩ := he1.out
  have hinf : ∃ j, P.info? e = some j ∧ j.size = 1 := by
    cases hq : P.info? e with
    | none => simp [hq] at hs
    | some j => exact ⟨j, rfl, by simpa [hq] using hs⟩
  obtain ⟨j, hj, hsz⟩ := hinf
  refine Za3 (fun ev he => ?_) h
  have hagg : (isAgg e).run P w = .ok false w := by
    unfold isAgg; rw [Sem.run_bind, run_underlying hu w]; cases dd <;> simp_all
  have hi : i = 0 ∨ i = 1 ∨ i = 2 ∨ i = 3 := by omega
  rcases hi with rfl | rfl | rfl | rfl <;>
    simp [execOp, Instr.index, asIntOf, he x _ hx, he y _ hy, run_underlying ht.und, sizeOf, typeInfo, hj, hsz, part, Sem.run_bind, hagg, Zae]
theorem Zad {i : Nat} {vs : Array Value} {v : Value} (hx : opv ρ x = some (.tuple vs)) (hv : vs[i]? = some v) (h : C v w) : OpW P ⟨some d, .extract x i, ty, pos, after, gd⟩ n D ρ w C := by
  refine Za3 (fun ev he => ?_) h
  simp [execOp, he x _ hx, Instr.extract, hv]
theorem Zbo {t e sz by_ b o : Nat} {z v : Value} {kd : IntKind} {i : Int} (hs : SlF P t e sz by_ z) (hx : opv ρ x = some v) (hy : opv ρ y = some (.int kd i)) (ha : IdxAt v i sz b o) (h : C (.pointer (some ⟨b, o, none⟩)) w) :
    OpW P ⟨some d, .indexAddr t x y, ty, pos, after, gd⟩ n D ρ w C := by
  obtain ⟨o0, m, c, rfl, h0, h1, rfl⟩ := ha
  obtain ⟨inf, hinf, _, hsz, _⟩ := hs.inf
  refine Za3 (fun ev he => ?_) h
  simp [execOp, Instr.indexAt, asIntOf, run_underlying hs.und, he x _ hx, he y _ hy, h0, h1, sizeOf, typeInfo, hinf, hsz, Addr.add_mid]
end
def Ret (R : Value → World → Prop) (e : Ending) (w : World) : Prop := ∃ v, e = .returned v ∧ R v w
end Go.Gw
namespace Go.Gw
open Go.RowKit
def Kd.Flat {α : Type} (K : Kd α) : Prop := ∀ (w w' : World) (F F' : Nat → Prop) (u : List Value) (x : α), K.rep w F u x → K.rep w' F' u x
theorem Kd.flat_flat {α : Type} (sz : Nat) (f : α → List Value) (ok : α → Prop) (h : ∀ x, (f x).length = sz) : (Kd.flat sz f ok h).Flat := fun _ _ _ _ _ _ h => h
def Out (F : Nat → Prop) (v : Value) (k : Nat) : Prop := F k ∨ v.ownBlock = some k
structure Own {α : Type} (K : Kd α) (e base : Nat) (w : World) (F : Nat → Prop) (v : Value) (xs : List α) : Prop where
  out : ∃ us : List (List Value), us.length = xs.length ∧ (∀ (i : Nat) (u : List Value) (x : α), us[i]? = some u → xs[i]? = some x → K.rep w (Out F v) u x) ∧ w.ownsRow base e K.sz v xs.length us.flatten
  no : ∀ g, v.ownBlock = some g → ¬ F g
theorem Zdr {sz : Nat} : ∀ (us : List (List Value)), (∀ u ∈ us, u.length = sz) → ∀ (i j : Nat) (u : List Value), us[i]? = some u → j < sz → us.flatten[i * sz + j]? = u[j]?
  | [], _, i, j, u, h, _ => by simp at h
  | u0 :: r, hl, i, j, u, h, hj => by
    have h0 : u0.length = sz := hl u0 (by simp)
    cases i with
    | zero => simp at h; subst h; simp; rw [List.getElem?_append_left om]
    | succ i =>
      simp at h
      rw [List.flatten_cons, List.getElem?_append_right (by rw [h0, Nat.add_mul]; omega), h0, show (i + 1) * sz + j - sz = i * sz + j by rw [Nat.add_mul]; omega]
      exact Zdr r (fun u hu => hl u (by simp [hu])) i j u h hj
theorem Zcs {sz : Nat} : ∀ (us : List (List Value)), (∀ u ∈ us, u.length = sz) → us.flatten.length = us.length * sz
  | [], _ => by simp
  | u :: r, h => by
    rw [List.flatten_cons, List.length_append, Zcs r (fun u hu => h u (by simp [hu])), h u (by simp), List.length_cons, Nat.add_mul]; omega
section
variable {α : Type} {K : Kd α} {e base : Nat} {w w' : World} {F F' : Nat → Prop} {v : Value} {xs : List α}
theorem Own.sl (h : Own K e base w F v xs) : Sl K w F v xs := by
  obtain ⟨us, hl, hr, ho⟩ := h.out
  rcases ho.2 with ⟨rfl, h0⟩ | ⟨g, cap, cur, rfl, hb, hg, hnc, hcm, hcs, htake⟩
  · have : xs = [] := List.eq_nil_of_length_eq_zero h0
    subst this
    exact ⟨none, 0, rfl, by simp, by simp [maxLen], fun i x hx => by simp at hx⟩
  · refine ⟨_, cap, rfl, hnc, hcm, fun i x hx => ?_⟩
    have hi : i < xs.length := (List.getElem?_eq_some_iff.1 hx).1
    have hu : us[i]? = some (us[i]'om) := List.getElem?_eq_getElem om
    have hrep := hr i _ x hu hx
    have hlt : g < w.heap.size := (Array.getElem?_eq_some_iff.1 hg).1
    refine ⟨g, 0, us[i]'om, rfl, hlt, h.no g rfl, K.weak hrep (fun k _ hk => .inl hk), ?_⟩
    intro j u hj
    have hjs : j < K.sz := by rw [← K.len hrep]; exact (List.getElem?_eq_some_iff.1 hj).1
    have hall : ∀ u ∈ us, u.length = K.sz := by
      intro u hu
      obtain ⟨k, hk, rfl⟩ := List.getElem_of_mem hu
      exact K.len (hr k _ (xs[k]'om) (List.getElem?_eq_getElem hk) (List.getElem?_eq_getElem om))
    have h1 := Zdr us hall i j _ hu hjs
    rw [hj] at h1
    have := ho.cells (g := g) rfl (i * K.sz + j) u h1
    rw [Addr.add_mid] at this
    rw [← this]; congr 2; omega
theorem Own.lt (h : Own K e base w F v xs) : ∀ k, v.ownBlock = some k → base ≤ k ∧ k < w.heap.size := by
  obtain ⟨us, _, _, ho⟩ := h.out
  exact ho.lt
theorem Own.kept {row : Option Nat} (h : Own K e base w F v xs) (hg : w.grownBy w' row) (hne : v.ownBlock = none ∨ v.ownBlock ≠ row) (hF : ∀ g, row = some g → F g) : Own K e base w' F v xs := by
  obtain ⟨us, hl, hr, ho⟩ := h.out
  refine ⟨⟨us, hl, fun i u x hu hx => K.keep (hr i u x hu hx) fun k hk hn => hg.block k hk fun e => hn (.inl (hF k e.symm)), ho.kept hg hne⟩, h.no⟩
theorem Own.keptF {row : Option Nat} (hK : K.Flat) (h : Own K e base w F v xs) (hg : w.grownBy w' row) (hne : v.ownBlock = none ∨ v.ownBlock ≠ row) : Own K e base w' F v xs := by
  obtain ⟨us, hl, hr, ho⟩ := h.out
  exact ⟨⟨us, hl, fun i u x hu hx => hK _ _ _ _ _ _ (hr i u x hu hx), ho.kept hg hne⟩, h.no⟩
theorem Own.g0 (h : Own K e base w F v xs) (hg : w.grownBy w' none) : Own K e base w' F v xs := h.kept hg (by cases v.ownBlock <;> simp) (by simp)
theorem Own.below (h : Own K e base w F v xs) (hb : Below w.heap.size w w') : Own K e base w' F v xs := h.g0 (Zi hb none)
theorem Own.nil (K : Kd α) (e base : Nat) (w : World) (F : Nat → Prop) : Own K e base w F (.slice none 0 0) [] :=
  ⟨⟨[], rfl, fun i u x hu => by simp at hu, ⟨by simp, .inl ⟨rfl, rfl⟩⟩⟩, by simp [Value.ownBlock]⟩
theorem Own.one (h : Own K e base w F v xs) : v.oneCell' = true := h.sl.one
theorem Own.ne_blk {t g : Nat} {cs : Array Value} (h : Own K e base w F v xs) (hb : Blk w g t cs) (hne : e ≠ t) : v.ownBlock = none ∨ v.ownBlock ≠ some g := by
  obtain ⟨us, hl, hr, ho⟩ := h.out
  rcases ho.2 with ⟨rfl, h0⟩ | ⟨g', cap, cur, rfl, _, hg, _⟩
  · exact .inl rfl
  · refine .inr fun he => ?_
    have : g' = g := by simpa [Value.ownBlock] using he
    subst this
    unfold Blk at hb
    rw [hg] at hb
    injection hb with hb
    injection hb with _ ht
    exact hne ht
theorem Own.ne_own {β : Type} {L : Kd β} {e' base' : Nat} {F' : Nat → Prop} {v' : Value} {ys : List β} (h : Own K e base w F v xs) (h' : Own L e' base' w F' v' ys) (hne : e ≠ e') : v.ownBlock = none ∨ v.ownBlock ≠ v'.ownBlock := by
  obtain ⟨us, hl, hr, ho⟩ := h'.out
  rcases ho.2 with ⟨rfl, h0⟩ | ⟨g', cap, cur, rfl, _, hg, _⟩
  · cases hv : v.ownBlock with
    | none => exact .inl rfl
    | some k => exact .inr (by simp [Value.ownBlock])
  · exact h.ne_blk (t := e') (cs := cur) hg hne
theorem Own.lenle (h : Own K e base w F v xs) : xs.length ≤ 9223372036854775807 := h.sl.lenle
end
section
variable {P : Program} {ops : Array Oper} {Q : Exit → Act → World → Prop} {Zao : List Oper} {n : Nat} {D : List Deferred} {ρ : Env} {w : World}
variable {d ty : Nat} {pos : String} {after : Array Edge} {gd : Option (Nat × Bool)} {C : Value → World → Prop} {x y : Operand}
theorem Zi5 {α : Type} {K : Kd α} {t e by_ base : Nat} {F : Nat → Prop} {z : Value} {z0 : α} {kl : IntKind} {i : Int} (hs : SlF P t e K.sz by_ z) (hx : opv ρ x = some (.int kl i)) (h0 : 0 ≤ i) (hm : (by_ : Int) * i ≤ 281474976710656) (h63 : i ≤ 9223372036854775807)
    (hz : ∀ w F, K.rep w F z.cells.toList z0) (hbase : base ≤ w.heap.size) (hF : ∀ k, F k → k < w.heap.size)
    (k : ∀ v w', Own K e base w' F v (List.replicate i.toNat z0) → w.grownBy w' none → C v w') : OpW P ⟨some d, .makeSlice t x x, ty, pos, after, gd⟩ n D ρ w C := by
  obtain ⟨inf, hinf, hzero, hsz, hby⟩ := hs.inf
  obtain ⟨m, rfl⟩ := Int.eq_ofNat_of_zero_le h0
  have hb' : inf.bytes * m ≤ 281474976710656 := by
    rw [hby]
    have : ((by_ * m : Nat) : Int) ≤ 281474976710656 := by rw [Int.natCast_mul]; exact hm
    omega
  obtain ⟨w', hrun, hown, hg⟩ := run_make_full (P := P) w base t e inf z K.sz hs.und hinf hzero hsz kl kl m hb' (by simp only [maxLen]; omega) hbase
  refine Za3 (v := .slice (some ⟨w.heap.size, 0, none⟩) m m) (w' := w') (fun ev he => ?_) (k _ w' ⟨⟨List.replicate m z.cells.toList, by simp, fun j u x hu hx => ?_, ?_⟩, ?_⟩ hg)
  · simp [execOp, he x _ hx, hrun]
  · have h1 := List.eq_of_mem_replicate (List.mem_of_getElem? hu)
    have h2 := List.eq_of_mem_replicate (List.mem_of_getElem? hx)
    rw [h1, h2]; exact hz _ _
  · have hfl : (madeCells z.cells (m * K.sz)).toList = (List.replicate m z.cells.toList).flatten := by
      have hzl : z.cells.toList.length = K.sz := by rw [Array.length_toList, hs.zsz]
      apply List.ext_getElem?
      intro j
      by_cases hj : j < m * K.sz
      · have hpos := hs.pos
        have hdiv : j / K.sz < m := Nat.div_lt_of_lt_mul (by rw [Nat.mul_comm]; exact hj)
        have hmod : j % K.sz < K.sz := Nat.mod_lt _ hpos
        have hu : (List.replicate m z.cells.toList)[j / K.sz]? = some z.cells.toList := by simp [hdiv]
        have h2 := Zdr (sz := K.sz) (List.replicate m z.cells.toList) (fun u hu => by rw [List.eq_of_mem_replicate hu, hzl]) (j / K.sz) (j % K.sz) _ hu hmod
        rw [show j / K.sz * K.sz + j % K.sz = j by rw [Nat.mul_comm]; exact Nat.div_add_mod j K.sz] at h2
        rw [h2]
        simp [madeCells, hj, hs.zsz]
        rw [Array.getElem!_eq_getD, Array.getD_eq_getD_getElem?]
        have : j % K.sz < z.cells.size := by rw [hs.zsz]; exact hmod
        simp [this]
      · rw [List.getElem?_eq_none (by simp [madeCells]; omega), List.getElem?_eq_none (by simp [hzl]; omega)]
    simp only [Int.toNat_natCast, List.length_replicate]
    rw [← hfl]; exact hown
  · intro g hg'
    simp [Value.ownBlock] at hg'
    subst hg'
    intro hf
    exact absurd (hF _ hf) om
def Kd.Ones {α : Type} (K : Kd α) : Prop := ∀ (w : World) (F : Nat → Prop) (u : List Value) (x : α), K.rep w F u x → ∀ c ∈ u, c.oneCell' = true
theorem run_append_nil (base : Nat) (t ty e : Nat) (i : TypeInfo) (size : Nat) (ht : P.underlying t = some (.slice e)) (hi : P.info? e = some i)
    (v : Value) (n : Nat) (xs : List Value) (hown : w.ownsRow base e size v n xs) (c : Nat) : (Builtin.append_ #[t, t] ty #[v, .slice none 0 c]).run P w = .ok v w := by
  rcases hown.2 with ⟨rfl, rfl⟩ | ⟨g, cap, cur, rfl, _, _, hnc, _⟩
  · simp [Builtin.append_, run_underlying ht, sizeOf, typeInfo, hi, Builtin.lenOf, Builtin.firstCells]
  · simp [Builtin.append_, run_underlying ht, sizeOf, typeInfo, hi, Builtin.lenOf, Builtin.firstCells, hnc, storeCells]
theorem Zfz {w : World} {b o : Nat} {us : List Value} (h : w.rangeAt b o us) : ∀ j u, us[j]? = some u → w.cell? ((⟨b, o, none⟩ : Addr).add j) = some u := fun j u hu => by rw [Addr.add_mid]; exact h j u hu
theorem Za4 {α : Type} {K : Kd α} {t e by_ base : Nat} {F : Nat → Prop} {z v s : Value} {xs ys : List α} (hs : SlF P t e K.sz by_ z) (hx : opv ρ x = some v) (hy : opv ρ y = some s) (ho : Own K e base w F v xs) (hsrc : Sl K w (Out F v) s ys)
    (hone : K.Ones) (h63 : xs.length + ys.length ≤ 9223372036854775807) (hbytes : (xs.length + ys.length) * by_ ≤ 140737488355328) (hbase : base ≤ w.heap.size) (hF : ∀ k, F k → k < w.heap.size)
    (k : ∀ v' w', Own K e base w' F v' (xs ++ ys) → w.grownBy w' v.ownBlock → (v'.ownBlock = v.ownBlock ∨ v'.ownBlock = some w.heap.size) → C v' w') :
    OpW P ⟨some d, .call { callee := .builtin .append, args := #[x, y], argTypes := #[t, t] }, ty, pos, after, gd⟩ n D ρ w C := by
  obtain ⟨inf, hinf, hzero, hsz, hby⟩ := hs.inf
  obtain ⟨us, hl, hr, hown⟩ := ho.out
  obtain ⟨A, c, rfl, h2, h3, h4⟩ := hsrc
  have hv : ∃ vs : List (List Value), vs.length = ys.length ∧ (∀ (i : Nat) (u : List Value) (y : α), vs[i]? = some u → ys[i]? = some y → K.rep w (Out F v) u y) ∧ (∀ a, A = some a → ys ≠ [] → ∃ g o, a = ⟨g, o, none⟩ ∧ w.rangeAt g o vs.flatten) := by
    have hex : ∀ i : Fin ys.length, ∃ u, ∃ g o, A = some ⟨g, o, none⟩ ∧ K.rep w (Out F v) u ys[i] ∧ w.rangeAt g (o + i * K.sz) u := by
      intro i
      obtain ⟨g, o, u, ha, _, _, hrep, hrng⟩ := h4 i ys[i] (by simp)
      exact ⟨u, g, o, ha, hrep, hrng⟩
    let f : Fin ys.length → List Value := fun i => Classical.choose (hex i)
    have hf : ∀ i, ∃ g o, A = some ⟨g, o, none⟩ ∧ K.rep w (Out F v) (f i) ys[i] ∧ w.rangeAt g (o + i * K.sz) (f i) := fun i => Classical.choose_spec (hex i)
    refine ⟨List.ofFn f, by simp, fun i u y hu hy => ?_, fun a ha hne => ?_⟩
    · rw [List.getElem?_ofFn] at hu
      split at hu
      · rename_i hi
        cases hu
        obtain ⟨_, _, _, hrep, _⟩ := hf ⟨i, hi⟩
        have : ys[i] = y := by rw [List.getElem?_eq_getElem hi] at hy; injection hy
        subst this; exact hrep
      · cases hu
    · have hlen : 0 < ys.length := List.length_pos_iff.2 hne
      obtain ⟨g, o, ha', _, _⟩ := hf ⟨0, hlen⟩
      rw [ha] at ha'
      injection ha' with ha'
      refine ⟨g, o, ha', fun j u hj => ?_⟩
      have hall : ∀ u ∈ List.ofFn f, u.length = K.sz := by
        intro u hu
        obtain ⟨i, rfl⟩ := List.mem_ofFn.1 hu
        obtain ⟨_, _, _, hrep, _⟩ := hf i
        exact K.len hrep
      have hpos := hs.pos
      have hjl : j < ys.length * K.sz := by
        have := (List.getElem?_eq_some_iff.1 hj).1
        rw [List.length_flatten] at this
        have hsum := Zcs (List.ofFn f) hall
        rw [List.length_flatten, List.length_ofFn] at hsum
        omega
      have hdiv : j / K.sz < ys.length := Nat.div_lt_of_lt_mul (by rw [Nat.mul_comm]; exact hjl)
      have hmod : j % K.sz < K.sz := Nat.mod_lt _ hpos
      have hu : (List.ofFn f)[j / K.sz]? = some (f ⟨j / K.sz, hdiv⟩) := by rw [List.getElem?_ofFn]; simp [hdiv]
      have h5 := Zdr (sz := K.sz) (List.ofFn f) hall (j / K.sz) (j % K.sz) _ hu hmod
      rw [show j / K.sz * K.sz + j % K.sz = j by rw [Nat.mul_comm]; exact Nat.div_add_mod j K.sz, hj] at h5
      obtain ⟨g2, o2, ha2, _, hrng⟩ := hf ⟨j / K.sz, hdiv⟩
      rw [ha, ha'] at ha2
      injection ha2 with ha2
      injection ha2 with e1 e2
      subst e1; subst e2
      have := hrng (j % K.sz) u h5.symm
      rw [← this]; congr 2
      show o + j = o + j / K.sz * K.sz + j % K.sz
      have := Nat.div_add_mod j K.sz
      rw [Nat.mul_comm] at this; omega
  obtain ⟨vs, hvl, hvr, hva⟩ := hv
  have hfin : ∀ v' w', w'.ownsRow base e K.sz v' (xs.length + ys.length) (us.flatten ++ vs.flatten) → w.grownBy w' v.ownBlock → (v'.ownBlock = v.ownBlock ∨ v'.ownBlock = some w.heap.size) → Own K e base w' F v' (xs ++ ys) := by
    intro v' w' ho' hg hor
    refine ⟨⟨us ++ vs, by simp [hl, hvl], fun i u x hu hx => ?_, by rw [List.flatten_append, List.length_append]; exact ho'⟩, fun g hg' => ?_⟩
    · have hrep : K.rep w (Out F v) u x := by
        rcases Nat.lt_or_ge i xs.length with h | h
        · rw [List.getElem?_append_left om] at hu; rw [List.getElem?_append_left h] at hx; exact hr i u x hu hx
        · rw [List.getElem?_append_right om, hl] at hu; rw [List.getElem?_append_right h] at hx; exact hvr _ u x hu hx
      have h1 : K.rep w (fun k => Out F v k ∨ Out F v' k) u x := K.weak hrep fun k hk hk' => by
        rcases hk' with h | h | h
        · exact h
        · exact .inl h
        · rcases hor with e | e
          · exact .inr (e ▸ h)
          · rw [e] at h; injection h with h; omega
      exact K.weak (K.keep h1 fun k hk hn => hg.block k hk fun e => hn (.inl (.inr e.symm))) fun k _ hk => .inr hk
    · rcases hor with h | h
      · exact ho.no g (by rw [← h]; exact hg')
      · rw [h] at hg'; injection hg' with hg'; intro hf; have := hF g hf; omega
  have hzsz : z.cells.size = K.sz := hs.zsz
  cases A with
  | none =>
    have hy0 : ys = [] := by
      cases ys with
      | nil => rfl
      | cons y r => obtain ⟨g, o, u, ha, _⟩ := h4 0 y rfl; cases ha
    subst hy0
    have hv0 : vs = [] := List.eq_nil_of_length_eq_zero hvl
    subst hv0
    refine Za3 (v := v) (w' := w) (fun ev he => ?_) (k v w (hfin v w (by simpa using hown) (World.grownBy.refl w _) (.inl rfl)) (World.grownBy.refl w _) (.inl rfl))
    simp [execOp, resolve, invoke, builtin, he x _ hx, he y _ hy, run_append_nil base t ty e inf K.sz hs.und hinf v _ _ hown c]
  | some a =>
    have hcells : ∀ j u, vs.flatten[j]? = some u → w.cell? (a.add j) = some u := by
      intro j u hj
      by_cases hne : ys = []
      · subst hne
        have hv0 : vs = [] := List.eq_nil_of_length_eq_zero hvl
        subst hv0; simp at hj
      · obtain ⟨g, o, rfl, hrng⟩ := hva a rfl hne
        exact Zfz hrng j u hj
    have hvlen : vs.flatten.length = ys.length * K.sz := by
      have hall : ∀ u ∈ vs, u.length = K.sz := by
        intro u hu
        obtain ⟨j, hj, rfl⟩ := List.getElem_of_mem hu
        exact K.len (hvr j _ (ys[j]'om) (List.getElem?_eq_getElem hj) (List.getElem?_eq_getElem om))
      rw [Zcs vs hall, hvl]
    have hones : ∀ u ∈ vs.flatten, u.oneCell' = true := by
      intro u hu
      obtain ⟨l, hl', hu'⟩ := List.mem_flatten.1 hu
      obtain ⟨j, hj, rfl⟩ := List.getElem_of_mem hl'
      exact hone _ _ _ _ (hvr j _ (ys[j]'om) (List.getElem?_eq_getElem hj) (List.getElem?_eq_getElem om)) u hu'
    obtain ⟨v', w', hrun, ho', hg, _, hor⟩ := run_append_own_at (P := P) w base t ty e inf z K.sz by_ hs.und hinf hzero hsz hby hzsz hs.pos v xs.length us.flatten hown a ys.length c vs.flatten hvlen hcells hones (by simp only [maxLen]; omega) hbytes hbase
    refine Za3 (v := v') (w' := w') (fun ev he => ?_) (k v' w' (hfin v' w' ho' hg hor) hg hor)
    simp [execOp, resolve, invoke, builtin, he x _ hx, he y _ hy, hrun]
end
end Go.Gw
namespace Go.Gw
open Go.RowKit
section
variable {P : Program} {ops : Array Oper} {Q : Exit → Act → World → Prop} {Zao : List Oper} {n : Nat} {D : List Deferred} {ρ : Env} {w : World}
variable {d ty : Nat} {pos : String} {after : Array Edge} {gd : Option (Nat × Bool)} {C : Value → World → Prop} {x y : Operand}
theorem Zed {a : Addr} (hx : opv ρ x = some (.pointer (some a))) (k : C (.pointer (some a)) w) : OpW P ⟨some d, .nilCheck x, ty, pos, after, gd⟩ n D ρ w C :=
  Za3 (fun e he => by simp [execOp, he x _ hx]) k
theorem s_func {fn : Fn} {fs cs : List Operand} {vs us : List Value} (hf : opvs ρ fs = some vs) (hc : opvs ρ cs = some us) (k : C (.func fn vs.toArray us.toArray) w) :
    OpW P ⟨some d, .makeFunc fn fs.toArray cs.toArray, ty, pos, after, gd⟩ n D ρ w C := by
  intro a hF Q
  unfold Oper.wp
  have h1 := hF.evals hf
  have h2 := hF.evals hc
  have : (execOp a.eval ⟨some d, .makeFunc fn fs.toArray cs.toArray, ty, pos, after, gd⟩).run P w = .ok (.value (.func fn vs.toArray us.toArray)) w := by
    simp [execOp, Instr.makeFunc, h1, h2]
  rw [this, Oper.upon_value]
  exact ⟨_, rfl, k⟩
theorem s_callc {f t : Nat} {args : List Operand} {ats : Array TypeId} {vs first caps : List Value} {R : Value → World → Prop} (hf : FunF P f) (hfv : look ρ t = some (.func (.func f) first.toArray caps.toArray)) (ha : opvs ρ args = some vs)
    (hc : Calls P f (first ++ vs ++ caps).toArray w (fun e w' => ∃ v, e = .returned v ∧ R v w')) (k : ∀ v w', R v w' → C v w') :
    OpW P ⟨some d, .call { callee := .value (.tmp t), args := args.toArray, argTypes := ats }, ty, pos, after, gd⟩ n D ρ w C := by
  intro a hF Q
  unfold Oper.wp
  have hev : a.eval (.tmp t) = .func (.func f) first.toArray caps.toArray := hF.eval (x := .tmp t) hfv
  have he : (execOp a.eval ⟨some d, .call { callee := .value (.tmp t), args := args.toArray, argTypes := ats }, ty, pos, after, gd⟩).run P w = .ok (.enter f (first ++ vs ++ caps).toArray) w := by
    have hv : args.map a.eval = vs := hF.evals ha
    simp [execOp, resolve, hev, Deferred.ofValue, invoke, hv, Zf8 hf]
  rw [he, Oper.upon_enter]
  refine hc.mono ?_
  rintro e w' ⟨v, rfl, hR⟩
  exact ⟨v, rfl, k v w' hR⟩
theorem s_arrsl {t m e sz b o : Nat} (ht : ArrF P t m e sz) (hx : opv ρ x = some (.pointer (some ⟨b, o, none⟩))) (k : C (.slice (some ⟨b, o, none⟩) m m) w) :
    OpW P ⟨some d, .slice t x none none none, ty, pos, after, gd⟩ n D ρ w C := by
  obtain ⟨j, hj, hs⟩ : ∃ j, P.info? e = some j ∧ j.size = sz := by
    have := ht.is
    cases hi : P.info? e with
    | none => simp [hi] at this
    | some j => exact ⟨j, rfl, by simpa [hi] using this⟩
  refine Za3 (fun ev he => ?_) k
  simp [execOp, he x _ hx, Instr.sliceAt, run_underlying ht.und, Instr.sureAddr, Instr.sliceBounds, sizeOf, typeInfo, hj]
  intro _; rfl
theorem Zbi {t m e sz b o : Nat} {kd : IntKind} {i : Int} (ht : ArrF P t m e sz) (hx : opv ρ x = some (.pointer (some ⟨b, o, none⟩))) (hy : opv ρ y = some (.int kd i)) (h0 : 0 ≤ i) (h1 : i < m)
    (k : C (.pointer (some ⟨b, o + i.toNat * sz, none⟩)) w) : OpW P ⟨some d, .indexAddr t x y, ty, pos, after, gd⟩ n D ρ w C := by
  obtain ⟨j, hj, hs⟩ : ∃ j, P.info? e = some j ∧ j.size = sz := by
    have := ht.is
    cases hi : P.info? e with
    | none => simp [hi] at this
    | some j => exact ⟨j, rfl, by simpa [hi] using this⟩
  refine Za3 (fun ev he => ?_) k
  simp [execOp, he x _ hx, he y _ hy, Instr.indexAt, asIntOf, run_underlying ht.und, Instr.sureAddr, h0, h1, sizeOf, typeInfo, hj, hs, Addr.add_mid]
theorem Zfw {α : Type} {K : Kd α} {w : World} {F : Nat → Prop} {b o m : Nat} {us : List Value} (hk : K.sz = 1) {xs : List α} (hr : w.rangeAt b o us) (hl : us.length = xs.length) (hm : m = xs.length) (hF : ¬ F b) (hb : b < w.heap.size) (h63 : m ≤ 9223372036854775807)
    (hx : ∀ (i : Nat) (u : Value) (x : α), us[i]? = some u → xs[i]? = some x → K.rep w F [u] x) : Sl K w F (.slice (some ⟨b, o, none⟩) m m) xs := by
  subst hm
  refine ⟨_, xs.length, rfl, Nat.le_refl _, by simp only [maxLen]; omega, fun i x hi => ?_⟩
  have hil : i < us.length := by rw [hl]; exact (List.getElem?_eq_some_iff.1 hi).1
  refine ⟨b, o, [us[i]], rfl, hb, hF, hx i _ x (List.getElem?_eq_getElem hil) hi, ?_⟩
  intro j v hv
  have hj : j = 0 := by
    have := (List.getElem?_eq_some_iff.1 hv).1
    simp at this; exact this
  subst hj
  simp at hv
  subst hv
  have := hr i us[i] (List.getElem?_eq_getElem hil)
  rw [hk, Nat.mul_one]; exact this
theorem Zdv {α : Type} {K : Kd α} {t e by_ base : Nat} {z v : Value} {F : Nat → Prop} {xs : List α} {kd : IntKind} {i : Int} (hs : SlF P t e K.sz by_ z) (hx : opv ρ x = some v) (hy : opv ρ y = some (.int kd i)) (ho : Own K e base w F v xs) (h0 : 0 ≤ i) (h1 : i < xs.length)
    (k : ∀ g, v.ownBlock = some g → base ≤ g → g < w.heap.size → C (.pointer (some ⟨g, i.toNat * K.sz, none⟩)) w) : OpW P ⟨some d, .indexAddr t x y, ty, pos, after, gd⟩ n D ρ w C := by
  obtain ⟨us, hl, hr, hown⟩ := ho.out
  rcases hown.2 with ⟨rfl, hz⟩ | ⟨g, cap, cur, rfl, hb, hg, _⟩
  · omega
  · obtain ⟨inf, hinf, _, hsz, _⟩ := hs.inf
    refine Za3 (fun ev he => ?_) (k g rfl hb (Array.getElem?_eq_some_iff.1 hg).1)
    simp [execOp, Instr.indexAt, asIntOf, run_underlying hs.und, he x _ hx, he y _ hy, h0, h1, sizeOf, typeInfo, hinf, hsz, Addr.add_mid]
theorem set_flatten {us : List (List Value)} (h : ∀ u ∈ us, u.length = 1) : ∀ (i : Nat) (u : Value), us.flatten.set i u = (us.set i [u]).flatten := by
  induction us with
  | nil => intro i u; simp
  | cons a r ih =>
    intro i u
    obtain ⟨c, rfl⟩ : ∃ c, a = [c] := List.length_eq_one_iff.1 (h a (by simp))
    cases i with
    | zero => simp
    | succ i => simp [ih (fun u hu => h u (by simp [hu])) i u]
theorem Zcl {α : Type} {K : Kd α} {t e base g : Nat} {v u₀ : Value} {F : Nat → Prop} {xs : List α} {x0 : α} {i : Int} (ht : OneF P t) (hk : K.sz = 1) (hx : opv ρ x = some (.pointer (some ⟨g, i.toNat * K.sz, none⟩))) (hy : opv ρ y = some u₀) (h1 : u₀.oneCell' = true)
    (ho : Own K e base w F v xs) (hg : v.ownBlock = some g) (h0 : 0 ≤ i) (hlt : i < xs.length) (hrep : K.rep w (Out F v) [u₀] x0)
    (k : ∀ w', Own K e base w' F v (xs.set i.toNat x0) → w.grownBy w' (some g) → w'.heap.size = w.heap.size → C undef w') : OpW P ⟨none, .store t x y, ty, pos, after, gd⟩ n D ρ w C := by
  obtain ⟨us, hl, hr, hown⟩ := ho.out
  have hall : ∀ u ∈ us, u.length = 1 := by
    intro u hu
    obtain ⟨j, hj, rfl⟩ := List.getElem_of_mem hu
    rw [K.len (hr j _ (xs[j]'om) (List.getElem?_eq_getElem hj) (List.getElem?_eq_getElem om)), hk]
  rw [hk, Nat.mul_one] at hx
  obtain ⟨dd, hu, _, hs⟩ := ht.out
  obtain ⟨cap, hv⟩ : ∃ cap, v = .slice (some ⟨g, 0, none⟩) xs.length cap := by
    rcases hown.2 with ⟨rfl, hz⟩ | ⟨g', cap, cur, rfl, _⟩
    · simp [Value.ownBlock] at hg
    · simp [Value.ownBlock] at hg; subst hg; exact ⟨cap, rfl⟩
  subst hv
  obtain ⟨hst, hgr⟩ := hown.stored i.toNat u₀
  have hfl := Zcs us hall
  have hc : w.cell? ⟨g, i.toNat, none⟩ = some (us.flatten[i.toNat]'om) := by
    rw [hown.cellAt i.toNat (by rw [hk]; omega)]
    exact List.getElem?_eq_getElem om
  have hfr := hown.frozenAt i.toNat
  refine Zi1 (w' := w.setCell ⟨g, i.toNat, none⟩ u₀) (fun ev he => ?_) (k _ ⟨⟨us.set i.toNat [u₀], by simp [hl], fun j u' x' hu' hx' => ?_, ?_⟩, ho.no⟩ hgr (by simp [World.setCell]))
  · have hcells : u₀.cells = #[u₀] := by cases u₀ <;> simp [Value.oneCell'] at h1 <;> rfl
    cases hq : P.info? t with
    | none => simp [hq] at hs
    | some j =>
      have hsz : j.size = 1 := by simpa [hq] using hs
      have hst' : (store ⟨g, i.toNat, none⟩ u₀).run P w = .ok () (w.setCell ⟨g, i.toNat, none⟩ u₀) := by
        rw [run_store P w _ u₀ _ (by cases u₀ <;> simp [Value.oneCell'] at h1 <;> rfl)]
        simp [stored, hc, hfr]
      have h2 : (storeVar t ⟨g, i.toNat, none⟩ u₀).run P w = .ok () (w.setCell ⟨g, i.toNat, none⟩ u₀) := by
        simp [storeVar, sizeOf, typeInfo, hq, hsz, hcells, storeCells, Addr.add_mid, hst']
      simp [execOp, Instr.storeAt, Instr.sureAddr, he x _ hx, he y _ hy, h2]
  · have hkeep : ∀ (u : List Value) (x : α), K.rep w (Out F (.slice (some ⟨g, 0, none⟩) xs.length cap)) u x → K.rep (w.setCell ⟨g, i.toNat, none⟩ u₀) (Out F (.slice (some ⟨g, 0, none⟩) xs.length cap)) u x := fun u x h => K.keep h fun k hk hn => hgr.block k hk fun e => hn (.inr (by injection e with e; rw [e]; rfl))
    rw [List.getElem?_set] at hu' hx'
    by_cases e : i.toNat = j
    · subst e
      rw [if_pos rfl] at hu' hx'
      rw [if_pos om] at hu' hx'
      cases hu'; cases hx'
      exact hkeep _ _ hrep
    · rw [if_neg e] at hu' hx'
      exact hkeep _ _ (hr j u' x' hu' hx')
  · rw [← set_flatten hall, List.length_set]
    have := hst
    exact this
end
end Go.Gw
namespace Go.Gw
open Go.RowKit
theorem Zld {w : World} {b o : Nat} {cs us : List Value} (j : Nat) (h : w.rangeAt b o cs) (hj : (cs.drop j).take us.length = us) : w.rangeAt b (o + j) us := by
  intro i v hv
  rw [Nat.add_assoc]
  refine h (j + i) v ?_
  rw [← hj, List.getElem?_take] at hv
  split at hv
  · rw [List.getElem?_drop] at hv; exact hv
  · cases hv
def Kd.num (k : IntKind) : Kd Int := Kd.flat 1 (fun x => [.int k x]) (fun _ => True) (fun _ => rfl)
theorem Zkf (k : IntKind) : (Kd.num k).Flat := Kd.flat_flat _ _ _ _
theorem Zft : Kd.bool.Flat := Kd.flat_flat _ _ _ _
theorem num_ones (k : IntKind) : (Kd.num k).Ones := by rintro _ _ _ _ ⟨rfl, _⟩ c hc; simp at hc; subst hc; rfl
theorem Zb5 : Kd.bool.Ones := by rintro _ _ _ _ ⟨rfl, _⟩ c hc; simp at hc; subst hc; rfl
theorem num_reps {k : IntKind} {w : World} {F : Nat → Prop} {xs : List Int} : ∀ (i : Nat) (u : Value) (x : Int), (xs.map fun x => Value.int k x)[i]? = some u → xs[i]? = some x → (Kd.num k).rep w F [u] x := by
  intro i u x hu hx
  rw [List.getElem?_map, hx] at hu
  simp at hu
  exact ⟨by rw [← hu], trivial⟩
end Go.Gw
namespace Go.Gw
section
variable {P : Program} {ops : Array Oper} {Q : Exit → Act → World → Prop} {Zao : List Oper} {n : Nat} {D : List Deferred} {ρ : Env} {w : World}
theorem Zal {o : Op} {d : Nat} {ty : Nat} {pos : String} {after : Array Edge} {j t : Nat} {c : Bool} (hj : (ops[j]?).bind (·.dst) = some t) (hb : look ρ t = some undef)
    (k : Reg P ops Q Zao n D ((d, undef) :: ρ) w) (hd : Nat.blt d n = true := by rfl) : Reg P ops Q (⟨some d, o, ty, pos, after, some (j, c)⟩ :: Zao) n D ρ w := by
  intro a ha
  have h1 := k _ (ha.put undef hd)
  unfold wpList
  have hw : Region.wanted ⟨some d, o, ty, pos, after, some (j, c)⟩ (yielded ops a.tmps) = false := by
    simp [Region.wanted, yielded, hj, ha.slot _ _ hb, undef]
  rw [if_neg (by rw [hw]; simp)]
  exact h1
theorem Zfy {C : Value → World → Prop} {op : Op} {dst : Option Nat} {ty : Nat} {pos : String} {after : Array Edge} {j t : Nat} {c : Bool} (h : C undef w) (hj : (ops[j]?).bind (·.dst) = some t := by rfl) (hb : look ρ t = some undef := by rfl) : Op1 P ops ⟨dst, op, ty, pos, after, some (j, c)⟩ n D ρ w C := by
  intro a ha
  have hw : Region.wanted ⟨dst, op, ty, pos, after, some (j, c)⟩ (yielded ops a.tmps) = false := by
    simp [Region.wanted, yielded, hj, ha.slot _ _ hb, undef]
  rw [if_neg (by rw [hw]; simp)]
  exact h
end
end Go.Gw
namespace Go.Gw
open Go.RowKit
theorem Own.blk_ne {α : Type} {K : Kd α} {e base : Nat} {w : World} {F : Nat → Prop} {v : Value} {xs : List α} {t g g' : Nat} {cs : Array Value} (h : Own K e base w F v xs) (hb : Blk w g' t cs) (hne : e ≠ t) (hg : v.ownBlock = some g) : g' ≠ g := by
  rintro rfl
  rcases h.ne_blk hb hne with h1 | h1
  · rw [h1] at hg; cases hg
  · exact h1 hg
theorem Own.ge {α : Type} {K : Kd α} {e base : Nat} {w : World} {F : Nat → Prop} {v : Value} {xs : List α} (h : Own K e base w F v xs) {g : Nat} (hg : v.ownBlock = some g) : base ≤ g := (h.lt g hg).1
end Go.Gw
namespace Go.Gw
open Go.RowKit
theorem Zc3 {P : Program} {n : Nat} {D : List Deferred} {ρ : Env} {w : World} {d ty : Nat} {pos : String} {after : Array Edge} {gd : Option (Nat × Bool)} {C : Value → World → Prop} {x : Operand}
    {t b o o0 j : Nat} {cs : List Value} {k : IntKind} {a b' c d' i : Int} (ht : OneF P t) (hx : opv ρ x = some (.pointer (some ⟨b, o0 + i.toNat * 1, none⟩))) (hc : w.rangeAt b o cs) (j' : j = j)
    (hj : (cs.drop j).take 4 = [.int k a, .int k b', .int k c, .int k d']) (h0 : 0 ≤ i) (h1 : i < 4)
    (h : C (.int k (Zae a b' c d' i)) w) (ho : o0 = o + j := by rfl) : OpW P ⟨some d, .load t x, ty, pos, after, gd⟩ n D ρ w C := by
  subst ho
  have hr := Zld (us := [Value.int k a, Value.int k b', Value.int k c, Value.int k d']) j hc hj
  have hcell : w.cell? ⟨b, o + j + i.toNat * 1, none⟩ = some (.int k (Zae a b' c d' i)) := by
    have : i = 0 ∨ i = 1 ∨ i = 2 ∨ i = 3 := by omega
    rcases this with rfl | rfl | rfl | rfl
    · exact hr 0 _ rfl
    · exact hr 1 _ rfl
    · exact hr 2 _ rfl
    · exact hr 3 _ rfl
  have hcell' := hcell
  rw [Nat.mul_one] at hcell'
  obtain ⟨dd, hu, hrow, hs⟩ := ht.out
  exact Za3 (fun e he => by
    have hagg : (isAgg t).run P w = .ok false w := by
      unfold isAgg; rw [Sem.run_bind, run_underlying hu w]; cases dd <;> simp_all
    simp [execOp, Instr.loadAt, Instr.sureAddr, he x _ hx, loadVar, Sem.run_bind, hagg, hcell', run_load]) h
end Go.Gw
namespace Go.Gw
open Go.RowKit
abbrev pp (g : Nat) : Value := .pointer (some ⟨g, 0, none⟩)
theorem belowa {a w w' : World} {g : Nat} (h : Below a.heap.size a w) (k : w.grownBy w' (some g)) (hg : a.heap.size ≤ w.heap.size → a.heap.size ≤ g := by intro _; omega) : Below a.heap.size a w' := Zhf h k (hg h.size)
abbrev GN : World → World → Prop := fun a b => a.grownBy b none
theorem gnt : ∀ a b c : World, GN a b → GN b c → GN a c := fun _ _ _ => Zl4
end Go.Gw
namespace Go.Gw
open Go.RowKit
section
variable {P : Program}
theorem size_of {t k : Nat} (h : (P.info? t).map (·.size) = some k) : ∃ i, P.info? t = some i ∧ i.size = k := by
  cases hi : P.info? t with
  | none => simp [hi] at h
  | some i => exact ⟨i, rfl, by simpa [hi] using h⟩
def Zgj (P : Program) (t : Nat) : List (Bool × Nat × Nat) :=
  match P.underlying t with
  | some (.struct fs) => fs.toList.map fun f => (f.name != "_", f.type, f.offset)
  | _ => []
structure NodeF (P : Program) (t ta ti : Nat) : Prop where
  is : Zgj P t = [(true, ti, 0), (true, ta, 1)]
  held : P.stoodInHeld t = false
  guard : P.eqGuardType P.depth t = false
  arr : P.underlying ta = some (.array 4 ti)
  int : P.underlying ti = some (.int .i64)
  si : (P.info? ti).map (·.size) = some 1
  sa : (P.info? ta).map (·.size) = some 4
theorem NodeF.fs {P : Program} {t ta ti : Nat} (h : NodeF P t ta ti) : ∃ f0 f1 : Field, P.underlying t = some (.struct #[f0, f1]) ∧ (f0.name ≠ "_" ∧ f1.name ≠ "_") ∧ (f0.type = ti ∧ f1.type = ta) ∧ f0.offset = 0 ∧ f1.offset = 1 := by
  have h := h.is
  unfold Zgj at h
  split at h
  · rename_i fs hu
    obtain ⟨l⟩ := fs
    have hl : l.length = 2 := by have := congrArg List.length h; simpa using this
    match l, hl, h with
    | [f0, f1], _, h =>
      simp at h
      exact ⟨f0, f1, hu, ⟨h.1.1, h.2.1⟩, ⟨h.1.2.1, h.2.2.1⟩, h.1.2.2, h.2.2.2⟩
  · cases h
def Zhz (a b c e : Int) : Array Value := #[.int .i64 a, .int .i64 b, .int .i64 c, .int .i64 e]
theorem Zgh {ti : Nat} (int : P.underlying ti = some (.int .i64)) (cs : Array Value) (j : Nat) (v : Value) (hv : cs[j]? = some v) (w : World) : (part ti cs j).run P w = .ok v w := by
  have hagg : (isAgg ti).run P w = .ok false w := by unfold isAgg; rw [Sem.run_bind, run_underlying int w]; rfl
  simp [part, Sem.run_bind, hagg, hv]
theorem Zgz {ti : Nat} (int : P.underlying ti = some (.int .i64)) (d : Nat) (a b : Int) (w : World) : (Op.equalIn (d + 1) ti (.int .i64 a) (.int .i64 b)).run P w = .ok (a == b) w := run_equalIn_int w d ti .i64 .i64 a b int
theorem Zme {ta ti : Nat} (arr : P.underlying ta = some (.array 4 ti)) (int : P.underlying ti = some (.int .i64)) (si : (P.info? ti).map (·.size) = some 1) (d : Nat) (a b c e a' b' c' e' : Int) (w : World) :
    (Op.equalIn (d + 2) ta (.agg (Zhz a b c e)) (.agg (Zhz a' b' c' e'))).run P w = .ok (decide (a = a' ∧ b = b' ∧ c = c' ∧ e = e')) w := by
  obtain ⟨i, hi, hs⟩ := size_of si
  have hc : P.cellsOf ti = 1 := by simp [Program.cellsOf, hi, hs]
  rw [run_equalIn_array w (d + 1) _ _ arr hi, hc]
  have hr : List.range 4 = [0, 1, 2, 3] := rfl
  rw [hr]
  have p := fun (cs : Array Value) (j : Nat) (v : Value) (hv : cs[j]? = some v) (w : World) => Zgh (P := P) int cs j v hv w
  simp only [Op.eqItems, Sem.run_bind, Nat.zero_mul, Nat.one_mul, Nat.mul_one]
  rw [p (Zhz a b c e) 0 (.int .i64 a) rfl, Result.andThen_ok, p (Zhz a' b' c' e') 0 (.int .i64 a') rfl, Result.andThen_ok, Zgz int, Result.andThen_ok]
  by_cases h0 : a = a'
  · subst h0
    simp only [beq_self_eq_true, Bool.not_true, Bool.false_eq_true, if_false, Sem.run_bind]
    rw [p (Zhz a b c e) 1 (.int .i64 b) rfl, Result.andThen_ok, p (Zhz a b' c' e') 1 (.int .i64 b') rfl, Result.andThen_ok, Zgz int, Result.andThen_ok]
    by_cases h1 : b = b'
    · subst h1
      simp only [beq_self_eq_true, Bool.not_true, Bool.false_eq_true, if_false, Sem.run_bind]
      rw [p (Zhz a b c e) 2 (.int .i64 c) rfl, Result.andThen_ok, p (Zhz a b c' e') 2 (.int .i64 c') rfl, Result.andThen_ok, Zgz int, Result.andThen_ok]
      by_cases h2 : c = c'
      · subst h2
        simp only [beq_self_eq_true, Bool.not_true, Bool.false_eq_true, if_false, Sem.run_bind]
        rw [p (Zhz a b c e) 3 (.int .i64 e) rfl, Result.andThen_ok, p (Zhz a b c e') 3 (.int .i64 e') rfl, Result.andThen_ok, Zgz int, Result.andThen_ok]
        by_cases h3 : e = e'
        · subst h3; simp
        · simp [h3]
      · simp [h2]
    · simp [h1]
  · simp [h0]
def Zgb (l a b c e : Int) : Array Value := #[.int .i64 l, .int .i64 a, .int .i64 b, .int .i64 c, .int .i64 e]
theorem Zl5 {t ta ti : Nat} (h : NodeF P t ta ti) (d : Nat) (l a b c e l' a' b' c' e' : Int) (w : World) :
    (Op.equalIn (d + 3) t (.agg (Zgb l a b c e)) (.agg (Zgb l' a' b' c' e'))).run P w = .ok (decide (l = l' ∧ a = a' ∧ b = b' ∧ c = c' ∧ e = e')) w := by
  obtain ⟨f0, f1, hu, ⟨n0, n1⟩, ⟨t0, t1⟩, o0, o1⟩ := h.fs
  have hfs : P.fieldsOf t = #[f0, f1] := by simp [Program.fieldsOf, hu]
  rw [run_equalIn_struct w (d + 2) t _ _ (by rw [hfs]; exact hu) h.held, hfs]
  have p := fun (cs : Array Value) (j : Nat) (v : Value) (hv : cs[j]? = some v) (w : World) => Zgh (P := P) h.int cs j v hv w
  obtain ⟨ia, hia, hsa⟩ := size_of h.sa
  have hagg : ∀ w, (isAgg ta).run P w = .ok true w := fun w => by unfold isAgg; rw [Sem.run_bind, run_underlying h.arr w]; rfl
  have q : ∀ (l a b c e : Int) (w : World), (part ta (Zgb l a b c e) 1).run P w = .ok (.agg (Zhz a b c e)) w := fun l a b c e w => by
    simp [part, Sem.run_bind, hagg, sizeOf, typeInfo, hia, hsa, Zgb, Zhz]
  simp only [Op.eqFields, n0, n1, ne_eq, not_false_eq_true, if_true, t0, t1, o0, o1, Sem.run_bind]
  rw [p (Zgb l a b c e) 0 (.int .i64 l) rfl, Result.andThen_ok, p (Zgb l' a' b' c' e') 0 (.int .i64 l') rfl, Result.andThen_ok, Zgz h.int, Result.andThen_ok]
  by_cases h0 : l = l'
  · subst h0
    simp only [beq_self_eq_true, Bool.not_true, Bool.false_eq_true, if_false, Sem.run_bind]
    rw [q, Result.andThen_ok, q, Result.andThen_ok, Zme h.arr h.int h.si, Result.andThen_ok]
    by_cases h1 : a = a' ∧ b = b' ∧ c = c' ∧ e = e'
    · simp [h1]
    · simp [h1]
  · simp [h0]
theorem Zhn {ti : Nat} (int : P.underlying ti = some (.int .i64)) (em : Bool) (d : Nat) (a : Int) (w : World) : (Instr.checkKey em (d + 1) ti (.int .i64 a)).run P w = .ok () w := by
  simp [Instr.checkKey, run_underlying int]
theorem Zmr {ta ti : Nat} (arr : P.underlying ta = some (.array 4 ti)) (int : P.underlying ti = some (.int .i64)) (si : (P.info? ti).map (·.size) = some 1) (em : Bool) (d : Nat) (a b c e : Int) (w : World) :
    (Instr.checkKey em (d + 2) ta (.agg (Zhz a b c e))).run P w = .ok () w := by
  obtain ⟨i, hi, hs⟩ := size_of si
  have p := fun (cs : Array Value) (j : Nat) (v : Value) (hv : cs[j]? = some v) (w : World) => Zgh (P := P) int cs j v hv w
  have hr : List.range' 0 4 = [0, 1, 2, 3] := rfl
  have hso : ∀ w, (sizeOf ti).run P w = .ok 1 w := fun w => by simp [sizeOf, typeInfo, hi, hs]
  have hk := fun (a : Int) (w : World) => Zhn (P := P) int em d a w
  rw [Instr.checkKey]
  generalize Instr.checkKey em (d + 1) = f at hk ⊢
  simp only [Sem.run_bind, run_underlying arr, Result.andThen_ok]
  simp only [Std.Legacy.Range.forIn_eq_forIn_range', Std.Legacy.Range.size, Nat.sub_zero, Nat.add_one_sub_one, Nat.div_one, Nat.add_sub_cancel, hr, List.forIn_cons, List.forIn_nil, Sem.run_bind, hso, Result.andThen_ok]
  simp only [Nat.zero_mul, Nat.one_mul, Nat.mul_one]
  rw [p (Zhz a b c e) 0 (.int .i64 a) rfl, Result.andThen_ok, hk, Result.andThen_ok]
  simp only [Sem.run_bind, Sem.run_pure, Result.andThen_ok, hso, Nat.mul_one]
  rw [p (Zhz a b c e) 1 (.int .i64 b) rfl, Result.andThen_ok, hk, Result.andThen_ok]
  simp only [Sem.run_bind, Sem.run_pure, Result.andThen_ok, hso, Nat.mul_one]
  rw [p (Zhz a b c e) 2 (.int .i64 c) rfl, Result.andThen_ok, hk, Result.andThen_ok]
  simp only [Sem.run_bind, Sem.run_pure, Result.andThen_ok, hso, Nat.mul_one]
  rw [p (Zhz a b c e) 3 (.int .i64 e) rfl, Result.andThen_ok, hk, Result.andThen_ok]
  simp
theorem Zmj {t ta ti : Nat} (h : NodeF P t ta ti) (em : Bool) (d : Nat) (l a b c e : Int) (w : World) : (Instr.checkKey em (d + 3) t (.agg (Zgb l a b c e))).run P w = .ok () w := by
  obtain ⟨f0, f1, hu, ⟨n0, n1⟩, ⟨t0, t1⟩, o0, o1⟩ := h.fs
  have hk1 := fun (a : Int) (w : World) => Zhn (P := P) h.int em (d + 1) a w
  have hk2 := fun (a b c e : Int) (w : World) => Zmr (P := P) h.arr h.int h.si em d a b c e w
  have p := fun (cs : Array Value) (j : Nat) (v : Value) (hv : cs[j]? = some v) (w : World) => Zgh (P := P) h.int cs j v hv w
  obtain ⟨ia, hia, hsa⟩ := size_of h.sa
  have hagg : ∀ w, (isAgg ta).run P w = .ok true w := fun w => by unfold isAgg; rw [Sem.run_bind, run_underlying h.arr w]; rfl
  have q : ∀ (w : World), (part ta (Zgb l a b c e) 1).run P w = .ok (.agg (Zhz a b c e)) w := fun w => by
    simp [part, Sem.run_bind, hagg, sizeOf, typeInfo, hia, hsa, Zgb, Zhz]
  rw [Instr.checkKey]
  generalize Instr.checkKey em (d + 2) = f at hk1 hk2 ⊢
  simp only [Sem.run_bind, run_underlying hu, Result.andThen_ok]
  simp only [← Array.forIn_toList, List.forIn_cons, List.forIn_nil, n0, n1, ne_eq, not_false_eq_true, if_true, t0, t1, o0, o1, Sem.run_bind]
  rw [p (Zgb l a b c e) 0 (.int .i64 l) rfl, Result.andThen_ok, hk1, Result.andThen_ok]
  simp only [Sem.run_bind, Sem.run_pure, Result.andThen_ok]
  rw [q, Result.andThen_ok, hk2, Result.andThen_ok]
  simp
end
end Go.Gw
namespace Go.Gw
open Go.RowKit
def fnd {κ ν : Type} [DecidableEq κ] (a : κ) : List (κ × ν) → Nat → Option (Nat × ν)
  | [], _ => none
  | (k, v) :: r, i => if a = k then some (i, v) else fnd a r (i + 1)
def Zd4 {κ ν : Type} [DecidableEq κ] (m : List (κ × ν)) (a : κ) : Option ν := (fnd a m 0).map (·.2)
def mput {κ ν : Type} [DecidableEq κ] (m : List (κ × ν)) (a : κ) (v : ν) : List (κ × ν) := match fnd a m 0 with
  | some (i, _) => m.set i (a, v)
  | none => m ++ [(a, v)]
def Zcm {κ ν : Type} (ek : κ → Value) (ev : ν → Value) (w : World) (g : Nat) (m : List (κ × ν)) : Prop :=
  ∃ es clock, w.heap[g]? = some (.map es clock) ∧ es.toList.map (fun e => (e.key, e.val)) = m.map fun p => (ek p.1, ev p.2)
structure KeyF {κ : Type} [DecidableEq κ] (P : Program) (kt : Nat) (ek : κ → Value) : Prop where
  chk : ∀ em a w, (Instr.checkKey em 10000 kt (ek a)).run P w = .ok () w
  stays : ∀ a w, (Instr.keyThatStays (ek a) (ek a)).run P w = .ok (ek a) w
  find : ∀ {ν : Type} (ev : ν → Value) (m : List (κ × ν)) (es : List MapEntry), es.map (fun e => (e.key, e.val)) = m.map (fun p => (ek p.1, ev p.2)) → ∀ a w, (Instr.findKey kt (ek a) es).run P w = .ok ((fnd a m 0).map fun p => (p.1, ev p.2)) w
structure MapF (P : Program) (t kt et : Nat) : Prop where
  und : P.underlying t = some (.map kt et)
section
variable {κ ν : Type} {ek : κ → Value} {ev : ν → Value} {w w' : World} {g : Nat} {m : List (κ × ν)}
theorem Zcm.lt (h : Zcm ek ev w g m) : g < w.heap.size := by
  obtain ⟨es, clock, hg, _⟩ := h
  exact (Array.getElem?_eq_some_iff.1 hg).1
theorem Zcm.kept {row : Option Nat} (h : Zcm ek ev w g m) (hg : w.grownBy w' row) (hne : some g ≠ row) : Zcm ek ev w' g m := by
  obtain ⟨es, clock, hh, he⟩ := h
  exact ⟨es, clock, (hg.block g (Array.getElem?_eq_some_iff.1 hh).1 hne).trans hh, he⟩
theorem Zcm.g0 (h : Zcm ek ev w g m) (hg : w.grownBy w' none) : Zcm ek ev w' g m := h.kept hg (by simp)
theorem Zcm.ne_blk {g' t : Nat} {cs : Array Value} (h : Zcm ek ev w g m) (hb : Blk w g' t cs) : g ≠ g' := by
  rintro rfl
  obtain ⟨es, clock, hh, _⟩ := h
  unfold Blk at hb
  rw [hh] at hb; cases hb
theorem Zcm.ne_own {α : Type} {K : Kd α} {e base : Nat} {F : Nat → Prop} {v : Value} {xs : List α} (h : Zcm ek ev w g m) (ho : Own K e base w F v xs) : v.ownBlock = none ∨ v.ownBlock ≠ some g := by
  obtain ⟨us, hl, hr, hown⟩ := ho.out
  obtain ⟨es, clock, hh, _⟩ := h
  rcases hown.2 with ⟨rfl, h0⟩ | ⟨g', cap, cur, rfl, _, hg, _⟩
  · exact .inl rfl
  · refine .inr fun he => ?_
    have : g' = g := by simpa [Value.ownBlock] using he
    subst this
    rw [hh] at hg; cases hg
end
section
variable {P : Program} {ops : Array Oper} {Q : Exit → Act → World → Prop} {Zao : List Oper} {n : Nat} {D : List Deferred} {ρ : Env} {w : World}
variable {d ty : Nat} {pos : String} {after : Array Edge} {gd : Option (Nat × Bool)} {C : Value → World → Prop} {x y z : Operand}
variable {κ ν : Type} {ek : κ → Value} {ev : ν → Value} {g : Nat} {m : List (κ × ν)}
theorem s_makemap {t : Nat} (ek : κ → Value) (ev : ν → Value) (k : ∀ g w', w.heap.size = g → Zcm ek ev w' g [] → w.grownBy w' none → w'.heap.size = g + 1 → C (.map (some g)) w') : OpW P ⟨some d, .makeMap t none, ty, pos, after, gd⟩ n D ρ w C := by
  refine Za3 (v := .map (some w.heap.size)) (w' := w.alloc (.map #[] 0)) (fun e he => ?_) (k _ _ rfl ⟨#[], 0, heap_alloc_new w _, rfl⟩ (Ze8 _ _) (by simp))
  simp [execOp, Instr.makeMap]
variable [DecidableEq κ]
theorem Zit {es : Array MapEntry} {clock : Nat} (h : w.heap[g]? = some (.map es clock)) : (getObj g).run P w = .ok (.map es clock) w := by
  simp [getObj, Sem.run, h]
theorem s_lookup2 {t kt et : Nat} {a : κ} {v0 : Value} (ht : MapF P t kt et) (hk : KeyF P kt ek) (hx : opv ρ x = some (.map (some g))) (hy : opv ρ y = some (ek a)) (hm : Zcm ek ev w g m) (hz : ((P.info? et).bind (·.zero)) = some v0)
    (k : C (.tuple #[((Zd4 m a).map ev).getD v0, .bool (Zd4 m a).isSome]) w) : OpW P ⟨some d, .lookup t x y true, ty, pos, after, gd⟩ n D ρ w C := by
  obtain ⟨es, clock, hg, he⟩ := hm
  have hf := hk.find ev m es.toList he a w
  have hzv : (zeroValue et).run P w = .ok v0 w := by
    cases hi : P.info? et with
    | none => simp [hi] at hz
    | some i => simp [hi] at hz; simp [zeroValue, typeInfo, hi, hz]
  refine Za3 (fun e hee => ?_) k
  unfold Zd4
  cases hfd : fnd a m 0 with
  | none => rw [hfd] at hf; simp at hf; simp [execOp, Instr.lookup, hee x _ hx, hee y _ hy, run_underlying ht.und, Zit hg, hk.chk, hf, hzv]
  | some p => rw [hfd] at hf; simp at hf; simp [execOp, Instr.lookup, hee x _ hx, hee y _ hy, run_underlying ht.und, Zit hg, hk.chk, hf]
theorem fnd_spec (a : κ) : ∀ (m : List (κ × ν)) (i j : Nat) (v : ν), fnd a m i = some (j, v) → i ≤ j ∧ m[j - i]? = some (a, v)
  | [], i, j, v, h => by simp [fnd] at h
  | (k, u) :: r, i, j, v, h => by
    unfold fnd at h
    split at h
    · rename_i e; subst e; simp at h; obtain ⟨rfl, rfl⟩ := h; simp
    · obtain ⟨h1, h2⟩ := fnd_spec a r (i + 1) j v h
      refine ⟨by omega, ?_⟩
      rw [show j - i = (j - (i + 1)) + 1 by omega]; simpa using h2
theorem Zk5 {t kt et : Nat} {a : κ} {v : ν} (ht : MapF P t kt et) (hk : KeyF P kt ek) (hx : opv ρ x = some (.map (some g))) (hy : opv ρ y = some (ek a)) (hz : opv ρ z = some (ev v)) (hm : Zcm ek ev w g m)
    (k : ∀ w', Zcm ek ev w' g (mput m a v) → w.grownBy w' (some g) → w'.heap.size = w.heap.size → C undef w') : OpW P ⟨none, .mapUpdate t x y z, ty, pos, after, gd⟩ n D ρ w C := by
  obtain ⟨es, clock, hg, he⟩ := hm
  have hf := hk.find ev m es.toList he a w
  have hset : ∀ o, (setObj g o).run P w = .ok () { w with heap := w.heap.setIfInBounds g o } := fun o => by simp [setObj, Sem.run, hg]
  have hlt := (Array.getElem?_eq_some_iff.1 hg).1
  have hgr : ∀ o, w.grownBy { w with heap := w.heap.setIfInBounds g o } (some g) := fun o => ⟨rfl, rfl, rfl, by simp, fun i hi hne => by
    simp only [Array.getElem?_setIfInBounds]; rw [if_neg (by intro e; subst e; exact hne rfl)]⟩
  cases hfd : fnd a m 0 with
  | none =>
    rw [hfd] at hf; simp at hf
    refine Zi1 (w' := { w with heap := w.heap.setIfInBounds g (.map (es.push { key := ek a, val := ev v, born := clock }) (clock + 1)) }) (fun e hee => ?_) (k _ ⟨es.push { key := ek a, val := ev v, born := clock }, clock + 1, by simp [hlt], ?_⟩ (hgr _) (by simp))
    · simp [execOp, Instr.mapUpdate, hee x _ hx, hee y _ hy, hee z _ hz, run_underlying ht.und, Zit hg, hk.chk, hf, hset]
    · unfold mput; rw [hfd]; simp [he]
  | some p =>
    obtain ⟨i, u⟩ := p
    rw [hfd] at hf; simp at hf
    obtain ⟨_, hi⟩ := fnd_spec a m 0 i u hfd
    simp only [Nat.sub_zero] at hi
    have hil : i < m.length := (List.getElem?_eq_some_iff.1 hi).1
    have hle : es.size = m.length := by have := congrArg List.length he; simpa using this
    have hie : i < es.size := by omega
    have hkey : es[i].key = ek a := by
      have h1 : (es.toList.map (fun e => (e.key, e.val)))[i]? = some (ek a, ev u) := by rw [he, List.getElem?_map, hi]; rfl
      rw [List.getElem?_map] at h1
      simp [hie] at h1
      exact h1.1
    refine Zi1 (w' := { w with heap := w.heap.setIfInBounds g (.map (es.modify i fun e => { e with key := ek a, val := ev v }) clock) }) (fun e hee => ?_) (k _ ⟨es.modify i fun e => { e with key := ek a, val := ev v }, clock, by simp [hlt], ?_⟩ (hgr _) (by simp))
    · simp [execOp, Instr.mapUpdate, hee x _ hx, hee y _ hy, hee z _ hz, run_underlying ht.und, Zit hg, hk.chk, hf, hie, hkey, hk.stays, hset]
    · unfold mput; rw [hfd]
      apply List.ext_getElem?
      intro j
      have hj : (es.toList.map (fun e => (e.key, e.val)))[j]? = (m.map fun p => (ek p.1, ev p.2))[j]? := by rw [he]
      simp only [List.getElem?_map, Array.getElem?_toList] at hj ⊢
      rw [Array.getElem?_modify, List.getElem?_set]
      by_cases e : i = j
      · subst e; simp [hie, hil]
      · simp only [if_neg e]; exact hj
end
theorem Zl6 {κ : Type} [DecidableEq κ] {P : Program} {kt : Nat} {ek : κ → Value} (heq : ∀ a b w, (Op.equal kt (ek a) (ek b)).run P w = .ok (decide (a = b)) w) {ν : Type} (ev : ν → Value) : ∀ (m : List (κ × ν)) (es : List MapEntry), es.map (fun e => (e.key, e.val)) = m.map (fun p => (ek p.1, ev p.2)) → ∀ a w i, (Instr.findAsking kt (ek a) es i).run P w = .ok ((fnd a m i).map fun p => (p.1, ev p.2)) w
  | [], es, h, a, w, i => by
    have : es = [] := by simpa using h
    subst this; simp [Instr.findAsking, fnd]
  | (k, v) :: r, es, h, a, w, i => by
    cases es with
    | nil => simp at h
    | cons e es =>
      simp at h
      obtain ⟨⟨hk, hv⟩, hr⟩ := h
      simp only [Instr.findAsking, Sem.run_bind, hk, heq, Result.andThen_ok, fnd]
      by_cases e' : a = k
      · simp [e', hv]
      · simp only [e', decide_false, Bool.false_eq_true, if_false]
        exact Zl6 heq ev r es hr a w (i + 1)
theorem keyF_node {P : Program} {t ta ti : Nat} (h : NodeF P t ta ti) {κ : Type} [DecidableEq κ] (f : κ → Int × Int × Int × Int × Int) (hf : ∀ a b, f a = f b → a = b) : KeyF P t (fun a : κ => .agg (Zgb (f a).1 (f a).2.1 (f a).2.2.1 (f a).2.2.2.1 (f a).2.2.2.2)) := by
  have heq : ∀ a b w, (Op.equal t (.agg (Zgb (f a).1 (f a).2.1 (f a).2.2.1 (f a).2.2.2.1 (f a).2.2.2.2)) (.agg (Zgb (f b).1 (f b).2.1 (f b).2.2.1 (f b).2.2.2.1 (f b).2.2.2.2))).run P w = .ok (decide (a = b)) w := fun a b w => by
    rw [Op.equal, show Op.maxDepth = 9997 + 3 from rfl, Zl5 h]
    congr 1
    rw [decide_eq_decide]
    constructor
    · rintro ⟨h1, h2, h3, h4, h5⟩
      exact hf a b (Prod.ext h1 (Prod.ext h2 (Prod.ext h3 (Prod.ext h4 h5))))
    · rintro rfl; exact ⟨rfl, rfl, rfl, rfl, rfl⟩
  obtain ⟨f0, f1, hu, _⟩ := h.fs
  refine ⟨fun em a w => Zmj h em 9997 _ _ _ _ _ w, fun a w => ?_, fun ev m es he a w => ?_⟩
  · simp [Instr.keyThatStays, Instr.sameBits, Zgb]
  · have hfa := Zl6 heq ev m es he a w 0
    simp only [Instr.findKey, Sem.run_bind, run_underlying hu, Result.andThen_ok]
    cases es with
    | nil =>
      have : m = [] := by simpa using he.symm
      subst this; simp [Instr.findNow, fnd]
    | cons e es =>
      have : Instr.findNow (.struct #[f0, f1]) (.agg (Zgb (f a).1 (f a).2.1 (f a).2.2.1 (f a).2.2.2.1 (f a).2.2.2.2)) (e :: es) 0 = none := by
        simp [Instr.findNow, Instr.sameNow]
      rw [this]
      exact hfa
theorem keyF_int {P : Program} {t : Nat} (h : P.underlying t = some (.int .i64)) : KeyF P t (fun a : Int => .int .i64 a) := by
  refine ⟨fun em a w => Zhn h em 9999 a w, fun a w => by simp [Instr.keyThatStays, Instr.sameBits], fun ev m es he a w => ?_⟩
  have : ∀ (m : List (Int × _)) (es : List MapEntry) (i : Nat), es.map (fun e => (e.key, e.val)) = m.map (fun p => (Value.int .i64 p.1, ev p.2)) → Instr.findNow (.int .i64) (.int .i64 a) es i = some ((fnd a m i).map fun p => (p.1, ev p.2)) := by
    intro m
    induction m with
    | nil => intro es i he; have : es = [] := by simpa using he
             subst this; simp [Instr.findNow, fnd]
    | cons p r ih =>
      intro es i he
      cases es with
      | nil => simp at he
      | cons e es =>
        obtain ⟨k, v⟩ := p
        simp at he
        obtain ⟨⟨hk, hv⟩, hr⟩ := he
        unfold Instr.findNow fnd
        rw [hk]
        by_cases e' : a = k
        · simp [Instr.sameNow, e', hv]
        · have e2 : (a == k) = false := by simpa using e'
          simp [Instr.sameNow, e', e2, ih es (i + 1) hr]
  simp only [Instr.findKey, Sem.run_bind, run_underlying h, Result.andThen_ok, this m es 0 he]
  simp
end Go.Gw
namespace Go.Gw
open Go.RowKit
def fillC (place : Nat → Option (Nat × Nat)) (cells : Array Value) : List (Nat × Array Value) → Option (Array Value)
  | [] => some cells
  | (i, v) :: Zao =>
    match place i with
    | none => none
    | some (off, size) =>
      if v.size ≠ size || off + v.size > cells.size then none
      else fillC place (v.zipIdx.foldl (fun cs (c, j) => cs.setIfInBounds (off + j) c) cells) Zao
theorem fill_eq (place : Nat → Option (Nat × Nat)) : ∀ (parts : List (Nat × Value)) (cells : Array Value), Instr.fill place cells parts = fillC place cells (parts.map fun p => (p.1, p.2.cells))
  | [], cells => rfl
  | (i, v) :: Zao, cells => by
    simp only [Instr.fill, fillC, List.map_cons]
    cases place i with
    | none => rfl
    | some p =>
      obtain ⟨off, size⟩ := p
      dsimp only
      split
      · rfl
      · exact fill_eq place Zao _
def builtC (P : Program) (t : Nat) (parts : List (Nat × Array Value)) : Option (Array Value) :=
  match P.info? t, P.underlying t with
  | some it, some (.array _ e) =>
    match it.zero, P.info? e with
    | some z, some ie => fillC (fun i => some (i * ie.size, ie.size)) z.cells parts
    | _, _ => none
  | some it, some (.struct fields) =>
    match it.zero, fields.toList.mapM (fun f => (P.info? f.type).map fun i => (f.offset, i.size)) with
    | some z, some places => fillC (places.toArray[·]?) z.cells parts
    | _, _ => none
  | _, _ => none
theorem built_eq (P : Program) (t : Nat) (parts : List (Nat × Value)) : P.built t parts = builtC P t (parts.map fun p => (p.1, p.2.cells)) := by
  unfold Program.built builtC
  cases P.info? t with
  | none => rfl
  | some it =>
    cases P.underlying t with
    | none => rfl
    | some dd =>
      cases dd with
      | array m e => dsimp only; cases it.zero <;> cases P.info? e <;> first | rfl | exact fill_eq _ _ _
      | struct fs =>
        dsimp only
        generalize fs.toList.mapM (fun f => (P.info? f.type).map fun i => (f.offset, i.size)) = pl
        cases it.zero <;> cases pl <;> first | rfl | exact fill_eq _ _ _
      | _ => rfl
def builtS (P : Program) (t len : Nat) (parts : List (Nat × Array Value)) : Option (Nat × Array Value) :=
  match P.underlying t with
  | some (.slice e) =>
    match P.info? e with
    | some ie =>
      if len * ie.size > 2 ^ 24 then none else
      match ie.zero with
      | some z => (fillC (fun i => some (i * ie.size, ie.size)) ((Array.range (len * ie.size)).map (fun i => z.cells[i % z.cells.size]!)) parts).map fun c => (e, c)
      | none => none
    | none => none
  | _ => none
theorem Sl.cells1 {α : Type} {K : Kd α} {w : World} {F : Nat → Prop} {v : Value} {xs : List α} (h : Sl K w F v xs) : v.cells = #[v] := by obtain ⟨A, c, rfl, _⟩ := h; rfl
theorem Own.cells1 {α : Type} {K : Kd α} {e base : Nat} {w : World} {F : Nat → Prop} {v : Value} {xs : List α} (h : Own K e base w F v xs) : v.cells = #[v] := h.sl.cells1
section
variable {P : Program} {ops : Array Oper} {Q : Exit → Act → World → Prop} {Zao : List Oper} {n : Nat} {D : List Deferred} {ρ : Env} {w : World}
variable {d ty : Nat} {pos : String} {after : Array Edge} {gd : Option (Nat × Bool)} {C : Value → World → Prop} {x y z : Operand}
theorem parts_eq {a : Act} (hF : Fr n D ρ a) : ∀ {ps : List (Nat × Operand)} {vs : List Value}, opvs ρ (ps.map (·.2)) = some vs → (ps.map fun (p : Nat × Operand) => (p.1, a.eval p.2)) = (ps.map (·.1)).zip vs
  | [], vs, h => by simp
  | p :: r, vs, h => by
    simp only [List.map_cons] at h
    unfold opvs at h
    split at h
    · rename_i v hv
      split at h
      · rename_i us hu
        cases h
        simp [hF.eval hv, parts_eq hF hu]
      · cases h
    · cases h
theorem Zlo : ∀ (is : List Nat) (vs : List Value), (is.zip vs).map (fun p => (p.1, p.2.cells)) = is.zip (vs.map Value.cells)
  | [], vs => by simp
  | i :: is, [] => by simp
  | i :: is, v :: vs => by simp [Zlo is vs]
theorem Zbe {t : Nat} {ps : List (Nat × Operand)} {vs : List Value} {ccs : List (Array Value)} {cells : List Value} (hx : opvs ρ (ps.map (·.2)) = some vs) (hc : vs.map Value.cells = ccs) (hb : builtC P t ((ps.map (·.1)).zip ccs) = some cells.toArray)
    (k : C (.agg cells.toArray) w) : OpW P ⟨some d, .build t ps.toArray, ty, pos, after, gd⟩ n D ρ w C := by
  intro a hF Q
  unfold Oper.wp
  have h1 := parts_eq hF hx
  have h2 : P.built t (ps.map fun (p : Nat × Operand) => (p.1, a.eval p.2)) = some cells.toArray := by rw [built_eq, h1, Zlo, hc]; exact hb
  have : (execOp a.eval ⟨some d, .build t ps.toArray, ty, pos, after, gd⟩).run P w = .ok (.value (.agg cells.toArray)) w := by
    have := run_build w t (ps.toArray.map fun (p : Nat × Operand) => (p.1, a.eval p.2)) cells.toArray (by simpa using h2)
    simp only [execOp]
    simp only [Sem.run_bind]
    rw [this]; rfl
  rw [this, Oper.upon_value]
  exact ⟨_, rfl, k⟩
theorem Zau {t len e : Nat} {ps : List (Nat × Operand)} {vs : List Value} {ccs : List (Array Value)} {cells : List Value} (hx : opvs ρ (ps.map (·.2)) = some vs) (hc : vs.map Value.cells = ccs) (hb : builtS P t len ((ps.map (·.1)).zip ccs) = some (e, cells.toArray)) (hpos : 0 < len)
    (hnz : ∃ ie, P.info? e = some ie ∧ 0 < ie.size)
    (k : ∀ g w', w.heap.size = g → Blk w' g e cells.toArray → w.grownBy w' none → w'.heap.size = g + 1 → C (.slice (some ⟨g, 0, none⟩) len len) w') : OpW P ⟨some d, .buildSlice t len ps.toArray, ty, pos, after, gd⟩ n D ρ w C := by
  intro a hF Q
  unfold Oper.wp
  have h1 := parts_eq hF hx
  have : (execOp a.eval ⟨some d, .buildSlice t len ps.toArray, ty, pos, after, gd⟩).run P w = .ok (.value (.slice (some ⟨w.heap.size, 0, none⟩) len len)) (w.alloc (.cells cells.toArray e)) := by
    unfold builtS at hb
    cases hu : P.underlying t with
    | none => simp [hu] at hb
    | some dd =>
      cases dd <;> simp only [hu] at hb <;> try (cases hb; done)
      rename_i e'
      cases hi : P.info? e' with
      | none => simp [hi] at hb
      | some ie =>
        simp only [hi] at hb
        split at hb
        · cases hb
        · rename_i hle
          cases hz : ie.zero with
          | none => simp [hz] at hb
          | some zv =>
            simp only [hz] at hb
            rw [← hc, ← Zlo, ← h1, ← fill_eq] at hb
            cases hfill : Instr.fill (fun i => some (i * ie.size, ie.size)) ((Array.range (len * ie.size)).map (fun i => zv.cells[i % zv.cells.size]!)) (ps.map fun (p : Nat × Operand) => (p.1, a.eval p.2)) with
            | none => rw [hfill] at hb; simp at hb
            | some cs =>
              rw [hfill] at hb
              simp at hb
              obtain ⟨rfl, rfl⟩ := hb
              obtain ⟨ie2, hi2, hpos2⟩ := hnz
              rw [hi] at hi2; cases hi2
              have hne : ¬ (len * ie.size = 0) := by
                have := Nat.mul_pos hpos hpos2; omega
              have hmap : (ps.toArray.map fun (p : Nat × Operand) => (p.1, a.eval p.2)).toList = ps.map fun (p : Nat × Operand) => (p.1, a.eval p.2) := by simp
              simp only [execOp, Instr.buildSlice, Sem.run_bind, run_underlying hu, Result.andThen_ok, sizeOf, typeInfo, run_program, hi, Sem.run_pure]
              rw [if_neg hle, if_neg hne]
              simp only [zeroValue, typeInfo, Sem.run_bind, run_program, Result.andThen_ok, hi, Sem.run_pure, hz]
              rw [hmap, hfill]
              simp [newRow]
  rw [this, Oper.upon_value]
  exact ⟨_, rfl, k _ _ rfl (Blk.new w e cells.toArray) (Ze8 _ _) (by simp)⟩
end
end Go.Gw
namespace Go.Gw
open Go.RowKit
section
variable {P : Program} {n : Nat} {D : List Deferred} {ρ : Env} {w : World}
variable {d ty xt yt : Nat} {pos : String} {after : Array Edge} {gd : Option (Nat × Bool)} {C : Value → World → Prop} {x y z : Operand}
theorem nz_of {P : Program} {e : Nat} (h : ((P.info? e).map fun i => decide (0 < i.size)) = some true) : ∃ ie, P.info? e = some ie ∧ 0 < ie.size := by
  cases hi : P.info? e with
  | none => rw [hi] at h; cases h
  | some i => rw [hi] at h; exact ⟨i, rfl, by simpa using h⟩
structure EqF {κ : Type} [DecidableEq κ] (P : Program) (t : Nat) (ek : κ → Value) : Prop where
  eq : ∀ a b w, (Op.equal t (ek a) (ek b)).run P w = .ok (decide (a = b)) w
  agg : ∀ a, ∃ cs, ek a = .agg cs
  guard : P.eqGuardType P.depth t = false
theorem s_eqnode {κ : Type} [DecidableEq κ] {ek : κ → Value} {a b : κ} (h : EqF P xt ek) (hx : opv ρ x = some (ek a)) (hy : opv ρ y = some (ek b)) (k : C (.bool (decide (a = b))) w) : OpW P ⟨some d, .binOp .eql xt x y yt, ty, pos, after, gd⟩ n D ρ w C := by
  obtain ⟨cs, hc⟩ := h.agg a
  obtain ⟨ds, hd⟩ := h.agg b
  have he := h.eq a b w
  refine Zh8 hx hy (fun w => ?_) ?_ k
  · rw [hc, hd]; exact run_eqGuard_agg w _ _ _ _ _ _ h.guard
  · rw [hc, hd] at he ⊢
    simp [binOp, he]
theorem s_nenode {κ : Type} [DecidableEq κ] {ek : κ → Value} {a b : κ} (h : EqF P xt ek) (hx : opv ρ x = some (ek a)) (hy : opv ρ y = some (ek b)) (k : C (.bool (decide (a ≠ b))) w) : OpW P ⟨some d, .binOp .neq xt x y yt, ty, pos, after, gd⟩ n D ρ w C := by
  obtain ⟨cs, hc⟩ := h.agg a
  obtain ⟨ds, hd⟩ := h.agg b
  have he := h.eq a b w
  refine Zh8 hx hy (fun w => ?_) ?_ k
  · rw [hc, hd]; exact run_eqGuard_agg w _ _ _ _ _ _ h.guard
  · rw [hc, hd] at he ⊢
    simp [binOp, he]
theorem s_eqbool {a b : Bool} (ht : P.underlying xt = some .bool) (hx : opv ρ x = some (.bool a)) (hy : opv ρ y = some (.bool b)) (k : C (.bool (a == b)) w) : OpW P ⟨some d, .binOp .eql xt x y yt, ty, pos, after, gd⟩ n D ρ w C :=
  Zh8 hx hy (fun w => by unfold eqGuard; split <;> simp) (by
    have h := run_equalIn_bool' (P := P) w 9999 xt a b ht
    simp only [binOp, Op.equal, Op.maxDepth]
    simp [h]) k
theorem s_nebool {a b : Bool} (ht : P.underlying xt = some .bool) (hx : opv ρ x = some (.bool a)) (hy : opv ρ y = some (.bool b)) (k : C (.bool (a != b)) w) : OpW P ⟨some d, .binOp .neq xt x y yt, ty, pos, after, gd⟩ n D ρ w C :=
  Zh8 hx hy (fun w => by unfold eqGuard; split <;> simp) (by
    have h := run_equalIn_bool' (P := P) w 9999 xt a b ht
    simp only [binOp, Op.equal, Op.maxDepth]
    simp [h]; cases a <;> cases b <;> rfl) k
theorem eqF_node {t ta ti : Nat} (h : NodeF P t ta ti) {κ : Type} [DecidableEq κ] (f : κ → Int × Int × Int × Int × Int) (hf : ∀ a b, f a = f b → a = b) : EqF P t (fun a : κ => .agg (Zgb (f a).1 (f a).2.1 (f a).2.2.1 (f a).2.2.2.1 (f a).2.2.2.2)) := by
  refine ⟨fun a b w => ?_, fun a => ⟨_, rfl⟩, h.guard⟩
  rw [Op.equal, show Op.maxDepth = 9997 + 3 from rfl, Zl5 h]
  congr 1
  rw [decide_eq_decide]
  constructor
  · rintro ⟨h1, h2, h3, h4, h5⟩
    exact hf a b (Prod.ext h1 (Prod.ext h2 (Prod.ext h3 (Prod.ext h4 h5))))
  · rintro rfl; exact ⟨rfl, rfl, rfl, rfl, rfl⟩
end
end Go.Gw
namespace Go.Gw
open Go.RowKit
section
variable {P : Program} {n : Nat} {D : List Deferred} {ρ : Env} {w : World}
variable {d ty : Nat} {pos : String} {after : Array Edge} {gd : Option (Nat × Bool)} {C : Value → World → Prop} {x y z : Operand}
variable {α : Type} {K : Kd α} {F : Nat → Prop} {v : Value} {xs : List α}
theorem Sl.none (h : Sl K w F v xs) : Sl K w (fun _ => False) v xs := h.weak fun _ _ h => h.elim
theorem sl_part {A : Option Addr} {c l h m : Nat} (hl : Sl K w F (.slice A xs.length c) xs) (h0 : l ≤ h) (h1 : h ≤ xs.length) (h2 : h ≤ m) (h3 : m ≤ c) :
    Sl K w F (.slice (if m = l then A else A.map (·.add (l * K.sz))) (h - l) (m - l)) ((xs.take h).drop l) := by
  obtain ⟨A', c', e, a1, a2, a3⟩ := hl
  cases e
  have hlen : ((xs.take h).drop l).length = h - l := by simp; omega
  rw [← hlen]
  refine ⟨_, m - l, rfl, by omega, by omega, fun i y hy => ?_⟩
  have hi : i < h - l := by rw [← hlen]; exact (List.getElem?_eq_some_iff.1 hy).1
  rw [List.getElem?_drop, List.getElem?_take, if_pos om] at hy
  obtain ⟨g, o, us, rfl, hg, hF, hr, hc⟩ := a3 (l + i) y hy
  rw [if_neg om]
  refine ⟨g, o + l * K.sz, us, by simp [Addr.add_mid], hg, hF, hr, ?_⟩
  rw [show o + l * K.sz + i * K.sz = o + (l + i) * K.sz by rw [Nat.add_mul]; omega]
  exact hc
theorem s_sllo {t e by_ : Nat} {zv : Value} {kd : IntKind} {i : Int} (hs : SlF P t e K.sz by_ zv) (hx : opv ρ x = some v) (hy : opv ρ y = some (.int kd i)) (hl : Sl K w F v xs) (h0 : 0 ≤ i) (h1 : i ≤ xs.length)
    (k : ∀ v', Sl K w F v' (xs.drop i.toNat) → C v' w) : OpW P ⟨some d, .slice t x (some y) none none, ty, pos, after, gd⟩ n D ρ w C := by
  obtain ⟨A, c, rfl, a1, a2, a3⟩ := id hl
  obtain ⟨inf, hinf, hzero, hsz, hby⟩ := hs.inf
  have hp := sl_part (l := i.toNat) (h := xs.length) (m := c) hl om (Nat.le_refl _) a1 (Nat.le_refl _)
  rw [List.take_length] at hp
  refine Za3 (fun ev he => ?_) (k _ hp)
  have hb : (Instr.sliceBound (.int kd i) xs.length .sliceB).run P w = .ok i.toNat w := by simp [Instr.sliceBound, asIntOf, h0, h1]
  simp [execOp, he x _ hx, he y _ hy, Instr.sliceAt, Instr.slice, run_underlying hs.und, Instr.sliceBounds, hb, sizeOf, typeInfo, hinf, hsz]
theorem s_slhi {t e by_ : Nat} {zv : Value} {kd : IntKind} {i : Int} (hs : SlF P t e K.sz by_ zv) (hx : opv ρ x = some v) (hy : opv ρ y = some (.int kd i)) (hl : Sl K w F v xs) (h0 : 0 ≤ i) (h1 : i ≤ xs.length)
    (k : ∀ v', Sl K w F v' (xs.take i.toNat) → C v' w) : OpW P ⟨some d, .slice t x none (some y) none, ty, pos, after, gd⟩ n D ρ w C := by
  obtain ⟨A, c, rfl, a1, a2, a3⟩ := id hl
  obtain ⟨inf, hinf, hzero, hsz, hby⟩ := hs.inf
  have hp := sl_part (l := 0) (h := i.toNat) (m := c) hl om om om (Nat.le_refl _)
  rw [List.drop_zero] at hp
  refine Za3 (fun ev he => ?_) (k _ hp)
  have hb : (Instr.sliceBound (.int kd i) c .sliceAcap).run P w = .ok i.toNat w := by
    have : i ≤ c := by omega
    simp [Instr.sliceBound, asIntOf, h0, this]
  simp [execOp, he x _ hx, he y _ hy, Instr.sliceAt, Instr.slice, run_underlying hs.und, Instr.sliceBounds, hb, sizeOf, typeInfo, hinf, hsz]
theorem Zhr {t e by_ base : Nat} {zv : Value} (hs : SlF P t e K.sz by_ zv) (hbase : base ≤ w.heap.size) (hF : ∀ k, F k → k < w.heap.size)
    (k : ∀ v w', Own K e base w' F v [] → w.grownBy w' none → C v w') : OpW P ⟨some d, .buildSlice t 0 #[], ty, pos, after, gd⟩ n D ρ w C := by
  obtain ⟨inf, hinf, hzero, hsz, hby⟩ := hs.inf
  refine Za3 (v := .slice (some ⟨w.heap.size, 0, none⟩) 0 0) (w' := w.alloc (.cells #[] e)) (fun ev he => ?_) (k _ _ ⟨⟨[], rfl, fun i u x hu => by simp at hu, ⟨by simp, .inr ⟨_, 0, #[], rfl, hbase, heap_alloc_new w _, Nat.le_refl _, by simp [maxLen], by simp, by simp⟩⟩⟩, ?_⟩ (Ze8 _ _))
  · simp [execOp, Instr.buildSlice, run_underlying hs.und, sizeOf, typeInfo, hinf, Instr.fill, newRow]
    rw [show (Array.map (fun _ => (default : Value)) (Array.range 0)) = #[] from Array.eq_empty_of_size_eq_zero (by simp)]
  · intro g hg'
    simp [Value.ownBlock] at hg'
    subst hg'
    intro hf
    exact absurd (hF _ hf) om
theorem flatten_cut {sz : Nat} (us : List (List Value)) (hl : ∀ u ∈ us, u.length = sz) (i : Nat) (u : List Value) (h : us[i]? = some u) : (us.flatten.drop (i * sz)).take u.length = u := by
  have hu := hl u (List.mem_of_getElem? h)
  apply List.ext_getElem?
  intro j
  rw [List.getElem?_take]
  split
  · rename_i hj
    rw [List.getElem?_drop]
    exact Zdr us hl i j u h om
  · rename_i hj
    rw [List.getElem?_eq_none om]
theorem sl_lit {g t m : Nat} {us : List (List Value)} (h : Blk w g t us.flatten.toArray) (hl : us.length = xs.length) (hsz : ∀ u ∈ us, u.length = K.sz) (hF : ¬ F g) (hm : m = xs.length) (h63 : m ≤ 9223372036854775807)
    (hr : ∀ (i : Nat) (u : List Value) (x : α), us[i]? = some u → xs[i]? = some x → K.rep w F u x) : Sl K w F (.slice (some ⟨g, 0, none⟩) m m) xs := by
  subst hm
  refine ⟨_, xs.length, rfl, Nat.le_refl _, by simp only [maxLen]; omega, fun i x hi => ?_⟩
  have hil : i < us.length := by rw [hl]; exact (List.getElem?_eq_some_iff.1 hi).1
  have hu : us[i]? = some us[i] := by rw [List.getElem?_eq_getElem hil]
  exact ⟨g, 0, us[i], rfl, h.lt, hF, hr i _ x hu hi, Zld (i * K.sz) h.range (flatten_cut us hsz i _ hu)⟩
end
end Go.Gw
