/- Part of the proof that is named in YtencmmhfiepojaaLRowBack: a library for walks, or a function's walk. -/
import Derived.Test.YtencmmhfiepojaaGw8
import Derived.ChangeKeysEq
set_option linter.unusedSimpArgs false
set_option linter.unusedVariables false
namespace Go.Gw
open Go.RowKit
section
variable {P : Program}
theorem size_of {t k : Nat} (h : (P.info? t).map (·.size) = some k) : ∃ i, P.info? t = some i ∧ i.size = k := by
  cases hi : P.info? t with
  | none => simp [hi] at h
  | some i => exact ⟨i, rfl, by simpa [hi] using h⟩
def fieldsAre (P : Program) (t : Nat) : List (Bool × Nat × Nat) :=
  match P.underlying t with
  | some (.struct fs) => fs.toList.map fun f => (f.name != "_", f.type, f.offset)
  | _ => []
/-- What is asked of the tables: a struct of a number and an array of four numbers. -/
structure NodeF (P : Program) (t ta ti : Nat) : Prop where
  is : fieldsAre P t = [(true, ti, 0), (true, ta, 1)]
  held : P.stoodInHeld t = false
  guard : P.eqGuardType P.depth t = false
  arr : P.underlying ta = some (.array 4 ti)
  int : P.underlying ti = some (.int .i64)
  si : (P.info? ti).map (·.size) = some 1
  sa : (P.info? ta).map (·.size) = some 4
theorem NodeF.fs {P : Program} {t ta ti : Nat} (h : NodeF P t ta ti) : ∃ f0 f1 : Field, P.underlying t = some (.struct #[f0, f1]) ∧ (f0.name ≠ "_" ∧ f1.name ≠ "_") ∧ (f0.type = ti ∧ f1.type = ta) ∧ f0.offset = 0 ∧ f1.offset = 1 := by
  have h := h.is
  unfold fieldsAre at h
  split at h
  · rename_i fs hu
    obtain ⟨l⟩ := fs
    have hl : l.length = 2 := by have := congrArg List.length h; simpa using this
    match l, hl, h with
    | [f0, f1], _, h =>
      simp at h
      exact ⟨f0, f1, hu, ⟨h.1.1, h.2.1⟩, ⟨h.1.2.1, h.2.2.1⟩, h.1.2.2, h.2.2.2⟩
  · cases h
def four (a b c e : Int) : Array Value := #[.int .i64 a, .int .i64 b, .int .i64 c, .int .i64 e]
theorem run_part_int {ti : Nat} (int : P.underlying ti = some (.int .i64)) (cs : Array Value) (j : Nat) (v : Value) (hv : cs[j]? = some v) (w : World) : (part ti cs j).run P w = .ok v w := by
  have hagg : (isAgg ti).run P w = .ok false w := by unfold isAgg; rw [Sem.run_bind, run_underlying int w]; rfl
  simp [part, Sem.run_bind, hagg, hv]
theorem run_eq_int {ti : Nat} (int : P.underlying ti = some (.int .i64)) (d : Nat) (a b : Int) (w : World) : (Op.equalIn (d + 1) ti (.int .i64 a) (.int .i64 b)).run P w = .ok (a == b) w := run_equalIn_int w d ti .i64 .i64 a b int
theorem run_eq_four {ta ti : Nat} (arr : P.underlying ta = some (.array 4 ti)) (int : P.underlying ti = some (.int .i64)) (si : (P.info? ti).map (·.size) = some 1) (d : Nat) (a b c e a' b' c' e' : Int) (w : World) :
    (Op.equalIn (d + 2) ta (.agg (four a b c e)) (.agg (four a' b' c' e'))).run P w = .ok (decide (a = a' ∧ b = b' ∧ c = c' ∧ e = e')) w := by
  obtain ⟨i, hi, hs⟩ := size_of si
  have hc : P.cellsOf ti = 1 := by simp [Program.cellsOf, hi, hs]
  rw [run_equalIn_array w (d + 1) _ _ arr hi, hc]
  have hr : List.range 4 = [0, 1, 2, 3] := rfl
  rw [hr]
  have p := fun (cs : Array Value) (j : Nat) (v : Value) (hv : cs[j]? = some v) (w : World) => run_part_int (P := P) int cs j v hv w
  simp only [Op.eqItems, Sem.run_bind, Nat.zero_mul, Nat.one_mul, Nat.mul_one]
  rw [p (four a b c e) 0 (.int .i64 a) rfl, Result.andThen_ok, p (four a' b' c' e') 0 (.int .i64 a') rfl, Result.andThen_ok, run_eq_int int, Result.andThen_ok]
  by_cases h0 : a = a'
  · subst h0
    simp only [beq_self_eq_true, Bool.not_true, Bool.false_eq_true, if_false, Sem.run_bind]
    rw [p (four a b c e) 1 (.int .i64 b) rfl, Result.andThen_ok, p (four a b' c' e') 1 (.int .i64 b') rfl, Result.andThen_ok, run_eq_int int, Result.andThen_ok]
    by_cases h1 : b = b'
    · subst h1
      simp only [beq_self_eq_true, Bool.not_true, Bool.false_eq_true, if_false, Sem.run_bind]
      rw [p (four a b c e) 2 (.int .i64 c) rfl, Result.andThen_ok, p (four a b c' e') 2 (.int .i64 c') rfl, Result.andThen_ok, run_eq_int int, Result.andThen_ok]
      by_cases h2 : c = c'
      · subst h2
        simp only [beq_self_eq_true, Bool.not_true, Bool.false_eq_true, if_false, Sem.run_bind]
        rw [p (four a b c e) 3 (.int .i64 e) rfl, Result.andThen_ok, p (four a b c e') 3 (.int .i64 e') rfl, Result.andThen_ok, run_eq_int int, Result.andThen_ok]
        by_cases h3 : e = e'
        · subst h3; simp
        · simp [h3]
      · simp [h2]
    · simp [h1]
  · simp [h0]
def nodeA (l a b c e : Int) : Array Value := #[.int .i64 l, .int .i64 a, .int .i64 b, .int .i64 c, .int .i64 e]
theorem run_eq_node {t ta ti : Nat} (h : NodeF P t ta ti) (d : Nat) (l a b c e l' a' b' c' e' : Int) (w : World) :
    (Op.equalIn (d + 3) t (.agg (nodeA l a b c e)) (.agg (nodeA l' a' b' c' e'))).run P w = .ok (decide (l = l' ∧ a = a' ∧ b = b' ∧ c = c' ∧ e = e')) w := by
  obtain ⟨f0, f1, hu, ⟨n0, n1⟩, ⟨t0, t1⟩, o0, o1⟩ := h.fs
  have hfs : P.fieldsOf t = #[f0, f1] := by simp [Program.fieldsOf, hu]
  rw [run_equalIn_struct w (d + 2) t _ _ (by rw [hfs]; exact hu) h.held, hfs]
  have p := fun (cs : Array Value) (j : Nat) (v : Value) (hv : cs[j]? = some v) (w : World) => run_part_int (P := P) h.int cs j v hv w
  obtain ⟨ia, hia, hsa⟩ := size_of h.sa
  have hagg : ∀ w, (isAgg ta).run P w = .ok true w := fun w => by unfold isAgg; rw [Sem.run_bind, run_underlying h.arr w]; rfl
  have q : ∀ (l a b c e : Int) (w : World), (part ta (nodeA l a b c e) 1).run P w = .ok (.agg (four a b c e)) w := fun l a b c e w => by
    simp [part, Sem.run_bind, hagg, sizeOf, typeInfo, hia, hsa, nodeA, four]
  simp only [Op.eqFields, n0, n1, ne_eq, not_false_eq_true, if_true, t0, t1, o0, o1, Sem.run_bind]
  rw [p (nodeA l a b c e) 0 (.int .i64 l) rfl, Result.andThen_ok, p (nodeA l' a' b' c' e') 0 (.int .i64 l') rfl, Result.andThen_ok, run_eq_int h.int, Result.andThen_ok]
  by_cases h0 : l = l'
  · subst h0
    simp only [beq_self_eq_true, Bool.not_true, Bool.false_eq_true, if_false, Sem.run_bind]
    rw [q, Result.andThen_ok, q, Result.andThen_ok, run_eq_four h.arr h.int h.si, Result.andThen_ok]
    by_cases h1 : a = a' ∧ b = b' ∧ c = c' ∧ e = e'
    · simp [h1]
    · simp [h1]
  · simp [h0]
theorem run_check_int {ti : Nat} (int : P.underlying ti = some (.int .i64)) (em : Bool) (d : Nat) (a : Int) (w : World) : (Instr.checkKey em (d + 1) ti (.int .i64 a)).run P w = .ok () w := by
  simp [Instr.checkKey, run_underlying int]
theorem run_check_four {ta ti : Nat} (arr : P.underlying ta = some (.array 4 ti)) (int : P.underlying ti = some (.int .i64)) (si : (P.info? ti).map (·.size) = some 1) (em : Bool) (d : Nat) (a b c e : Int) (w : World) :
    (Instr.checkKey em (d + 2) ta (.agg (four a b c e))).run P w = .ok () w := by
  obtain ⟨i, hi, hs⟩ := size_of si
  have p := fun (cs : Array Value) (j : Nat) (v : Value) (hv : cs[j]? = some v) (w : World) => run_part_int (P := P) int cs j v hv w
  have hr : List.range' 0 4 = [0, 1, 2, 3] := rfl
  have hso : ∀ w, (sizeOf ti).run P w = .ok 1 w := fun w => by simp [sizeOf, typeInfo, hi, hs]
  have hk := fun (a : Int) (w : World) => run_check_int (P := P) int em d a w
  rw [Instr.checkKey]
  generalize Instr.checkKey em (d + 1) = f at hk ⊢
  simp only [Sem.run_bind, run_underlying arr, Result.andThen_ok]
  simp only [Std.Legacy.Range.forIn_eq_forIn_range', Std.Legacy.Range.size, Nat.sub_zero, Nat.add_one_sub_one, Nat.div_one, Nat.add_sub_cancel, hr, List.forIn_cons, List.forIn_nil, Sem.run_bind, hso, Result.andThen_ok]
  simp only [Nat.zero_mul, Nat.one_mul, Nat.mul_one]
  rw [p (four a b c e) 0 (.int .i64 a) rfl, Result.andThen_ok, hk, Result.andThen_ok]
  simp only [Sem.run_bind, Sem.run_pure, Result.andThen_ok, hso, Nat.mul_one]
  rw [p (four a b c e) 1 (.int .i64 b) rfl, Result.andThen_ok, hk, Result.andThen_ok]
  simp only [Sem.run_bind, Sem.run_pure, Result.andThen_ok, hso, Nat.mul_one]
  rw [p (four a b c e) 2 (.int .i64 c) rfl, Result.andThen_ok, hk, Result.andThen_ok]
  simp only [Sem.run_bind, Sem.run_pure, Result.andThen_ok, hso, Nat.mul_one]
  rw [p (four a b c e) 3 (.int .i64 e) rfl, Result.andThen_ok, hk, Result.andThen_ok]
  simp
theorem run_check_node {t ta ti : Nat} (h : NodeF P t ta ti) (em : Bool) (d : Nat) (l a b c e : Int) (w : World) : (Instr.checkKey em (d + 3) t (.agg (nodeA l a b c e))).run P w = .ok () w := by
  obtain ⟨f0, f1, hu, ⟨n0, n1⟩, ⟨t0, t1⟩, o0, o1⟩ := h.fs
  have hk1 := fun (a : Int) (w : World) => run_check_int (P := P) h.int em (d + 1) a w
  have hk2 := fun (a b c e : Int) (w : World) => run_check_four (P := P) h.arr h.int h.si em d a b c e w
  have p := fun (cs : Array Value) (j : Nat) (v : Value) (hv : cs[j]? = some v) (w : World) => run_part_int (P := P) h.int cs j v hv w
  obtain ⟨ia, hia, hsa⟩ := size_of h.sa
  have hagg : ∀ w, (isAgg ta).run P w = .ok true w := fun w => by unfold isAgg; rw [Sem.run_bind, run_underlying h.arr w]; rfl
  have q : ∀ (w : World), (part ta (nodeA l a b c e) 1).run P w = .ok (.agg (four a b c e)) w := fun w => by
    simp [part, Sem.run_bind, hagg, sizeOf, typeInfo, hia, hsa, nodeA, four]
  rw [Instr.checkKey]
  generalize Instr.checkKey em (d + 2) = f at hk1 hk2 ⊢
  simp only [Sem.run_bind, run_underlying hu, Result.andThen_ok]
  simp only [← Array.forIn_toList, List.forIn_cons, List.forIn_nil, n0, n1, ne_eq, not_false_eq_true, if_true, t0, t1, o0, o1, Sem.run_bind]
  rw [p (nodeA l a b c e) 0 (.int .i64 l) rfl, Result.andThen_ok, hk1, Result.andThen_ok]
  simp only [Sem.run_bind, Sem.run_pure, Result.andThen_ok]
  rw [q, Result.andThen_ok, hk2, Result.andThen_ok]
  simp
end
end Go.Gw
