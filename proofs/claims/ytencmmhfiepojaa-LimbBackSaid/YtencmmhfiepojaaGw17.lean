/- Part of the proof that is named in YtencmmhfiepojaaLRowBack: a library for walks, or a function's walk. -/
import Derived.Test.YtencmmhfiepojaaGw16
import Derived.Lib.Bytealg
import Derived.Lib.Strings
import Derived.Laws.Externs
set_option linter.unusedSimpArgs false
set_option linter.unusedVariables false
/-! ### Strings -/
namespace Go.Gw
open Go.RowKit
/-- A string's bytes. -/
def bl (s : ByteArray) : List Int := s.data.toList.map fun b => (b.toNat : Int)
theorem bl_length (s : ByteArray) : (bl s).length = s.size := by unfold bl; rw [List.length_map]; rfl
theorem bl_append (a b : ByteArray) : bl (a ++ b) = bl a ++ bl b := by simp [bl, ByteArray.data_append]
theorem bl_extract (s : ByteArray) (i j : Nat) : bl (s.extract i j) = ((bl s).take j).drop i := by
  simp [bl, ByteArray.data_extract, Array.toList_extract, List.extract, List.map_drop, List.map_take]
  rw [List.take_drop]
  by_cases h : i ≤ j
  · rw [show i + (j - i) = j by omega]
  · rw [List.drop_eq_nil_of_le, List.drop_eq_nil_of_le] <;> simp <;> omega
theorem bl_inj {a b : ByteArray} : bl a = bl b ↔ a = b := by
  constructor
  · intro h
    have inj : ∀ l m : List UInt8, l.map (fun b => (b.toNat : Int)) = m.map (fun b => (b.toNat : Int)) → l = m := by
      intro l
      induction l with
      | nil => intro m h; cases m with
        | nil => rfl
        | cons y r => simp at h
      | cons x l ih => intro m h; cases m with
        | nil => simp at h
        | cons y r =>
          simp only [List.map_cons, List.cons.injEq] at h
          rw [ih r h.2, UInt8.toNat_inj.1 (show x.toNat = y.toNat by omega)]
    have h2 : a.data.toList = b.data.toList := inj _ _ h
    cases a; cases b; simp at h2; simp [h2]
  · rintro rfl; rfl
theorem bl_range (s : ByteArray) (i : Int) : 0 ≤ ix (bl s) i ∧ ix (bl s) i ≤ 255 := by
  unfold ix bl
  rw [List.getD_eq_getElem?_getD, List.getElem?_map]
  cases s.data.toList[i.toNat]? with
  | none => simp
  | some b => simp; have := b.toNat_lt; omega
section
variable {P : Program} {n : Nat} {D : List Deferred} {ρ : Env} {w : World}
variable {d ty : Nat} {pos : String} {after : Array Edge} {gd : Option (Nat × Bool)} {C : Value → World → Prop} {x y z : Operand} {s a b : ByteArray} {t : Nat}
structure StrF (P : Program) (t : Nat) : Prop where
  und : P.underlying t = some .string
theorem s_slen (ht : StrF P t) (hx : opv ρ x = some (.string s)) (k : C (.int .i64 ((bl s).length : Int)) w) :
    OpW P ⟨some d, .call { callee := .builtin .len, args := #[x], argTypes := #[t] }, ty, pos, after, gd⟩ n D ρ w C := by
  refine opw_val (fun ev he => ?_) k
  simp [execOp, resolve, invoke, builtin, he x _ hx, Builtin.len_, run_underlying ht.und, goInt, bl_length]
theorem s_sidx {kd : IntKind} {i : Int} (ht : StrF P t) (hx : opv ρ x = some (.string s)) (hy : opv ρ y = some (.int kd i)) (h0 : 0 ≤ i) (h1 : i < (bl s).length) (k : C (.int .u8 (ix (bl s) i)) w) :
    OpW P ⟨some d, .index t x y, ty, pos, after, gd⟩ n D ρ w C := by
  refine opw_val (fun ev he => ?_) k
  rw [bl_length] at h1
  have hi : i.toNat < s.size := by omega
  have e : ix (bl s) i = ((s[i.toNat]'hi).toNat : Int) := by
    unfold ix bl
    rw [List.getD_eq_getElem?_getD, List.getElem?_map, Array.getElem?_toList, Array.getElem?_eq_getElem (show i.toNat < s.data.size from hi)]
    rfl
  simp [execOp, Instr.index, asIntOf, he x _ hx, he y _ hy, run_underlying ht.und, h0, hi, e]
theorem s_scut {kd : IntKind} {j : Int} (ht : StrF P t) (hx : opv ρ x = some (.string s)) (hy : opv ρ y = some (.int kd j)) (h0 : 0 ≤ j) (h1 : j ≤ (bl s).length) (k : C (.string (s.extract 0 j.toNat)) w) :
    OpW P ⟨some d, .slice t x none (some y) none, ty, pos, after, gd⟩ n D ρ w C := by
  refine opw_val (fun ev he => ?_) k
  rw [bl_length] at h1
  simp [execOp, he x _ hx, he y _ hy, Instr.sliceAt, Instr.slice, run_underlying ht.und, Instr.sliceBounds, Instr.sliceBound, asIntOf, h0, h1]
theorem s_scat {yt : Nat} (hx : opv ρ x = some (.string a)) (hy : opv ρ y = some (.string b)) (h : (bl a).length + (bl b).length ≤ 9223372036854775807) (k : C (.string (a ++ b)) w) :
    OpW P ⟨some d, .binOp .add t x y yt, ty, pos, after, gd⟩ n D ρ w C := by
  rw [bl_length, bl_length] at h
  refine opw_val (fun ev he => ?_) k
  simp [execOp, he x _ hx, he y _ hy, eqGuard, binOp, Op.stringOp]
  omega
theorem str_eq (a b : ByteArray) : (a.toList == b.toList) = decide (bl a = bl b) := by
  rw [Lib.toList_data, Lib.toList_data, Bool.eq_iff_iff, beq_iff_eq, decide_eq_true_eq, bl_inj]
  constructor
  · intro h; cases a; cases b; simp at h; simp [h]
  · rintro rfl; rfl
theorem s_seq {yt : Nat} (hx : opv ρ x = some (.string a)) (hy : opv ρ y = some (.string b)) (k : C (.bool (decide (bl a = bl b))) w) :
    OpW P ⟨some d, .binOp .eql t x y yt, ty, pos, after, gd⟩ n D ρ w C := by
  refine opw_val (fun ev he => ?_) k
  simp [execOp, he x _ hx, he y _ hy, eqGuard, binOp, Op.stringOp, str_eq]
theorem s_sne {yt : Nat} (hx : opv ρ x = some (.string a)) (hy : opv ρ y = some (.string b)) (k : C (.bool (decide (bl a ≠ bl b))) w) :
    OpW P ⟨some d, .binOp .neq t x y yt, ty, pos, after, gd⟩ n D ρ w C := by
  refine opw_val (fun ev he => ?_) k
  simp [execOp, he x _ hx, he y _ hy, eqGuard, binOp, Op.stringOp, str_eq]
theorem s_min {kd kd' : IntKind} {i j : Int} {ats : Array TypeId} (hx : opv ρ x = some (.int kd i)) (hy : opv ρ y = some (.int kd' j)) (k : C (.int kd (min i j)) w) :
    OpW P ⟨some d, .call { callee := .builtin .min, args := #[x, y], argTypes := ats }, ty, pos, after, gd⟩ n D ρ w C := by
  refine opw_val (fun ev he => ?_) k
  have e : (if j < i then j else i) = min i j := by omega
  simp [execOp, resolve, invoke, builtin, he x _ hx, he y _ hy, Builtin.min_, Builtin.min2, e]
/-- A function of the library that is not in Go. -/
structure ExtF (P : Program) (f : Nat) (e : Array Value → Sem Value) : Prop where
  out : ∃ fn, P.funcs[f]? = some fn ∧ (fn.name == "runtime.NumGoroutine") = false ∧ fn.body.isNone = true ∧ Extern.findNext fn = none ∧ Extern.find fn = some e
theorem s_calle {f : Nat} {e : Array Value → Sem Value} {args : List Operand} {ats : Array TypeId} {vs : List Value} {v : Value} (hf : ExtF P f e) (ha : opvs ρ args = some vs)
    (hr : ∀ w, (e vs.toArray).run P w = .ok v w) (k : C v w) :
    OpW P ⟨some d, .call { callee := .value (.func f), args := args.toArray, argTypes := ats }, ty, pos, after, gd⟩ n D ρ w C := by
  obtain ⟨fn, h1, h2, h3, h4, h5⟩ := hf.out
  intro a hF Q
  unfold Oper.wp
  have he : (execOp a.eval ⟨some d, .call { callee := .value (.func f), args := args.toArray, argTypes := ats }, ty, pos, after, gd⟩).run P w = .ok (.value v) w := by
    have hv : args.map a.eval = vs := hF.evals ha
    simp [execOp, resolve, Act.eval, Deferred.ofValue, invoke, hv, run_callFunc_extern h1 h2 h3 h4 h5, hr]
  rw [he, Oper.upon_value]
  exact ⟨v, rfl, k⟩
theorem bl_count (s : ByteArray) (c : Int) (h0 : 0 ≤ c) (h1 : c ≤ 255) : (Lib.countByte s.data.toList c.toNat.toUInt8 : Int) = ((bl s).count c : Nat) := by
  have e : ∀ l : List UInt8, l.count c.toNat.toUInt8 = (l.map fun b => (b.toNat : Int)).count c := by
    intro l
    induction l with
    | nil => rfl
    | cons x r ih =>
      rw [List.count_cons, List.map_cons, List.count_cons, ih]
      congr 1
      have : (x == c.toNat.toUInt8) = ((x.toNat : Int) == c) := by
        rw [Bool.eq_iff_iff, beq_iff_eq, beq_iff_eq]
        constructor
        · rintro rfl; simp; omega
        · intro h; apply UInt8.toNat_inj.1; simp; omega
      rw [this]
  unfold Lib.countByte bl
  rw [e]
theorem s_count {f : Nat} {c : Int} {ats : Array TypeId} (hf : ExtF P f Extern.BytealgCount.count) (hx : opv ρ x = some (.string s)) (hy : opv ρ y = some (.int .u8 c)) (h0 : 0 ≤ c) (h1 : c ≤ 255) (k : C (.int .i64 (((bl s).count c : Nat) : Int)) w) :
    OpW P ⟨some d, .call { callee := .value (.func f), args := #[x, y], argTypes := ats }, ty, pos, after, gd⟩ n D ρ w C := by
  refine s_calle (args := [x, y]) (vs := [.string s, .int .u8 c]) hf (by simp [opvs, hx, hy]) (fun w => ?_) (v := .int .i64 (((bl s).count c : Nat) : Int)) k
  rw [← bl_count s c h0 h1]
  exact Lib.run_countString s c w
end
end Go.Gw
