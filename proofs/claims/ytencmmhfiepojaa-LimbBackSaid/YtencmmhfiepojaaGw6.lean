/- Part of the proof that is named in YtencmmhfiepojaaLRowBack: a library for walks, or a function's walk. -/
import Derived.Test.YtencmmhfiepojaaGw5
set_option linter.unusedSimpArgs false
set_option linter.unusedVariables false
namespace Go.Gw
open Go.RowKit

/-- What a call without effects on what was there does. -/
abbrev Pure (w : World) (R : Value → World → Prop) (e : Ending) (w' : World) : Prop := ∃ v, e = .returned v ∧ Below w.heap.size w w' ∧ R v w'
def Loc (F : Nat → Prop) (w : World) (k : Nat) : Prop := F k ∨ w.heap.size ≤ k
theorem Loc.lt {F : Nat → Prop} {w : World} {b : Nat} (h : ¬ Loc F w b) : b < w.heap.size := by
  unfold Loc at h; omega
theorem Loc.no {F : Nat → Prop} {w : World} {b : Nat} (h : ¬ Loc F w b) : ¬ F b := fun hf => h (.inl hf)
section
variable {α : Type} {K : Kd α} {w w' : World} {F F' : Nat → Prop} {v : Value} {xs : List α}
theorem Sl.loc (h : Sl K w F v xs) : Sl K w (Loc F w) v xs := h.weak fun k hk hF => by unfold Loc at hF; rcases hF with h | h; exact h; omega
theorem Sl.at0 (h : Sl K w F v xs) (hb : Below w.heap.size w w') : Sl K w' (Loc F w) v xs := h.loc.below hb
theorem Sl.unloc {w0 : World} (h : Sl K w (Loc F w0) v xs) : Sl K w F v xs := h.weak fun k hk hF => .inl hF
theorem Sl.one (h : Sl K w F v xs) : v.oneCell' = true := by obtain ⟨A, c, rfl, _⟩ := h; rfl
end
theorem Blk.gne {w w' : World} {g g' t : Nat} {cs : Array Value} (h : Blk w g t cs) (hb : w.grownBy w' (some g')) (hg : g ≠ g') : Blk w' g t cs := h.grown hb (by simpa using hg)
def sel4 (a b c d : Int) (i : Int) : Int := if i = 0 then a else if i = 1 then b else if i = 2 then c else d
theorem grown_none_trans {a b c : World} (h : a.grownBy b none) (k : b.grownBy c none) : a.grownBy c none :=
  ⟨k.os.trans h.os, k.tape.trans h.tape, k.output.trans h.output, Nat.le_trans h.size k.size, fun i hi hn => (k.block i (Nat.lt_of_lt_of_le hi h.size) hn).trans (h.block i hi hn)⟩
theorem grown_none_refl (a : World) : a.grownBy a none := ⟨rfl, rfl, rfl, Nat.le_refl _, fun _ _ _ => rfl⟩

/-- Element number 'i' of the slice 'v' lies there. -/
def IdxAt (v : Value) (i : Int) (sz b o : Nat) : Prop := ∃ o0 n c, v = .slice (some ⟨b, o0, none⟩) n c ∧ 0 ≤ i ∧ i < (n : Int) ∧ o = o0 + i.toNat * sz
theorem Sl.elem {α : Type} [Inhabited α] {K : Kd α} {w : World} {F : Nat → Prop} {v : Value} {xs : List α} (h : Sl K w F v xs) (i : Int) (h0 : 0 ≤ i) (h1 : i < xs.length) :
    ∃ b o us, IdxAt v i K.sz b o ∧ K.rep w F us (ix xs i) ∧ w.rangeAt b o us ∧ ¬ F b ∧ b < w.heap.size := by
  obtain ⟨A, c, rfl, h2, h3, h4⟩ := h
  have hi : i.toNat < xs.length := by omega
  obtain ⟨g, o, us, rfl, hg, hF, hr, hc⟩ := h4 i.toNat xs[i.toNat] (by simp [hi])
  have he' : ix xs i = xs[i.toNat] := by simp [ix, hi]
  exact ⟨g, _, us, ⟨o, _, c, rfl, h0, h1, rfl⟩, by rw [he']; exact hr, hc, hF, hg⟩
section
variable {P : Program} {ops : Array Oper} {Q : Exit → Act → World → Prop} {rest : List Oper} {n : Nat} {D : List Deferred} {ρ : Env} {w : World}
variable {d ty : Nat} {pos : String} {after : Array Edge} {gd : Option (Nat × Bool)} {C : Value → World → Prop} {x y : Operand}

theorem w_condT {c : Operand} {x y : Code} (hc : opv ρ c = some (.bool true)) (ht : W P x Q n D ρ w) : W P (.cond c x y) Q n D ρ w := w_cond hc (fun _ => ht) (fun h => by cases h)
theorem w_condF {c : Operand} {x y : Code} (hc : opv ρ c = some (.bool false)) (hf : W P y Q n D ρ w) : W P (.cond c x y) Q n D ρ w := w_cond hc (fun h => by cases h) (fun _ => hf)

theorem s_iarr4 {t e : Nat} {kd k : IntKind} {a b c d' i : Int} (ht : ArrF P t 4 e 1) (he1 : OneF P e) (hx : opv ρ x = some (.agg [.int k a, .int k b, .int k c, .int k d'].toArray)) (hy : opv ρ y = some (.int kd i)) (h0 : 0 ≤ i) (h1 : i < 4)
    (h : C (.int k (sel4 a b c d' i)) w) : OpW P ⟨some d, .index t x y, ty, pos, after, gd⟩ n D ρ w C := by
  obtain ⟨dd, hu, hr, hs⟩ := he1.out
  have hinf : ∃ j, P.info? e = some j ∧ j.size = 1 := by
    cases hq : P.info? e with
    | none => simp [hq] at hs
    | some j => exact ⟨j, rfl, by simpa [hq] using hs⟩
  obtain ⟨j, hj, hsz⟩ := hinf
  refine opw_val (fun ev he => ?_) h
  have hagg : (isAgg e).run P w = .ok false w := by
    unfold isAgg; rw [Sem.run_bind, run_underlying hu w]; cases dd <;> simp_all
  have hi : i = 0 ∨ i = 1 ∨ i = 2 ∨ i = 3 := by omega
  rcases hi with rfl | rfl | rfl | rfl <;>
    simp [execOp, Instr.index, asIntOf, he x _ hx, he y _ hy, run_underlying ht.und, sizeOf, typeInfo, hj, hsz, part, Sem.run_bind, hagg, sel4]
/-- A field of a struct that lies in a slot. -/
theorem s_field {s i off : Nat} {cs : List Value} {v : Value} (hf : FieldF P s i off) (hone : ∀ fs f, P.underlying s = some (.struct fs) → fs[i]? = some f → OneF P f.type) (hx : opv ρ x = some (.agg cs.toArray)) (hv : cs[off]? = some v) (h : C v w) :
    OpW P ⟨some d, .field s x i, ty, pos, after, gd⟩ n D ρ w C := by
  obtain ⟨fs, f, hu, hff, ho, j, hj, hs⟩ := hf.out
  obtain ⟨dd, hu', hr, _⟩ := (hone fs f hu hff).out
  subst ho
  refine opw_val (fun ev he => ?_) h
  have hagg : (isAgg f.type).run P w = .ok false w := by
    unfold isAgg; rw [Sem.run_bind, run_underlying hu' w]; cases dd <;> simp_all
  simp [execOp, Instr.field, he x _ hx, run_underlying hu, hff, part, Sem.run_bind, hagg, asAgg, hv]
theorem s_extract {i : Nat} {vs : Array Value} {v : Value} (hx : opv ρ x = some (.tuple vs)) (hv : vs[i]? = some v) (h : C v w) : OpW P ⟨some d, .extract x i, ty, pos, after, gd⟩ n D ρ w C := by
  refine opw_val (fun ev he => ?_) h
  simp [execOp, he x _ hx, Instr.extract, hv]
theorem s_idxat {t e sz by_ b o : Nat} {z v : Value} {kd : IntKind} {i : Int} (hs : SlF P t e sz by_ z) (hx : opv ρ x = some v) (hy : opv ρ y = some (.int kd i)) (ha : IdxAt v i sz b o) (h : C (.pointer (some ⟨b, o, none⟩)) w) :
    OpW P ⟨some d, .indexAddr t x y, ty, pos, after, gd⟩ n D ρ w C := by
  obtain ⟨o0, m, c, rfl, h0, h1, rfl⟩ := ha
  obtain ⟨inf, hinf, _, hsz, _⟩ := hs.inf
  refine opw_val (fun ev he => ?_) h
  simp [execOp, Instr.indexAt, asIntOf, run_underlying hs.und, he x _ hx, he y _ hy, h0, h1, sizeOf, typeInfo, hinf, hsz, Addr.add_mid]
end
/-- A call that returns: with what holds of the value and the world. -/
def Ret (R : Value → World → Prop) (e : Ending) (w : World) : Prop := ∃ v, e = .returned v ∧ R v w
end Go.Gw
