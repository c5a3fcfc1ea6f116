/- Part of the proof that is named in YtencmmhfiepojaaLRowBack: a library for walks, or a function's walk. -/
import Derived.Test.YtencmmhfiepojaaGw3
set_option linter.unusedSimpArgs false
set_option linter.unusedVariables false
namespace Go.Gw
open Go.RowKit

/-! ### Kinds: how data lie in cells -/
structure Kd (α : Type) where
  sz : Nat
  rep : World → (Nat → Prop) → List Value → α → Prop
  len : ∀ {w : World} {F : Nat → Prop} {us : List Value} {x : α}, rep w F us x → us.length = sz
  keep : ∀ {w w' : World} {F : Nat → Prop} {us : List Value} {x : α}, rep w F us x → (∀ k, k < w.heap.size → ¬ F k → w'.heap[k]? = w.heap[k]?) → rep w' F us x
  weak : ∀ {w : World} {F F' : Nat → Prop} {us : List Value} {x : α}, rep w F us x → (∀ k, k < w.heap.size → F' k → F k) → rep w F' us x

/-- Data without memory: so many cells, all told. -/
def Kd.flat {α : Type} (sz : Nat) (f : α → List Value) (ok : α → Prop) (h : ∀ x, (f x).length = sz) : Kd α where
  sz := sz
  rep := fun _ _ us x => us = f x ∧ ok x
  len := by rintro _ _ _ _ ⟨rfl, _⟩; exact h _
  keep := fun hr _ => hr
  weak := fun hr _ => hr
def Kd.int (k : IntKind) : Kd Int := Kd.flat 1 (fun x => [.int k x]) (fun x => k.min ≤ x ∧ x ≤ k.max) (fun _ => rfl)
def Kd.bool : Kd Bool := Kd.flat 1 (fun x => [.bool x]) (fun _ => True) (fun _ => rfl)
def Kd.str : Kd ByteArray := Kd.flat 1 (fun x => [.string x]) (fun x => x.size ≤ 9223372036854775807) (fun _ => rfl)

section
variable {α : Type} {K : Kd α} {w w' : World} {F F' : Nat → Prop} {v : Value} {xs : List α}
/-- The value 'v' is a slice that reads as 'xs'; none of the blocks that it leads to is one of 'F'. -/
def Sl (K : Kd α) (w : World) (F : Nat → Prop) (v : Value) (xs : List α) : Prop :=
  ∃ A c, v = .slice A xs.length c ∧ xs.length ≤ c ∧ c ≤ maxLen ∧ ∀ i x, xs[i]? = some x → ∃ g o us, A = some ⟨g, o, none⟩ ∧ g < w.heap.size ∧ ¬ F g ∧ K.rep w F us x ∧ w.rangeAt g (o + i * K.sz) us
theorem range_keep {w w' : World} {b o : Nat} {us : List Value} (h : w.rangeAt b o us) (hk : w'.heap[b]? = w.heap[b]?) : w'.rangeAt b o us := fun j v hv => by
  rw [World.cell?_of_block (w := w) hk]; exact h j v hv
theorem Sl.keep (h : Sl K w F v xs) (hk : ∀ k, k < w.heap.size → ¬ F k → w'.heap[k]? = w.heap[k]?) : Sl K w' F v xs := by
  obtain ⟨A, c, e, h1, h2, h3⟩ := h
  refine ⟨A, c, e, h1, h2, fun i x hx => ?_⟩
  obtain ⟨g, o, us, ea, hg, hF, hr, hc⟩ := h3 i x hx
  have hb := hk g hg hF
  refine ⟨g, o, us, ea, ?_, hF, K.keep hr hk, range_keep hc hb⟩
  rcases Nat.lt_or_ge g w'.heap.size with h | h
  · exact h
  · rw [Array.getElem?_eq_none h, Array.getElem?_eq_getElem hg] at hb; cases hb
theorem Sl.weak (h : Sl K w F v xs) (hf : ∀ k, k < w.heap.size → F' k → F k) : Sl K w F' v xs := by
  obtain ⟨A, c, e, h1, h2, h3⟩ := h
  refine ⟨A, c, e, h1, h2, fun i x hx => ?_⟩
  obtain ⟨g, o, us, ea, hg, hF, hr, hc⟩ := h3 i x hx
  exact ⟨g, o, us, ea, hg, fun hF' => hF (hf _ hg hF'), K.weak hr hf, hc⟩
theorem Sl.g0 (h : Sl K w F v xs) (k : w.grownBy w' none) : Sl K w' F v xs := h.keep fun i hi _ => k.block i hi (by simp)
theorem Sl.below (h : Sl K w F v xs) (k : Below w.heap.size w w') : Sl K w' F v xs := h.keep fun i hi _ => k.block i hi
theorem Sl.g {g : Nat} (h : Sl K w F v xs) (k : w.grownBy w' (some g)) (hg : F g) : Sl K w' F v xs := h.keep fun i hi hF => k.block i hi (by rintro ⟨⟩; exact hF hg)
theorem Sl.lenle (h : Sl K w F v xs) : xs.length ≤ 9223372036854775807 := by
  obtain ⟨A, c, e, h1, h2, h3⟩ := h
  simp only [maxLen] at h2; omega
end
/-- A slice as a cell. -/
def Kd.sl {α : Type} (K : Kd α) : Kd (List α) where
  sz := 1
  rep := fun w F us xs => ∃ v, us = [v] ∧ Sl K w F v xs
  len := by rintro _ _ _ _ ⟨v, rfl, _⟩; rfl
  keep := by rintro _ _ _ _ _ ⟨v, rfl, h⟩ hk; exact ⟨v, rfl, h.keep hk⟩
  weak := by rintro _ _ _ _ _ ⟨v, rfl, h⟩ hk; exact ⟨v, rfl, h.weak hk⟩
/-- Two things, one behind the other. -/
def Kd.two {α β : Type} (K : Kd α) (L : Kd β) : Kd (α × β) where
  sz := K.sz + L.sz
  rep := fun w F us x => ∃ a b, us = a ++ b ∧ K.rep w F a x.1 ∧ L.rep w F b x.2
  len := by rintro _ _ _ _ ⟨a, b, rfl, h1, h2⟩; simp [K.len h1, L.len h2]
  keep := by rintro _ _ _ _ _ ⟨a, b, rfl, h1, h2⟩ hk; exact ⟨a, b, rfl, K.keep h1 hk, L.keep h2 hk⟩
  weak := by rintro _ _ _ _ _ ⟨a, b, rfl, h1, h2⟩ hk; exact ⟨a, b, rfl, K.weak h1 hk, L.weak h2 hk⟩
/-- The same by other words. -/
def Kd.by {α β : Type} (K : Kd α) (f : β → α) : Kd β where
  sz := K.sz
  rep := fun w F us x => K.rep w F us (f x)
  len := K.len
  keep := K.keep
  weak := K.weak

def ix {α : Type} [Inhabited α] (xs : List α) (i : Int) : α := xs.getD i.toNat default

section
variable {P : Program} {ops : Array Oper} {Q : Exit → Act → World → Prop} {rest : List Oper} {n : Nat} {D : List Deferred} {ρ : Env} {w : World}
variable {d ty : Nat} {pos : String} {after : Array Edge} {gd : Option (Nat × Bool)} {C : Value → World → Prop}
variable {α : Type} [Inhabited α] {K : Kd α} {F : Nat → Prop} {v : Value} {xs : List α} {x y : Operand} {t e by_ : Nat} {z : Value}
omit [Inhabited α] in
theorem s_len (hs : SlF P t e K.sz by_ z) (hx : opv ρ x = some v) (hl : Sl K w F v xs) (k : C (.int .i64 (xs.length : Int)) w) :
    OpW P ⟨some d, .call { callee := .builtin .len, args := #[x], argTypes := #[t] }, ty, pos, after, gd⟩ n D ρ w C := by
  obtain ⟨A, c, rfl, _⟩ := hl
  refine opw_val (fun ev he => ?_) k
  simp [execOp, resolve, invoke, builtin, he x _ hx, Builtin.len_, run_underlying hs.und, goInt]
theorem s_idx {kd : IntKind} {i : Int} (hs : SlF P t e K.sz by_ z) (hx : opv ρ x = some v) (hy : opv ρ y = some (.int kd i)) (hl : Sl K w F v xs) (h0 : 0 ≤ i) (h1 : i < xs.length)
    (k : ∀ b o us, K.rep w F us (ix xs i) → w.rangeAt b o us → ¬ F b → b < w.heap.size → C (.pointer (some ⟨b, o, none⟩)) w) :
    OpW P ⟨some d, .indexAddr t x y, ty, pos, after, gd⟩ n D ρ w C := by
  obtain ⟨A, c, rfl, h2, h3, h4⟩ := hl
  have hi : i.toNat < xs.length := by omega
  obtain ⟨g, o, us, rfl, hg, hF, hr, hc⟩ := h4 i.toNat xs[i.toNat] (by simp [hi])
  have he' : ix xs i = xs[i.toNat] := by simp [ix, hi]
  obtain ⟨inf, hinf, _, hsz, _⟩ := hs.inf
  refine opw_val (fun ev he => ?_) (k g (o + i.toNat * K.sz) us (by rw [he']; exact hr) hc hF hg)
  simp [execOp, Instr.indexAt, asIntOf, run_underlying hs.und, he x _ hx, he y _ hy, h0, h1, sizeOf, typeInfo, hinf, hsz, Addr.add_mid]
end
end Go.Gw
