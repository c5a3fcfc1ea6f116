/- Part of the proof that is named in YtencmmhfiepojaaLRowBack: a library for walks, or a function's walk. -/
import Derived.Test.YtencmmhfiepojaaGw1
import Derived.Deep.MidRow
set_option linter.unusedSimpArgs false
set_option linter.unusedVariables false
namespace Go.Gw
open Go.RowKit

/-! ### Types, as the program's tables have them -/
def fieldOf (P : Program) (s i : Nat) : Option (Nat × Bool) :=
  match P.underlying s with
  | some (.struct fs) => match fs[i]? with
    | some f => match P.info? f.type with
      | some j => some (f.offset, j.size != 0)
      | none => none
    | none => none
  | _ => none
structure FieldF (P : Program) (s i off : Nat) : Prop where
  is : fieldOf P s i = some (off, true)
theorem FieldF.out {P : Program} {s i off : Nat} (h : FieldF P s i off) : ∃ fs f, P.underlying s = some (.struct fs) ∧ fs[i]? = some f ∧ f.offset = off ∧ ∃ j, P.info? f.type = some j ∧ j.size ≠ 0 := by
  have h := h.is
  unfold fieldOf at h
  split at h
  · rename_i fs hu
    split at h
    · rename_i f hf
      split at h
      · rename_i j hj
        simp at h
        exact ⟨fs, f, hu, hf, h.1, j, hj, h.2⟩
      · cases h
    · cases h
  · cases h
def rowOf (P : Program) (t : Nat) : Option (Bool × Nat) :=
  match P.underlying t with
  | some d => match P.info? t with
    | some i => some (d.isRow, i.size)
    | none => none
  | none => none
theorem rowOf_out {P : Program} {t k : Nat} {b : Bool} (h : rowOf P t = some (b, k)) : ∃ d, P.underlying t = some d ∧ d.isRow = b ∧ (P.info? t).map (·.size) = some k := by
  unfold rowOf at h
  split at h
  · rename_i d hd
    split at h
    · rename_i i hi
      simp at h
      exact ⟨d, hd, h.1, by simp [hi, h.2]⟩
    · cases h
  · cases h
structure RowF (P : Program) (t k : Nat) : Prop where
  is : rowOf P t = some (true, k)
theorem RowF.out {P : Program} {t k : Nat} (h : RowF P t k) : ∃ d, P.underlying t = some d ∧ d.isRow = true ∧ (P.info? t).map (·.size) = some k := rowOf_out h.is
structure OneF (P : Program) (t : Nat) : Prop where
  is : rowOf P t = some (false, 1)
theorem OneF.out {P : Program} {t : Nat} (h : OneF P t) : ∃ d, P.underlying t = some d ∧ d.isRow = false ∧ (P.info? t).map (·.size) = some 1 := rowOf_out h.is
structure ZeroF (P : Program) (t : Nat) (cs : Array Value) : Prop where
  is : ((P.info? t).bind (·.zero)).map (·.cells) = some cs
theorem ZeroF.out {P : Program} {t : Nat} {cs : Array Value} (h : ZeroF P t cs) : ∃ i z, P.info? t = some i ∧ i.zero = some z ∧ z.cells = cs := by
  have h := h.is
  cases hi : P.info? t with
  | none => simp [hi] at h
  | some i =>
    cases hz : i.zero with
    | none => simp [hi, hz] at h
    | some z => simp [hi, hz] at h; exact ⟨i, z, rfl, hz, h⟩
structure SlF (P : Program) (t e sz by_ : Nat) (z : Value) : Prop where
  und : P.underlying t = some (.slice e)
  is : (P.info? e).map (fun i => (i.zero, i.size, i.bytes)) = some (some z, sz, by_)
  zsz : z.cells.size = sz
  pos : 0 < sz
theorem SlF.inf {P : Program} {t e sz by_ : Nat} {z : Value} (h : SlF P t e sz by_ z) : ∃ i, P.info? e = some i ∧ i.zero = some z ∧ i.size = sz ∧ i.bytes = by_ := by
  have h := h.is
  cases hi : P.info? e with
  | none => simp [hi] at h
  | some i => simp [hi] at h; exact ⟨i, rfl, h.1, h.2.1, h.2.2⟩
structure ArrF (P : Program) (t n e sz : Nat) : Prop where
  und : P.underlying t = some (.array n e)
  is : (P.info? e).map (·.size) = some sz
structure IntF (P : Program) (t : Nat) (k : IntKind) : Prop where
  und : P.underlying t = some (.int k)

/-! ### The world -/
def Blk (w : World) (g t : Nat) (cs : Array Value) : Prop := w.heap[g]? = some (.cells cs t (0, 0))
section
variable {w w' : World} {g t : Nat} {cs : Array Value}
theorem Blk.lt (h : Blk w g t cs) : g < w.heap.size := by
  rcases Nat.lt_or_ge g w.heap.size with hlt | hge
  · exact hlt
  · unfold Blk at h; rw [Array.getElem?_eq_none hge] at h; cases h
theorem Blk.cell (h : Blk w g t cs) (i : Nat) : w.cell? ⟨g, i, none⟩ = cs[i]? := cell_of_row w g i cs t (0, 0) h
theorem Blk.frozen (h : Blk w g t cs) (i : Nat) : w.frozen? ⟨g, i, none⟩ = false := by unfold Blk at h; simp [World.frozen?, h]
theorem Blk.new (w : World) (t : Nat) (cs : Array Value) : Blk (w.alloc (.cells cs t)) w.heap.size t cs := heap_alloc_new w _
theorem Blk.grown {row : Option Nat} (h : Blk w g t cs) (hb : w.grownBy w' row) (hg : some g ≠ row) : Blk w' g t cs := (hb.block g h.lt hg).trans h
theorem Blk.g0 (h : Blk w g t cs) (hb : w.grownBy w' none) : Blk w' g t cs := h.grown hb (by simp)
theorem Blk.range (h : Blk w g t cs) : w.rangeAt g 0 cs.toList := by
  intro j v hv
  rw [Nat.zero_add, h.cell]
  simpa using hv
end
theorem grown_alloc (w : World) (o : Obj) : w.grownBy (w.alloc o) none := ⟨rfl, rfl, rfl, by simp, fun k hk _ => Below.heap_alloc w o k hk⟩
theorem grown_setCell (w : World) (p : Addr) (u : Value) : w.grownBy (w.setCell p u) (some p.block) :=
  ⟨rfl, rfl, rfl, by simp [World.setCell], fun k _ hne => Below.heap_setCell w p u k (fun e => hne (by rw [e]))⟩
theorem grown_drew (w : World) : w.grownBy w.drew none := ⟨rfl, rfl, rfl, Nat.le_refl _, fun _ _ _ => rfl⟩
theorem below_g0 {a w w' : World} (h : Below a.heap.size a w) (k : w.grownBy w' none) : Below a.heap.size a w' := h.grown k h.size (by simp)
theorem below_g {a w w' : World} {g : Nat} (h : Below a.heap.size a w) (k : w.grownBy w' (some g)) (hg : a.heap.size ≤ g) : Below a.heap.size a w' := h.grown k h.size (by rintro _ ⟨⟩; exact hg)
theorem grown_of_below {w w' : World} (h : Below w.heap.size w w') (row : Option Nat) : w.grownBy w' row := ⟨h.os, h.tape, h.output, h.size, fun k hk _ => h.block k hk⟩
theorem range_g0 {w w' : World} {b o : Nat} {cs : List Value} (h : w.rangeAt b o cs) (k : w.grownBy w' none) : w'.rangeAt b o cs := fun j v hv => by
  have h1 := h j v hv
  rw [World.cell?_of_block (w := w) (k.block b (World.block_lt_of_cell? w _ h1) (by simp))]
  exact h1
theorem range_g {w w' : World} {b o g : Nat} {cs : List Value} (h : w.rangeAt b o cs) (k : w.grownBy w' (some g)) (hne : b ≠ g) : w'.rangeAt b o cs := fun j v hv => by
  have h1 := h j v hv
  rw [World.cell?_of_block (w := w) (k.block b (World.block_lt_of_cell? w _ h1) (by simpa using hne))]
  exact h1

section
variable {P : Program} {ops : Array Oper} {Q : Exit → Act → World → Prop} {rest : List Oper} {n : Nat} {D : List Deferred} {ρ : Env} {w : World}
variable {d ty : Nat} {pos : String} {after : Array Edge} {gd : Option (Nat × Bool)} {C : Value → World → Prop}

theorem s_alloc {t : Nat} {cs : Array Value} (hz : ZeroF P t cs)
    (k : ∀ g w', w.heap.size = g → Blk w' g t cs → w.grownBy w' none → w'.heap.size = g + 1 → C (.pointer (some ⟨g, 0, none⟩)) w') :
    OpW P ⟨some d, .alloc t, ty, pos, after, gd⟩ n D ρ w C := by
  obtain ⟨i, z, hi, hz, hc⟩ := hz.out
  exact opw_val (fun e he => by simp [execOp, Instr.alloc, zeroValue, typeInfo, hi, hz, newVar, newRow, hc]) (k _ _ rfl (Blk.new w t cs) (grown_alloc _ _) (by simp))
theorem s_box {t : Nat} {x : Operand} {v : Value} (hx : opv ρ x = some v)
    (k : ∀ g w', w.heap.size = g → Blk w' g t v.cells → w.grownBy w' none → w'.heap.size = g + 1 → C (.pointer (some ⟨g, 0, none⟩)) w') :
    OpW P ⟨some d, .box t x, ty, pos, after, gd⟩ n D ρ w C := 
  opw_val (fun e he => by simp [execOp, Instr.box, he x _ hx, newVar, newRow]) (k _ _ rfl (Blk.new w t v.cells) (grown_alloc _ _) (by simp))
theorem s_faddr {s i off b o : Nat} {x : Operand} (hf : FieldF P s i off) (hx : opv ρ x = some (.pointer (some ⟨b, o, none⟩)))
    (k : C (.pointer (some ⟨b, o + off, none⟩)) w) :
    OpW P ⟨some d, .fieldAddr s x i, ty, pos, after, gd⟩ n D ρ w C := by
  obtain ⟨fs, f, hu, hff, ho, j, hj, hs⟩ := hf.out
  subst ho
  exact opw_val (fun e he => by
    simp [execOp, Instr.fieldAt, he x _ hx, run_underlying hu, hff, Instr.sureAddr, fieldPlace, sizeOf, typeInfo, hj, hs, Addr.add_mid]) k
theorem s_load {t b o o0 j : Nat} {x : Operand} {cs : List Value} {v : Value} (ht : OneF P t) (hx : opv ρ x = some (.pointer (some ⟨b, o0, none⟩))) (hc : w.rangeAt b o cs) (hj : cs[j]? = some v)
    (k : C (v) w) (ho : o0 = o + j := by rfl) :
    OpW P ⟨some d, .load t x, ty, pos, after, gd⟩ n D ρ w C := by
  obtain ⟨dd, hu, hr, hs⟩ := ht.out
  subst ho
  have hcell := hc j v hj
  exact opw_val (fun e he => by
    have hagg : (isAgg t).run P w = .ok false w := by
      unfold isAgg; rw [Sem.run_bind, run_underlying hu w]; cases dd <;> simp_all
    simp [execOp, Instr.loadAt, Instr.sureAddr, he x _ hx, loadVar, Sem.run_bind, hagg, hcell, run_load]) k
theorem s_loadW {t m b o : Nat} {x : Operand} {cs : List Value} (ht : RowF P t m) (hx : opv ρ x = some (.pointer (some ⟨b, o, none⟩))) (hc : w.rangeAt b o cs) (hl : cs.length = m)
    (k : C (.agg cs.toArray) w) :
    OpW P ⟨some d, .load t x, ty, pos, after, gd⟩ n D ρ w C := by
  obtain ⟨dd, hu, hr, hs⟩ := ht.out
  exact opw_val (fun e he => by
    simp [execOp, he x _ hx, run_loadAt_mid w b o t cs dd hc hu hr (by rw [hs, hl])]) k
theorem s_loadN {t m b o o0 j : Nat} {x : Operand} {cs us : List Value} (ht : RowF P t m) (hx : opv ρ x = some (.pointer (some ⟨b, o0, none⟩))) (hc : w.rangeAt b o cs) (hj : (cs.drop j).take m = us) (hl : us.length = m)
    (k : C (.agg us.toArray) w) (ho : o0 = o + j := by rfl) :
    OpW P ⟨some d, .load t x, ty, pos, after, gd⟩ n D ρ w C := by
  obtain ⟨dd, hu, hr, hs⟩ := ht.out
  subst ho
  have hc' : w.rangeAt b (o + j) us := by
    intro i v hv
    rw [Nat.add_assoc]
    refine hc (j + i) v ?_
    rw [← hj] at hv
    rw [List.getElem?_take] at hv
    split at hv
    · rw [List.getElem?_drop] at hv; exact hv
    · cases hv
  exact opw_val (fun e he => by
    simp [execOp, he x _ hx, run_loadAt_mid w b (o + j) t us dd hc' hu hr (by rw [hs, hl])]) k
theorem Blk.set_ {w : World} {g t : Nat} {cs : Array Value} (h : Blk w g t cs) (i : Nat) (u : Value) : Blk (w.setCell ⟨g, i, none⟩ u) g t (cs.setIfInBounds i u) := by
  unfold Blk at h ⊢
  simp [World.setCell, Array.getElem?_modify, h]
theorem s_store {t b o tb : Nat} {x y : Operand} {cs : Array Value} {v : Value} (ht : OneF P t) (hx : opv ρ x = some (.pointer (some ⟨b, o, none⟩))) (hy : opv ρ y = some v) (h1 : v.oneCell' = true) (hb : Blk w b tb cs) (ho : o < cs.size)
    (k : ∀ w', Blk w' b tb (cs.setIfInBounds o v) → w.grownBy w' (some b) → w'.heap.size = w.heap.size → C undef w') :
    OpW P ⟨none, .store t x y, ty, pos, after, gd⟩ n D ρ w C := by
  obtain ⟨dd, hu, hr, hs⟩ := ht.out
  refine opw_unit (w' := w.setCell ⟨b, o, none⟩ v) (fun e he => ?_) (k _ (hb.set_ o v) (grown_setCell w _ v) (by simp [World.setCell]))
  have hcells : v.cells = #[v] := by cases v <;> simp [Value.oneCell'] at h1 <;> rfl
  cases hq : P.info? t with
  | none => simp [hq] at hs
  | some i =>
    have hsz : i.size = 1 := by simpa [hq] using hs
    have hc : w.cell? ⟨b, o, none⟩ = some (cs[o]) := by rw [hb.cell]; simp [ho]
    have hst : (store ⟨b, o, none⟩ v).run P w = .ok () (w.setCell ⟨b, o, none⟩ v) := by
      rw [run_store P w _ v _ (by cases v <;> simp [Value.oneCell'] at h1 <;> rfl)]
      simp [stored, hc, hb.frozen]
    have h2 : (storeVar t ⟨b, o, none⟩ v).run P w = .ok () (w.setCell ⟨b, o, none⟩ v) := by
      simp [storeVar, sizeOf, typeInfo, hq, hsz, hcells, storeCells, Addr.add_mid, hst]
    simp [execOp, Instr.storeAt, Instr.sureAddr, he x _ hx, he y _ hy, h2]
theorem s_storeN {t m b tb : Nat} {x y : Operand} {cs : Array Value} {us : List Value} (ht : RowF P t m) (hx : opv ρ x = some (.pointer (some ⟨b, 0, none⟩))) (hy : opv ρ y = some (.agg us.toArray)) (hb : Blk w b tb cs) (h1 : us.all (·.oneCell') = true) (hl : us.length = m) (hl2 : cs.size = m)
    (k : ∀ w', Blk w' b tb us.toArray → w.grownBy w' (some b) → w'.heap.size = w.heap.size → C undef w') :
    OpW P ⟨none, .store t x y, ty, pos, after, gd⟩ n D ρ w C := by
  obtain ⟨dd, hu, hr, hs⟩ := ht.out
  have hrun := run_storeVar_row (P := P) w b tb t cs us.toArray hb (by rw [hs, ← hl]; simp) (by rw [hl2, ← hl]; simp) (by simpa using h1)
  refine opw_unit (w' := w.setRow b us.toArray) (fun e he => ?_) (k _ (setRow_heap w b cs us.toArray tb _ hb) ?_ (by simp))
  · simp [execOp, Instr.storeAt, Instr.sureAddr, he x _ hx, he y _ hy, hrun]
  · exact ⟨rfl, rfl, rfl, by simp, fun k _ hne => setRow_other w b k us.toArray (by simpa using hne)⟩
end
end Go.Gw
