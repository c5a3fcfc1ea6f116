/- Part of the proof that is named in YtencmmhfiepojaaLRowBack: a library for walks, or a function's walk. -/
import Derived.Test.YtencmmhfiepojaaGw10
set_option linter.unusedSimpArgs false
set_option linter.unusedVariables false
namespace Go.Gw
open Go.RowKit
def fillC (place : Nat → Option (Nat × Nat)) (cells : Array Value) : List (Nat × Array Value) → Option (Array Value)
  | [] => some cells
  | (i, v) :: rest =>
    match place i with
    | none => none
    | some (off, size) =>
      if v.size ≠ size || off + v.size > cells.size then none
      else fillC place (v.zipIdx.foldl (fun cs (c, j) => cs.setIfInBounds (off + j) c) cells) rest
theorem fill_eq (place : Nat → Option (Nat × Nat)) : ∀ (parts : List (Nat × Value)) (cells : Array Value), Instr.fill place cells parts = fillC place cells (parts.map fun p => (p.1, p.2.cells))
  | [], cells => rfl
  | (i, v) :: rest, cells => by
    simp only [Instr.fill, fillC, List.map_cons]
    cases place i with
    | none => rfl
    | some p =>
      obtain ⟨off, size⟩ := p
      dsimp only
      split
      · rfl
      · exact fill_eq place rest _
def builtC (P : Program) (t : Nat) (parts : List (Nat × Array Value)) : Option (Array Value) :=
  match P.info? t, P.underlying t with
  | some it, some (.array _ e) =>
    match it.zero, P.info? e with
    | some z, some ie => fillC (fun i => some (i * ie.size, ie.size)) z.cells parts
    | _, _ => none
  | some it, some (.struct fields) =>
    match it.zero, fields.toList.mapM (fun f => (P.info? f.type).map fun i => (f.offset, i.size)) with
    | some z, some places => fillC (places.toArray[·]?) z.cells parts
    | _, _ => none
  | _, _ => none
theorem built_eq (P : Program) (t : Nat) (parts : List (Nat × Value)) : P.built t parts = builtC P t (parts.map fun p => (p.1, p.2.cells)) := by
  unfold Program.built builtC
  cases P.info? t with
  | none => rfl
  | some it =>
    cases P.underlying t with
    | none => rfl
    | some dd =>
      cases dd with
      | array m e => dsimp only; cases it.zero <;> cases P.info? e <;> first | rfl | exact fill_eq _ _ _
      | struct fs =>
        dsimp only
        generalize fs.toList.mapM (fun f => (P.info? f.type).map fun i => (f.offset, i.size)) = pl
        cases it.zero <;> cases pl <;> first | rfl | exact fill_eq _ _ _
      | _ => rfl
def builtS (P : Program) (t len : Nat) (parts : List (Nat × Array Value)) : Option (Nat × Array Value) :=
  match P.underlying t with
  | some (.slice e) =>
    match P.info? e with
    | some ie =>
      if len * ie.size > 2 ^ 24 then none else
      match ie.zero with
      | some z => (fillC (fun i => some (i * ie.size, ie.size)) ((Array.range (len * ie.size)).map (fun i => z.cells[i % z.cells.size]!)) parts).map fun c => (e, c)
      | none => none
    | none => none
  | _ => none
theorem Sl.cells1 {α : Type} {K : Kd α} {w : World} {F : Nat → Prop} {v : Value} {xs : List α} (h : Sl K w F v xs) : v.cells = #[v] := by obtain ⟨A, c, rfl, _⟩ := h; rfl
theorem Own.cells1 {α : Type} {K : Kd α} {e base : Nat} {w : World} {F : Nat → Prop} {v : Value} {xs : List α} (h : Own K e base w F v xs) : v.cells = #[v] := h.sl.cells1
section
variable {P : Program} {ops : Array Oper} {Q : Exit → Act → World → Prop} {rest : List Oper} {n : Nat} {D : List Deferred} {ρ : Env} {w : World}
variable {d ty : Nat} {pos : String} {after : Array Edge} {gd : Option (Nat × Bool)} {C : Value → World → Prop} {x y z : Operand}
theorem parts_eq {a : Act} (hF : Fr n D ρ a) : ∀ {ps : List (Nat × Operand)} {vs : List Value}, opvs ρ (ps.map (·.2)) = some vs → (ps.map fun (p : Nat × Operand) => (p.1, a.eval p.2)) = (ps.map (·.1)).zip vs
  | [], vs, h => by simp
  | p :: r, vs, h => by
    simp only [List.map_cons] at h
    unfold opvs at h
    split at h
    · rename_i v hv
      split at h
      · rename_i us hu
        cases h
        simp [hF.eval hv, parts_eq hF hu]
      · cases h
    · cases h
theorem zip_cells : ∀ (is : List Nat) (vs : List Value), (is.zip vs).map (fun p => (p.1, p.2.cells)) = is.zip (vs.map Value.cells)
  | [], vs => by simp
  | i :: is, [] => by simp
  | i :: is, v :: vs => by simp [zip_cells is vs]
theorem s_build {t : Nat} {ps : List (Nat × Operand)} {vs : List Value} {ccs : List (Array Value)} {cells : List Value} (hx : opvs ρ (ps.map (·.2)) = some vs) (hc : vs.map Value.cells = ccs) (hb : builtC P t ((ps.map (·.1)).zip ccs) = some cells.toArray)
    (k : C (.agg cells.toArray) w) : OpW P ⟨some d, .build t ps.toArray, ty, pos, after, gd⟩ n D ρ w C := by
  intro a hF Q
  unfold Oper.wp
  have h1 := parts_eq hF hx
  have h2 : P.built t (ps.map fun (p : Nat × Operand) => (p.1, a.eval p.2)) = some cells.toArray := by rw [built_eq, h1, zip_cells, hc]; exact hb
  have : (execOp a.eval ⟨some d, .build t ps.toArray, ty, pos, after, gd⟩).run P w = .ok (.value (.agg cells.toArray)) w := by
    have := run_build w t (ps.toArray.map fun (p : Nat × Operand) => (p.1, a.eval p.2)) cells.toArray (by simpa using h2)
    simp only [execOp]
    simp only [Sem.run_bind]
    rw [this]; rfl
  rw [this, Oper.upon_value]
  exact ⟨_, rfl, k⟩
theorem s_bslice {t len e : Nat} {ps : List (Nat × Operand)} {vs : List Value} {ccs : List (Array Value)} {cells : List Value} (hx : opvs ρ (ps.map (·.2)) = some vs) (hc : vs.map Value.cells = ccs) (hb : builtS P t len ((ps.map (·.1)).zip ccs) = some (e, cells.toArray)) (hpos : 0 < len)
    (hnz : ∃ ie, P.info? e = some ie ∧ 0 < ie.size)
    (k : ∀ g w', w.heap.size = g → Blk w' g e cells.toArray → w.grownBy w' none → w'.heap.size = g + 1 → C (.slice (some ⟨g, 0, none⟩) len len) w') : OpW P ⟨some d, .buildSlice t len ps.toArray, ty, pos, after, gd⟩ n D ρ w C := by
  intro a hF Q
  unfold Oper.wp
  have h1 := parts_eq hF hx
  have : (execOp a.eval ⟨some d, .buildSlice t len ps.toArray, ty, pos, after, gd⟩).run P w = .ok (.value (.slice (some ⟨w.heap.size, 0, none⟩) len len)) (w.alloc (.cells cells.toArray e)) := by
    unfold builtS at hb
    cases hu : P.underlying t with
    | none => simp [hu] at hb
    | some dd =>
      cases dd <;> simp only [hu] at hb <;> try (cases hb; done)
      rename_i e'
      cases hi : P.info? e' with
      | none => simp [hi] at hb
      | some ie =>
        simp only [hi] at hb
        split at hb
        · cases hb
        · rename_i hle
          cases hz : ie.zero with
          | none => simp [hz] at hb
          | some zv =>
            simp only [hz] at hb
            rw [← hc, ← zip_cells, ← h1, ← fill_eq] at hb
            cases hfill : Instr.fill (fun i => some (i * ie.size, ie.size)) ((Array.range (len * ie.size)).map (fun i => zv.cells[i % zv.cells.size]!)) (ps.map fun (p : Nat × Operand) => (p.1, a.eval p.2)) with
            | none => rw [hfill] at hb; simp at hb
            | some cs =>
              rw [hfill] at hb
              simp at hb
              obtain ⟨rfl, rfl⟩ := hb
              obtain ⟨ie2, hi2, hpos2⟩ := hnz
              rw [hi] at hi2; cases hi2
              have hne : ¬ (len * ie.size = 0) := by
                have := Nat.mul_pos hpos hpos2; omega
              have hmap : (ps.toArray.map fun (p : Nat × Operand) => (p.1, a.eval p.2)).toList = ps.map fun (p : Nat × Operand) => (p.1, a.eval p.2) := by simp
              simp only [execOp, Instr.buildSlice, Sem.run_bind, run_underlying hu, Result.andThen_ok, sizeOf, typeInfo, run_program, hi, Sem.run_pure]
              rw [if_neg hle, if_neg hne]
              simp only [zeroValue, typeInfo, Sem.run_bind, run_program, Result.andThen_ok, hi, Sem.run_pure, hz]
              rw [hmap, hfill]
              simp [newRow]
  rw [this, Oper.upon_value]
  exact ⟨_, rfl, k _ _ rfl (Blk.new w e cells.toArray) (grown_alloc _ _) (by simp)⟩
end
end Go.Gw
namespace Go.Gw
open Go.RowKit
section
variable {P : Program} {n : Nat} {D : List Deferred} {ρ : Env} {w : World}
variable {d ty xt yt : Nat} {pos : String} {after : Array Edge} {gd : Option (Nat × Bool)} {C : Value → World → Prop} {x y z : Operand}
theorem nz_of {P : Program} {e : Nat} (h : ((P.info? e).map fun i => decide (0 < i.size)) = some true) : ∃ ie, P.info? e = some ie ∧ 0 < ie.size := by
  cases hi : P.info? e with
  | none => rw [hi] at h; cases h
  | some i => rw [hi] at h; exact ⟨i, rfl, by simpa using h⟩

/-- Structs that are held against each other. -/
structure EqF {κ : Type} [DecidableEq κ] (P : Program) (t : Nat) (ek : κ → Value) : Prop where
  eq : ∀ a b w, (Op.equal t (ek a) (ek b)).run P w = .ok (decide (a = b)) w
  agg : ∀ a, ∃ cs, ek a = .agg cs
  guard : P.eqGuardType P.depth t = false
theorem s_eqnode {κ : Type} [DecidableEq κ] {ek : κ → Value} {a b : κ} (h : EqF P xt ek) (hx : opv ρ x = some (ek a)) (hy : opv ρ y = some (ek b)) (k : C (.bool (decide (a = b))) w) : OpW P ⟨some d, .binOp .eql xt x y yt, ty, pos, after, gd⟩ n D ρ w C := by
  obtain ⟨cs, hc⟩ := h.agg a
  obtain ⟨ds, hd⟩ := h.agg b
  have he := h.eq a b w
  refine s_bin hx hy (fun w => ?_) ?_ k
  · rw [hc, hd]; exact run_eqGuard_agg w _ _ _ _ _ _ h.guard
  · rw [hc, hd] at he ⊢
    simp [binOp, he]
theorem s_nenode {κ : Type} [DecidableEq κ] {ek : κ → Value} {a b : κ} (h : EqF P xt ek) (hx : opv ρ x = some (ek a)) (hy : opv ρ y = some (ek b)) (k : C (.bool (decide (a ≠ b))) w) : OpW P ⟨some d, .binOp .neq xt x y yt, ty, pos, after, gd⟩ n D ρ w C := by
  obtain ⟨cs, hc⟩ := h.agg a
  obtain ⟨ds, hd⟩ := h.agg b
  have he := h.eq a b w
  refine s_bin hx hy (fun w => ?_) ?_ k
  · rw [hc, hd]; exact run_eqGuard_agg w _ _ _ _ _ _ h.guard
  · rw [hc, hd] at he ⊢
    simp [binOp, he]
theorem s_eqbool {a b : Bool} (ht : P.underlying xt = some .bool) (hx : opv ρ x = some (.bool a)) (hy : opv ρ y = some (.bool b)) (k : C (.bool (a == b)) w) : OpW P ⟨some d, .binOp .eql xt x y yt, ty, pos, after, gd⟩ n D ρ w C :=
  s_bin hx hy (fun w => by unfold eqGuard; split <;> simp) (by
    have h := run_equalIn_bool' (P := P) w 9999 xt a b ht
    simp only [binOp, Op.equal, Op.maxDepth]
    simp [h]) k
theorem s_nebool {a b : Bool} (ht : P.underlying xt = some .bool) (hx : opv ρ x = some (.bool a)) (hy : opv ρ y = some (.bool b)) (k : C (.bool (a != b)) w) : OpW P ⟨some d, .binOp .neq xt x y yt, ty, pos, after, gd⟩ n D ρ w C :=
  s_bin hx hy (fun w => by unfold eqGuard; split <;> simp) (by
    have h := run_equalIn_bool' (P := P) w 9999 xt a b ht
    simp only [binOp, Op.equal, Op.maxDepth]
    simp [h]; cases a <;> cases b <;> rfl) k
theorem eqF_node {t ta ti : Nat} (h : NodeF P t ta ti) {κ : Type} [DecidableEq κ] (f : κ → Int × Int × Int × Int × Int) (hf : ∀ a b, f a = f b → a = b) : EqF P t (fun a : κ => .agg (nodeA (f a).1 (f a).2.1 (f a).2.2.1 (f a).2.2.2.1 (f a).2.2.2.2)) := by
  refine ⟨fun a b w => ?_, fun a => ⟨_, rfl⟩, h.guard⟩
  rw [Op.equal, show Op.maxDepth = 9997 + 3 from rfl, run_eq_node h]
  congr 1
  rw [decide_eq_decide]
  constructor
  · rintro ⟨h1, h2, h3, h4, h5⟩
    exact hf a b (Prod.ext h1 (Prod.ext h2 (Prod.ext h3 (Prod.ext h4 h5))))
  · rintro rfl; exact ⟨rfl, rfl, rfl, rfl, rfl⟩
end
end Go.Gw
