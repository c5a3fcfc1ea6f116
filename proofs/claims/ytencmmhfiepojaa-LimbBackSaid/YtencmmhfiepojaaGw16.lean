/- Part of the proof that is named in YtencmmhfiepojaaLRowBack: a library for walks, or a function's walk. -/
import Derived.Test.YtencmmhfiepojaaGw15
set_option linter.unusedSimpArgs false
set_option linter.unusedVariables false
/-! ### Appending to an empty literal: nothing that was there is written -/
namespace Go.Gw
open Go.RowKit
theorem run_append_zero {P : Program} {w : World} {t ty e g c n : Nat} {i : TypeInfo} {z : Value} (ht : P.underlying t = some (.slice e)) (hi : P.info? e = some i) (hz : i.zero = some z)
    (hg : w.heap[g]? = some (.cells #[] e (0, 0))) (a : Addr) (news : List Value) (hl : news.length = n * i.size) (hnews : ∀ j u, news[j]? = some u → w.cell? (a.add j) = some u) (h1 : ∀ u ∈ news, u.oneCell' = true)
    (h63 : n ≤ maxLen) (hbytes : n * i.bytes ≤ 140737488355328) {v' : Value} {w' : World} (hr : (Builtin.append_ #[t, t] ty #[.slice (some ⟨g, 0, none⟩) 0 0, .slice (some a) n c]).run P w = .ok v' w') : w.grownBy w' none := by
  have hsmall : n ≤ 9223372036854775807 := by simp only [maxLen] at h63; omega
  by_cases hn : n = 0
  · subst hn
    have hnil : news = [] := List.eq_nil_of_length_eq_zero (by simpa using hl)
    subst hnil
    have hr2 := run_append_room (P := P) w t ty e i ht hi g 0 0 #[] hg a 0 c [] hl hnews h1 (by omega) (by simp)
    rw [hr] at hr2
    injection hr2 with e1 e2
    subst e2
    refine ⟨rfl, rfl, rfl, by simp, fun k hk _ => ?_⟩
    by_cases hk' : k = g
    · subst hk'
      rw [setRow_heap w k #[] _ e _ hg, hg]; simp
    · exact setRow_other w g k _ hk'
  · have hr2 := run_append_grow (P := P) w t ty e i z ht hi hz ⟨g, 0, none⟩ 0 0 [] (by simp) (by simp) a n c news hl hnews (by omega) (by omega) (growslice_fits (by omega) (by simpa using hbytes))
    rw [hr] at hr2
    injection hr2 with e1 e2
    subst e2
    exact ⟨rfl, rfl, rfl, by simp, fun k hk _ => Below.heap_alloc w.drew _ k hk⟩
section
variable {P : Program} {ops : Array Oper} {Q : Exit → Act → World → Prop} {rest : List Oper} {n : Nat} {D : List Deferred} {ρ : Env} {w : World}
variable {d ty : Nat} {pos : String} {after : Array Edge} {gd : Option (Nat × Bool)} {C : Value → World → Prop} {x y : Operand}

/-- make([]T, n): so many zeros. -/
theorem s_appendF {α : Type} {K : Kd α} {t e by_ base : Nat} {F F' : Nat → Prop} {z v s : Value} {xs ys : List α} (hs : SlF P t e K.sz by_ z) (hx : opv ρ x = some v) (hy : opv ρ y = some s) (ho : Own K e base w F v xs) (hK : K.Flat) (hsrc : Sl K w F' s ys)
    (hone : K.Ones) (h63 : xs.length + ys.length ≤ 9223372036854775807) (hbytes : (xs.length + ys.length) * by_ ≤ 140737488355328) (hbase : base ≤ w.heap.size) (hF : ∀ k, F k → k < w.heap.size)
    (k : ∀ v' w', Own K e base w' F v' (xs ++ ys) → w.grownBy w' v.ownBlock → (v'.ownBlock = v.ownBlock ∨ v'.ownBlock = some w.heap.size) → (∀ g0, v = .slice (some ⟨g0, 0, none⟩) 0 0 → w.heap[g0]? = some (.cells #[] e (0, 0)) → w.grownBy w' none) → C v' w') :
    OpW P ⟨some d, .call { callee := .builtin .append, args := #[x, y], argTypes := #[t, t] }, ty, pos, after, gd⟩ n D ρ w C := by
  obtain ⟨inf, hinf, hzero, hsz, hby⟩ := hs.inf
  obtain ⟨us, hl, hr, hown⟩ := ho.out
  obtain ⟨A, c, rfl, h2, h3, h4⟩ := hsrc
  -- the source's cells, element by element
  have hv : ∃ vs : List (List Value), vs.length = ys.length ∧ (∀ (i : Nat) (u : List Value) (y : α), vs[i]? = some u → ys[i]? = some y → K.rep w (Out F v) u y) ∧ (∀ a, A = some a → ys ≠ [] → ∃ g o, a = ⟨g, o, none⟩ ∧ w.rangeAt g o vs.flatten) := by
    have hex : ∀ i : Fin ys.length, ∃ u, ∃ g o, A = some ⟨g, o, none⟩ ∧ K.rep w (Out F v) u ys[i] ∧ w.rangeAt g (o + i * K.sz) u := by
      intro i
      obtain ⟨g, o, u, ha, _, _, hrep, hrng⟩ := h4 i ys[i] (by simp)
      exact ⟨u, g, o, ha, hK _ _ _ _ _ _ hrep, hrng⟩
    let f : Fin ys.length → List Value := fun i => Classical.choose (hex i)
    have hf : ∀ i, ∃ g o, A = some ⟨g, o, none⟩ ∧ K.rep w (Out F v) (f i) ys[i] ∧ w.rangeAt g (o + i * K.sz) (f i) := fun i => Classical.choose_spec (hex i)
    refine ⟨List.ofFn f, by simp, fun i u y hu hy => ?_, fun a ha hne => ?_⟩
    · rw [List.getElem?_ofFn] at hu
      split at hu
      · rename_i hi
        cases hu
        obtain ⟨_, _, _, hrep, _⟩ := hf ⟨i, hi⟩
        have : ys[i] = y := by rw [List.getElem?_eq_getElem hi] at hy; injection hy
        subst this; exact hrep
      · cases hu
    · have hlen : 0 < ys.length := List.length_pos_iff.2 hne
      obtain ⟨g, o, ha', _, _⟩ := hf ⟨0, hlen⟩
      rw [ha] at ha'
      injection ha' with ha'
      refine ⟨g, o, ha', fun j u hj => ?_⟩
      have hall : ∀ u ∈ List.ofFn f, u.length = K.sz := by
        intro u hu
        obtain ⟨i, rfl⟩ := List.mem_ofFn.1 hu
        obtain ⟨_, _, _, hrep, _⟩ := hf i
        exact K.len hrep
      have hpos := hs.pos
      have hjl : j < ys.length * K.sz := by
        have := (List.getElem?_eq_some_iff.1 hj).1
        rw [List.length_flatten] at this
        have hsum := flatten_len (List.ofFn f) hall
        rw [List.length_flatten, List.length_ofFn] at hsum
        omega
      have hdiv : j / K.sz < ys.length := Nat.div_lt_of_lt_mul (by rw [Nat.mul_comm]; exact hjl)
      have hmod : j % K.sz < K.sz := Nat.mod_lt _ hpos
      have hu : (List.ofFn f)[j / K.sz]? = some (f ⟨j / K.sz, hdiv⟩) := by rw [List.getElem?_ofFn]; simp [hdiv]
      have h5 := flatten_get (sz := K.sz) (List.ofFn f) hall (j / K.sz) (j % K.sz) _ hu hmod
      rw [show j / K.sz * K.sz + j % K.sz = j by rw [Nat.mul_comm]; exact Nat.div_add_mod j K.sz, hj] at h5
      obtain ⟨g2, o2, ha2, _, hrng⟩ := hf ⟨j / K.sz, hdiv⟩
      rw [ha, ha'] at ha2
      injection ha2 with ha2
      injection ha2 with e1 e2
      subst e1; subst e2
      have := hrng (j % K.sz) u h5.symm
      rw [← this]; congr 2
      show o + j = o + j / K.sz * K.sz + j % K.sz
      have := Nat.div_add_mod j K.sz
      rw [Nat.mul_comm] at this; omega
  obtain ⟨vs, hvl, hvr, hva⟩ := hv
  have hfin : ∀ v' w', w'.ownsRow base e K.sz v' (xs.length + ys.length) (us.flatten ++ vs.flatten) → w.grownBy w' v.ownBlock → (v'.ownBlock = v.ownBlock ∨ v'.ownBlock = some w.heap.size) → Own K e base w' F v' (xs ++ ys) := by
    intro v' w' ho' hg hor
    refine ⟨⟨us ++ vs, by simp [hl, hvl], fun i u x hu hx => ?_, by rw [List.flatten_append, List.length_append]; exact ho'⟩, fun g hg' => ?_⟩
    · have hrep : K.rep w (Out F v) u x := by
        rcases Nat.lt_or_ge i xs.length with h | h
        · rw [List.getElem?_append_left (by omega)] at hu; rw [List.getElem?_append_left h] at hx; exact hr i u x hu hx
        · rw [List.getElem?_append_right (by omega), hl] at hu; rw [List.getElem?_append_right h] at hx; exact hvr _ u x hu hx
      have h1 : K.rep w (fun k => Out F v k ∨ Out F v' k) u x := K.weak hrep fun k hk hk' => by
        rcases hk' with h | h | h
        · exact h
        · exact .inl h
        · rcases hor with e | e
          · exact .inr (e ▸ h)
          · rw [e] at h; injection h with h; omega
      exact K.weak (K.keep h1 fun k hk hn => hg.block k hk fun e => hn (.inl (.inr e.symm))) fun k _ hk => .inr hk
    · rcases hor with h | h
      · exact ho.no g (by rw [← h]; exact hg')
      · rw [h] at hg'; injection hg' with hg'; intro hf; have := hF g hf; omega
  have hzsz : z.cells.size = K.sz := hs.zsz
  cases A with
  | none =>
    have hy0 : ys = [] := by
      cases ys with
      | nil => rfl
      | cons y r => obtain ⟨g, o, u, ha, _⟩ := h4 0 y rfl; cases ha
    subst hy0
    have hv0 : vs = [] := List.eq_nil_of_length_eq_zero hvl
    subst hv0
    refine opw_val (v := v) (w' := w) (fun ev he => ?_) (k v w (hfin v w (by simpa using hown) (World.grownBy.refl w _) (.inl rfl)) (World.grownBy.refl w _) (.inl rfl) (fun _ _ _ => World.grownBy.refl w _))
    simp [execOp, resolve, invoke, builtin, he x _ hx, he y _ hy, run_append_nil base t ty e inf K.sz hs.und hinf v _ _ hown c]
  | some a =>
    have hcells : ∀ j u, vs.flatten[j]? = some u → w.cell? (a.add j) = some u := by
      intro j u hj
      by_cases hne : ys = []
      · subst hne
        have hv0 : vs = [] := List.eq_nil_of_length_eq_zero hvl
        subst hv0; simp at hj
      · obtain ⟨g, o, rfl, hrng⟩ := hva a rfl hne
        exact rangeAt_add hrng j u hj
    have hvlen : vs.flatten.length = ys.length * K.sz := by
      have hall : ∀ u ∈ vs, u.length = K.sz := by
        intro u hu
        obtain ⟨j, hj, rfl⟩ := List.getElem_of_mem hu
        exact K.len (hvr j _ (ys[j]'(by omega)) (List.getElem?_eq_getElem hj) (List.getElem?_eq_getElem (by omega)))
      rw [flatten_len vs hall, hvl]
    have hones : ∀ u ∈ vs.flatten, u.oneCell' = true := by
      intro u hu
      obtain ⟨l, hl', hu'⟩ := List.mem_flatten.1 hu
      obtain ⟨j, hj, rfl⟩ := List.getElem_of_mem hl'
      exact hone _ _ _ _ (hvr j _ (ys[j]'(by omega)) (List.getElem?_eq_getElem hj) (List.getElem?_eq_getElem (by omega))) u hu'
    obtain ⟨v', w', hrun, ho', hg, _, hor⟩ := run_append_own_at (P := P) w base t ty e inf z K.sz by_ hs.und hinf hzero hsz hby hzsz hs.pos v xs.length us.flatten hown a ys.length c vs.flatten hvlen hcells hones (by simp only [maxLen]; omega) hbytes hbase
    refine opw_val (v := v') (w' := w') (fun ev he => ?_) (k v' w' (hfin v' w' ho' hg hor) hg hor (fun g0 hv hg0 => by
      subst hv
      exact run_append_zero hs.und hinf hzero hg0 a vs.flatten (by rw [hvlen, hsz]) hcells hones (by simp only [maxLen]; omega) (by rw [hby]; exact Nat.le_trans (Nat.mul_le_mul_right _ (Nat.le_add_left _ _)) hbytes) hrun))
    simp [execOp, resolve, invoke, builtin, he x _ hx, he y _ hy, hrun]
theorem s_bslice0b {α : Type} {K : Kd α} {F : Nat → Prop} {t e by_ base : Nat} {zv : Value} (hs : SlF P t e K.sz by_ zv) (hbase : base ≤ w.heap.size) (hF : ∀ k, F k → k < w.heap.size)
    (k : ∀ g w', Blk w' g e #[] → Own K e base w' F (.slice (some ⟨g, 0, none⟩) 0 0) [] → w.grownBy w' none → C (.slice (some ⟨g, 0, none⟩) 0 0) w') : OpW P ⟨some d, .buildSlice t 0 #[], ty, pos, after, gd⟩ n D ρ w C := by
  obtain ⟨inf, hinf, hzero, hsz, hby⟩ := hs.inf
  refine opw_val (v := .slice (some ⟨w.heap.size, 0, none⟩) 0 0) (w' := w.alloc (.cells #[] e)) (fun ev he => ?_) (k _ _ (heap_alloc_new w _) ⟨⟨[], rfl, fun i u x hu => by simp at hu, ⟨by simp, .inr ⟨_, 0, #[], rfl, hbase, heap_alloc_new w _, Nat.le_refl _, by simp [maxLen], by simp, by simp⟩⟩⟩, ?_⟩ (grown_alloc _ _))
  · simp [execOp, Instr.buildSlice, run_underlying hs.und, sizeOf, typeInfo, hinf, Instr.fill, newRow]
    rw [show (Array.map (fun _ => (default : Value)) (Array.range 0)) = #[] from Array.eq_empty_of_size_eq_zero (by simp)]
  · intro g hg'
    simp [Value.ownBlock] at hg'
    subst hg'
    intro hf
    exact absurd (hF _ hf) (by omega)
end
end Go.Gw
