/- Part of the proof that is named in YtencmmhfiepojaaLRowBack: a library for walks, or a function's walk. -/
import Derived.Test.YtencmmhfiepojaaGw6
import Derived.Laws.OwnMore
import Derived.Laws.MakeOwn
import Derived.Maps.AppendAt
set_option linter.unusedSimpArgs false
set_option linter.unusedVariables false
namespace Go.Gw
open Go.RowKit

def Kd.Flat {α : Type} (K : Kd α) : Prop := ∀ (w w' : World) (F F' : Nat → Prop) (u : List Value) (x : α), K.rep w F u x → K.rep w' F' u x
theorem Kd.flat_flat {α : Type} (sz : Nat) (f : α → List Value) (ok : α → Prop) (h : ∀ x, (f x).length = sz) : (Kd.flat sz f ok h).Flat := fun _ _ _ _ _ _ h => h
def Out (F : Nat → Prop) (v : Value) (k : Nat) : Prop := F k ∨ v.ownBlock = some k
/-- A row of the call's own: it may be written, and may grow. -/
structure Own {α : Type} (K : Kd α) (e base : Nat) (w : World) (F : Nat → Prop) (v : Value) (xs : List α) : Prop where
  out : ∃ us : List (List Value), us.length = xs.length ∧ (∀ (i : Nat) (u : List Value) (x : α), us[i]? = some u → xs[i]? = some x → K.rep w (Out F v) u x) ∧ w.ownsRow base e K.sz v xs.length us.flatten
  no : ∀ g, v.ownBlock = some g → ¬ F g
theorem flatten_get {sz : Nat} : ∀ (us : List (List Value)), (∀ u ∈ us, u.length = sz) → ∀ (i j : Nat) (u : List Value), us[i]? = some u → j < sz → us.flatten[i * sz + j]? = u[j]?
  | [], _, i, j, u, h, _ => by simp at h
  | u0 :: r, hl, i, j, u, h, hj => by
    have h0 : u0.length = sz := hl u0 (by simp)
    cases i with
    | zero => simp at h; subst h; simp; rw [List.getElem?_append_left (by omega)]
    | succ i =>
      simp at h
      rw [List.flatten_cons, List.getElem?_append_right (by rw [h0, Nat.add_mul]; omega), h0, show (i + 1) * sz + j - sz = i * sz + j by rw [Nat.add_mul]; omega]
      exact flatten_get r (fun u hu => hl u (by simp [hu])) i j u h hj
theorem flatten_len {sz : Nat} : ∀ (us : List (List Value)), (∀ u ∈ us, u.length = sz) → us.flatten.length = us.length * sz
  | [], _ => by simp
  | u :: r, h => by
    rw [List.flatten_cons, List.length_append, flatten_len r (fun u hu => h u (by simp [hu])), h u (by simp), List.length_cons, Nat.add_mul]; omega
section
variable {α : Type} {K : Kd α} {e base : Nat} {w w' : World} {F F' : Nat → Prop} {v : Value} {xs : List α}
theorem Own.sl (h : Own K e base w F v xs) : Sl K w F v xs := by
  obtain ⟨us, hl, hr, ho⟩ := h.out
  rcases ho.2 with ⟨rfl, h0⟩ | ⟨g, cap, cur, rfl, hb, hg, hnc, hcm, hcs, htake⟩
  · have : xs = [] := List.eq_nil_of_length_eq_zero h0
    subst this
    exact ⟨none, 0, rfl, by simp, by simp [maxLen], fun i x hx => by simp at hx⟩
  · refine ⟨_, cap, rfl, hnc, hcm, fun i x hx => ?_⟩
    have hi : i < xs.length := (List.getElem?_eq_some_iff.1 hx).1
    have hu : us[i]? = some (us[i]'(by omega)) := List.getElem?_eq_getElem (by omega)
    have hrep := hr i _ x hu hx
    have hlt : g < w.heap.size := (Array.getElem?_eq_some_iff.1 hg).1
    refine ⟨g, 0, us[i]'(by omega), rfl, hlt, h.no g rfl, K.weak hrep (fun k _ hk => .inl hk), ?_⟩
    intro j u hj
    have hjs : j < K.sz := by rw [← K.len hrep]; exact (List.getElem?_eq_some_iff.1 hj).1
    have hall : ∀ u ∈ us, u.length = K.sz := by
      intro u hu
      obtain ⟨k, hk, rfl⟩ := List.getElem_of_mem hu
      exact K.len (hr k _ (xs[k]'(by omega)) (List.getElem?_eq_getElem hk) (List.getElem?_eq_getElem (by omega)))
    have h1 := flatten_get us hall i j _ hu hjs
    rw [hj] at h1
    have := ho.cells (g := g) rfl (i * K.sz + j) u h1
    rw [Addr.add_mid] at this
    rw [← this]; congr 2; omega
theorem Own.lt (h : Own K e base w F v xs) : ∀ k, v.ownBlock = some k → base ≤ k ∧ k < w.heap.size := by
  obtain ⟨us, _, _, ho⟩ := h.out
  exact ho.lt
theorem Own.kept {row : Option Nat} (h : Own K e base w F v xs) (hg : w.grownBy w' row) (hne : v.ownBlock = none ∨ v.ownBlock ≠ row) (hF : ∀ g, row = some g → F g) : Own K e base w' F v xs := by
  obtain ⟨us, hl, hr, ho⟩ := h.out
  refine ⟨⟨us, hl, fun i u x hu hx => K.keep (hr i u x hu hx) fun k hk hn => hg.block k hk fun e => hn (.inl (hF k e.symm)), ho.kept hg hne⟩, h.no⟩
theorem Own.keptF {row : Option Nat} (hK : K.Flat) (h : Own K e base w F v xs) (hg : w.grownBy w' row) (hne : v.ownBlock = none ∨ v.ownBlock ≠ row) : Own K e base w' F v xs := by
  obtain ⟨us, hl, hr, ho⟩ := h.out
  exact ⟨⟨us, hl, fun i u x hu hx => hK _ _ _ _ _ _ (hr i u x hu hx), ho.kept hg hne⟩, h.no⟩
theorem Own.g0 (h : Own K e base w F v xs) (hg : w.grownBy w' none) : Own K e base w' F v xs := h.kept hg (by cases v.ownBlock <;> simp) (by simp)
theorem Own.below (h : Own K e base w F v xs) (hb : Below w.heap.size w w') : Own K e base w' F v xs := h.g0 (grown_of_below hb none)
theorem Own.nil (K : Kd α) (e base : Nat) (w : World) (F : Nat → Prop) : Own K e base w F (.slice none 0 0) [] :=
  ⟨⟨[], rfl, fun i u x hu => by simp at hu, ⟨by simp, .inl ⟨rfl, rfl⟩⟩⟩, by simp [Value.ownBlock]⟩
theorem Own.one (h : Own K e base w F v xs) : v.oneCell' = true := h.sl.one
theorem Own.ne_blk {t g : Nat} {cs : Array Value} (h : Own K e base w F v xs) (hb : Blk w g t cs) (hne : e ≠ t) : v.ownBlock = none ∨ v.ownBlock ≠ some g := by
  obtain ⟨us, hl, hr, ho⟩ := h.out
  rcases ho.2 with ⟨rfl, h0⟩ | ⟨g', cap, cur, rfl, _, hg, _⟩
  · exact .inl rfl
  · refine .inr fun he => ?_
    have : g' = g := by simpa [Value.ownBlock] using he
    subst this
    unfold Blk at hb
    rw [hg] at hb
    injection hb with hb
    injection hb with _ ht
    exact hne ht
theorem Own.ne_own {β : Type} {L : Kd β} {e' base' : Nat} {F' : Nat → Prop} {v' : Value} {ys : List β} (h : Own K e base w F v xs) (h' : Own L e' base' w F' v' ys) (hne : e ≠ e') : v.ownBlock = none ∨ v.ownBlock ≠ v'.ownBlock := by
  obtain ⟨us, hl, hr, ho⟩ := h'.out
  rcases ho.2 with ⟨rfl, h0⟩ | ⟨g', cap, cur, rfl, _, hg, _⟩
  · cases hv : v.ownBlock with
    | none => exact .inl rfl
    | some k => exact .inr (by simp [Value.ownBlock])
  · exact h.ne_blk (t := e') (cs := cur) hg hne
theorem Own.weakF (h : Own K e base w F v xs) (hF : ∀ k, k < w.heap.size → F' k → F k) : Own K e base w F' v xs := by
  obtain ⟨us, hl, hr, ho⟩ := h.out
  refine ⟨⟨us, hl, fun i u x hu hx => K.weak (hr i u x hu hx) fun k hk hk' => hk'.imp (hF k hk) id, ho⟩, fun g hg hf => h.no g hg (hF g (h.lt g hg).2 hf)⟩
theorem Own.lenle (h : Own K e base w F v xs) : xs.length ≤ 9223372036854775807 := h.sl.lenle
end

section
variable {P : Program} {ops : Array Oper} {Q : Exit → Act → World → Prop} {rest : List Oper} {n : Nat} {D : List Deferred} {ρ : Env} {w : World}
variable {d ty : Nat} {pos : String} {after : Array Edge} {gd : Option (Nat × Bool)} {C : Value → World → Prop} {x y : Operand}

/-- make([]T, n): so many zeros. -/
theorem s_make {α : Type} {K : Kd α} {t e by_ base : Nat} {F : Nat → Prop} {z : Value} {z0 : α} {kl : IntKind} {i : Int} (hs : SlF P t e K.sz by_ z) (hx : opv ρ x = some (.int kl i)) (h0 : 0 ≤ i) (hm : (by_ : Int) * i ≤ 281474976710656) (h63 : i ≤ 9223372036854775807)
    (hz : ∀ w F, K.rep w F z.cells.toList z0) (hbase : base ≤ w.heap.size) (hF : ∀ k, F k → k < w.heap.size)
    (k : ∀ v w', Own K e base w' F v (List.replicate i.toNat z0) → w.grownBy w' none → C v w') : OpW P ⟨some d, .makeSlice t x x, ty, pos, after, gd⟩ n D ρ w C := by
  obtain ⟨inf, hinf, hzero, hsz, hby⟩ := hs.inf
  obtain ⟨m, rfl⟩ := Int.eq_ofNat_of_zero_le h0
  have hb' : inf.bytes * m ≤ 281474976710656 := by
    rw [hby]
    have : ((by_ * m : Nat) : Int) ≤ 281474976710656 := by rw [Int.natCast_mul]; exact hm
    omega
  obtain ⟨w', hrun, hown, hg⟩ := run_make_full (P := P) w base t e inf z K.sz hs.und hinf hzero hsz kl kl m hb' (by simp only [maxLen]; omega) hbase
  refine opw_val (v := .slice (some ⟨w.heap.size, 0, none⟩) m m) (w' := w') (fun ev he => ?_) (k _ w' ⟨⟨List.replicate m z.cells.toList, by simp, fun j u x hu hx => ?_, ?_⟩, ?_⟩ hg)
  · simp [execOp, he x _ hx, hrun]
  · have h1 := List.eq_of_mem_replicate (List.mem_of_getElem? hu)
    have h2 := List.eq_of_mem_replicate (List.mem_of_getElem? hx)
    rw [h1, h2]; exact hz _ _
  · have hfl : (madeCells z.cells (m * K.sz)).toList = (List.replicate m z.cells.toList).flatten := by
      have hzl : z.cells.toList.length = K.sz := by rw [Array.length_toList, hs.zsz]
      apply List.ext_getElem?
      intro j
      by_cases hj : j < m * K.sz
      · have hpos := hs.pos
        have hdiv : j / K.sz < m := Nat.div_lt_of_lt_mul (by rw [Nat.mul_comm]; exact hj)
        have hmod : j % K.sz < K.sz := Nat.mod_lt _ hpos
        have hu : (List.replicate m z.cells.toList)[j / K.sz]? = some z.cells.toList := by simp [hdiv]
        have h2 := flatten_get (sz := K.sz) (List.replicate m z.cells.toList) (fun u hu => by rw [List.eq_of_mem_replicate hu, hzl]) (j / K.sz) (j % K.sz) _ hu hmod
        rw [show j / K.sz * K.sz + j % K.sz = j by rw [Nat.mul_comm]; exact Nat.div_add_mod j K.sz] at h2
        rw [h2]
        simp [madeCells, hj, hs.zsz]
        rw [Array.getElem!_eq_getD, Array.getD_eq_getD_getElem?]
        have : j % K.sz < z.cells.size := by rw [hs.zsz]; exact hmod
        simp [this]
      · rw [List.getElem?_eq_none (by simp [madeCells]; omega), List.getElem?_eq_none (by simp [hzl]; omega)]
    simp only [Int.toNat_natCast, List.length_replicate]
    rw [← hfl]; exact hown
  · intro g hg'
    simp [Value.ownBlock] at hg'
    subst hg'
    intro hf
    exact absurd (hF _ hf) (by omega)
def Kd.Ones {α : Type} (K : Kd α) : Prop := ∀ (w : World) (F : Nat → Prop) (u : List Value) (x : α), K.rep w F u x → ∀ c ∈ u, c.oneCell' = true
theorem run_append_nil (base : Nat) (t ty e : Nat) (i : TypeInfo) (size : Nat) (ht : P.underlying t = some (.slice e)) (hi : P.info? e = some i)
    (v : Value) (n : Nat) (xs : List Value) (hown : w.ownsRow base e size v n xs) (c : Nat) : (Builtin.append_ #[t, t] ty #[v, .slice none 0 c]).run P w = .ok v w := by
  rcases hown.2 with ⟨rfl, rfl⟩ | ⟨g, cap, cur, rfl, _, _, hnc, _⟩
  · simp [Builtin.append_, run_underlying ht, sizeOf, typeInfo, hi, Builtin.lenOf, Builtin.firstCells]
  · simp [Builtin.append_, run_underlying ht, sizeOf, typeInfo, hi, Builtin.lenOf, Builtin.firstCells, hnc, storeCells]
theorem rangeAt_add {w : World} {b o : Nat} {us : List Value} (h : w.rangeAt b o us) : ∀ j u, us[j]? = some u → w.cell? ((⟨b, o, none⟩ : Addr).add j) = some u := fun j u hu => by rw [Addr.add_mid]; exact h j u hu
/-- append(v, s...): a row of the call's own, and a slice that is only read. -/
theorem s_append {α : Type} {K : Kd α} {t e by_ base : Nat} {F : Nat → Prop} {z v s : Value} {xs ys : List α} (hs : SlF P t e K.sz by_ z) (hx : opv ρ x = some v) (hy : opv ρ y = some s) (ho : Own K e base w F v xs) (hsrc : Sl K w (Out F v) s ys)
    (hone : K.Ones) (h63 : xs.length + ys.length ≤ 9223372036854775807) (hbytes : (xs.length + ys.length) * by_ ≤ 140737488355328) (hbase : base ≤ w.heap.size) (hF : ∀ k, F k → k < w.heap.size)
    (k : ∀ v' w', Own K e base w' F v' (xs ++ ys) → w.grownBy w' v.ownBlock → (v'.ownBlock = v.ownBlock ∨ v'.ownBlock = some w.heap.size) → C v' w') :
    OpW P ⟨some d, .call { callee := .builtin .append, args := #[x, y], argTypes := #[t, t] }, ty, pos, after, gd⟩ n D ρ w C := by
  obtain ⟨inf, hinf, hzero, hsz, hby⟩ := hs.inf
  obtain ⟨us, hl, hr, hown⟩ := ho.out
  obtain ⟨A, c, rfl, h2, h3, h4⟩ := hsrc
  -- the source's cells, element by element
  have hv : ∃ vs : List (List Value), vs.length = ys.length ∧ (∀ (i : Nat) (u : List Value) (y : α), vs[i]? = some u → ys[i]? = some y → K.rep w (Out F v) u y) ∧ (∀ a, A = some a → ys ≠ [] → ∃ g o, a = ⟨g, o, none⟩ ∧ w.rangeAt g o vs.flatten) := by
    have hex : ∀ i : Fin ys.length, ∃ u, ∃ g o, A = some ⟨g, o, none⟩ ∧ K.rep w (Out F v) u ys[i] ∧ w.rangeAt g (o + i * K.sz) u := by
      intro i
      obtain ⟨g, o, u, ha, _, _, hrep, hrng⟩ := h4 i ys[i] (by simp)
      exact ⟨u, g, o, ha, hrep, hrng⟩
    let f : Fin ys.length → List Value := fun i => Classical.choose (hex i)
    have hf : ∀ i, ∃ g o, A = some ⟨g, o, none⟩ ∧ K.rep w (Out F v) (f i) ys[i] ∧ w.rangeAt g (o + i * K.sz) (f i) := fun i => Classical.choose_spec (hex i)
    refine ⟨List.ofFn f, by simp, fun i u y hu hy => ?_, fun a ha hne => ?_⟩
    · rw [List.getElem?_ofFn] at hu
      split at hu
      · rename_i hi
        cases hu
        obtain ⟨_, _, _, hrep, _⟩ := hf ⟨i, hi⟩
        have : ys[i] = y := by rw [List.getElem?_eq_getElem hi] at hy; injection hy
        subst this; exact hrep
      · cases hu
    · have hlen : 0 < ys.length := List.length_pos_iff.2 hne
      obtain ⟨g, o, ha', _, _⟩ := hf ⟨0, hlen⟩
      rw [ha] at ha'
      injection ha' with ha'
      refine ⟨g, o, ha', fun j u hj => ?_⟩
      have hall : ∀ u ∈ List.ofFn f, u.length = K.sz := by
        intro u hu
        obtain ⟨i, rfl⟩ := List.mem_ofFn.1 hu
        obtain ⟨_, _, _, hrep, _⟩ := hf i
        exact K.len hrep
      have hpos := hs.pos
      have hjl : j < ys.length * K.sz := by
        have := (List.getElem?_eq_some_iff.1 hj).1
        rw [List.length_flatten] at this
        have hsum := flatten_len (List.ofFn f) hall
        rw [List.length_flatten, List.length_ofFn] at hsum
        omega
      have hdiv : j / K.sz < ys.length := Nat.div_lt_of_lt_mul (by rw [Nat.mul_comm]; exact hjl)
      have hmod : j % K.sz < K.sz := Nat.mod_lt _ hpos
      have hu : (List.ofFn f)[j / K.sz]? = some (f ⟨j / K.sz, hdiv⟩) := by rw [List.getElem?_ofFn]; simp [hdiv]
      have h5 := flatten_get (sz := K.sz) (List.ofFn f) hall (j / K.sz) (j % K.sz) _ hu hmod
      rw [show j / K.sz * K.sz + j % K.sz = j by rw [Nat.mul_comm]; exact Nat.div_add_mod j K.sz, hj] at h5
      obtain ⟨g2, o2, ha2, _, hrng⟩ := hf ⟨j / K.sz, hdiv⟩
      rw [ha, ha'] at ha2
      injection ha2 with ha2
      injection ha2 with e1 e2
      subst e1; subst e2
      have := hrng (j % K.sz) u h5.symm
      rw [← this]; congr 2
      show o + j = o + j / K.sz * K.sz + j % K.sz
      have := Nat.div_add_mod j K.sz
      rw [Nat.mul_comm] at this; omega
  obtain ⟨vs, hvl, hvr, hva⟩ := hv
  have hfin : ∀ v' w', w'.ownsRow base e K.sz v' (xs.length + ys.length) (us.flatten ++ vs.flatten) → w.grownBy w' v.ownBlock → (v'.ownBlock = v.ownBlock ∨ v'.ownBlock = some w.heap.size) → Own K e base w' F v' (xs ++ ys) := by
    intro v' w' ho' hg hor
    refine ⟨⟨us ++ vs, by simp [hl, hvl], fun i u x hu hx => ?_, by rw [List.flatten_append, List.length_append]; exact ho'⟩, fun g hg' => ?_⟩
    · have hrep : K.rep w (Out F v) u x := by
        rcases Nat.lt_or_ge i xs.length with h | h
        · rw [List.getElem?_append_left (by omega)] at hu; rw [List.getElem?_append_left h] at hx; exact hr i u x hu hx
        · rw [List.getElem?_append_right (by omega), hl] at hu; rw [List.getElem?_append_right h] at hx; exact hvr _ u x hu hx
      have h1 : K.rep w (fun k => Out F v k ∨ Out F v' k) u x := K.weak hrep fun k hk hk' => by
        rcases hk' with h | h | h
        · exact h
        · exact .inl h
        · rcases hor with e | e
          · exact .inr (e ▸ h)
          · rw [e] at h; injection h with h; omega
      exact K.weak (K.keep h1 fun k hk hn => hg.block k hk fun e => hn (.inl (.inr e.symm))) fun k _ hk => .inr hk
    · rcases hor with h | h
      · exact ho.no g (by rw [← h]; exact hg')
      · rw [h] at hg'; injection hg' with hg'; intro hf; have := hF g hf; omega
  have hzsz : z.cells.size = K.sz := hs.zsz
  cases A with
  | none =>
    have hy0 : ys = [] := by
      cases ys with
      | nil => rfl
      | cons y r => obtain ⟨g, o, u, ha, _⟩ := h4 0 y rfl; cases ha
    subst hy0
    have hv0 : vs = [] := List.eq_nil_of_length_eq_zero hvl
    subst hv0
    refine opw_val (v := v) (w' := w) (fun ev he => ?_) (k v w (hfin v w (by simpa using hown) (World.grownBy.refl w _) (.inl rfl)) (World.grownBy.refl w _) (.inl rfl))
    simp [execOp, resolve, invoke, builtin, he x _ hx, he y _ hy, run_append_nil base t ty e inf K.sz hs.und hinf v _ _ hown c]
  | some a =>
    have hcells : ∀ j u, vs.flatten[j]? = some u → w.cell? (a.add j) = some u := by
      intro j u hj
      by_cases hne : ys = []
      · subst hne
        have hv0 : vs = [] := List.eq_nil_of_length_eq_zero hvl
        subst hv0; simp at hj
      · obtain ⟨g, o, rfl, hrng⟩ := hva a rfl hne
        exact rangeAt_add hrng j u hj
    have hvlen : vs.flatten.length = ys.length * K.sz := by
      have hall : ∀ u ∈ vs, u.length = K.sz := by
        intro u hu
        obtain ⟨j, hj, rfl⟩ := List.getElem_of_mem hu
        exact K.len (hvr j _ (ys[j]'(by omega)) (List.getElem?_eq_getElem hj) (List.getElem?_eq_getElem (by omega)))
      rw [flatten_len vs hall, hvl]
    have hones : ∀ u ∈ vs.flatten, u.oneCell' = true := by
      intro u hu
      obtain ⟨l, hl', hu'⟩ := List.mem_flatten.1 hu
      obtain ⟨j, hj, rfl⟩ := List.getElem_of_mem hl'
      exact hone _ _ _ _ (hvr j _ (ys[j]'(by omega)) (List.getElem?_eq_getElem hj) (List.getElem?_eq_getElem (by omega))) u hu'
    obtain ⟨v', w', hrun, ho', hg, _, hor⟩ := run_append_own_at (P := P) w base t ty e inf z K.sz by_ hs.und hinf hzero hsz hby hzsz hs.pos v xs.length us.flatten hown a ys.length c vs.flatten hvlen hcells hones (by simp only [maxLen]; omega) hbytes hbase
    refine opw_val (v := v') (w' := w') (fun ev he => ?_) (k v' w' (hfin v' w' ho' hg hor) hg hor)
    simp [execOp, resolve, invoke, builtin, he x _ hx, he y _ hy, hrun]
end
end Go.Gw
