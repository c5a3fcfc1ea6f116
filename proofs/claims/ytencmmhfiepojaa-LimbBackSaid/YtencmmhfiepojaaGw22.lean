/- Part of the proof that is named in YtencmmhfiepojaaLRowBack: a library for walks, or a function's walk. -/
import Derived.Test.YtencmmhfiepojaaGw21
set_option linter.unusedSimpArgs false
set_option linter.unusedVariables false
/-! ### Limbs, and a walk backwards over them -/
namespace Go.Gw
open Go.RowKit
def Kd.u32 : Kd Int := Kd.flat 1 (fun x => [.int .u32 x]) (fun x => 0 ≤ x ∧ x < 4294967296) (fun _ => rfl)
theorem u32_flat : Kd.u32.Flat := Kd.flat_flat _ _ _ _
theorem u32_ones : Kd.u32.Ones := by rintro _ _ _ _ ⟨rfl, _⟩ c hc; simp at hc; subst hc; rfl
/-- Limbs, all of them in their bounds. -/
def Lim (xs : List Int) : Prop := ∀ x ∈ xs, 0 ≤ x ∧ x < 4294967296
theorem lim_sl {w : World} {F : Nat → Prop} {v : Value} {xs : List Int} (h : Sl Kd.u32 w F v xs) : Lim xs := by
  obtain ⟨A, c, rfl, _, _, h4⟩ := h
  intro x hx
  obtain ⟨i, hi⟩ := List.getElem?_of_mem hx
  obtain ⟨g, o, us, _, _, _, hr, _⟩ := h4 i x hi
  exact hr.2
theorem Lim.ix {xs : List Int} (h : Lim xs) (i : Int) : 0 ≤ ix xs i ∧ ix xs i < 4294967296 := by
  unfold Gw.ix
  by_cases hi : i.toNat < xs.length
  · have e : xs.getD i.toNat default = xs[i.toNat] := by simp [hi]
    rw [e]; exact h _ (List.getElem_mem hi)
  · have e : xs.getD i.toNat default = default := by simp [show xs.length ≤ i.toNat by omega]
    rw [e]; decide
/-- What a walk backwards hands out: a place and what lies there. -/
abbrev LX (xs : List Int) := { p : Int × Int // 0 ≤ p.1 ∧ p.1 < xs.length ∧ p.2 = ix xs p.1 }
def encL {xs : List Int} (x : LX xs) : Array Value := #[.int .i64 x.1.1, .int .u32 x.1.2]
/-- The first k of them. -/
def bkt (xs : List Int) (k : Nat) : List (Int × Int) := (List.range k).map fun j : Nat => ((xs.length : Int) - 1 - (j : Int), ix xs ((xs.length : Int) - 1 - (j : Int)))
theorem bkt_succ (xs : List Int) (k : Nat) : bkt xs (k + 1) = bkt xs k ++ [((xs.length : Int) - 1 - k, ix xs ((xs.length : Int) - 1 - k))] := by simp [bkt, List.range_succ]
theorem bkt_len (xs : List Int) (k : Nat) : (bkt xs k).length = k := by simp [bkt]
/-- What a round keeps for the walk. -/
def KpL (gb n0 : Nat) (A B : World) : Prop := B.heap[gb]? = A.heap[gb]? ∧ Below n0 A B
theorem kpl_t {gb n0 : Nat} {A B C : World} (h : KpL gb n0 A B) (k : KpL gb n0 B C) : KpL gb n0 A C := ⟨k.1.trans h.1, h.2.trans k.2⟩
theorem kpl_b {gb n0 : Nat} {w : World} (hg : gb < w.heap.size) (hn : n0 ≤ w.heap.size) (W : World) (l : Nat) (o o' : Obj) (hl : w.heap.size ≤ l) (h : W.heap[l]? = some o) (h1 : o.isCells = false) (h2 : o.isWalk = false) : KpL gb n0 W (W.putObj l o') :=
  ⟨World.putObj_heap_other (by omega), belowK_b hn W l o o' hl h h1 h2⟩
theorem Blk.kpl {gb n0 t : Nat} {A B : World} {cs : Array Value} (h : Blk A gb t cs) (k : KpL gb n0 A B) : Blk B gb t cs := k.1.trans h
section
variable {ro : Option Nat} {m : Nat} {P : Program} {ops : Array Oper} {Q : Exit → Act → World → Prop} {rest : List Oper} {n : Nat} {D : List Deferred} {ρ : Env} {w : World}
theorem n_then_ret {K : Act → World → Prop} (h : Nx n D ρ w (Q .ret)) : Nx n D ρ w (Exit.then K Q .ret) := h
theorem n_block_ret {id : Nat} (h : Nx n D ρ w (Q .ret)) : Nx n D ρ w (Exit.inBlock id Q .ret) := h
theorem n_ret0 {fn : Func} {R : Ending → World → Prop} (hr : fn.results = #[]) (h : R (.returned (.tuple #[])) w) : Nx n [] ρ w (bodyPost P fn R .ret) :=
  fun a ha => bodyPost_ret (results_none hr _ _ _) ha.defers h
/-! #### the way out of a function that holds a loop over a function -/
theorem run_res_cell {fn : Func} {t ty g : Nat} {v : Value} (hr : fn.results = #[.cell t ty]) (ht : OneF P ty) {a : Act} (ha : a.tmps[t]? = some (.pointer (some ⟨g, 0, none⟩))) (hc : w.cell? ⟨g, 0, none⟩ = some v) : (results fn a.tmps).run P w = .ok v w := by
  obtain ⟨dd, hu, hrow, hs⟩ := ht.out
  have hagg : (isAgg ty).run P w = .ok false w := by
    unfold isAgg; rw [Sem.run_bind, run_underlying hu w]; cases dd <;> simp_all
  have h1 : a.tmps[t]?.getD undef = .pointer (some ⟨g, 0, none⟩) := by rw [ha]; rfl
  simp [results, hr, h1, asAddr, loadVar, Sem.run_bind, hagg, hc, run_load]
theorem w_ret' (h : Nx n D ρ w (Q .ret)) : Gw.W P .ret Q n D ρ w := fun a ha => wp_ret (h a ha)
/-- Ahead of the loop. -/
theorem m_retc {F : Fence} {k : Nat} {fn : Func} {R : Ending → World → Prop} {t ty g tb : Nat} {v : Value} {cs : Array Value} (hr : fn.results = #[.cell t ty]) (ht : OneF P ty) (hl : look ρ t = some (.pointer (some ⟨g, 0, none⟩))) (hb : Blk w g tb cs) (hv : cs[0]? = some v) (h : R (.returned v) w) :
    Nx n [] ρ w (bodyPostM F k P fn R .ret) := by
  intro a ha
  show LeavesInM F k P fn a.tmps R a.defers .returning w
  rw [ha.defers]
  exact ⟨v, run_res_cell hr ht (ha.slot t _ hl) ((hb.cell 0).trans hv), h⟩
/-- Behind it. -/
theorem m_retc' {F : Fence} {k Dk : Nat} {fn : Func} {R : Ending → World → Prop} {t ty g tb : Nat} {v : Value} {cs : Array Value} (hr : fn.results = #[.cell t ty]) (ht : OneF P ty) (hl : look ρ t = some (.pointer (some ⟨g, 0, none⟩))) (hb : Blk w g tb cs) (hv : cs[0]? = some v) (hK : w.heap[Dk]? = some (.deferred (some []))) (h : R (.returned v) (w.putObj Dk (.deferred none))) :
    Nx n [{ target := .collected Dk, args := #[] }] ρ w (bodyPostM F k P fn R .ret) := by
  intro a ha
  show LeavesInM F k P fn a.tmps R a.defers .returning w
  rw [ha.defers]
  have hne : g ≠ Dk := by
    rintro rfl
    rw [show w.heap[g]? = _ from hb] at hK; cases hK
  exact ⟨by simp, .inl ⟨Dk, _, rfl, run_takeDeferred hK, v, run_res_cell hr ht (ha.slot t _ hl) ((show Blk (w.putObj Dk (.deferred none)) g tb cs from (World.putObj_heap_other hne).trans hb).cell 0 |>.trans hv), h⟩⟩
theorem m_ret2 {F : Fence} {k : Nat} {fn : Func} {R : Ending → World → Prop} {t u : Nat} {v x : Value} (hr : fn.results = #[.tmp t, .tmp u]) (hl : look ρ t = some v) (hl2 : look ρ u = some x) (h : R (.returned (.tuple #[v, x])) w) :
    Nx n [] ρ w (bodyPostM F k P fn R .ret) := by
  intro a ha
  show LeavesInM F k P fn a.tmps R a.defers .returning w
  rw [ha.defers]
  refine ⟨.tuple #[v, x], ?_, h⟩
  rw [results_tmp2 hr, Array.getD_eq_getD_getElem?, Array.getD_eq_getD_getElem?, ha.slot t v hl, ha.slot u x hl2]; rfl
theorem m_ret2' {F : Fence} {k Dk : Nat} {fn : Func} {R : Ending → World → Prop} {t u : Nat} {v x : Value} (hr : fn.results = #[.tmp t, .tmp u]) (hl : look ρ t = some v) (hl2 : look ρ u = some x) (hK : w.heap[Dk]? = some (.deferred (some []))) (h : R (.returned (.tuple #[v, x])) (w.putObj Dk (.deferred none))) :
    Nx n [{ target := .collected Dk, args := #[] }] ρ w (bodyPostM F k P fn R .ret) := by
  intro a ha
  show LeavesInM F k P fn a.tmps R a.defers .returning w
  rw [ha.defers]
  refine ⟨by simp, .inl ⟨Dk, _, rfl, run_takeDeferred hK, .tuple #[v, x], ?_, h⟩⟩
  rw [results_tmp2 hr, Array.getD_eq_getD_getElem?, Array.getD_eq_getD_getElem?, ha.slot t v hl, ha.slot u x hl2]; rfl
theorem n_own {α : Type} {B : Nat} {Kp : World → World → Prop} {I : List α → World → Prop} {Ix : Code → List α → World → Prop} {xs : List α} {W : World} (h : KeepsFrom B W w ∧ Kp W w ∧ I xs w) : Nx n D ρ w (ownPostG B Kp I Ix xs W .normal) := fun _ _ => h
theorem n_own_ret {α : Type} {B : Nat} {Kp : World → World → Prop} {I : List α → World → Prop} {Ix : Code → List α → World → Prop} {xs : List α} {W : World} (h : KeepsFrom B W w ∧ Ix .ret xs w) : Nx n D ρ w (ownPostG B Kp I Ix xs W .ret) := fun _ _ => h
/-- The end of the mark: what lay below is as it was. -/
theorem Below.mark {n0 Dk : Nat} {a w : World} {o o' : Obj} (h : Below n0 a w) (hn : n0 ≤ a.heap.size) (hD : n0 ≤ Dk) (hk : w.heap[Dk]? = some o) : Below n0 a (w.putObj Dk o') :=
  h.grown (grownBy_putObj' w Dk o') (Nat.le_trans hn h.size) (fun k e => by cases e; exact hD)
/-- A loop over limbs from the last one on. -/
theorem i_range {xs : List Int} {gb n0 gf N p q : Nat} {g : Operand} {assign body : Code} {S Sp : List (LX xs) → Prop} (hg : opv ρ g = some (.func (.func gf) #[] #[.pointer (some ⟨gb, 0, none⟩)])) (hf : FunF P gf)
    (hseq : SeqStopsK Fence.wide 9 P gf #[.pointer (some ⟨gb, 0, none⟩)] (encL (xs := xs)) (KpL gb n0) S Sp N w) (hgb : gb < w.heap.size) (hn0 : n0 ≤ w.heap.size)
    (I : List (LX xs) → World → Prop) (Ix : Code → List (LX xs) → World → Prop) (hI : OwnFrom w.heap.size I) (hIx : ∀ c, OwnFrom w.heap.size (Ix c)) (h0 : I [] w) (ρx : LX xs → Env)
    (hA : ∀ l x W, IW (some l) 8 P assign (Exit.then (fun a' W' => W' = W ∧ Fr n [] (ρx x) a') (fun _ _ _ => False)) n [] ((q, .int .u32 x.1.2) :: (p, .int .i64 x.1.1) :: ρ) W)
    (hbody : ∀ l pre x W, (w.heap.size ≤ l ∧ l < W.heap.size) → I pre W → pre.length < N → IW (some l) 8 P body (ownPostG w.heap.size (KpL gb n0) I Ix (pre ++ [x]) W) n [] (ρx x) W)
    (hdone : ∀ Dk ys W, w.heap.size ≤ Dk → S ys → I ys W → W.heap[Dk]? = some (.deferred (some [])) → Nx n ({ target := .collected Dk, args := #[] } :: D) ρ W (Q .normal))
    (hstop : ∀ Dk c pre W, w.heap.size ≤ Dk → Sp pre → Ix c pre W → W.heap[Dk]? = some (.deferred (some [])) → Gw.W P c Q n ({ target := .collected Dk, args := #[] } :: D) ρ W)
    (hp : Nat.blt p n = true := by rfl) (hq : Nat.blt q n = true := by rfl) :
    Gw.W P (.rangeFunc g #[p, q] assign body) Q n D ρ w := by
  intro a ha
  refine (wpIn_wide (n := 10)).1 (wpIn_rangeFunc_ownH (F := Fence.wide) (n := 10) (encs := encL (xs := xs)) rfl (by decide) (ha.eval hg) trivial (fun args w => run_callFunc_go hf args w) hseq kpl_t (kpl_b hgb hn0) (Below.refl _ _) (fun _ => rfl) I Ix hI hIx h0
    (fun x a' W => Fr n [] (ρx x) a') (fun x a' => fun _ _ _ _ h _ _ => h) ?_ ?_ ?_ ?_)
  · intro l pre x W K hi hK
    have hF : Fr n [] ((q, .int .u32 x.1.2) :: (p, .int .i64 x.1.1) :: ρ) { tmps := (#[p, q].zip (encL x)).foldl (fun t (p, v) => t.setIfInBounds p v) a.tmps, defers := [] } := by
      have h1 := (Fr.put (D := []) (a := { a with defers := [] }) ⟨rfl, ha.size, ha.slot⟩ (.int .i64 x.1.1) hp)
      have h2 := h1.put (.int .u32 x.1.2) hq
      simpa [encL, Act.put] using h2
    refine wpIn_mono (hA l x W _ hF) ?_
    intro e a' W' hq
    cases e with
    | normal => obtain ⟨rfl, hF'⟩ := hq; exact hK _ _ (KeepsFrom.refl _ _) ⟨rfl, Below.refl _ _⟩ hi hF'
    | _ => exact hq
  · intro l pre x a' W hl hr hi hF hlen
    obtain ⟨r, hr⟩ := hr
    exact hbody l pre x W ⟨hl, (Array.getElem?_eq_some_iff.1 hr).1⟩ hi hlen a' hF
  · intro Dk ys W hD hS hi hK
    exact hdone Dk ys W hD hS hi hK _ ⟨by simp [ha.defers], ha.size, ha.slot⟩
  · intro Dk c pre W hD hS hi hK
    exact wpIn_wide.2 (hstop Dk c pre W hD hS hi hK _ ⟨by simp [ha.defers], ha.size, ha.slot⟩)
theorem n_set {ρ' : Env} (hs : Sub ρ' ρ) : Nx n [] ρ w (Exit.then (fun a' W' => W' = w ∧ Fr n [] ρ' a') (fun _ _ _ => False) .normal) := fun a ha => ⟨rfl, ha.sub hs⟩
end
theorem Blk.ownK {B g t : Nat} {W W' : World} {row : Option Nat} {cs : Array Value} (h : Blk W g t cs) (hg : W.grownBy W' row) (hr : ∀ r, row = some r → B ≤ r ∧ ∃ o : Obj, W.heap[r]? = some o ∧ o.isCells = false) : Blk W' g t cs :=
  h.grown hg (by
    rintro rfl
    obtain ⟨_, o, ho, hc⟩ := hr g rfl
    rw [show W.heap[g]? = _ from h] at ho
    cases ho; cases hc)
theorem Below.ownK {n0 B : Nat} {w W W' : World} {row : Option Nat} (h : Below n0 w W) (hn : n0 ≤ w.heap.size) (hB : n0 ≤ B) (hg : W.grownBy W' row) (hr : ∀ r, row = some r → B ≤ r ∧ ∃ o : Obj, W.heap[r]? = some o ∧ o.isCells = false) : Below n0 w W' :=
  h.grown hg (Nat.le_trans hn h.size) (fun k e => Nat.le_trans hB (hr k e).1)
theorem Own.ownK {α : Type} {K : Kd α} {e base B : Nat} {W W' : World} {row : Option Nat} {v : Value} {xs : List α} (h : Gw.Own K e base W (fun _ => False) v xs) (hK : K.Flat) (hg : W.grownBy W' row) (hr : ∀ r, row = some r → B ≤ r ∧ ∃ o : Obj, W.heap[r]? = some o ∧ o.isCells = false) : Gw.Own K e base W' (fun _ => False) v xs := by
  refine Own.keptF hK h hg ?_
  obtain ⟨us, hl, hr', ho⟩ := h.out
  rcases ho.2 with ⟨rfl, h0⟩ | ⟨g, cap, cur, rfl, hb, hg', _⟩
  · exact .inl rfl
  · refine .inr ?_
    rintro rfl
    obtain ⟨_, o, ho', hc⟩ := hr g (by simp [Value.ownBlock])
    rw [hg'] at ho'
    cases ho'; cases hc
theorem kpl_grown {gb n0 : Nat} {A B : World} {row : Option Nat} (h : A.grownBy B row) (hg : some gb ≠ row) (hlt : gb < A.heap.size ∧ n0 ≤ A.heap.size) (hr : ∀ j, row = some j → n0 ≤ j) : KpL gb n0 A B :=
  ⟨h.block gb hlt.1 hg, (Below.refl n0 A).grown h hlt.2 hr⟩
theorem Sl.mark {α : Type} {K : Kd α} (hK : K.Flat) {w : World} {v : Value} {xs : List α} {Dk : Nat} (h : Sl K w (fun _ => False) v xs) (hk : w.heap[Dk]? = some (.deferred (some []))) : Sl K (w.putObj Dk (.deferred Option.none)) (fun _ => False) v xs := by
  obtain ⟨A, c, e, h1, h2, h3⟩ := h
  refine ⟨A, c, e, h1, h2, fun i x hx => ?_⟩
  obtain ⟨g, o, us, ea, hg, hF, hr, hc⟩ := h3 i x hx
  refine ⟨g, o, us, ea, by simpa using hg, hF, hK _ _ _ _ _ _ hr, fun j u hu => ?_⟩
  have h4 := hc j u hu
  have hne : g ≠ Dk := by
    rintro rfl
    unfold World.cell? at h4
    rw [hk] at h4
    simp at h4
  unfold World.cell? at h4 ⊢
  simp only [World.putObj_heap_other hne]
  exact h4
end Go.Gw
