/- Part of the proof: a library for walks, plain laws, and functions' walks. -/
import Derived.Test.YtfljelnfjbbknaaM4
import Derived.Test.YtfljelnfjbbknaaM2
import Derived.Test.YtfljelnfjbbknaaM3
import Derived.Test.YtfljelnfjbbknaaRows
set_option linter.unusedSimpArgs false
set_option linter.unusedVariables false
namespace Go.Gw
open Go.RowKit
/-! ### Cells -/
/-- A cell, as it is given: its numbers may be whatever. -/
structure RCl where
  xn : Bool
  xs : List Int
  yn : Bool
  ys : List Int
  st : Int
deriving DecidableEq
instance : Inhabited RCl := ⟨⟨false, [], false, [], 0⟩⟩
structure Cl where
  x : Int
  y : Int
  st : Int
deriving DecidableEq
instance : Inhabited Cl := ⟨⟨0, 0, 0⟩⟩
def rcl (c : Cl) : RCl := ⟨decide (c.x < 0), ml c.x, decide (c.y < 0), ml c.y, c.st⟩
def CRep (U n0 : Nat) (w : World) (F : Nat → Prop) (us : List Value) (xn : Bool) (xs : List Int) (yn : Bool) (ys : List Int) (st : Int) : Prop :=
  ∃ a b, us = [.bool xn, a, .bool yn, b, .int .u8 st] ∧ Sl Kd.u32 w (GF U n0 F w) a xs ∧ Sl Kd.u32 w (GF U n0 F w) b ys ∧ 0 ≤ st ∧ st ≤ 255
section
variable {U n0 : Nat} {w w' : World} {F F' : Nat → Prop} {us : List Value} {xn yn : Bool} {xs ys : List Int} {st : Int}
theorem CRep.len (h : CRep U n0 w F us xn xs yn ys st) : us.length = 5 := by obtain ⟨a, b, rfl, _⟩ := h; rfl
theorem CRep.keep (h : CRep U n0 w F us xn xs yn ys st) (hk : ∀ k, k < w.heap.size → ¬ F k → w'.heap[k]? = w.heap[k]?) : CRep U n0 w' F us xn xs yn ys st := by
  obtain ⟨a, b, rfl, h1, h2, h3⟩ := h
  exact ⟨a, b, rfl, sl_gkeepF h1 fun k a b _ => hk k a b, sl_gkeepF h2 fun k a b _ => hk k a b, h3⟩
theorem CRep.weak (h : CRep U n0 w F us xn xs yn ys st) (hf : ∀ k, k < w.heap.size → F' k → F k) : CRep U n0 w F' us xn xs yn ys st := by
  obtain ⟨a, b, rfl, h1, h2, h3⟩ := h
  exact ⟨a, b, rfl, h1.weak fun k hk hF => hF.elim (fun h => .inl (hf k hk h)) .inr, h2.weak fun k hk hF => hF.elim (fun h => .inl (hf k hk h)) .inr, h3⟩
theorem CRep.free (h : CRep U n0 w F us xn xs yn ys st) (hf : ∀ k, k < w.heap.size → F' k → G U n0 w k) : CRep U n0 w F' us xn xs yn ys st := by
  obtain ⟨a, b, rfl, h1, h2, h3⟩ := h
  exact ⟨a, b, rfl, h1.weak fun k hk hF => hF.elim (fun h => .inr (hf k hk h)) .inr, h2.weak fun k hk hF => hF.elim (fun h => .inr (hf k hk h)) .inr, h3⟩
theorem CRep.put {g : Nat} (h : CRep U n0 w F us xn xs yn ys st) (hg : w.grownBy w' (some g)) (hG : G U n0 w g) : CRep U n0 w' F us xn xs yn ys st := by
  obtain ⟨a, b, rfl, h1, h2, h3⟩ := h
  exact ⟨a, b, rfl, sl_gkeepF h1 fun k hk _ hk2 => hg.block k hk (by rintro ⟨⟩; exact hk2 hG), sl_gkeepF h2 fun k hk _ hk2 => hg.block k hk (by rintro ⟨⟩; exact hk2 hG), h3⟩
theorem CRep.ones (h : CRep U n0 w F us xn xs yn ys st) : ∀ q ∈ us, q.oneCell' = true := by
  obtain ⟨a, b, rfl, h1, h2, h3⟩ := h
  intro q hq
  simp at hq
  rcases hq with rfl | rfl | rfl | rfl | rfl
  · rfl
  · exact h1.one
  · rfl
  · exact h2.one
  · rfl
end
def Kd.rcell (U n0 : Nat) : Kd RCl where
  sz := 5
  rep := fun w F us c => CRep U n0 w F us c.xn c.xs c.yn c.ys c.st
  len := CRep.len
  keep := CRep.keep
  weak := CRep.weak
def Kd.cell (U n0 : Nat) : Kd Cl where
  sz := 5
  rep := fun w F us c => CRep U n0 w F us (decide (c.x < 0)) (ml c.x) (decide (c.y < 0)) (ml c.y) c.st
  len := CRep.len
  keep := CRep.keep
  weak := CRep.weak
theorem rcell_gk (U n0 : Nat) : (Kd.rcell U n0).GK U n0 where
  put := fun _ _ _ _ _ _ h hg hG => h.put hg hG
  ones := fun _ _ _ _ h => CRep.ones h
theorem cell_gk (U n0 : Nat) : (Kd.cell U n0).GK U n0 where
  put := fun _ _ _ _ _ _ h hg hG => h.put hg hG
  ones := fun _ _ _ _ h => CRep.ones h
/-- What a kind's elements avoid: whatever is no row of limbs. -/
def Kd.Free {α : Type} (U n0 : Nat) (K : Kd α) : Prop := ∀ (w : World) (F F' : Nat → Prop) (u : List Value) (x : α), K.rep w F u x → (∀ k, k < w.heap.size → F' k → G U n0 w k) → K.rep w F' u x
theorem rcell_free (U n0 : Nat) : (Kd.rcell U n0).Free U n0 := fun _ _ _ _ _ h hf => CRep.free h hf
theorem cell_free (U n0 : Nat) : (Kd.cell U n0).Free U n0 := fun _ _ _ _ _ h hf => CRep.free h hf
section
variable {α β : Type} {K : Kd α} {L : Kd β} {U n0 : Nat} {w w' : World} {F : Nat → Prop} {v s : Value} {xs ys : List α}
/-- An own row, read: it avoids another one. -/
theorem Own.srcG {zs : List β} {e e' b b' : Nat} (hK : K.Free U n0) (h : Gw.Own K e b w (fun _ => False) s ys) (hv : Gw.Own L e' b' w (fun _ => False) v zs) (ht : e' ≠ U) (hn : n0 ≤ b') (hne : ∀ g, v.ownBlock = some g → s.ownBlock ≠ some g) : Sl K w (Out (fun _ => False) v) s ys := by
  obtain ⟨A, c, e1, h1, h2, h3⟩ := h.sl
  refine ⟨A, c, e1, h1, h2, fun i x hx => ?_⟩
  obtain ⟨g, o, us, rfl, hg, hF, hr, hc⟩ := h3 i x hx
  refine ⟨g, o, us, rfl, hg, fun hO => ?_, hK _ _ _ _ _ hr fun k hk hO => ?_, hc⟩
  · rcases hO with hO | hO
    · exact hO
    · exact hne g hO (by rw [e1]; obtain ⟨us', _, _, ho⟩ := h.out; rcases ho.2 with ⟨e2, _⟩ | ⟨g', cap, cur, e2, _⟩ <;> rw [e1] at e2 <;> cases e2; rfl)
  · rcases hO with hO | hO
    · exact hO.elim
    · exact hv.isG hO ht hn
/-- A slice that stood before an own row was made. -/
theorem Sl.srcG {zs : List β} {e' b' : Nat} {w1 : World} (hK : K.Free U n0) (h : Sl K w (Loc F w1) s ys) (hv : Gw.Own L e' b' w (fun _ => False) v zs) (ht : e' ≠ U) (hn : n0 ≤ b') (hne : ∀ g, v.ownBlock = some g → w1.heap.size ≤ g) : Sl K w (Out (fun _ => False) v) s ys := by
  obtain ⟨A, c, e1, h1, h2, h3⟩ := h
  refine ⟨A, c, e1, h1, h2, fun i x hx => ?_⟩
  obtain ⟨g, o, us, rfl, hg, hF, hr, hc⟩ := h3 i x hx
  refine ⟨g, o, us, rfl, hg, fun hO => ?_, hK _ _ _ _ _ hr fun k hk hO => ?_, hc⟩
  · rcases hO with hO | hO
    · exact hO
    · exact hF (.inr (hne g hO))
  · rcases hO with hO | hO
    · exact hO.elim
    · exact hv.isG hO ht hn
theorem Sl.gO {w1 : World} {u : Value} (h : Sl K w (Loc F w1) v xs) (k : w.grownBy w' u.ownBlock) (hu : ∀ g, u.ownBlock = some g → w1.heap.size ≤ g) : Sl K w' (Loc F w1) v xs := h.keep fun i hi hF => k.block i hi (fun e => hF (.inr (hu i e.symm)))
theorem cells_of {l : List Cl} {va : Value} (h : Sl (Kd.rcell U n0) w F va (l.map rcl)) : Sl (Kd.cell U n0) w F va l := by
  obtain ⟨A, c, e, h1, h2, h3⟩ := h
  rw [List.length_map] at e h1
  refine ⟨A, c, e, h1, h2, fun i x hx => ?_⟩
  exact h3 i (rcl x) (by rw [List.getElem?_map, hx]; rfl)
end
section
variable {P : Program} {n : Nat} {D : List Deferred} {ρ : Env} {w w' : World} {α : Type} {K : Kd α} {F : Nat → Prop} {U n0 : Nat}
variable {d ty : Nat} {pos : String} {after : Array Edge} {gd : Option (Nat × Bool)} {C : Value → World → Prop} {x y z : Operand}
theorem SlC.g0 {v : Value} {xs : List α} (h : SlC K w F v xs) (k : w.grownBy w' none) : SlC K w' F v xs := ⟨h.1.g0 k, h.2⟩
/-- append([]T{}, s...) -/
theorem s_append0 {t e by_ base g : Nat} {z' s : Value} {ys : List α} (hs : SlF P t e K.sz by_ z') (hx : opv ρ x = some (.slice (some ⟨g, 0, none⟩) 0 0)) (hy : opv ρ y = some s) (ho : Gw.Own K e base w F (.slice (some ⟨g, 0, none⟩) 0 0) []) (hsrc : Sl K w F s ys)
    (hone : K.Ones) (h63 : ys.length ≤ 100000000) (hbytes : (2 * ys.length) * by_ ≤ 140737488355328) (hbase : base ≤ w.heap.size) (hF : ∀ k, F k → k < w.heap.size)
    (k : ∀ v' w', Gw.Own K e base w' F v' ys → w.grownBy w' none → C v' w') :
    OpW P ⟨some d, .call { callee := .builtin .append, args := #[x, y], argTypes := #[t, t] }, ty, pos, after, gd⟩ n D ρ w C := by
  by_cases hys : ys = []
  · subst hys
    obtain ⟨inf, hinf, hzero, hsz, hby⟩ := hs.inf
    obtain ⟨A, c, rfl, _⟩ := hsrc
    refine opw_val (v := .slice (some ⟨g, 0, none⟩) 0 0) (w' := w) (fun ev he => ?_) (k _ _ ho (World.grownBy.refl w _))
    cases A with
    | none => simp [execOp, resolve, invoke, builtin, he x _ hx, he y _ hy, Builtin.append_, run_underlying hs.und, sizeOf, typeInfo, hinf, Builtin.lenOf, Builtin.firstCells, storeCells]
    | some a =>
      have hf := run_firstCells_some (P := P) w inf.size 0 a 0 c [] (by simp) (by simp)
      simp [execOp, resolve, invoke, builtin, he x _ hx, he y _ hy, Builtin.append_, run_underlying hs.und, sizeOf, typeInfo, hinf, Builtin.lenOf, hf, storeCells]
  · refine s_appfull hs hx hy ⟨ho.sl, _, rfl⟩ hsrc hys hone (by simpa using h63) (by simpa using hbytes) hF fun v' w' h1 h2 h3 => k v' w' (h1.rebase hbase) h2
theorem lit_cell {g t : Nat} {a b : Value} {c : Cl} (hB : Blk w g t [.bool (decide (c.x < 0)), a, .bool (decide (c.y < 0)), b, .int .u8 c.st].toArray) (h1 : Sl Kd.u32 w (G U n0 w) a (ml c.x)) (h2 : Sl Kd.u32 w (G U n0 w) b (ml c.y)) (h3 : 0 ≤ c.st ∧ c.st ≤ 255) :
    Sl (Kd.cell U n0) w (fun _ => False) (.slice (some ⟨g, 0, none⟩) 1 1) [c] := by
  refine sl_lit (us := [[.bool (decide (c.x < 0)), a, .bool (decide (c.y < 0)), b, .int .u8 c.st]]) (by simpa using hB) rfl (by simp [Kd.cell]) (fun h => h) rfl (by decide) ?_
  intro i u y hu hy
  cases i with
  | zero =>
    simp at hu hy; subst hu; subst hy
    exact ⟨a, b, rfl, h1.weak fun k _ hk => hk.elim (fun h => h.elim) id, h2.weak fun k _ hk => hk.elim (fun h => h.elim) id, h3⟩
  | succ i => simp at hu
theorem lit_cellO {g t e base : Nat} {v a b : Value} {c : Cl} {ys : List Cl} (hB : Blk w g t [.bool (decide (c.x < 0)), a, .bool (decide (c.y < 0)), b, .int .u8 c.st].toArray) (h1 : Sl Kd.u32 w (G U n0 w) a (ml c.x)) (h2 : Sl Kd.u32 w (G U n0 w) b (ml c.y)) (h3 : 0 ≤ c.st ∧ c.st ≤ 255)
    (hO : Gw.Own (Kd.cell U n0) e base w (fun _ => False) v ys) (hg : v.ownBlock ≠ some g) (ht : e ≠ U) (hn : n0 ≤ base) : Sl (Kd.cell U n0) w (Out (fun _ => False) v) (.slice (some ⟨g, 0, none⟩) 1 1) [c] := by
  refine sl_lit (us := [[.bool (decide (c.x < 0)), a, .bool (decide (c.y < 0)), b, .int .u8 c.st]]) (by simpa using hB) rfl (by simp [Kd.cell]) (fun h => h.elim id hg) rfl (by decide) ?_
  intro i u y hu hy
  cases i with
  | zero =>
    simp at hu hy; subst hu; subst hy
    exact ⟨a, b, rfl, h1.outG hO ht hn, h2.outG hO ht hn, h3⟩
  | succ i => simp at hu
end
end Go.Gw

set_option linter.unusedSimpArgs false
set_option linter.unusedVariables false
/-! ### The reference's cells: the plain law -/
namespace Go.Gw
open Go.RowKit
def ordC (a b : Cl) : Int := if cmpI a.y b.y = 0 then cmpI a.x b.x else cmpI a.y b.y
def insC : List Cl → Cl → List Cl
  | [], c => [c]
  | a :: r, c => if ordC a c < 0 then a :: insC r c else if ordC a c = 0 then c :: r else c :: a :: r
def lastA (l : List Cl) : List Cl := l.foldl insC []
def nzC (c : Cl) : Bool := decide (c.st ≠ 0)
def lastL (l : List Cl) : List Cl := (lastA l).filter nzC
theorem ixc_cons {a : Cl} {r : List Cl} {j : Int} (h : 1 ≤ j) : ix (a :: r) j = ix r (j - 1) := by
  unfold ix
  rw [show j.toNat = (j - 1).toNat + 1 by omega]; rfl
theorem ixc_zero {a : Cl} {r : List Cl} : ix (a :: r) 0 = a := rfl
theorem insC_new : ∀ {os : List Cl} {c : Cl} {k : Int}, 0 ≤ k → k ≤ os.length → (∀ j : Int, 0 ≤ j → j < k → ordC (ix os j) c < 0) → (k < os.length → ¬ ordC (ix os k) c < 0 ∧ ordC (ix os k) c ≠ 0) →
    (os.take k.toNat ++ [c]) ++ os.drop k.toNat = insC os c
  | [], c, k, h0, h1, _, _ => by simp [insC]
  | a :: r, c, k, h0, h1, hb, hs => by
    by_cases hk : k = 0
    · subst hk
      have := hs (by simp only [List.length_cons]; omega)
      rw [ixc_zero] at this
      simp [insC, this.1, this.2]
    · have ha := hb 0 (Int.le_refl _) (by omega)
      rw [ixc_zero] at ha
      have ih := insC_new (os := r) (c := c) (k := k - 1) (by omega) (by simp at h1; omega) (fun j j0 j1 => by have := hb (j + 1) (by omega) (by omega); rw [ixc_cons (by omega), show j + 1 - 1 = j by omega] at this; exact this) (fun hl => by have := hs (by simp; omega); rw [ixc_cons (by omega)] at this; exact this)
      rw [show k.toNat = (k - 1).toNat + 1 by omega]
      simp only [List.take_succ_cons, List.drop_succ_cons, List.cons_append, insC, ha, if_true, ih]
theorem insC_same : ∀ {os : List Cl} {c : Cl} {k : Int}, 0 ≤ k → k < os.length → (∀ j : Int, 0 ≤ j → j < k → ordC (ix os j) c < 0) → ordC (ix os k) c = 0 →
    (os.take k.toNat ++ [c]) ++ (os.drop k.toNat).drop (1 : Int).toNat = insC os c
  | [], c, k, h0, h1, _, _ => by simp at h1; omega
  | a :: r, c, k, h0, h1, hb, hs => by
    by_cases hk : k = 0
    · subst hk
      rw [ixc_zero] at hs
      simp [insC, hs]
    · have ha := hb 0 (Int.le_refl _) (by omega)
      rw [ixc_zero] at ha
      have ih := insC_same (os := r) (c := c) (k := k - 1) (by omega) (by simp at h1; omega) (fun j j0 j1 => by have := hb (j + 1) (by omega) (by omega); rw [ixc_cons (by omega), show j + 1 - 1 = j by omega] at this; exact this) (by rw [ixc_cons (by omega)] at hs; exact hs)
      rw [show k.toNat = (k - 1).toNat + 1 by omega]
      simp only [List.take_succ_cons, List.drop_succ_cons, List.cons_append, insC, ha, if_true, ih]
theorem insC_len : ∀ (os : List Cl) (c : Cl), (insC os c).length ≤ os.length + 1
  | [], c => by simp [insC]
  | a :: r, c => by
    unfold insC
    have := insC_len r c
    split
    · simp; omega
    · split
      · simp
      · simp
theorem take_snocC {l : List Cl} {i : Int} (h0 : 0 ≤ i) (h1 : i < l.length) : l.take (i + 1).toNat = l.take i.toNat ++ [ix l i] := by
  rw [show (i + 1).toNat = i.toNat + 1 by omega, List.take_add_one]
  unfold ix
  simp [List.getD_eq_getElem?_getD, show i.toNat < l.length by omega]
theorem lastA_snoc (l : List Cl) (c : Cl) : lastA (l ++ [c]) = insC (lastA l) c := by unfold lastA; rw [List.foldl_append]; rfl
theorem lastA_step {l os : List Cl} {i : Int} (h0 : 0 ≤ i) (h1 : i < l.length) (h : os = lastA (l.take i.toNat)) : insC os (ix l i) = lastA (l.take (i + 1).toNat) := by
  rw [take_snocC h0 h1, lastA_snoc, h]
theorem lastA_len : ∀ (l : List Cl), (lastA l).length ≤ l.length := by
  intro l
  unfold lastA
  have : ∀ (l os : List Cl), (l.foldl insC os).length ≤ os.length + l.length := by
    intro l
    induction l with
    | nil => intro os; simp
    | cons a r ih => intro os; simp only [List.foldl_cons, List.length_cons]; have := ih (insC os a); have := insC_len os a; omega
  simpa using this l []
theorem filt_yes {os ys : List Cl} {i : Int} (h0 : 0 ≤ i) (h1 : i < os.length) (h : ys = (os.take i.toNat).filter nzC) (hz : (ix os i).st ≠ 0) : ys ++ [ix os i] = (os.take (i + 1).toNat).filter nzC := by
  rw [take_snocC h0 h1, List.filter_append, h]; simp [nzC, hz]
theorem filt_no {os ys : List Cl} {i : Int} (h0 : 0 ≤ i) (h1 : i < os.length) (h : ys = (os.take i.toNat).filter nzC) (hz : ¬ (ix os i).st ≠ 0) : ys = (os.take (i + 1).toNat).filter nzC := by
  rw [take_snocC h0 h1, List.filter_append, h]; simp [nzC] at hz ⊢; simp [hz]
theorem filt_len {os ys : List Cl} {i : Int} (h : ys = (os.take i.toNat).filter nzC) : ys.length ≤ os.length := by
  rw [h]; have := List.length_filter_le nzC (os.take i.toNat); simp at this ⊢; omega
/-- Cells that are not too great. -/
def CBd (l : List Cl) : Prop := ∀ c ∈ l, Bd 50 c.x ∧ Bd 50 c.y
theorem ix_memC {l : List Cl} {i : Int} (h0 : 0 ≤ i) (h1 : i < l.length) : ix l i ∈ l := by
  unfold ix
  rw [List.getD_eq_getElem?_getD, List.getElem?_eq_getElem (by omega)]
  exact List.getElem_mem _
theorem cbd_ix {l : List Cl} (h : CBd l) {i : Int} (h0 : 0 ≤ i) (h1 : i < l.length) : Bd 50 (ix l i).x ∧ Bd 50 (ix l i).y := h _ (ix_memC h0 h1)
theorem insC_mem : ∀ {os : List Cl} {c a : Cl}, a ∈ insC os c → a = c ∨ a ∈ os
  | [], c, a, h => by simp [insC] at h; exact .inl h
  | b :: r, c, a, h => by
    unfold insC at h
    split at h
    · rcases List.mem_cons.1 h with h | h
      · exact .inr (by simp [h])
      · rcases insC_mem h with h | h
        · exact .inl h
        · exact .inr (by simp [h])
    · split at h
      · rcases List.mem_cons.1 h with h | h
        · exact .inl h
        · exact .inr (by simp [h])
      · rcases List.mem_cons.1 h with h | h
        · exact .inl h
        · exact .inr h
theorem lastA_mem {l : List Cl} {a : Cl} (h : a ∈ lastA l) : a ∈ l := by
  have : ∀ (l os : List Cl), a ∈ l.foldl insC os → a ∈ os ∨ a ∈ l := by
    intro l
    induction l with
    | nil => intro os h; exact .inl h
    | cons b r ih =>
      intro os h
      rcases ih _ h with h | h
      · rcases insC_mem h with h | h
        · exact .inr (by simp [h])
        · exact .inl h
      · exact .inr (by simp [h])
  simpa using this l [] h
theorem cbd_last {l os : List Cl} {i : Int} (h : CBd l) (ho : os = lastA (l.take i.toNat)) : CBd os := fun c hc => h c (List.mem_of_mem_take (lastA_mem (ho ▸ hc)))
theorem cbd_lastL {l : List Cl} (h : CBd l) : CBd (lastL l) := fun c hc => h c (lastA_mem (List.mem_filter.1 hc).1)
theorem lastL_len (l : List Cl) : (lastL l).length ≤ l.length := by
  unfold lastL; have := List.length_filter_le nzC (lastA l); have := lastA_len l; omega
theorem last_len {l os : List Cl} {i : Int} (ho : os = lastA (l.take i.toNat)) : os.length ≤ l.length := by
  have := lastA_len (l.take i.toNat); rw [← ho] at this; simp at this; omega
end Go.Gw

set_option linter.unusedSimpArgs false
set_option linter.unusedVariables false
/-! ### Cells into a tree: the plain law of 'place' -/
namespace Go.Gw
open Go.RowKit
def qX (x h k : Int) : Int := if k % 2 = 1 then x + h else x
def qY (y h k : Int) : Int := if 1 < k then y + h else y
def qC (x y h : Int) (c : Cl) : Bool := decide (x ≤ c.x ∧ c.x < x + h ∧ y ≤ c.y ∧ c.y < y + h)
def hdS (l : List Cl) : Int := if l = [] then 0 else (ix l 0).st
def placeN : Nat → Int → Int → List Cl → List Nd → List Nd × Int
  | 0, _, _, _, o => (o, 0)
  | v + 1, x, y, l, o =>
    if l = [] then (o, 0) else
    let h := hf ((v : Int) + 1)
    let kid (k : Int) (o : List Nd) : List Nd × Int := if v = 0 then (o, hdS (l.filter (qC (qX x h k) (qY y h k) h))) else placeN v (qX x h k) (qY y h k) (l.filter (qC (qX x h k) (qY y h k) h)) o
    let r0 := kid 0 o
    let r1 := kid 1 r0.1
    let r2 := kid 2 r1.1
    let r3 := kid 3 r2.1
    (r3.1 ++ [⟨(v : Int) + 1, r0.2, r1.2, r2.2, r3.2⟩], (r3.1.length : Int) + 1)
/-- One quarter. -/
def kidP (v : Nat) (x y : Int) (l : List Cl) (k : Int) (o : List Nd) : List Nd × Int :=
  let h := hf ((v : Int) + 1)
  if v = 0 then (o, hdS (l.filter (qC (qX x h k) (qY y h k) h))) else placeN v (qX x h k) (qY y h k) (l.filter (qC (qX x h k) (qY y h k) h)) o
/-- After k quarters. -/
def pst (v : Nat) (x y : Int) (l : List Cl) (o : List Nd) : Nat → List Nd × (Int → Int)
  | 0 => (o, fun _ => 0)
  | k + 1 => ((kidP v x y l k (pst v x y l o k).1).1, fun j => if j = (k : Int) then (kidP v x y l k (pst v x y l o k).1).2 else (pst v x y l o k).2 j)
theorem place_end {v : Nat} {x y : Int} {l : List Cl} {o : List Nd} (h : l ≠ []) :
    placeN (v + 1) x y l o = ((pst v x y l o 4).1 ++ [⟨(v : Int) + 1, (pst v x y l o 4).2 0, (pst v x y l o 4).2 1, (pst v x y l o 4).2 2, (pst v x y l o 4).2 3⟩], ((pst v x y l o 4).1.length : Int) + 1) := by
  simp only [placeN, if_neg h, pst, kidP]
  simp
theorem place_nil {v : Nat} {x y : Int} {o : List Nd} : placeN v x y [] o = (o, 0) := by cases v <;> simp [placeN]
/-- What is known of a node's cells on the way. -/
structure PSt (v : Nat) (x y : Int) (l : List Cl) (o : List Nd) (k : Int) (ok : List Nd) (a b c e : Int) : Prop where
  q : ok = (pst v x y l o k.toNat).1
  a : a = (pst v x y l o k.toNat).2 0
  b : b = (pst v x y l o k.toNat).2 1
  c : c = (pst v x y l o k.toNat).2 2
  e : e = (pst v x y l o k.toNat).2 3
theorem pst_zero (v : Nat) (x y : Int) (l : List Cl) (o : List Nd) : PSt v x y l o 0 o 0 0 0 0 := ⟨rfl, rfl, rfl, rfl, rfl⟩
theorem pst_next {v : Nat} {x y : Int} {l : List Cl} {o ok : List Nd} {k a b c e : Int} (h : PSt v x y l o k ok a b c e) (hk : 0 ≤ k) {on : List Nd} {r : Int} (hr : kidP v x y l k ok = (on, r)) :
    PSt v x y l o (k + 1) on (if k = 0 then r else a) (if k = 1 then r else b) (if k = 2 then r else c) (if k = 3 then r else e) := by
  obtain ⟨h1, h2, h3, h4, h5⟩ := h
  have e1 : (k + 1).toNat = k.toNat + 1 := by omega
  have e2 : ((k.toNat : Nat) : Int) = k := by omega
  subst h1
  refine ⟨?_, ?_, ?_, ?_, ?_⟩ <;> rw [e1] <;> simp only [pst, e2, hr]
  · by_cases q : k = 0
    · rw [if_pos q, if_pos q.symm]
    · rw [if_neg q, if_neg (fun e => q e.symm)]; exact h2
  · by_cases q : k = 1
    · rw [if_pos q, if_pos q.symm]
    · rw [if_neg q, if_neg (fun e => q e.symm)]; exact h3
  · by_cases q : k = 2
    · rw [if_pos q, if_pos q.symm]
    · rw [if_neg q, if_neg (fun e => q e.symm)]; exact h4
  · by_cases q : k = 3
    · rw [if_pos q, if_pos q.symm]
    · rw [if_neg q, if_neg (fun e => q e.symm)]; exact h5
/-- A leaf's quarter that has no cell leaves the place as it was: nought. -/
theorem pst_high : ∀ (v : Nat) (x y : Int) (l : List Cl) (o : List Nd) (k : Nat) (j : Int), (k : Int) ≤ j → (pst v x y l o k).2 j = 0
  | v, x, y, l, o, 0, j, _ => rfl
  | v, x, y, l, o, k + 1, j, h => by
    simp only [pst]
    rw [if_neg (by omega)]
    exact pst_high v x y l o k j (by omega)
theorem pst_same {v : Nat} {x y : Int} {l : List Cl} {o ok : List Nd} {k a b c e : Int} (h : PSt v x y l o k ok a b c e) (hk : 0 ≤ k) (hk4 : k < 4) (hr : kidP v x y l k ok = (ok, 0)) : PSt v x y l o (k + 1) ok a b c e := by
  have h2 := pst_next h hk hr
  obtain ⟨_, ha, hb, hc, he⟩ := h
  have hz := pst_high v x y l o k.toNat
  have : k = 0 ∨ k = 1 ∨ k = 2 ∨ k = 3 := by omega
  rcases this with rfl | rfl | rfl | rfl <;> simp at h2
  · rw [hz 0 (by omega)] at ha; subst ha; exact h2
  · rw [hz 1 (by omega)] at hb; subst hb; exact h2
  · rw [hz 2 (by omega)] at hc; subst hc; exact h2
  · rw [hz 3 (by omega)] at he; subst he; exact h2
/-- Where a node may lie. -/
def PB (v x : Int) : Prop := -(hf 1330) ≤ x ∧ x + 2 * hf v ≤ hf 1330
theorem pb_bd {v x : Int} (h : PB v x) : Bd 43 x := by
  have h1 := hf_pos v
  have h3 : hf 1330 < PW 42 := by decide +kernel
  have h4 : PW 42 < PW 43 := by decide +kernel
  unfold PB at h; unfold Bd; omega
theorem pb_kid {v x : Int} {k : Int} (hv : 2 ≤ v) (h : PB v x) : PB (v - 1) (qX x (hf v) k) := by
  have h1 := hf_two hv
  have h2 := hf_pos v
  unfold PB at *; unfold qX
  split <;> omega
theorem pb_kidY {v x : Int} {k : Int} (hv : 2 ≤ v) (h : PB v x) : PB (v - 1) (qY x (hf v) k) := by
  have h1 := hf_two hv
  have h2 := hf_pos v
  unfold PB at *; unfold qY
  split <;> omega
theorem kid_leaf {v : Nat} {x y h : Int} {l : List Cl} {k : Int} {o : List Nd} {A B : Int} {ys : List Cl} (hv : v = 0) (hh : h = hf ((v : Int) + 1)) (hA : A = qX x h k) (hB : B = qY y h k) (hy : ys = l.filter (qC A B h)) : kidP v x y l k o = (o, hdS ys) := by
  subst hv hA hB hy hh; rfl
theorem kid_node {v : Nat} {x y h : Int} {l : List Cl} {k : Int} {o : List Nd} {A B : Int} {ys : List Cl} (hv : v ≠ 0) (hh : h = hf ((v : Int) + 1)) (hA : A = qX x h k) (hB : B = qY y h k) (hy : ys = l.filter (qC A B h)) : kidP v x y l k o = placeN v A B ys o := by
  subst hA hB hy hh; unfold kidP; simp only [if_neg hv]
theorem qf_yes {l ys : List Cl} {i x y h : Int} (h0 : 0 ≤ i) (h1 : i < l.length) (e : ys = (l.take i.toNat).filter (qC x y h)) (a : x ≤ (ix l i).x) (b : (ix l i).x < x + h) (c : y ≤ (ix l i).y) (d : (ix l i).y < y + h) : ys ++ [ix l i] = (l.take (i + 1).toNat).filter (qC x y h) := by
  rw [take_snocC h0 h1, List.filter_append, e]; simp [qC, a, b, c, d]
theorem qf_no {l ys : List Cl} {i x y h : Int} (h0 : 0 ≤ i) (h1 : i < l.length) (e : ys = (l.take i.toNat).filter (qC x y h)) (a : ¬ (x ≤ (ix l i).x ∧ (ix l i).x < x + h ∧ y ≤ (ix l i).y ∧ (ix l i).y < y + h)) : ys = (l.take (i + 1).toNat).filter (qC x y h) := by
  rw [take_snocC h0 h1, List.filter_append, e]; simp [qC, a]
theorem qf_len {l ys : List Cl} {i x y h : Int} (e : ys = (l.take i.toNat).filter (qC x y h)) : ys.length ≤ l.length := by
  rw [e]; have := List.length_filter_le (qC x y h) (l.take i.toNat); simp at this ⊢; omega
theorem cbd_filter {l ys : List Cl} {p : Cl → Bool} {i : Int} (h : CBd l) (e : ys = (l.take i.toNat).filter p) : CBd ys := fun c hc => h c (List.mem_of_mem_take (List.mem_filter.1 (e ▸ hc)).1)
section
variable {α : Type} {K : Kd α} {U n0 : Nat} {w w' : World} {v v' s : Value} {xs : List α}
theorem Sl.frmL (h : Sl K w (fun k => v.ownBlock = some k) s xs) (hF : Frm (fun _ => False) w v w' v') : Sl K w' (Loc (fun k => v.ownBlock = some k) w) s xs := h.loc.keep fun i hi hn => (hF.2 i hi (fun h => h) (fun e => hn (.inl e))).1
theorem Sl.ggFrm {β : Type} {L : Kd β} {e base : Nat} {os : List β} {ys : List Int} (h : Sl Kd.u32 w (G U n0 w) s ys) (hF : Frm (fun _ => False) w v w' v') (hO : Gw.Own L e base w (fun _ => False) v os) (ht : e ≠ U) (hn : n0 ≤ base) : Sl Kd.u32 w' (G U n0 w') s ys :=
  h.gkeep (fun k hk hG => (hF.2 k hk (fun h => h) (fun e => hG (hO.isG e ht hn))).1) u32_flat
theorem Frm.rowO {X : Nat → Prop} {w0 : World} {v0 u : Value} (h : Frm X w0 v0 w v) (k : w.grownBy w' u.ownBlock) (hu : ∀ g, u.ownBlock = some g → w0.heap.size ≤ g) : Frm X w0 v0 w' v :=
  ⟨Nat.le_trans h.1 k.size, fun g a b c => ⟨(k.block g (Nat.lt_of_lt_of_le a h.1) (fun e => by have := hu g e.symm; omega)).trans (h.2 g a b c).1, (h.2 g a b c).2⟩⟩
end
theorem cmpI_ge {a b : Int} : 0 ≤ cmpI a b ↔ b ≤ a := by unfold cmpI; split <;> (try split) <;> omega
theorem cmpI_lti {a b : Int} : cmpI a b < 0 ↔ a < b := by unfold cmpI; split <;> (try split) <;> omega
def inC (c : Cl) (v : Int) : Bool := decide (-(hf v) ≤ c.x ∧ c.x < hf v ∧ -(hf v) ≤ c.y ∧ c.y < hf v)
/-! #### how many nodes there may be -/
def qn (x y h : Int) (l : List Cl) (k : Int) : Nat := (l.filter (qC (qX x h k) (qY y h k) h)).length
theorem q4 (x y h : Int) (hh : 0 < h) (l : List Cl) : qn x y h l 0 + qn x y h l 1 + qn x y h l 2 + qn x y h l 3 ≤ l.length := by
  induction l with
  | nil => simp [qn]
  | cons c r ih =>
    have e : ∀ k, qn x y h (c :: r) k = qn x y h r k + if qC (qX x h k) (qY y h k) h c = true then 1 else 0 := by
      intro k; unfold qn; rw [List.filter_cons]; split <;> simp
    rw [e 0, e 1, e 2, e 3, List.length_cons]
    have one : (if qC (qX x h 0) (qY y h 0) h c = true then 1 else 0) + (if qC (qX x h 1) (qY y h 1) h c = true then 1 else 0) + (if qC (qX x h 2) (qY y h 2) h c = true then 1 else 0) + (if qC (qX x h 3) (qY y h 3) h c = true then 1 else 0) ≤ 1 := by
      rw [show qX x h 0 = x from rfl, show qY y h 0 = y from rfl, show qX x h 1 = x + h from rfl, show qY y h 1 = y from rfl, show qX x h 2 = x from rfl, show qY y h 2 = y + h from rfl, show qX x h 3 = x + h from rfl, show qY y h 3 = y + h from rfl]
      simp only [qC, decide_eq_true_eq]
      split <;> split <;> split <;> split <;> omega
    omega
theorem qn_sum {x y h : Int} (hh : 0 < h) (l : List Cl) {k : Nat} (hk : k < 4) : (((List.range k).map fun j : Nat => qn x y h l j).sum) + qn x y h l k ≤ l.length := by
  have := q4 x y h hh l
  have : k = 0 ∨ k = 1 ∨ k = 2 ∨ k = 3 := by omega
  rcases this with rfl | rfl | rfl | rfl <;> simp [List.range_succ] <;> omega
theorem qn_sum4 {x y h : Int} (hh : 0 < h) (l : List Cl) {k : Nat} (hk : k ≤ 4) : (((List.range k).map fun j : Nat => qn x y h l j).sum) ≤ l.length := by
  have := q4 x y h hh l
  have : k = 0 ∨ k = 1 ∨ k = 2 ∨ k = 3 ∨ k = 4 := by omega
  rcases this with rfl | rfl | rfl | rfl | rfl <;> simp [List.range_succ] <;> omega
theorem pst_len' {v : Nat} (ih : ∀ (x y : Int) (l : List Cl) (o : List Nd), (placeN v x y l o).1.length ≤ o.length + v * l.length) (x y : Int) (l : List Cl) (o : List Nd) : ∀ k : Nat, (pst v x y l o k).1.length ≤ o.length + v * (((List.range k).map fun j : Nat => qn x y (hf ((v : Int) + 1)) l j).sum)
  | 0 => by simp [pst]
  | k + 1 => by
    have h := pst_len' ih x y l o k
    simp only [pst]
    rw [List.range_succ, List.map_append, List.sum_append, Nat.mul_add]
    simp only [List.map_cons, List.map_nil, List.sum_cons, List.sum_nil, Nat.add_zero]
    unfold kidP
    simp only
    split
    · rename_i hv; subst hv; simp only; omega
    · have h2 := ih (qX x (hf ((v : Int) + 1)) k) (qY y (hf ((v : Int) + 1)) k) (l.filter (qC (qX x (hf ((v : Int) + 1)) k) (qY y (hf ((v : Int) + 1)) k) (hf ((v : Int) + 1)))) (pst v x y l o k).1
      unfold qn
      unfold qn at h
      omega
theorem place_len : ∀ (v : Nat) (x y : Int) (l : List Cl) (o : List Nd), (placeN v x y l o).1.length ≤ o.length + v * l.length
  | 0, x, y, l, o => by simp [placeN]
  | v + 1, x, y, l, o => by
    by_cases hl : l = []
    · subst hl; rw [place_nil]; simp
    · rw [place_end hl]
      have h1 := pst_len' (place_len v) x y l o 4
      have h2 := qn_sum4 (x := x) (y := y) (hf_pos ((v : Int) + 1)) l (k := 4) (Nat.le_refl _)
      have h3 := Nat.mul_le_mul_left v h2
      have h4 : 0 < l.length := List.length_pos_iff.2 hl
      simp only [List.length_append, List.length_singleton]
      rw [Nat.add_mul]
      omega
theorem pst_len {v : Nat} {x y : Int} {l : List Cl} {o ok : List Nd} {k a b c e : Int} (h : PSt v x y l o k ok a b c e) (h0 : 0 ≤ k) (h1 : k ≤ 4) : ok.length ≤ o.length + v * l.length := by
  have h2 := pst_len' (place_len v) x y l o k.toNat
  rw [← h.q] at h2
  have h3 := Nat.mul_le_mul_left v (qn_sum4 (x := x) (y := y) (hf_pos ((v : Int) + 1)) l (k := k.toNat) (by omega))
  omega
theorem pst_room {v : Nat} {x y A B h : Int} {l ys : List Cl} {o ok : List Nd} {k a b c e : Int} (hs : PSt v x y l o k ok a b c e) (h0 : 0 ≤ k) (h1 : k < 4) (hh : h = hf ((v : Int) + 1)) (hA : A = qX x h k) (hB : B = qY y h k) (hy : ys = l.filter (qC A B h)) : ok.length + v * ys.length ≤ o.length + v * l.length := by
  have h2 := pst_len' (place_len v) x y l o k.toNat
  rw [← hs.q] at h2
  have h3 := Nat.mul_le_mul_left v (qn_sum (x := x) (y := y) (hf_pos ((v : Int) + 1)) l (k := k.toNat) (by omega))
  have e : qn x y (hf ((v : Int) + 1)) l ((k.toNat : Nat) : Int) = ys.length := by
    rw [show ((k.toNat : Nat) : Int) = k by omega, hy, hA, hB, hh]; rfl
  rw [e, Nat.mul_add] at h3
  omega
end Go.Gw

set_option linter.unusedSimpArgs false
set_option linter.unusedVariables false
/-! ### What 'place' lays has the cells -/
namespace Go.Gw
open Go.RowKit
/-- A number in a list of nodes, of a level. -/
structure NumIn (p : List Nd) (c v : Int) : Prop where
  r : 0 ≤ c ∧ c ≤ p.length
  lv : c ≠ 0 → (ix p (c - 1)).lv = v
theorem NumIn.pre {o p : List Nd} {c v : Int} (h : NumIn o c v) (k : o <+: p) : NumIn p c v := ⟨⟨h.r.1, by have := k.length_le; have := h.r; omega⟩, fun hc => by rw [ix_pre k _ (by have := h.r; omega) (by have := h.r; omega)]; exact h.lv hc⟩
theorem NumIn.zero (p : List Nd) (v : Int) : NumIn p 0 v := ⟨⟨Int.le_refl _, by omega⟩, fun h => absurd rfl h⟩
theorem tr_snoc {p : List Nd} {x : Nd} (hp : looseB p = true) (hq : looseB (p ++ [x]) = true) : tr (p ++ [x]) ((p.length : Int) + 1) = if x.lv = 1 then .leaf x.k0 x.k1 x.k2 x.k3 else .nd x.lv (tr (p ++ [x]) x.k0) (tr (p ++ [x]) x.k1) (tr (p ++ [x]) x.k2) (tr (p ++ [x]) x.k3) := by
  have e : ix (p ++ [x]) ((p.length : Int) + 1 - 1) = x := by
    rw [show (p.length : Int) + 1 - 1 = p.length by omega]
    unfold ix; simp [List.getD_eq_getElem?_getD]
  rw [tr_at hq (by omega) (by simp), e]
theorem laid_node {p : List Nd} {v a b c d : Int} (hp : looseB p = true) (hv : 2 ≤ v ∧ v ≤ 1329) (ha : NumIn p a (v - 1)) (hb : NumIn p b (v - 1)) (hc : NumIn p c (v - 1)) (hd : NumIn p d (v - 1)) :
    looseB (p ++ [⟨v, a, b, c, d⟩]) = true ∧ tr (p ++ [⟨v, a, b, c, d⟩]) ((p.length : Int) + 1) = .nd v (tr p a) (tr p b) (tr p c) (tr p d) := by
  have q : ∀ {c : Int}, NumIn p c (v - 1) → c = 0 ∨ (v = 1 ∧ 0 < c ∧ c ≤ 255) ∨ (v ≠ 1 ∧ 0 < c ∧ c ≤ p.length ∧ (ix p (c - 1)).lv = v - 1) := fun {c} h => by
    by_cases e : c = 0
    · exact .inl e
    · exact .inr (.inr ⟨by omega, by have := h.r; omega, h.r.2, h.lv e⟩)
  have h1 : looseB (p ++ [⟨v, a, b, c, d⟩]) = true := loose_snoc hp (by show 1 ≤ v ∧ v ≤ 1329; omega) fun k k0 k1 => by
    have : k = 0 ∨ k = 1 ∨ k = 2 ∨ k = 3 := by omega
    rcases this with rfl | rfl | rfl | rfl
    · exact q ha
    · exact q hb
    · exact q hc
    · exact q hd
  refine ⟨h1, ?_⟩
  rw [tr_snoc hp h1, if_neg (show ¬ v = 1 by omega), tr_pre hp h1 (List.prefix_append _ _) a ha.r.1 ha.r.2, tr_pre hp h1 (List.prefix_append _ _) b hb.r.1 hb.r.2, tr_pre hp h1 (List.prefix_append _ _) c hc.r.1 hc.r.2, tr_pre hp h1 (List.prefix_append _ _) d hd.r.1 hd.r.2]
theorem laid_leaf {p : List Nd} {a b c d : Int} (hp : looseB p = true) (ha : 0 ≤ a ∧ a ≤ 255) (hb : 0 ≤ b ∧ b ≤ 255) (hc : 0 ≤ c ∧ c ≤ 255) (hd : 0 ≤ d ∧ d ≤ 255) :
    looseB (p ++ [⟨1, a, b, c, d⟩]) = true ∧ tr (p ++ [⟨1, a, b, c, d⟩]) ((p.length : Int) + 1) = .leaf a b c d := by
  have q : ∀ {c : Int}, 0 ≤ c ∧ c ≤ 255 → c = 0 ∨ ((1 : Int) = 1 ∧ 0 < c ∧ c ≤ 255) ∨ ((1 : Int) ≠ 1 ∧ 0 < c ∧ c ≤ p.length ∧ (ix p (c - 1)).lv = 1 - 1) := fun {c} h => by
    by_cases e : c = 0
    · exact .inl e
    · exact .inr (.inl ⟨rfl, by omega, h.2⟩)
  have h1 : looseB (p ++ [⟨1, a, b, c, d⟩]) = true := loose_snoc hp (by show (1 : Int) ≤ 1 ∧ (1 : Int) ≤ 1329; omega) fun k k0 k1 => by
    have : k = 0 ∨ k = 1 ∨ k = 2 ∨ k = 3 := by omega
    rcases this with rfl | rfl | rfl | rfl
    · exact q ha
    · exact q hb
    · exact q hc
    · exact q hd
  exact ⟨h1, by rw [tr_snoc hp h1]; rfl⟩
theorem num_last (p : List Nd) (x : Nd) : NumIn (p ++ [x]) ((p.length : Int) + 1) x.lv := ⟨by simp; omega, fun _ => by
  rw [show (p.length : Int) + 1 - 1 = p.length by omega]
  unfold ix; simp [List.getD_eq_getElem?_getD]⟩
/-! #### places -/
def isAt (X Y : Int) (c : Cl) : Bool := decide (c.x = X ∧ c.y = Y)
/-- The state of a place among cells: the first one's there. -/
def stA (l : List Cl) (X Y : Int) : Int := hdS (l.filter (isAt X Y))
theorem stA_cons (c : Cl) (l : List Cl) (X Y : Int) : stA (c :: l) X Y = if c.x = X ∧ c.y = Y then c.st else stA l X Y := by
  unfold stA isAt
  rw [List.filter_cons]
  by_cases h : c.x = X ∧ c.y = Y
  · rw [if_pos h, if_pos (by simpa using h)]; rfl
  · rw [if_neg h, if_neg (by simpa using h)]
theorem stA_filter {l : List Cl} {p : Cl → Bool} {X Y : Int} (h : ∀ c : Cl, c.x = X → c.y = Y → p c = true) : stA (l.filter p) X Y = stA l X Y := by
  induction l with
  | nil => rfl
  | cons c r ih =>
    rw [List.filter_cons, stA_cons]
    by_cases hp : p c = true
    · rw [if_pos hp, stA_cons, ih]
    · rw [if_neg hp, ih, if_neg (fun e => hp (h c e.1 e.2))]
theorem hdS_qC (l : List Cl) (x y : Int) : hdS (l.filter (qC x y 1)) = stA l x y := by
  unfold stA
  congr 2
  funext c
  unfold qC isAt
  exact decide_eq_decide.2 (by omega)
def StB (l : List Cl) : Prop := ∀ c ∈ l, 0 ≤ c.st ∧ c.st ≤ 255
theorem hdS_rng {l : List Cl} (h : StB l) : 0 ≤ hdS l ∧ hdS l ≤ 255 := by
  unfold hdS
  split
  · omega
  · rename_i hn
    obtain ⟨c, r, rfl⟩ := List.exists_cons_of_ne_nil hn
    exact h c (by simp)
theorem StB.filter {l : List Cl} (h : StB l) (p : Cl → Bool) : StB (l.filter p) := fun c hc => h c (List.mem_filter.1 hc).1
theorem stA_rng {l : List Cl} (h : StB l) (X Y : Int) : 0 ≤ stA l X Y ∧ stA l X Y ≤ 255 := hdS_rng (h.filter _)
/-- What is laid. -/
structure Laid (v : Nat) (x y : Int) (l : List Cl) (o : List Nd) (r : List Nd × Int) : Prop where
  pre : o <+: r.1
  ok : looseB r.1 = true
  num : NumIn r.1 r.2 v
  cel : ∀ X Y : Int, (0 ≤ X ∧ X < 2 * hf v) → (0 ≤ Y ∧ Y < 2 * hf v) → cat (tr r.1 r.2) X Y = stA l (x + X) (y + Y)
theorem kid_laid {v : Nat} (hv : 1 ≤ v) (ih : ∀ {x y : Int} {l : List Cl} {o : List Nd}, StB l → looseB o = true → Laid v x y l o (placeN v x y l o)) {x y k : Int} {l : List Cl} {o : List Nd} (hs : StB l) (ho : looseB o = true) :
    let h := hf ((v : Int) + 1); let r := kidP v x y l k o
    o <+: r.1 ∧ looseB r.1 = true ∧ NumIn r.1 r.2 v ∧ ∀ X Y : Int, (0 ≤ X ∧ X < h) → (0 ≤ Y ∧ Y < h) → cat (tr r.1 r.2) X Y = stA l (qX x h k + X) (qY y h k + Y) := by
  intro h r
  have e : r = placeN v (qX x h k) (qY y h k) (l.filter (qC (qX x h k) (qY y h k) h)) o := by show kidP v x y l k o = _; unfold kidP; rw [if_neg (by omega)]
  have q := ih (x := qX x h k) (y := qY y h k) (o := o) (hs.filter (qC (qX x h k) (qY y h k) h)) ho
  rw [← e] at q
  have h2 : 2 * hf v = h := by show _ = hf ((v : Int) + 1); rw [← hf_two (v := (v : Int) + 1) (by omega)]; congr 2; omega
  refine ⟨q.pre, q.ok, q.num, fun X Y hX hY => ?_⟩
  rw [q.cel X Y (by omega) (by omega)]
  exact stA_filter fun c h3 h4 => by unfold qC; rw [decide_eq_true_eq]; omega
theorem place_laid : ∀ (v : Nat) {x y : Int} {l : List Cl} {o : List Nd}, 1 ≤ v → v ≤ 1329 → StB l → looseB o = true → Laid v x y l o (placeN v x y l o)
  | 0, _, _, _, _, h, _, _, _ => by omega
  | v + 1, x, y, l, o, _, hv, hs, ho => by
    by_cases hl : l = []
    · subst hl
      rw [place_nil]
      exact ⟨List.prefix_refl _, ho, NumIn.zero _ _, fun X Y _ _ => by rw [tr_zero]; rfl⟩
    · rw [place_end hl]
      simp only [pst]
      by_cases h0 : v = 0
      · subst h0
        have K : ∀ (k : Int) (o : List Nd), kidP 0 x y l k o = (o, stA l (qX x 1 k) (qY y 1 k)) := fun k o => by
          unfold kidP; simp only [if_true]
          rw [show hf (((0 : Nat) : Int) + 1) = 1 from rfl, hdS_qC]
        simp only [K]
        simp only [show qX x 1 ((0 : Nat) : Int) = x from rfl, show qY y 1 ((0 : Nat) : Int) = y from rfl, show qX x 1 ((1 : Nat) : Int) = x + 1 from rfl, show qY y 1 ((1 : Nat) : Int) = y from rfl, show qX x 1 ((2 : Nat) : Int) = x from rfl, show qY y 1 ((2 : Nat) : Int) = y + 1 from rfl, show qX x 1 ((3 : Nat) : Int) = x + 1 from rfl, show qY y 1 ((3 : Nat) : Int) = y + 1 from rfl]
        simp
        obtain ⟨l1, l2⟩ := laid_leaf ho (stA_rng hs x y) (stA_rng hs (x + 1) y) (stA_rng hs x (y + 1)) (stA_rng hs (x + 1) (y + 1))
        refine ⟨List.prefix_append _ _, l1, num_last _ _, fun X Y hX hY => ?_⟩
        rw [show ((0 + 1 : Nat) : Int) = 1 from rfl, hf_one] at hX hY
        show cat (tr _ _) X Y = _
        rw [l2]
        have q1 : X = 0 ∨ X = 1 := by omega
        have q2 : Y = 0 ∨ Y = 1 := by omega
        rcases q1 with rfl | rfl <;> rcases q2 with rfl | rfl <;> simp [cat]
      · have h1 : 1 ≤ v := by omega
        have ih := fun {x y : Int} {l : List Cl} {o : List Nd} (a : StB l) (b : looseB o = true) => place_laid v (x := x) (y := y) h1 (by omega) a b
        obtain ⟨p0, k0, n0, c0⟩ := kid_laid h1 ih (x := x) (y := y) (k := ((0 : Nat) : Int)) hs ho
        obtain ⟨p1, k1, n1, c1⟩ := kid_laid h1 ih (x := x) (y := y) (k := ((1 : Nat) : Int)) hs k0
        obtain ⟨p2, k2, n2, c2⟩ := kid_laid h1 ih (x := x) (y := y) (k := ((2 : Nat) : Int)) hs k1
        obtain ⟨p3, k3, n3, c3⟩ := kid_laid h1 ih (x := x) (y := y) (k := ((3 : Nat) : Int)) hs k2
        revert p0 k0 n0 c0 p1 k1 n1 c1 p2 k2 n2 c2 p3 k3 n3 c3
        generalize kidP v x y l ((0 : Nat) : Int) o = r0
        generalize kidP v x y l ((1 : Nat) : Int) r0.1 = r1
        generalize kidP v x y l ((2 : Nat) : Int) r1.1 = r2
        generalize kidP v x y l ((3 : Nat) : Int) r2.1 = r3
        intro p0 k0 n0 c0 p1 k1 n1 c1 p2 k2 n2 c2 p3 k3 n3 c3
        simp
        have m0 := n0.pre (p1.trans (p2.trans p3)); have m1 := n1.pre (p2.trans p3); have m2 := n2.pre p3
        have ev : ((v : Int) + 1 - 1) = v := by omega
        obtain ⟨l1, l2⟩ := laid_node (p := r3.1) (v := (v : Int) + 1) k3 (by omega) (ev ▸ m0) (ev ▸ m1) (ev ▸ m2) (ev ▸ n3)
        refine ⟨p0.trans (p1.trans (p2.trans (p3.trans (List.prefix_append _ _)))), l1, num_last _ _, fun X Y hX hY => ?_⟩
        show cat (tr _ _) X Y = _
        have hX : 0 ≤ X ∧ X < 2 * hf ((v : Int) + 1) := hX
        have hY : 0 ≤ Y ∧ Y < 2 * hf ((v : Int) + 1) := hY
        rw [l2, tr_pre k0 k3 (p1.trans (p2.trans p3)) _ n0.r.1 n0.r.2, tr_pre k1 k3 (p2.trans p3) _ n1.r.1 n1.r.2, tr_pre k2 k3 p3 _ n2.r.1 n2.r.2]
        have z : ∀ j h : Int, qX x h j = if j % 2 = 1 then x + h else x := fun _ _ => rfl
        have z2 : ∀ j h : Int, qY y h j = if 1 < j then y + h else y := fun _ _ => rfl
        rw [z, z2] at c0 c1 c2 c3
        simp at c0 c1 c2 c3
        by_cases hx : X < hf ((v : Int) + 1)
        · by_cases hy : Y < hf ((v : Int) + 1)
          · rw [cat_a hx hy, c0 X Y hX.1 hx hY.1 hy]
          · rw [cat_c hx (by omega), c2 X _ hX.1 hx (by omega) (by omega)]; congr 1; omega
        · by_cases hy : Y < hf ((v : Int) + 1)
          · rw [cat_b (by omega) hy, c1 _ Y (by omega) (by omega) hY.1 hy]; congr 1; omega
          · rw [cat_d (by omega) (by omega), c3 _ _ (by omega) (by omega) (by omega) (by omega)]; congr 1 <;> omega
end Go.Gw

set_option linter.unusedSimpArgs false
set_option linter.unusedVariables false
/-! ### Which level cells want: the plain law of the reference's 'Of' -/
namespace Go.Gw
open Go.RowKit
def upL (c : Cl) : Nat → Int → Int
  | 0, v => v
  | n + 1, v => if v ≤ 1329 ∧ inC c v = false then upL c n (v + 1) else v
def levelC (l : List Cl) : Int := l.foldl (fun v c => upL c 1331 v) 1
theorem upL_eq {c : Cl} : ∀ (n : Nat) {u v : Int}, u ≤ v → v ≤ u + n → (∀ j : Int, u ≤ j → j < v → j ≤ 1329 ∧ inC c j = false) → ¬ (v ≤ 1329 ∧ inC c v = false) → upL c n u = v
  | 0, u, v, h1, h2, _, _ => by unfold upL; omega
  | n + 1, u, v, h1, h2, hb, hs => by
    unfold upL
    by_cases e : u = v
    · subst e; rw [if_neg hs]
    · rw [if_pos (hb u (Int.le_refl _) (by omega))]
      exact upL_eq n (by omega) (by omega) (fun j j0 j1 => hb j (by omega) j1) hs
theorem levelC_snoc (l : List Cl) (c : Cl) : levelC (l ++ [c]) = upL c 1331 (levelC l) := by unfold levelC; rw [List.foldl_append]; rfl
theorem levelC_step {l : List Cl} {i u v : Int} (h0 : 0 ≤ i) (h1 : i < l.length) (h : u = levelC (l.take i.toNat)) (hu : 1 ≤ u ∧ u ≤ 1330) (hv : u ≤ v ∧ v ≤ 1330) (hb : ∀ j : Int, u ≤ j → j < v → j ≤ 1329 ∧ inC (ix l i) j = false) (hs : ¬ (v ≤ 1329 ∧ inC (ix l i) v = false)) : v = levelC (l.take (i + 1).toNat) := by
  rw [take_snocC h0 h1, levelC_snoc, ← h, upL_eq 1331 hv.1 (by omega) hb hs]
def toCl (c : RCl) : Cl := ⟨sg c.xn (nv c.xs), sg c.yn (nv c.ys), c.st⟩
def rightR (c : RCl) : Bool := bigR c.xn c.xs && bigR c.yn c.ys
theorem sg_right {ng : Bool} {xs : List Int} (hx : Lim xs) (h : bigR ng xs = true) : ng = decide (sg ng (nv xs) < 0) ∧ xs = ml (sg ng (nv xs)) := by
  obtain ⟨n, h1, h2⟩ := bigR_out hx h
  have e : sg ng (nv xs) = n := by
    rw [h2, nv_ml, h1]; unfold sg
    by_cases h : n < 0
    · simp [h]; omega
    · simp [h]; omega
  rw [e]; exact ⟨h1, h2⟩
theorem rcl_right {c : RCl} (hx : Lim c.xs) (hy : Lim c.ys) (h : rightR c = true) : rcl (toCl c) = c := by
  unfold rightR at h
  rw [Bool.and_eq_true] at h
  obtain ⟨a1, a2⟩ := sg_right hx h.1
  obtain ⟨b1, b2⟩ := sg_right hy h.2
  obtain ⟨xn, xs, yn, ys, st⟩ := c
  exact congr (congr (congr (congr (congrArg RCl.mk a1.symm) a2.symm) b1.symm) b2.symm) rfl
theorem rcell_lim {U n0 : Nat} {w : World} {F : Nat → Prop} {va : Value} {l : List RCl} (h : Sl (Kd.rcell U n0) w F va l) : ∀ c ∈ l, Lim c.xs ∧ Lim c.ys := by
  intro c hc
  obtain ⟨i, hi, rfl⟩ := List.getElem_of_mem hc
  obtain ⟨A, m, e, h1, h2, h3⟩ := h
  obtain ⟨g, o, us, _, _, _, ⟨a, b, _, ha, hb, _⟩, _⟩ := h3 i _ (List.getElem?_eq_getElem hi)
  exact ⟨lim_sl ha, lim_sl hb⟩
theorem cells_right {U n0 : Nat} {w : World} {F : Nat → Prop} {va : Value} {l : List RCl} (h : Sl (Kd.rcell U n0) w F va l) (hr : ∀ c ∈ l, rightR c = true) : Sl (Kd.cell U n0) w F va (l.map toCl) := by
  refine cells_of ?_
  rw [List.map_map, show l.map (rcl ∘ toCl) = l from ?_]
  · exact h
  · have hl := rcell_lim h
    conv => rhs; rw [← List.map_id l]
    exact List.map_congr_left fun c hc => rcl_right (hl c hc).1 (hl c hc).2 (hr c hc)
def ofCells (cs : List Cl) : List Nd × Int :=
  if 1329 < levelC (lastL cs) then ([], 4)
  else ofL (placeN (levelC (lastL cs)).toNat (-(hf (levelC (lastL cs)))) (-(hf (levelC (lastL cs)))) (lastL cs) []).1 (placeN (levelC (lastL cs)).toNat (-(hf (levelC (lastL cs)))) (-(hf (levelC (lastL cs)))) (lastL cs) []).2
def ofR (l : List RCl) : List Nd × Int := if l.all rightR then ofCells (l.map toCl) else ([], 1)
theorem frm_nil {n : Nat} {a w w' : World} {v : Value} (h : Frm (fun _ => False) w (.slice Option.none 0 0) w' v) (hb : Below n a w) (hb' : Below n a w') : w.grownBy w' Option.none :=
  ⟨hb'.os.trans hb.os.symm, hb'.tape.trans hb.tape.symm, hb'.output.trans hb.output.symm, h.1, fun k hk _ => (h.2 k hk (fun h => h) (by simp [Value.ownBlock])).1⟩
theorem all_right {l : List RCl} {i : Int} (hi : i = l.length) (h : ∀ j : Int, 0 ≤ j → j < i → rightR (ix l j) = true) : ∀ c ∈ l, rightR c = true := by
  intro c hc
  obtain ⟨j, hj, rfl⟩ := List.getElem_of_mem hc
  have := h j (by omega) (by omega)
  unfold ix at this
  rw [List.getD_eq_getElem?_getD, Int.toNat_natCast, List.getElem?_eq_getElem hj] at this
  exact this
theorem pb_corner {v : Int} (h : 1 ≤ v ∧ v ≤ 1329) : PB v (-(hf v)) := by
  have h1 := hf_le h.2
  have h2 := hf_pos v
  have h3 := hf_two (v := 1330) (by decide)
  rw [show (1330 : Int) - 1 = 1329 by decide] at h3
  have h4 := hf_pos 1329
  unfold PB; omega
theorem ix_memR {l : List RCl} {i : Int} (h0 : 0 ≤ i) (h1 : i < l.length) : ix l i ∈ l := by
  unfold ix
  rw [List.getD_eq_getElem?_getD, List.getElem?_eq_getElem (by omega)]
  exact List.getElem_mem _
theorem Sl.nil0 {α : Type} {K : Kd α} {w : World} {F : Nat → Prop} : Sl K w F (.slice Option.none 0 0) [] := ⟨Option.none, 0, rfl, by simp, by simp [maxLen], fun i x hx => by simp at hx⟩
end Go.Gw

set_option linter.unusedSimpArgs false
set_option linter.unusedVariables false
/-! ### Great and Quad: the plain law -/
namespace Go.Gw
open Go.RowKit
def greatC (c : RCl) : Bool := decide (50 < (c.xs.length : Int)) || decide (50 < (c.ys.length : Int))
def greatB (l : List RCl) (m : Int) : Bool := decide (m < (l.length : Int)) || l.any greatC
def quadR (l : List RCl) (m : Int) : List Nd × Bool := if greatB l m then ([], false) else ((ofR l).1, decide ((ofR l).2 = 0))
theorem great_yes {l : List RCl} {m i : Int} (h0 : 0 ≤ i) (h1 : i < l.length) (h : greatC (ix l i) = true) : greatB l m = true := by
  unfold greatB; rw [List.any_eq_true.2 ⟨_, ix_memR h0 h1, h⟩, Bool.or_true]
theorem great_none {l : List RCl} {m i : Int} (hm : ¬ m < (l.length : Int)) (hi : i = l.length) (h : ∀ j : Int, 0 ≤ j → j < i → greatC (ix l j) = false) : greatB l m = false := by
  unfold greatB
  rw [decide_eq_false hm, Bool.false_or, List.any_eq_false]
  intro c hc
  obtain ⟨j, hj, rfl⟩ := List.getElem_of_mem hc
  have := h j (by omega) (by omega)
  unfold ix at this
  rw [List.getD_eq_getElem?_getD, Int.toNat_natCast, List.getElem?_eq_getElem hj] at this
  simpa using this
theorem sg_bd {xs : List Int} (hx : Lim xs) (hl : (xs.length : Int) ≤ 50) (ng : Bool) : Bd 50 (sg ng (nv xs)) := by
  have h1 := nv_lt hx
  have h2 := PW_le (show xs.length ≤ 50 by omega)
  have h3 : 0 ≤ nv xs := nv_nonneg hx
  unfold Bd sg; split <;> omega
theorem great_out {U n0 : Nat} {w : World} {F : Nat → Prop} {va : Value} {l : List RCl} {m : Int} (hl : Sl (Kd.rcell U n0) w F va l) (h : greatB l m = false) : (l.length : Int) ≤ m ∧ CBd (l.map toCl) := by
  unfold greatB at h
  rw [Bool.or_eq_false_iff] at h
  refine ⟨by have := of_decide_eq_false h.1; omega, fun c hc => ?_⟩
  obtain ⟨r, hr, rfl⟩ := List.mem_map.1 hc
  have hg := List.any_eq_false.1 h.2 r hr
  have hlim := rcell_lim hl r hr
  unfold greatC at hg
  simp at hg
  exact ⟨sg_bd hlim.1 (by omega) _, sg_bd hlim.2 (by omega) _⟩
end Go.Gw

set_option linter.unusedSimpArgs false
set_option linter.unusedVariables false
/-! ### Cells in order, and the quad of cells -/
namespace Go.Gw
open Go.RowKit
def lexLt (a b : Cl) : Prop := a.y < b.y ∨ (a.y = b.y ∧ a.x < b.x)
theorem ord_lt {a b : Cl} : ordC a b < 0 ↔ lexLt a b := by
  unfold ordC lexLt cmpI
  by_cases h1 : a.y < b.y
  · simp [h1]
  · by_cases h2 : b.y < a.y
    · simp [h1, h2]; omega
    · by_cases h3 : a.x < b.x
      · simp [h1, h2, h3]; omega
      · by_cases h4 : b.x < a.x <;> simp [h1, h2, h3, h4]
theorem ord_eq {a b : Cl} : ordC a b = 0 ↔ a.x = b.x ∧ a.y = b.y := by
  unfold ordC cmpI
  by_cases h1 : a.y < b.y
  · simp [h1]; omega
  · by_cases h2 : b.y < a.y
    · simp [h1, h2]; omega
    · by_cases h3 : a.x < b.x
      · simp [h1, h2, h3]; omega
      · by_cases h4 : b.x < a.x <;> simp [h1, h2, h3, h4] <;> omega
def Srt (l : List Cl) : Prop := l.Pairwise lexLt
theorem insC_srt : ∀ {os : List Cl} {c : Cl}, Srt os → Srt (insC os c)
  | [], c, _ => List.pairwise_singleton _ _
  | a :: r, c, h => by
    obtain ⟨h1, h2⟩ := List.pairwise_cons.1 h
    unfold insC
    split
    · rename_i hc
      refine List.pairwise_cons.2 ⟨fun b hb => ?_, insC_srt h2⟩
      rcases insC_mem hb with rfl | hb
      · exact ord_lt.1 hc
      · exact h1 b hb
    · rename_i hc
      have hc : ¬ lexLt a c := fun q => hc (ord_lt.2 q)
      split
      · rename_i he
        have he := ord_eq.1 he
        refine List.pairwise_cons.2 ⟨fun b hb => ?_, h2⟩
        have := h1 b hb
        unfold lexLt at *; omega
      · rename_i he
        have he : ¬ (a.x = c.x ∧ a.y = c.y) := fun q => he (ord_eq.2 q)
        refine List.pairwise_cons.2 ⟨fun b hb => ?_, h⟩
        rcases List.mem_cons.1 hb with rfl | hb
        · unfold lexLt at *; omega
        · have := h1 b hb
          unfold lexLt at *; omega
theorem insC_st : ∀ (os : List Cl) (c : Cl) (X Y : Int), stA (insC os c) X Y = if c.x = X ∧ c.y = Y then c.st else stA os X Y
  | [], c, X, Y => by unfold insC; rw [stA_cons]
  | a :: r, c, X, Y => by
    unfold insC
    split
    · rename_i hc
      have hc := ord_lt.1 hc
      rw [stA_cons, insC_st r c X Y, stA_cons]
      by_cases h1 : a.x = X ∧ a.y = Y
      · rw [if_pos h1, if_neg (show ¬ (c.x = X ∧ c.y = Y) by unfold lexLt at hc; omega), if_pos h1]
      · rw [if_neg h1, if_neg h1]
    · split
      · rename_i he
        have he := ord_eq.1 he
        rw [stA_cons, stA_cons]
        by_cases h1 : c.x = X ∧ c.y = Y
        · rw [if_pos h1, if_pos h1]
        · rw [if_neg h1, if_neg h1, if_neg (show ¬ (a.x = X ∧ a.y = Y) by omega)]
      · rw [stA_cons]
/-- The last one's state. -/
def stL (l : List Cl) (X Y : Int) : Int := l.foldl (fun s c => if c.x = X ∧ c.y = Y then c.st else s) 0
theorem stL_snoc (l : List Cl) (c : Cl) (X Y : Int) : stL (l ++ [c]) X Y = if c.x = X ∧ c.y = Y then c.st else stL l X Y := by unfold stL; rw [List.foldl_append]; rfl
theorem lastA_sem (l : List Cl) : Srt (lastA l) ∧ ∀ X Y : Int, stA (lastA l) X Y = stL l X Y := by
  have : ∀ (l os : List Cl), Srt os → Srt (l.foldl insC os) ∧ ∀ X Y : Int, stA (l.foldl insC os) X Y = l.foldl (fun s c => if c.x = X ∧ c.y = Y then c.st else s) (stA os X Y) := by
    intro l
    induction l with
    | nil => intro os h; exact ⟨h, fun _ _ => rfl⟩
    | cons a r ih =>
      intro os h
      obtain ⟨h1, h2⟩ := ih (insC os a) (insC_srt h)
      exact ⟨h1, fun X Y => by rw [List.foldl_cons, h2, insC_st]; rfl⟩
  exact this l [] List.Pairwise.nil
theorem stA_out {l : List Cl} {X Y : Int} (h : ∀ c ∈ l, ¬ (c.x = X ∧ c.y = Y)) : stA l X Y = 0 := by
  induction l with
  | nil => rfl
  | cons a r ih => rw [stA_cons, if_neg (h a (by simp)), ih fun c hc => h c (by simp [hc])]
theorem srt_ne {a : Cl} {r : List Cl} (h : Srt (a :: r)) : ∀ c ∈ r, ¬ (c.x = a.x ∧ c.y = a.y) := fun c hc e => by
  have := (List.pairwise_cons.1 h).1 c hc
  unfold lexLt at this; omega
theorem stA_nz : ∀ {l : List Cl}, Srt l → ∀ X Y : Int, stA (l.filter nzC) X Y = stA l X Y
  | [], _, X, Y => rfl
  | a :: r, h, X, Y => by
    rw [List.filter_cons, stA_cons]
    have ih := stA_nz (List.pairwise_cons.1 h).2 X Y
    by_cases hz : nzC a = true
    · rw [if_pos hz, stA_cons, ih]
    · rw [if_neg hz, ih]
      by_cases e : a.x = X ∧ a.y = Y
      · rw [if_pos e, stA_out fun c hc q => srt_ne h c hc (by omega)]
        unfold nzC at hz; simp at hz; exact hz.symm
      · rw [if_neg e]
theorem lastL_sem (l : List Cl) : Srt (lastL l) ∧ (∀ c ∈ lastL l, c.st ≠ 0) ∧ ∀ X Y : Int, stA (lastL l) X Y = stL l X Y := by
  obtain ⟨h1, h2⟩ := lastA_sem l
  exact ⟨h1.filter _, fun c hc => by have := (List.mem_filter.1 hc).2; unfold nzC at this; simpa using this, fun X Y => by unfold lastL; rw [stA_nz h1, h2]⟩
theorem stA_mem {l : List Cl} (hs : Srt l) {c : Cl} (hc : c ∈ l) : stA l c.x c.y = c.st := by
  induction l with
  | nil => cases hc
  | cons a r ih =>
    rw [stA_cons]
    rcases List.mem_cons.1 hc with rfl | hc
    · rw [if_pos ⟨rfl, rfl⟩]
    · rw [if_neg (fun e => srt_ne hs c hc (by omega)), ih (List.pairwise_cons.1 hs).2 hc]
theorem stA_is {l : List Cl} {X Y : Int} (h : stA l X Y ≠ 0) : ∃ c ∈ l, c.x = X ∧ c.y = Y := by
  exact Classical.byContradiction fun hn => h (stA_out fun c hc e => hn ⟨c, hc, e⟩)
theorem lastL_stB {l : List Cl} (h : StB l) : StB (lastL l) := fun c hc => h c (lastA_mem (List.mem_filter.1 hc).1)
/-! #### the level -/
theorem inC_mono {c : Cl} {v w : Int} (h1 : 1 ≤ v) (h : v ≤ w) (hc : inC c v = true) : inC c w = true := by
  have := hf_mono h1 h
  unfold inC at *; rw [decide_eq_true_eq] at *; omega
theorem upL_ge (c : Cl) : ∀ (n : Nat) (v : Int), v ≤ upL c n v
  | 0, v => Int.le_refl _
  | n + 1, v => by
    unfold upL
    split
    · have := upL_ge c n (v + 1); omega
    · exact Int.le_refl _
theorem upL_le (c : Cl) : ∀ (n : Nat) (v : Int), v ≤ 1330 → upL c n v ≤ 1330
  | 0, v, h => h
  | n + 1, v, h => by
    unfold upL
    split
    · rename_i hc; exact upL_le c n (v + 1) (by omega)
    · exact h
theorem upL_in (c : Cl) : ∀ (n : Nat) (v : Int), 1330 - v < n → 1329 < upL c n v ∨ inC c (upL c n v) = true
  | 0, v, h => by unfold upL; left; omega
  | n + 1, v, h => by
    unfold upL
    split
    · exact upL_in c n (v + 1) (by omega)
    · rename_i hc
      by_cases h2 : v ≤ 1329
      · right; cases hb : inC c v with
        | true => rfl
        | false => exact absurd ⟨h2, hb⟩ hc
      · left; omega
theorem levelC_in (l : List Cl) : (1 ≤ levelC l ∧ levelC l ≤ 1330) ∧ (levelC l ≤ 1329 → ∀ c ∈ l, inC c (levelC l) = true) := by
  have : ∀ (l : List Cl) (v : Int), 1 ≤ v → v ≤ 1330 → (v ≤ l.foldl (fun v c => upL c 1331 v) v ∧ l.foldl (fun v c => upL c 1331 v) v ≤ 1330) ∧ (l.foldl (fun v c => upL c 1331 v) v ≤ 1329 → ∀ c ∈ l, inC c (l.foldl (fun v c => upL c 1331 v) v) = true) := by
    intro l
    induction l with
    | nil => intro v h1 h2; exact ⟨⟨Int.le_refl _, h2⟩, fun _ c hc => by cases hc⟩
    | cons a r ih =>
      intro v h1 h2
      have g1 := upL_ge a 1331 v
      have g2 := upL_le a 1331 v h2
      have g3 := upL_in a 1331 v (by omega)
      obtain ⟨⟨i1, i2⟩, i3⟩ := ih (upL a 1331 v) (by omega) g2
      rw [List.foldl_cons]
      refine ⟨⟨by omega, i2⟩, fun h c hc => ?_⟩
      rcases List.mem_cons.1 hc with rfl | hc
      · rcases g3 with g3 | g3
        · omega
        · exact inC_mono (by omega) i1 g3
      · exact i3 h c hc
  exact this l 1 (by decide) (by decide)
end Go.Gw

set_option linter.unusedSimpArgs false
set_option linter.unusedVariables false
/-! ### A quad and its cells -/
namespace Go.Gw
open Go.RowKit
theorem cat_pru : ∀ (t : Tr) (x y : Int), cat (pru t) x y = cat t x y
  | .no, _, _ => rfl
  | .leaf a b c d, x, y => by
    by_cases h : emp (.leaf a b c d) = true
    · rw [pru_emp h, cat_emp _ _ _ h]; rfl
    · simp only [pru, if_neg h]
  | .nd u a b c d, x, y => by
    by_cases h : emp (.nd u a b c d) = true
    · rw [pru_emp h, cat_emp _ _ _ h]; rfl
    · simp only [pru, if_neg h, cat, cat_pru a, cat_pru b, cat_pru c, cat_pru d]
/-- A cell of a quad. -/
def celQ (q : List Nd) (X Y : Int) : Int := mid (levelN q) (tr q q.length) X Y
theorem celQ_nil (X Y : Int) : celQ [] X Y = 0 := rfl
/-- A quad that is its own. -/
def Can (q : List Nd) : Prop := ∃ t v, wf v t ∧ q = canT (shr0 t)
theorem can_of {t : Tr} {v : Int} (h : wf v t) : Can (canT (shr0 t)) := ⟨t, v, h, rfl⟩
theorem celQ_can {t : Tr} {v : Int} (h : wf v t) (X Y : Int) : celQ (canT (shr0 t)) X Y = mid v t X Y := by
  obtain ⟨u, h1, h2, h3⟩ := shr0_mid h
  rw [← h3]
  generalize shr0 t = s at *
  unfold celQ canT
  by_cases he : emp s = true
  · rw [vis_emp s [] he]
    unfold mid
    rw [cat_emp s _ _ he]; rfl
  · have he : emp s = false := by simpa using he
    obtain ⟨r1, r2⟩ := vis_root h1 he
    obtain ⟨c1, c2⟩ := vis_can s h1 can_nil
    have hlv : levelN (vis s []).1 = u := by
      unfold levelN; rw [if_neg (by omega), ← r1]; exact c2 (by omega)
    rw [hlv, ← r1, tr_num c1 s h1 (List.prefix_refl _)]
    unfold mid; rw [cat_pru]
theorem can_eq {p q : List Nd} (hp : Can p) (hq : Can q) (h : ∀ X Y : Int, celQ p X Y = celQ q X Y) : p = q := by
  obtain ⟨s, v, hs, rfl⟩ := hp
  obtain ⟨t, w, ht, rfl⟩ := hq
  exact can_mid hs ht fun X Y => by rw [← celQ_can hs, ← celQ_can ht, h]
theorem can_nil_q : Can [] := ⟨.no, 1, trivial, rfl⟩
theorem Can.ok {q : List Nd} (h : Can q) : looseB q = true := by
  obtain ⟨t, v, ht, rfl⟩ := h
  obtain ⟨u, h1, h2, h3⟩ := shr0_mid ht
  exact rightB_loose h1
theorem Can.canL {q : List Nd} (h : Can q) : CanL q := by
  obtain ⟨t, v, ht, rfl⟩ := h
  obtain ⟨u, h1, h2, h3⟩ := shr0_mid ht
  exact (vis_can (shr0 t) h1 can_nil).1
theorem Can.right {q : List Nd} (h : Can q) : rightB q = true := by
  obtain ⟨t, v, ht, rfl⟩ := h
  obtain ⟨u, h1, h2, h3⟩ := shr0_mid ht
  exact right_can h1 h2
theorem Can.full {q : List Nd} (h : Can q) : Full q := fun n h0 h1 => by
  have hf := (full_iff q).1 (full_can h.canL) (n - 1) (by omega) (by omega)
  rw [show n - 1 + 1 = n by omega, has_tr h.ok n (by omega) h1] at hf
  simpa using hf
theorem Can.wf {q : List Nd} (h : Can q) : wf (levelN q) (tr q q.length) := wf_tr h.ok _ (by omega) (Int.le_refl _) _ fun h0 => by unfold levelN; rw [if_neg (by omega)]
theorem celQ_zero {q : List Nd} (h : Can q) (hz : ∀ X Y : Int, celQ q X Y = 0) : q = [] := can_eq h can_nil_q fun X Y => by rw [hz, celQ_nil]
theorem looseB_nil : looseB [] = true := can_nil.ok
/-- **The quad of cells has these cells.** -/
theorem ofCells_sem {cs : List Cl} (hb : StB cs) : (Can (ofCells cs).1) ∧ ((ofCells cs).2 = 0 → levelC (lastL cs) ≤ 1329 ∧ ∀ X Y : Int, celQ (ofCells cs).1 X Y = stL cs X Y) ∧ ((ofCells cs).2 ≠ 0 → 1329 < levelC (lastL cs) ∧ (ofCells cs).1 = []) := by
  unfold ofCells
  by_cases hl : 1329 < levelC (lastL cs)
  · simp only [if_pos hl]; exact ⟨can_nil_q, fun h => absurd h (by decide), fun _ => ⟨hl, trivial⟩⟩
  · simp only [if_neg hl]
    obtain ⟨⟨g1, g2⟩, g3⟩ := levelC_in (lastL cs)
    have hin := g3 (by omega)
    revert hin
    generalize hv : levelC (lastL cs) = v at *
    intro hin
    obtain ⟨n, rfl⟩ : ∃ n : Nat, v = (n : Int) := ⟨v.toNat, by omega⟩
    have L := place_laid n (x := -(hf n)) (y := -(hf n)) (o := []) (by omega) (by omega) (lastL_stB hb) looseB_nil
    rw [show ((n : Int)).toNat = n from by omega]
    revert L
    generalize placeN n (-(hf n)) (-(hf n)) (lastL cs) [] = r
    intro L
    rw [of_yes L.ok L.num.r.1 L.num.r.2]
    have hw : wf (n : Int) (tr r.1 r.2) := wf_tr L.ok r.2 L.num.r.1 L.num.r.2 _ (fun h0 => (L.num.lv h0).symm)
    refine ⟨can_of hw, fun _ => ⟨by omega, fun X Y => ?_⟩, fun h => absurd rfl h⟩
    obtain ⟨s1, s2, s3⟩ := lastL_sem cs
    rw [celQ_can hw, ← s3]
    unfold mid
    by_cases hr : (0 ≤ X + hf n ∧ X + hf n < 2 * hf n) ∧ 0 ≤ Y + hf n ∧ Y + hf n < 2 * hf n
    · rw [L.cel _ _ hr.1 hr.2]; congr 1 <;> omega
    · rw [cat_out _ hw (by omega)]
      exact (stA_out fun c hc e => by
        have := hin c hc
        unfold inC at this; rw [decide_eq_true_eq] at this
        omega).symm
end Go.Gw

set_option linter.unusedSimpArgs false
set_option linter.unusedVariables false
/-! ### The box, by its cells -/
namespace Go.Gw
open Go.RowKit
structure Least (P : Int → Prop) (o : Option Int) : Prop where
  le : ∀ x, P x → ∃ e, o = some e ∧ e ≤ x
  hit : ∀ e, o = some e → P e
structure Most (P : Int → Prop) (o : Option Int) : Prop where
  ge : ∀ x, P x → ∃ e, o = some e ∧ x + 1 ≤ e
  hit : ∀ e, o = some e → P (e - 1)
theorem Least.iff {P Q : Int → Prop} {o : Option Int} (h : Least P o) (e : ∀ x, Q x ↔ P x) : Least Q o := ⟨fun x hx => h.le x ((e x).1 hx), fun a ha => (e a).2 (h.hit a ha)⟩
theorem Most.iff {P Q : Int → Prop} {o : Option Int} (h : Most P o) (e : ∀ x, Q x ↔ P x) : Most Q o := ⟨fun x hx => h.ge x ((e x).1 hx), fun a ha => (e _).2 (h.hit a ha)⟩
theorem least_mo {P Q : Int → Prop} {o p : Option Int} (h : Least P o) (k : Least Q p) : Least (fun x => P x ∨ Q x) (mo o p) := by
  constructor
  · rintro x (hx | hx)
    · obtain ⟨e, rfl, he⟩ := h.le x hx
      cases p with
      | none => exact ⟨e, rfl, he⟩
      | some b => exact ⟨_, rfl, by split <;> omega⟩
    · obtain ⟨e, rfl, he⟩ := k.le x hx
      cases o with
      | none => exact ⟨e, rfl, he⟩
      | some b => exact ⟨_, rfl, by split <;> omega⟩
  · intro e he
    cases o with
    | none => exact .inr (k.hit e he)
    | some a =>
      cases p with
      | none => exact .inl (h.hit e he)
      | some b =>
        simp only [mo, Option.some.injEq] at he
        split at he
        · exact .inr (k.hit e (by rw [he]))
        · exact .inl (h.hit e (by rw [he]))
theorem most_mx {P Q : Int → Prop} {o p : Option Int} (h : Most P o) (k : Most Q p) : Most (fun x => P x ∨ Q x) (mx o p) := by
  constructor
  · rintro x (hx | hx)
    · obtain ⟨e, rfl, he⟩ := h.ge x hx
      cases p with
      | none => exact ⟨e, rfl, he⟩
      | some b => exact ⟨_, rfl, by split <;> omega⟩
    · obtain ⟨e, rfl, he⟩ := k.ge x hx
      cases o with
      | none => exact ⟨e, rfl, he⟩
      | some b => exact ⟨_, rfl, by split <;> omega⟩
  · intro e he
    cases o with
    | none => exact .inr (k.hit e he)
    | some a =>
      cases p with
      | none => exact .inl (h.hit e he)
      | some b =>
        simp only [mx, Option.some.injEq] at he
        split at he
        · exact .inr (k.hit e (by rw [he]))
        · exact .inl (h.hit e (by rw [he]))
theorem least_sh {P : Int → Prop} {o : Option Int} (h : Least P o) {f : Int → Bool} {v k d : Int} (hd : d = if f k then hf v else 0) : Least (fun x => P (x - d)) (shE f v k o) := by
  unfold shE; rw [← hd]
  constructor
  · intro x hx
    obtain ⟨e, rfl, he⟩ := h.le _ hx
    exact ⟨e + d, rfl, by omega⟩
  · intro e he
    cases o with
    | none => cases he
    | some a =>
      simp only [Option.map_some, Option.some.injEq] at he
      have := h.hit a rfl
      rwa [← he, show a + d - d = a by omega]
theorem most_sh {P : Int → Prop} {o : Option Int} (h : Most P o) {f : Int → Bool} {v k d : Int} (hd : d = if f k then hf v else 0) : Most (fun x => P (x - d)) (shE f v k o) := by
  unfold shE; rw [← hd]
  constructor
  · intro x hx
    obtain ⟨e, rfl, he⟩ := h.ge _ hx
    exact ⟨e + d, rfl, by omega⟩
  · intro e he
    cases o with
    | none => cases he
    | some a =>
      simp only [Option.map_some, Option.some.injEq] at he
      have := h.hit a rfl
      rwa [← he, show a + d - 1 - d = a - 1 by omega]
theorem least_cell (a : Int) : Least (fun x => x = 0 ∧ a ≠ 0) (cellE 0 a) := by
  unfold cellE
  constructor
  · rintro x ⟨rfl, h⟩; rw [if_neg h]; exact ⟨0, rfl, Int.le_refl _⟩
  · intro e he; split at he
    · cases he
    · rename_i h; simp at he; exact ⟨he.symm, h⟩
theorem most_cell (a : Int) : Most (fun x => x = 0 ∧ a ≠ 0) (cellE 1 a) := by
  unfold cellE
  constructor
  · rintro x ⟨rfl, h⟩; rw [if_neg h]; exact ⟨1, rfl, Int.le_refl _⟩
  · intro e he; split at he
    · cases he
    · rename_i h; simp at he; exact ⟨by omega, h⟩
def colX (t : Tr) (x : Int) : Prop := ∃ y, cat t x y ≠ 0
def rowY (t : Tr) (y : Int) : Prop := ∃ x, cat t x y ≠ 0
theorem colX_leaf (a b c d x : Int) : colX (.leaf a b c d) x ↔ ((((x - 0 = 0 ∧ a ≠ 0) ∨ (x - 1 = 0 ∧ b ≠ 0)) ∨ (x - 0 = 0 ∧ c ≠ 0)) ∨ (x - 1 = 0 ∧ d ≠ 0)) := by
  unfold colX
  simp only [cat]
  constructor
  · rintro ⟨y, h⟩
    split at h
    · split at h
      · exact .inl (.inl (.inl ⟨by omega, h⟩))
      · split at h
        · exact .inl (.inr ⟨by omega, h⟩)
        · exact absurd rfl h
    · split at h
      · split at h
        · exact .inl (.inl (.inr ⟨by omega, h⟩))
        · split at h
          · exact .inr ⟨by omega, h⟩
          · exact absurd rfl h
      · exact absurd rfl h
  · rintro (((⟨h, k⟩ | ⟨h, k⟩) | ⟨h, k⟩) | ⟨h, k⟩)
    · exact ⟨0, by rw [if_pos (by omega), if_pos rfl]; exact k⟩
    · exact ⟨0, by rw [if_neg (by omega), if_pos (by omega), if_pos rfl]; exact k⟩
    · exact ⟨1, by rw [if_pos (by omega), if_neg (by omega), if_pos rfl]; exact k⟩
    · exact ⟨1, by rw [if_neg (by omega), if_pos (by omega), if_neg (by omega), if_pos rfl]; exact k⟩
theorem rowY_leaf (a b c d x : Int) : rowY (.leaf a b c d) x ↔ ((((x - 0 = 0 ∧ a ≠ 0) ∨ (x - 0 = 0 ∧ b ≠ 0)) ∨ (x - 1 = 0 ∧ c ≠ 0)) ∨ (x - 1 = 0 ∧ d ≠ 0)) := by
  unfold rowY
  simp only [cat]
  constructor
  · rintro ⟨y, h⟩
    split at h
    · split at h
      · exact .inl (.inl (.inl ⟨by omega, h⟩))
      · split at h
        · exact .inl (.inr ⟨by omega, h⟩)
        · exact absurd rfl h
    · split at h
      · split at h
        · exact .inl (.inl (.inr ⟨by omega, h⟩))
        · split at h
          · exact .inr ⟨by omega, h⟩
          · exact absurd rfl h
      · exact absurd rfl h
  · rintro (((⟨h, k⟩ | ⟨h, k⟩) | ⟨h, k⟩) | ⟨h, k⟩)
    · exact ⟨0, by rw [if_pos rfl, if_pos (by omega)]; exact k⟩
    · exact ⟨1, by rw [if_neg (by omega), if_pos rfl, if_pos (by omega)]; exact k⟩
    · exact ⟨0, by rw [if_pos rfl, if_neg (by omega), if_pos (by omega)]; exact k⟩
    · exact ⟨1, by rw [if_neg (by omega), if_pos rfl, if_neg (by omega), if_pos (by omega)]; exact k⟩
theorem cat_rng {t : Tr} {v x y : Int} (h : wf v t) (hc : cat t x y ≠ 0) : (0 ≤ x ∧ x < 2 * hf v) ∧ 0 ≤ y ∧ y < 2 * hf v := by
  have : ¬ (x < 0 ∨ 2 * hf v ≤ x ∨ y < 0 ∨ 2 * hf v ≤ y) := fun ho => hc (cat_out t h ho)
  omega
theorem colX_nd {v u : Int} {a b c d : Tr} (h : wf v (.nd u a b c d)) (x : Int) : colX (.nd u a b c d) x ↔ (((colX a (x - 0) ∨ colX b (x - hf u)) ∨ colX c (x - 0)) ∨ colX d (x - hf u)) := by
  obtain ⟨rfl, h2, _, ha, hb, hc, hd⟩ := h
  have e := hf_two h2
  rw [Int.sub_zero]
  constructor
  · rintro ⟨y, h⟩
    simp only [cat] at h
    split at h
    · split at h
      · exact .inl (.inl (.inl ⟨_, h⟩))
      · exact .inl (.inr ⟨_, h⟩)
    · split at h
      · exact .inl (.inl (.inr ⟨_, h⟩))
      · exact .inr ⟨_, h⟩
  · rintro (((⟨y, h⟩ | ⟨y, h⟩) | ⟨y, h⟩) | ⟨y, h⟩)
    · have := cat_rng ha h; exact ⟨y, by rw [cat_a (by omega) (by omega)]; exact h⟩
    · have := cat_rng hb h; exact ⟨y, by rw [cat_b (by omega) (by omega)]; exact h⟩
    · have := cat_rng hc h; exact ⟨y + hf u, by rw [cat_c (by omega) (by omega), show y + hf u - hf u = y by omega]; exact h⟩
    · have := cat_rng hd h; exact ⟨y + hf u, by rw [cat_d (by omega) (by omega), show y + hf u - hf u = y by omega]; exact h⟩
theorem rowY_nd {v u : Int} {a b c d : Tr} (h : wf v (.nd u a b c d)) (x : Int) : rowY (.nd u a b c d) x ↔ (((rowY a (x - 0) ∨ rowY b (x - 0)) ∨ rowY c (x - hf u)) ∨ rowY d (x - hf u)) := by
  obtain ⟨rfl, h2, _, ha, hb, hc, hd⟩ := h
  have e := hf_two h2
  rw [Int.sub_zero]
  constructor
  · rintro ⟨y, h⟩
    simp only [cat] at h
    split at h
    · split at h
      · exact .inl (.inl (.inl ⟨_, h⟩))
      · exact .inl (.inr ⟨_, h⟩)
    · split at h
      · exact .inl (.inl (.inr ⟨_, h⟩))
      · exact .inr ⟨_, h⟩
  · rintro (((⟨y, h⟩ | ⟨y, h⟩) | ⟨y, h⟩) | ⟨y, h⟩)
    · have := cat_rng ha h; exact ⟨y, by rw [cat_a (by omega) (by omega)]; exact h⟩
    · have := cat_rng hb h; exact ⟨y + hf u, by rw [cat_b (by omega) (by omega), show y + hf u - hf u = y by omega]; exact h⟩
    · have := cat_rng hc h; exact ⟨y, by rw [cat_c (by omega) (by omega)]; exact h⟩
    · have := cat_rng hd h; exact ⟨y + hf u, by rw [cat_d (by omega) (by omega), show y + hf u - hf u = y by omega]; exact h⟩
theorem least_no : Least (fun _ => False) none := ⟨fun _ h => h.elim, fun _ h => by cases h⟩
theorem most_no : Most (fun _ => False) none := ⟨fun _ h => h.elim, fun _ h => by cases h⟩
theorem ea_x : ∀ (t : Tr) {v : Int}, wf v t → Least (colX t) (ea fX t)
  | .no, v, _ => least_no.iff fun x => ⟨fun ⟨y, h⟩ => h rfl, fun h => h.elim⟩
  | .leaf a b c d, v, h => (least_mo (least_mo (least_mo (least_sh (v := 1) (k := 0) (d := 0) (f := fX) (least_cell a) rfl) (least_sh (v := 1) (k := 1) (d := 1) (least_cell b) rfl)) (least_sh (v := 1) (k := 2) (d := 0) (least_cell c) rfl)) (least_sh (v := 1) (k := 3) (d := 1) (least_cell d) rfl)).iff fun x => colX_leaf a b c d x
  | .nd u a b c d, v, h => by
    have hn := colX_nd h
    obtain ⟨rfl, h2, _, ha, hb, hc, hd⟩ := h
    exact (least_mo (least_mo (least_mo (least_sh (v := u) (k := 0) (d := 0) (f := fX) (ea_x a ha) rfl) (least_sh (v := u) (k := 1) (d := hf u) (ea_x b hb) rfl)) (least_sh (v := u) (k := 2) (d := 0) (ea_x c hc) rfl)) (least_sh (v := u) (k := 3) (d := hf u) (ea_x d hd) rfl)).iff hn
theorem ea_y : ∀ (t : Tr) {v : Int}, wf v t → Least (rowY t) (ea fY t)
  | .no, v, _ => least_no.iff fun x => ⟨fun ⟨y, h⟩ => h rfl, fun h => h.elim⟩
  | .leaf a b c d, v, h => (least_mo (least_mo (least_mo (least_sh (v := 1) (k := 0) (d := 0) (f := fY) (least_cell a) rfl) (least_sh (v := 1) (k := 1) (d := 0) (least_cell b) rfl)) (least_sh (v := 1) (k := 2) (d := 1) (least_cell c) rfl)) (least_sh (v := 1) (k := 3) (d := 1) (least_cell d) rfl)).iff fun x => rowY_leaf a b c d x
  | .nd u a b c d, v, h => by
    have hn := rowY_nd h
    obtain ⟨rfl, h2, _, ha, hb, hc, hd⟩ := h
    exact (least_mo (least_mo (least_mo (least_sh (v := u) (k := 0) (d := 0) (f := fY) (ea_y a ha) rfl) (least_sh (v := u) (k := 1) (d := 0) (ea_y b hb) rfl)) (least_sh (v := u) (k := 2) (d := hf u) (ea_y c hc) rfl)) (least_sh (v := u) (k := 3) (d := hf u) (ea_y d hd) rfl)).iff hn
theorem ta_x : ∀ (t : Tr) {v : Int}, wf v t → Most (colX t) (ta fX t)
  | .no, v, _ => most_no.iff fun x => ⟨fun ⟨y, h⟩ => h rfl, fun h => h.elim⟩
  | .leaf a b c d, v, h => (most_mx (most_mx (most_mx (most_sh (v := 1) (k := 0) (d := 0) (f := fX) (most_cell a) rfl) (most_sh (v := 1) (k := 1) (d := 1) (most_cell b) rfl)) (most_sh (v := 1) (k := 2) (d := 0) (most_cell c) rfl)) (most_sh (v := 1) (k := 3) (d := 1) (most_cell d) rfl)).iff fun x => colX_leaf a b c d x
  | .nd u a b c d, v, h => by
    have hn := colX_nd h
    obtain ⟨rfl, h2, _, ha, hb, hc, hd⟩ := h
    exact (most_mx (most_mx (most_mx (most_sh (v := u) (k := 0) (d := 0) (f := fX) (ta_x a ha) rfl) (most_sh (v := u) (k := 1) (d := hf u) (ta_x b hb) rfl)) (most_sh (v := u) (k := 2) (d := 0) (ta_x c hc) rfl)) (most_sh (v := u) (k := 3) (d := hf u) (ta_x d hd) rfl)).iff hn
theorem ta_y : ∀ (t : Tr) {v : Int}, wf v t → Most (rowY t) (ta fY t)
  | .no, v, _ => most_no.iff fun x => ⟨fun ⟨y, h⟩ => h rfl, fun h => h.elim⟩
  | .leaf a b c d, v, h => (most_mx (most_mx (most_mx (most_sh (v := 1) (k := 0) (d := 0) (f := fY) (most_cell a) rfl) (most_sh (v := 1) (k := 1) (d := 0) (most_cell b) rfl)) (most_sh (v := 1) (k := 2) (d := 1) (most_cell c) rfl)) (most_sh (v := 1) (k := 3) (d := 1) (most_cell d) rfl)).iff fun x => rowY_leaf a b c d x
  | .nd u a b c d, v, h => by
    have hn := rowY_nd h
    obtain ⟨rfl, h2, _, ha, hb, hc, hd⟩ := h
    exact (most_mx (most_mx (most_mx (most_sh (v := u) (k := 0) (d := 0) (f := fY) (ta_y a ha) rfl) (most_sh (v := u) (k := 1) (d := 0) (ta_y b hb) rfl)) (most_sh (v := u) (k := 2) (d := hf u) (ta_y c hc) rfl)) (most_sh (v := u) (k := 3) (d := hf u) (ta_y d hd) rfl)).iff hn
/-- A box is around cells, and touches them on each side. -/
structure Around (g : Int → Int → Int) (b : Bx) : Prop where
  rng : ∀ X Y : Int, g X Y ≠ 0 → (b.x ≤ X ∧ X < b.x + b.w) ∧ b.y ≤ Y ∧ Y < b.y + b.h
  west : ∃ Y, g b.x Y ≠ 0
  east : ∃ Y, g (b.x + b.w - 1) Y ≠ 0
  north : ∃ X, g X b.y ≠ 0
  south : ∃ X, g X (b.y + b.h - 1) ≠ 0
theorem box_no {q : List Nd} (h : Can q) (hs : (bxs q).some = false) : q = [] := Classical.byContradiction fun hn => by
  rw [rbx_some h.full hn] at hs; cases hs
theorem box_around {q : List Nd} (h : Can q) (hs : (bxs q).some = true) : Around (celQ q) (bxOf q) := by
  have hn : q ≠ [] := bxs_some hs
  have hw := h.wf
  have hx := ea_x _ hw; have hy := ea_y _ hw; have kx := ta_x _ hw; have ky := ta_y _ hw
  obtain ⟨a, ha⟩ := ea_some (f := fX) h.full hn
  obtain ⟨b, hb⟩ := ea_some (f := fY) h.full hn
  have sx := eg_isSome mx_isSome 1 fX (tr q q.length)
  have sy := eg_isSome mx_isSome 1 fY (tr q q.length)
  rw [full_last h.full hn] at sx sy
  obtain ⟨c, hc⟩ := Option.isSome_iff_exists.1 (by simpa using sx)
  obtain ⟨d, hd⟩ := Option.isSome_iff_exists.1 (by simpa using sy)
  rw [bxOf_yes hs]
  have e : bxs q = ⟨true, a, b, c, d⟩ := by unfold bxs spn spO; unfold ta; rw [ha, hb, hc, hd]; rfl
  rw [e]
  have hc' : ta fX (tr q q.length) = some c := hc
  have hd' : ta fY (tr q q.length) = some d := hd
  refine ⟨fun X Y hg => ?_, ?_, ?_, ?_, ?_⟩
  · obtain ⟨e1, f1, g1⟩ := hx.le _ ⟨_, hg⟩
    obtain ⟨e2, f2, g2⟩ := hy.le _ ⟨_, hg⟩
    obtain ⟨e3, f3, g3⟩ := kx.ge _ ⟨_, hg⟩
    obtain ⟨e4, f4, g4⟩ := ky.ge _ ⟨_, hg⟩
    rw [ha] at f1; rw [hb] at f2; rw [hc'] at f3; rw [hd'] at f4
    simp at f1 f2 f3 f4
    subst f1 f2 f3 f4
    show (a - hf (levelN q) ≤ X ∧ X < a - hf (levelN q) + (c - a)) ∧ b - hf (levelN q) ≤ Y ∧ Y < b - hf (levelN q) + (d - b)
    omega
  · obtain ⟨y, hy⟩ := hx.hit a ha
    exact ⟨y - hf (levelN q), by unfold celQ mid; show cat _ (a - hf (levelN q) + hf (levelN q)) _ ≠ 0; rw [show a - hf (levelN q) + hf (levelN q) = a by omega, show y - hf (levelN q) + hf (levelN q) = y by omega]; exact hy⟩
  · obtain ⟨y, hy⟩ := kx.hit c hc'
    exact ⟨y - hf (levelN q), by unfold celQ mid; show cat _ (a - hf (levelN q) + (c - a) - 1 + hf (levelN q)) _ ≠ 0; rw [show a - hf (levelN q) + (c - a) - 1 + hf (levelN q) = c - 1 by omega, show y - hf (levelN q) + hf (levelN q) = y by omega]; exact hy⟩
  · obtain ⟨y, hy⟩ := hy.hit b hb
    exact ⟨y - hf (levelN q), by unfold celQ mid; show cat _ _ (b - hf (levelN q) + hf (levelN q)) ≠ 0; rw [show b - hf (levelN q) + hf (levelN q) = b by omega, show y - hf (levelN q) + hf (levelN q) = y by omega]; exact hy⟩
  · obtain ⟨y, hy⟩ := ky.hit d hd'
    exact ⟨y - hf (levelN q), by unfold celQ mid; show cat _ _ (b - hf (levelN q) + (d - b) - 1 + hf (levelN q)) ≠ 0; rw [show b - hf (levelN q) + (d - b) - 1 + hf (levelN q) = d - 1 by omega, show y - hf (levelN q) + hf (levelN q) = y by omega]; exact hy⟩
end Go.Gw

set_option linter.unusedSimpArgs false
set_option linter.unusedVariables false
/-! ### Single cells: the plain law -/
namespace Go.Gw
open Go.RowKit
def rest (v x : Int) : Int := if hf v ≤ x then x - hf v else x
/-! #### a node that is another one but for a cell -/
structure PutOk (v : Int) (l : List Nd) (n x y s : Int) (r : List Nd × Int) : Prop where
  pre : l <+: r.1
  ok : looseB r.1 = true
  num : NumIn r.1 r.2 v
  cel : ∀ X Y : Int, cat (tr r.1 r.2) X Y = if X = x ∧ Y = y then s else cat (tr l n) X Y
end Go.Gw

set_option linter.unusedSimpArgs false
set_option linter.unusedVariables false
/-! ### Grow, and Set: the plain law -/
namespace Go.Gw
open Go.RowKit
def wrapT (v j c : Int) (t : Tr) : Tr := if c = 0 then .no else if v = 1 then .leaf (if 3 - j = 0 then c else 0) (if 3 - j = 1 then c else 0) (if 3 - j = 2 then c else 0) (if 3 - j = 3 then c else 0)
  else .nd v (if 3 - j = 0 then t else .no) (if 3 - j = 1 then t else .no) (if 3 - j = 2 then t else .no) (if 3 - j = 3 then t else .no)
def comp (s : GrT) (j : Int) : Int := sel4 s.2.1 s.2.2.1 s.2.2.2.1 s.2.2.2.2 j
structure GrI (old : Nd) (o : List Nd) (v : Int) (k : Int) (s : GrT) : Prop where
  pre : o <+: s.1
  ok : looseB s.1 = true
  done : ∀ j : Int, 0 ≤ j → j < k → NumIn s.1 (comp s j) v ∧ tr s.1 (comp s j) = wrapT v j (old.kid j) (tr o (old.kid j))
  zero : ∀ j : Int, k ≤ j → j < 4 → comp s j = 0
/-! #### set -/
end Go.Gw

set_option linter.unusedSimpArgs false
set_option linter.unusedVariables false
namespace Go.Gw
open Go.RowKit
/-! ### A region that draws its order, makes rows and stores into one of them -/
def ObsAllS (P : Program) (ops : Array Oper) (n : Nat) (D : List Deferred) (ρ0 : Env) (w0 : World) (R : World → World → Prop) (sp : Spec) (td : Nat) (ψ : Value → World → Prop) : List Oper → List (List Nat) → List Bool → List Bool → Spec → Prop
  | o :: os, d :: ds, b :: bs, c :: cs, (_, φ) :: r => (∀ w, R w0 w → depV sp d ρ0 w (fun ρ => Op1 P ops o n D ρ w (fun v w' => φ v w' ∧ R w w' ∧ (b = true → NewV v w) ∧ (c = true → ∃ u, look ρ td = some u ∧ ψ u w')))) ∧ ObsAllS P ops n D ρ0 w0 R sp td ψ os ds bs cs r
  | _, _, _, _, [] => True
  | _, _, _, _, _ => False
section
variable {P : Program} {l : List Oper} {Q : Exit → Act → World → Prop} {n m : Nat} {D : List Deferred} {ρ0 : Env} {w0 : World} {R : World → World → Prop} {sp : Spec} {ds : List (List Nat)} {bs cs : List Bool} {td dd : Nat} {ψ : Value → World → Prop}
theorem ObsAllS.at_ {ops : Array Oper} : ∀ {l' : List Oper} {ds' : List (List Nat)} {bs' cs' : List Bool} {sp' : Spec}, ObsAllS P ops n D ρ0 w0 R sp td ψ l' ds' bs' cs' sp' → ∀ {i : Nat} {dst : Option Nat} {φ : Value → World → Prop} {o : Oper}, sp'[i]? = some (dst, φ) → l'[i]? = some o →
    ∀ w, R w0 w → depV sp (ds'.getD i []) ρ0 w (fun ρ => Op1 P ops o n D ρ w (fun v w' => φ v w' ∧ R w w' ∧ (bs'.getD i false = true → NewV v w) ∧ (cs'.getD i false = true → ∃ u, look ρ td = some u ∧ ψ u w'))) := by
  intro l' ds' bs' cs' sp' h
  induction sp' generalizing l' ds' bs' cs' with
  | nil => intro i dst φ o hs; simp at hs
  | cons p r ih =>
    intro i dst φ o hs hl
    obtain ⟨pd, pφ⟩ := p
    match l', ds', bs', cs', h with
    | o' :: os, d :: dd_, b :: bb, c :: cc, h =>
      obtain ⟨h1, h2⟩ := h
      cases i with
      | zero => simp at hs hl; obtain ⟨rfl, rfl⟩ := hs; subst hl; simpa using h1
      | succ i => simp at hs hl; simpa using ih h2 hs hl
structure MidS (l : List Oper) (bs : List Bool) (n : Nat) (D : List Deferred) (ρ0 : Env) (w0 : World) (R : World → World → Prop) (sp : Spec) (cs : List Bool) (dd : Nat) (ψ : Value → World → Prop) (m N : Nat) (listed : Array Bool) (vals : Nat → Value) (a : Act) (w : World) : Prop where
  fr : Fr n D ρ0 a
  wr : R w0 w
  size : listed.size = N
  tail : ∀ i, m ≤ i → listed.getD i false = false
  cl : ∀ i o j, l[i]? = some o → listed.getD i false = true → hasEdge o j = true → listed.getD j false = true
  fre : ∀ i j, bs.getD i false = true → bs.getD j false = true → i < m → j < m → i ≠ j → listed.getD i false = true → listed.getD j false = true → vals i ≠ vals j
  sto : ∀ i, cs.getD i false = true → i < m → listed.getD i false = true → listed.getD dd false = true ∧ ψ (vals dd) w
  got : ∀ i dst φ, sp[i]? = some (dst, φ) → listed.getD i false = true → φ (vals i) w ∧ ∀ d, dst = some d → a.tmps[d]? = some (vals i)

theorem depV_instS {listed : Array Bool} {vals : Nat → Value} {a : Act} {w : World} {N : Nat} (hM : MidS l bs n D ρ0 w0 R sp cs dd ψ m N listed vals a w) : ∀ (d : List Nat) (ρ : Env) (K : Env → Prop), Fr n D ρ a → (∀ j ∈ d, listed.getD j false = true) →
    depV sp d ρ w K → ∃ ρ', Fr n D ρ' a ∧ K ρ'
  | [], ρ, K, hF, _, h => ⟨ρ, hF, h⟩
  | j :: r, ρ, K, hF, hl, h => by
    unfold depV at h
    split at h
    · rename_i d φ hs
      obtain ⟨h1, h2⟩ := hM.got j _ _ hs (hl j (by simp))
      refine depV_instS hM r _ K ⟨hF.defers, hF.size, fun t v hlk => ?_⟩ (fun i hi => hl i (by simp [hi])) (h _ h1)
      rw [look_cons] at hlk
      split at hlk
      · rename_i e; subst e; cases hlk; exact h2 _ rfl
      · exact hF.slot _ _ hlk
    · exact depV_instS hM r _ K hF (fun i hi => hl i (by simp [hi])) h
theorem mid_anyS {keys : List Nat} (hF : DrawFactsT l m n keys sp ds) (hkeys : ∀ t v, look ρ0 t = some v → t ∈ keys) (hRt : ∀ a b c, R a b → R b c → R a c) (hst : StAll R sp) (hold : OldAll sp bs) {φd : Value → World → Prop} (hsd : sp[dd]? = some (some td, φd)) (hdep : ∀ i, cs.getD i false = true → i < m → dd ∈ ds.getD i []) (hψ : ∀ v a b, ψ v a → R a b → ψ v b) (hex : ∃ i, cs.getD i false = true ∧ i < m) (hobs : ObsAllS P l.toArray n D ρ0 w0 R sp td ψ l ds bs cs sp)
    (hend : ∀ w, R w0 w → AllVF sp bs [] ρ0 w (fun ρ => (∀ u, look ρ td = some u → ψ u w) → Reg P l.toArray Q (l.drop m) n D ρ w)) :
    ∀ (fuel : Nat) (listed : Array Bool) (vals : Nat → Value) (a : Act) (w : World), MidS l bs n D ρ0 w0 R sp cs dd ψ m l.length listed vals a w → cnt l.length listed ≤ fuel → wpAny P .any l.toArray Q fuel listed a w := by
  -- once all heads are listed
  have hfin : ∀ (fuel : Nat) (listed : Array Bool) (vals : Nat → Value) (a : Act) (w : World), MidS l bs n D ρ0 w0 R sp cs dd ψ m l.length listed vals a w → (∀ i, i < m → listed.getD i false = true) → l.length - m ≤ fuel → wpAny P .any l.toArray Q fuel listed a w := by
    intro fuel listed vals a w hM hall hf
    obtain ⟨ρ', hFr, hReg⟩ := allVF_inst (w := w) vals sp bs 0 [] ρ0 _ hM.fr (fun i dst φ hs => by
      have hi : i < m := by rw [← hF.spl]; exact (List.getElem?_eq_some_iff.1 hs).1
      rw [Nat.zero_add]; exact hM.got i dst φ hs (hall i hi)) (fun _ _ _ _ h => by cases h) (fun i j h1 h2 h3 h4 h5 => by
      rw [hF.spl] at h3 h4
      rw [Nat.zero_add, Nat.zero_add]; exact hM.fre i j h1 h2 h3 h4 h5 (hall i h3) (hall j h4)) (hend w hM.wr)
    exact tail_anyT hF fuel m listed a w (Nat.le_refl _) hF.le hf hM.size hall hM.tail (hReg (fun u hu => by
      obtain ⟨i, hi, him⟩ := hex
      obtain ⟨h1, h2⟩ := hM.sto i hi him (hall i him)
      have h3 := hFr.slot _ _ hu
      have h4 := (hM.got dd _ _ hsd h1).2 _ rfl
      rw [h3] at h4; injection h4 with h4; rw [h4]; exact h2) a hFr)
  have hcnt : ∀ listed : Array Bool, (∀ i, m ≤ i → listed.getD i false = false) → ∀ k, m ≤ k → k - m ≤ cnt k listed := by
    intro listed ht k
    induction k with
    | zero => intro _; omega
    | succ k ih =>
      intro hk
      unfold cnt
      rcases Nat.lt_or_ge k m with h | h
      · omega
      · rw [ht k h]; have := ih h; simp; omega
  intro fuel
  induction fuel with
  | zero =>
    intro listed vals a w hM hc
    have h0 : cnt l.length listed = 0 := by omega
    have hall := cnt_zero listed _ h0
    refine hfin 0 listed vals a w hM (fun i hi => hall i (by have := hF.le; omega)) ?_
    have := hcnt listed hM.tail l.length hF.le
    omega
  | succ fuel ih =>
    intro listed vals a w hM hc
    by_cases hall : ∀ i, i < m → listed.getD i false = true
    · refine hfin _ listed vals a w hM hall ?_
      have := hcnt listed hM.tail l.length hF.le
      omega
    · -- some head is not listed: it's not the end, and no tail is ready
      refine ⟨fun h0 => absurd ?_ hall, fun i hi => ?_⟩
      · -- the least one that isn't listed is ready
        intro i hi
        induction i using Nat.strongRecOn with
        | _ i ihh =>
          by_cases hb : listed.getD i false = true
          · exact hb
          · exfalso
            have hil : i < l.length := by have := hF.le; omega
            have hr : i ∈ Region.ready .any l.toArray listed := by
              refine (mem_ready (by simpa using hM.size)).2 ⟨l[i], by simp [hil], by simpa using hb, ?_⟩
              rw [Array.all_eq_true]
              intro j hj
              by_cases hbd : Region.binds .any l[i].after[j] = true
              · have := hF.before i _ (List.getElem?_eq_getElem hil) _ (Array.getElem_mem hj) hbd
                rw [ihh _ this (by omega)]; simp
              · simp [hbd]
            rw [h0] at hr; simp at hr
      · obtain ⟨o, ho, hfi, hal⟩ := (mem_ready (by simpa using hM.size)).1 hi
        have ho' : l[i]? = some o := by simpa using ho
        have hil : i < l.length := (List.getElem?_eq_some_iff.1 ho').1
        have him : i < m := by
          rcases Nat.lt_or_ge i m with h | h
          · exact h
          · exact absurd (fun j hj => reach_listed hM.cl 8 o j (fun k hk => hasEdge_listed hk hal) ((hF.tail i o h ho').2 j hj)) hall
        have hsp : ∃ dst φ, sp[i]? = some (dst, φ) := by
          have : i < sp.length := by rw [hF.spl]; exact him
          exact ⟨_, _, List.getElem?_eq_getElem this⟩
        obtain ⟨dst, φ, hs⟩ := hsp
        have hdst := hF.dst i o dst φ ho' hs
        subst hdst
        have hsz : i < listed.size := by rw [hM.size]; exact hil
        obtain ⟨ρ', hFr, hOp⟩ := depV_instS hM (ds.getD i []) ρ0 _ hM.fr (fun j hj => hasEdge_listed (hF.deps i o him ho' j hj).2 hal) (hobs.at_ hs ho' w hM.wr)
        have hnew : ∀ (v : Value) (w' : World), φ v w' → R w w' → (bs.getD i false = true → NewV v w) → (cs.getD i false = true → ∃ u, look ρ' td = some u ∧ ψ u w') → MidS l bs n D ρ0 w0 R sp cs dd ψ m l.length (listed.setIfInBounds i true) (fun j => if j = i then v else vals j) (a.put o.dst v) w' := by
          intro v w' hv hR hN hC
          have hput : ∀ t, (∀ d, o.dst = some d → t ≠ d) → (a.put o.dst v).tmps[t]? = a.tmps[t]? := by
            intro t ht
            cases hd : o.dst with
            | none => rfl
            | some d => simp only [Act.put, Array.getElem?_setIfInBounds]; rw [if_neg (fun e => ht d hd e.symm)]
          have hputd : ∀ d, o.dst = some d → (a.put o.dst v).tmps[d]? = some v := by
            intro d hd
            have := (hF.ok i o d him ho' hd).1
            rw [hd]
            simp [Act.put, hM.fr.size, this]
          refine ⟨⟨?_, ?_, ?_⟩, hRt _ _ _ hM.wr hR, by simpa using hM.size, ?_, ?_, ?_, ?_, ?_⟩
          · rw [← hM.fr.defers]; cases o.dst <;> rfl
          · rw [← hM.fr.size]; cases o.dst <;> simp [Act.put]
          · intro t u hl
            rw [hput t (fun d hd e => (hF.ok i o d him ho' hd).2 (by rw [← e]; exact hkeys t u hl))]
            exact hM.fr.slot t u hl
          · intro j hj
            rw [getD_set _ _ _ hsz, if_neg (by omega)]; exact hM.tail j hj
          · intro j oj j' hoj hl he
            rw [getD_set _ _ _ hsz] at hl ⊢
            by_cases e : i = j'
            · rw [if_pos e]
            · rw [if_neg e]
              by_cases e2 : i = j
              · subst e2; rw [ho'] at hoj; injection hoj with hoj; subst hoj; exact hasEdge_listed he hal
              · rw [if_neg e2] at hl; exact hM.cl j oj j' hoj hl he
          · intro i' j' b1 b2 h1 h2 hne l1 l2
            rw [getD_set _ _ _ hsz] at l1 l2
            have hgot : ∀ k, bs.getD k false = true → k < m → k ≠ i → listed.getD k false = true → OldV (vals k) w := by
              intro k hk hkm hki hl
              have hks : k < sp.length := by rw [hF.spl]; exact hkm
              have hsk : sp[k]? = some ((sp[k]).1, (sp[k]).2) := List.getElem?_eq_getElem hks
              exact hold.at_ hsk hk _ _ (hM.got k _ _ hsk hl).1
            by_cases e1 : i' = i
            · by_cases e2 : j' = i
              · exact absurd (e1.trans e2.symm) hne
              · rw [if_neg (fun e => e2 e.symm)] at l2
                rw [if_pos e1, if_neg e2]
                exact fun e => new_ne_old (hN (e1 ▸ b1)) (hgot j' b2 h2 e2 l2) e.symm
            · rw [if_neg (fun e => e1 e.symm)] at l1
              by_cases e2 : j' = i
              · rw [if_neg e1, if_pos e2]
                exact new_ne_old (hN (e2 ▸ b2)) (hgot i' b1 h1 e1 l1)
              · rw [if_neg (fun e => e2 e.symm)] at l2
                rw [if_neg e1, if_neg e2]
                exact hM.fre i' j' b1 b2 h1 h2 hne l1 l2
          · intro i' hc him' hl
            have hne : listed.getD dd false = true → dd ≠ i := fun h e => by rw [e, hfi] at h; cases h
            rw [getD_set _ _ _ hsz] at hl ⊢
            by_cases e : i = i'
            · subst e
              have hld := hasEdge_listed (hF.deps i o him ho' dd (hdep i hc him)).2 hal
              obtain ⟨u, hu, hψu⟩ := hC hc
              have h3 := hFr.slot _ _ hu
              have h4 := (hM.got dd _ _ hsd hld).2 _ rfl
              rw [h3] at h4; injection h4 with h4
              rw [if_neg (fun e => hne hld e.symm), if_neg (hne hld)]
              exact ⟨hld, by rw [← h4]; exact hψu⟩
            · rw [if_neg e] at hl
              obtain ⟨h1, h2⟩ := hM.sto i' hc him' hl
              rw [if_neg (fun e => hne h1 e.symm), if_neg (hne h1)]
              exact ⟨h1, hψ _ _ _ h2 hR⟩
          · intro j dst φ' hs' hl
            rw [getD_set _ _ _ hsz] at hl
            by_cases e : j = i
            · subst e
              rw [hs] at hs'
              injection hs' with hs'
              injection hs' with e1 e2
              subst e1; subst e2
              rw [if_pos rfl]
              exact ⟨hv, hputd⟩
            · rw [if_neg (fun e' => e e'.symm)] at hl
              rw [if_neg e]
              obtain ⟨g1, g2⟩ := hM.got j dst φ' hs' hl
              refine ⟨hst.at_ hs' _ _ _ g1 hR, fun d hd => ?_⟩
              have hj : j < m := by rw [← hF.spl]; exact (List.getElem?_eq_some_iff.1 hs').1
              have hjl : j < l.length := by have := hF.le; omega
              have hoj := List.getElem?_eq_getElem hjl
              have hdj := hF.dst j _ dst φ' hoj hs'
              rw [hput d (fun d' hd' e' => by subst e'; exact hF.apart j i _ o d hj him e hoj ho' (by rw [hdj, hd]) hd')]
              exact g2 d hd
        have hcnt' := cnt_set listed i hsz hfi l.length hil
        unfold wpOp
        rw [ho]
        dsimp only
        have h1 := hOp a hFr
        split
        · rename_i hw
          rw [if_pos hw] at h1
          refine .inl (Oper.wp_mono ?_ (h1 Q))
          rintro a' w' ⟨v, rfl, hv, hR, hN, hC⟩
          exact ih _ _ _ _ (hnew v w' hv hR hN hC) (by omega)
        · rename_i hw
          rw [if_neg hw] at h1
          exact ih _ _ _ _ (hnew undef w h1.1 h1.2.1 h1.2.2.1 h1.2.2.2) (by omega)

theorem w_drawS {id : Nat} {w : World} {ρ : Env} (m : Nat) (R : World → World → Prop) (sp : Spec) (ds : List (List Nat)) (bs : List Bool) (ρ0 : Env) (hsub : Sub ρ0 ρ) (hm : P.follows .mixedOrders = true)
    (hchk : drawOkT l m n (keysOf ρ0) (sp.map (·.1)) ds = true) (hR : ∀ a, R a a) (hRt : ∀ a b c, R a b → R b c → R a c) (hst : StAll R sp) (hold : OldAll sp bs) {φd : Value → World → Prop} (hsd : sp[dd]? = some (some td, φd)) (hdep : ∀ i, cs.getD i false = true → i < m → dd ∈ ds.getD i []) (hψ : ∀ v a b, ψ v a → R a b → ψ v b) (hex : ∃ i, cs.getD i false = true ∧ i < m)
    (h : ∀ w0, w.grownBy w0 none → w0.heap.size = w.heap.size → ObsAllS P l.toArray n D ρ0 w0 R sp td ψ l ds bs cs sp ∧ (∀ w', R w0 w' → AllVF sp bs [] ρ0 w' (fun ρ => (∀ u, look ρ td = some u → ψ u w') → Reg P l.toArray Q (l.drop m) n D ρ w'))) :
    W P (.region id l.toArray true) Q n D ρ w := by
  intro a ha
  have hF := drawFactsT hchk
  obtain ⟨h1, h2⟩ := h w.drew (grown_drew w) rfl
  refine wp_region_any hm ?_
  have := mid_anyS hF (fun t v hl => look_of_keys hl) hRt hst hold hsd hdep hψ hex h1 h2 l.length (Array.replicate l.length false) (fun _ => undef) a w.drew ⟨ha.sub hsub, hR _, by simp, fun i _ => by simp [Array.getD_eq_getD_getElem?, Array.getElem?_replicate]; split <;> rfl, fun i o j _ hl _ => by
    simp [Array.getD_eq_getD_getElem?, Array.getElem?_replicate] at hl
    split at hl <;> simp at hl, fun i j _ _ _ _ _ hl _ => by
    simp [Array.getD_eq_getD_getElem?, Array.getElem?_replicate] at hl
    split at hl <;> simp at hl, fun i _ _ hl => by
    simp [Array.getD_eq_getD_getElem?, Array.getElem?_replicate] at hl
    split at hl <;> simp at hl, fun i dst φ hs hl => by
    simp [Array.getD_eq_getD_getElem?, Array.getElem?_replicate] at hl
    split at hl <;> simp at hl⟩ (by
      have : ∀ k L, cnt k L ≤ k := by
        intro k L; induction k with
        | zero => exact Nat.le_refl _
        | succ k ih => unfold cnt; split <;> omega
      exact this _ _)
  simpa using this
end
end Go.Gw

set_option linter.unusedSimpArgs false
set_option linter.unusedVariables false
namespace Go.Gw
open Go.RowKit
/-! ### Two copies into new places, in a region that draws -/
def BlkN (w : World) (g t n : Nat) : Prop := ∃ cs : Array Value, cs.size = n ∧ Blk w g t cs
/-- Old blocks are as they were, or one of the new ones, of the type t, became X. -/
structure Rx (N t : Nat) (X : Array Value) (a b : World) : Prop where
  os : b.os = a.os
  tape : b.tape = a.tape
  output : b.output = a.output
  size : a.heap.size ≤ b.heap.size
  block : ∀ k, k < a.heap.size → b.heap[k]? = a.heap[k]? ∨ (N ≤ k ∧ (∃ n, n = X.size ∧ BlkN a k t n) ∧ Blk b k t X)
section
variable {N t n : Nat} {X : Array Value} {a b c w w' : World}
theorem Rx.refl (a : World) : Rx N t X a a := ⟨rfl, rfl, rfl, Nat.le_refl _, fun _ _ => .inl rfl⟩
theorem Rx.trans (a b c : World) (h : Rx N t X a b) (k : Rx N t X b c) : Rx N t X a c :=
  ⟨k.os.trans h.os, k.tape.trans h.tape, k.output.trans h.output, Nat.le_trans h.size k.size, fun i hi => by
    rcases h.block i hi with h1 | ⟨h1, h2, h3⟩ <;> rcases k.block i (Nat.lt_of_lt_of_le hi h.size) with k1 | ⟨k1, ⟨m, hm, cs, hc, k2⟩, k3⟩
    · exact .inl (k1.trans h1)
    · exact .inr ⟨k1, ⟨m, hm, cs, hc, h1.symm.trans k2⟩, k3⟩
    · exact .inr ⟨h1, h2, k1.trans h3⟩
    · exact .inr ⟨h1, h2, k3⟩⟩
theorem Rx.of (k : a.grownBy b none) : Rx N t X a b := ⟨k.os, k.tape, k.output, k.size, fun i hi => .inl (k.block i hi (by simp))⟩
theorem Rx.grown (h : Rx N t X a b) (hn : a.heap.size ≤ N) : a.grownBy b none := ⟨h.os, h.tape, h.output, h.size, fun i hi _ => by
  rcases h.block i hi with h1 | ⟨h1, _⟩
  · exact h1
  · omega⟩
theorem Rx.sto {g : Nat} (hB : BlkN a g t X.size) (hB2 : Blk b g t X) (k : a.grownBy b (some g)) (hg : N ≤ g) : Rx N t X a b :=
  ⟨k.os, k.tape, k.output, k.size, fun i hi => by
    by_cases e : i = g
    · subst e; exact .inr ⟨hg, ⟨_, rfl, hB⟩, hB2⟩
    · exact .inl (k.block i hi (by simpa using e))⟩
def PtrN (N t n : Nat) (v : Value) (w : World) : Prop := ∃ g, v = .pointer (some ⟨g, 0, none⟩) ∧ N ≤ g ∧ BlkN w g t n
def PtrX (N t : Nat) (X : Array Value) (v : Value) (w : World) : Prop := ∃ g, v = .pointer (some ⟨g, 0, none⟩) ∧ N ≤ g ∧ Blk w g t X
theorem PtrN.st (hn : n = X.size) (v : Value) (a b : World) (h : PtrN N t n v a) (k : Rx N t X a b) : PtrN N t n v b := by
  obtain ⟨g, rfl, hg, cs, hc, hB⟩ := h
  refine ⟨g, rfl, hg, ?_⟩
  rcases k.block g hB.lt with h1 | ⟨_, _, h3⟩
  · exact ⟨cs, hc, h1.trans hB⟩
  · exact ⟨X, hn.symm, h3⟩
theorem PtrX.st (v : Value) (a b : World) (h : PtrX N t X v a) (k : Rx N t X a b) : PtrX N t X v b := by
  obtain ⟨g, rfl, hg, hB⟩ := h
  refine ⟨g, rfl, hg, ?_⟩
  rcases k.block g hB.lt with h1 | ⟨_, _, h3⟩
  · exact h1.trans hB
  · exact h3
theorem PtrN.old {v : Value} (h : PtrN N t n v w) : OldV v w := by obtain ⟨g, rfl, _, cs, _, hB⟩ := h; exact ⟨g, rfl, hB.lt⟩
end
end Go.Gw

set_option linter.unusedSimpArgs false
set_option linter.unusedVariables false
namespace Go.Gw
open Go.RowKit
/-- A slice of great elements does not lie in a small block. -/
theorem Sl.gSmall {α : Type} {K : Kd α} (hK : K.Flat) {w w' : World} {F : Nat → Prop} {v : Value} {xs : List α} {g t : Nat} {cs : Array Value} (h : Sl K w F v xs) (k : w.grownBy w' (some g)) (hB : Blk w g t cs) (hs : cs.size < K.sz) : Sl K w' F v xs := by
  obtain ⟨A, c, e, h1, h2, h3⟩ := h
  refine ⟨A, c, e, h1, h2, fun i x hx => ?_⟩
  obtain ⟨b, o, us, rfl, hb, hF, hr, hc⟩ := h3 i x hx
  have hne : b ≠ g := by
    rintro rfl
    have hl := K.len hr
    have hlt : K.sz - 1 < us.length := by omega
    have h4 := hc (K.sz - 1) _ (List.getElem?_eq_getElem hlt)
    unfold World.cell? at h4
    rw [show w.heap[b]? = some (.cells cs t (0, 0)) from hB] at h4
    simp at h4
    obtain ⟨h5, _⟩ := Array.getElem?_eq_some_iff.1 h4
    generalize i * K.sz = q at h5
    omega
  have hbk := k.block b hb (by simpa using hne)
  exact ⟨b, o, us, rfl, Nat.lt_of_lt_of_le hb k.size, hF, hK _ _ _ _ _ _ hr, range_keep hc hbk⟩
end Go.Gw

set_option linter.unusedSimpArgs false
set_option linter.unusedVariables false
/-! ### What the laws themselves ask: cells as they come, and the fixed facts -/
namespace Go.Gw
open Go.RowKit
theorem sg_same (n : Int) : sg (decide (n < 0)) (nv (ml n)) = n := by
  rw [nv_ml]; unfold sg
  by_cases h : n < 0
  · simp [h]; omega
  · simp [h]; omega
theorem toCl_rcl (c : Cl) : toCl (rcl c) = c := by
  unfold toCl rcl
  simp only [sg_same]
theorem rightR_rcl (c : Cl) : rightR (rcl c) = true := by
  unfold rightR rcl; simp only [bigR_ml, Bool.and_self]
theorem map_rcl (L : List Cl) : (L.map rcl).map toCl = L := by
  rw [List.map_map]
  conv => rhs; rw [← List.map_id L]
  exact List.map_congr_left fun c _ => toCl_rcl c
theorem ofR_rcl (L : List Cl) : ofR (L.map rcl) = ofCells L := by
  unfold ofR
  rw [if_pos (by rw [List.all_eq_true]; intro c hc; obtain ⟨d, _, rfl⟩ := List.mem_map.1 hc; exact rightR_rcl d), map_rcl]
section
variable {w : World} {U n0 : Nat}
theorem lit_rcell {g t : Nat} {a b : Value} {c : RCl} (hB : Blk w g t [.bool c.xn, a, .bool c.yn, b, .int .u8 c.st].toArray) (h1 : Sl Kd.u32 w (G U n0 w) a c.xs) (h2 : Sl Kd.u32 w (G U n0 w) b c.ys) (h3 : 0 ≤ c.st ∧ c.st ≤ 255) :
    Sl (Kd.rcell U n0) w (fun _ => False) (.slice (some ⟨g, 0, none⟩) 1 1) [c] := by
  refine sl_lit (us := [[.bool c.xn, a, .bool c.yn, b, .int .u8 c.st]]) (by simpa using hB) rfl (by simp [Kd.rcell]) (fun h => h) rfl (by decide) ?_
  intro i u y hu hy
  cases i with
  | zero =>
    simp at hu hy; subst hu; subst hy
    exact ⟨a, b, rfl, h1.weak fun k _ hk => hk.elim (fun h => h.elim) id, h2.weak fun k _ hk => hk.elim (fun h => h.elim) id, h3⟩
  | succ i => simp at hu
theorem lit_rcell2 {g t : Nat} {a b a' b' : Value} {c d : RCl} (hB : Blk w g t [.bool c.xn, a, .bool c.yn, b, .int .u8 c.st, .bool d.xn, a', .bool d.yn, b', .int .u8 d.st].toArray) (h1 : Sl Kd.u32 w (G U n0 w) a c.xs) (h2 : Sl Kd.u32 w (G U n0 w) b c.ys)
    (h3 : Sl Kd.u32 w (G U n0 w) a' d.xs) (h4 : Sl Kd.u32 w (G U n0 w) b' d.ys) (hc : 0 ≤ c.st ∧ c.st ≤ 255) (hd : 0 ≤ d.st ∧ d.st ≤ 255) :
    Sl (Kd.rcell U n0) w (fun _ => False) (.slice (some ⟨g, 0, none⟩) 2 2) [c, d] := by
  refine sl_lit (us := [[.bool c.xn, a, .bool c.yn, b, .int .u8 c.st], [.bool d.xn, a', .bool d.yn, b', .int .u8 d.st]]) (by simpa using hB) rfl (by simp [Kd.rcell]) (fun h => h) rfl (by decide) ?_
  intro i u y hu hy
  cases i with
  | zero =>
    simp at hu hy; subst hu; subst hy
    exact ⟨a, b, rfl, h1.weak fun k _ hk => hk.elim (fun h => h.elim) id, h2.weak fun k _ hk => hk.elim (fun h => h.elim) id, hc⟩
  | succ i =>
    cases i with
    | zero =>
      simp at hu hy; subst hu; subst hy
      exact ⟨a', b', rfl, h3.weak fun k _ hk => hk.elim (fun h => h.elim) id, h4.weak fun k _ hk => hk.elim (fun h => h.elim) id, hd⟩
    | succ i => simp at hu
end
def L9 : List Cl := [⟨2, 3, 1⟩, ⟨5, 3, 9⟩]
def Q9 : List Nd := [⟨1, 0, 0, 1, 0⟩, ⟨2, 0, 0, 0, 1⟩, ⟨1, 0, 0, 0, 9⟩, ⟨2, 0, 0, 3, 0⟩, ⟨3, 2, 4, 0, 0⟩, ⟨4, 0, 0, 0, 5⟩]
theorem q9_of : ofCells L9 = (Q9, 0) := by decide +kernel
theorem q9_ofR : ofR [rcl ⟨2, 3, 1⟩, rcl ⟨5, 3, 9⟩] = (Q9, 0) := (ofR_rcl L9).trans q9_of
theorem q9_ok : looseB Q9 = true := by decide +kernel
theorem q9_some : (bxs Q9).some = true := by decide +kernel
theorem cbd9 : CBd ([rcl ⟨2, 3, 1⟩, rcl ⟨5, 3, 9⟩].map toCl) := by
  rw [show [rcl ⟨2, 3, 1⟩, rcl ⟨5, 3, 9⟩] = L9.map rcl from rfl, map_rcl]
  intro c hc
  have h3 : 5 < PW 50 := by decide +kernel
  simp [L9] at hc
  rcases hc with rfl | rfl <;> exact ⟨by unfold Bd; simp only; omega, by unfold Bd; simp only; omega⟩
end Go.Gw

set_option linter.unusedSimpArgs false
set_option linter.unusedVariables false
/-! ### Cells as arguments -/
namespace Go.Gw
open Go.RowKit Go.ChangeShapes Go.WideShapes Go.ChangeAt Go.Deep
section
variable {H : Type} {enc : TypeId × Value → H} {P : Program} {w : World}
structure CellF (P : Program) (t tx tb ts te ti : Nat) : Prop where
  is : fieldsAre P t = [(true, tx, 0), (true, tx, 2), (true, ti, 4)]
  big : BigF P tx tb ts te
  int : P.underlying ti = some (.int .u8)
  ct : P.cellsOf t = 5
  ci : P.cellsOf ti = 1
theorem wf_u8 {a : Int} (h : (Lit.int .u8 a).wf = true) : 0 ≤ a ∧ a ≤ 255 := by
  unfold Lit.wf at h
  rw [Bool.and_eq_true, decide_eq_true_eq, decide_eq_true_eq] at h
  have h1 : IntKind.u8.min = 0 := by decide
  have h2 : IntKind.u8.max = 255 := by decide
  rw [h1] at h
  rw [h2] at h
  exact h
theorem cell_of_trod' {t tx tb ts te ti : Nat} (h : CellF P t tx tb ts te ti) (n : Nat) (cs : List Value) (x : DataW H × List MemPlace) (hx : DataW.trod enc P w 0 (fun _ => true) true n t cs = some x) :
    ∃ (xn : Bool) (a : Value) (xs : List Int) (yn : Bool) (b : Value) (ys : List Int) (st : Int), cs = [.bool xn, a, .bool yn, b, .int .u8 st] ∧ Sl Kd.u32 w (fun _ => False) a xs ∧ Sl Kd.u32 w (fun _ => False) b ys ∧ 0 ≤ st ∧ st ≤ 255 := by
  obtain ⟨fs, hu, hsz, hfs⟩ := fields_out h.is (by simp)
  obtain ⟨f0, g0, t0, o0⟩ := hfs 0 _ _ _ rfl
  obtain ⟨f1, g1, t1, o1⟩ := hfs 1 _ _ _ rfl
  obtain ⟨f2, g2, t2, o2⟩ := hfs 2 _ _ _ rfl
  obtain ⟨xs, m, _, _, hlen, hxl, hf⟩ := DataW.trod_struct hu hx
  rw [h.ct] at hlen
  match cs, hlen with
  | [c0, c1, c2, c3, c4], _ =>
    have h0 := hf 0 f0 g0
    have h1 := hf 1 f1 g1
    have h2 := hf 2 f2 g2
    rw [t0, o0, h.big.ct] at h0
    rw [t1, o1, h.big.ct] at h1
    rw [t2, o2, h.ci] at h2
    have hx0 : 0 < xs.length := by rw [hxl, hsz]; simp
    have hx1 : 1 < xs.length := by rw [hxl, hsz]; simp
    have hx2 : 2 < xs.length := by rw [hxl, hsz]; simp
    rw [List.getElem?_eq_getElem hx0] at h0
    rw [List.getElem?_eq_getElem hx1] at h1
    rw [List.getElem?_eq_getElem hx2] at h2
    obtain ⟨xn, a, p, e0, s0⟩ := big_of_trod h.big _ _ _ h0
    obtain ⟨yn, b, q, e1, s1⟩ := big_of_trod h.big _ _ _ h1
    obtain ⟨st, e2, _, wf⟩ := DataW.trod_int h.int h2
    simp at e0 e1 e2
    obtain ⟨rfl, rfl⟩ := e0
    obtain ⟨rfl, rfl⟩ := e1
    subst e2
    exact ⟨xn, _, p, yn, _, q, st, rfl, s0, s1, (wf_u8 wf).1, (wf_u8 wf).2⟩
theorem cell_of_trod {U t tx tb ts te ti : Nat} (h : CellF P t tx tb ts te ti) (n : Nat) (cs : List Value) (x : DataW H × List MemPlace) (hx : DataW.trod enc P w 0 (fun _ => true) true n t cs = some x) :
    ∃ c : RCl, (Kd.rcell U w.heap.size).rep w (fun _ => False) cs c := by
  obtain ⟨xn, a, xs, yn, b, ys, st, rfl, h1, h2, h3⟩ := cell_of_trod' h n cs x hx
  exact ⟨⟨xn, xs, yn, ys, st⟩, a, b, rfl, h1.oldG.outN, h2.oldG.outN, h3⟩
theorem cell_arg {r : Reach} {b0 : Nat} {t tx tb ts te ti : Nat} {v : Value} {d : DataW H} {p : List MemPlace} (h : CellF P t tx tb ts te ti) (hv : Value.okWide P w r b0 t v) (ht : DataW.Trod enc P w 0 (fun _ => true) true t v d p) :
    ∃ (xn : Bool) (a : Value) (xs : List Int) (yn : Bool) (b : Value) (ys : List Int) (st : Int), v = .agg [.bool xn, a, .bool yn, b, .int .u8 st].toArray ∧ Sl Kd.u32 w (fun _ => False) a xs ∧ Sl Kd.u32 w (fun _ => False) b ys ∧ 0 ≤ st ∧ st ≤ 255 := by
  obtain ⟨fs, hu, hsz, hfs⟩ := fields_out h.is (by simp)
  simp only [Value.okWide, hu] at hv
  obtain ⟨cs, rfl, _⟩ := hv
  obtain ⟨fuel, hf⟩ := ht
  obtain ⟨xn, a, xs, yn, b, ys, st, e, h1, h2, h3⟩ := cell_of_trod' h _ _ _ hf
  refine ⟨xn, a, xs, yn, b, ys, st, ?_, h1, h2, h3⟩
  congr 1
  apply Array.toList_inj.1
  simpa [Value.cells] using e
end
end Go.Gw

set_option maxRecDepth 20000
set_option linter.unusedSimpArgs false
set_option linter.unusedVariables false
namespace Go.Proofs.Ytfljelnfjbbknaa.Nd
open Go.RowKit Go.Gw
theorem sl22 : SlF Try.prog 22 101 5 40 (.agg #[.int .i64 0, .int .i64 0, .int .i64 0, .int .i64 0, .int .i64 0]) := ⟨by kernel_rfl, by kernel_rfl, rfl, by decide⟩
theorem row101 : RowF Try.prog 101 5 := ⟨by kernel_rfl⟩
theorem zero101 : ZeroF Try.prog 101 #[.int .i64 0, .int .i64 0, .int .i64 0, .int .i64 0, .int .i64 0] := ⟨by kernel_rfl⟩
theorem fld101_0 : FieldF Try.prog 101 0 0 := ⟨by kernel_rfl⟩
theorem one3 : OneF Try.prog 3 := ⟨by kernel_rfl⟩
theorem fld101_1 : FieldF Try.prog 101 1 1 := ⟨by kernel_rfl⟩
theorem row99 : RowF Try.prog 99 4 := ⟨by kernel_rfl⟩
theorem arr99 : ArrF Try.prog 99 4 3 1 := ⟨by kernel_rfl, by kernel_rfl⟩
theorem sl68 : SlF Try.prog 68 4 1 1 (.bool false) := ⟨by kernel_rfl, by kernel_rfl, rfl, by decide⟩
theorem one4 : OneF Try.prog 4 := ⟨by kernel_rfl⟩
theorem sl65 : SlF Try.prog 65 3 1 8 (.int .i64 0) := ⟨by kernel_rfl, by kernel_rfl, rfl, by decide⟩
theorem fld25_0 : FieldF Try.prog 25 0 0 := ⟨by kernel_rfl⟩
theorem one22 : OneF Try.prog 22 := ⟨by kernel_rfl⟩
theorem nodeF : NodeF Try.prog 101 99 3 := ⟨by kernel_rfl, by kernel_rfl, by kernel_rfl, by kernel_rfl, by kernel_rfl, by kernel_rfl, by kernel_rfl⟩
theorem eqNode : EqF Try.prog 101 Nd.val := eqF_node nodeF Nd.tup Nd.tup_inj
theorem fn40 : FunF Try.prog 40 := ⟨_, _, Try.func40, by decide +kernel, rfl⟩
theorem fn69 : FunF Try.prog 69 := ⟨_, _, Try.func69, by decide +kernel, rfl⟩
theorem nz3 : ∃ ie, Try.prog.info? 3 = some ie ∧ 0 < ie.size := nz_of (by kernel_rfl)
theorem fn37 : FunF Try.prog 37 := ⟨_, _, Try.func37, by decide +kernel, rfl⟩
theorem fn68 : FunF Try.prog 68 := ⟨_, _, Try.func68, by decide +kernel, rfl⟩
theorem nz101 : ∃ ie, Try.prog.info? 101 = some ie ∧ 0 < ie.size := nz_of (by kernel_rfl)
theorem fn72 : FunF Try.prog 72 := ⟨_, _, Try.func72, by decide +kernel, rfl⟩
theorem fn73 : FunF Try.prog 73 := ⟨_, _, Try.func73, by decide +kernel, rfl⟩
theorem fn39 : FunF Try.prog 39 := ⟨_, _, Try.func39, by decide +kernel, rfl⟩
theorem fn74 : FunF Try.prog 74 := ⟨_, _, Try.func74, by decide +kernel, rfl⟩
theorem zero25 : ZeroF Try.prog 25 #[.slice none 0 0] := ⟨by kernel_rfl⟩
theorem row25 : RowF Try.prog 25 1 := ⟨by kernel_rfl⟩
theorem fn38 : FunF Try.prog 38 := ⟨_, _, Try.func38, by decide +kernel, rfl⟩
end Go.Proofs.Ytfljelnfjbbknaa.Nd

set_option maxRecDepth 20000
set_option linter.unusedSimpArgs false
set_option linter.unusedVariables false
namespace Go.Proofs.Ytfljelnfjbbknaa.Nd
open Go.RowKit Go.Gw
end Go.Proofs.Ytfljelnfjbbknaa.Nd

set_option maxRecDepth 20000
set_option linter.unusedSimpArgs false
set_option linter.unusedVariables false
namespace Go.Proofs.Ytfljelnfjbbknaa.Nd
open Go.RowKit Go.Gw
set_option maxHeartbeats 1000000 in
theorem level_any {va : Value} {l : List Nd} {F : Nat → Prop} {w : World} (hl : Sl Kd.node w F va l) :
    Calls Try.prog 43 [.agg [va].toArray].toArray w (Pure w fun v _ => v = .int .i64 (levelN l)) := by
  have hb0 := Below.refl w.heap.size w
  have hln0 := hl.lenle
  refine enter Try.func43 rfl rfl (w_seq (w_region (st (s_box rfl ?_))))
  intro g1 w1 hg1 hB1 k1 hs1
  change Blk w1 g1 25 [va].toArray at hB1
  have hb1 := below_g0 hb0 k1
  refine st (s_assign rfl (r_end (n_then (w_seq (w_seq (w_region (st (s_faddr fld25_0 rfl ?_))))))))
  refine st (s_load one22 rfl hB1.range (j := 0) rfl (st (s_len sl22 rfl (hl.at0 hb1) (st (s_eq rfl rfl (r_end (n_then ?_)))))))
  refine w_condP rfl (fun h1 => ?_) (fun h1 => ?_)
  · refine w_seq (w_region (st (s_assign rfl (r_end (n_then (w_ret1 rfl rfl ?_))))))
    exact ⟨_, rfl, hb1, by simp only [levelN]; split <;> first | rfl | omega⟩
  refine w_skip' (n_then (w_seq (w_region (st (s_faddr fld25_0 rfl (st (s_load one22 rfl hB1.range (j := 0) rfl (st (s_faddr fld25_0 rfl ?_)))))))))
  refine st (s_load one22 rfl hB1.range (j := 0) rfl (st (s_len sl22 rfl (hl.at0 hb1) (st (s_sub rfl rfl (by omega) (st (s_idx sl22 rfl rfl (hl.at0 hb1) (by omega) (by omega) ?_)))))))
  rintro b1 o1 _ ⟨rfl, _⟩ hc1 hF1 hlt1
  have hl_1 := Loc.lt hF1
  refine st (s_faddr fld101_0 rfl (st (s_load one3 rfl hc1 (j := 0) rfl (st (s_assign rfl (r_end (n_then (w_ret1 rfl rfl ?_))))))))
  exact ⟨_, rfl, hb1, by simp only [levelN]; split <;> first | rfl | omega⟩

set_option maxHeartbeats 1000000 in
theorem rloose_any {va : Value} {l : List Nd} {F : Nat → Prop} {w : World} (hl : Sl Kd.node w F va l) :
    Calls Try.prog 37 [va].toArray w (Pure w fun v _ => v = .bool (looseB l)) := by
  have hb0 := Below.refl w.heap.size w
  have hln1 := hl.lenle
  refine enter Try.func37 rfl rfl (w_seq (w_region (st (s_assign rfl (r_end (n_then (w_seq ?_)))))))
  refine w_seq (w_region (st (s_assign rfl (r_end (n_then (w_block (w_loop (α := Int) (fun (i : Int) => [(0, va), (3, .int .i64 i)]) (fun (i : Int) W => Below w.heap.size w W ∧ (0 ≤ i ∧ i ≤ l.length) ∧ (∀ j : Int, 0 ≤ j → j < i → okAt l j = true)) (fun (i : Int) => (l.length - i).toNat) (0) ⟨hb0, by omega, fun j _ _ => by omega⟩ (by exact ⟨rfl, rfl, trivial⟩) ?_)))))))
  rintro i w1 ⟨hb1, hi, ha⟩
  have hz1 := hb1.size
  refine w_seq (w_seq (w_region (st (s_move rfl (st (s_move rfl (st (s_len sl22 rfl (hl.at0 hb1) (st (s_lt rfl rfl ?_))))))))))
  refine r_end (n_then ?_)
  refine w_condP rfl (fun h1 => ?_) (fun h1 => ?_)
  rotate_left
  · refine w_exit' (n_then_exit (n_then_exit (n_block_exit (n_then (w_seq (w_region ?_))))))
    refine st (s_assign rfl (r_end (n_then (w_ret1 rfl rfl ?_))))
    exact ⟨_, rfl, hb1, by rw [(looseB_iff l).2]; intro j j0 j1; exact ha j j0 (by omega)⟩
  refine w_skip' (n_then (w_seq (w_block (w_seq (w_seq (w_region ?_))))))
  refine st (s_move rfl (st (s_move rfl (st (s_idx sl22 rfl rfl (hl.at0 hb1) (by omega) (by omega) ?_)))))
  rintro b1 o1 _ ⟨rfl, _⟩ hc1 hF1 hlt1
  have hl_1 := Loc.lt hF1
  refine st (s_faddr fld101_0 rfl (st (s_load one3 rfl hc1 (j := 0) rfl (st (s_lt rfl rfl (st (s_move rfl ?_)))))))
  refine r_caseP 18 rfl (fun h2 => ?_) (fun h2 => ?_)
  · refine s_pass rfl rfl (s_pass rfl rfl (s_pass rfl rfl (s_pass rfl rfl (s_pass rfl rfl (s_pass rfl rfl (st (s_pick rfl rfl ?_)))))))
    refine r_end (n_then (w_condT rfl (w_seq (w_region (st (s_assign rfl (r_end ?_)))))))
    refine n_then (w_ret1 rfl rfl ?_)
    refine ⟨_, rfl, hb1, ?_⟩
    rw [loose_no i hi.1 (by omega)]
    rw [ne_eq, okAt_iff]
    rintro ⟨e1, e2⟩
    first | omega | (have e3 := e2 k (by omega) (by omega); unfold Nd.kid at e3; exact kidB_no e3 (by omega))
  refine stg (s_move rfl (stg (s_move rfl (stg (s_idx sl22 rfl rfl (hl.at0 hb1) (by omega) (by omega) ?_)))))
  rintro b2 o2 _ ⟨rfl, _⟩ hc2 hF2 hlt2
  have hl_2 := Loc.lt hF2
  refine stg (s_faddr fld101_0 rfl (stg (s_load one3 rfl hc2 (j := 0) rfl (stg (s_gt rfl rfl (st (s_pick rfl rfl (r_end (n_then ?_)))))))))
  refine w_condP rfl (fun h3 => ?_) (fun h3 => ?_)
  · refine w_seq (w_region (st (s_assign rfl (r_end (n_then (w_ret1 rfl rfl ?_))))))
    refine ⟨_, rfl, hb1, ?_⟩
    rw [loose_no i hi.1 (by omega)]
    rw [ne_eq, okAt_iff]
    rintro ⟨e1, e2⟩
    first | omega | (have e3 := e2 k (by omega) (by omega); unfold Nd.kid at e3; exact kidB_no e3 (by omega))
  refine w_skip' (n_then (w_seq (w_region (st (s_assign rfl (r_end (n_then ?_)))))))
  refine w_block (w_loop (α := Int) (fun (k : Int) => [(0, va), (3, .int .i64 i), (4, .int .i64 k)]) (fun (k : Int) W => Below w.heap.size w W ∧ (0 ≤ k ∧ k ≤ 4) ∧ (∀ j : Int, 0 ≤ j → j < k → kidB l i ((ix l i).kid j) = true)) (fun (k : Int) => (4 - k).toNat) (0) ⟨hb1, by omega, fun j _ _ => by omega⟩ (by exact ⟨rfl, rfl, rfl, trivial⟩) ?_)
  rintro k w2 ⟨hb2, hk, hk2⟩
  have hz2 := hb2.size
  refine w_seq (w_seq (w_region (st (s_move rfl (st (s_lt rfl rfl (r_end (n_then ?_))))))))
  refine w_condP rfl (fun h4 => ?_) (fun h4 => ?_)
  rotate_left
  · refine w_exit' (n_then_exit (n_then_exit (n_block_exit (n_block (n_then (w_region ?_))))))
    refine st (s_move rfl (st (s_add rfl rfl (by omega) (st (s_assign rfl (r_end ?_))))))
    exact n_round ((i + 1)) ⟨hb2, by omega, fun j j0 j1 => if e : j = i then by rw [e, okAt_iff]; exact ⟨by omega, fun k k0 k1 => hk2 k k0 (by omega)⟩ else ha j j0 (by omega)⟩ (by omega) (by exact ⟨rfl, rfl, trivial⟩)
  refine w_skip' (n_then (w_seq (w_block (w_seq (w_region (st (s_move rfl ?_)))))))
  refine st (s_move rfl (st (s_move rfl (st (s_idx sl22 rfl rfl (hl.at0 hb2) (by omega) (by omega) ?_)))))
  rintro b3 o3 _ ⟨rfl, _⟩ hc3 hF3 hlt3
  have hl_3 := Loc.lt hF3
  refine st (s_faddr fld101_1 rfl (st (s_iaddr arr99 rfl rfl (by omega) (by omega) (st (s_load4 one3 rfl hc3 (j := 1) rfl rfl (by omega) (by omega) (st (s_assign rfl (r_end (n_then ?_)))))))))
  refine w_cut (α := Unit) (fun (_ : Unit) => [(0, va), (3, .int .i64 i), (4, .int .i64 k), (5, .int .i64 (sel4 ((ix l i).k0) ((ix l i).k1) ((ix l i).k2) ((ix l i).k3) k))]) (fun (_ : Unit) W => Below w.heap.size w W ∧ (0 ≤ (sel4 ((ix l i).k0) ((ix l i).k1) ((ix l i).k2) ((ix l i).k3) k) ∧ ((ix l i).lv = 1 → (sel4 ((ix l i).k0) ((ix l i).k1) ((ix l i).k2) ((ix l i).k3) k) ≤ 255))) ?_ ?_
  · refine w_seq (w_region (st (s_move rfl (st (s_lt rfl rfl (st (s_move rfl ?_)))))))
    refine r_caseP 39 rfl (fun h5 => ?_) (fun h5 => ?_)
    · refine s_pass rfl rfl (s_pass rfl rfl (s_pass rfl rfl (s_pass rfl rfl (s_pass rfl rfl (s_pass rfl rfl (s_pass rfl rfl ?_))))))
      refine s_passU rfl rfl (s_passU rfl rfl (s_pass rfl rfl (st (s_pick rfl rfl (r_end (n_then (w_condT rfl ?_)))))))
      refine w_seq (w_region (st (s_assign rfl (r_end (n_then (w_ret1 rfl rfl ?_))))))
      refine ⟨_, rfl, hb2, ?_⟩
      rw [loose_no i hi.1 (by omega)]
      rw [ne_eq, okAt_iff]
      rintro ⟨e1, e2⟩
      first | omega | (have e3 := e2 k (by omega) (by omega); unfold Nd.kid at e3; exact kidB_no e3 (by omega))
    refine stg (s_move rfl (stg (s_move rfl (stg (s_idx sl22 rfl rfl (hl.at0 hb2) (by omega) (by omega) ?_)))))
    rintro b4 o4 _ ⟨rfl, _⟩ hc4 hF4 hlt4
    have hl_4 := Loc.lt hF4
    refine stg (s_faddr fld101_0 rfl (stg (s_load one3 rfl hc4 (j := 0) rfl (stg (s_eq rfl rfl (stg (s_move rfl ?_)))))))
    refine r_caseP 46 rfl (fun h6 => ?_) (fun h6 => ?_)
    rotate_left
    · refine s_pass rfl rfl (s_pass rfl rfl (stg (s_pick rfl rfl (st (s_pick rfl rfl (r_end (n_then (w_condF rfl ?_))))))))
      refine w_skip' ?_
      exact n_meet () ⟨hb2, by omega⟩ (by exact ⟨rfl, rfl, rfl, rfl, trivial⟩)
    refine stg (s_move rfl (stg (s_gt rfl rfl (stg (s_pick rfl rfl (st (s_pick rfl rfl (r_end (n_then ?_)))))))))
    refine w_condP rfl (fun h7 => ?_) (fun h7 => ?_)
    rotate_left
    · refine w_skip' ?_
      exact n_meet () ⟨hb2, by omega⟩ (by exact ⟨rfl, rfl, rfl, rfl, trivial⟩)
    refine w_seq (w_region (st (s_assign rfl (r_end (n_then (w_ret1 rfl rfl ?_))))))
    refine ⟨_, rfl, hb2, ?_⟩
    rw [loose_no i hi.1 (by omega)]
    rw [ne_eq, okAt_iff]
    rintro ⟨e1, e2⟩
    first | omega | (have e3 := e2 k (by omega) (by omega); unfold Nd.kid at e3; exact kidB_no e3 (by omega))
  rintro _ w3 ⟨hb3, hc9⟩
  have hz3 := hb3.size
  refine w_seq ?_
  by_cases h8 : 1 < (ix l i).lv
  rotate_left
  · obtain ⟨b10, o10, _, hat6, ⟨rfl, _⟩, hc10, hF10, hlt10⟩ := (hl.at0 hb3).elem i (by omega) (by omega)
    have hl_10 := Loc.lt hF10
    refine w_draw 30 (fun a b => a.grownBy b none) [(some 51, Is <| va), (some 52, Is <| .int .i64 i), (some 53, Is <| .pointer (some ⟨b10, o10, none⟩)), (some 54, Is <| .pointer (some ⟨b10, o10 + 0, none⟩)), (some 55, Is <| .int .i64 ((ix l i).lv)), (some 56, Is <| .bool (decide (1 < (ix l i).lv))), (some 57, Is <| .bool false), (some 58, Is <| undef), (some 59, Is <| undef), (some 60, Is <| .bool false), (some 61, Is <| .bool false), (some 62, Is <| undef), (some 63, Is <| undef), (some 64, Is <| undef), (some 65, Is <| undef), (some 66, Is <| undef), (some 67, Is <| undef), (some 68, Is <| undef), (some 69, Is <| undef), (some 70, Is <| undef), (some 71, Is <| undef), (some 72, Is <| undef), (some 73, Is <| undef), (some 74, Is <| undef), (some 75, Is <| undef), (some 76, Is <| undef), (some 77, Is <| undef), (some 78, Is <| undef), (some 79, Is <| undef), (some 80, Is <| .bool false)] [[], [], [0, 1], [2], [3], [4], [5], [6], [6, 7], [6, 8], [9], [10], [10], [10, 11, 12], [10, 13], [14], [14], [14, 16], [14, 15, 17], [14, 18], [14, 19], [14], [14], [14, 21, 22], [14, 23], [14, 24], [14, 25], [14, 20, 26], [10, 14, 27], [10, 28]] [(0, va), (3, .int .i64 i), (4, .int .i64 k), (5, .int .i64 (sel4 ((ix l i).k0) ((ix l i).k1) ((ix l i).k2) ((ix l i).k3) k))] (by exact ⟨rfl, rfl, rfl, rfl, trivial⟩) (by kernel_rfl) (by kernel_rfl) grown_none_refl (fun _ _ _ => grown_none_trans) ⟨kv, kv, kv, kv, kv, kv, kv, kv, kv, kv, kv, kv, kv, kv, kv, kv, kv, kv, kv, kv, kv, kv, kv, kv, kv, kv, kv, kv, kv, kv, trivial⟩ ?_
    intro w100 k97 hs4
    have hb100 := below_g0 hb3 k97
    refine ⟨⟨?_, ?_, ?_, ?_, ?_, ?_, ?_, ?_, ?_, ?_, ?_, ?_, ?_, ?_, ?_, ?_, ?_, ?_, ?_, ?_, ?_, ?_, ?_, ?_, ?_, ?_, ?_, ?_, ?_, ?_, trivial⟩, ?_⟩
    · intro w101 k98
      refine op1 (s_move rfl ?_)
      exact ⟨rfl, grown_none_refl _⟩
    · intro w102 k99
      refine op1 (s_move rfl ?_)
      exact ⟨rfl, grown_none_refl _⟩
    · intro w103 k100
      intro v_ hv_; subst v_
      rintro _ rfl
      refine op1 (s_idxat sl22 rfl rfl hat6 ?_)
      exact ⟨rfl, grown_none_refl _⟩
    · intro w104 k101
      rintro _ rfl
      refine op1 (s_faddr fld101_0 rfl ?_)
      exact ⟨rfl, grown_none_refl _⟩
    · intro w105 k102
      rintro _ rfl
      refine op1 (s_load one3 rfl (range_g0 (range_g0 hc10 k97) k102) (j := 0) rfl ?_)
      exact ⟨rfl, grown_none_refl _⟩
    · intro w106 k103
      rintro _ rfl
      refine op1 (s_gt rfl rfl ?_)
      exact ⟨rfl, grown_none_refl _⟩
    · intro w107 k104
      rintro _ rfl
      refine op1 (s_move rfl ?_)
      exact ⟨(by rw [decide_eq_false h8]), grown_none_refl _⟩
    · intro w108 k105
      rintro _ rfl
      refine op1p ⟨rfl, grown_none_refl _⟩
    · intro w109 k106
      rintro _ rfl
      intro v_ hv_; subst v_
      refine op1p ⟨rfl, grown_none_refl _⟩
    · intro w110 k107
      rintro _ rfl
      intro v_ hv_; subst v_
      refine op1 (s_pick rfl rfl ?_)
      exact ⟨rfl, grown_none_refl _⟩
    · intro w111 k108
      rintro _ rfl
      refine op1 (s_move rfl ?_)
      exact ⟨rfl, grown_none_refl _⟩
    · intro w112 k109
      rintro _ rfl
      refine op1p ⟨rfl, grown_none_refl _⟩
    · intro w113 k110
      rintro _ rfl
      refine op1p ⟨rfl, grown_none_refl _⟩
    · intro w114 k111
      rintro _ rfl
      intro v_ hv_; subst v_
      intro v_ hv_; subst v_
      refine op1p ⟨rfl, grown_none_refl _⟩
    · intro w115 k112
      rintro _ rfl
      intro v_ hv_; subst v_
      refine op1p ⟨rfl, grown_none_refl _⟩
    · intro w116 k113
      intro v_ hv_; subst v_
      refine op1u ⟨rfl, grown_none_refl _⟩
    · intro w117 k114
      intro v_ hv_; subst v_
      refine op1u ⟨rfl, grown_none_refl _⟩
    · intro w118 k115
      intro v_ hv_; subst v_
      intro v_ hv_; subst v_
      refine op1u ⟨rfl, grown_none_refl _⟩
    · intro w119 k116
      intro v_ hv_; subst v_
      intro v_ hv_; subst v_
      intro v_ hv_; subst v_
      refine op1u ⟨rfl, grown_none_refl _⟩
    · intro w120 k117
      intro v_ hv_; subst v_
      intro v_ hv_; subst v_
      refine op1u ⟨rfl, grown_none_refl _⟩
    · intro w121 k118
      intro v_ hv_; subst v_
      intro v_ hv_; subst v_
      refine op1u ⟨rfl, grown_none_refl _⟩
    · intro w122 k119
      intro v_ hv_; subst v_
      refine op1u ⟨rfl, grown_none_refl _⟩
    · intro w123 k120
      intro v_ hv_; subst v_
      refine op1u ⟨rfl, grown_none_refl _⟩
    · intro w124 k121
      intro v_ hv_; subst v_
      intro v_ hv_; subst v_
      intro v_ hv_; subst v_
      refine op1u ⟨rfl, grown_none_refl _⟩
    · intro w125 k122
      intro v_ hv_; subst v_
      intro v_ hv_; subst v_
      refine op1u ⟨rfl, grown_none_refl _⟩
    · intro w126 k123
      intro v_ hv_; subst v_
      intro v_ hv_; subst v_
      refine op1u ⟨rfl, grown_none_refl _⟩
    · intro w127 k124
      intro v_ hv_; subst v_
      intro v_ hv_; subst v_
      refine op1u ⟨rfl, grown_none_refl _⟩
    · intro w128 k125
      intro v_ hv_; subst v_
      intro v_ hv_; subst v_
      intro v_ hv_; subst v_
      refine op1u ⟨rfl, grown_none_refl _⟩
    · intro w129 k126
      rintro _ rfl
      intro v_ hv_; subst v_
      intro v_ hv_; subst v_
      refine op1p ⟨rfl, grown_none_refl _⟩
    · intro w130 k127
      rintro _ rfl
      intro v_ hv_; subst v_
      refine op1 (s_pick rfl rfl ?_)
      exact ⟨rfl, grown_none_refl _⟩
    intro w131 k128
    have hb131 := below_g0 hb100 k128
    intro v_ hv_; subst v_
    rintro _ rfl _ rfl _ rfl _ rfl _ rfl _ rfl
    intro v_ hv_; subst v_
    intro v_ hv_; subst v_
    rintro _ rfl _ rfl
    intro v_ hv_; subst v_
    intro v_ hv_; subst v_
    intro v_ hv_; subst v_
    intro v_ hv_; subst v_
    intro v_ hv_; subst v_
    intro v_ hv_; subst v_
    intro v_ hv_; subst v_
    intro v_ hv_; subst v_
    intro v_ hv_; subst v_
    intro v_ hv_; subst v_
    intro v_ hv_; subst v_
    intro v_ hv_; subst v_
    intro v_ hv_; subst v_
    intro v_ hv_; subst v_
    intro v_ hv_; subst v_
    intro v_ hv_; subst v_
    intro v_ hv_; subst v_
    intro v_ hv_; subst v_
    rintro _ rfl
    refine r_end (n_then (w_condF rfl (w_skip' (n_block (n_then (w_region ?_))))))
    refine st (s_move rfl (st (s_add rfl rfl (by omega) (st (s_assign rfl (r_end ?_))))))
    exact n_round ((k + 1)) ⟨hb131, by omega, fun j j0 j1 => if e : j = k then by rw [e]; unfold Nd.kid; exact kidB_yes (by omega) (by omega) (by omega) else hk2 j j0 (by omega)⟩ (by omega) (by exact ⟨rfl, rfl, rfl, trivial⟩)
  by_cases h9 : 0 < (sel4 ((ix l i).k0) ((ix l i).k1) ((ix l i).k2) ((ix l i).k3) k)
  rotate_left
  · obtain ⟨b9, o9, _, hat5, ⟨rfl, _⟩, hc9, hF9, hlt9⟩ := (hl.at0 hb3).elem i (by omega) (by omega)
    have hl_9 := Loc.lt hF9
    refine w_draw 30 (fun a b => a.grownBy b none) [(some 51, Is <| va), (some 52, Is <| .int .i64 i), (some 53, Is <| .pointer (some ⟨b9, o9, none⟩)), (some 54, Is <| .pointer (some ⟨b9, o9 + 0, none⟩)), (some 55, Is <| .int .i64 ((ix l i).lv)), (some 56, Is <| .bool (decide (1 < (ix l i).lv))), (some 57, Is <| .bool true), (some 58, Is <| .int .i64 (sel4 ((ix l i).k0) ((ix l i).k1) ((ix l i).k2) ((ix l i).k3) k)), (some 59, Is <| .bool (decide (0 < (sel4 ((ix l i).k0) ((ix l i).k1) ((ix l i).k2) ((ix l i).k3) k)))), (some 60, Is <| .bool (decide (0 < (sel4 ((ix l i).k0) ((ix l i).k1) ((ix l i).k2) ((ix l i).k3) k)))), (some 61, Is <| .bool false), (some 62, Is <| undef), (some 63, Is <| undef), (some 64, Is <| undef), (some 65, Is <| undef), (some 66, Is <| undef), (some 67, Is <| undef), (some 68, Is <| undef), (some 69, Is <| undef), (some 70, Is <| undef), (some 71, Is <| undef), (some 72, Is <| undef), (some 73, Is <| undef), (some 74, Is <| undef), (some 75, Is <| undef), (some 76, Is <| undef), (some 77, Is <| undef), (some 78, Is <| undef), (some 79, Is <| undef), (some 80, Is <| .bool false)] [[], [], [0, 1], [2], [3], [4], [5], [6], [6, 7], [6, 8], [9], [10], [10], [10, 11, 12], [10, 13], [14], [14], [14, 16], [14, 15, 17], [14, 18], [14, 19], [14], [14], [14, 21, 22], [14, 23], [14, 24], [14, 25], [14, 20, 26], [10, 14, 27], [10, 28]] [(0, va), (3, .int .i64 i), (4, .int .i64 k), (5, .int .i64 (sel4 ((ix l i).k0) ((ix l i).k1) ((ix l i).k2) ((ix l i).k3) k))] (by exact ⟨rfl, rfl, rfl, rfl, trivial⟩) (by kernel_rfl) (by kernel_rfl) grown_none_refl (fun _ _ _ => grown_none_trans) ⟨kv, kv, kv, kv, kv, kv, kv, kv, kv, kv, kv, kv, kv, kv, kv, kv, kv, kv, kv, kv, kv, kv, kv, kv, kv, kv, kv, kv, kv, kv, trivial⟩ ?_
    intro w68 k65 hs3
    have hb68 := below_g0 hb3 k65
    refine ⟨⟨?_, ?_, ?_, ?_, ?_, ?_, ?_, ?_, ?_, ?_, ?_, ?_, ?_, ?_, ?_, ?_, ?_, ?_, ?_, ?_, ?_, ?_, ?_, ?_, ?_, ?_, ?_, ?_, ?_, ?_, trivial⟩, ?_⟩
    · intro w69 k66
      refine op1 (s_move rfl ?_)
      exact ⟨rfl, grown_none_refl _⟩
    · intro w70 k67
      refine op1 (s_move rfl ?_)
      exact ⟨rfl, grown_none_refl _⟩
    · intro w71 k68
      intro v_ hv_; subst v_
      rintro _ rfl
      refine op1 (s_idxat sl22 rfl rfl hat5 ?_)
      exact ⟨rfl, grown_none_refl _⟩
    · intro w72 k69
      rintro _ rfl
      refine op1 (s_faddr fld101_0 rfl ?_)
      exact ⟨rfl, grown_none_refl _⟩
    · intro w73 k70
      rintro _ rfl
      refine op1 (s_load one3 rfl (range_g0 (range_g0 hc9 k65) k70) (j := 0) rfl ?_)
      exact ⟨rfl, grown_none_refl _⟩
    · intro w74 k71
      rintro _ rfl
      refine op1 (s_gt rfl rfl ?_)
      exact ⟨rfl, grown_none_refl _⟩
    · intro w75 k72
      rintro _ rfl
      refine op1 (s_move rfl ?_)
      exact ⟨(by rw [decide_eq_true h8]), grown_none_refl _⟩
    · intro w76 k73
      rintro _ rfl
      refine op1g (s_move rfl ?_)
      exact ⟨rfl, grown_none_refl _⟩
    · intro w77 k74
      rintro _ rfl _ rfl
      refine op1g (s_gt rfl rfl ?_)
      exact ⟨rfl, grown_none_refl _⟩
    · intro w78 k75
      rintro _ rfl _ rfl
      refine op1 (s_pick rfl rfl ?_)
      exact ⟨rfl, grown_none_refl _⟩
    · intro w79 k76
      rintro _ rfl
      refine op1 (s_move rfl ?_)
      exact ⟨(by rw [decide_eq_false h9]), grown_none_refl _⟩
    · intro w80 k77
      rintro _ rfl
      refine op1p ⟨rfl, grown_none_refl _⟩
    · intro w81 k78
      rintro _ rfl
      refine op1p ⟨rfl, grown_none_refl _⟩
    · intro w82 k79
      rintro _ rfl
      intro v_ hv_; subst v_
      intro v_ hv_; subst v_
      refine op1p ⟨rfl, grown_none_refl _⟩
    · intro w83 k80
      rintro _ rfl
      intro v_ hv_; subst v_
      refine op1p ⟨rfl, grown_none_refl _⟩
    · intro w84 k81
      intro v_ hv_; subst v_
      refine op1u ⟨rfl, grown_none_refl _⟩
    · intro w85 k82
      intro v_ hv_; subst v_
      refine op1u ⟨rfl, grown_none_refl _⟩
    · intro w86 k83
      intro v_ hv_; subst v_
      intro v_ hv_; subst v_
      refine op1u ⟨rfl, grown_none_refl _⟩
    · intro w87 k84
      intro v_ hv_; subst v_
      intro v_ hv_; subst v_
      intro v_ hv_; subst v_
      refine op1u ⟨rfl, grown_none_refl _⟩
    · intro w88 k85
      intro v_ hv_; subst v_
      intro v_ hv_; subst v_
      refine op1u ⟨rfl, grown_none_refl _⟩
    · intro w89 k86
      intro v_ hv_; subst v_
      intro v_ hv_; subst v_
      refine op1u ⟨rfl, grown_none_refl _⟩
    · intro w90 k87
      intro v_ hv_; subst v_
      refine op1u ⟨rfl, grown_none_refl _⟩
    · intro w91 k88
      intro v_ hv_; subst v_
      refine op1u ⟨rfl, grown_none_refl _⟩
    · intro w92 k89
      intro v_ hv_; subst v_
      intro v_ hv_; subst v_
      intro v_ hv_; subst v_
      refine op1u ⟨rfl, grown_none_refl _⟩
    · intro w93 k90
      intro v_ hv_; subst v_
      intro v_ hv_; subst v_
      refine op1u ⟨rfl, grown_none_refl _⟩
    · intro w94 k91
      intro v_ hv_; subst v_
      intro v_ hv_; subst v_
      refine op1u ⟨rfl, grown_none_refl _⟩
    · intro w95 k92
      intro v_ hv_; subst v_
      intro v_ hv_; subst v_
      refine op1u ⟨rfl, grown_none_refl _⟩
    · intro w96 k93
      intro v_ hv_; subst v_
      intro v_ hv_; subst v_
      intro v_ hv_; subst v_
      refine op1u ⟨rfl, grown_none_refl _⟩
    · intro w97 k94
      rintro _ rfl
      intro v_ hv_; subst v_
      intro v_ hv_; subst v_
      refine op1p ⟨rfl, grown_none_refl _⟩
    · intro w98 k95
      rintro _ rfl
      intro v_ hv_; subst v_
      refine op1 (s_pick rfl rfl ?_)
      exact ⟨rfl, grown_none_refl _⟩
    intro w99 k96
    have hb99 := below_g0 hb68 k96
    intro v_ hv_; subst v_
    rintro _ rfl _ rfl _ rfl _ rfl _ rfl _ rfl _ rfl _ rfl _ rfl _ rfl
    intro v_ hv_; subst v_
    intro v_ hv_; subst v_
    intro v_ hv_; subst v_
    intro v_ hv_; subst v_
    intro v_ hv_; subst v_
    intro v_ hv_; subst v_
    intro v_ hv_; subst v_
    intro v_ hv_; subst v_
    intro v_ hv_; subst v_
    intro v_ hv_; subst v_
    intro v_ hv_; subst v_
    intro v_ hv_; subst v_
    intro v_ hv_; subst v_
    intro v_ hv_; subst v_
    intro v_ hv_; subst v_
    intro v_ hv_; subst v_
    intro v_ hv_; subst v_
    intro v_ hv_; subst v_
    rintro _ rfl
    refine r_end (n_then (w_condF rfl (w_skip' (n_block (n_then (w_region ?_))))))
    refine st (s_move rfl (st (s_add rfl rfl (by omega) (st (s_assign rfl (r_end ?_))))))
    exact n_round ((k + 1)) ⟨hb99, by omega, fun j j0 j1 => if e : j = k then by rw [e]; unfold Nd.kid; exact kidB_yes (by omega) (by omega) (by omega) else hk2 j j0 (by omega)⟩ (by omega) (by exact ⟨rfl, rfl, rfl, trivial⟩)
  by_cases h10 : i < (sel4 ((ix l i).k0) ((ix l i).k1) ((ix l i).k2) ((ix l i).k3) k)
  · obtain ⟨b5, o5, _, hat1, ⟨rfl, _⟩, hc5, hF5, hlt5⟩ := (hl.at0 hb3).elem i (by omega) (by omega)
    have hl_5 := Loc.lt hF5
    refine w_draw 30 (fun a b => a.grownBy b none) [(some 51, Is <| va), (some 52, Is <| .int .i64 i), (some 53, Is <| .pointer (some ⟨b5, o5, none⟩)), (some 54, Is <| .pointer (some ⟨b5, o5 + 0, none⟩)), (some 55, Is <| .int .i64 ((ix l i).lv)), (some 56, Is <| .bool (decide (1 < (ix l i).lv))), (some 57, Is <| .bool true), (some 58, Is <| .int .i64 (sel4 ((ix l i).k0) ((ix l i).k1) ((ix l i).k2) ((ix l i).k3) k)), (some 59, Is <| .bool (decide (0 < (sel4 ((ix l i).k0) ((ix l i).k1) ((ix l i).k2) ((ix l i).k3) k)))), (some 60, Is <| .bool (decide (0 < (sel4 ((ix l i).k0) ((ix l i).k1) ((ix l i).k2) ((ix l i).k3) k)))), (some 61, Is <| .bool true), (some 62, Is <| .int .i64 (sel4 ((ix l i).k0) ((ix l i).k1) ((ix l i).k2) ((ix l i).k3) k)), (some 63, Is <| .int .i64 i), (some 64, Is <| .bool (decide (i < (sel4 ((ix l i).k0) ((ix l i).k1) ((ix l i).k2) ((ix l i).k3) k)))), (some 65, Is <| .bool true), (some 66, Is <| undef), (some 67, Is <| undef), (some 68, Is <| undef), (some 69, Is <| undef), (some 70, Is <| undef), (some 71, Is <| undef), (some 72, Is <| undef), (some 73, Is <| undef), (some 74, Is <| undef), (some 75, Is <| undef), (some 76, Is <| undef), (some 77, Is <| undef), (some 78, Is <| undef), (some 79, Is <| .bool true), (some 80, Is <| .bool true)] [[], [], [0, 1], [2], [3], [4], [5], [6], [6, 7], [6, 8], [9], [10], [10], [10, 11, 12], [10, 13], [14], [14], [14, 16], [14, 15, 17], [14, 18], [14, 19], [14], [14], [14, 21, 22], [14, 23], [14, 24], [14, 25], [14, 20, 26], [10, 14, 27], [10, 28]] [(0, va), (3, .int .i64 i), (4, .int .i64 k), (5, .int .i64 (sel4 ((ix l i).k0) ((ix l i).k1) ((ix l i).k2) ((ix l i).k3) k))] (by exact ⟨rfl, rfl, rfl, rfl, trivial⟩) (by kernel_rfl) (by kernel_rfl) grown_none_refl (fun _ _ _ => grown_none_trans) ⟨kv, kv, kv, kv, kv, kv, kv, kv, kv, kv, kv, kv, kv, kv, kv, kv, kv, kv, kv, kv, kv, kv, kv, kv, kv, kv, kv, kv, kv, kv, trivial⟩ ?_
    intro w4 k1 hs1
    have hb4 := below_g0 hb3 k1
    refine ⟨⟨?_, ?_, ?_, ?_, ?_, ?_, ?_, ?_, ?_, ?_, ?_, ?_, ?_, ?_, ?_, ?_, ?_, ?_, ?_, ?_, ?_, ?_, ?_, ?_, ?_, ?_, ?_, ?_, ?_, ?_, trivial⟩, ?_⟩
    · intro w5 k2
      refine op1 (s_move rfl ?_)
      exact ⟨rfl, grown_none_refl _⟩
    · intro w6 k3
      refine op1 (s_move rfl ?_)
      exact ⟨rfl, grown_none_refl _⟩
    · intro w7 k4
      intro v_ hv_; subst v_
      rintro _ rfl
      refine op1 (s_idxat sl22 rfl rfl hat1 ?_)
      exact ⟨rfl, grown_none_refl _⟩
    · intro w8 k5
      rintro _ rfl
      refine op1 (s_faddr fld101_0 rfl ?_)
      exact ⟨rfl, grown_none_refl _⟩
    · intro w9 k6
      rintro _ rfl
      refine op1 (s_load one3 rfl (range_g0 (range_g0 hc5 k1) k6) (j := 0) rfl ?_)
      exact ⟨rfl, grown_none_refl _⟩
    · intro w10 k7
      rintro _ rfl
      refine op1 (s_gt rfl rfl ?_)
      exact ⟨rfl, grown_none_refl _⟩
    · intro w11 k8
      rintro _ rfl
      refine op1 (s_move rfl ?_)
      exact ⟨(by rw [decide_eq_true h8]), grown_none_refl _⟩
    · intro w12 k9
      rintro _ rfl
      refine op1g (s_move rfl ?_)
      exact ⟨rfl, grown_none_refl _⟩
    · intro w13 k10
      rintro _ rfl _ rfl
      refine op1g (s_gt rfl rfl ?_)
      exact ⟨rfl, grown_none_refl _⟩
    · intro w14 k11
      rintro _ rfl _ rfl
      refine op1 (s_pick rfl rfl ?_)
      exact ⟨rfl, grown_none_refl _⟩
    · intro w15 k12
      rintro _ rfl
      refine op1 (s_move rfl ?_)
      exact ⟨(by rw [decide_eq_true h9]), grown_none_refl _⟩
    · intro w16 k13
      rintro _ rfl
      refine op1g (s_move rfl ?_)
      exact ⟨rfl, grown_none_refl _⟩
    · intro w17 k14
      rintro _ rfl
      refine op1g (s_move rfl ?_)
      exact ⟨rfl, grown_none_refl _⟩
    · intro w18 k15
      rintro _ rfl _ rfl _ rfl
      refine op1g (s_gt rfl rfl ?_)
      exact ⟨rfl, grown_none_refl _⟩
    · intro w19 k16
      rintro _ rfl _ rfl
      refine op1g (s_move rfl ?_)
      exact ⟨(by rw [decide_eq_true h10]), grown_none_refl _⟩
    · intro w20 k17
      rintro _ rfl
      refine op1p ⟨rfl, grown_none_refl _⟩
    · intro w21 k18
      rintro _ rfl
      refine op1p ⟨rfl, grown_none_refl _⟩
    · intro w22 k19
      rintro _ rfl
      intro v_ hv_; subst v_
      refine op1p ⟨rfl, grown_none_refl _⟩
    · intro w23 k20
      rintro _ rfl
      intro v_ hv_; subst v_
      intro v_ hv_; subst v_
      refine op1p ⟨rfl, grown_none_refl _⟩
    · intro w24 k21
      rintro _ rfl
      intro v_ hv_; subst v_
      refine op1p ⟨rfl, grown_none_refl _⟩
    · intro w25 k22
      rintro _ rfl
      intro v_ hv_; subst v_
      refine op1p ⟨rfl, grown_none_refl _⟩
    · intro w26 k23
      rintro _ rfl
      refine op1p ⟨rfl, grown_none_refl _⟩
    · intro w27 k24
      rintro _ rfl
      refine op1p ⟨rfl, grown_none_refl _⟩
    · intro w28 k25
      rintro _ rfl
      intro v_ hv_; subst v_
      intro v_ hv_; subst v_
      refine op1p ⟨rfl, grown_none_refl _⟩
    · intro w29 k26
      rintro _ rfl
      intro v_ hv_; subst v_
      refine op1p ⟨rfl, grown_none_refl _⟩
    · intro w30 k27
      rintro _ rfl
      intro v_ hv_; subst v_
      refine op1p ⟨rfl, grown_none_refl _⟩
    · intro w31 k28
      rintro _ rfl
      intro v_ hv_; subst v_
      refine op1p ⟨rfl, grown_none_refl _⟩
    · intro w32 k29
      rintro _ rfl
      intro v_ hv_; subst v_
      intro v_ hv_; subst v_
      refine op1p ⟨rfl, grown_none_refl _⟩
    · intro w33 k30
      rintro _ rfl _ rfl
      intro v_ hv_; subst v_
      refine op1g (s_pick rfl rfl ?_)
      exact ⟨rfl, grown_none_refl _⟩
    · intro w34 k31
      rintro _ rfl _ rfl
      refine op1 (s_pick rfl rfl ?_)
      exact ⟨rfl, grown_none_refl _⟩
    intro w35 k32
    have hb35 := below_g0 hb4 k32
    intro v_ hv_; subst v_
    rintro _ rfl _ rfl _ rfl _ rfl _ rfl _ rfl _ rfl _ rfl _ rfl _ rfl _ rfl _ rfl _ rfl _ rfl
    intro v_ hv_; subst v_
    intro v_ hv_; subst v_
    intro v_ hv_; subst v_
    intro v_ hv_; subst v_
    intro v_ hv_; subst v_
    intro v_ hv_; subst v_
    intro v_ hv_; subst v_
    intro v_ hv_; subst v_
    intro v_ hv_; subst v_
    intro v_ hv_; subst v_
    intro v_ hv_; subst v_
    intro v_ hv_; subst v_
    intro v_ hv_; subst v_
    rintro _ rfl _ rfl
    refine r_end (n_then (w_condT rfl (w_seq (w_region (st (s_assign rfl (r_end ?_)))))))
    refine n_then (w_ret1 rfl rfl ?_)
    refine ⟨_, rfl, hb35, ?_⟩
    rw [loose_no i hi.1 (by omega)]
    rw [ne_eq, okAt_iff]
    rintro ⟨e1, e2⟩
    first | omega | (have e3 := e2 k (by omega) (by omega); unfold Nd.kid at e3; exact kidB_no e3 (by omega))
  obtain ⟨b6, o6, _, hat2, ⟨rfl, _⟩, hc6, hF6, hlt6⟩ := (hl.at0 hb3).elem i (by omega) (by omega)
  have hl_6 := Loc.lt hF6
  obtain ⟨b7, o7, _, hat3, ⟨rfl, _⟩, hc7, hF7, hlt7⟩ := (hl.at0 hb3).elem ((sel4 ((ix l i).k0) ((ix l i).k1) ((ix l i).k2) ((ix l i).k3) k) - 1) (by omega) (by omega)
  have hl_7 := Loc.lt hF7
  obtain ⟨b8, o8, _, hat4, ⟨rfl, _⟩, hc8, hF8, hlt8⟩ := (hl.at0 hb3).elem i (by omega) (by omega)
  have hl_8 := Loc.lt hF8
  refine w_draw 30 (fun a b => a.grownBy b none) [(some 51, Is <| va), (some 52, Is <| .int .i64 i), (some 53, Is <| .pointer (some ⟨b6, o6, none⟩)), (some 54, Is <| .pointer (some ⟨b6, o6 + 0, none⟩)), (some 55, Is <| .int .i64 ((ix l i).lv)), (some 56, Is <| .bool (decide (1 < (ix l i).lv))), (some 57, Is <| .bool true), (some 58, Is <| .int .i64 (sel4 ((ix l i).k0) ((ix l i).k1) ((ix l i).k2) ((ix l i).k3) k)), (some 59, Is <| .bool (decide (0 < (sel4 ((ix l i).k0) ((ix l i).k1) ((ix l i).k2) ((ix l i).k3) k)))), (some 60, Is <| .bool (decide (0 < (sel4 ((ix l i).k0) ((ix l i).k1) ((ix l i).k2) ((ix l i).k3) k)))), (some 61, Is <| .bool true), (some 62, Is <| .int .i64 (sel4 ((ix l i).k0) ((ix l i).k1) ((ix l i).k2) ((ix l i).k3) k)), (some 63, Is <| .int .i64 i), (some 64, Is <| .bool (decide (i < (sel4 ((ix l i).k0) ((ix l i).k1) ((ix l i).k2) ((ix l i).k3) k)))), (some 65, Is <| .bool false), (some 66, Is <| va), (some 67, Is <| .int .i64 (sel4 ((ix l i).k0) ((ix l i).k1) ((ix l i).k2) ((ix l i).k3) k)), (some 68, Is <| .int .i64 ((sel4 ((ix l i).k0) ((ix l i).k1) ((ix l i).k2) ((ix l i).k3) k) - 1)), (some 69, Is <| .pointer (some ⟨b7, o7, none⟩)), (some 70, Is <| .pointer (some ⟨b7, o7 + 0, none⟩)), (some 71, Is <| .int .i64 ((ix l ((sel4 ((ix l i).k0) ((ix l i).k1) ((ix l i).k2) ((ix l i).k3) k) - 1)).lv)), (some 72, Is <| va), (some 73, Is <| .int .i64 i), (some 74, Is <| .pointer (some ⟨b8, o8, none⟩)), (some 75, Is <| .pointer (some ⟨b8, o8 + 0, none⟩)), (some 76, Is <| .int .i64 ((ix l i).lv)), (some 77, Is <| .int .i64 ((ix l i).lv - 1)), (some 78, Is <| .bool (decide ((ix l ((sel4 ((ix l i).k0) ((ix l i).k1) ((ix l i).k2) ((ix l i).k3) k) - 1)).lv ≠ ((ix l i).lv - 1)))), (some 79, Is <| .bool (decide ((ix l ((sel4 ((ix l i).k0) ((ix l i).k1) ((ix l i).k2) ((ix l i).k3) k) - 1)).lv ≠ ((ix l i).lv - 1)))), (some 80, Is <| .bool (decide ((ix l ((sel4 ((ix l i).k0) ((ix l i).k1) ((ix l i).k2) ((ix l i).k3) k) - 1)).lv ≠ ((ix l i).lv - 1))))] [[], [], [0, 1], [2], [3], [4], [5], [6], [6, 7], [6, 8], [9], [10], [10], [10, 11, 12], [10, 13], [14], [14], [14, 16], [14, 15, 17], [14, 18], [14, 19], [14], [14], [14, 21, 22], [14, 23], [14, 24], [14, 25], [14, 20, 26], [10, 14, 27], [10, 28]] [(0, va), (3, .int .i64 i), (4, .int .i64 k), (5, .int .i64 (sel4 ((ix l i).k0) ((ix l i).k1) ((ix l i).k2) ((ix l i).k3) k))] (by exact ⟨rfl, rfl, rfl, rfl, trivial⟩) (by kernel_rfl) (by kernel_rfl) grown_none_refl (fun _ _ _ => grown_none_trans) ⟨kv, kv, kv, kv, kv, kv, kv, kv, kv, kv, kv, kv, kv, kv, kv, kv, kv, kv, kv, kv, kv, kv, kv, kv, kv, kv, kv, kv, kv, kv, trivial⟩ ?_
  intro w36 k33 hs2
  have hb36 := below_g0 hb3 k33
  refine ⟨⟨?_, ?_, ?_, ?_, ?_, ?_, ?_, ?_, ?_, ?_, ?_, ?_, ?_, ?_, ?_, ?_, ?_, ?_, ?_, ?_, ?_, ?_, ?_, ?_, ?_, ?_, ?_, ?_, ?_, ?_, trivial⟩, ?_⟩
  · intro w37 k34
    refine op1 (s_move rfl ?_)
    exact ⟨rfl, grown_none_refl _⟩
  · intro w38 k35
    refine op1 (s_move rfl ?_)
    exact ⟨rfl, grown_none_refl _⟩
  · intro w39 k36
    intro v_ hv_; subst v_
    rintro _ rfl
    refine op1 (s_idxat sl22 rfl rfl hat2 ?_)
    exact ⟨rfl, grown_none_refl _⟩
  · intro w40 k37
    rintro _ rfl
    refine op1 (s_faddr fld101_0 rfl ?_)
    exact ⟨rfl, grown_none_refl _⟩
  · intro w41 k38
    rintro _ rfl
    refine op1 (s_load one3 rfl (range_g0 (range_g0 hc6 k33) k38) (j := 0) rfl ?_)
    exact ⟨rfl, grown_none_refl _⟩
  · intro w42 k39
    rintro _ rfl
    refine op1 (s_gt rfl rfl ?_)
    exact ⟨rfl, grown_none_refl _⟩
  · intro w43 k40
    rintro _ rfl
    refine op1 (s_move rfl ?_)
    exact ⟨(by rw [decide_eq_true h8]), grown_none_refl _⟩
  · intro w44 k41
    rintro _ rfl
    refine op1g (s_move rfl ?_)
    exact ⟨rfl, grown_none_refl _⟩
  · intro w45 k42
    rintro _ rfl _ rfl
    refine op1g (s_gt rfl rfl ?_)
    exact ⟨rfl, grown_none_refl _⟩
  · intro w46 k43
    rintro _ rfl _ rfl
    refine op1 (s_pick rfl rfl ?_)
    exact ⟨rfl, grown_none_refl _⟩
  · intro w47 k44
    rintro _ rfl
    refine op1 (s_move rfl ?_)
    exact ⟨(by rw [decide_eq_true h9]), grown_none_refl _⟩
  · intro w48 k45
    rintro _ rfl
    refine op1g (s_move rfl ?_)
    exact ⟨rfl, grown_none_refl _⟩
  · intro w49 k46
    rintro _ rfl
    refine op1g (s_move rfl ?_)
    exact ⟨rfl, grown_none_refl _⟩
  · intro w50 k47
    rintro _ rfl _ rfl _ rfl
    refine op1g (s_gt rfl rfl ?_)
    exact ⟨rfl, grown_none_refl _⟩
  · intro w51 k48
    rintro _ rfl _ rfl
    refine op1g (s_move rfl ?_)
    exact ⟨(by rw [decide_eq_false h10]), grown_none_refl _⟩
  · intro w52 k49
    rintro _ rfl
    refine op1g (s_move rfl ?_)
    exact ⟨rfl, grown_none_refl _⟩
  · intro w53 k50
    rintro _ rfl
    refine op1g (s_move rfl ?_)
    exact ⟨rfl, grown_none_refl _⟩
  · intro w54 k51
    rintro _ rfl _ rfl
    refine op1g (s_sub rfl rfl (by omega) ?_)
    exact ⟨rfl, grown_none_refl _⟩
  · intro w55 k52
    rintro _ rfl
    intro v_ hv_; subst v_
    rintro _ rfl
    refine op1g (s_idxat sl22 rfl rfl hat3 ?_)
    exact ⟨rfl, grown_none_refl _⟩
  · intro w56 k53
    rintro _ rfl _ rfl
    refine op1g (s_faddr fld101_0 rfl ?_)
    exact ⟨rfl, grown_none_refl _⟩
  · intro w57 k54
    rintro _ rfl _ rfl
    refine op1g (s_load one3 rfl (range_g0 (range_g0 hc7 k33) k54) (j := 0) rfl ?_)
    exact ⟨rfl, grown_none_refl _⟩
  · intro w58 k55
    rintro _ rfl
    refine op1g (s_move rfl ?_)
    exact ⟨rfl, grown_none_refl _⟩
  · intro w59 k56
    rintro _ rfl
    refine op1g (s_move rfl ?_)
    exact ⟨rfl, grown_none_refl _⟩
  · intro w60 k57
    rintro _ rfl
    intro v_ hv_; subst v_
    rintro _ rfl
    refine op1g (s_idxat sl22 rfl rfl hat4 ?_)
    exact ⟨rfl, grown_none_refl _⟩
  · intro w61 k58
    rintro _ rfl _ rfl
    refine op1g (s_faddr fld101_0 rfl ?_)
    exact ⟨rfl, grown_none_refl _⟩
  · intro w62 k59
    rintro _ rfl _ rfl
    refine op1g (s_load one3 rfl (range_g0 (range_g0 hc8 k33) k59) (j := 0) rfl ?_)
    exact ⟨rfl, grown_none_refl _⟩
  · intro w63 k60
    rintro _ rfl _ rfl
    refine op1g (s_sub rfl rfl (by omega) ?_)
    exact ⟨rfl, grown_none_refl _⟩
  · intro w64 k61
    rintro _ rfl _ rfl _ rfl
    refine op1g (s_ne rfl rfl ?_)
    exact ⟨rfl, grown_none_refl _⟩
  · intro w65 k62
    rintro _ rfl _ rfl _ rfl
    refine op1g (s_pick rfl rfl ?_)
    exact ⟨rfl, grown_none_refl _⟩
  · intro w66 k63
    rintro _ rfl _ rfl
    refine op1 (s_pick rfl rfl ?_)
    exact ⟨rfl, grown_none_refl _⟩
  intro w67 k64
  have hb67 := below_g0 hb36 k64
  intro v_ hv_; subst v_
  rintro _ rfl _ rfl _ rfl _ rfl _ rfl _ rfl _ rfl _ rfl _ rfl _ rfl _ rfl _ rfl _ rfl _ rfl
  intro v_ hv_; subst v_
  rintro _ rfl _ rfl _ rfl _ rfl _ rfl
  intro v_ hv_; subst v_
  rintro _ rfl _ rfl _ rfl _ rfl _ rfl _ rfl _ rfl _ rfl
  refine r_end (n_then ?_)
  refine w_condP rfl (fun h11 => ?_) (fun h11 => ?_)
  · refine w_seq (w_region (st (s_assign rfl (r_end (n_then (w_ret1 rfl rfl ?_))))))
    refine ⟨_, rfl, hb67, ?_⟩
    rw [loose_no i hi.1 (by omega)]
    rw [ne_eq, okAt_iff]
    rintro ⟨e1, e2⟩
    first | omega | (have e3 := e2 k (by omega) (by omega); unfold Nd.kid at e3; exact kidB_no e3 (by omega))
  refine w_skip' (n_block (n_then (w_region (st (s_move rfl (st (s_add rfl rfl (by omega) (st (s_assign rfl ?_)))))))))
  refine r_end ?_
  exact n_round ((k + 1)) ⟨hb67, by omega, fun j j0 j1 => if e : j = k then by rw [e]; unfold Nd.kid; exact kidB_yes (by omega) (by omega) (by omega) else hk2 j j0 (by omega)⟩ (by omega) (by exact ⟨rfl, rfl, rfl, trivial⟩)
end Go.Proofs.Ytfljelnfjbbknaa.Nd

set_option maxRecDepth 20000
set_option linter.unusedSimpArgs false
set_option linter.unusedVariables false
namespace Go.Proofs.Ytfljelnfjbbknaa.Lm
open Go.RowKit Go.Gw
theorem one29 : OneF Try.prog 29 := ⟨by kernel_rfl⟩
theorem sl29 : SlF Try.prog 29 83 1 4 (.int .u32 0) := ⟨by kernel_rfl, by kernel_rfl, rfl, by decide⟩
theorem one83 : OneF Try.prog 83 := ⟨by kernel_rfl⟩
theorem fn111 : FunF Try.prog 111 := ⟨_, _, Try.func111, by decide +kernel, rfl⟩
theorem fn103 : FunF Try.prog 103 := ⟨_, _, Try.func103, by decide +kernel, rfl⟩
theorem fn99 : FunF Try.prog 99 := ⟨_, _, Try.func99, by decide +kernel, rfl⟩
theorem one3 : OneF Try.prog 3 := ⟨by kernel_rfl⟩
theorem zero3 : ZeroF Try.prog 3 #[.int .i64 0] := ⟨by kernel_rfl⟩
theorem fn104 : FunF Try.prog 104 := ⟨_, _, Try.func104, by decide +kernel, rfl⟩
theorem fn114 : FunF Try.prog 114 := ⟨_, _, Try.func114, by decide +kernel, rfl⟩
theorem intk83 : Go.Program.underlying Try.prog 83 = some (.int .u32) := by kernel_rfl
theorem intk81 : Go.Program.underlying Try.prog 81 = some (.int .u64) := by kernel_rfl
theorem fn112 : FunF Try.prog 112 := ⟨_, _, Try.func112, by decide +kernel, rfl⟩
theorem fn82 : FunF Try.prog 82 := ⟨_, _, Try.func82, by decide +kernel, rfl⟩
theorem fn113 : FunF Try.prog 113 := ⟨_, _, Try.func113, by decide +kernel, rfl⟩
theorem fn98 : FunF Try.prog 98 := ⟨_, _, Try.func98, by decide +kernel, rfl⟩
theorem intk5 : Go.Program.underlying Try.prog 5 = some (.int .u8) := by kernel_rfl
theorem intk3 : Go.Program.underlying Try.prog 3 = some (.int .i64) := by kernel_rfl
theorem sl68 : SlF Try.prog 68 4 1 1 (.bool false) := ⟨by kernel_rfl, by kernel_rfl, rfl, by decide⟩
theorem one4 : OneF Try.prog 4 := ⟨by kernel_rfl⟩
theorem nz4 : ∃ ie, Try.prog.info? 4 = some ie ∧ 0 < ie.size := nz_of (by kernel_rfl)
theorem fn105 : FunF Try.prog 105 := ⟨_, _, Try.func105, by decide +kernel, rfl⟩
theorem nz83 : ∃ ie, Try.prog.info? 83 = some ie ∧ 0 < ie.size := nz_of (by kernel_rfl)
theorem fn85 : FunF Try.prog 85 := ⟨_, _, Try.func85, by decide +kernel, rfl⟩
theorem fn87 : FunF Try.prog 87 := ⟨_, _, Try.func87, by decide +kernel, rfl⟩
theorem fn86 : FunF Try.prog 86 := ⟨_, _, Try.func86, by decide +kernel, rfl⟩
theorem bool4 : Go.Program.underlying Try.prog 4 = some .bool := by kernel_rfl
theorem fn88 : FunF Try.prog 88 := ⟨_, _, Try.func88, by decide +kernel, rfl⟩
end Go.Proofs.Ytfljelnfjbbknaa.Lm
