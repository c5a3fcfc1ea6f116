/- Part of the proof that is named in YtdeiiagkbbimhaaNRowCanJust: a library for walks, or a function's walk. -/
import Derived.Test.YtdeiiagkbbimhaaGw12
/-! ### Nodes, as plain data -/
namespace Go.Gw
structure Nd where
  lv : Int
  k0 : Int
  k1 : Int
  k2 : Int
  k3 : Int
  deriving DecidableEq, Inhabited
def Nd.cells (x : Nd) : List Value := [.int .i64 x.lv, .int .i64 x.k0, .int .i64 x.k1, .int .i64 x.k2, .int .i64 x.k3]
def Nd.kid (x : Nd) (k : Int) : Int := sel4 x.k0 x.k1 x.k2 x.k3 k
def Kd.node : Kd Nd := Kd.flat 5 Nd.cells (fun _ => True) (fun _ => rfl)
theorem sel4_any {a b c d : Int} (p : Int → Prop) : (∀ k, 0 ≤ k → k < 4 → p (sel4 a b c d k)) ↔ p a ∧ p b ∧ p c ∧ p d := by
  constructor
  · intro h; exact ⟨h 0 (by omega) (by omega), h 1 (by omega) (by omega), h 2 (by omega) (by omega), h 3 (by omega) (by omega)⟩
  · rintro ⟨h0, h1, h2, h3⟩ k hk0 hk1
    have : k = 0 ∨ k = 1 ∨ k = 2 ∨ k = 3 := by omega
    rcases this with rfl | rfl | rfl | rfl
    · exact h0
    · exact h1
    · exact h2
    · exact h3

def kidB (l : List Nd) (i c : Int) : Bool :=
  c == 0 || if (ix l i).lv = 1 then decide (0 < c ∧ c ≤ 255) else decide (0 < c ∧ c ≤ i ∧ (ix l (c-1)).lv = (ix l i).lv - 1)
def okAt (l : List Nd) (i : Int) : Bool :=
  decide (1 ≤ (ix l i).lv ∧ (ix l i).lv ≤ 1329) && kidB l i (ix l i).k0 && kidB l i (ix l i).k1 && kidB l i (ix l i).k2 && kidB l i (ix l i).k3
def looseB (l : List Nd) : Bool := (List.range l.length).all fun i => okAt l i
theorem looseB_iff (l : List Nd) : looseB l = true ↔ ∀ i : Int, 0 ≤ i → i < l.length → okAt l i = true := by
  unfold looseB
  rw [List.all_eq_true]
  constructor
  · intro h i h0 h1
    have := h i.toNat (by simp; omega)
    rwa [show ((i.toNat : Nat) : Int) = i by omega] at this
  · intro h i hi
    exact h i (by omega) (by simp at hi; omega)
theorem loose_no {l : List Nd} (i : Int) (h0 : 0 ≤ i) (h1 : i < l.length) (h : okAt l i ≠ true) : looseB l = false := by
  rw [← Bool.not_eq_true, looseB_iff]; intro h2; exact h (h2 i h0 h1)
theorem okAt_iff (l : List Nd) (i : Int) : okAt l i = true ↔ (1 ≤ (ix l i).lv ∧ (ix l i).lv ≤ 1329) ∧ ∀ k, 0 ≤ k → k < 4 → kidB l i ((ix l i).kid k) = true := by
  unfold okAt Nd.kid
  rw [sel4_any (fun c => kidB l i c = true)]
  simp only [Bool.and_eq_true, decide_eq_true_eq]
  constructor
  · rintro ⟨⟨⟨⟨h, h0⟩, h1⟩, h2⟩, h3⟩; exact ⟨h, h0, h1, h2, h3⟩
  · rintro ⟨h, h0, h1, h2, h3⟩; exact ⟨⟨⟨⟨h, h0⟩, h1⟩, h2⟩, h3⟩

/-! ### which nodes have cells -/
def hasK (x : Nd) (out : List Bool) (c : Int) : Bool := decide (c ≠ 0) && (decide (x.lv = 1) || ix out c)
def kids (x : Nd) : List Int := [x.k0, x.k1, x.k2, x.k3]
def hasN (x : Nd) (out : List Bool) : Bool := (kids x).any (hasK x out)
def hasL (l : List Nd) : List Bool := l.foldl (fun out x => out ++ [hasN x out]) [false]
theorem hasL_snoc (l : List Nd) (x : Nd) : hasL (l ++ [x]) = hasL l ++ [hasN x (hasL l)] := by simp [hasL]
theorem hasL_length (l : List Nd) : (hasL l).length = l.length + 1 := by
  have h : ∀ (l : List Nd) (acc : List Bool), (l.foldl (fun out x => out ++ [hasN x out]) acc).length = acc.length + l.length := by
    intro l
    induction l with
    | nil => intro acc; rfl
    | cons x r ih => intro acc; rw [List.foldl_cons, ih]; simp; omega
  unfold hasL; rw [h]; simp; omega
def idxF (p : Int → Bool) : List Int → Int
  | [] => -1
  | x :: r => if p x then 0 else if idxF p r < 0 then -1 else idxF p r + 1
theorem idxF_ge (p : Int → Bool) (xs : List Int) : decide (0 ≤ idxF p xs) = xs.any p := by
  induction xs with
  | nil => rfl
  | cons x r ih =>
    unfold idxF
    by_cases h : p x = true
    · simp [h]
    · simp only [Bool.not_eq_true] at h
      simp only [h, Bool.false_eq_true, if_false, List.any_cons, Bool.false_or, ← ih]
      split
      · rename_i h2
        rw [decide_eq_false (by omega), decide_eq_false (by omega)]
      · rename_i h2
        rw [decide_eq_true (by omega), decide_eq_true (by omega)]
theorem ix_cons {α : Type} [Inhabited α] (x : α) (r : List α) (i : Int) (h : 0 < i) : ix (x :: r) i = ix r (i - 1) := by
  unfold ix
  obtain ⟨k, rfl⟩ : ∃ k : Nat, i = k + 1 := ⟨(i - 1).toNat, by omega⟩
  rw [show ((k : Int) + 1).toNat = k + 1 by omega, show ((k : Int) + 1 - 1).toNat = k by omega]
  rfl
theorem ix_zero {α : Type} [Inhabited α] (x : α) (r : List α) : ix (x :: r) 0 = x := rfl
theorem idxF_at (p : Int → Bool) : ∀ (xs : List Int) (i : Int), 0 ≤ i → i < xs.length → (∀ j, 0 ≤ j → j < i → p (ix xs j) = false) → p (ix xs i) = true → idxF p xs = i
  | [], i, h0, h1, _, _ => by simp at h1; omega
  | x :: r, i, h0, h1, hn, hp => by
    unfold idxF
    by_cases e : i = 0
    · subst e; rw [ix_zero] at hp; simp [hp]
    · have hx : p x = false := by have := hn 0 (by omega) (by omega); rwa [ix_zero] at this
      have hr := idxF_at p r (i - 1) (by omega) (by simp at h1; omega) (fun j j0 j1 => by
        have := hn (j + 1) (by omega) (by omega)
        rwa [ix_cons _ _ _ (by omega), show j + 1 - 1 = j by omega] at this) (by rwa [ix_cons _ _ _ (by omega)] at hp)
      rw [hx, hr, if_neg (by simp), if_neg (by omega)]; omega
theorem idxF_none (p : Int → Bool) : ∀ (xs : List Int), (∀ j : Int, 0 ≤ j → j < xs.length → p (ix xs j) = false) → idxF p xs = -1
  | [], _ => rfl
  | x :: r, hn => by
    unfold idxF
    have hx : p x = false := by have := hn 0 (by omega) (by simp); rwa [ix_zero] at this
    rw [hx, idxF_none p r (fun j j0 j1 => by
      have := hn (j + 1) (by omega) (by simp; omega)
      rwa [ix_cons _ _ _ (by omega), show j + 1 - 1 = j by omega] at this)]
    rfl
theorem ix_append_left {α : Type} [Inhabited α] (xs ys : List α) (i : Int) (h0 : 0 ≤ i) (h : i < xs.length) : ix (xs ++ ys) i = ix xs i := by
  have h0 : i.toNat < xs.length := by omega
  simp [ix, List.getElem?_append_left h0, List.getD_eq_getElem?_getD]

/-- The list of 'full' in the middle of its loop. -/
def partL (l : List Nd) (i : Int) : List Bool := hasL (l.take i.toNat) ++ List.replicate (l.length - i.toNat) false
theorem partL_length (l : List Nd) (i : Int) (h0 : 0 ≤ i) (h : i ≤ l.length) : (partL l i).length = l.length + 1 := by
  unfold partL; rw [List.length_append, hasL_length, List.length_take, List.length_replicate]; omega
theorem partL_zero (l : List Nd) : List.replicate ((l.length : Int) + 1).toNat false = partL l 0 := by
  unfold partL
  rw [show ((l.length : Int) + 1).toNat = l.length + 1 by omega]
  simp [hasL, List.replicate_succ]
theorem take_succ_ix (l : List Nd) (i : Int) (h0 : 0 ≤ i) (h : i < l.length) : l.take (i + 1).toNat = l.take i.toNat ++ [ix l i] := by
  have hi : i.toNat < l.length := by omega
  rw [show (i + 1).toNat = i.toNat + 1 by omega, List.take_succ_eq_append_getElem hi]
  congr 2
  simp [ix, hi]
theorem partL_set (l : List Nd) (i : Int) (h0 : 0 ≤ i) (h : i < l.length) (hok : (ix l i).lv ≠ 1 → ∀ k, 0 ≤ k → k < 4 → (ix l i).kid k ≠ 0 → 0 ≤ (ix l i).kid k ∧ (ix l i).kid k ≤ i) :
    (partL l i).set (i + 1).toNat ([(ix l i).k0, (ix l i).k1, (ix l i).k2, (ix l i).k3].any (hasK (ix l i) (partL l i))) = partL l (i + 1) := by
  have hlen : (hasL (l.take i.toNat)).length = i.toNat + 1 := by rw [hasL_length, List.length_take]; omega
  have hany : [(ix l i).k0, (ix l i).k1, (ix l i).k2, (ix l i).k3].any (hasK (ix l i) (partL l i)) = hasN (ix l i) (hasL (l.take i.toNat)) := by
    have hk : ∀ k, 0 ≤ k → k < 4 → hasK (ix l i) (partL l i) ((ix l i).kid k) = hasK (ix l i) (hasL (l.take i.toNat)) ((ix l i).kid k) := by
      intro k k0 k1
      unfold hasK
      by_cases hc : (ix l i).kid k = 0
      · simp [hc]
      · by_cases hl : (ix l i).lv = 1
        · simp [hl]
        · have := hok hl k k0 k1 hc
          unfold partL
          rw [ix_append_left _ _ _ this.1 (by omega)]
    have e0 := hk 0 (by omega) (by omega); have e1 := hk 1 (by omega) (by omega); have e2 := hk 2 (by omega) (by omega); have e3 := hk 3 (by omega) (by omega)
    simp only [Nd.kid, sel4] at e0 e1 e2 e3
    simp at e0 e1 e2 e3
    simp [hasN, kids, e0, e1, e2, e3]
  rw [hany]
  unfold partL
  rw [take_succ_ix l i h0 h, hasL_snoc, List.set_append_right _ _ (by omega), hlen, show (i + 1).toNat - (i.toNat + 1) = 0 by omega,
    show l.length - i.toNat = (l.length - (i + 1).toNat) + 1 by omega, List.replicate_succ]
  simp
theorem partL_end (l : List Nd) : partL l l.length = hasL l := by
  unfold partL
  simp
theorem okAt_kids {l : List Nd} (h : looseB l = true) {i : Int} (h0 : 0 ≤ i) (h1 : i < l.length) : (ix l i).lv ≠ 1 → ∀ k, 0 ≤ k → k < 4 → (ix l i).kid k ≠ 0 → 0 ≤ (ix l i).kid k ∧ (ix l i).kid k ≤ i := by
  intro hl k k0 k1 hc
  have := ((okAt_iff l i).1 ((looseB_iff l).1 h i h0 h1)).2 k k0 k1
  unfold kidB at this
  simp [hc, hl] at this
  omega
theorem ix_four (a b c d j : Int) (h0 : 0 ≤ j) (h1 : j < 4) : ix [a, b, c, d] j = sel4 a b c d j := by
  have : j = 0 ∨ j = 1 ∨ j = 2 ∨ j = 3 := by omega
  rcases this with rfl | rfl | rfl | rfl <;> rfl
theorem full_use {l : List Nd} (h : looseB l = true) {i j : Int} (h0 : 0 ≤ i) (h1 : i < l.length) (j0 : 0 ≤ j) (j1 : j < ([(ix l i).k0, (ix l i).k1, (ix l i).k2, (ix l i).k3] : List Int).length)
    (e1 : ix [(ix l i).k0, (ix l i).k1, (ix l i).k2, (ix l i).k3] j ≠ 0) (e2 : (ix l i).lv ≠ 1) : 0 ≤ ix [(ix l i).k0, (ix l i).k1, (ix l i).k2, (ix l i).k3] j ∧ ix [(ix l i).k0, (ix l i).k1, (ix l i).k2, (ix l i).k3] j < (partL l i).length := by
  have j2 : j < 4 := by simpa using j1
  rw [ix_four _ _ _ _ _ j0 j2] at *
  have := okAt_kids h h0 h1 e2 j j0 j2 e1
  rw [partL_length l i h0 (by omega)]
  unfold Nd.kid at this
  omega
theorem node_flat : Kd.node.Flat := Kd.flat_flat _ _ _ _
theorem node_ones : Kd.node.Ones := by
  rintro _ _ _ x ⟨rfl, _⟩ c hc
  simp [Nd.cells] at hc
  rcases hc with rfl | rfl | rfl | rfl | rfl <;> rfl
def levelN (l : List Nd) : Int := if l.length = 0 then 0 else (ix l ((l.length : Int) - 1)).lv
theorem kidB_no {l : List Nd} {i c : Int} (h : kidB l i c = true) (hc : c < 0 ∨ ((ix l i).lv = 1 ∧ 255 < c) ∨ ((ix l i).lv ≠ 1 ∧ 0 < c ∧ (i < c ∨ (ix l (c - 1)).lv ≠ (ix l i).lv - 1))) : False := by
  unfold kidB at h
  by_cases h0 : c = 0
  · subst h0; omega
  · simp only [show (c == 0) = false by simpa using h0, Bool.false_or] at h
    by_cases h1 : (ix l i).lv = 1
    · rw [if_pos h1] at h; have := of_decide_eq_true h; omega
    · rw [if_neg h1] at h; have := of_decide_eq_true h; omega
theorem kidB_yes {l : List Nd} {i c : Int} (h0 : 0 ≤ c) (h1 : (ix l i).lv = 1 → c ≤ 255) (h2 : (ix l i).lv ≠ 1 → 0 < c → c ≤ i ∧ (ix l (c - 1)).lv = (ix l i).lv - 1) : kidB l i c = true := by
  unfold kidB
  by_cases h : c = 0
  · simp [h]
  · simp only [show (c == 0) = false by simpa using h, Bool.false_or]
    split
    · rename_i e; exact decide_eq_true ⟨by omega, h1 e⟩
    · rename_i e; have := h2 e (by omega); exact decide_eq_true ⟨by omega, this.1, this.2⟩

theorem four_all (p : Int → Bool) : [(0 : Int), 1, 2, 3].all p = true ↔ ∀ k, 0 ≤ k → k < 4 → p k = true := by
  rw [List.all_eq_true]
  constructor
  · intro h k h0 h1; exact h k (by simp; omega)
  · intro h k hk; simp at hk; exact h k (by omega) (by omega)
def hollowB (l : List Nd) (n : Int) : Bool :=
  decide (n ≠ 0) && decide ((ix l (n - 1)).lv ≠ 1) && [(0 : Int), 1, 2, 3].all fun k => decide ((ix l (n - 1)).kid k = 0) ||
    [(0 : Int), 1, 2, 3].all fun j => decide (j = 3 - k) || !(hasK (ix l ((ix l (n - 1)).kid k - 1)) (hasL l) ((ix l ((ix l (n - 1)).kid k - 1)).kid j))
def holK (l : List Nd) (n k : Int) : Prop := (ix l (n - 1)).kid k ≠ 0 → ∀ j, 0 ≤ j → j < 4 → j ≠ 3 - k → hasK (ix l ((ix l (n - 1)).kid k - 1)) (hasL l) ((ix l ((ix l (n - 1)).kid k - 1)).kid j) = false
theorem hollowB_iff (l : List Nd) (n : Int) : hollowB l n = true ↔ n ≠ 0 ∧ (ix l (n - 1)).lv ≠ 1 ∧ ∀ k, 0 ≤ k → k < 4 → holK l n k := by
  unfold hollowB holK
  simp only [Bool.and_eq_true, decide_eq_true_eq, four_all, Bool.or_eq_true, Bool.not_eq_true']
  constructor
  · rintro ⟨⟨h1, h2⟩, h3⟩
    refine ⟨h1, h2, fun k k0 k1 hc j j0 j1 hj => ?_⟩
    rcases h3 k k0 k1 with h | h
    · exact absurd h hc
    · rcases h j j0 j1 with h | h
      · exact absurd h hj
      · exact h
  · rintro ⟨h1, h2, h3⟩
    refine ⟨⟨h1, h2⟩, fun k k0 k1 => ?_⟩
    by_cases hc : (ix l (n - 1)).kid k = 0
    · exact .inl hc
    · refine .inr fun j j0 j1 => ?_
      by_cases hj : j = 3 - k
      · exact .inl hj
      · exact .inr (h3 k k0 k1 hc j j0 j1 hj)
theorem hollow_no {l : List Nd} {n : Int} (h : ¬ (n ≠ 0 ∧ (ix l (n - 1)).lv ≠ 1 ∧ ∀ k, 0 ≤ k → k < 4 → holK l n k)) : hollowB l n = false := by
  rw [← Bool.not_eq_true, hollowB_iff]; exact h
/-- A kid of a node of a loose list lies ahead of it, one level less. -/
theorem kid_in {l : List Nd} (h : looseB l = true) {i k : Int} (h0 : 0 ≤ i) (h1 : i < l.length) (k0 : 0 ≤ k) (k1 : k < 4) (hl : (ix l i).lv ≠ 1) (hc : (ix l i).kid k ≠ 0) :
    0 < (ix l i).kid k ∧ (ix l i).kid k ≤ i ∧ (ix l ((ix l i).kid k - 1)).lv = (ix l i).lv - 1 := by
  have := ((okAt_iff l i).1 ((looseB_iff l).1 h i h0 h1)).2 k k0 k1
  unfold kidB at this
  simp [hc, hl] at this
  exact this
theorem lv_in {l : List Nd} (h : looseB l = true) {i : Int} (h0 : 0 ≤ i) (h1 : i < l.length) : 1 ≤ (ix l i).lv ∧ (ix l i).lv ≤ 1329 := ((okAt_iff l i).1 ((looseB_iff l).1 h i h0 h1)).1
theorem kid1_in {l : List Nd} (h : looseB l = true) {i k : Int} (h0 : 0 ≤ i) (h1 : i < l.length) (k0 : 0 ≤ k) (k1 : k < 4) (hl : (ix l i).lv = 1) : 0 ≤ (ix l i).kid k ∧ (ix l i).kid k ≤ 255 := by
  have := ((okAt_iff l i).1 ((looseB_iff l).1 h i h0 h1)).2 k k0 k1
  unfold kidB at this
  by_cases hc : (ix l i).kid k = 0
  · omega
  · simp [hc, hl] at this; omega

/-! ### the four numbers and the level, as one thing -/
def Nd.tup (x : Nd) : Int × Int × Int × Int × Int := (x.lv, x.k0, x.k1, x.k2, x.k3)
theorem Nd.tup_inj (a b : Nd) (h : a.tup = b.tup) : a = b := by
  cases a; cases b; simp [Nd.tup] at h; simp [h]
def Nd.val (x : Nd) : Value := .agg x.cells.toArray
theorem hasK_no {x : Nd} {out : List Bool} {c : Int} (h : c = 0 ∨ (x.lv ≠ 1 ∧ ix out c = false)) : hasK x out c = false := by
  unfold hasK
  rcases h with h | ⟨h1, h2⟩
  · simp [h]
  · simp [h1, h2]
theorem hasK_yes {x : Nd} {out : List Bool} {c : Int} (h0 : c ≠ 0) (h : x.lv = 1 ∨ ix out c = true) : hasK x out c = true := by
  unfold hasK
  rcases h with h | h <;> simp [h0, h]
end Go.Gw
