/- Part of the proof: a library for walks, plain laws, and functions' walks. -/
import Derived.Test.YtfljelnfjbbknaaM1
import Derived.Carry
import Derived.ChangeSame
import Derived.JoinedOf
import Derived.JoinedAt
import Derived.Deep.Slices
import Derived.OpenShut
import Derived.Handed
import Derived.RangeFuncNested
import Derived.RangeFuncBound
import Derived.RangeFuncCalls
import Derived.RangeFuncLeaves
import Derived.RangeFuncRecord
import Derived.OrdersIn
import Derived.Sort.LoopGhostIn
set_option linter.unusedSimpArgs false
set_option linter.unusedVariables false
namespace Go.Gw
structure Nd where
  lv : Int
  k0 : Int
  k1 : Int
  k2 : Int
  k3 : Int
  deriving DecidableEq, Inhabited
def Nd.cells (x : Nd) : List Value := [.int .i64 x.lv, .int .i64 x.k0, .int .i64 x.k1, .int .i64 x.k2, .int .i64 x.k3]
def Nd.kid (x : Nd) (k : Int) : Int := Zae x.k0 x.k1 x.k2 x.k3 k
def Kd.node : Kd Nd := Kd.flat 5 Nd.cells (fun _ => True) (fun _ => rfl)
theorem sel4_any {a b c d : Int} (p : Int → Prop) : (∀ k, 0 ≤ k → k < 4 → p (Zae a b c d k)) ↔ p a ∧ p b ∧ p c ∧ p d := by
  constructor
  · intro h; exact ⟨h 0 om om, h 1 om om, h 2 om om, h 3 om om⟩
  · rintro ⟨h0, h1, h2, h3⟩ k hk0 hk1
    have : k = 0 ∨ k = 1 ∨ k = 2 ∨ k = 3 := by omega
    rcases this with rfl | rfl | rfl | rfl
    · exact h0
    · exact h1
    · exact h2
    · exact h3
def Zf6 (l : List Nd) (i c : Int) : Bool :=
  c == 0 || if (ix l i).lv = 1 then decide (0 < c ∧ c ≤ 255) else decide (0 < c ∧ c ≤ i ∧ (ix l (c-1)).lv = (ix l i).lv - 1)
def okAt (l : List Nd) (i : Int) : Bool :=
  decide (1 ≤ (ix l i).lv ∧ (ix l i).lv ≤ 1329) && Zf6 l i (ix l i).k0 && Zf6 l i (ix l i).k1 && Zf6 l i (ix l i).k2 && Zf6 l i (ix l i).k3
def Zaf (l : List Nd) : Bool := (List.range l.length).all fun i => okAt l i
theorem Zcz (l : List Nd) : Zaf l = true ↔ ∀ i : Int, 0 ≤ i → i < l.length → okAt l i = true := by
  unfold Zaf
  rw [List.all_eq_true]
  constructor
  · intro h i h0 h1
    have := h i.toNat (by simp; omega)
    rwa [show ((i.toNat : Nat) : Int) = i by omega] at this
  · intro h i hi
    exact h i om (by simp at hi; omega)
theorem Zfi {l : List Nd} (i : Int) (h0 : 0 ≤ i) (h1 : i < l.length) (h : okAt l i ≠ true) : Zaf l = false := by
  rw [← Bool.not_eq_true, Zcz]; intro h2; exact h (h2 i h0 h1)
theorem Zck (l : List Nd) (i : Int) : okAt l i = true ↔ (1 ≤ (ix l i).lv ∧ (ix l i).lv ≤ 1329) ∧ ∀ k, 0 ≤ k → k < 4 → Zf6 l i ((ix l i).kid k) = true := by
  unfold okAt Nd.kid
  rw [sel4_any (fun c => Zf6 l i c = true)]
  simp only [Bool.and_eq_true, decide_eq_true_eq]
  constructor
  · rintro ⟨⟨⟨⟨h, h0⟩, h1⟩, h2⟩, h3⟩; exact ⟨h, h0, h1, h2, h3⟩
  · rintro ⟨h, h0, h1, h2, h3⟩; exact ⟨⟨⟨⟨h, h0⟩, h1⟩, h2⟩, h3⟩
def Zes (x : Nd) (out : List Bool) (c : Int) : Bool := decide (c ≠ 0) && (decide (x.lv = 1) || ix out c)
def kids (x : Nd) : List Int := [x.k0, x.k1, x.k2, x.k3]
def Zhx (x : Nd) (out : List Bool) : Bool := (kids x).any (Zes x out)
def Zca (l : List Nd) : List Bool := l.foldl (fun out x => out ++ [Zhx x out]) [false]
theorem Zlb (l : List Nd) (x : Nd) : Zca (l ++ [x]) = Zca l ++ [Zhx x (Zca l)] := by simp [Zca]
theorem Zbg (l : List Nd) : (Zca l).length = l.length + 1 := by
  have h : ∀ (l : List Nd) (acc : List Bool), (l.foldl (fun out x => out ++ [Zhx x out]) acc).length = acc.length + l.length := by
    intro l
    induction l with
    | nil => intro acc; rfl
    | cons x r ih => intro acc; rw [List.foldl_cons, ih]; simp; omega
  unfold Zca; rw [h]; simp; omega
def idxF (p : Int → Bool) : List Int → Int
  | [] => -1
  | x :: r => if p x then 0 else if idxF p r < 0 then -1 else idxF p r + 1
theorem idxF_ge (p : Int → Bool) (xs : List Int) : decide (0 ≤ idxF p xs) = xs.any p := by
  induction xs with
  | nil => rfl
  | cons x r ih =>
    unfold idxF
    by_cases h : p x = true
    · simp [h]
    · simp only [Bool.not_eq_true] at h
      simp only [h, Bool.false_eq_true, if_false, List.any_cons, Bool.false_or, ← ih]
      split
      · rename_i h2
        rw [decide_eq_false om, decide_eq_false om]
      · rename_i h2
        rw [decide_eq_true om, decide_eq_true om]
theorem ix_cons {α : Type} [Inhabited α] (x : α) (r : List α) (i : Int) (h : 0 < i) : ix (x :: r) i = ix r (i - 1) := by
  unfold ix
  obtain ⟨k, rfl⟩ : ∃ k : Nat, i = k + 1 := ⟨(i - 1).toNat, by omega⟩
  rw [show ((k : Int) + 1).toNat = k + 1 by omega, show ((k : Int) + 1 - 1).toNat = k by omega]
  rfl
theorem ix_zero {α : Type} [Inhabited α] (x : α) (r : List α) : ix (x :: r) 0 = x := rfl
theorem idxF_at (p : Int → Bool) : ∀ (xs : List Int) (i : Int), 0 ≤ i → i < xs.length → (∀ j, 0 ≤ j → j < i → p (ix xs j) = false) → p (ix xs i) = true → idxF p xs = i
  | [], i, h0, h1, _, _ => by simp at h1; omega
  | x :: r, i, h0, h1, hn, hp => by
    unfold idxF
    by_cases e : i = 0
    · subst e; rw [ix_zero] at hp; simp [hp]
    · have hx : p x = false := by have := hn 0 om om; rwa [ix_zero] at this
      have hr := idxF_at p r (i - 1) om (by simp at h1; omega) (fun j j0 j1 => by
        have := hn (j + 1) om om
        rwa [ix_cons _ _ _ om, show j + 1 - 1 = j by omega] at this) (by rwa [ix_cons _ _ _ om] at hp)
      rw [hx, hr, if_neg (by simp), if_neg om]; omega
theorem idxF_none (p : Int → Bool) : ∀ (xs : List Int), (∀ j : Int, 0 ≤ j → j < xs.length → p (ix xs j) = false) → idxF p xs = -1
  | [], _ => rfl
  | x :: r, hn => by
    unfold idxF
    have hx : p x = false := by have := hn 0 om (by simp); rwa [ix_zero] at this
    rw [hx, idxF_none p r (fun j j0 j1 => by
      have := hn (j + 1) om (by simp; omega)
      rwa [ix_cons _ _ _ om, show j + 1 - 1 = j by omega] at this)]
    rfl
theorem Zfh {α : Type} [Inhabited α] (xs ys : List α) (i : Int) (h0 : 0 ≤ i) (h : i < xs.length) : ix (xs ++ ys) i = ix xs i := by
  have h0 : i.toNat < xs.length := by omega
  simp [ix, List.getElem?_append_left h0, List.getD_eq_getElem?_getD]
def Zf5 (l : List Nd) (i : Int) : List Bool := Zca (l.take i.toNat) ++ List.replicate (l.length - i.toNat) false
theorem Zis (l : List Nd) (i : Int) (h0 : 0 ≤ i) (h : i ≤ l.length) : (Zf5 l i).length = l.length + 1 := by
  unfold Zf5; rw [List.length_append, Zbg, List.length_take, List.length_replicate]; omega
theorem partL_zero (l : List Nd) : List.replicate ((l.length : Int) + 1).toNat false = Zf5 l 0 := by
  unfold Zf5
  rw [show ((l.length : Int) + 1).toNat = l.length + 1 by omega]
  simp [Zca, List.replicate_succ]
theorem Zia (l : List Nd) (i : Int) (h0 : 0 ≤ i) (h : i < l.length) : l.take (i + 1).toNat = l.take i.toNat ++ [ix l i] := by
  have hi : i.toNat < l.length := by omega
  rw [show (i + 1).toNat = i.toNat + 1 by omega, List.take_succ_eq_append_getElem hi]
  congr 2
  simp [ix, hi]
theorem partL_set (l : List Nd) (i : Int) (h0 : 0 ≤ i) (h : i < l.length) (hok : (ix l i).lv ≠ 1 → ∀ k, 0 ≤ k → k < 4 → (ix l i).kid k ≠ 0 → 0 ≤ (ix l i).kid k ∧ (ix l i).kid k ≤ i) :
    (Zf5 l i).set (i + 1).toNat ([(ix l i).k0, (ix l i).k1, (ix l i).k2, (ix l i).k3].any (Zes (ix l i) (Zf5 l i))) = Zf5 l (i + 1) := by
  have hlen : (Zca (l.take i.toNat)).length = i.toNat + 1 := by rw [Zbg, List.length_take]; omega
  have hany : [(ix l i).k0, (ix l i).k1, (ix l i).k2, (ix l i).k3].any (Zes (ix l i) (Zf5 l i)) = Zhx (ix l i) (Zca (l.take i.toNat)) := by
    have hk : ∀ k, 0 ≤ k → k < 4 → Zes (ix l i) (Zf5 l i) ((ix l i).kid k) = Zes (ix l i) (Zca (l.take i.toNat)) ((ix l i).kid k) := by
      intro k k0 k1
      unfold Zes
      by_cases hc : (ix l i).kid k = 0
      · simp [hc]
      · by_cases hl : (ix l i).lv = 1
        · simp [hl]
        · have := hok hl k k0 k1 hc
          unfold Zf5
          rw [Zfh _ _ _ this.1 om]
    have e0 := hk 0 om om; have e1 := hk 1 om om; have e2 := hk 2 om om; have e3 := hk 3 om om
    simp only [Nd.kid, Zae] at e0 e1 e2 e3
    simp at e0 e1 e2 e3
    simp [Zhx, kids, e0, e1, e2, e3]
  rw [hany]
  unfold Zf5
  rw [Zia l i h0 h, Zlb, List.set_append_right _ _ om, hlen, show (i + 1).toNat - (i.toNat + 1) = 0 by omega,
    show l.length - i.toNat = (l.length - (i + 1).toNat) + 1 by omega, List.replicate_succ]
  simp
theorem partL_end (l : List Nd) : Zf5 l l.length = Zca l := by
  unfold Zf5
  simp
theorem Zh2 {l : List Nd} (h : Zaf l = true) {i : Int} (h0 : 0 ≤ i) (h1 : i < l.length) : (ix l i).lv ≠ 1 → ∀ k, 0 ≤ k → k < 4 → (ix l i).kid k ≠ 0 → 0 ≤ (ix l i).kid k ∧ (ix l i).kid k ≤ i := by
  intro hl k k0 k1 hc
  have := ((Zck l i).1 ((Zcz l).1 h i h0 h1)).2 k k0 k1
  unfold Zf6 at this
  simp [hc, hl] at this
  omega
theorem ix_four (a b c d j : Int) (h0 : 0 ≤ j) (h1 : j < 4) : ix [a, b, c, d] j = Zae a b c d j := by
  have : j = 0 ∨ j = 1 ∨ j = 2 ∨ j = 3 := by omega
  rcases this with rfl | rfl | rfl | rfl <;> rfl
theorem full_use {l : List Nd} (h : Zaf l = true) {i j : Int} (h0 : 0 ≤ i) (h1 : i < l.length) (j0 : 0 ≤ j) (j1 : j < ([(ix l i).k0, (ix l i).k1, (ix l i).k2, (ix l i).k3] : List Int).length)
    (e1 : ix [(ix l i).k0, (ix l i).k1, (ix l i).k2, (ix l i).k3] j ≠ 0) (e2 : (ix l i).lv ≠ 1) : 0 ≤ ix [(ix l i).k0, (ix l i).k1, (ix l i).k2, (ix l i).k3] j ∧ ix [(ix l i).k0, (ix l i).k1, (ix l i).k2, (ix l i).k3] j < (Zf5 l i).length := by
  have j2 : j < 4 := by simpa using j1
  rw [ix_four _ _ _ _ _ j0 j2] at *
  have := Zh2 h h0 h1 e2 j j0 j2 e1
  rw [Zis l i h0 om]
  unfold Nd.kid at this
  omega
theorem Zy : Kd.node.Flat := Kd.flat_flat _ _ _ _
theorem Zb6 : Kd.node.Ones := by
  rintro _ _ _ x ⟨rfl, _⟩ c hc
  simp [Nd.cells] at hc
  rcases hc with rfl | rfl | rfl | rfl | rfl <;> rfl
def Zag (l : List Nd) : Int := if l.length = 0 then 0 else (ix l ((l.length : Int) - 1)).lv
theorem Zjx {l : List Nd} {i c : Int} (h : Zf6 l i c = true) (hc : c < 0 ∨ ((ix l i).lv = 1 ∧ 255 < c) ∨ ((ix l i).lv ≠ 1 ∧ 0 < c ∧ (i < c ∨ (ix l (c - 1)).lv ≠ (ix l i).lv - 1))) : False := by
  unfold Zf6 at h
  by_cases h0 : c = 0
  · subst h0; omega
  · simp only [show (c == 0) = false by simpa using h0, Bool.false_or] at h
    by_cases h1 : (ix l i).lv = 1
    · rw [if_pos h1] at h; have := of_decide_eq_true h; omega
    · rw [if_neg h1] at h; have := of_decide_eq_true h; omega
theorem kidB_yes {l : List Nd} {i c : Int} (h0 : 0 ≤ c) (h1 : (ix l i).lv = 1 → c ≤ 255) (h2 : (ix l i).lv ≠ 1 → 0 < c → c ≤ i ∧ (ix l (c - 1)).lv = (ix l i).lv - 1) : Zf6 l i c = true := by
  unfold Zf6
  by_cases h : c = 0
  · simp [h]
  · simp only [show (c == 0) = false by simpa using h, Bool.false_or]
    split
    · rename_i e; exact decide_eq_true ⟨by omega, h1 e⟩
    · rename_i e; have := h2 e om; exact decide_eq_true ⟨by omega, this.1, this.2⟩
theorem four_all (p : Int → Bool) : [(0 : Int), 1, 2, 3].all p = true ↔ ∀ k, 0 ≤ k → k < 4 → p k = true := by
  rw [List.all_eq_true]
  constructor
  · intro h k h0 h1; exact h k (by simp; omega)
  · intro h k hk; simp at hk; exact h k om om
def Zev (l : List Nd) (n : Int) : Bool :=
  decide (n ≠ 0) && decide ((ix l (n - 1)).lv ≠ 1) && [(0 : Int), 1, 2, 3].all fun k => decide ((ix l (n - 1)).kid k = 0) ||
    [(0 : Int), 1, 2, 3].all fun j => decide (j = 3 - k) || !(Zes (ix l ((ix l (n - 1)).kid k - 1)) (Zca l) ((ix l ((ix l (n - 1)).kid k - 1)).kid j))
def holK (l : List Nd) (n k : Int) : Prop := (ix l (n - 1)).kid k ≠ 0 → ∀ j, 0 ≤ j → j < 4 → j ≠ 3 - k → Zes (ix l ((ix l (n - 1)).kid k - 1)) (Zca l) ((ix l ((ix l (n - 1)).kid k - 1)).kid j) = false
theorem Zd9 (l : List Nd) (n : Int) : Zev l n = true ↔ n ≠ 0 ∧ (ix l (n - 1)).lv ≠ 1 ∧ ∀ k, 0 ≤ k → k < 4 → holK l n k := by
  unfold Zev holK
  simp only [Bool.and_eq_true, decide_eq_true_eq, four_all, Bool.or_eq_true, Bool.not_eq_true']
  constructor
  · rintro ⟨⟨h1, h2⟩, h3⟩
    refine ⟨h1, h2, fun k k0 k1 hc j j0 j1 hj => ?_⟩
    rcases h3 k k0 k1 with h | h
    · exact absurd h hc
    · rcases h j j0 j1 with h | h
      · exact absurd h hj
      · exact h
  · rintro ⟨h1, h2, h3⟩
    refine ⟨⟨h1, h2⟩, fun k k0 k1 => ?_⟩
    by_cases hc : (ix l (n - 1)).kid k = 0
    · exact .inl hc
    · refine .inr fun j j0 j1 => ?_
      by_cases hj : j = 3 - k
      · exact .inl hj
      · exact .inr (h3 k k0 k1 hc j j0 j1 hj)
theorem Zek {l : List Nd} {n : Int} (h : ¬ (n ≠ 0 ∧ (ix l (n - 1)).lv ≠ 1 ∧ ∀ k, 0 ≤ k → k < 4 → holK l n k)) : Zev l n = false := by
  rw [← Bool.not_eq_true, Zd9]; exact h
theorem Zdm {l : List Nd} (h : Zaf l = true) {i k : Int} (h0 : 0 ≤ i) (h1 : i < l.length) (k0 : 0 ≤ k) (k1 : k < 4) (hl : (ix l i).lv ≠ 1) (hc : (ix l i).kid k ≠ 0) :
    0 < (ix l i).kid k ∧ (ix l i).kid k ≤ i ∧ (ix l ((ix l i).kid k - 1)).lv = (ix l i).lv - 1 := by
  have := ((Zck l i).1 ((Zcz l).1 h i h0 h1)).2 k k0 k1
  unfold Zf6 at this
  simp [hc, hl] at this
  exact this
theorem Ze9 {l : List Nd} (h : Zaf l = true) {i : Int} (h0 : 0 ≤ i) (h1 : i < l.length) : 1 ≤ (ix l i).lv ∧ (ix l i).lv ≤ 1329 := ((Zck l i).1 ((Zcz l).1 h i h0 h1)).1
theorem Zhh {l : List Nd} (h : Zaf l = true) {i k : Int} (h0 : 0 ≤ i) (h1 : i < l.length) (k0 : 0 ≤ k) (k1 : k < 4) (hl : (ix l i).lv = 1) : 0 ≤ (ix l i).kid k ∧ (ix l i).kid k ≤ 255 := by
  have := ((Zck l i).1 ((Zcz l).1 h i h0 h1)).2 k k0 k1
  unfold Zf6 at this
  by_cases hc : (ix l i).kid k = 0
  · omega
  · simp [hc, hl] at this; omega
def Nd.tup (x : Nd) : Int × Int × Int × Int × Int := (x.lv, x.k0, x.k1, x.k2, x.k3)
theorem Nd.tup_inj (a b : Nd) (h : a.tup = b.tup) : a = b := by
  cases a; cases b; simp [Nd.tup] at h; simp [h]
def Nd.val (x : Nd) : Value := .agg x.cells.toArray
theorem Zdf {x : Nd} {out : List Bool} {c : Int} (h : c = 0 ∨ (x.lv ≠ 1 ∧ ix out c = false)) : Zes x out c = false := by
  unfold Zes
  rcases h with h | ⟨h1, h2⟩
  · simp [h]
  · simp [h1, h2]
theorem Zhy {x : Nd} {out : List Bool} {c : Int} (h0 : c ≠ 0) (h : x.lv = 1 ∨ ix out c = true) : Zes x out c = true := by
  unfold Zes
  rcases h with h | h <;> simp [h0, h]
end Go.Gw
namespace Go.Gw
theorem Zhg {α : Type} [Inhabited α] (xs : List α) (i : Int) (h0 : 0 ≤ i) (h : i < xs.length) : xs[i.toNat]? = some (ix xs i) := by
  have h1 : i.toNat < xs.length := by omega
  unfold ix
  simp [List.getElem?_eq_getElem h1]
theorem eq_of_ix {α : Type} [Inhabited α] {l m : List α} (h : l.length = m.length) (h2 : ∀ i : Int, 0 ≤ i → i < l.length → ix l i = ix m i) : l = m := by
  apply List.ext_getElem h
  intro n h3 h4
  have h5 := h2 n om om
  have a := Zhg l n om om
  have b := Zhg m n om om
  simp only [Int.toNat_natCast, List.getElem?_eq_getElem h3, List.getElem?_eq_getElem h4, Option.some.injEq] at a b
  rw [a, b, h5]
def Nd.eqv (l m : List Nd) : Bool := decide (l = m)
theorem same_len {l m : List Nd} (h : l.length ≠ m.length) : Nd.eqv l m = false := by
  unfold Nd.eqv; rw [decide_eq_false_iff_not]; intro e; exact h (by rw [e])
theorem same_at {l m : List Nd} (i : Int) (h : ix l i ≠ ix m i) : Nd.eqv l m = false := by
  unfold Nd.eqv; rw [decide_eq_false_iff_not]; intro e; exact h (by rw [e])
theorem same_all {l m : List Nd} (h : l.length = m.length) (h2 : ∀ i : Int, 0 ≤ i → i < l.length → ix l i = ix m i) : Nd.eqv l m = true := by
  unfold Nd.eqv; rw [decide_eq_true_eq]; exact eq_of_ix h h2
def Zhi (l : List Nd) : List Bool := (Zca l).map (!·)
def emptK (x : Nd) (out : List Bool) (k : Int) : Bool := ((kids x).take k.toNat).all fun c => decide (c = 0) || (decide (1 < x.lv) && ix out c)
theorem Zmm (x : Nd) (out : List Bool) : emptK x out 0 = true := rfl
theorem Zeh (x : Nd) (out : List Bool) (k : Int) (h0 : 0 ≤ k) (h1 : k < 4) :
    emptK x out (k + 1) = (emptK x out k && (decide (x.kid k = 0) || (decide (1 < x.lv) && ix out (x.kid k)))) := by
  have : k = 0 ∨ k = 1 ∨ k = 2 ∨ k = 3 := by omega
  rcases this with rfl | rfl | rfl | rfl <;> simp [emptK, kids, Nd.kid, Zae, List.take, Int.toNat, Bool.and_assoc]
def Zd5 (l : List Nd) (i : Int) : List Bool := (Zca (l.take i.toNat)).map (!·) ++ List.replicate (l.length - i.toNat) false
theorem Zcn (l : List Nd) (i : Int) (h0 : 0 ≤ i) (h : i ≤ l.length) : (Zd5 l i).length = l.length + 1 := by
  simp [Zd5, Zbg]; omega
theorem Zmi (l : List Nd) : (List.replicate ((l.length : Int) + 1).toNat false).set (Int.toNat 0) true = Zd5 l 0 := by
  have : ((l.length : Int) + 1).toNat = l.length + 1 := by omega
  rw [this]
  simp [Zd5, Zca, List.replicate_succ]
theorem Zmn (xs : List Bool) (i : Int) (h0 : 0 ≤ i) (h : i < xs.length) : ix (xs.map (!·)) i = !(ix xs i) := by
  have a := Zhg (xs.map (!·)) i h0 (by simpa using h)
  have b := Zhg xs i h0 h
  rw [List.getElem?_map, b] at a
  simpa using a.symm
theorem partE_set (l : List Nd) (i : Int) (h0 : 0 ≤ i) (h : i < l.length) (hok : (ix l i).lv ≠ 1 → ∀ k, 0 ≤ k → k < 4 → (ix l i).kid k ≠ 0 → 0 ≤ (ix l i).kid k ∧ (ix l i).kid k ≤ i)
    (hlv : 1 ≤ (ix l i).lv) :
    (Zd5 l i).set (i + 1).toNat (emptK (ix l i) (Zd5 l i) 4) = Zd5 l (i + 1) := by
  have hlen : ((Zca (l.take i.toNat)).map (!·)).length = i.toNat + 1 := by simp [Zbg]; omega
  have hrep : List.replicate (l.length - i.toNat) false = false :: List.replicate (l.length - (i + 1).toNat) false := by
    rw [show l.length - i.toNat = (l.length - (i + 1).toNat) + 1 by omega, List.replicate_succ]
  have hh : emptK (ix l i) (Zd5 l i) 4 = !(Zhx (ix l i) (Zca (l.take i.toNat))) := by
    have hk : ∀ k, 0 ≤ k → k < 4 → (decide ((ix l i).kid k = 0) || (decide (1 < (ix l i).lv) && ix (Zd5 l i) ((ix l i).kid k))) = !(Zes (ix l i) (Zca (l.take i.toNat)) ((ix l i).kid k)) := by
      intro k k0 k1
      by_cases hc : (ix l i).kid k = 0
      · simp [hc, Zes]
      · by_cases h1 : (ix l i).lv = 1
        · simp [hc, h1, Zes]
        · have h2 := hok h1 k k0 k1 hc
          have h3 : 1 < (ix l i).lv := by omega
          have h4 : ix (Zd5 l i) ((ix l i).kid k) = !(ix (Zca (l.take i.toNat)) ((ix l i).kid k)) := by
            unfold Zd5
            rw [Zfh _ _ _ h2.1 (by rw [hlen]; omega), Zmn _ _ h2.1 (by simp [Zbg]; omega)]
          simp [hc, h1, h3, h4, Zes]
    have a0 := hk 0 om om
    have a1 := hk 1 om om
    have a2 := hk 2 om om
    have a3 := hk 3 om om
    simp only [Nd.kid, Zae] at a0 a1 a2 a3
    simp at a0 a1 a2 a3
    simp only [emptK, kids, Zhx, show (4 : Int).toNat = 4 from rfl, List.take, List.all_cons, List.all_nil, List.any_cons, List.any_nil, Bool.and_true, Bool.or_false, Bool.not_or]
    simp [a0, a1, a2, a3]
  rw [hh]
  conv => rhs; unfold Zd5; rw [Zia l i h0 h, Zlb, List.map_append]
  unfold Zd5
  rw [List.set_append_right _ _ (by rw [hlen]; omega), hlen, hrep, show (i + 1).toNat - (i.toNat + 1) = 0 by omega]
  simp
theorem partE_end (l : List Nd) : Zd5 l l.length = Zhi l := by simp [Zd5, Zhi]
theorem Zej (l : List Nd) : (Zhi l).length = l.length + 1 := by simp [Zhi, Zbg]
theorem Zfl (l : List Nd) (n : Int) (h0 : 0 ≤ n) (h1 : n ≤ l.length) : ix (Zhi l) n = !(ix (Zca l) n) := by
  unfold Zhi; exact Zmn _ _ h0 (by rw [Zbg]; omega)
theorem hasL_zero (l : List Nd) : ix (Zca l) 0 = false := by
  have h : ∀ (l : List Nd) (acc : List Bool), acc ≠ [] → ix (l.foldl (fun out x => out ++ [Zhx x out]) acc) 0 = ix acc 0 := by
    intro l
    induction l with
    | nil => intro acc _; rfl
    | cons x r ih =>
      intro acc ha
      rw [List.foldl_cons, ih _ (by simp)]
      cases acc with
      | nil => exact absurd rfl ha
      | cons y ys => rfl
  exact h l [false] (by simp)
theorem hasL_nz {l : List Nd} {g : Int} (h : ix (Zca l) g = true) : g ≠ 0 := by
  intro e; rw [e, hasL_zero] at h; cases h
end Go.Gw
namespace Go.Gw
def Zhk (l : List Nd) : Nat → Int → List Int → List Int
  | 0, _, E => E
  | f + 1, n, E => if n ∈ E then E else (if 1 < (ix l (n - 1)).lv then (kids (ix l (n - 1))).foldl (fun E c => if 0 < c then Zhk l f c E else E) E else E) ++ [n]
def endK (l : List Nd) (f : Nat) (x : Nd) (E : List Int) (k : Int) : List Int := ((kids x).take k.toNat).foldl (fun E c => if 0 < c then Zhk l f c E else E) E
theorem endK_step (l : List Nd) (f : Nat) (x : Nd) (E : List Int) (k : Int) (h0 : 0 ≤ k) (h1 : k < 4) :
    endK l f x E (k + 1) = if 0 < x.kid k then Zhk l f (x.kid k) (endK l f x E k) else endK l f x E k := by
  have : k = 0 ∨ k = 1 ∨ k = 2 ∨ k = 3 := by omega
  rcases this with rfl | rfl | rfl | rfl <;> simp [endK, kids, Nd.kid, Zae, List.take, Int.toNat]
theorem endK_yes {l : List Nd} {f : Nat} {x : Nd} {E : List Int} {k : Int} (h0 : 0 ≤ k) (h1 : k < 4) (h : 0 < x.kid k) : endK l f x E (k + 1) = Zhk l f (x.kid k) (endK l f x E k) := by rw [endK_step _ _ _ _ _ h0 h1, if_pos h]
theorem endK_no {l : List Nd} {f : Nat} {x : Nd} {E : List Int} {k : Int} (h0 : 0 ≤ k) (h1 : k < 4) (h : ¬ 0 < x.kid k) : endK l f x E (k + 1) = endK l f x E k := by rw [endK_step _ _ _ _ _ h0 h1, if_neg h]
theorem endF_in {l : List Nd} {f : Nat} {n : Int} {E : List Int} (h : n ∈ E) : Zhk l (f + 1) n E = E := by simp [Zhk, h]
theorem endF_out {l : List Nd} {f : Nat} {n : Int} {E : List Int} (h : ¬ n ∈ E) (hv : 1 < (ix l (n - 1)).lv) : Zhk l (f + 1) n E = endK l f (ix l (n - 1)) E 4 ++ [n] := by simp [Zhk, h, hv, endK, kids]
theorem endF_low {l : List Nd} {f : Nat} {n : Int} {E : List Int} (h : ¬ n ∈ E) (hv : ¬ 1 < (ix l (n - 1)).lv) : Zhk l (f + 1) n E = E ++ [n] := by simp [Zhk, h, hv]
theorem Zlq {α β : Type} (p : β → Prop) (f : β → α → β) : ∀ (xs : List α) (b : β), p b → (∀ b x, x ∈ xs → p b → p (f b x)) → p (xs.foldl f b)
  | [], _, h, _ => h
  | x :: r, b, h, hs => Zlq p f r _ (hs b x (by simp) h) (fun b y hy => hs b y (by simp [hy]))
theorem kid_mem {x : Nd} {c : Int} (h : c ∈ kids x) : ∃ k, 0 ≤ k ∧ k < 4 ∧ x.kid k = c := by
  simp only [kids, List.mem_cons, List.not_mem_nil, or_false] at h
  rcases h with h | h | h | h
  · exact ⟨0, by omega, by omega, h.symm⟩
  · exact ⟨1, by omega, by omega, h.symm⟩
  · exact ⟨2, by omega, by omega, h.symm⟩
  · exact ⟨3, by omega, by omega, h.symm⟩
theorem endF_le {l : List Nd} (hl : Zaf l = true) : ∀ (f : Nat) (n : Int) (E : List Int) (x : Int), 1 ≤ n → n ≤ l.length → x ∈ Zhk l f n E → x ∈ E ∨ x ≤ n
  | 0, _, _, _, _, _, h => .inl h
  | f + 1, n, E, x, h0, h1, h => by
    unfold Zhk at h
    split at h
    · exact .inl h
    · rcases List.mem_append.1 h with h | h
      · split at h
        · rename_i hv
          revert h
          refine Zlq (fun E' => x ∈ E' → x ∈ E ∨ x ≤ n) _ _ _ (fun h => .inl h) (fun b y hy hb => ?_)
          split
          · rename_i hy0
            obtain ⟨k, k0, k1, rfl⟩ := kid_mem hy
            have hk := Zdm hl (i := n - 1) (k := k) om om k0 k1 om om
            intro h
            rcases endF_le hl f _ b x om om h with h | h
            · exact hb h
            · exact .inr om
          · exact hb
        · exact .inl h
      · simp at h; exact .inr om
structure Walked (M0 M : List Bool) (E0 E : List Int) (n : Int) : Prop where
  low : ∀ m : Int, 1 ≤ m → m < n → ix M m = decide (m ∈ E)
  at_ : ix M n = true
  high : ∀ m : Int, n < m → ix M m = ix M0 m
  len : M.length = M0.length
  cnt : E.length + M0.count true + 1 ≤ M.count true + E0.length
theorem ix_set {α : Type} [Inhabited α] (xs : List α) (i j : Int) (y : α) (h0 : 0 ≤ i) (hi : i < xs.length) (hj : 0 ≤ j) : ix (xs.set i.toNat y) j = if j = i then y else ix xs j := by
  unfold ix
  simp only [List.getD_eq_getElem?_getD, List.getElem?_set]
  by_cases h : j = i
  · rw [if_pos h, h]; rw [if_pos rfl, if_pos om]; rfl
  · rw [if_neg h, if_neg om]
theorem lit_num {w w0 : World} {t g : Nat} {F : Nat → Prop} {v : Value} {xs : List Int} {K : Kd Int} {e base : Nat} {x : Int} (h : Blk w g t [Value.int .i64 x].toArray) (ho : Own K e base w0 F v xs) (hF : ¬ F g) (hg : w0.heap.size = g) :
    Sl (Kd.num .i64) w (Out F v) (.slice (some ⟨g, 0, none⟩) 1 1) [x] :=
  Zfw rfl h.range rfl rfl (fun h => h.elim hF (fun h => by have := (ho.lt g h).2; omega)) h.lt dc (num_reps (k := .i64) (xs := [x]))
def endL (l : List Nd) : List Int := Zhk l l.length l.length []
def ordB (l : List Nd) : Bool := decide (endL l = (List.range l.length).map fun (i : Nat) => ((i : Int) + 1))
theorem num_ix (n : Nat) (i : Int) (h0 : 0 ≤ i) (h1 : i < n) : ix ((List.range n).map fun (i : Nat) => ((i : Int) + 1)) i = i + 1 := by
  have a := Zhg ((List.range n).map fun (i : Nat) => ((i : Int) + 1)) i h0 (by simpa using h1)
  rw [List.getElem?_map, List.getElem?_range om] at a
  simp at a
  rw [← a]; omega
theorem ord_no {l : List Nd} (i : Int) (h0 : 0 ≤ i) (h1 : i < (endL l).length) (h : ix (endL l) i ≠ i + 1) : ordB l = false := by
  unfold ordB
  rw [decide_eq_false_iff_not]
  intro e
  rw [e] at h h1
  rw [num_ix _ _ h0 (by simpa using h1)] at h
  exact h rfl
theorem ord_yes {l : List Nd} (h : ∀ i : Int, 0 ≤ i → i < (endL l).length → ix (endL l) i = i + 1) : ordB l = decide ((endL l).length = l.length) := by
  unfold ordB
  congr 1
  apply propext
  constructor
  · intro e; rw [e]; simp
  · intro e
    refine eq_of_ix (by simpa using e) fun i h0 h1 => ?_
    rw [h i h0 h1, num_ix _ _ h0 om]
def fullB (l : List Nd) : Bool := !decide (false ∈ (Zca l).drop 1)
def Zfr (l : List Nd) : Bool := decide (l.length = 0) || (Zaf l && !Zev l l.length && fullB l && decide l.Nodup && ordB l)
theorem pigeon : ∀ (L : Nat) (E : List Int), E.Nodup → (∀ x ∈ E, 1 ≤ x ∧ x ≤ (L : Int)) → E.length ≤ L
  | 0, E, _, h => by
    cases E with
    | nil => simp
    | cons x r => have := h x (by simp); omega
  | L + 1, E, hn, h => by
    have h1 := pigeon L (E.erase ((L : Int) + 1)) (hn.erase _) (fun x hx => by
      rw [hn.mem_erase_iff] at hx
      have := h x hx.2
      have := hx.1
      omega)
    rw [List.length_erase] at h1
    split at h1 <;> omega
structure OkE (L : Nat) (E : List Int) : Prop where
  nd : E.Nodup
  rng : ∀ x ∈ E, 1 ≤ x ∧ x ≤ (L : Int)
theorem OkE.len {L : Nat} {E : List Int} (h : OkE L E) : E.length ≤ L := pigeon L E h.nd h.rng
theorem okE_nil (L : Nat) : OkE L [] := ⟨by simp, by simp⟩
theorem OkE.snoc {L : Nat} {E : List Int} {n : Int} (h : OkE L E) (h0 : 1 ≤ n) (h1 : n ≤ L) (hn : ¬ n ∈ E) : OkE L (E ++ [n]) := by
  refine ⟨?_, fun x hx => ?_⟩
  · rw [List.nodup_append]; refine ⟨h.nd, by simp, fun a ha b hb => ?_⟩
    simp at hb; subst hb; intro e; subst e; exact hn ha
  · rcases List.mem_append.1 hx with hx | hx
    · exact h.rng x hx
    · simp at hx; omega
def endV (l : List Nd) (f : Nat) (x : Nd) (E : List Int) (k : Int) : List Int := if 1 < x.lv then endK l f x E k else E
theorem endV_zero (l : List Nd) (f : Nat) (x : Nd) (E : List Int) : endV l f x E 0 = E := by unfold endV; split <;> rfl
theorem endV_yes {l : List Nd} {f : Nat} {x : Nd} {E : List Int} {k : Int} (h0 : 0 ≤ k) (h1 : k < 4) (hv : 1 < x.lv) (h : 0 < x.kid k) : endV l f x E (k + 1) = Zhk l f (x.kid k) (endV l f x E k) := by
  unfold endV; rw [if_pos hv, if_pos hv, endK_yes h0 h1 h]
theorem endV_no {l : List Nd} {f : Nat} {x : Nd} {E : List Int} {k : Int} (h0 : 0 ≤ k) (h1 : k < 4) (h : 1 < x.lv → ¬ 0 < x.kid k) : endV l f x E (k + 1) = endV l f x E k := by
  unfold endV; split
  · rename_i hv; rw [endK_no h0 h1 (h hv)]
  · rfl
theorem endF_eq {l : List Nd} {f : Nat} {n : Int} {E : List Int} (h : ¬ n ∈ E) : Zhk l (f + 1) n E = endV l f (ix l (n - 1)) E 4 ++ [n] := by
  unfold endV; split
  · rename_i hv; exact endF_out h hv
  · rename_i hv; exact endF_low h hv
theorem ix_mem {α : Type} [Inhabited α] {xs : List α} {i : Int} (h0 : 0 ≤ i) (h1 : i < xs.length) : ix xs i ∈ xs := List.mem_of_getElem? (Zhg xs i h0 h1)
theorem mem_ix {α : Type} [Inhabited α] {xs : List α} {x : α} (h : x ∈ xs) : ∃ i : Int, 0 ≤ i ∧ i < xs.length ∧ ix xs i = x := by
  obtain ⟨n, hn, e⟩ := List.mem_iff_getElem.1 h
  refine ⟨n, by omega, by omega, ?_⟩
  have a := Zhg xs n om om
  simp only [Int.toNat_natCast, List.getElem?_eq_getElem hn, Option.some.injEq] at a
  rw [← a, e]
theorem not_mem_ix {α : Type} [Inhabited α] {xs : List α} {x : α} {i : Int} (hi : i = (xs.length : Int)) (h : ∀ j : Int, 0 ≤ j → j < i → ix xs j ≠ x) : ¬ x ∈ xs := by
  intro hm
  obtain ⟨j, j0, j1, e⟩ := mem_ix hm
  exact h j j0 om e
theorem endF_new {l : List Nd} (hl : Zaf l = true) {f : Nat} {c n : Int} {E : List Int} (h0 : 1 ≤ c) (h1 : c < n) (h2 : n ≤ l.length) (h : ¬ n ∈ E) : ¬ n ∈ Zhk l f c E := by
  intro hm
  rcases endF_le hl f c E n h0 om hm with h3 | h3
  · exact h h3
  · omega
theorem foldl_ind2 {α β : Type} (p : β → Prop) (f : β → α → β) (xs : List α) (b : β) (h : p b) (hs : ∀ b x, x ∈ xs → p b → p (f b x)) : p (xs.foldl f b) := Zlq p f xs b h hs
theorem endF_ok {l : List Nd} (hl : Zaf l = true) : ∀ (f : Nat) (n : Int) (E : List Int), 1 ≤ n → n ≤ l.length → OkE l.length E → OkE l.length (Zhk l f n E)
  | 0, _, _, _, _, h => h
  | f + 1, n, E, h0, h1, h => by
    by_cases hn : n ∈ E
    · rw [endF_in hn]; exact h
    · rw [endF_eq hn]
      have h2 : OkE l.length (endV l f (ix l (n - 1)) E 4) ∧ ¬ n ∈ endV l f (ix l (n - 1)) E 4 := by
        unfold endV
        split
        · rename_i hv
          unfold endK
          refine foldl_ind2 (fun E' => OkE l.length E' ∧ ¬ n ∈ E') _ _ _ ⟨h, hn⟩ (fun b y hy hb => ?_)
          split
          · rename_i hy0
            obtain ⟨k, k0, k1, rfl⟩ := kid_mem (List.mem_of_mem_take hy)
            have hk := Zdm hl (i := n - 1) (k := k) om om k0 k1 om om
            exact ⟨endF_ok hl f _ b om om hb.1, endF_new hl om om h1 hb.2⟩
          · exact hb
        · exact ⟨h, hn⟩
      exact h2.1.snoc h0 h1 h2.2
theorem Zkl (l : List Nd) : fullB l = true ↔ ∀ i : Int, 0 ≤ i → i < l.length → ix (Zca l) (i + 1) = true := by
  have hd : ∀ i : Int, 0 ≤ i → i < l.length → ix ((Zca l).drop 1) i = ix (Zca l) (i + 1) := by
    intro i h0 h1
    have a := Zhg ((Zca l).drop 1) i h0 (by simp [Zbg]; omega)
    have b := Zhg (Zca l) (i + 1) om (by rw [Zbg]; omega)
    rw [List.getElem?_drop, show 1 + i.toNat = (i + 1).toNat by omega, b] at a
    simpa using a.symm
  have hl : ((Zca l).drop 1).length = l.length := by simp [Zbg]
  unfold fullB
  simp only [Bool.not_eq_true', decide_eq_false_iff_not]
  constructor
  · intro h i h0 h1
    rw [← hd i h0 h1]
    cases hx : ix ((Zca l).drop 1) i with
    | true => rfl
    | false => exact absurd (hx ▸ ix_mem h0 (by rw [hl]; exact h1)) h
  · intro h hm
    obtain ⟨i, h0, h1, e⟩ := mem_ix hm
    rw [hl] at h1
    rw [hd i h0 h1, h i h0 h1] at e
    cases e
theorem full_no {l : List Nd} {i : Int} (h0 : 0 ≤ i) (h1 : i < l.length) (h : ix (Zca l) (i + 1) = false) : fullB l = false := by
  rw [← Bool.not_eq_true, Zkl]; intro h2; rw [h2 i h0 h1] at h; cases h
theorem nodup_ix {α : Type} [Inhabited α] {l : List α} (h : ∀ i j : Int, 0 ≤ j → j < i → i < l.length → ix l i ≠ ix l j) : l.Nodup := by
  rw [List.nodup_iff_pairwise_ne, List.pairwise_iff_getElem]
  intro i j hi hj hij e
  have a := Zhg l i om om
  have b := Zhg l j om om
  simp only [Int.toNat_natCast, List.getElem?_eq_getElem hi, List.getElem?_eq_getElem hj, Option.some.injEq] at a b
  exact h j i om om om (by rw [← a, ← b, e])
theorem dup_ix {l : List Nd} {i j : Int} (h0 : 0 ≤ j) (h1 : j < i) (h2 : i < l.length) (h : ix l i = ix l j) : decide l.Nodup = false := by
  rw [decide_eq_false_iff_not, List.nodup_iff_pairwise_ne, List.pairwise_iff_getElem]
  intro hp
  have hi : i.toNat < l.length := by omega
  have hj : j.toNat < l.length := by omega
  have a := Zhg l i om om
  have b := Zhg l j om om
  simp only [List.getElem?_eq_getElem hi, List.getElem?_eq_getElem hj, Option.some.injEq] at a b
  exact hp j.toNat i.toNat hj hi om (by rw [a, b, h])
theorem Zbl {w : World} {F : Nat → Prop} {g t m : Nat} (xs : List Nd) (h : Blk w g t (xs.map Nd.cells).flatten.toArray) (hF : ¬ F g) (hm : m = xs.length) (h63 : m ≤ 9223372036854775807) : Sl Kd.node w F (.slice (some ⟨g, 0, none⟩) m m) xs := by
  refine sl_lit h (by simp) (fun u hu => ?_) hF hm h63 (fun i u x hu hx => ?_)
  · obtain ⟨x, _, rfl⟩ := List.mem_map.1 hu; rfl
  · rw [List.getElem?_map, hx] at hu
    simp at hu; subst hu
    exact ⟨rfl, trivial⟩
end Go.Gw
namespace Go.Gw
end Go.Gw
namespace Go.Gw
open Go.RowKit Go.ChangeShapes Go.WideShapes Go.ChangeAt Go.Deep
section
variable {H : Type} {enc : TypeId × Value → H} {P : Program}
theorem Zjz (hl : laidOutB P = true) {W W' : World} (hb : Below W.heap.size W W') : ∀ {ts : List TypeId} {vs : List Value} {ds : List (DataW H)} {ps : List MemPlace}, (∀ t ∈ ts, P.readableRec t = true ∧ t < P.types.size) →
    DataW.TrodAll enc P W 0 (fun _ => true) true ts vs ds ps → (∀ x ∈ ps, x.block < W.heap.size) → DataW.TrodAll enc P W' 0 (fun b => decide (b < W.heap.size)) true ts vs ds ps
  | [], _, _, _, _, h, _ => by
    obtain ⟨rfl, rfl, rfl⟩ := trodAll_nil h
    rfl
  | t :: ts, _, _, _, hr, h, hlt => by
    obtain ⟨v, vs', d, ds', p, q, rfl, rfl, rfl, h0, h1⟩ := trodAll_cons h
    have ht := hr t (by simp)
    exact ⟨p, q, Below.trod hl ht.1 ht.2 h0 hb (fun x hx => hlt x (List.mem_append.2 (.inl hx))),
      Zjz hl hb (fun t ht => hr t (by simp [ht])) h1 (fun x hx => hlt x (List.mem_append.2 (.inr hx))), rfl⟩
theorem law_lift {a : Assume} {C : Checked} {os : Os} {f : FuncId} {fn : Func} {s : ChangeSpec} {conds : List PathCond} {apart fresh handsOn : Bool} {tb : TypeId}
    (own : ownKnob C.prog.godebug = none) (started : os.Started) (noInit : C.prog.inits.idxOf? f = none) (hfn : C.prog.funcs[f]? = some fn)
    (witness : ∃ (w : World) (tape : Tape) (i : Input), w.os = os ∧ (w.forCall tape i).Shaped C.prog ∧ i.vars = [] ∧ Input.okWide C.prog (w.forCall tape i) .any w.heap.size f i ∧
      s.pre6 enc C.prog fn conds apart (w.forCall tape i).memory i.args ∧ a.holds C.prog (lone (Frame.enter C.prog f i.args .normal) [] (w.forCall tape i)))
    (hvars : s.vars = []) (hsp : ∀ ds : List (DataW H), ds.length = fn.params.toList.length → s.fn H ds = { results := [.lit (.bool true)], args := ds })
    (hread : ∀ t ∈ fn.params.toList, C.prog.readableRec t = true ∧ t < C.prog.types.size) (hres : fn.resultTypes = #[tb]) (htb : C.prog.underlying tb = some .bool) (hlaid : laidOutB C.prog = true)
    (hcall : ∀ (W : World) (base : Nat) (args : Array Value) (ds : List (DataW H)) (p : List MemPlace), (∀ (j : Nat) t v, fn.params[j]? = some t → args[j]? = some v → Value.okWide C.prog W .any base t v) →
      DataW.TrodAll enc C.prog W 0 (fun _ => true) true fn.params.toList args.toList ds p → Calls C.prog f args W (Zbh W fun v _ => v = .bool true)) :
    ReturnsInHanded a C os f .any (s.pre6 enc C.prog fn conds apart) (s.post enc C.prog fn apart fresh handsOn false) := by
  refine returnsInHanded_of_change own started noInit hfn witness ?_
  intro W base args ds gs before hval hW _ _
  have hlt := hW.lt
  have hW' := hW
  obtain ⟨p, q, hA, hV, hpq, hfz, hnd⟩ := hW
  rw [hvars] at hV
  obtain ⟨rfl, rfl⟩ := trodVars_none hV
  refine (hcall W base args ds p hval hA).mono fun e W' ⟨v, he, hb, hv⟩ => ?_
  refine ⟨v, he, ?_⟩
  subst hv
  have hlen : ∀ {ts : List TypeId} {vs : List Value} {ds : List (DataW H)} {ps : List MemPlace}, DataW.TrodAll enc C.prog W 0 (fun _ => true) true ts vs ds ps → ds.length = ts.length := by
    intro ts
    induction ts with
    | nil => intro vs ds ps h; obtain ⟨rfl, rfl, rfl⟩ := trodAll_nil h; rfl
    | cons t ts ih =>
      intro vs ds ps h
      obtain ⟨v, vs', d, ds', p, q, rfl, rfl, rfl, h0, h1⟩ := trodAll_cons h
      simp [ih h1]
  have hs : s.fn H (ds ++ []) = { results := [.lit (.bool true)], args := ds } := by rw [List.append_nil]; exact hsp ds (hlen hA)
  have hps : before = p := by rw [hpq]; simp
  refine ⟨ds, [], before, [], p, [], hW', ?_, ?_, ?_, World.keptBut_mono (fun x hx => ⟨hx, .inr (.inl (hps ▸ hx))⟩) (hb.frame (· ∈ before)), fun h => by cases h⟩
  · rw [hs, hres]
    exact trodAll_mk1 ⟨1, by simp [DataW.trod, htb, Value.cells]⟩
  · rw [hs]
    exact Zjz hlaid hb hread hA (fun x hx => hlt x (hps ▸ hx))
  · rw [hs, hvars]
    rfl
variable {w : World} {α : Type} {K : Kd α}
theorem spot_none {w : World} {a : Addr} {v : Value} (h : w.cell? a = some v) : a = ⟨a.block, a.off, none⟩ ∧ a.block < w.heap.size := by
  have hb := World.block_lt_of_cell? w a h
  unfold World.cell? at h
  split at h
  · split at h
    · cases h
    · rename_i hs
      obtain ⟨b, o, s⟩ := a
      cases s with
      | none => exact ⟨rfl, hb⟩
      | some x => simp at hs
  · cases h
theorem sl_of_trod {r : Reach} {b0 : Nat} {t e : TypeId} {v : Value} {d : DataW H} {p : List MemPlace} (ht : P.underlying t = some (.slice e)) (hC : P.cellsOf e = K.sz) (hpos : 0 < K.sz)
    (hel : ∀ (n : Nat) (cs : List Value) (x : DataW H × List MemPlace), DataW.trod enc P w 0 (fun _ => true) true n e cs = some x → ∃ a : α, K.rep w (fun _ => False) cs a)
    (hv : Value.okWide P w r b0 t v) (h : DataW.Trod enc P w 0 (fun _ => true) true t v d p) : ∃ xs : List α, Sl K w (fun _ => False) v xs := by
  obtain ⟨A, len, cap, rfl⟩ := okWide_slice ht hv
  obtain ⟨fuel, hf⟩ := h
  rcases open_slice ht hf with ⟨hcs, _⟩ | ⟨a, len', cap', m, n, D, Pl, hcs, hb, hl, hm, hmm, hx, hi⟩
  · simp [Value.cells] at hcs
    obtain ⟨rfl, rfl, rfl⟩ := hcs
    exact ⟨[], none, 0, rfl, Nat.le_refl _, by simp [maxLen], fun i x hx => by simp at hx⟩
  · simp [Value.cells] at hcs
    obtain ⟨rfl, rfl, rfl⟩ := hcs
    have hlm : len ≤ m := by simp at hmm; omega
    have hex : ∀ i : Fin len, ∃ (x : α) (cs : List Value), K.rep w (fun _ => False) cs x ∧ w.cells? 0 (a.add (i * P.cellsOf e)) (P.cellsOf e) = some cs := by
      intro i
      obtain ⟨cs', hc, ht'⟩ := hi i om
      obtain ⟨x, hx⟩ := hel _ _ _ ht'
      exact ⟨x, cs', hx, hc⟩
    let f : Fin len → α := fun i => Classical.choose (hex i)
    refine ⟨List.ofFn f, some a, cap, by simp, by simpa using hl, hm, fun i x hx => ?_⟩
    have hil : i < len := by have := (List.getElem?_eq_some_iff.1 hx).1; simpa using this
    rw [List.getElem?_eq_getElem (by simpa using hil), List.getElem_ofFn] at hx
    obtain rfl := Option.some.inj hx
    obtain ⟨cs, hrep, hc⟩ := Classical.choose_spec (hex ⟨i, hil⟩)
    obtain ⟨_, hcl, hat⟩ := World.cells?_some hc
    obtain ⟨cs1, hc1, _⟩ := hi 0 om
    obtain ⟨_, hcl1, hat1⟩ := World.cells?_some hc1
    have h0 := hat1 0 om
    rw [List.getElem?_eq_getElem om] at h0
    have hsp : a = ⟨a.block, a.off, none⟩ ∧ a.block < w.heap.size := spot_none (v := cs1[0]'om) (by simpa [Addr.add] using h0)
    obtain ⟨b, o, s⟩ := a
    obtain ⟨hs, hlt⟩ := hsp
    simp only [Addr.mk.injEq, true_and] at hs
    subst hs
    refine ⟨b, o, cs, rfl, hlt, fun h => h, hrep, fun j v hj => ?_⟩
    have hjl : j < cs.length := (List.getElem?_eq_some_iff.1 hj).1
    have h2 := hat j om
    rw [hj] at h2
    rw [← hC]
    simp only [Addr.add_mid] at h2
    exact h2
end
end Go.Gw
namespace Go.Gw
open Go.ChangeShapes Go.WideShapes
section
variable {H : Type} {enc : TypeId × Value → H} {P : Program} {w : World}
end
end Go.Gw
namespace Go.Gw
open Go.RowKit
section
variable {P : Program} {n : Nat} {D : List Deferred} {ρ : Env} {w : World}
variable {d ty : Nat} {pos : String} {after : Array Edge} {gd : Option (Nat × Bool)} {C : Value → World → Prop} {x y z : Operand}
theorem s_convw {src dst : Nat} {kd k : IntKind} {a : Int} (hs : P.underlying src = some (.int kd)) (hd : P.underlying dst = some (.int k)) (hx : opv ρ x = some (.int kd a)) (h : C (.int k (k.wrap a)) w) :
    OpW P ⟨some d, .convert src dst x, ty, pos, after, gd⟩ n D ρ w C := by
  refine Za3 (fun ev he => ?_) h
  simp [execOp, Go.convert, he x _ hx, run_underlying hs, run_underlying hd, Conv.intToInt]
theorem Zgt {src dst : Nat} {kd : IntKind} {a : Int} (hs : P.underlying src = some (.int kd)) (hd : P.underlying dst = some (.int .i64)) (hx : opv ρ x = some (.int kd a)) (hb : -9223372036854775808 ≤ a ∧ a ≤ 9223372036854775807) (h : C (.int .i64 a) w) :
    OpW P ⟨some d, .convert src dst x, ty, pos, after, gd⟩ n D ρ w C := by
  refine s_convw hs hd hx ?_
  rw [Zgm hb]; exact h
end
end Go.Gw
namespace Go.Gw
open Go.RowKit
def Zcv (R0 R1 : World → World → Prop) (big : List Bool) (i : Nat) : World → World → Prop := if big.getD i false = true then R1 else R0
def Zhj (R0 R1 : World → World → Prop) : Zcf → List Bool → Prop
  | [], _ => True
  | (_, φ) :: r, true :: s => (∀ v w w', φ v w → R0 w w' → φ v w') ∧ (∀ v w w', φ v w → R1 w w' → φ v w') ∧ Zhj R0 R1 r s
  | (_, φ) :: r, false :: s => (∀ v w w', φ v w → R0 w w' → φ v w') ∧ Zhj R0 R1 r s
  | _ :: _, [] => False
def Zjm (P : Program) (ops : Array Oper) (n : Nat) (D : List Deferred) (ρ0 : Env) (w0 : World) (R R0 R1 : World → World → Prop) (sp : Zcf) : List Oper → List (List Nat) → List Bool → Zcf → Prop
  | o :: os, d :: ds, true :: bs, (_, φ) :: r => (∀ w, R w0 w → Zd3 sp d ρ0 w (fun ρ => Op1 P ops o n D ρ w (fun v w' => φ v w' ∧ R1 w w'))) ∧ Zjm P ops n D ρ0 w0 R R0 R1 sp os ds bs r
  | o :: os, d :: ds, false :: bs, (_, φ) :: r => (∀ w, R w0 w → Zd3 sp d ρ0 w (fun ρ => Op1 P ops o n D ρ w (fun v w' => φ v w' ∧ R0 w w'))) ∧ Zjm P ops n D ρ0 w0 R R0 R1 sp os ds bs r
  | _, _, _, [] => True
  | _, _, _, _ => False
def Zhd (l : List Oper) (anc : List (List Nat)) : Bool :=
  (List.range anc.length).all fun a => match l[a]? with
    | some o => (anc.getD a []).all fun b => Zb4 o b || (List.range a).any fun x => Zb4 o x && (anc.getD x []).contains b
    | none => false
def conOk (m : Nat) (ds anc con : List (List Nat)) (big st1 : List Bool) : Bool :=
  (List.range m).all fun i => ((ds.getD i []).all fun j => (con.getD j []).all fun c => c == i || (anc.getD c []).contains i) &&
    (!big.getD i false || (List.range m).all fun j => j == i || (anc.getD j []).contains i || st1.getD j false || (con.getD j []).any fun c => c == i || (anc.getD i []).contains c)
def finS : Zcf → List (List Nat) → Zcf
  | [], _ => []
  | (d, φ) :: r, [] :: cs => (d, φ) :: finS r cs
  | (d, _) :: r, _ :: cs => (d, fun _ _ => True) :: finS r cs
  | (d, φ) :: r, [] => (d, φ) :: finS r []
section
variable {P : Program} {l : List Oper} {Q : Exit → Act → World → Prop} {n m : Nat} {D : List Deferred} {ρ0 : Env} {w0 : World} {R R0 R1 : World → World → Prop} {sp : Zcf} {ds anc con : List (List Nat)} {big st1 : List Bool}
theorem Zjm.at_ {ops : Array Oper} : ∀ {l' : List Oper} {ds' : List (List Nat)} {bs' : List Bool} {sp' : Zcf}, Zjm P ops n D ρ0 w0 R R0 R1 sp l' ds' bs' sp' → ∀ {i : Nat} {dst : Option Nat} {φ : Value → World → Prop} {o : Oper}, sp'[i]? = some (dst, φ) → l'[i]? = some o →
    ∀ w, R w0 w → Zd3 sp (ds'.getD i []) ρ0 w (fun ρ => Op1 P ops o n D ρ w (fun v w' => φ v w' ∧ Zcv R0 R1 bs' i w w')) := by
  intro l' ds' bs' sp' h
  induction sp' generalizing l' ds' bs' with
  | nil => intro i dst φ o hs; simp at hs
  | cons p r ih =>
    intro i dst φ o hs hl
    obtain ⟨pd, pφ⟩ := p
    match l', ds', bs', h with
    | o' :: os, d :: dd, true :: bb, h =>
      obtain ⟨h1, h2⟩ := h
      cases i with
      | zero => simp at hs hl; obtain ⟨rfl, rfl⟩ := hs; subst hl; simpa [Zcv] using h1
      | succ i => simp at hs hl; simpa [Zcv] using ih h2 hs hl
    | o' :: os, d :: dd, false :: bb, h =>
      obtain ⟨h1, h2⟩ := h
      cases i with
      | zero => simp at hs hl; obtain ⟨rfl, rfl⟩ := hs; subst hl; simpa [Zcv] using h1
      | succ i => simp at hs hl; simpa [Zcv] using ih h2 hs hl
theorem Zhj.at_ : ∀ {sp : Zcf} {st1 : List Bool}, Zhj R0 R1 sp st1 → ∀ {i : Nat} {dst : Option Nat} {φ : Value → World → Prop}, sp[i]? = some (dst, φ) → (∀ v w w', φ v w → R0 w w' → φ v w') ∧ (st1.getD i false = true → ∀ v w w', φ v w → R1 w w' → φ v w') := by
  intro sp
  induction sp with
  | nil => intro st1 h i dst φ hs; simp at hs
  | cons p r ih =>
    intro st1 h i dst φ hs
    obtain ⟨pd, pφ⟩ := p
    match st1, h with
    | true :: s, h =>
      cases i with
      | zero => simp at hs; obtain ⟨rfl, rfl⟩ := hs; exact ⟨h.1, fun _ => h.2.1⟩
      | succ i => simp at hs; simpa using ih h.2.2 hs
    | false :: s, h =>
      cases i with
      | zero => simp at hs; obtain ⟨rfl, rfl⟩ := hs; exact ⟨h.1, fun e => by simp at e⟩
      | succ i => simp at hs; simpa using ih h.2 hs
theorem finS_at : ∀ {sp : Zcf} {con : List (List Nat)} {i : Nat} {dst : Option Nat} {φ : Value → World → Prop}, (finS sp con)[i]? = some (dst, φ) → ∃ φ0, sp[i]? = some (dst, φ0) ∧ (φ = φ0 ∧ con.getD i [] = [] ∨ φ = fun _ _ => True) := by
  intro sp
  induction sp with
  | nil => intro con i dst φ h; simp [finS] at h
  | cons p r ih =>
    intro con i dst φ h
    obtain ⟨pd, pφ⟩ := p
    match con with
    | [] =>
      unfold finS at h
      cases i with
      | zero => simp at h; obtain ⟨rfl, rfl⟩ := h; exact ⟨_, rfl, .inl ⟨rfl, by simp⟩⟩
      | succ i => simp at h; obtain ⟨φ0, h1, h2⟩ := ih h; exact ⟨φ0, by simpa using h1, by simpa using h2⟩
    | [] :: cs =>
      unfold finS at h
      cases i with
      | zero => simp at h; obtain ⟨rfl, rfl⟩ := h; exact ⟨_, rfl, .inl ⟨rfl, by simp⟩⟩
      | succ i => simp at h; obtain ⟨φ0, h1, h2⟩ := ih h; exact ⟨φ0, by simpa using h1, by simpa using h2⟩
    | (c :: cc) :: cs =>
      unfold finS at h
      cases i with
      | zero => simp at h; obtain ⟨rfl, rfl⟩ := h; exact ⟨_, rfl, .inr rfl⟩
      | succ i => simp at h; obtain ⟨φ0, h1, h2⟩ := ih h; exact ⟨φ0, by simpa using h1, by simpa using h2⟩
structure MidC (l : List Oper) (con : List (List Nat)) (n : Nat) (D : List Deferred) (ρ0 : Env) (w0 : World) (R : World → World → Prop) (sp : Zcf) (m N : Nat) (listed : Array Bool) (vals : Nat → Value) (a : Act) (w : World) : Prop where
  fr : Fr n D ρ0 a
  wr : R w0 w
  size : listed.size = N
  tail : ∀ i, m ≤ i → listed.getD i false = false
  cl : ∀ i o, l[i]? = some o → listed.getD i false = true → ∀ j, Zb4 o j = true → listed.getD j false = true
  got : ∀ i dst φ, sp[i]? = some (dst, φ) → listed.getD i false = true → ((∀ c ∈ con.getD i [], listed.getD c false = false) → φ (vals i) w) ∧ ∀ d, dst = some d → a.tmps[d]? = some (vals i)
theorem MidC.closed {listed : Array Bool} {vals : Nat → Value} {a : Act} {w : World} {N : Nat} (hM : MidC l con n D ρ0 w0 R sp m N listed vals a w) (hA : Zhd l anc = true) : ∀ (x b : Nat), listed.getD x false = true → (anc.getD x []).contains b = true → listed.getD b false = true := by
  intro x
  induction x using Nat.strongRecOn with
  | _ x ih =>
    intro b hx hb
    unfold Zhd at hA
    rw [List.all_eq_true] at hA
    by_cases hxl : x < anc.length
    · have h1 := hA x (by simpa using hxl)
      cases ho : l[x]? with
      | none => rw [ho] at h1; cases h1
      | some o =>
        rw [ho] at h1
        dsimp only at h1
        rw [List.all_eq_true] at h1
        have h2 := h1 b (by simpa using hb)
        rw [Bool.or_eq_true] at h2
        rcases h2 with h2 | h2
        · exact hM.cl x o ho hx b h2
        · rw [List.any_eq_true] at h2
          obtain ⟨y, hy, h3⟩ := h2
          rw [Bool.and_eq_true] at h3
          exact ih y (by simpa using hy) b (hM.cl x o ho hx y h3.1) h3.2
    · rw [List.getD_eq_getElem?_getD, List.getElem?_eq_none om] at hb
      simp at hb
theorem MidC.near {listed : Array Bool} {vals : Nat → Value} {a : Act} {w : World} {N : Nat} (hM : MidC l con n D ρ0 w0 R sp m N listed vals a w) (hA : Zhd l anc = true) {i c : Nat} {o : Oper} (ho : l[i]? = some o)
    (hal : ∀ j, Zb4 o j = true → listed.getD j false = true) (hc : (anc.getD i []).contains c = true) : listed.getD c false = true := by
  have hA' := hA
  unfold Zhd at hA
  rw [List.all_eq_true] at hA
  by_cases hxl : i < anc.length
  · have h1 := hA i (by simpa using hxl)
    rw [ho] at h1
    dsimp only at h1
    rw [List.all_eq_true] at h1
    have h2 := h1 c (by simpa using hc)
    rw [Bool.or_eq_true] at h2
    rcases h2 with h2 | h2
    · exact hal c h2
    · rw [List.any_eq_true] at h2
      obtain ⟨y, hy, h3⟩ := h2
      rw [Bool.and_eq_true] at h3
      exact hM.closed hA' y c (hal y h3.1) h3.2
  · rw [List.getD_eq_getElem?_getD, List.getElem?_eq_none om] at hc
    simp at hc
theorem Zj8 {listed : Array Bool} {vals : Nat → Value} {a : Act} {w : World} {N : Nat} (hM : MidC l con n D ρ0 w0 R sp m N listed vals a w) : ∀ (d : List Nat) (ρ : Env) (K : Env → Prop), Fr n D ρ a → (∀ j ∈ d, listed.getD j false = true ∧ ∀ c ∈ con.getD j [], listed.getD c false = false) →
    Zd3 sp d ρ w K → ∃ ρ', Fr n D ρ' a ∧ K ρ'
  | [], ρ, K, hF, _, h => ⟨ρ, hF, h⟩
  | j :: r, ρ, K, hF, hl, h => by
    unfold Zd3 at h
    split at h
    · rename_i d φ hs
      have hj := hl j (by simp)
      obtain ⟨h1, h2⟩ := hM.got j _ _ hs hj.1
      refine Zj8 hM r _ K ⟨hF.defers, hF.size, fun t v hlk => ?_⟩ (fun i hi => hl i (by simp [hi])) (h _ (h1 hj.2))
      rw [Zb1] at hlk
      split at hlk
      · rename_i e; subst e; cases hlk; exact h2 _ rfl
      · exact hF.slot _ _ hlk
    · exact Zj8 hM r _ K hF (fun i hi => hl i (by simp [hi])) h
theorem mid_anyC {keys : List Nat} (hA : Zhd l anc = true) (hC : conOk m ds anc con big st1 = true) (hR0 : ∀ a b, R0 a b → R a b) (hR1 : ∀ a b, R1 a b → R a b) (hF : DrawFacts l m n keys sp ds) (hkeys : ∀ t v, look ρ0 t = some v → t ∈ keys) (hRt : ∀ a b c, R a b → R b c → R a c) (hst : Zhj R0 R1 sp st1) (hobs : Zjm P l.toArray n D ρ0 w0 R R0 R1 sp l ds big sp)
    (hend : ∀ w, R w0 w → AllV (finS sp con) ρ0 w (fun ρ => Reg P l.toArray Q (l.drop m) n D ρ w)) :
    ∀ (fuel : Nat) (listed : Array Bool) (vals : Nat → Value) (a : Act) (w : World), MidC l con n D ρ0 w0 R sp m l.length listed vals a w → cnt l.length listed ≤ fuel → wpAny P .any l.toArray Q fuel listed a w := by
  have hfin : ∀ (fuel : Nat) (listed : Array Bool) (vals : Nat → Value) (a : Act) (w : World), MidC l con n D ρ0 w0 R sp m l.length listed vals a w → (∀ i, i < m → listed.getD i false = true) → l.length - m ≤ fuel → wpAny P .any l.toArray Q fuel listed a w := by
    intro fuel listed vals a w hM hall hf
    obtain ⟨ρ', hFr, hReg⟩ := Zgk (w := w) vals (finS sp con) 0 ρ0 _ hM.fr (fun i dst φ hs => by
      obtain ⟨φ0, hs0, hφ⟩ := finS_at hs
      have hi : i < m := by rw [← hF.spl]; exact (List.getElem?_eq_some_iff.1 hs0).1
      have hg := hM.got i dst φ0 hs0 (hall i hi)
      rw [Nat.zero_add]
      refine ⟨?_, hg.2⟩
      rcases hφ with ⟨rfl, hc⟩ | rfl
      · exact hg.1 (by rw [hc]; simp)
      · trivial) (hend w hM.wr)
    exact Zk0 hF fuel m listed a w (Nat.le_refl _) hF.le hf hM.size hall hM.tail (hReg a hFr)
  have hcnt : ∀ listed : Array Bool, (∀ i, m ≤ i → listed.getD i false = false) → ∀ k, m ≤ k → k - m ≤ cnt k listed := by
    intro listed ht k
    induction k with
    | zero => intro _; omega
    | succ k ih =>
      intro hk
      unfold cnt
      rcases Nat.lt_or_ge k m with h | h
      · omega
      · rw [ht k h]; have := ih h; simp; omega
  intro fuel
  induction fuel with
  | zero =>
    intro listed vals a w hM hc
    have h0 : cnt l.length listed = 0 := by omega
    have hall := Zfc listed _ h0
    refine hfin 0 listed vals a w hM (fun i hi => hall i (by have := hF.le; omega)) ?_
    have := hcnt listed hM.tail l.length hF.le
    omega
  | succ fuel ih =>
    intro listed vals a w hM hc
    by_cases hall : ∀ i, i < m → listed.getD i false = true
    · refine hfin _ listed vals a w hM hall ?_
      have := hcnt listed hM.tail l.length hF.le
      omega
    · 
      refine ⟨fun h0 => absurd ?_ hall, fun i hi => ?_⟩
      · 
        intro i hi
        induction i using Nat.strongRecOn with
        | _ i ihh =>
          by_cases hb : listed.getD i false = true
          · exact hb
          · exfalso
            have hil : i < l.length := by have := hF.le; omega
            have hr : i ∈ Region.ready .any l.toArray listed := by
              refine (Zbm (by simpa using hM.size)).2 ⟨l[i], by simp [hil], by simpa using hb, ?_⟩
              rw [Array.all_eq_true]
              intro j hj
              by_cases hbd : Region.binds .any l[i].after[j] = true
              · have := hF.before i _ (List.getElem?_eq_getElem hil) _ (Array.getElem_mem hj) hbd
                rw [ihh _ this om]; simp
              · simp [hbd]
            rw [h0] at hr; simp at hr
      · obtain ⟨o, ho, hfi, hal⟩ := (Zbm (by simpa using hM.size)).1 hi
        have ho' : l[i]? = some o := by simpa using ho
        have hil : i < l.length := (List.getElem?_eq_some_iff.1 ho').1
        have him : i < m := by
          rcases Nat.lt_or_ge i m with h | h
          · exact h
          · exact absurd (fun j hj => Zam (hF.tail i o h ho' j om) hal) hall
        have hsp : ∃ dst φ, sp[i]? = some (dst, φ) := by
          have : i < sp.length := by rw [hF.spl]; exact him
          exact ⟨_, _, List.getElem?_eq_getElem this⟩
        obtain ⟨dst, φ, hs⟩ := hsp
        have hdst := hF.dst i o dst φ ho' hs
        have hCi : (∀ j ∈ ds.getD i [], ∀ c ∈ con.getD j [], c = i ∨ (anc.getD c []).contains i = true) ∧ (big.getD i false = true → ∀ j, j < m → j ≠ i → (anc.getD j []).contains i = true ∨ st1.getD j false = true ∨ ∃ c ∈ con.getD j [], c = i ∨ (anc.getD i []).contains c = true) := by
          unfold conOk at hC
          rw [List.all_eq_true] at hC
          have h8 := hC i (by simpa using him)
          rw [Bool.and_eq_true] at h8
          refine ⟨fun j hj c hc => ?_, fun hb j hj hne => ?_⟩
          · have := (List.all_eq_true.1 ((List.all_eq_true.1 h8.1) j hj)) c hc
            rw [Bool.or_eq_true, beq_iff_eq] at this
            exact this
          · have h9 := h8.2
            rw [hb, Bool.not_true, Bool.false_or, List.all_eq_true] at h9
            have := h9 j (by simpa using hj)
            rw [Bool.or_eq_true, Bool.or_eq_true, Bool.or_eq_true, beq_iff_eq, List.any_eq_true] at this
            rcases this with ((this | this) | this) | ⟨c, hc, this⟩
            · exact absurd this hne
            · exact .inl this
            · exact .inr (.inl this)
            · rw [Bool.or_eq_true, beq_iff_eq] at this; exact .inr (.inr ⟨c, hc, this⟩)
        subst hdst
        have hsz : i < listed.size := by rw [hM.size]; exact hil
        obtain ⟨ρ', hFr, hOp⟩ := Zj8 hM (ds.getD i []) ρ0 _ hM.fr (fun j hj => ⟨Zam (hF.deps i o him ho' j hj).2 hal, fun c hc => by
          have h7 := hCi.1 j hj c hc
          rcases h7 with h7 | h7
          · rw [h7]; exact hfi
          · by_cases hcl : listed.getD c false = true
            · have := hM.closed hA c i hcl h7; rw [hfi] at this; cases this
            · simpa using hcl⟩) (hobs.at_ hs ho' w hM.wr)
        have hnew : ∀ (v : Value) (w' : World), φ v w' → Zcv R0 R1 big i w w' → MidC l con n D ρ0 w0 R sp m l.length (listed.setIfInBounds i true) (fun j => if j = i then v else vals j) (a.put o.dst v) w' := by
          intro v w' hv hR
          have hput : ∀ t, (∀ d, o.dst = some d → t ≠ d) → (a.put o.dst v).tmps[t]? = a.tmps[t]? := by
            intro t ht
            cases hd : o.dst with
            | none => rfl
            | some d => simp only [Act.put, Array.getElem?_setIfInBounds]; rw [if_neg (fun e => ht d hd e.symm)]
          have hputd : ∀ d, o.dst = some d → (a.put o.dst v).tmps[d]? = some v := by
            intro d hd
            have := (hF.ok i o d him ho' hd).1
            rw [hd]
            simp [Act.put, hM.fr.size, this]
          have hR' : R w w' := by unfold Zcv at hR; split at hR; exact hR1 _ _ hR; exact hR0 _ _ hR
          refine ⟨⟨?_, ?_, ?_⟩, hRt _ _ _ hM.wr hR', by simpa using hM.size, ?_, ?_, ?_⟩
          · rw [← hM.fr.defers]; cases o.dst <;> rfl
          · rw [← hM.fr.size]; cases o.dst <;> simp [Act.put]
          · intro t u hl
            rw [hput t (fun d hd e => (hF.ok i o d him ho' hd).2 (by rw [← e]; exact hkeys t u hl))]
            exact hM.fr.slot t u hl
          · intro j hj
            rw [Zar _ _ _ hsz, if_neg om]; exact hM.tail j hj
          · intro j o' hj hlj k hk
            rw [Zar _ _ _ hsz]
            by_cases e2 : i = k
            · rw [if_pos e2]
            · rw [if_neg e2]
              rw [Zar _ _ _ hsz] at hlj
              by_cases e1 : i = j
              · subst e1
                rw [ho'] at hj; cases hj
                exact Zam hk hal
              · rw [if_neg e1] at hlj
                exact hM.cl j o' hj hlj k hk
          · intro j dst φ' hs' hl
            rw [Zar _ _ _ hsz] at hl
            by_cases e : j = i
            · subst e
              rw [hs] at hs'
              injection hs' with hs'
              injection hs' with e1 e2
              subst e1; subst e2
              rw [if_pos rfl]
              exact ⟨fun _ => hv, hputd⟩
            · rw [if_neg (fun e' => e e'.symm)] at hl
              rw [if_neg e]
              obtain ⟨g1, g2⟩ := hM.got j dst φ' hs' hl
              refine ⟨fun hcu => ?_, fun d hd => ?_⟩
              · have hcu' : ∀ c ∈ con.getD j [], listed.getD c false = false := fun c hc => by
                  have := hcu c hc
                  rw [Zar _ _ _ hsz] at this
                  by_cases e3 : i = c
                  · rw [if_pos e3] at this; cases this
                  · rwa [if_neg e3] at this
                have hs1 := hst.at_ hs'
                unfold Zcv at hR
                split at hR
                · rename_i hb
                  have hjm : j < m := by rw [← hF.spl]; exact (List.getElem?_eq_some_iff.1 hs').1
                  rcases hCi.2 hb j hjm e with h7 | h7 | ⟨c, hc, h7⟩
                  · exfalso; have := hM.closed hA j i hl h7; rw [hfi] at this; cases this
                  · exact hs1.2 h7 _ _ _ (g1 hcu') hR
                  · exfalso
                    rcases h7 with rfl | h7
                    · have := hcu c hc; rw [Zar _ _ _ hsz, if_pos rfl] at this; cases this
                    · have hci : listed.getD c false = false := hcu' c hc
                      have := hM.near hA ho' (fun j hj => Zam hj hal) h7
                      rw [hci] at this; cases this
                · exact hs1.1 _ _ _ (g1 hcu') hR
              have hj : j < m := by rw [← hF.spl]; exact (List.getElem?_eq_some_iff.1 hs').1
              have hjl : j < l.length := by have := hF.le; omega
              have hoj := List.getElem?_eq_getElem hjl
              have hdj := hF.dst j _ dst φ' hoj hs'
              rw [hput d (fun d' hd' e' => by subst e'; exact hF.apart j i _ o d hj him e hoj ho' (by rw [hdj, hd]) hd')]
              exact g2 d hd
        have hcnt' := Zgd listed i hsz hfi l.length hil
        unfold wpOp
        rw [ho]
        dsimp only
        have h1 := hOp a hFr
        split
        · rename_i hw
          rw [if_pos hw] at h1
          refine .inl (Oper.wp_mono ?_ (h1 Q))
          rintro a' w' ⟨v, rfl, hv, hR⟩
          exact ih _ _ _ _ (hnew v w' hv hR) om
        · rename_i hw
          rw [if_neg hw] at h1
          exact ih _ _ _ _ (hnew undef w h1.1 h1.2) om
theorem w_drawC {id : Nat} {w : World} {ρ : Env} (m : Nat) (R R0 R1 : World → World → Prop) (sp : Zcf) (ds anc con : List (List Nat)) (big st1 : List Bool) (ρ0 : Env) (hsub : Sub ρ0 ρ) (hm : P.follows .mixedOrders = true)
    (hchk : Zl3 l m n (Ze0 ρ0) (sp.map (·.1)) ds = true) (hA : Zhd l anc = true) (hC : conOk m ds anc con big st1 = true) (hR : ∀ a, R a a) (hRt : ∀ a b c, R a b → R b c → R a c) (hR0 : ∀ a b, R0 a b → R a b) (hR1 : ∀ a b, R1 a b → R a b) (hst : Zhj R0 R1 sp st1)
    (h : ∀ w0, w.grownBy w0 none → w0.heap.size = w.heap.size → Zjm P l.toArray n D ρ0 w0 R R0 R1 sp l ds big sp ∧ (∀ w', R w0 w' → AllV (finS sp con) ρ0 w' (fun ρ => Reg P l.toArray Q (l.drop m) n D ρ w'))) :
    W P (.region id l.toArray true) Q n D ρ w := by
  intro a ha
  have hF := Zjn hchk
  obtain ⟨h1, h2⟩ := h w.drew (Zef w) rfl
  refine wp_region_any hm ?_
  have hno : ∀ i, (Array.replicate l.length false).getD i false = false := fun i => by
    simp [Array.getD_eq_getD_getElem?, Array.getElem?_replicate]; split <;> rfl
  have hM : MidC l con n D ρ0 w.drew R sp m l.length (Array.replicate l.length false) (fun _ => undef) a w.drew :=
    { fr := ha.sub hsub, wr := hR _, size := by simp, tail := fun i _ => hno i,
      cl := fun i o _ hl j _ => (by rw [hno] at hl; cases hl),
      got := fun i dst φ hs hl => (by rw [hno] at hl; cases hl) }
  have := mid_anyC hA hC hR0 hR1 hF (fun t v hl => Zcp hl) hRt hst h1 h2 l.length (Array.replicate l.length false) (fun _ => undef) a w.drew hM (by
      have : ∀ k L, cnt k L ≤ k := by
        intro k L; induction k with
        | zero => exact Nat.le_refl _
        | succ k ih => unfold cnt; split <;> omega
      exact this _ _)
  simpa using this
end
def Big (e : Nat) (a b : World) : Prop := e ≤ a.heap.size ∧ ∃ row, a.grownBy b row ∧ ∀ g, row = some g → e ≤ g
def Big0 (e : Nat) (a b : World) : Prop := e ≤ a.heap.size ∧ a.grownBy b none
theorem Big.below {e : Nat} {a b : World} (h : Big e a b) : Below e a b := by
  obtain ⟨h0, row, h1, h2⟩ := h
  exact (Below.refl e a).grown h1 h0 h2
theorem Big0.below {e : Nat} {a b : World} (h : Big0 e a b) : Below e a b := (Below.refl e a).grown h.2 h.1 (by simp)
theorem Big.mono {e e' : Nat} {a b : World} (h : Big e' a b) (he : e ≤ e') : Big e a b := ⟨Nat.le_trans he h.1, h.2.imp fun _ q => ⟨q.1, fun g hg => Nat.le_trans he (q.2 g hg)⟩⟩
theorem Sl.big {α : Type} {K : Kd α} {F : Nat → Prop} {v : Value} {xs : List α} {w w' w0 : World} (h : Sl K w (Loc F w0) v xs) (k : Big w0.heap.size w w') : Sl K w' (Loc F w0) v xs := by
  obtain ⟨_, row, h1, h2⟩ := k
  cases row with
  | none => exact h.g0 h1
  | some g => exact h.g h1 (.inr (h2 g rfl))
end Go.Gw
namespace Go.Gw
open Go.RowKit
theorem Ziv {P : Program} {w : World} {t ty e g c n : Nat} {i : TypeInfo} {z : Value} (ht : P.underlying t = some (.slice e)) (hi : P.info? e = some i) (hz : i.zero = some z)
    (hg : w.heap[g]? = some (.cells #[] e (0, 0))) (a : Addr) (news : List Value) (hl : news.length = n * i.size) (hnews : ∀ j u, news[j]? = some u → w.cell? (a.add j) = some u) (h1 : ∀ u ∈ news, u.oneCell' = true)
    (h63 : n ≤ maxLen) (hbytes : n * i.bytes ≤ 140737488355328) {v' : Value} {w' : World} (hr : (Builtin.append_ #[t, t] ty #[.slice (some ⟨g, 0, none⟩) 0 0, .slice (some a) n c]).run P w = .ok v' w') : w.grownBy w' none := by
  have hsmall : n ≤ 9223372036854775807 := by simp only [maxLen] at h63; omega
  by_cases hn : n = 0
  · subst hn
    have hnil : news = [] := List.eq_nil_of_length_eq_zero (by simpa using hl)
    subst hnil
    have hr2 := run_append_room (P := P) w t ty e i ht hi g 0 0 #[] hg a 0 c [] hl hnews h1 om (by simp)
    rw [hr] at hr2
    injection hr2 with e1 e2
    subst e2
    refine ⟨rfl, rfl, rfl, by simp, fun k hk _ => ?_⟩
    by_cases hk' : k = g
    · subst hk'
      rw [setRow_heap w k #[] _ e _ hg, hg]; simp
    · exact setRow_other w g k _ hk'
  · have hr2 := run_append_grow (P := P) w t ty e i z ht hi hz ⟨g, 0, none⟩ 0 0 [] (by simp) (by simp) a n c news hl hnews om om (growslice_fits om (by simpa using hbytes))
    rw [hr] at hr2
    injection hr2 with e1 e2
    subst e2
    exact ⟨rfl, rfl, rfl, by simp, fun k hk _ => Below.heap_alloc w.drew _ k hk⟩
section
variable {P : Program} {ops : Array Oper} {Q : Exit → Act → World → Prop} {Zao : List Oper} {n : Nat} {D : List Deferred} {ρ : Env} {w : World}
variable {d ty : Nat} {pos : String} {after : Array Edge} {gd : Option (Nat × Bool)} {C : Value → World → Prop} {x y : Operand}
theorem Zjw {α : Type} {K : Kd α} {t e by_ base : Nat} {F F' : Nat → Prop} {z v s : Value} {xs ys : List α} (hs : SlF P t e K.sz by_ z) (hx : opv ρ x = some v) (hy : opv ρ y = some s) (ho : Own K e base w F v xs) (hK : K.Flat) (hsrc : Sl K w F' s ys)
    (hone : K.Ones) (h63 : xs.length + ys.length ≤ 9223372036854775807) (hbytes : (xs.length + ys.length) * by_ ≤ 140737488355328) (hbase : base ≤ w.heap.size) (hF : ∀ k, F k → k < w.heap.size)
    (k : ∀ v' w', Own K e base w' F v' (xs ++ ys) → w.grownBy w' v.ownBlock → (v'.ownBlock = v.ownBlock ∨ v'.ownBlock = some w.heap.size) → (∀ g0, v = .slice (some ⟨g0, 0, none⟩) 0 0 → w.heap[g0]? = some (.cells #[] e (0, 0)) → w.grownBy w' none) → C v' w') :
    OpW P ⟨some d, .call { callee := .builtin .append, args := #[x, y], argTypes := #[t, t] }, ty, pos, after, gd⟩ n D ρ w C := by
  obtain ⟨inf, hinf, hzero, hsz, hby⟩ := hs.inf
  obtain ⟨us, hl, hr, hown⟩ := ho.out
  obtain ⟨A, c, rfl, h2, h3, h4⟩ := hsrc
  have hv : ∃ vs : List (List Value), vs.length = ys.length ∧ (∀ (i : Nat) (u : List Value) (y : α), vs[i]? = some u → ys[i]? = some y → K.rep w (Out F v) u y) ∧ (∀ a, A = some a → ys ≠ [] → ∃ g o, a = ⟨g, o, none⟩ ∧ w.rangeAt g o vs.flatten) := by
    have hex : ∀ i : Fin ys.length, ∃ u, ∃ g o, A = some ⟨g, o, none⟩ ∧ K.rep w (Out F v) u ys[i] ∧ w.rangeAt g (o + i * K.sz) u := by
      intro i
      obtain ⟨g, o, u, ha, _, _, hrep, hrng⟩ := h4 i ys[i] (by simp)
      exact ⟨u, g, o, ha, hK _ _ _ _ _ _ hrep, hrng⟩
    let f : Fin ys.length → List Value := fun i => Classical.choose (hex i)
    have hf : ∀ i, ∃ g o, A = some ⟨g, o, none⟩ ∧ K.rep w (Out F v) (f i) ys[i] ∧ w.rangeAt g (o + i * K.sz) (f i) := fun i => Classical.choose_spec (hex i)
    refine ⟨List.ofFn f, by simp, fun i u y hu hy => ?_, fun a ha hne => ?_⟩
    · rw [List.getElem?_ofFn] at hu
      split at hu
      · rename_i hi
        cases hu
        obtain ⟨_, _, _, hrep, _⟩ := hf ⟨i, hi⟩
        have : ys[i] = y := by rw [List.getElem?_eq_getElem hi] at hy; injection hy
        subst this; exact hrep
      · cases hu
    · have hlen : 0 < ys.length := List.length_pos_iff.2 hne
      obtain ⟨g, o, ha', _, _⟩ := hf ⟨0, hlen⟩
      rw [ha] at ha'
      injection ha' with ha'
      refine ⟨g, o, ha', fun j u hj => ?_⟩
      have hall : ∀ u ∈ List.ofFn f, u.length = K.sz := by
        intro u hu
        obtain ⟨i, rfl⟩ := List.mem_ofFn.1 hu
        obtain ⟨_, _, _, hrep, _⟩ := hf i
        exact K.len hrep
      have hpos := hs.pos
      have hjl : j < ys.length * K.sz := by
        have := (List.getElem?_eq_some_iff.1 hj).1
        rw [List.length_flatten] at this
        have hsum := Zcs (List.ofFn f) hall
        rw [List.length_flatten, List.length_ofFn] at hsum
        omega
      have hdiv : j / K.sz < ys.length := Nat.div_lt_of_lt_mul (by rw [Nat.mul_comm]; exact hjl)
      have hmod : j % K.sz < K.sz := Nat.mod_lt _ hpos
      have hu : (List.ofFn f)[j / K.sz]? = some (f ⟨j / K.sz, hdiv⟩) := by rw [List.getElem?_ofFn]; simp [hdiv]
      have h5 := Zdr (sz := K.sz) (List.ofFn f) hall (j / K.sz) (j % K.sz) _ hu hmod
      rw [show j / K.sz * K.sz + j % K.sz = j by rw [Nat.mul_comm]; exact Nat.div_add_mod j K.sz, hj] at h5
      obtain ⟨g2, o2, ha2, _, hrng⟩ := hf ⟨j / K.sz, hdiv⟩
      rw [ha, ha'] at ha2
      injection ha2 with ha2
      injection ha2 with e1 e2
      subst e1; subst e2
      have := hrng (j % K.sz) u h5.symm
      rw [← this]; congr 2
      show o + j = o + j / K.sz * K.sz + j % K.sz
      have := Nat.div_add_mod j K.sz
      rw [Nat.mul_comm] at this; omega
  obtain ⟨vs, hvl, hvr, hva⟩ := hv
  have hfin : ∀ v' w', w'.ownsRow base e K.sz v' (xs.length + ys.length) (us.flatten ++ vs.flatten) → w.grownBy w' v.ownBlock → (v'.ownBlock = v.ownBlock ∨ v'.ownBlock = some w.heap.size) → Own K e base w' F v' (xs ++ ys) := by
    intro v' w' ho' hg hor
    refine ⟨⟨us ++ vs, by simp [hl, hvl], fun i u x hu hx => ?_, by rw [List.flatten_append, List.length_append]; exact ho'⟩, fun g hg' => ?_⟩
    · have hrep : K.rep w (Out F v) u x := by
        rcases Nat.lt_or_ge i xs.length with h | h
        · rw [List.getElem?_append_left om] at hu; rw [List.getElem?_append_left h] at hx; exact hr i u x hu hx
        · rw [List.getElem?_append_right om, hl] at hu; rw [List.getElem?_append_right h] at hx; exact hvr _ u x hu hx
      have h1 : K.rep w (fun k => Out F v k ∨ Out F v' k) u x := K.weak hrep fun k hk hk' => by
        rcases hk' with h | h | h
        · exact h
        · exact .inl h
        · rcases hor with e | e
          · exact .inr (e ▸ h)
          · rw [e] at h; injection h with h; omega
      exact K.weak (K.keep h1 fun k hk hn => hg.block k hk fun e => hn (.inl (.inr e.symm))) fun k _ hk => .inr hk
    · rcases hor with h | h
      · exact ho.no g (by rw [← h]; exact hg')
      · rw [h] at hg'; injection hg' with hg'; intro hf; have := hF g hf; omega
  have hzsz : z.cells.size = K.sz := hs.zsz
  cases A with
  | none =>
    have hy0 : ys = [] := by
      cases ys with
      | nil => rfl
      | cons y r => obtain ⟨g, o, u, ha, _⟩ := h4 0 y rfl; cases ha
    subst hy0
    have hv0 : vs = [] := List.eq_nil_of_length_eq_zero hvl
    subst hv0
    refine Za3 (v := v) (w' := w) (fun ev he => ?_) (k v w (hfin v w (by simpa using hown) (World.grownBy.refl w _) (.inl rfl)) (World.grownBy.refl w _) (.inl rfl) (fun _ _ _ => World.grownBy.refl w _))
    simp [execOp, resolve, invoke, builtin, he x _ hx, he y _ hy, run_append_nil base t ty e inf K.sz hs.und hinf v _ _ hown c]
  | some a =>
    have hcells : ∀ j u, vs.flatten[j]? = some u → w.cell? (a.add j) = some u := by
      intro j u hj
      by_cases hne : ys = []
      · subst hne
        have hv0 : vs = [] := List.eq_nil_of_length_eq_zero hvl
        subst hv0; simp at hj
      · obtain ⟨g, o, rfl, hrng⟩ := hva a rfl hne
        exact Zfz hrng j u hj
    have hvlen : vs.flatten.length = ys.length * K.sz := by
      have hall : ∀ u ∈ vs, u.length = K.sz := by
        intro u hu
        obtain ⟨j, hj, rfl⟩ := List.getElem_of_mem hu
        exact K.len (hvr j _ (ys[j]'om) (List.getElem?_eq_getElem hj) (List.getElem?_eq_getElem om))
      rw [Zcs vs hall, hvl]
    have hones : ∀ u ∈ vs.flatten, u.oneCell' = true := by
      intro u hu
      obtain ⟨l, hl', hu'⟩ := List.mem_flatten.1 hu
      obtain ⟨j, hj, rfl⟩ := List.getElem_of_mem hl'
      exact hone _ _ _ _ (hvr j _ (ys[j]'om) (List.getElem?_eq_getElem hj) (List.getElem?_eq_getElem om)) u hu'
    obtain ⟨v', w', hrun, ho', hg, _, hor⟩ := run_append_own_at (P := P) w base t ty e inf z K.sz by_ hs.und hinf hzero hsz hby hzsz hs.pos v xs.length us.flatten hown a ys.length c vs.flatten hvlen hcells hones (by simp only [maxLen]; omega) hbytes hbase
    refine Za3 (v := v') (w' := w') (fun ev he => ?_) (k v' w' (hfin v' w' ho' hg hor) hg hor (fun g0 hv hg0 => by
      subst hv
      exact Ziv hs.und hinf hzero hg0 a vs.flatten (by rw [hvlen, hsz]) hcells hones (by simp only [maxLen]; omega) (by rw [hby]; exact Nat.le_trans (Nat.mul_le_mul_right _ (Nat.le_add_left _ _)) hbytes) hrun))
    simp [execOp, resolve, invoke, builtin, he x _ hx, he y _ hy, hrun]
theorem Zml {α : Type} {K : Kd α} {F : Nat → Prop} {t e by_ base : Nat} {zv : Value} (hs : SlF P t e K.sz by_ zv) (hbase : base ≤ w.heap.size) (hF : ∀ k, F k → k < w.heap.size)
    (k : ∀ g w', Blk w' g e #[] → Own K e base w' F (.slice (some ⟨g, 0, none⟩) 0 0) [] → w.grownBy w' none → C (.slice (some ⟨g, 0, none⟩) 0 0) w') : OpW P ⟨some d, .buildSlice t 0 #[], ty, pos, after, gd⟩ n D ρ w C := by
  obtain ⟨inf, hinf, hzero, hsz, hby⟩ := hs.inf
  refine Za3 (v := .slice (some ⟨w.heap.size, 0, none⟩) 0 0) (w' := w.alloc (.cells #[] e)) (fun ev he => ?_) (k _ _ (heap_alloc_new w _) ⟨⟨[], rfl, fun i u x hu => by simp at hu, ⟨by simp, .inr ⟨_, 0, #[], rfl, hbase, heap_alloc_new w _, Nat.le_refl _, by simp [maxLen], by simp, by simp⟩⟩⟩, ?_⟩ (Ze8 _ _))
  · simp [execOp, Instr.buildSlice, run_underlying hs.und, sizeOf, typeInfo, hinf, Instr.fill, newRow]
    rw [show (Array.map (fun _ => (default : Value)) (Array.range 0)) = #[] from Array.eq_empty_of_size_eq_zero (by simp)]
  · intro g hg'
    simp [Value.ownBlock] at hg'
    subst hg'
    intro hf
    exact absurd (hF _ hf) om
end
end Go.Gw
namespace Go.Gw
open Go.RowKit
section
variable {α : Type} {K : Kd α} {e base : Nat} {w w' : World} {F : Nat → Prop} {v v' : Value} {xs : List α}
theorem Own.rebase {b' : Nat} (h : Own K e base w F v xs) (hb : b' ≤ base) : Own K e b' w F v xs := by
  obtain ⟨us, hl, hr, h1, h2⟩ := h.out
  refine ⟨⟨us, hl, hr, h1, ?_⟩, h.no⟩
  rcases h2 with h2 | ⟨g, cap, cur, q1, q2, q3⟩
  · exact .inl h2
  · exact .inr ⟨g, cap, cur, q1, Nat.le_trans hb q2, q3⟩
theorem Zdj {g : Nat} (h : Own K e base w F v xs) (hg : w.heap.size = g) : v.ownBlock ≠ some g := fun he => by
  have := (h.lt g he).2; omega
theorem Zdk {g s : Nat} (hn : v.ownBlock ≠ some g) (hr : v'.ownBlock = v.ownBlock ∨ v'.ownBlock = some s) (hlt : g < s) : v'.ownBlock ≠ some g := by
  rcases hr with h | h
  · rw [h]; exact hn
  · rw [h]; intro e; cases e; omega
theorem Own.keptN {g : Nat} (hK : K.Flat) (h : Own K e base w F v xs) (hg : w.grownBy w' (some g)) (hn : v.ownBlock ≠ some g) : Own K e base w' F v xs := h.keptF hK hg (.inr hn)
end
def Frm (X : Nat → Prop) (w0 : World) (v0 : Value) (w : World) (v : Value) : Prop :=
  w0.heap.size ≤ w.heap.size ∧ ∀ g, g < w0.heap.size → ¬ X g → v0.ownBlock ≠ some g → w.heap[g]? = w0.heap[g]? ∧ v.ownBlock ≠ some g
section
variable {X : Nat → Prop} {w0 w w' : World} {v0 v v' : Value}
theorem Frm.refl (X : Nat → Prop) (w : World) (v : Value) : Frm X w v w v := ⟨Nat.le_refl _, fun g _ _ h => ⟨rfl, h⟩⟩
theorem Frm.none (h : Frm X w0 v0 w v) (k : w.grownBy w' none) : Frm X w0 v0 w' v :=
  ⟨Nat.le_trans h.1 k.size, fun g a b c => ⟨(k.block g (Nat.lt_of_lt_of_le a h.1) (by simp)).trans (h.2 g a b c).1, (h.2 g a b c).2⟩⟩
theorem Frm.put {r : Nat} (h : Frm X w0 v0 w v) (k : w.grownBy w' (some r)) (hr : X r ∨ w0.heap.size ≤ r) : Frm X w0 v0 w' v :=
  ⟨Nat.le_trans h.1 k.size, fun g a b c => ⟨(k.block g (Nat.lt_of_lt_of_le a h.1) (fun e => by
    cases e; rcases hr with h | h
    · exact b h
    · omega)).trans (h.2 g a b c).1, (h.2 g a b c).2⟩⟩
theorem Frm.row (h : Frm X w0 v0 w v) (k : w.grownBy w' v.ownBlock) (hr : v'.ownBlock = v.ownBlock ∨ v'.ownBlock = some w.heap.size) : Frm X w0 v0 w' v' :=
  ⟨Nat.le_trans h.1 k.size, fun g a b c => ⟨(k.block g (Nat.lt_of_lt_of_le a h.1) (fun e => (h.2 g a b c).2 e.symm)).trans (h.2 g a b c).1, Zdk (h.2 g a b c).2 hr (Nat.lt_of_lt_of_le a h.1)⟩⟩
theorem Ziz {g s : Nat} (hn : v.ownBlock ≠ some g) (hr : v'.ownBlock = v.ownBlock ∨ ∃ q, v'.ownBlock = some q ∧ s ≤ q) (hlt : g < s) : v'.ownBlock ≠ some g := by
  rcases hr with h | ⟨q, h, hq⟩
  · rw [h]; exact hn
  · rw [h]; intro e; cases e; omega
theorem Frm.trans {w1 : World} {v1 : Value} (h : Frm X w0 v0 w1 v1) (k : Frm X w1 v1 w v) : Frm X w0 v0 w v :=
  ⟨Nat.le_trans h.1 k.1, fun g a b c => by
    have q := h.2 g a b c
    have r := k.2 g (Nat.lt_of_lt_of_le a h.1) b q.2
    exact ⟨r.1.trans q.1, r.2⟩⟩
theorem Frm.mono {Y : Nat → Prop} (h : Frm X w0 v0 w v) (hY : ∀ g, X g → Y g) : Frm Y w0 v0 w v :=
  ⟨h.1, fun g a b c => h.2 g a (fun e => b (hY g e)) c⟩
theorem Frm.below {n : Nat} {a : World} (h : Frm X w v w' v') (hb : Below n a w) (hn : n ≤ w.heap.size) (hX : ∀ g, g < n → ¬ X g) (hv : ∀ g, v.ownBlock = some g → n ≤ g) (ho : w'.os = w.os ∧ w'.tape = w.tape ∧ w'.output = w.output) : Below n a w' :=
  ⟨ho.1.trans hb.os, ho.2.1.trans hb.tape, ho.2.2.trans hb.output, Nat.le_trans hb.size h.1, fun i hi => (h.2 i (Nat.lt_of_lt_of_le hi hn) (hX i hi) (fun e => by have := hv i e; omega)).1.trans (hb.block i hi)⟩
theorem Blk.frm {g t : Nat} {cs : Array Value} (hb : Blk w g t cs) (h : Frm X w v w' v') (hX : ¬ X g) (hv : v.ownBlock ≠ some g) : Blk w' g t cs := ((h.2 g hb.lt hX hv).1).trans hb
theorem Zcm.frm {κ ν : Type} {ek : κ → Value} {ev : ν → Value} {g : Nat} {m : List (κ × ν)} (hb : Zcm ek ev w g m) (h : Frm X w v w' v') (hX : ¬ X g) (hv : v.ownBlock ≠ some g) : Zcm ek ev w' g m := by
  obtain ⟨es, c, q, r⟩ := id hb
  exact ⟨es, c, ((h.2 g hb.lt hX hv).1).trans q, r⟩
end
section
variable {P : Program} {n : Nat} {D : List Deferred} {ρ : Env} {w : World}
variable {d ty : Nat} {pos : String} {after : Array Edge} {gd : Option (Nat × Bool)} {C : Value → World → Prop} {x y z : Operand}
def nilS : Value → Bool
  | .slice none _ _ => true
  | _ => false
theorem s_slnil {α : Type} {K : Kd α} {F : Nat → Prop} {v : Value} {xs : List α} {t e by_ yt : Nat} {zv : Value} (hs : SlF P t e K.sz by_ zv) (hx : opv ρ x = some v) (hy : opv ρ y = some (.slice none 0 0)) (hl : Sl K w F v xs) (k : C (.bool (nilS v)) w) :
    OpW P ⟨some d, .binOp .eql t x y yt, ty, pos, after, gd⟩ n D ρ w C := by
  obtain ⟨A, c, rfl, _⟩ := hl
  refine Zh8 hx hy (fun w => by unfold eqGuard; split <;> simp) ?_ k
  have hu := run_underlying hs.und w
  have h : (Op.equal t (.slice A xs.length c) (.slice none 0 0)).run P w = .ok (nilS (.slice A xs.length c)) w := by
    rw [Op.equal, show Op.maxDepth = 9999 + 1 from rfl]
    unfold Op.equalIn
    cases A with
    | none => simp [hu, nilS]
    | some a => simp [hu, nilS]
  simp [binOp, h]
theorem Zmb {α : Type} {K : Kd α} {F : Nat → Prop} {v : Value} {xs : List α} (hl : Sl K w F v xs) (h : nilS v = true) : xs = [] := by
  obtain ⟨A, c, rfl, _, _, h4⟩ := hl
  cases A with
  | some a => cases h
  | none =>
    cases xs with
    | nil => rfl
    | cons x r => obtain ⟨g, o, us, e, _⟩ := h4 0 x rfl; cases e
theorem s_eq4 {ta ti yt : Nat} {a b c e a' b' c' e' : Int} (arr : P.underlying ta = some (.array 4 ti)) (int : P.underlying ti = some (.int .i64)) (si : (P.info? ti).map (·.size) = some 1) (hg : P.eqGuardType P.depth ta = false)
    (hx : opv ρ x = some (.agg [.int .i64 a, .int .i64 b, .int .i64 c, .int .i64 e].toArray)) (hy : opv ρ y = some (.agg [.int .i64 a', .int .i64 b', .int .i64 c', .int .i64 e'].toArray))
    (k : C (.bool (decide (a = a' ∧ b = b' ∧ c = c' ∧ e = e'))) w) : OpW P ⟨some d, .binOp .eql ta x y yt, ty, pos, after, gd⟩ n D ρ w C := by
  refine Zh8 hx hy (fun w => run_eqGuard_agg w _ _ _ _ _ _ hg) ?_ k
  have h := Zme arr int si 9998 a b c e a' b' c' e' w
  simp only [binOp, Op.equal, show Op.maxDepth = 9998 + 2 from rfl]
  simp only [Zhz] at h
  simp [h]
def set4 (x0 a b c e v : Int) (k : Int) : Array Value := #[.int .i64 x0, .int .i64 (if k = 0 then v else a), .int .i64 (if k = 1 then v else b), .int .i64 (if k = 2 then v else c), .int .i64 (if k = 3 then v else e)]
theorem Zda {t g tb o0 : Nat} {i v x0 a b c e : Int} (ht : OneF P t) (hx : opv ρ x = some (.pointer (some ⟨g, o0 + i.toNat * 1, none⟩))) (hy : opv ρ y = some (.int .i64 v))
    (hb : Blk w g tb #[.int .i64 x0, .int .i64 a, .int .i64 b, .int .i64 c, .int .i64 e]) (h0 : 0 ≤ i) (h1 : i < 4)
    (k : ∀ w', Blk w' g tb (set4 x0 a b c e v i) → w.grownBy w' (some g) → w'.heap.size = w.heap.size → C undef w') (ho : o0 = 1 := by rfl) : OpW P ⟨none, .store t x y, ty, pos, after, gd⟩ n D ρ w C := by
  subst ho
  have : i = 0 ∨ i = 1 ∨ i = 2 ∨ i = 3 := by omega
  rcases this with rfl | rfl | rfl | rfl <;> exact Zdt ht hx hy rfl hb (by simp) (fun w' hB hg hs => k w' (by simpa [set4] using hB) hg hs)
theorem Zcg {Q : Exit → Act → World → Prop} {fn : Func} {R : Ending → World → Prop} {t u ty m g : Nat} {cs : List Value} {x : Value} (hr : fn.results = #[.cell t ty, .tmp u]) (ht : RowF P ty m) (hl : look ρ t = some (.pointer (some ⟨g, 0, none⟩))) (hl2 : look ρ u = some x)
    (hc : w.rangeAt g 0 cs) (hm : cs.length = m) (h : R (.returned (.tuple #[.agg cs.toArray, x])) w)
    (hQ : ∀ a w, Q .ret a w = bodyPost P fn R .ret a w := by exact fun _ _ => rfl) : W P .ret Q n [] ρ w := by
  intro a ha
  refine wp_ret ?_
  rw [hQ]
  refine bodyPost_ret (v := .tuple #[.agg cs.toArray, x]) ?_ ha.defers h
  obtain ⟨dd, hu, hrow, hs⟩ := ht.out
  have h1 : a.tmps[t]?.getD undef = .pointer (some ⟨g, 0, none⟩) := by rw [ha.slot t _ hl]; rfl
  have h2 : a.tmps[u]?.getD undef = x := by rw [ha.slot u _ hl2]; rfl
  have h3 := run_loadVar_mid (P := P) w g 0 ty cs dd hc hu hrow (by rw [hs, hm])
  simp [results, hr, h1, h2, asAddr, h3]
end
theorem Sl.frm {α : Type} {K : Kd α} (hK : K.Flat) {X : Nat → Prop} {a w : World} {v u : Value} {xs : List α} (h : Sl K a X v xs) (hf : Frm X a (.slice Option.none 0 0) w u) : Sl K w (fun _ => False) v xs := by
  obtain ⟨A, c, e, h2, h3, h4⟩ := h
  refine ⟨A, c, e, h2, h3, fun i x hx => ?_⟩
  obtain ⟨g, o, us, q1, q2, q3, q4, q5⟩ := h4 i x hx
  have hb := (hf.2 g q2 q3 (by simp [Value.ownBlock])).1
  refine ⟨g, o, us, q1, Nat.lt_of_lt_of_le q2 hf.1, fun h => h, hK _ _ _ _ _ _ q4, fun j u_ hu => ?_⟩
  have := q5 j u_ hu
  unfold World.cell? at this ⊢
  simp only [hb]
  exact this
theorem Own.sl_ne {α : Type} {K : Kd α} {e base : Nat} {w : World} {v u : Value} {xs : List α} (hK : K.Flat) (h : Own K e base w (fun _ => False) v xs) (hne : v.ownBlock = none ∨ v.ownBlock ≠ u.ownBlock) : Sl K w (fun g => u.ownBlock = some g) v xs := by
  obtain ⟨A, c, rfl, h2, h3, h4⟩ := h.sl
  refine ⟨A, c, rfl, h2, h3, fun i x hx => ?_⟩
  obtain ⟨g, o, us, rfl, q2, q3, q4, q5⟩ := h4 i x hx
  refine ⟨g, o, us, rfl, q2, fun hu => ?_, hK _ _ _ _ _ _ q4, q5⟩
  rcases hne with hn | hn
  · simp [Value.ownBlock] at hn
  · exact hn (by rw [hu]; simp [Value.ownBlock])
section
variable {P : Program} {n : Nat} {ρ : Env} {w : World}
theorem Zlh {Q : Exit → Act → World → Prop} {fn : Func} {R : Ending → World → Prop} {t u s : Nat} {v x y : Value} (hr : fn.results = #[.tmp t, .tmp u, .tmp s]) (hl : look ρ t = some v) (hl2 : look ρ u = some x) (hl3 : look ρ s = some y) (h : R (.returned (.tuple #[v, x, y])) w)
    (hQ : ∀ a w, Q .ret a w = bodyPost P fn R .ret a w := by exact fun _ _ => rfl) : W P .ret Q n [] ρ w := by
  intro a ha
  refine wp_ret ?_
  rw [hQ]
  refine bodyPost_ret (v := .tuple #[v, x, y]) ?_ ha.defers h
  have h1 : a.tmps[t]?.getD undef = v := by rw [ha.slot t _ hl]; rfl
  have h2 : a.tmps[u]?.getD undef = x := by rw [ha.slot u _ hl2]; rfl
  have h3 : a.tmps[s]?.getD undef = y := by rw [ha.slot s _ hl3]; rfl
  simp [results, hr, h1, h2, h3]
end
section
variable {κ ν : Type} [DecidableEq κ]
theorem Zlg (a : κ) : ∀ (m : List (κ × ν)) (i : Nat), fnd a m (i + 1) = (fnd a m i).map fun p => (p.1 + 1, p.2)
  | [], i => rfl
  | (k, v) :: r, i => by
    unfold fnd
    split
    · rfl
    · exact Zlg a r (i + 1)
theorem Zfs (m : List (κ × ν)) (k a : κ) (v : ν) : Zd4 ((k, v) :: m) a = if a = k then some v else Zd4 m a := by
  unfold Zd4
  rw [fnd]
  by_cases h : a = k
  · rw [if_pos h, if_pos h]; rfl
  · rw [if_neg h, if_neg h, Zlg]
    cases fnd a m 0 <;> rfl
theorem mput_cons (m : List (κ × ν)) (k a : κ) (u v : ν) : mput ((k, u) :: m) a v = if a = k then (a, v) :: m else (k, u) :: mput m a v := by
  unfold mput
  rw [fnd]
  by_cases h : a = k
  · rw [if_pos h, if_pos h]; rfl
  · rw [if_neg h, if_neg h, Zlg]
    cases fnd a m 0 with
    | none => rfl
    | some p => rfl
theorem Zgn (a b : κ) (v : ν) : ∀ m : List (κ × ν), Zd4 (mput m a v) b = if b = a then some v else Zd4 m b
  | [] => by
    have : mput ([] : List (κ × ν)) a v = [(a, v)] := rfl
    rw [this, Zfs]
  | (k, u) :: m => by
    rw [mput_cons, Zfs]
    by_cases h : a = k
    · rw [if_pos h, Zfs]
      subst h
      by_cases e : b = a
      · rw [if_pos e, if_pos e]
      · rw [if_neg e, if_neg e, if_neg e]
    · rw [if_neg h, Zfs, Zgn a b v m]
      by_cases e : b = k
      · rw [if_pos e, if_pos e, if_neg (fun e2 => h (by rw [← e2, e]))]
      · rw [if_neg e, if_neg e]
end
end Go.Gw
namespace Go.Gw
open Go.RowKit
def AllV2 : Zcf → Env → World → (Env → Prop) → Prop
  | [], ρ, _, K => K ρ
  | (some d, φ) :: r, ρ, w, K => ∀ v, φ v w → AllV2 r ((d, v) :: ρ) w K
  | (none, φ) :: r, ρ, w, K => ∀ v, φ v w → AllV2 r ρ w K
theorem Zii {n : Nat} {D : List Deferred} {w : World} (vals : Nat → Value) {a : Act} : ∀ (r : Zcf) (k : Nat) (ρ : Env) (K : Env → Prop), Fr n D ρ a → (∀ i dst φ, r[i]? = some (dst, φ) → φ (vals (k + i)) w ∧ ∀ d, dst = some d → a.tmps[d]? = some (vals (k + i))) →
    AllV2 r ρ w K → ∃ ρ', Fr n D ρ' a ∧ K ρ'
  | [], k, ρ, K, hF, _, h => ⟨ρ, hF, h⟩
  | (some d, φ) :: r, k, ρ, K, hF, hg, h => by
    obtain ⟨h1, h2⟩ := hg 0 _ _ rfl
    refine Zii vals r (k + 1) _ K ⟨hF.defers, hF.size, fun t v hlk => ?_⟩ (fun i dst φ hs => by have := hg (i + 1) dst φ (by simpa using hs); rwa [show k + 1 + i = k + (i + 1) by omega]) (h _ h1)
    rw [Zb1] at hlk
    split at hlk
    · rename_i e; subst e; cases hlk; exact h2 _ rfl
    · exact hF.slot _ _ hlk
  | (none, φ) :: r, k, ρ, K, hF, hg, h => Zii vals r (k + 1) _ K hF (fun i dst φ hs => by have := hg (i + 1) dst φ (by simpa using hs); rwa [show k + 1 + i = k + (i + 1) by omega]) (h _ (hg 0 _ _ rfl).1)
def Ze4 (R R0 : World → World → Prop) (cls : List Bool) (i : Nat) : World → World → Prop := if cls.getD i false = true then R0 else R
def Zg8 (P : Program) (ops : Array Oper) (n : Nat) (D : List Deferred) (ρ0 : Env) (w0 : World) (R R0 R1 : World → World → Prop) (sp : Zcf) : List Oper → List (List Nat) → List Bool → List Bool → Zcf → Prop
  | o :: os, d :: ds, true :: bs, true :: cs, (_, φ) :: r => (∀ w, R0 w0 w → Zd3 sp d ρ0 w (fun ρ => Op1 P ops o n D ρ w (fun v w' => φ v w' ∧ R1 w w'))) ∧ Zg8 P ops n D ρ0 w0 R R0 R1 sp os ds bs cs r
  | o :: os, d :: ds, true :: bs, false :: cs, (_, φ) :: r => (∀ w, R w0 w → Zd3 sp d ρ0 w (fun ρ => Op1 P ops o n D ρ w (fun v w' => φ v w' ∧ R1 w w'))) ∧ Zg8 P ops n D ρ0 w0 R R0 R1 sp os ds bs cs r
  | o :: os, d :: ds, false :: bs, true :: cs, (_, φ) :: r => (∀ w, R0 w0 w → Zd3 sp d ρ0 w (fun ρ => Op1 P ops o n D ρ w (fun v w' => φ v w' ∧ R0 w w'))) ∧ Zg8 P ops n D ρ0 w0 R R0 R1 sp os ds bs cs r
  | o :: os, d :: ds, false :: bs, false :: cs, (_, φ) :: r => (∀ w, R w0 w → Zd3 sp d ρ0 w (fun ρ => Op1 P ops o n D ρ w (fun v w' => φ v w' ∧ R0 w w'))) ∧ Zg8 P ops n D ρ0 w0 R R0 R1 sp os ds bs cs r
  | _, _, _, _, [] => True
  | _, _, _, _, _ => False
def Zjp (m : Nat) (anc : List (List Nat)) (big cls : List Bool) : Bool :=
  (List.range m).all fun i => !cls.getD i false || (List.range m).all fun b => !big.getD b false || (b == i || (anc.getD b []).contains i)
section
variable {P : Program} {l : List Oper} {Q : Exit → Act → World → Prop} {n m : Nat} {D : List Deferred} {ρ0 : Env} {w0 : World} {R R0 R1 : World → World → Prop} {sp : Zcf} {ds anc con : List (List Nat)} {big st1 cls : List Bool}
theorem Zg8.at_ {ops : Array Oper} : ∀ {l' : List Oper} {ds' : List (List Nat)} {bs' cs' : List Bool} {sp' : Zcf}, Zg8 P ops n D ρ0 w0 R R0 R1 sp l' ds' bs' cs' sp' → ∀ {i : Nat} {dst : Option Nat} {φ : Value → World → Prop} {o : Oper}, sp'[i]? = some (dst, φ) → l'[i]? = some o →
    ∀ w, Ze4 R R0 cs' i w0 w → Zd3 sp (ds'.getD i []) ρ0 w (fun ρ => Op1 P ops o n D ρ w (fun v w' => φ v w' ∧ Zcv R0 R1 bs' i w w')) := by
  intro l' ds' bs' cs' sp' h
  induction sp' generalizing l' ds' bs' cs' with
  | nil => intro i dst φ o hs; simp at hs
  | cons p r ih =>
    intro i dst φ o hs hl
    obtain ⟨pd, pφ⟩ := p
    match l', ds', bs', cs', h with
    | o' :: os, d :: dd, true :: bb, true :: cc, h =>
      obtain ⟨h1, h2⟩ := h
      cases i with
      | zero => simp at hs hl; obtain ⟨rfl, rfl⟩ := hs; subst hl; simpa [Zcv, Ze4] using h1
      | succ i => simp at hs hl; simpa [Zcv, Ze4] using ih h2 hs hl
    | o' :: os, d :: dd, true :: bb, false :: cc, h =>
      obtain ⟨h1, h2⟩ := h
      cases i with
      | zero => simp at hs hl; obtain ⟨rfl, rfl⟩ := hs; subst hl; simpa [Zcv, Ze4] using h1
      | succ i => simp at hs hl; simpa [Zcv, Ze4] using ih h2 hs hl
    | o' :: os, d :: dd, false :: bb, true :: cc, h =>
      obtain ⟨h1, h2⟩ := h
      cases i with
      | zero => simp at hs hl; obtain ⟨rfl, rfl⟩ := hs; subst hl; simpa [Zcv, Ze4] using h1
      | succ i => simp at hs hl; simpa [Zcv, Ze4] using ih h2 hs hl
    | o' :: os, d :: dd, false :: bb, false :: cc, h =>
      obtain ⟨h1, h2⟩ := h
      cases i with
      | zero => simp at hs hl; obtain ⟨rfl, rfl⟩ := hs; subst hl; simpa [Zcv, Ze4] using h1
      | succ i => simp at hs hl; simpa [Zcv, Ze4] using ih h2 hs hl
structure MidD (l : List Oper) (con : List (List Nat)) (n : Nat) (D : List Deferred) (ρ0 : Env) (w0 : World) (R R0 : World → World → Prop) (big : List Bool) (sp : Zcf) (m N : Nat) (listed : Array Bool) (vals : Nat → Value) (a : Act) (w : World) : Prop where
  fr : Fr n D ρ0 a
  wr : R w0 w
  cln : (∀ i, i < m → big.getD i false = true → listed.getD i false = false) → R0 w0 w
  size : listed.size = N
  tail : ∀ i, m ≤ i → listed.getD i false = false
  cl : ∀ i o, l[i]? = some o → listed.getD i false = true → ∀ j, Zb4 o j = true → listed.getD j false = true
  got : ∀ i dst φ, sp[i]? = some (dst, φ) → listed.getD i false = true → ((∀ c ∈ con.getD i [], listed.getD c false = false) → φ (vals i) w) ∧ ∀ d, dst = some d → a.tmps[d]? = some (vals i)
theorem MidD.closed {listed : Array Bool} {vals : Nat → Value} {a : Act} {w : World} {N : Nat} (hM : MidD l con n D ρ0 w0 R R0 big sp m N listed vals a w) (hA : Zhd l anc = true) : ∀ (x b : Nat), listed.getD x false = true → (anc.getD x []).contains b = true → listed.getD b false = true := by
  intro x
  induction x using Nat.strongRecOn with
  | _ x ih =>
    intro b hx hb
    unfold Zhd at hA
    rw [List.all_eq_true] at hA
    by_cases hxl : x < anc.length
    · have h1 := hA x (by simpa using hxl)
      cases ho : l[x]? with
      | none => rw [ho] at h1; cases h1
      | some o =>
        rw [ho] at h1
        dsimp only at h1
        rw [List.all_eq_true] at h1
        have h2 := h1 b (by simpa using hb)
        rw [Bool.or_eq_true] at h2
        rcases h2 with h2 | h2
        · exact hM.cl x o ho hx b h2
        · rw [List.any_eq_true] at h2
          obtain ⟨y, hy, h3⟩ := h2
          rw [Bool.and_eq_true] at h3
          exact ih y (by simpa using hy) b (hM.cl x o ho hx y h3.1) h3.2
    · rw [List.getD_eq_getElem?_getD, List.getElem?_eq_none om] at hb
      simp at hb
theorem MidD.near {listed : Array Bool} {vals : Nat → Value} {a : Act} {w : World} {N : Nat} (hM : MidD l con n D ρ0 w0 R R0 big sp m N listed vals a w) (hA : Zhd l anc = true) {i c : Nat} {o : Oper} (ho : l[i]? = some o)
    (hal : ∀ j, Zb4 o j = true → listed.getD j false = true) (hc : (anc.getD i []).contains c = true) : listed.getD c false = true := by
  have hA' := hA
  unfold Zhd at hA
  rw [List.all_eq_true] at hA
  by_cases hxl : i < anc.length
  · have h1 := hA i (by simpa using hxl)
    rw [ho] at h1
    dsimp only at h1
    rw [List.all_eq_true] at h1
    have h2 := h1 c (by simpa using hc)
    rw [Bool.or_eq_true] at h2
    rcases h2 with h2 | h2
    · exact hal c h2
    · rw [List.any_eq_true] at h2
      obtain ⟨y, hy, h3⟩ := h2
      rw [Bool.and_eq_true] at h3
      exact hM.closed hA' y c (hal y h3.1) h3.2
  · rw [List.getD_eq_getElem?_getD, List.getElem?_eq_none om] at hc
    simp at hc
theorem Zic {listed : Array Bool} {vals : Nat → Value} {a : Act} {w : World} {N : Nat} (hM : MidD l con n D ρ0 w0 R R0 big sp m N listed vals a w) : ∀ (d : List Nat) (ρ : Env) (K : Env → Prop), Fr n D ρ a → (∀ j ∈ d, listed.getD j false = true ∧ ∀ c ∈ con.getD j [], listed.getD c false = false) →
    Zd3 sp d ρ w K → ∃ ρ', Fr n D ρ' a ∧ K ρ'
  | [], ρ, K, hF, _, h => ⟨ρ, hF, h⟩
  | j :: r, ρ, K, hF, hl, h => by
    unfold Zd3 at h
    split at h
    · rename_i d φ hs
      have hj := hl j (by simp)
      obtain ⟨h1, h2⟩ := hM.got j _ _ hs hj.1
      refine Zic hM r _ K ⟨hF.defers, hF.size, fun t v hlk => ?_⟩ (fun i hi => hl i (by simp [hi])) (h _ (h1 hj.2))
      rw [Zb1] at hlk
      split at hlk
      · rename_i e; subst e; cases hlk; exact h2 _ rfl
      · exact hF.slot _ _ hlk
    · exact Zic hM r _ K hF (fun i hi => hl i (by simp [hi])) h
theorem mid_anyD {keys : List Nat} (hA : Zhd l anc = true) (hC : conOk m ds anc con big st1 = true) (hR0 : ∀ a b, R0 a b → R a b) (hR1 : ∀ a b, R1 a b → R a b) (hF : DrawFacts l m n keys sp ds) (hkeys : ∀ t v, look ρ0 t = some v → t ∈ keys) (hRt : ∀ a b c, R a b → R b c → R a c) (hst : Zhj R0 R1 sp st1) (hR00 : ∀ a, R0 a a) (hR0t : ∀ a b c, R0 a b → R0 b c → R0 a c) (hcl : Zjp m anc big cls = true) (hobs : Zg8 P l.toArray n D ρ0 w0 R R0 R1 sp l ds big cls sp)
    (hend : ∀ w, R w0 w → AllV2 (finS sp con) ρ0 w (fun ρ => Reg P l.toArray Q (l.drop m) n D ρ w)) :
    ∀ (fuel : Nat) (listed : Array Bool) (vals : Nat → Value) (a : Act) (w : World), MidD l con n D ρ0 w0 R R0 big sp m l.length listed vals a w → cnt l.length listed ≤ fuel → wpAny P .any l.toArray Q fuel listed a w := by
  have hfin : ∀ (fuel : Nat) (listed : Array Bool) (vals : Nat → Value) (a : Act) (w : World), MidD l con n D ρ0 w0 R R0 big sp m l.length listed vals a w → (∀ i, i < m → listed.getD i false = true) → l.length - m ≤ fuel → wpAny P .any l.toArray Q fuel listed a w := by
    intro fuel listed vals a w hM hall hf
    obtain ⟨ρ', hFr, hReg⟩ := Zii (w := w) vals (finS sp con) 0 ρ0 _ hM.fr (fun i dst φ hs => by
      obtain ⟨φ0, hs0, hφ⟩ := finS_at hs
      have hi : i < m := by rw [← hF.spl]; exact (List.getElem?_eq_some_iff.1 hs0).1
      have hg := hM.got i dst φ0 hs0 (hall i hi)
      rw [Nat.zero_add]
      refine ⟨?_, hg.2⟩
      rcases hφ with ⟨rfl, hc⟩ | rfl
      · exact hg.1 (by rw [hc]; simp)
      · trivial) (hend w hM.wr)
    exact Zk0 hF fuel m listed a w (Nat.le_refl _) hF.le hf hM.size hall hM.tail (hReg a hFr)
  have hcnt : ∀ listed : Array Bool, (∀ i, m ≤ i → listed.getD i false = false) → ∀ k, m ≤ k → k - m ≤ cnt k listed := by
    intro listed ht k
    induction k with
    | zero => intro _; omega
    | succ k ih =>
      intro hk
      unfold cnt
      rcases Nat.lt_or_ge k m with h | h
      · omega
      · rw [ht k h]; have := ih h; simp; omega
  intro fuel
  induction fuel with
  | zero =>
    intro listed vals a w hM hc
    have h0 : cnt l.length listed = 0 := by omega
    have hall := Zfc listed _ h0
    refine hfin 0 listed vals a w hM (fun i hi => hall i (by have := hF.le; omega)) ?_
    have := hcnt listed hM.tail l.length hF.le
    omega
  | succ fuel ih =>
    intro listed vals a w hM hc
    by_cases hall : ∀ i, i < m → listed.getD i false = true
    · refine hfin _ listed vals a w hM hall ?_
      have := hcnt listed hM.tail l.length hF.le
      omega
    · 
      refine ⟨fun h0 => absurd ?_ hall, fun i hi => ?_⟩
      · 
        intro i hi
        induction i using Nat.strongRecOn with
        | _ i ihh =>
          by_cases hb : listed.getD i false = true
          · exact hb
          · exfalso
            have hil : i < l.length := by have := hF.le; omega
            have hr : i ∈ Region.ready .any l.toArray listed := by
              refine (Zbm (by simpa using hM.size)).2 ⟨l[i], by simp [hil], by simpa using hb, ?_⟩
              rw [Array.all_eq_true]
              intro j hj
              by_cases hbd : Region.binds .any l[i].after[j] = true
              · have := hF.before i _ (List.getElem?_eq_getElem hil) _ (Array.getElem_mem hj) hbd
                rw [ihh _ this om]; simp
              · simp [hbd]
            rw [h0] at hr; simp at hr
      · obtain ⟨o, ho, hfi, hal⟩ := (Zbm (by simpa using hM.size)).1 hi
        have ho' : l[i]? = some o := by simpa using ho
        have hil : i < l.length := (List.getElem?_eq_some_iff.1 ho').1
        have him : i < m := by
          rcases Nat.lt_or_ge i m with h | h
          · exact h
          · exact absurd (fun j hj => Zam (hF.tail i o h ho' j om) hal) hall
        have hsp : ∃ dst φ, sp[i]? = some (dst, φ) := by
          have : i < sp.length := by rw [hF.spl]; exact him
          exact ⟨_, _, List.getElem?_eq_getElem this⟩
        obtain ⟨dst, φ, hs⟩ := hsp
        have hdst := hF.dst i o dst φ ho' hs
        have hCi : (∀ j ∈ ds.getD i [], ∀ c ∈ con.getD j [], c = i ∨ (anc.getD c []).contains i = true) ∧ (big.getD i false = true → ∀ j, j < m → j ≠ i → (anc.getD j []).contains i = true ∨ st1.getD j false = true ∨ ∃ c ∈ con.getD j [], c = i ∨ (anc.getD i []).contains c = true) := by
          unfold conOk at hC
          rw [List.all_eq_true] at hC
          have h8 := hC i (by simpa using him)
          rw [Bool.and_eq_true] at h8
          refine ⟨fun j hj c hc => ?_, fun hb j hj hne => ?_⟩
          · have := (List.all_eq_true.1 ((List.all_eq_true.1 h8.1) j hj)) c hc
            rw [Bool.or_eq_true, beq_iff_eq] at this
            exact this
          · have h9 := h8.2
            rw [hb, Bool.not_true, Bool.false_or, List.all_eq_true] at h9
            have := h9 j (by simpa using hj)
            rw [Bool.or_eq_true, Bool.or_eq_true, Bool.or_eq_true, beq_iff_eq, List.any_eq_true] at this
            rcases this with ((this | this) | this) | ⟨c, hc, this⟩
            · exact absurd this hne
            · exact .inl this
            · exact .inr (.inl this)
            · rw [Bool.or_eq_true, beq_iff_eq] at this; exact .inr (.inr ⟨c, hc, this⟩)
        have hclean : ∀ i, i < m → cls.getD i false = true → ∀ b, b < m → big.getD b false = true → b = i ∨ (anc.getD b []).contains i = true := by
          intro i hi hc b hb1 hb2
          unfold Zjp at hcl
          rw [List.all_eq_true] at hcl
          have h1 := hcl i (by simpa using hi)
          rw [hc, Bool.not_true, Bool.false_or, List.all_eq_true] at h1
          have h2 := h1 b (by simpa using hb1)
          rw [hb2, Bool.not_true, Bool.false_or, Bool.or_eq_true, beq_iff_eq] at h2
          exact h2
        subst hdst
        have hsz : i < listed.size := by rw [hM.size]; exact hil
        obtain ⟨ρ', hFr, hOp⟩ := Zic hM (ds.getD i []) ρ0 _ hM.fr (fun j hj => ⟨Zam (hF.deps i o him ho' j hj).2 hal, fun c hc => by
          have h7 := hCi.1 j hj c hc
          rcases h7 with h7 | h7
          · rw [h7]; exact hfi
          · by_cases hcl : listed.getD c false = true
            · have := hM.closed hA c i hcl h7; rw [hfi] at this; cases this
            · simpa using hcl⟩) (hobs.at_ hs ho' w (by
            unfold Ze4
            split
            · rename_i hci
              refine hM.cln fun b hb1 hb2 => ?_
              rcases hclean i him hci b hb1 hb2 with e | e
              · rw [e]; exact hfi
              · by_cases hbl : listed.getD b false = true
                · have := hM.closed hA b i hbl e; rw [hfi] at this; cases this
                · simpa using hbl
            · exact hM.wr))
        have hnew : ∀ (v : Value) (w' : World), φ v w' → Zcv R0 R1 big i w w' → MidD l con n D ρ0 w0 R R0 big sp m l.length (listed.setIfInBounds i true) (fun j => if j = i then v else vals j) (a.put o.dst v) w' := by
          intro v w' hv hR
          have hput : ∀ t, (∀ d, o.dst = some d → t ≠ d) → (a.put o.dst v).tmps[t]? = a.tmps[t]? := by
            intro t ht
            cases hd : o.dst with
            | none => rfl
            | some d => simp only [Act.put, Array.getElem?_setIfInBounds]; rw [if_neg (fun e => ht d hd e.symm)]
          have hputd : ∀ d, o.dst = some d → (a.put o.dst v).tmps[d]? = some v := by
            intro d hd
            have := (hF.ok i o d him ho' hd).1
            rw [hd]
            simp [Act.put, hM.fr.size, this]
          have hR' : R w w' := by unfold Zcv at hR; split at hR; exact hR1 _ _ hR; exact hR0 _ _ hR
          refine ⟨⟨?_, ?_, ?_⟩, hRt _ _ _ hM.wr hR', fun hnb => ?_, by simpa using hM.size, ?_, ?_, ?_⟩
          · rw [← hM.fr.defers]; cases o.dst <;> rfl
          · rw [← hM.fr.size]; cases o.dst <;> simp [Act.put]
          · intro t u hl
            rw [hput t (fun d hd e => (hF.ok i o d him ho' hd).2 (by rw [← e]; exact hkeys t u hl))]
            exact hM.fr.slot t u hl
          · have hbi : big.getD i false = false := by
              by_cases hb : big.getD i false = true
              · have := hnb i him hb; rw [Zar _ _ _ hsz, if_pos rfl] at this; cases this
              · simpa using hb
            refine hR0t _ _ _ (hM.cln fun b hb1 hb2 => ?_) (by unfold Zcv at hR; rw [if_neg (by rw [hbi]; simp)] at hR; exact hR)
            have := hnb b hb1 hb2
            rw [Zar _ _ _ hsz] at this
            by_cases e : i = b
            · rw [if_pos e] at this; cases this
            · rwa [if_neg e] at this
          · intro j hj
            rw [Zar _ _ _ hsz, if_neg om]; exact hM.tail j hj
          · intro j o' hj hlj k hk
            rw [Zar _ _ _ hsz]
            by_cases e2 : i = k
            · rw [if_pos e2]
            · rw [if_neg e2]
              rw [Zar _ _ _ hsz] at hlj
              by_cases e1 : i = j
              · subst e1
                rw [ho'] at hj; cases hj
                exact Zam hk hal
              · rw [if_neg e1] at hlj
                exact hM.cl j o' hj hlj k hk
          · intro j dst φ' hs' hl
            rw [Zar _ _ _ hsz] at hl
            by_cases e : j = i
            · subst e
              rw [hs] at hs'
              injection hs' with hs'
              injection hs' with e1 e2
              subst e1; subst e2
              rw [if_pos rfl]
              exact ⟨fun _ => hv, hputd⟩
            · rw [if_neg (fun e' => e e'.symm)] at hl
              rw [if_neg e]
              obtain ⟨g1, g2⟩ := hM.got j dst φ' hs' hl
              refine ⟨fun hcu => ?_, fun d hd => ?_⟩
              · have hcu' : ∀ c ∈ con.getD j [], listed.getD c false = false := fun c hc => by
                  have := hcu c hc
                  rw [Zar _ _ _ hsz] at this
                  by_cases e3 : i = c
                  · rw [if_pos e3] at this; cases this
                  · rwa [if_neg e3] at this
                have hs1 := hst.at_ hs'
                unfold Zcv at hR
                split at hR
                · rename_i hb
                  have hjm : j < m := by rw [← hF.spl]; exact (List.getElem?_eq_some_iff.1 hs').1
                  rcases hCi.2 hb j hjm e with h7 | h7 | ⟨c, hc, h7⟩
                  · exfalso; have := hM.closed hA j i hl h7; rw [hfi] at this; cases this
                  · exact hs1.2 h7 _ _ _ (g1 hcu') hR
                  · exfalso
                    rcases h7 with rfl | h7
                    · have := hcu c hc; rw [Zar _ _ _ hsz, if_pos rfl] at this; cases this
                    · have hci : listed.getD c false = false := hcu' c hc
                      have := hM.near hA ho' (fun j hj => Zam hj hal) h7
                      rw [hci] at this; cases this
                · exact hs1.1 _ _ _ (g1 hcu') hR
              have hj : j < m := by rw [← hF.spl]; exact (List.getElem?_eq_some_iff.1 hs').1
              have hjl : j < l.length := by have := hF.le; omega
              have hoj := List.getElem?_eq_getElem hjl
              have hdj := hF.dst j _ dst φ' hoj hs'
              rw [hput d (fun d' hd' e' => by subst e'; exact hF.apart j i _ o d hj him e hoj ho' (by rw [hdj, hd]) hd')]
              exact g2 d hd
        have hcnt' := Zgd listed i hsz hfi l.length hil
        unfold wpOp
        rw [ho]
        dsimp only
        have h1 := hOp a hFr
        split
        · rename_i hw
          rw [if_pos hw] at h1
          refine .inl (Oper.wp_mono ?_ (h1 Q))
          rintro a' w' ⟨v, rfl, hv, hR⟩
          exact ih _ _ _ _ (hnew v w' hv hR) om
        · rename_i hw
          rw [if_neg hw] at h1
          exact ih _ _ _ _ (hnew undef w h1.1 h1.2) om
theorem Zhe {id : Nat} {w : World} {ρ : Env} (m : Nat) (R R0 R1 : World → World → Prop) (sp : Zcf) (ds anc con : List (List Nat)) (big st1 cls : List Bool) (ρ0 : Env) (hsub : Sub ρ0 ρ) (hm : P.follows .mixedOrders = true)
    (hchk : Zl3 l m n (Ze0 ρ0) (sp.map (·.1)) ds = true) (hA : Zhd l anc = true) (hC : conOk m ds anc con big st1 = true) (hR : ∀ a, R a a) (hRt : ∀ a b c, R a b → R b c → R a c) (hR0 : ∀ a b, R0 a b → R a b) (hR1 : ∀ a b, R1 a b → R a b) (hst : Zhj R0 R1 sp st1) (hR00 : ∀ a, R0 a a) (hR0t : ∀ a b c, R0 a b → R0 b c → R0 a c) (hcl : Zjp m anc big cls = true)
    (h : ∀ w0, w.grownBy w0 none → w0.heap.size = w.heap.size → Zg8 P l.toArray n D ρ0 w0 R R0 R1 sp l ds big cls sp ∧ (∀ w', R w0 w' → AllV2 (finS sp con) ρ0 w' (fun ρ => Reg P l.toArray Q (l.drop m) n D ρ w'))) :
    W P (.region id l.toArray true) Q n D ρ w := by
  intro a ha
  have hF := Zjn hchk
  obtain ⟨h1, h2⟩ := h w.drew (Zef w) rfl
  refine wp_region_any hm ?_
  have hno : ∀ i, (Array.replicate l.length false).getD i false = false := fun i => by
    simp [Array.getD_eq_getD_getElem?, Array.getElem?_replicate]; split <;> rfl
  have hM : MidD l con n D ρ0 w.drew R R0 big sp m l.length (Array.replicate l.length false) (fun _ => undef) a w.drew :=
    { fr := ha.sub hsub, wr := hR _, cln := fun _ => hR00 _, size := by simp, tail := fun i _ => hno i,
      cl := fun i o _ hl j _ => (by rw [hno] at hl; cases hl),
      got := fun i dst φ hs hl => (by rw [hno] at hl; cases hl) }
  have := mid_anyD hA hC hR0 hR1 hF (fun t v hl => Zcp hl) hRt hst hR00 hR0t hcl h1 h2 l.length (Array.replicate l.length false) (fun _ => undef) a w.drew hM (by
      have : ∀ k L, cnt k L ≤ k := by
        intro k L; induction k with
        | zero => exact Nat.le_refl _
        | succ k ih => unfold cnt; split <;> omega
      exact this _ _)
  simpa using this
end
structure Dist (g7 g2 g8 g6 ga gd gk : Nat) : Prop where
  x7 : ¬ (g7 = ga ∨ g7 = gd ∨ g7 = gk)
  x2 : ¬ (g2 = ga ∨ g2 = gd ∨ g2 = gk)
  x8 : ¬ (g8 = ga ∨ g8 = gd ∨ g8 = gk)
  x6 : ¬ (g6 = ga ∨ g6 = gd ∨ g6 = gk)
  dx : ¬ (gd = ga ∨ gd = gk)
theorem not3 {g a b c : Nat} (h : ¬ (g = a ∨ g = b ∨ g = c)) : ¬ (g = a ∨ g = c) := fun e => h (e.elim .inl fun e => .inr (.inr e))
structure Two (S : Nat → Prop) (a b : World) : Prop where
  os : b.os = a.os
  tape : b.tape = a.tape
  output : b.output = a.output
  size : a.heap.size ≤ b.heap.size
  keep : ∀ i, i < a.heap.size → ¬ S i → b.heap[i]? = a.heap[i]?
theorem Two.refl (S : Nat → Prop) (a : World) : Two S a a := ⟨rfl, rfl, rfl, Nat.le_refl _, fun _ _ _ => rfl⟩
theorem Two.trans {S : Nat → Prop} {a b c : World} (h : Two S a b) (k : Two S b c) : Two S a c :=
  ⟨k.os.trans h.os, k.tape.trans h.tape, k.output.trans h.output, Nat.le_trans h.size k.size, fun i hi hn => (k.keep i (Nat.lt_of_lt_of_le hi h.size) hn).trans (h.keep i hi hn)⟩
theorem Two.of {S : Nat → Prop} {a b : World} {row : Option Nat} (h : a.grownBy b row) (hr : ∀ r, row = some r → S r) : Two S a b :=
  ⟨h.os, h.tape, h.output, h.size, fun i hi hn => h.block i hi (fun e => hn (hr i e.symm))⟩
theorem Two.none {S : Nat → Prop} {a b : World} (h : a.grownBy b none) : Two S a b := Two.of h (by simp)
theorem Blk.two {S : Nat → Prop} {a b : World} {g t : Nat} {cs : Array Value} (h : Blk a g t cs) (k : Two S a b) (hn : ¬ S g) : Blk b g t cs := (k.keep g h.lt hn).trans h
theorem Zcm.two {S : Nat → Prop} {κ ν : Type} {ek : κ → Value} {ev : ν → Value} {a b : World} {g : Nat} {m : List (κ × ν)} (h : Zcm ek ev a g m) (k : Two S a b) (hn : ¬ S g) : Zcm ek ev b g m := by
  obtain ⟨es, c, q, r⟩ := id h
  exact ⟨es, c, (k.keep g h.lt hn).trans q, r⟩
theorem Two.below {S : Nat → Prop} {n : Nat} {c a b : World} (k : Two S a b) (h : Below n c a) (hn : n ≤ a.heap.size) (hS : ∀ i, i < n → ¬ S i) : Below n c b :=
  ⟨k.os.trans h.os, k.tape.trans h.tape, k.output.trans h.output, Nat.le_trans h.size k.size, fun i hi => (k.keep i (Nat.lt_of_lt_of_le hi hn) (hS i hi)).trans (h.block i hi)⟩
theorem Frm.two {X S : Nat → Prop} {w0 w w' : World} {v0 v v' : Value} (h : Frm X w0 v0 w v) (k : Two S w w') (hS : ∀ i, S i → X i ∨ v.ownBlock = some i) (hr : v'.ownBlock = v.ownBlock ∨ ∃ q, v'.ownBlock = some q ∧ w.heap.size ≤ q) : Frm X w0 v0 w' v' :=
  ⟨Nat.le_trans h.1 k.size, fun g a b c => ⟨(k.keep g (Nat.lt_of_lt_of_le a h.1) (fun e => (hS g e).elim b (h.2 g a b c).2)).trans (h.2 g a b c).1, Ziz (h.2 g a b c).2 hr (Nat.lt_of_lt_of_le a h.1)⟩⟩
theorem Zmg {row : Option Nat} {a b c : World} (h : a.grownBy b row) (k : b.grownBy c row) : a.grownBy c row :=
  ⟨k.os.trans h.os, k.tape.trans h.tape, k.output.trans h.output, Nat.le_trans h.size k.size, fun i hi hn => (k.block i (Nat.lt_of_lt_of_le hi h.size) hn).trans (h.block i hi hn)⟩
theorem Zea {row : Option Nat} {a b : World} (h : a.grownBy b none) : a.grownBy b row := ⟨h.os, h.tape, h.output, h.size, fun i hi _ => h.block i hi (by simp)⟩
theorem Zmw (row : Option Nat) (a : World) : a.grownBy a row := ⟨rfl, rfl, rfl, Nat.le_refl _, fun _ _ _ => rfl⟩
end Go.Gw
namespace Go.Gw
open Go.RowKit
def ekI (a : Int) : Value := .int .i64 a
theorem keyF_I {P : Program} {t : Nat} (h : P.underlying t = some (.int .i64)) : KeyF P t ekI := keyF_int h
theorem Zfd {v : Value} {g : Nat} (h : v.ownBlock = none ∨ v.ownBlock ≠ some g) : v.ownBlock ≠ some g := by
  rcases h with h | h
  · rw [h]; simp
  · exact h
theorem Zl1 {κ ν α : Type} {ek : κ → Value} {ev : ν → Value} {w : World} {g e base : Nat} {m : List (κ × ν)} {K : Kd α} {F : Nat → Prop} {v : Value} {xs : List α} (h : Zcm ek ev w g m) (ho : Own K e base w F v xs) : v.ownBlock ≠ some g := Zfd (h.ne_own ho)
theorem Zgr {w : World} {g g' t t' : Nat} {cs cs' : Array Value} (h : Blk w g t cs) (h' : Blk w g' t' cs') (ht : t ≠ t') : g ≠ g' := by
  rintro rfl
  unfold Blk at h h'
  rw [h] at h'
  injection h' with h'
  injection h' with _ h2
  exact ht h2
section
variable {P : Program} {n : Nat} {D : List Deferred} {ρ : Env} {w : World}
variable {d ty : Nat} {pos : String} {after : Array Edge} {gd : Option (Nat × Bool)} {C : Value → World → Prop} {x y z : Operand}
variable {κ ν : Type} [DecidableEq κ] {ek : κ → Value} {ev : ν → Value} {g : Nat}
theorem s_box1 {t : Nat} {v : Value} (hx : opv ρ x = some v) (hc : v.cells = #[v]) (k : ∀ g w', w.heap.size = g → Blk w' g t [v].toArray → w.grownBy w' none → w'.heap.size = g + 1 → C (.pointer (some ⟨g, 0, none⟩)) w') :
    OpW P ⟨some d, .box t x, ty, pos, after, gd⟩ n D ρ w C := Zbs hx (fun g w' h1 h2 => k g w' h1 (by rw [hc] at h2; exact h2))
theorem Zmk {t kt et : Nat} {a : κ} {m : List (κ × Int)} (ht : MapF P t kt et) (hk : KeyF P kt ek) (hx : opv ρ x = some (.map (some g))) (hy : opv ρ y = some (ek a)) (hm : Zcm ek ekI w g m) (hz : ((P.info? et).bind (·.zero)) = some (.int .i64 0))
    (k : C (.tuple #[.int .i64 ((Zd4 m a).getD 0), .bool (Zd4 m a).isSome]) w) : OpW P ⟨some d, .lookup t x y true, ty, pos, after, gd⟩ n D ρ w C :=
  s_lookup2 ht hk hx hy hm hz (by cases h : Zd4 m a <;> simpa [h, ekI] using k)
theorem s_mapins {t kt et : Nat} {a : κ} {v : ν} {m : List (κ × ν)} (ht : MapF P t kt et) (hk : KeyF P kt ek) (hx : opv ρ x = some (.map (some g))) (hy : opv ρ y = some (ek a)) (hz : opv ρ z = some (ev v)) (hm : Zcm ek ev w g m)
    (k : ∀ w', Zcm ek ev w' g (mput m a v) → w.grownBy w' (some g) → w'.heap.size = w.heap.size → C undef w') : OpW P ⟨none, .insert t x y z, ty, pos, after, gd⟩ n D ρ w C :=
  fun a1 ha Q => Zk5 (ty := ty) (pos := pos) (after := after) (gd := gd) ht hk hx hy hz hm k a1 ha Q
end
end Go.Gw
namespace Go.Gw
open Go.RowKit
def FI (ro : Option Nat) : Fence := { Fence.wide with round := ro }
theorem rows_in {ro : Option Nat} {m : Nat} {P : Program} {row : String} {args : Array Value} {w : World} {R : Value → World → Prop} (h : Rows P row args w R) : RowsIn (FI ro) m P row args w R :=
  fun c cs _ => let ⟨v, w', r, s⟩ := h c cs; ⟨v, w', r, stepsIn_wide.2 s⟩
theorem calls_in {ro : Option Nat} {m : Nat} {P : Program} {f : FuncId} {args : Array Value} {w : World} {R : Ending → World → Prop} (h : Calls P f args w R) : CallsIn (FI ro) m P f args w R :=
  callsIn_wide.2 h
def notDefer (o : Op) : Bool := match o with | .defer _ => false | _ => true
theorem oper_in {ro : Option Nat} {m : Nat} {P : Program} {o : Oper} {a : Act} {w : World} {K : Act → World → Prop} {Q : Exit → Act → World → Prop} (hd : notDefer o.op = true) (h : o.wp P a w K Q) : o.wpIn (FI ro) m P a w K Q := by
  refine ⟨fun _ _ => trivial, ?_⟩
  have hs : o.semAt (FI ro).round a.eval = execOp a.eval o := by
    cases ro with
    | none => rfl
    | some l => exact Oper.semAt_some _ _ _ (fun c e => by rw [e] at hd; cases hd)
  rw [hs]
  unfold Oper.wp at h
  generalize (execOp a.eval o).run P w = r at h ⊢
  cases r with
  | ok x w' =>
    cases x with
    | enter f args => exact ⟨(by intro e; cases e), calls_in h⟩
    | row r args => exact ⟨(by intro e; cases e), rows_in h⟩
    | round l f tmps assign body => exact h.elim
    | _ => exact h
  | halt x w' => cases x <;> exact h
def IReg (ro : Option Nat) (m : Nat) (P : Program) (ops : Array Oper) (Q : Exit → Act → World → Prop) (l : List Oper) (n : Nat) (D : List Deferred) (ρ : Env) (w : World) : Prop :=
  ∀ a, Fr n D ρ a → wpListIn (FI ro) m P ops Q l a w
def IW (ro : Option Nat) (m : Nat) (P : Program) (c : Code) (Q : Exit → Act → World → Prop) (n : Nat) (D : List Deferred) (ρ : Env) (w : World) : Prop :=
  ∀ a, Fr n D ρ a → c.wpIn (FI ro) m P Q a w
section
variable {ro : Option Nat} {m : Nat} {P : Program} {ops : Array Oper} {Q : Exit → Act → World → Prop} {Zao : List Oper} {n : Nat} {D : List Deferred} {ρ : Env} {w : World}
theorem Zj3 {x y : Code} (h : IW ro m P x (Exit.then (fun a w => y.wpIn (FI ro) m P Q a w) Q) n D ρ w) : IW ro m P (.seq x y) Q n D ρ w := fun a ha => wpIn_seq (h a ha)
theorem i_skip' (h : Nx n D ρ w (Q .normal)) : IW ro m P .skip Q n D ρ w := fun a ha => wpIn_skip (h a ha)
theorem i_block {id : Nat} {c : Code} (h : IW ro m P c (Exit.inBlock id Q) n D ρ w) : IW ro m P (.block id c) Q n D ρ w := fun a ha => wpIn_block (h a ha)
theorem i_exit' {id : Nat} (h : Nx n D ρ w (Q (.exit id))) : IW ro m P (.exit id) Q n D ρ w := fun a ha => wpIn_exit (h a ha)
theorem i_ret (h : Nx n D ρ w (Q .ret)) : IW ro m P .ret Q n D ρ w := fun a ha => wpIn_ret (h a ha)
theorem Zeq {id : Nat} {l : List Oper} (h : IReg ro m P l.toArray Q l n D ρ w) : IW ro m P (.region id l.toArray false) Q n D ρ w := fun a ha => wpIn_region_lit (h a ha)
theorem i_cond {c : Operand} {x y : Code} {b : Bool} (hc : opv ρ c = some (.bool b)) (ht : b = true → IW ro m P x Q n D ρ w) (hf : b = false → IW ro m P y Q n D ρ w) : IW ro m P (.cond c x y) Q n D ρ w :=
  fun a ha => wpIn_cond_split (ha.eval hc) (fun h => ht h a ha) (fun h => hf h a ha)
theorem i_condP {c : Operand} {x y : Code} {p : Prop} [Decidable p] (hc : opv ρ c = some (.bool (decide p))) (ht : p → IW ro m P x Q n D ρ w) (hf : ¬ p → IW ro m P y Q n D ρ w) : IW ro m P (.cond c x y) Q n D ρ w :=
  i_cond hc (fun h => ht (of_decide_eq_true h)) (fun h => hf (of_decide_eq_false h))
theorem i_condT {c : Operand} {x y : Code} (hc : opv ρ c = some (.bool true)) (ht : IW ro m P x Q n D ρ w) : IW ro m P (.cond c x y) Q n D ρ w := i_cond hc (fun _ => ht) nofun
theorem i_condF {c : Operand} {x y : Code} (hc : opv ρ c = some (.bool false)) (hf : IW ro m P y Q n D ρ w) : IW ro m P (.cond c x y) Q n D ρ w := i_cond hc nofun (fun _ => hf)
theorem Zi0 (h : Nx n D ρ w (Q .normal)) : IReg ro m P ops Q [] n D ρ w := fun a ha => wpListIn_nil (h a ha)
theorem Zfg {y : Code} (h : IW ro m P y Q n D ρ w) : Nx n D ρ w (Exit.then (fun a w => y.wpIn (FI ro) m P Q a w) Q .normal) := h
theorem i_of {c : Code} (h : IW none m P c Q n D ρ w) : W P c Q n D ρ w := fun a ha => wpIn_wide.1 (h a ha)
theorem ist {op : Op} {d ty : Nat} {pos : String} {after : Array Edge} (h : OpW P ⟨some d, op, ty, pos, after, none⟩ n D ρ w (fun v w' => IReg ro m P ops Q Zao n D ((d, v) :: ρ) w')) (hd : Nat.blt d n = true := by rfl) (hn : notDefer op = true := by rfl) :
    IReg ro m P ops Q (⟨some d, op, ty, pos, after, none⟩ :: Zao) n D ρ w := by
  intro a ha
  unfold wpListIn
  rw [if_pos (by simp [Region.wanted])]
  refine oper_in hn (Zi7 (h a ha Q) ?_)
  rintro a' w' ⟨v, rfl, hk⟩
  exact hk _ (ha.put v hd)
theorem ist0 {op : Op} {ty : Nat} {pos : String} {after : Array Edge} (h : OpW P ⟨none, op, ty, pos, after, none⟩ n D ρ w (fun _ w' => IReg ro m P ops Q Zao n D ρ w')) (hn : notDefer op = true := by rfl) :
    IReg ro m P ops Q (⟨none, op, ty, pos, after, none⟩ :: Zao) n D ρ w := by
  intro a ha
  unfold wpListIn
  rw [if_pos (by simp [Region.wanted])]
  refine oper_in hn (Zi7 (h a ha Q) ?_)
  rintro a' w' ⟨v, rfl, hk⟩
  exact hk _ ha
theorem i_yield {d l t : Nat} {ty : Nat} {pos : String} {after : Array Edge} {args : List Operand} {ats : Array TypeId} {vs : List Value} {R : Ending → World → Prop} (hf : look ρ t = some (.func (.yield l) #[] #[])) (ha : opvs ρ args = some vs)
    (hY : YieldAt Fence.wide (m - 1) P l vs.toArray w R) (k : ∀ e w', R e w' → ∃ v, e = .returned v ∧ IReg none m P ops Q Zao n D ((d, v) :: ρ) w') (hd : Nat.blt d n = true := by rfl) :
    IReg none m P ops Q (⟨some d, .call { callee := .value (.tmp t), args := args.toArray, argTypes := ats }, ty, pos, after, none⟩ :: Zao) n D ρ w := by
  intro a hF
  unfold wpListIn
  rw [if_pos (by simp [Region.wanted])]
  refine ⟨fun _ _ => trivial, ?_⟩
  obtain ⟨fn, tmps, assign, body, hy, hR⟩ := hY
  have he : (execOp a.eval ⟨some d, .call { callee := .value (.tmp t), args := args.toArray, argTypes := ats }, ty, pos, after, none⟩).run P w = .ok (.round l fn tmps assign body) w := by
    have hv : args.map a.eval = vs := hF.evals ha
    have hf' : a.eval (.tmp t) = .func (.yield l) #[] #[] := hF.eval (x := .tmp t) hf
    simp [execOp, resolve, hf', Deferred.ofValue, invoke, hv, hy]
  have hs : ∀ o, Oper.semAt (FI none).round a.eval o = execOp a.eval o := fun o => rfl
  rw [hs]
  rw [he, Oper.uponIn_round]
  refine ⟨(by intro e; cases e), hR.mono ?_⟩
  intro e w' hr
  obtain ⟨v, rfl, hk⟩ := k e w' hr
  exact hk _ (hF.put v hd)
theorem i_loop {body : Code} {α : Type} (E : α → Env) (I : α → World → Prop) (μ : α → Nat) (x0 : α) (h0 : I x0 w) (hs : Sub (E x0) ρ)
    (round : ∀ x w, I x w → IW ro m P body (Exit.then (Round n D E I μ (μ x)) Q) n D (E x) w) : IW ro m P (.loop body) Q n D ρ w := by
  intro a ha
  refine wpIn_loop_ghost (fun m a w => ∃ x, μ x = m ∧ I x w ∧ Fr n D (E x) a) (μ x0) ⟨x0, rfl, h0, ha.sub hs⟩ ?_
  rintro m a w ⟨x, rfl, hI, hF⟩
  refine wpIn_mono (round x w hI a hF) ?_
  intro e a' w' hq
  cases e with
  | normal => obtain ⟨x', h1, h2, h3⟩ := hq; exact ⟨_, h1, x', rfl, h2, h3⟩
  | _ => exact hq
theorem ienter {f : FuncId} {fn : Func} {c : Code} {vs : List Value} {R : Ending → World → Prop} (hf : P.funcs[f]? = some fn) (hb : fn.body = some c) (hn : Nat.ble vs.length fn.ntmps = true)
    (h : IW none m P c (bodyPost P fn R) fn.ntmps [] (Zj4 0 vs) w) : CallsIn Fence.wide m P f vs.toArray w R :=
  callsIn_wide.2 (enter hf hb hn (i_of h))
theorem menter {f : FuncId} {fn : Func} {c : Code} {vs : List Value} {R : Ending → World → Prop} (m : Nat) (hf : P.funcs[f]? = some fn) (hb : fn.body = some c) (hn : Nat.ble vs.length fn.ntmps = true)
    (h : W P c (bodyPostM Fence.wide m P fn R) fn.ntmps [] (Zj4 0 vs) w) : Calls P f vs.toArray w R := by
  refine callsIn_wide.1 (callsIn_of_wp_marks (F := Fence.wide) (n := m) hf hb trivial (wpIn_wide.2 (h _ ⟨rfl, ?_, ?_⟩)))
  · have : vs.length ≤ fn.ntmps := Nat.le_of_ble_eq_true hn
    simp; omega
  · intro t v hl
    obtain ⟨_, h2⟩ := Zma vs _ _ _ hl
    have ht : t < vs.length := by
      rcases Nat.lt_or_ge t vs.length with h | h
      · exact h
      · rw [Nat.sub_zero, List.getElem?_eq_none h] at h2; cases h2
    simp only [Nat.sub_zero] at h2
    rw [Array.getElem?_append_left (by simpa using ht)]
    simpa using h2
end
end Go.Gw
namespace Go.Gw
open Go.RowKit
def Kd.u32 : Kd Int := Kd.flat 1 (fun x => [.int .u32 x]) (fun x => 0 ≤ x ∧ x < 4294967296) (fun _ => rfl)
theorem Zd6 : Kd.u32.Flat := Kd.flat_flat _ _ _ _
theorem u32_ones : Kd.u32.Ones := by rintro _ _ _ _ ⟨rfl, _⟩ c hc; simp at hc; subst hc; rfl
def Lim (xs : List Int) : Prop := ∀ x ∈ xs, 0 ≤ x ∧ x < 4294967296
theorem Zay {w : World} {F : Nat → Prop} {v : Value} {xs : List Int} (h : Sl Kd.u32 w F v xs) : Lim xs := by
  obtain ⟨A, c, rfl, _, _, h4⟩ := h
  intro x hx
  obtain ⟨i, hi⟩ := List.getElem?_of_mem hx
  obtain ⟨g, o, us, _, _, _, hr, _⟩ := h4 i x hi
  exact hr.2
theorem Lim.ix {xs : List Int} (h : Lim xs) (i : Int) : 0 ≤ ix xs i ∧ ix xs i < 4294967296 := by
  unfold Gw.ix
  by_cases hi : i.toNat < xs.length
  · have e : xs.getD i.toNat default = xs[i.toNat] := by simp [hi]
    rw [e]; exact h _ (List.getElem_mem hi)
  · have e : xs.getD i.toNat default = default := by simp [show xs.length ≤ i.toNat by omega]
    rw [e]; decide
abbrev LX (xs : List Int) := { p : Int × Int // 0 ≤ p.1 ∧ p.1 < xs.length ∧ p.2 = ix xs p.1 }
def encL {xs : List Int} (x : LX xs) : Array Value := #[.int .i64 x.1.1, .int .u32 x.1.2]
def bkt (xs : List Int) (k : Nat) : List (Int × Int) := (List.range k).map fun j : Nat => ((xs.length : Int) - 1 - (j : Int), ix xs ((xs.length : Int) - 1 - (j : Int)))
theorem bkt_succ (xs : List Int) (k : Nat) : bkt xs (k + 1) = bkt xs k ++ [((xs.length : Int) - 1 - k, ix xs ((xs.length : Int) - 1 - k))] := by simp [bkt, List.range_succ]
theorem bkt_len (xs : List Int) (k : Nat) : (bkt xs k).length = k := by simp [bkt]
def KpL (gb n0 : Nat) (A B : World) : Prop := B.heap[gb]? = A.heap[gb]? ∧ Below n0 A B
theorem kpl_t {gb n0 : Nat} {A B C : World} (h : KpL gb n0 A B) (k : KpL gb n0 B C) : KpL gb n0 A C := ⟨k.1.trans h.1, h.2.trans k.2⟩
theorem kpl_b {gb n0 : Nat} {w : World} (hg : gb < w.heap.size) (hn : n0 ≤ w.heap.size) (W : World) (l : Nat) (o o' : Obj) (hl : w.heap.size ≤ l) (h : W.heap[l]? = some o) (h1 : o.isCells = false) (h2 : o.isWalk = false) : KpL gb n0 W (W.putObj l o') :=
  ⟨World.putObj_heap_other om, belowK_b hn W l o o' hl h h1 h2⟩
theorem Blk.kpl {gb n0 t : Nat} {A B : World} {cs : Array Value} (h : Blk A gb t cs) (k : KpL gb n0 A B) : Blk B gb t cs := k.1.trans h
section
variable {ro : Option Nat} {m : Nat} {P : Program} {ops : Array Oper} {Q : Exit → Act → World → Prop} {Zao : List Oper} {n : Nat} {D : List Deferred} {ρ : Env} {w : World}
theorem Zfp {K : Act → World → Prop} (h : Nx n D ρ w (Q .ret)) : Nx n D ρ w (Exit.then K Q .ret) := h
theorem Zd8 {id : Nat} (h : Nx n D ρ w (Q .ret)) : Nx n D ρ w (Exit.inBlock id Q .ret) := h
theorem n_ret0 {fn : Func} {R : Ending → World → Prop} (hr : fn.results = #[]) (h : R (.returned (.tuple #[])) w) : Nx n [] ρ w (bodyPost P fn R .ret) :=
  fun a ha => bodyPost_ret (results_none hr _ _ _) ha.defers h
theorem Zkk {fn : Func} {t ty g : Nat} {v : Value} (hr : fn.results = #[.cell t ty]) (ht : OneF P ty) {a : Act} (ha : a.tmps[t]? = some (.pointer (some ⟨g, 0, none⟩))) (hc : w.cell? ⟨g, 0, none⟩ = some v) : (results fn a.tmps).run P w = .ok v w := by
  obtain ⟨dd, hu, hrow, hs⟩ := ht.out
  have hagg : (isAgg ty).run P w = .ok false w := by
    unfold isAgg; rw [Sem.run_bind, run_underlying hu w]; cases dd <;> simp_all
  have h1 : a.tmps[t]?.getD undef = .pointer (some ⟨g, 0, none⟩) := by rw [ha]; rfl
  simp [results, hr, h1, asAddr, loadVar, Sem.run_bind, hagg, hc, run_load]
theorem w_ret' (h : Nx n D ρ w (Q .ret)) : Gw.W P .ret Q n D ρ w := fun a ha => wp_ret (h a ha)
theorem m_retc {F : Fence} {k : Nat} {fn : Func} {R : Ending → World → Prop} {t ty g tb : Nat} {v : Value} {cs : Array Value} (hr : fn.results = #[.cell t ty]) (ht : OneF P ty) (hl : look ρ t = some (.pointer (some ⟨g, 0, none⟩))) (hb : Blk w g tb cs) (hv : cs[0]? = some v) (h : R (.returned v) w) :
    Nx n [] ρ w (bodyPostM F k P fn R .ret) := by
  intro a ha
  show LeavesInM F k P fn a.tmps R a.defers .returning w
  rw [ha.defers]
  exact ⟨v, Zkk hr ht (ha.slot t _ hl) ((hb.cell 0).trans hv), h⟩
theorem m_retc' {F : Fence} {k Dk : Nat} {fn : Func} {R : Ending → World → Prop} {t ty g tb : Nat} {v : Value} {cs : Array Value} (hr : fn.results = #[.cell t ty]) (ht : OneF P ty) (hl : look ρ t = some (.pointer (some ⟨g, 0, none⟩))) (hb : Blk w g tb cs) (hv : cs[0]? = some v) (hK : w.heap[Dk]? = some (.deferred (some []))) (h : R (.returned v) (w.putObj Dk (.deferred none))) :
    Nx n [{ target := .collected Dk, args := #[] }] ρ w (bodyPostM F k P fn R .ret) := by
  intro a ha
  show LeavesInM F k P fn a.tmps R a.defers .returning w
  rw [ha.defers]
  have hne : g ≠ Dk := by
    rintro rfl
    rw [show w.heap[g]? = _ from hb] at hK; cases hK
  exact ⟨by simp, .inl ⟨Dk, _, rfl, run_takeDeferred hK, v, Zkk hr ht (ha.slot t _ hl) ((show Blk (w.putObj Dk (.deferred none)) g tb cs from (World.putObj_heap_other hne).trans hb).cell 0 |>.trans hv), h⟩⟩
theorem n_own {α : Type} {B : Nat} {Kp : World → World → Prop} {I : List α → World → Prop} {Ix : Code → List α → World → Prop} {xs : List α} {W : World} (h : KeepsFrom B W w ∧ Kp W w ∧ I xs w) : Nx n D ρ w (ownPostG B Kp I Ix xs W .normal) := fun _ _ => h
theorem n_own_ret {α : Type} {B : Nat} {Kp : World → World → Prop} {I : List α → World → Prop} {Ix : Code → List α → World → Prop} {xs : List α} {W : World} (h : KeepsFrom B W w ∧ Ix .ret xs w) : Nx n D ρ w (ownPostG B Kp I Ix xs W .ret) := fun _ _ => h
theorem Below.mark {n0 Dk : Nat} {a w : World} {o o' : Obj} (h : Below n0 a w) (hn : n0 ≤ a.heap.size) (hD : n0 ≤ Dk) (hk : w.heap[Dk]? = some o) : Below n0 a (w.putObj Dk o') :=
  h.grown (grownBy_putObj' w Dk o') (Nat.le_trans hn h.size) (fun k e => by cases e; exact hD)
theorem i_range {xs : List Int} {gb n0 gf N p q : Nat} {g : Operand} {assign body : Code} {S Sp : List (LX xs) → Prop} (hg : opv ρ g = some (.func (.func gf) #[] #[.pointer (some ⟨gb, 0, none⟩)])) (hf : FunF P gf)
    (hseq : SeqStopsK Fence.wide 9 P gf #[.pointer (some ⟨gb, 0, none⟩)] (encL (xs := xs)) (KpL gb n0) S Sp N w) (hgb : gb < w.heap.size) (hn0 : n0 ≤ w.heap.size)
    (I : List (LX xs) → World → Prop) (Ix : Code → List (LX xs) → World → Prop) (hI : OwnFrom w.heap.size I) (hIx : ∀ c, OwnFrom w.heap.size (Ix c)) (h0 : I [] w) (ρx : LX xs → Env)
    (hA : ∀ l x W, IW (some l) 8 P assign (Exit.then (fun a' W' => W' = W ∧ Fr n [] (ρx x) a') (fun _ _ _ => False)) n [] ((q, .int .u32 x.1.2) :: (p, .int .i64 x.1.1) :: ρ) W)
    (hbody : ∀ l pre x W, (w.heap.size ≤ l ∧ l < W.heap.size) → I pre W → pre.length < N → IW (some l) 8 P body (ownPostG w.heap.size (KpL gb n0) I Ix (pre ++ [x]) W) n [] (ρx x) W)
    (hdone : ∀ Dk ys W, w.heap.size ≤ Dk → S ys → I ys W → W.heap[Dk]? = some (.deferred (some [])) → Nx n ({ target := .collected Dk, args := #[] } :: D) ρ W (Q .normal))
    (hstop : ∀ Dk c pre W, w.heap.size ≤ Dk → Sp pre → Ix c pre W → W.heap[Dk]? = some (.deferred (some [])) → Gw.W P c Q n ({ target := .collected Dk, args := #[] } :: D) ρ W)
    (hp : Nat.blt p n = true := by rfl) (hq : Nat.blt q n = true := by rfl) :
    Gw.W P (.rangeFunc g #[p, q] assign body) Q n D ρ w := by
  intro a ha
  refine (wpIn_wide (n := 10)).1 (wpIn_rangeFunc_ownH (F := Fence.wide) (n := 10) (encs := encL (xs := xs)) rfl dc (ha.eval hg) trivial (fun args w => Zf8 hf args w) hseq kpl_t (kpl_b hgb hn0) (Below.refl _ _) (fun _ => rfl) I Ix hI hIx h0
    (fun x a' W => Fr n [] (ρx x) a') (fun x a' => fun _ _ _ _ h _ _ => h) ?_ ?_ ?_ ?_)
  · intro l pre x W K hi hK
    have hF : Fr n [] ((q, .int .u32 x.1.2) :: (p, .int .i64 x.1.1) :: ρ) { tmps := (#[p, q].zip (encL x)).foldl (fun t (p, v) => t.setIfInBounds p v) a.tmps, defers := [] } := by
      have h1 := (Fr.put (D := []) (a := { a with defers := [] }) ⟨rfl, ha.size, ha.slot⟩ (.int .i64 x.1.1) hp)
      have h2 := h1.put (.int .u32 x.1.2) hq
      simpa [encL, Act.put] using h2
    refine wpIn_mono (hA l x W _ hF) ?_
    intro e a' W' hq
    cases e with
    | normal => obtain ⟨rfl, hF'⟩ := hq; exact hK _ _ (KeepsFrom.refl _ _) ⟨rfl, Below.refl _ _⟩ hi hF'
    | _ => exact hq
  · intro l pre x a' W hl hr hi hF hlen
    obtain ⟨r, hr⟩ := hr
    exact hbody l pre x W ⟨hl, (Array.getElem?_eq_some_iff.1 hr).1⟩ hi hlen a' hF
  · intro Dk ys W hD hS hi hK
    exact hdone Dk ys W hD hS hi hK _ ⟨by simp [ha.defers], ha.size, ha.slot⟩
  · intro Dk c pre W hD hS hi hK
    exact wpIn_wide.2 (hstop Dk c pre W hD hS hi hK _ ⟨by simp [ha.defers], ha.size, ha.slot⟩)
theorem n_set {ρ' : Env} (hs : Sub ρ' ρ) : Nx n [] ρ w (Exit.then (fun a' W' => W' = w ∧ Fr n [] ρ' a') (fun _ _ _ => False) .normal) := fun a ha => ⟨rfl, ha.sub hs⟩
end
theorem Blk.ownK {B g t : Nat} {W W' : World} {row : Option Nat} {cs : Array Value} (h : Blk W g t cs) (hg : W.grownBy W' row) (hr : ∀ r, row = some r → B ≤ r ∧ ∃ o : Obj, W.heap[r]? = some o ∧ o.isCells = false) : Blk W' g t cs :=
  h.grown hg (by
    rintro rfl
    obtain ⟨_, o, ho, hc⟩ := hr g rfl
    rw [show W.heap[g]? = _ from h] at ho
    cases ho; cases hc)
theorem Below.ownK {n0 B : Nat} {w W W' : World} {row : Option Nat} (h : Below n0 w W) (hn : n0 ≤ w.heap.size) (hB : n0 ≤ B) (hg : W.grownBy W' row) (hr : ∀ r, row = some r → B ≤ r ∧ ∃ o : Obj, W.heap[r]? = some o ∧ o.isCells = false) : Below n0 w W' :=
  h.grown hg (Nat.le_trans hn h.size) (fun k e => Nat.le_trans hB (hr k e).1)
theorem Own.ownK {α : Type} {K : Kd α} {e base B : Nat} {W W' : World} {row : Option Nat} {v : Value} {xs : List α} (h : Gw.Own K e base W (fun _ => False) v xs) (hK : K.Flat) (hg : W.grownBy W' row) (hr : ∀ r, row = some r → B ≤ r ∧ ∃ o : Obj, W.heap[r]? = some o ∧ o.isCells = false) : Gw.Own K e base W' (fun _ => False) v xs := by
  refine Own.keptF hK h hg ?_
  obtain ⟨us, hl, hr', ho⟩ := h.out
  rcases ho.2 with ⟨rfl, h0⟩ | ⟨g, cap, cur, rfl, hb, hg', _⟩
  · exact .inl rfl
  · refine .inr ?_
    rintro rfl
    obtain ⟨_, o, ho', hc⟩ := hr g (by simp [Value.ownBlock])
    rw [hg'] at ho'
    cases ho'; cases hc
theorem Sl.mark {α : Type} {K : Kd α} (hK : K.Flat) {w : World} {v : Value} {xs : List α} {Dk : Nat} (h : Sl K w (fun _ => False) v xs) (hk : w.heap[Dk]? = some (.deferred (some []))) : Sl K (w.putObj Dk (.deferred Option.none)) (fun _ => False) v xs := by
  obtain ⟨A, c, e, h1, h2, h3⟩ := h
  refine ⟨A, c, e, h1, h2, fun i x hx => ?_⟩
  obtain ⟨g, o, us, ea, hg, hF, hr, hc⟩ := h3 i x hx
  refine ⟨g, o, us, ea, by simpa using hg, hF, hK _ _ _ _ _ _ hr, fun j u hu => ?_⟩
  have h4 := hc j u hu
  have hne : g ≠ Dk := by
    rintro rfl
    unfold World.cell? at h4
    rw [hk] at h4
    simp at h4
  unfold World.cell? at h4 ⊢
  simp only [World.putObj_heap_other hne]
  exact h4
end Go.Gw
namespace Go.Gw
open Go.RowKit Go.ChangeShapes Go.WideShapes Go.ChangeAt Go.Deep
section
variable {H : Type} {enc : TypeId × Value → H} {P : Program} {w : World} {α : Type} {K : Kd α}
theorem sl_of_trodC {t e : TypeId} {v : Value} {d : DataW H} {p : List MemPlace} (ht : P.underlying t = some (.slice e)) (hC : P.cellsOf e = K.sz) (hpos : 0 < K.sz)
    (hel : ∀ (n : Nat) (cs : List Value) (x : DataW H × List MemPlace), DataW.trod enc P w 0 (fun _ => true) true n e cs = some x → ∃ a : α, K.rep w (fun _ => False) cs a)
    (hv : ∃ A len cap, v = .slice A len cap) (h : DataW.Trod enc P w 0 (fun _ => true) true t v d p) : ∃ xs : List α, Sl K w (fun _ => False) v xs := by
  obtain ⟨A, len, cap, rfl⟩ := hv
  obtain ⟨fuel, hf⟩ := h
  rcases open_slice ht hf with ⟨hcs, _⟩ | ⟨a, len', cap', m, n, D, Pl, hcs, hb, hl, hm, hmm, hx, hi⟩
  · simp [Value.cells] at hcs
    obtain ⟨rfl, rfl, rfl⟩ := hcs
    exact ⟨[], none, 0, rfl, Nat.le_refl _, by simp [maxLen], fun i x hx => by simp at hx⟩
  · simp [Value.cells] at hcs
    obtain ⟨rfl, rfl, rfl⟩ := hcs
    have hlm : len ≤ m := by simp at hmm; omega
    have hex : ∀ i : Fin len, ∃ (x : α) (cs : List Value), K.rep w (fun _ => False) cs x ∧ w.cells? 0 (a.add (i * P.cellsOf e)) (P.cellsOf e) = some cs := by
      intro i
      obtain ⟨cs', hc, ht'⟩ := hi i om
      obtain ⟨x, hx⟩ := hel _ _ _ ht'
      exact ⟨x, cs', hx, hc⟩
    let f : Fin len → α := fun i => Classical.choose (hex i)
    refine ⟨List.ofFn f, some a, cap, by simp, by simpa using hl, hm, fun i x hx => ?_⟩
    have hil : i < len := by have := (List.getElem?_eq_some_iff.1 hx).1; simpa using this
    rw [List.getElem?_eq_getElem (by simpa using hil), List.getElem_ofFn] at hx
    obtain rfl := Option.some.inj hx
    obtain ⟨cs, hrep, hc⟩ := Classical.choose_spec (hex ⟨i, hil⟩)
    obtain ⟨_, hcl, hat⟩ := World.cells?_some hc
    obtain ⟨cs1, hc1, _⟩ := hi 0 om
    obtain ⟨_, hcl1, hat1⟩ := World.cells?_some hc1
    have h0 := hat1 0 om
    rw [List.getElem?_eq_getElem om] at h0
    have hsp : a = ⟨a.block, a.off, none⟩ ∧ a.block < w.heap.size := spot_none (v := cs1[0]'om) (by simpa [Addr.add] using h0)
    obtain ⟨b, o, s⟩ := a
    obtain ⟨hs, hlt⟩ := hsp
    simp only [Addr.mk.injEq, true_and] at hs
    subst hs
    refine ⟨b, o, cs, rfl, hlt, fun h => h, hrep, fun j v hj => ?_⟩
    have hjl : j < cs.length := (List.getElem?_eq_some_iff.1 hj).1
    have h2 := hat j om
    rw [hj] at h2
    rw [← hC]
    simp only [Addr.add_mid] at h2
    exact h2
theorem wf_u32 {a : Int} (h : (Lit.int .u32 a).wf = true) : 0 ≤ a ∧ a < 4294967296 := by
  unfold Lit.wf at h
  rw [Bool.and_eq_true, decide_eq_true_eq, decide_eq_true_eq] at h
  have h1 : IntKind.u32.min = 0 := rfl
  have h2 : IntKind.u32.max = 4294967295 := by decide
  rw [h1] at h
  rw [h2] at h
  omega
theorem u32_trod {te : Nat} (he : P.underlying te = some (.int .u32)) (n : Nat) (cs : List Value) (x : DataW H × List MemPlace) (h : DataW.trod enc P w 0 (fun _ => true) true n te cs = some x) : ∃ a : Int, Kd.u32.rep w (fun _ => False) cs a := by
  obtain ⟨m, rfl, _, hw⟩ := DataW.trod_int he h
  exact ⟨m, rfl, wf_u32 hw⟩
structure BigF (P : Program) (t tb ts te : Nat) : Prop where
  is : Zgj P t = [(true, tb, 0), (true, ts, 1)]
  bool : P.underlying tb = some .bool
  sl : P.underlying ts = some (.slice te)
  int : P.underlying te = some (.int .u32)
  ct : P.cellsOf t = 2
  cb : P.cellsOf tb = 1
  cs : P.cellsOf ts = 1
  ce : P.cellsOf te = 1
theorem Zj7 {t : Nat} {l : List (Bool × Nat × Nat)} (h : Zgj P t = l) (hne : l ≠ []) : ∃ fs : Array Field, P.underlying t = some (.struct fs) ∧ fs.size = l.length ∧ ∀ (i : Nat) (b : Bool) (ty o : Nat), l[i]? = some (b, ty, o) → ∃ f : Field, fs[i]? = some f ∧ f.type = ty ∧ f.offset = o := by
  unfold Zgj at h
  split at h
  · rename_i fs hu
    subst h
    refine ⟨fs, hu, by simp, fun i b ty o hi => ?_⟩
    rw [List.getElem?_map] at hi
    cases hf : fs.toList[i]? with
    | none => rw [hf] at hi; cases hi
    | some f =>
      rw [hf] at hi
      simp at hi
      exact ⟨f, by simpa using hf, hi.2.1, hi.2.2⟩
  · exact absurd h.symm hne
theorem Zmd {t tb ts te : Nat} (h : BigF P t tb ts te) (n : Nat) (cs : List Value) (x : DataW H × List MemPlace) (hx : DataW.trod enc P w 0 (fun _ => true) true n t cs = some x) : ∃ ng s xs, cs = [.bool ng, s] ∧ Sl Kd.u32 w (fun _ => False) s xs := by
  obtain ⟨fs, hu, hsz, hfs⟩ := Zj7 h.is (by simp)
  obtain ⟨f0, g0, t0, o0⟩ := hfs 0 _ _ _ rfl
  obtain ⟨f1, g1, t1, o1⟩ := hfs 1 _ _ _ rfl
  obtain ⟨xs, m, _, _, hlen, hxl, hf⟩ := DataW.trod_struct hu hx
  rw [h.ct] at hlen
  match cs, hlen with
  | [c0, c1], _ =>
    have h0 := hf 0 f0 g0
    have h1 := hf 1 f1 g1
    rw [t0, o0, h.cb] at h0
    rw [t1, o1, h.cs] at h1
    have hx0 : 0 < xs.length := by rw [hxl, hsz]; simp
    have hx1 : 1 < xs.length := by rw [hxl, hsz]; simp
    rw [List.getElem?_eq_getElem hx0] at h0
    rw [List.getElem?_eq_getElem hx1] at h1
    obtain ⟨b, e0, _⟩ := DataW.trod_bool h.bool h0
    have e0' : c0 = .bool b := by simpa using e0
    have h1' : DataW.trod enc P w 0 (fun _ => true) true m ts [c1] = some xs[1] := by simpa using h1
    have hv : ∃ A len cap, c1 = .slice A len cap := by
      rcases DataW.trod_slice h.sl h1' with ⟨e, _⟩ | ⟨a, len, cap, _, _, _, _, e, _⟩
      · exact ⟨none, 0, 0, by simpa using e⟩
      · exact ⟨some a, len, cap, by simpa using e⟩
    have hc : c1.cells.toList = [c1] := by obtain ⟨A, len, cap, rfl⟩ := hv; rfl
    obtain ⟨ys, hs⟩ := sl_of_trodC (K := Kd.u32) (d := (xs[1]).1) (p := (xs[1]).2) h.sl (by rw [h.ce]; rfl) dc (u32_trod h.int) hv ⟨m, by rw [hc]; exact h1'⟩
    exact ⟨b, c1, ys, by rw [e0'], hs⟩
end
end Go.Gw

