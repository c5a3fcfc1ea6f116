/- Part of the proof that is named in YtdeiiagkbbimhaaNRowCanJust: a library for walks, or a function's walk. -/
import Derived.Test.YtdeiiagkbbimhaaNodeSpec
namespace Go.Gw
theorem ix_at {α : Type} [Inhabited α] (xs : List α) (i : Int) (h0 : 0 ≤ i) (h : i < xs.length) : xs[i.toNat]? = some (ix xs i) := by
  have h1 : i.toNat < xs.length := by omega
  unfold ix
  simp [List.getElem?_eq_getElem h1]
theorem eq_of_ix {α : Type} [Inhabited α] {l m : List α} (h : l.length = m.length) (h2 : ∀ i : Int, 0 ≤ i → i < l.length → ix l i = ix m i) : l = m := by
  apply List.ext_getElem h
  intro n h3 h4
  have h5 := h2 n (by omega) (by omega)
  have a := ix_at l n (by omega) (by omega)
  have b := ix_at m n (by omega) (by omega)
  simp only [Int.toNat_natCast, List.getElem?_eq_getElem h3, List.getElem?_eq_getElem h4, Option.some.injEq] at a b
  rw [a, b, h5]
def Nd.eqv (l m : List Nd) : Bool := decide (l = m)
theorem same_len {l m : List Nd} (h : l.length ≠ m.length) : Nd.eqv l m = false := by
  unfold Nd.eqv; rw [decide_eq_false_iff_not]; intro e; exact h (by rw [e])
theorem same_at {l m : List Nd} (i : Int) (h : ix l i ≠ ix m i) : Nd.eqv l m = false := by
  unfold Nd.eqv; rw [decide_eq_false_iff_not]; intro e; exact h (by rw [e])
theorem same_all {l m : List Nd} (h : l.length = m.length) (h2 : ∀ i : Int, 0 ≤ i → i < l.length → ix l i = ix m i) : Nd.eqv l m = true := by
  unfold Nd.eqv; rw [decide_eq_true_eq]; exact eq_of_ix h h2

/-! ### the document's empties -/
def emptL (l : List Nd) : List Bool := (hasL l).map (!·)
def emptK (x : Nd) (out : List Bool) (k : Int) : Bool := ((kids x).take k.toNat).all fun c => decide (c = 0) || (decide (1 < x.lv) && ix out c)
theorem emptK_zero (x : Nd) (out : List Bool) : emptK x out 0 = true := rfl
theorem emptK_step (x : Nd) (out : List Bool) (k : Int) (h0 : 0 ≤ k) (h1 : k < 4) :
    emptK x out (k + 1) = (emptK x out k && (decide (x.kid k = 0) || (decide (1 < x.lv) && ix out (x.kid k)))) := by
  have : k = 0 ∨ k = 1 ∨ k = 2 ∨ k = 3 := by omega
  rcases this with rfl | rfl | rfl | rfl <;> simp [emptK, kids, Nd.kid, sel4, List.take, Int.toNat, Bool.and_assoc]
def partE (l : List Nd) (i : Int) : List Bool := (hasL (l.take i.toNat)).map (!·) ++ List.replicate (l.length - i.toNat) false
theorem partE_length (l : List Nd) (i : Int) (h0 : 0 ≤ i) (h : i ≤ l.length) : (partE l i).length = l.length + 1 := by
  simp [partE, hasL_length]; omega
theorem partE_zero (l : List Nd) : (List.replicate ((l.length : Int) + 1).toNat false).set (Int.toNat 0) true = partE l 0 := by
  have : ((l.length : Int) + 1).toNat = l.length + 1 := by omega
  rw [this]
  simp [partE, hasL, List.replicate_succ]
theorem ix_map_not (xs : List Bool) (i : Int) (h0 : 0 ≤ i) (h : i < xs.length) : ix (xs.map (!·)) i = !(ix xs i) := by
  have a := ix_at (xs.map (!·)) i h0 (by simpa using h)
  have b := ix_at xs i h0 h
  rw [List.getElem?_map, b] at a
  simpa using a.symm
theorem partE_set (l : List Nd) (i : Int) (h0 : 0 ≤ i) (h : i < l.length) (hok : (ix l i).lv ≠ 1 → ∀ k, 0 ≤ k → k < 4 → (ix l i).kid k ≠ 0 → 0 ≤ (ix l i).kid k ∧ (ix l i).kid k ≤ i)
    (hlv : 1 ≤ (ix l i).lv) :
    (partE l i).set (i + 1).toNat (emptK (ix l i) (partE l i) 4) = partE l (i + 1) := by
  have hlen : ((hasL (l.take i.toNat)).map (!·)).length = i.toNat + 1 := by simp [hasL_length]; omega
  have hrep : List.replicate (l.length - i.toNat) false = false :: List.replicate (l.length - (i + 1).toNat) false := by
    rw [show l.length - i.toNat = (l.length - (i + 1).toNat) + 1 by omega, List.replicate_succ]
  have hh : emptK (ix l i) (partE l i) 4 = !(hasN (ix l i) (hasL (l.take i.toNat))) := by
    have hk : ∀ k, 0 ≤ k → k < 4 → (decide ((ix l i).kid k = 0) || (decide (1 < (ix l i).lv) && ix (partE l i) ((ix l i).kid k))) = !(hasK (ix l i) (hasL (l.take i.toNat)) ((ix l i).kid k)) := by
      intro k k0 k1
      by_cases hc : (ix l i).kid k = 0
      · simp [hc, hasK]
      · by_cases h1 : (ix l i).lv = 1
        · simp [hc, h1, hasK]
        · have h2 := hok h1 k k0 k1 hc
          have h3 : 1 < (ix l i).lv := by omega
          have h4 : ix (partE l i) ((ix l i).kid k) = !(ix (hasL (l.take i.toNat)) ((ix l i).kid k)) := by
            unfold partE
            rw [ix_append_left _ _ _ h2.1 (by rw [hlen]; omega), ix_map_not _ _ h2.1 (by simp [hasL_length]; omega)]
          simp [hc, h1, h3, h4, hasK]
    have a0 := hk 0 (by omega) (by omega)
    have a1 := hk 1 (by omega) (by omega)
    have a2 := hk 2 (by omega) (by omega)
    have a3 := hk 3 (by omega) (by omega)
    simp only [Nd.kid, sel4] at a0 a1 a2 a3
    simp at a0 a1 a2 a3
    simp only [emptK, kids, hasN, show (4 : Int).toNat = 4 from rfl, List.take, List.all_cons, List.all_nil, List.any_cons, List.any_nil, Bool.and_true, Bool.or_false, Bool.not_or]
    simp [a0, a1, a2, a3]
  rw [hh]
  conv => rhs; unfold partE; rw [take_succ_ix l i h0 h, hasL_snoc, List.map_append]
  unfold partE
  rw [List.set_append_right _ _ (by rw [hlen]; omega), hlen, hrep, show (i + 1).toNat - (i.toNat + 1) = 0 by omega]
  simp
theorem partE_end (l : List Nd) : partE l l.length = emptL l := by simp [partE, emptL]
theorem emptL_length (l : List Nd) : (emptL l).length = l.length + 1 := by simp [emptL, hasL_length]
theorem emptL_at (l : List Nd) (n : Int) (h0 : 0 ≤ n) (h1 : n ≤ l.length) : ix (emptL l) n = !(ix (hasL l) n) := by
  unfold emptL; exact ix_map_not _ _ h0 (by rw [hasL_length]; omega)
/-! ### is `false` in a list, and the first place -/
def idxB (xs : List Bool) (b : Bool) : Int := if b ∈ xs then ((xs.idxOf b : Nat) : Int) else -1
theorem idxB_at {xs : List Bool} {b : Bool} (i : Int) (h0 : 0 ≤ i) (h1 : i < xs.length) (h : (b == ix xs i) = true) : b ∈ xs := by
  have a := ix_at xs i h0 h1
  rw [beq_iff_eq] at h
  rw [← h] at a
  exact List.mem_of_getElem? a
theorem notin_of {xs : List Bool} {b : Bool} (h : ∀ j : Int, 0 ≤ j → j < xs.length → (b == ix xs j) = false) : ¬ b ∈ xs := by
  intro hm
  obtain ⟨n, hn, e⟩ := List.mem_iff_getElem.1 hm
  have a := ix_at xs n (by omega) (by omega)
  have c := h n (by omega) (by omega)
  simp only [Int.toNat_natCast, List.getElem?_eq_getElem hn, Option.some.injEq] at a
  rw [← a, e] at c
  simp at c
theorem hasL_zero (l : List Nd) : ix (hasL l) 0 = false := by
  have h : ∀ (l : List Nd) (acc : List Bool), acc ≠ [] → ix (l.foldl (fun out x => out ++ [hasN x out]) acc) 0 = ix acc 0 := by
    intro l
    induction l with
    | nil => intro acc _; rfl
    | cons x r ih =>
      intro acc ha
      rw [List.foldl_cons, ih _ (by simp)]
      cases acc with
      | nil => exact absurd rfl ha
      | cons y ys => rfl
  exact h l [false] (by simp)
theorem hasL_nz {l : List Nd} {g : Int} (h : ix (hasL l) g = true) : g ≠ 0 := by
  intro e; rw [e, hasL_zero] at h; cases h
end Go.Gw
