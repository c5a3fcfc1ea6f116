/- Part of the proof that is named in YtencmmhfiepojaaXRowJoins: a library for walks, or a function's walk. -/
import Derived.Test.YtencmmhfiepojaaNodeSpec3
import Derived.Test.YtencmmhfiepojaaGw17
set_option linter.unusedVariables false
set_option linter.unusedSimpArgs false
namespace Go.Gw
def signB (c : Int) : Bool := decide (33 ≤ c) && decide (c ≤ 126)
def ruleB (xs : List Int) : Bool := decide (1 ≤ xs.length) && decide (xs.length ≤ 40) && xs.all signB
def comL : List Int → List Int → Int
  | x :: r, y :: q => if x = y then comL r q + 1 else 0
  | _, _ => 0
def cntN (xs : List Int) (c : Int) : Nat → Int
  | 0 => 0
  | n + 1 => cntN xs c n + if ix xs n = c then 1 else 0
def lastN (xs : List Int) (c : Int) : Nat → Int
  | 0 => -1
  | n + 1 => if ix xs n = c then (n : Int) else lastN xs c n
def plL (xs : List Int) (p : Int) : Int := if p < 0 ∨ (xs.length : Int) < p then 0 else 1 + cntN xs 10 p.toNat
def plC (xs : List Int) (p : Int) : Int := if p < 0 ∨ (xs.length : Int) < p then 0 else p - lastN xs 10 p.toNat
theorem all_ix {α : Type} [Inhabited α] {p : α → Bool} {xs : List α} (h : ∀ j : Int, 0 ≤ j → j < xs.length → p (ix xs j) = true) : xs.all p = true := by
  rw [List.all_eq_true]
  intro x hx
  obtain ⟨i, h0, h1, rfl⟩ := mem_ix hx
  exact h i h0 h1
theorem all_no {α : Type} [Inhabited α] {p : α → Bool} {xs : List α} (i : Int) (h0 : 0 ≤ i) (h1 : i < xs.length) (h : p (ix xs i) = false) : xs.all p = false := by
  rw [List.all_eq_false]
  exact ⟨_, ix_mem h0 h1, by simp [h]⟩
theorem sign_at (c : Int) (h : 32 < c) : decide (c < 127) = signB c := by
  unfold signB; rw [decide_eq_true (show 33 ≤ c by omega), Bool.true_and, decide_eq_decide]; omega
theorem sign_no (c : Int) (h : ¬ 32 < c) : signB c = false := by
  unfold signB; rw [decide_eq_false (show ¬ 33 ≤ c by omega), Bool.false_and]
theorem rule_len {xs : List Int} (h : (xs.length : Int) = 0 ∨ 40 < (xs.length : Int)) : ruleB xs = false := by
  unfold ruleB
  rcases h with h | h
  · rw [decide_eq_false (show ¬ 1 ≤ xs.length by omega)]; simp
  · rw [decide_eq_false (show ¬ xs.length ≤ 40 by omega)]; simp
theorem rule_no {xs : List Int} (i : Int) (h0 : 0 ≤ i) (h1 : i < xs.length) (h : signB (ix xs i) = false) : ruleB xs = false := by
  unfold ruleB; rw [all_no i h0 h1 h]; simp
theorem rule_yes {xs : List Int} (h : ∀ j : Int, 0 ≤ j → j < xs.length → signB (ix xs j) = true) : ruleB xs = (decide (1 ≤ (xs.length : Int)) && decide ((xs.length : Int) ≤ 40)) := by
  unfold ruleB; rw [all_ix h, Bool.and_true]
  congr 1 <;> rw [decide_eq_decide] <;> omega
theorem bl_nil : bl ⟨#[]⟩ = [] := rfl
theorem com_at : ∀ (a b : List Int) (i : Int), 0 ≤ i → i ≤ a.length → i ≤ b.length → (∀ j : Int, 0 ≤ j → j < i → ix a j = ix b j) → (i = a.length ∨ i = b.length ∨ ix a i ≠ ix b i) → comL a b = i
  | [], b, i, h0, h1, h2, h3, h4 => by simp at h1; simp [comL]; omega
  | x :: r, [], i, h0, h1, h2, h3, h4 => by simp at h2; simp [comL]; omega
  | x :: r, y :: q, i, h0, h1, h2, h3, h4 => by
    simp only [List.length_cons] at h1 h2 h4
    by_cases hi : i = 0
    · subst hi
      have : x ≠ y := by
        rcases h4 with h | h | h
        · omega
        · omega
        · exact h
      simp [comL, this]
    · have e : x = y := h3 0 (by omega) (by omega)
      have ih := com_at r q (i - 1) (by omega) (by omega) (by omega) (fun j j0 j1 => by
        have := h3 (j + 1) (by omega) (by omega)
        rw [ix_cons _ _ _ (by omega), ix_cons _ _ _ (by omega), show j + 1 - 1 = j by omega] at this
        exact this) (by
        rcases h4 with h | h | h
        · exact .inl (by omega)
        · exact .inr (.inl (by omega))
        · rw [ix_cons _ _ _ (by omega), ix_cons _ _ _ (by omega)] at h
          exact .inr (.inr h))
      simp only [comL, if_pos e, ih]
      omega
theorem com_app (a b c : List Int) : comL (a ++ b) (a ++ c) = a.length + comL b c := by
  induction a with
  | nil => simp
  | cons x r ih => simp [comL, ih]; omega
theorem com_comm : ∀ a b : List Int, comL a b = comL b a
  | [], [] => rfl
  | [], y :: q => rfl
  | x :: r, [] => rfl
  | x :: r, y :: q => by
    simp only [comL, com_comm r q]
    by_cases h : x = y
    · rw [if_pos h, if_pos h.symm]
    · rw [if_neg h, if_neg (fun e => h e.symm)]
theorem com_rng : ∀ a b : List Int, 0 ≤ comL a b ∧ comL a b ≤ a.length
  | [], b => by simp [comL]
  | x :: r, [] => by simp [comL]; omega
  | x :: r, y :: q => by
    have := com_rng r q
    simp only [comL, List.length_cons]
    split <;> omega
theorem rule_app {a b : List Int} (ha : ruleB a = true) (hb : ruleB b = true) : ruleB (a ++ b) = decide ((a.length : Int) + b.length ≤ 40) := by
  unfold ruleB at *
  simp only [Bool.and_eq_true, decide_eq_true_eq] at ha hb
  rw [List.all_append, ha.2, hb.2, List.length_append, decide_eq_true (show 1 ≤ a.length + b.length by omega)]
  simp
  omega
theorem take_ix {α : Type} [Inhabited α] (xs : List α) (m : Nat) (i : Int) (h0 : 0 ≤ i) (h : i < m) : ix (xs.take m) i = ix xs i := by
  unfold ix
  rw [List.getD_eq_getElem?_getD, List.getD_eq_getElem?_getD, List.getElem?_take, if_pos (by omega)]
theorem cnt_take (xs : List Int) (c : Int) : ∀ n : Nat, n ≤ xs.length → ((xs.take n).count c : Int) = cntN xs c n
  | 0, _ => by simp [cntN]
  | n + 1, h => by
    have ih := cnt_take xs c n (by omega)
    have e : xs.take (n + 1) = xs.take n ++ [ix xs n] := by
      rw [List.take_add_one, show xs[n]? = some (ix xs n) from by have := ix_at xs n (by omega) (by omega); simpa using this]; rfl
    rw [e, List.count_append]
    simp only [cntN, ← ih]
    by_cases h : ix xs n = c
    · rw [if_pos h, h]; simp
    · rw [if_neg h, List.count_eq_zero_of_not_mem (a := c) (l := [ix xs n]) (by simp; exact fun e => h e.symm)]; simp
theorem last_take (xs : List Int) (c : Int) (m : Nat) : ∀ n : Nat, n ≤ m → lastN (xs.take m) c n = lastN xs c n
  | 0, _ => rfl
  | n + 1, h => by
    simp only [lastN, last_take xs c m n (by omega), take_ix xs m n (by omega) (by omega)]
theorem cnt_rng (xs : List Int) (c : Int) : ∀ n : Nat, 0 ≤ cntN xs c n ∧ cntN xs c n ≤ n
  | 0 => by simp [cntN]
  | n + 1 => by have := cnt_rng xs c n; simp only [cntN]; split <;> omega
theorem last_rng (xs : List Int) (c : Int) : ∀ n : Nat, -1 ≤ lastN xs c n ∧ lastN xs c n < n
  | 0 => by simp [lastN]
  | n + 1 => by have := last_rng xs c n; simp only [lastN]; split <;> omega
theorem pl_in {xs : List Int} {p : Int} (h0 : 0 ≤ p) (h1 : p ≤ xs.length) : plL xs p = 1 + cntN xs 10 p.toNat ∧ plC xs p = p - lastN xs 10 p.toNat := by
  unfold plL plC; rw [if_neg (by omega), if_neg (by omega)]; exact ⟨rfl, rfl⟩
theorem pl_out {xs : List Int} {p : Int} (h : p < 0 ∨ (xs.length : Int) < p) : plL xs p = 0 ∧ plC xs p = 0 := by
  unfold plL plC; rw [if_pos h, if_pos h]; exact ⟨rfl, rfl⟩
theorem pl_cut {s : ByteArray} {p : Int} (h0 : 0 ≤ p) (h1 : p ≤ (bl s).length) :
    (((bl (s.extract 0 p.toNat)).count 10 : Nat) : Int) = cntN (bl s) 10 p.toNat ∧ lastN (bl (s.extract 0 p.toNat)) 10 (bl (s.extract 0 p.toNat)).length = lastN (bl s) 10 p.toNat := by
  rw [bl_extract, List.drop_zero]
  refine ⟨cnt_take _ _ _ (by omega), ?_⟩
  rw [last_take _ _ _ _ (by rw [List.length_take]; omega), List.length_take, Nat.min_eq_left (by omega)]
theorem cnt_next {xs : List Int} {i : Int} (h0 : 0 ≤ i) : cntN xs 10 (i + 1).toNat = cntN xs 10 i.toNat + if ix xs i = 10 then 1 else 0 := by
  rw [show (i + 1).toNat = i.toNat + 1 by omega]; simp only [cntN]; rw [show ((i.toNat : Nat) : Int) = i by omega]
theorem last_next {xs : List Int} {c i : Int} (h0 : 0 ≤ i) : lastN xs c (i + 1).toNat = if ix xs i = c then i else lastN xs c i.toNat := by
  rw [show (i + 1).toNat = i.toNat + 1 by omega]; simp only [lastN]; rw [show ((i.toNat : Nat) : Int) = i by omega]
theorem pl_next {xs : List Int} {i : Int} (h0 : 0 ≤ i) (h1 : i < xs.length) :
    (ix xs i = 10 → plL xs (i + 1) = plL xs i + 1 ∧ plC xs (i + 1) = 1) ∧ (¬ ix xs i = 10 → plL xs (i + 1) = plL xs i ∧ plC xs (i + 1) = plC xs i + 1) := by
  have a := pl_in (xs := xs) (p := i) h0 (by omega)
  have b := pl_in (xs := xs) (p := i + 1) (by omega) (by omega)
  rw [a.1, a.2, b.1, b.2, cnt_next h0, last_next h0]
  constructor <;> intro h
  · rw [if_pos h, if_pos h]; omega
  · rw [if_neg h, if_neg h]; omega
theorem pl_rng {xs : List Int} {p : Int} (hx : (xs.length : Int) ≤ 9223372036854775800) : 0 ≤ plL xs p ∧ plL xs p ≤ xs.length + 1 ∧ 0 ≤ plC xs p ∧ plC xs p ≤ xs.length + 1 := by
  by_cases h : p < 0 ∨ (xs.length : Int) < p
  · have := pl_out h; omega
  · have := pl_in (xs := xs) (p := p) (by omega) (by omega)
    have := cnt_rng xs 10 p.toNat
    have := last_rng xs 10 p.toNat
    omega
end Go.Gw
