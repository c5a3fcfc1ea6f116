/- Part of the proof that is named in YtencmmhfiepojaaLRowBack: a library for walks, or a function's walk. -/
import Derived.Test.YtencmmhfiepojaaLimbSpec8
set_option linter.unusedSimpArgs false
set_option linter.unusedVariables false
namespace Go.Gw
open Go.RowKit
theorem add_len {a b : List Int} (ha : Lim a) (hb : Lim b) : (tl (nv a + nv b)).length ≤ a.length + b.length + 1 := by
  have h1 := nv_lt ha
  have h2 := nv_lt hb
  have h3 := PW_le (show a.length ≤ a.length + b.length by omega)
  have h4 := PW_le (show b.length ≤ a.length + b.length by omega)
  refine tl_len (by have := nv_nonneg ha; have := nv_nonneg hb; omega) ?_
  have h5 := PW_pos (a.length + b.length)
  rw [PW_succ]; omega
theorem shl_len {a : List Int} (ha : Lim a) {k : Nat} (hk : k ≤ 10016) : (tl (nv a * 2 ^ k)).length ≤ a.length + 313 := by
  have h1 := nv_lt ha
  have h0 := nv_nonneg ha
  refine tl_len (Int.mul_nonneg h0 (Int.le_of_lt (two_pos k))) ?_
  rw [PW_add]
  have hp : (2 : Int) ^ k ≤ PW 313 := by
    rw [PW_two, show 32 * 313 = k + (10016 - k) by omega, Int.pow_add]
    have := Int.mul_le_mul_of_nonneg_left (show 1 ≤ (2 : Int) ^ (10016 - k) from two_pos _) (Int.le_of_lt (two_pos k))
    omega
  have h2 := Int.mul_le_mul_of_nonneg_left hp h0
  have h3 := Int.mul_lt_mul_of_pos_right h1 (PW_pos 313)
  exact Int.lt_of_le_of_lt h2 h3
theorem div_len {a : List Int} (ha : Lim a) (m : Int) : (tl (nv a / m)).length ≤ a.length := by
  by_cases h : 0 ≤ nv a / m
  · refine tl_len h (Int.lt_of_le_of_lt (Int.ediv_le_self _ (nv_nonneg ha)) (nv_lt ha))
  · rw [tl_zero (by omega)]; simp
theorem nv_len (a : List Int) (ha : Lim a) : (tl (nv a)).length ≤ a.length := tl_len (nv_nonneg ha) (nv_lt ha)
theorem back_len {m : Int} (hm : 0 ≤ m) (h : 0 < ((tl m).length : Int)) {k : Int} (hk : 0 ≤ k) : blen (nv (tl (m * 2 ^ k.toNat))) = blen m + k := by
  have h0 : 0 < m := by
    rcases Int.lt_or_le 0 m with h1 | h1
    · exact h1
    · rw [tl_zero h1] at h; simp at h
  rw [nv_tl (Int.mul_nonneg hm (Int.le_of_lt (two_pos _)))]
  have := blen_add (N := m) (l := 0) (j := k.toNat) h0 ⟨Int.le_refl _, two_pos _⟩
  rw [Int.zero_add, Int.mul_comm] at this
  rw [this]; omega
theorem back_shift {m k : Int} (hm : 0 ≤ m) (h0 : 0 ≤ k) (h1 : k ≤ 10000) : shrL (tl (m * 2 ^ k.toNat)) k = tl m := by
  unfold shrL
  rw [if_pos (fit_yes h0 h1), nv_tl (Int.mul_nonneg hm (Int.le_of_lt (two_pos _))), Int.mul_ediv_cancel _ (by have := two_pos k.toNat; omega)]
theorem back_div {m t : Int} (hm : 0 ≤ m) (ht : 0 < t) : tl (nv (tl (m / t)) * t + m % t) = tl m := by
  rw [nv_tl (Int.ediv_nonneg hm (by omega)), Int.mul_comm, Int.mul_ediv_add_emod]
theorem back_sub {a b : Int} (ha : 0 ≤ a) (hb : 0 ≤ b) : tl (nv (tl (a + b)) - b) = tl a := by
  rw [nv_tl (by omega), Int.add_sub_cancel]
theorem shl_fit (a : List Int) {k : Int} (h0 : 0 ≤ k) (h1 : k ≤ 10000) : shlL a k = tl (nv a * 2 ^ k.toNat) := if_pos (fit_yes h0 h1)
end Go.Gw
