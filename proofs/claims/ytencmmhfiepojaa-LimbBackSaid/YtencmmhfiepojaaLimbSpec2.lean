/- Part of the proof that is named in YtencmmhfiepojaaLRowBack: a library for walks, or a function's walk. -/
import Derived.Test.YtencmmhfiepojaaLimbSpec
set_option linter.unusedSimpArgs false
set_option linter.unusedVariables false
/-! ### Differences, products, shifts -/
namespace Go.Gw
open Go.RowKit
theorem ix_set_ne {a : List Int} {i j v : Int} (h0 : 0 ≤ i) (h1 : 0 ≤ j) (h : i ≠ j) : ix (a.set i.toNat v) j = ix a j := by
  unfold ix
  simp [List.getD_eq_getElem?_getD, List.getElem?_set, show ¬ i.toNat = j.toNat by omega]
theorem ix_set_eq {a : List Int} {i v : Int} (h0 : 0 ≤ i) (h1 : i < a.length) : ix (a.set i.toNat v) i = v := by
  unfold ix; simp [show i.toNat < a.length by omega]
theorem sub_step {os a b : List Int} {i c x y : Int} (h : nv (os.take i.toNat) = nv (a.take i.toNat) - nv (b.take i.toNat) + PW i.toNat * c) (h0 : 0 ≤ i) (h1 : i < os.length) (hx : x = ix a i) (hy : y = ix b i) (hxb : 0 ≤ x ∧ x < 4294967296) (hyb : 0 ≤ y ∧ y < 4294967296) (hc : 0 ≤ c ∧ c ≤ 1) :
    nv ((os.set i.toNat ((x - y - c) % 4294967296)).take (i + 1).toNat) = nv (a.take (i + 1).toNat) - nv (b.take (i + 1).toNat) + PW (i + 1).toNat * (if x < y + c then 1 else 0) := by
  rw [set_take h0 h1, nv_take a h0, nv_take b h0, PW_next h0, ← hx, ← hy, h]
  have e : (x - y - c) % 4294967296 = x - y - c + 4294967296 * (if x < y + c then 1 else 0) := by split <;> omega
  rw [e]
  grind
theorem sub_end {os a b : List Int} {i c : Int} (h : nv (os.take i.toNat) = nv (a.take i.toNat) - nv (b.take i.toNat) + PW i.toNat * c) (hi : i = os.length) (hl : os.length = a.length) (hc : 0 ≤ c ∧ c ≤ 1) (ho : Lim os) (ha : Lim a) (hb : Lim b) (hle : nv b ≤ nv a) : nv os = nv a - nv b := by
  have hk : i.toNat = a.length := by omega
  rw [hk] at h
  rw [List.take_of_length_le (by omega), List.take_of_length_le (Nat.le_refl _)] at h
  have hla := nv_lt ha
  have hb2 : nv (b.take a.length) = nv b := by
    by_cases hbl : b.length ≤ a.length
    · rw [List.take_of_length_le hbl]
    · have hs := nv_split b a.length (by omega)
      have h1 := nv_nonneg (hb.take a.length)
      have h2 := nv_nonneg (hb.drop a.length)
      have hp := PW_pos a.length
      have : nv (b.drop a.length) = 0 := by
        rcases Int.lt_or_eq_of_le h2 with h3 | h3
        · have := Int.mul_le_mul_of_nonneg_left (show 1 ≤ nv (b.drop a.length) by omega) (Int.le_of_lt hp)
          omega
        · exact h3.symm
      rw [hs, this]; simp
  rw [hb2] at h
  have h5 := nv_lt ho
  rw [hl] at h5
  have : c = 0 := by
    rcases Int.lt_or_eq_of_le hc.1 with h3 | h3
    · obtain rfl : c = 1 := by omega
      omega
    · exact h3.symm
  subst this
  simp at h
  exact h
theorem mul_bd {x m : Int} (hx : 0 ≤ x ∧ x < 4294967296) (hm : 0 ≤ m ∧ m < 4294967296) : 0 ≤ x * m ∧ x * m ≤ 18446744065119617025 := by
  refine ⟨Int.mul_nonneg hx.1 hm.1, ?_⟩
  have h1 := Int.mul_le_mul (show x ≤ 4294967295 by omega) (show m ≤ 4294967295 by omega) hm.1 (by decide)
  omega
theorem mul_step {os a : List Int} {i c m k : Int} (h : nv (os.take i.toNat) + PW i.toNat * c = nv (a.take i.toNat) * m + k) (h0 : 0 ≤ i) (h1 : i < os.length) :
    nv ((os.set i.toNat ((c + ix a i * m) % 4294967296)).take (i + 1).toNat) + PW (i + 1).toNat * ((c + ix a i * m) / 4294967296) = nv (a.take (i + 1).toNat) * m + k := by
  rw [set_take h0 h1, nv_take a h0, PW_next h0]
  have e := Int.mul_ediv_add_emod (c + ix a i * m) 4294967296
  grind
theorem mul_end {os a : List Int} {i c m k : Int} (h : nv (os.take i.toNat) + PW i.toNat * c = nv (a.take i.toNat) * m + k) (h0 : 0 ≤ i) (hi : i = a.length) (hl : (os.length : Int) = i + 1) :
    nv (os.set (a.length : Int).toNat c) = nv a * m + k := by
  rw [← hi]
  have e := set_take (a := os) (v := c) h0 (by omega)
  rw [List.take_of_length_le (by simp; omega)] at e
  rw [e, h, List.take_of_length_le (by omega)]
/-! #### shifts -/
def fitB (n : Int) : Bool := decide (0 ≤ n) && decide (n ≤ 10000)
def shlL (a : List Int) (n : Int) : List Int := if fitB n then tl (nv a * 2 ^ n.toNat) else []
def shrL (a : List Int) (n : Int) : List Int := if fitB n then tl (nv a / 2 ^ n.toNat) else []
theorem PW_add (i j : Nat) : PW (i + j) = PW i * PW j := by unfold PW; rw [Int.pow_add]
theorem PW_two (k : Nat) : PW k = 2 ^ (32 * k) := by unfold PW; rw [Int.pow_mul]; rfl
theorem two_split {n : Int} (h : 0 ≤ n) : (2 : Int) ^ n.toNat = PW (n / 32).toNat * 2 ^ (n % 32).toNat := by
  rw [PW_two, ← Int.pow_add]; congr 1; omega
theorem two_pos (k : Nat) : (0 : Int) < 2 ^ k := Int.pow_pos (by decide)
/-- A part of a limb's bits: their power goes into the base. -/
theorem two_part {s : Int} (h0 : 0 ≤ s) (h1 : s < 32) : ∃ r : Int, 0 < r ∧ 2 ^ s.toNat * r = 4294967296 := by
  refine ⟨2 ^ (32 - s).toNat, two_pos _, ?_⟩
  rw [← Int.pow_add, show s.toNat + (32 - s).toNat = 32 by omega]; rfl
theorem nv_drop_step {d : List Int} {i : Int} (h0 : 0 ≤ i) (h1 : i < d.length) : nv (d.drop i.toNat) = ix d i + 4294967296 * nv (d.drop (i + 1).toNat) := by
  have hlt : i.toNat < d.length := by omega
  have e : ix d i = d[i.toNat] := by unfold ix; simp [hlt]
  rw [List.drop_eq_getElem_cons hlt, show (i + 1).toNat = i.toNat + 1 by omega, e]
  rfl
theorem nv_drop_mod {d : List Int} (hd : Lim d) {i : Int} (h0 : 0 ≤ i) : nv (d.drop i.toNat) % 4294967296 = ix d i := by
  by_cases h1 : i < d.length
  · have := hd.ix i
    rw [nv_drop_step h0 h1]; omega
  · rw [List.drop_of_length_le (by omega), ix_over (by omega)]; rfl
theorem ior_add {h x : Int} (hh : 0 ≤ h ∧ h < 4294967296) (hx : 0 ≤ x ∧ x < 4294967296) : ior (h * 4294967296 % 18446744073709551616) x = h * 4294967296 + x := by
  rw [Int.emod_eq_of_lt (by omega) (by omega)]
  obtain ⟨H, rfl⟩ := Int.eq_ofNat_of_zero_le hh.1
  obtain ⟨X, rfl⟩ := Int.eq_ofNat_of_zero_le hx.1
  have e : ((2 ^ 32 * H : Nat) : Int) = (H : Int) * 4294967296 := by rw [Int.natCast_mul, Int.mul_comm]; rfl
  rw [← e, ior_nat, ← Nat.two_pow_add_eq_or_of_lt (show X < 2 ^ 32 by omega), Int.natCast_add]
theorem shr_digit {x T p h : Int} (hx : 0 ≤ x ∧ x < 4294967296) (hh : h = T % 4294967296) (hp : 0 < p) (hr : ∃ r : Int, 0 < r ∧ p * r = 4294967296) : (x + 4294967296 * T) / p = ((h * 4294967296 + x) / p) % 4294967296 + 4294967296 * (T / p) := by
  obtain ⟨r, hr0, hr⟩ := hr
  have e1 : (x + 4294967296 * T) / p = x / p + r * T := by
    rw [← hr, show x + p * r * T = x + p * (r * T) by grind, Int.add_mul_ediv_left _ _ (by omega)]
  have e2 : (h * 4294967296 + x) / p = x / p + r * h := by
    rw [← hr, show h * (p * r) + x = x + p * (r * h) by grind, Int.add_mul_ediv_left _ _ (by omega)]
  have hTp := Int.mul_ediv_add_emod T p
  have hhp := Int.mul_ediv_add_emod h p
  have hmod : h % p = T % p := by
    rw [hh, ← hr]; exact Int.emod_emod_of_dvd _ ⟨r, rfl⟩
  have b1 := Int.emod_nonneg T (show p ≠ 0 by omega)
  have b2 := Int.emod_lt_of_pos T hp
  have hxr : x / p < r := Int.ediv_lt_of_lt_mul hp (by rw [Int.mul_comm, hr]; exact hx.2)
  have hx0 := Int.ediv_nonneg hx.1 (Int.le_of_lt hp)
  have b3 : r * (T % p) ≤ r * (p - 1) := Int.mul_le_mul_of_nonneg_left (by omega) (by omega)
  have b4 : 0 ≤ r * (T % p) := Int.mul_nonneg (by omega) b1
  have hrp : r * (p - 1) = 4294967296 - r := by rw [← hr]; grind
  have e3 : x / p + r * h = x / p + r * (T % p) + 4294967296 * (h / p) := by rw [← hr, ← hmod]; grind
  have e4 : x / p + r * T = x / p + r * (T % p) + 4294967296 * (T / p) := by rw [← hr]; grind
  have hA0 : 0 ≤ x / p + r * (T % p) := Int.add_nonneg hx0 b4
  have hA1 : x / p + r * (T % p) < 4294967296 := by
    have := Int.add_lt_add_of_lt_of_le hxr b3
    rw [hrp] at this
    have e9 : r + (4294967296 - r) = 4294967296 := by omega
    rwa [e9] at this
  rw [e1, e2, e3, e4, Int.add_mul_emod_self_left, Int.emod_eq_of_lt hA0 hA1]
theorem shr_step {os d : List Int} {i p : Int} (hd : Lim d) (h : nv (os.take i.toNat) + PW i.toNat * (nv (d.drop i.toNat) / p) = nv d / p) (h0 : 0 ≤ i) (h1 : i < os.length) (hl : os.length = d.length) (hp : 0 < p) (hr : ∃ r : Int, 0 < r ∧ p * r = 4294967296)
    {x h' : Int} (hx : x = ix d i) (hh : h' = ix d (i + 1)) :
    nv ((os.set i.toNat ((ior (h' * 4294967296 % 18446744073709551616) x / p) % 4294967296)).take (i + 1).toNat) + PW (i + 1).toNat * (nv (d.drop (i + 1).toNat) / p) = nv d / p := by
  have hxb := hd.ix i
  have hhb := hd.ix (i + 1)
  rw [set_take h0 h1, PW_next h0, ior_add (by rw [hh]; exact hhb) (by rw [hx]; exact hxb), ← h, nv_drop_step h0 (by omega), shr_digit (h := h') hxb (by rw [nv_drop_mod hd (by omega), hh]) hp hr, hx]
  grind
theorem shr_end {os d : List Int} {i p : Int} (h : nv (os.take i.toNat) + PW i.toNat * (nv (d.drop i.toNat) / p) = nv d / p) (hi : i = os.length) (hl : os.length = d.length) : nv os = nv d / p := by
  rw [List.take_of_length_le (by omega), List.drop_of_length_le (by omega)] at h
  simp [nv] at h
  exact h
theorem nv_shr {a : List Int} (ha : Lim a) {n : Int} (h0 : 0 ≤ n) (h1 : n / 32 < a.length) : nv (a.drop (n / 32).toNat) / 2 ^ (n % 32).toNat = nv a / 2 ^ n.toNat := by
  have hs := nv_split a (n / 32).toNat (by omega)
  have hlt := nv_lt (ha.take (n / 32).toNat)
  rw [show (a.take (n / 32).toNat).length = (n / 32).toNat by simp; omega] at hlt
  have h2 := nv_nonneg (ha.take (n / 32).toNat)
  have hp := PW_pos (n / 32).toNat
  rw [two_split h0, ← Int.ediv_ediv_of_nonneg (Int.le_of_lt hp)]
  congr 1
  rw [hs, Int.add_mul_ediv_left _ _ (by omega), Int.ediv_eq_zero_of_lt h2 hlt]
  simp
theorem shr_over {a : List Int} (ha : Lim a) {n : Int} (h0 : 0 ≤ n) (h1 : (a.length : Int) ≤ n / 32) : tl (nv a / 2 ^ n.toNat) = [] := by
  have h2 := nv_nonneg ha
  have h3 := nv_lt ha
  have h4 := PW_le (show a.length ≤ (n / 32).toNat by omega)
  have h5 := two_pos (n % 32).toNat
  have h6 : PW (n / 32).toNat * 1 ≤ PW (n / 32).toNat * 2 ^ (n % 32).toNat := Int.mul_le_mul_of_nonneg_left (by omega) (Int.le_of_lt (PW_pos _))
  rw [two_split h0, Int.ediv_eq_zero_of_lt h2 (by omega)]
  exact tl_zero (Int.le_refl _)
/-- Below a multiple of a power: one beside the other. -/
theorem ior_part {h l p : Int} (hp : ∃ s : Int, 0 ≤ s ∧ p = 2 ^ s.toNat) (hh : 0 ≤ h ∧ h < p) (hl : 0 ≤ l) (hm : l % p = 0) : ior h l = h + l := by
  obtain ⟨s, hs, rfl⟩ := hp
  obtain ⟨k, hk⟩ : ∃ k, l = 2 ^ s.toNat * k := ⟨l / 2 ^ s.toNat, by have := Int.mul_ediv_add_emod l (2 ^ s.toNat); omega⟩
  have hk0 : 0 ≤ k := by
    rcases Int.lt_or_le k 0 with h3 | h3
    · have := Int.mul_neg_of_pos_of_neg (two_pos s.toNat) h3
      omega
    · exact h3
  obtain ⟨H, rfl⟩ := Int.eq_ofNat_of_zero_le hh.1
  obtain ⟨K, rfl⟩ := Int.eq_ofNat_of_zero_le hk0
  have hH : H < 2 ^ s.toNat := by
    have h1 := hh.2
    have h2 : ((2 ^ s.toNat : Nat) : Int) = (2 : Int) ^ s.toNat := by simp
    omega
  have e : ((2 ^ s.toNat * K : Nat) : Int) = (2 : Int) ^ s.toNat * (K : Int) := by rw [Int.natCast_mul]; simp
  rw [hk, ← e, ior_nat, Nat.or_comm, ← Nat.two_pow_add_eq_or_of_lt hH, Int.natCast_add]
  omega
end Go.Gw
