/- Part of the proof that is named in YtencmmhfiepojaaLRowBack: a library for walks, or a function's walk. -/
import Derived.Test.YtencmmhfiepojaaLimbSpec2
set_option linter.unusedSimpArgs false
set_option linter.unusedVariables false
namespace Go.Gw
open Go.RowKit
theorem ix_zeros (k : Nat) (j : Int) : ix (List.replicate k (0 : Int)) j = 0 := by
  unfold ix
  by_cases h : j.toNat < k
  · simp [h]
  · have e : (List.replicate k (0 : Int)).getD j.toNat default = default := by simp [show k ≤ j.toNat by omega]
    rw [e]; rfl
theorem nv_rep : ∀ k : Nat, nv (List.replicate k (0 : Int)) = 0
  | 0 => rfl
  | k + 1 => by rw [List.replicate_succ]; simp only [nv]; rw [nv_rep k]; rfl
theorem nv_zeros (k j : Nat) : nv ((List.replicate k (0 : Int)).take j) = 0 := by rw [List.take_replicate, nv_rep]
theorem shl_alg {A Pi Pq h X p x lo hi : Int} (hn : A + Pi * Pq * h = X * (Pq * p)) (e : 4294967296 * hi + lo = x * p) : A + Pi * Pq * (h + lo) + 4294967296 * (Pi * Pq) * hi = (X + Pi * x) * (Pq * p) := by
  have e1 : Pi * Pq * (4294967296 * hi + lo) = Pi * Pq * (x * p) := by rw [e]
  grind
theorem shl_step {os xs : List Int} {i n : Int} (hx : Lim xs) (ho : Lim os) (h0 : 0 ≤ i) (h1 : i < xs.length) (hn0 : 0 ≤ n) (hol : (os.length : Int) = xs.length + n / 32 + 1) (hz : ∀ j : Int, i + n / 32 < j → ix os j = 0)
    (hp : ix os (i + n / 32) < 2 ^ (n % 32).toNat) (hn : nv (os.take (i + n / 32 + 1).toNat) = nv (xs.take i.toNat) * 2 ^ n.toNat) :
    nv (((os.set (i + n / 32).toNat (ior (ix os (i + n / 32)) ((ix xs i * 2 ^ (n % 32).toNat) % 4294967296))).set (i + n / 32 + 1).toNat (ior (ix (os.set (i + n / 32).toNat (ior (ix os (i + n / 32)) ((ix xs i * 2 ^ (n % 32).toNat) % 4294967296))) (i + n / 32 + 1)) (((ix xs i * 2 ^ (n % 32).toNat) % 18446744073709551616) / 4294967296 % 4294967296))).take (i + 1 + n / 32 + 1).toNat) = nv (xs.take (i + 1).toNat) * 2 ^ n.toNat ∧
    ix ((os.set (i + n / 32).toNat (ior (ix os (i + n / 32)) ((ix xs i * 2 ^ (n % 32).toNat) % 4294967296))).set (i + n / 32 + 1).toNat (ior (ix (os.set (i + n / 32).toNat (ior (ix os (i + n / 32)) ((ix xs i * 2 ^ (n % 32).toNat) % 4294967296))) (i + n / 32 + 1)) (((ix xs i * 2 ^ (n % 32).toNat) % 18446744073709551616) / 4294967296 % 4294967296))) (i + 1 + n / 32) < 2 ^ (n % 32).toNat ∧
    ∀ j : Int, i + 1 + n / 32 < j → ix ((os.set (i + n / 32).toNat (ior (ix os (i + n / 32)) ((ix xs i * 2 ^ (n % 32).toNat) % 4294967296))).set (i + n / 32 + 1).toNat (ior (ix (os.set (i + n / 32).toNat (ior (ix os (i + n / 32)) ((ix xs i * 2 ^ (n % 32).toNat) % 4294967296))) (i + n / 32 + 1)) (((ix xs i * 2 ^ (n % 32).toNat) % 18446744073709551616) / 4294967296 % 4294967296))) j = 0 := by
  have hxb := hx.ix i
  have hob := ho.ix (i + n / 32)
  obtain ⟨r, hr0, hr⟩ := two_part (s := n % 32) (by omega) (by omega)
  have hp0 := two_pos (n % 32).toNat
  have hts := two_split hn0
  generalize hP : (2 : Int) ^ (n % 32).toNat = p at *
  have hpe : ∃ s : Int, 0 ≤ s ∧ p = 2 ^ s.toNat := ⟨n % 32, by omega, hP.symm⟩
  generalize hxe : ix xs i = x at hxb ⊢
  -- the two parts of what is shifted
  have hxp0 : 0 ≤ x * p := Int.mul_nonneg hxb.1 (Int.le_of_lt hp0)
  have hxp1 : x * p < 4294967296 * p := Int.mul_lt_mul_of_pos_right hxb.2 hp0
  have hpB : p ≤ 4294967296 := by
    have := Int.mul_le_mul_of_nonneg_left (show 1 ≤ r by omega) (Int.le_of_lt hp0)
    rw [hr] at this; omega
  have e64 : x * p % 18446744073709551616 = x * p := Int.emod_eq_of_lt hxp0 (by omega)
  rw [e64]
  have hhi : x * p / 4294967296 < p := Int.ediv_lt_of_lt_mul (by decide) (by omega)
  have hhi0 : 0 ≤ x * p / 4294967296 := Int.ediv_nonneg hxp0 (by decide)
  have ehi : x * p / 4294967296 % 4294967296 = x * p / 4294967296 := Int.emod_eq_of_lt hhi0 (by omega)
  rw [ehi]
  have hlo : x * p % 4294967296 % p = 0 := by
    rw [← hr, Int.emod_emod_of_dvd _ ⟨r, rfl⟩, Int.mul_emod_left]
  have e1 : ior (ix os (i + n / 32)) (x * p % 4294967296) = ix os (i + n / 32) + x * p % 4294967296 := ior_part hpe ⟨hob.1, hp⟩ (by omega) hlo
  rw [e1]
  have ez : ix (os.set (i + n / 32).toNat (ix os (i + n / 32) + x * p % 4294967296)) (i + n / 32 + 1) = 0 := by
    rw [ix_set_ne (by omega) (by omega) (by omega)]; exact hz _ (by omega)
  rw [ez]
  have e2 : ior 0 (x * p / 4294967296) = x * p / 4294967296 := by unfold ior; simp; omega
  rw [e2]
  refine ⟨?_, ?_, ?_⟩
  · rw [show i + 1 + n / 32 + 1 = (i + n / 32 + 1) + 1 by omega, set_take (by omega) (by rw [List.length_set]; omega), set_take (by omega) (by omega), PW_next (by omega)]
    have h5 := nv_take os (i := i + n / 32) (by omega)
    rw [h5] at hn
    rw [nv_take xs h0, hts, hxe]
    have e3 := Int.mul_ediv_add_emod (x * p) 4294967296
    have e4 : PW (i + n / 32).toNat = PW i.toNat * PW (n / 32).toNat := by rw [← PW_add]; congr 1; omega
    rw [hts, e4] at hn
    rw [e4]
    exact shl_alg hn e3
  · rw [show i + 1 + n / 32 = i + n / 32 + 1 by omega, ix_set_eq (by omega) (by rw [List.length_set]; omega)]; exact hhi
  · intro j hj
    rw [ix_set_ne (by omega) (by omega) (by omega), ix_set_ne (by omega) (by omega) (by omega)]
    exact hz j (by omega)
theorem shl_end {os xs : List Int} {i n : Int} (hn : nv (os.take (i + n / 32 + 1).toNat) = nv (xs.take i.toNat) * 2 ^ n.toNat) (hi : i = xs.length) (hol : (os.length : Int) = xs.length + n / 32 + 1) : nv os = nv xs * 2 ^ n.toNat := by
  rwa [List.take_of_length_le (by omega), List.take_of_length_le (by omega)] at hn
end Go.Gw
