/- Part of the proof that is named in YtencmmhfiepojaaLRowBack: a library for walks, or a function's walk. -/
import Derived.Test.YtencmmhfiepojaaLimbSpec4
import Derived.Test.YtencmmhfiepojaaGw17
set_option linter.unusedSimpArgs false
set_option linter.unusedVariables false
namespace Go.Gw
open Go.RowKit
def tabL : List Int := (List.range 256).map fun j : Nat => blen (j : Int)
theorem tab_lt {S : ByteArray} {i : Int} (h : bl S = tabL) (hi : i < 256) : i < (bl S).length := by rw [h]; unfold tabL; simp; omega
theorem bl_le (S : ByteArray) (i : Int) : 0 ≤ ix (bl S) i ∧ ix (bl S) i ≤ 255 := by
  have := bl_range S i
  omega
theorem bl_conv (S : ByteArray) (i : Int) : -9223372036854775808 ≤ ix (bl S) i ∧ ix (bl S) i ≤ 9223372036854775807 := by have := bl_le S i; omega
theorem bl_add {S : ByteArray} {i N : Int} (h : 0 ≤ N ∧ N ≤ 100) : -9223372036854775808 ≤ N + ix (bl S) i ∧ N + ix (bl S) i ≤ 9223372036854775807 := by have := bl_le S i; omega
theorem blen16 {x : Int} (h : 65536 ≤ x) : blen x = 16 + blen (x / 65536) := blen_step 16 h
theorem blen8 {x : Int} (h : 256 ≤ x) : blen x = 8 + blen (x / 256) := blen_step 8 h
theorem len_fin {S : ByteArray} {N x x' : Int} (hS : bl S = tabL) (h : blen x = N + blen x') (hx : 0 ≤ x' ∧ x' < 256) : N + ix (bl S) (x' % 256) = blen x := by
  rw [hS, h, Int.emod_eq_of_lt hx.1 hx.2]
  congr 1
  unfold ix tabL
  have : x'.toNat < 256 := by omega
  simp [this, show ((x'.toNat : Nat) : Int) = x' by omega]
theorem blen_le {x : Int} (h : 0 ≤ x ∧ x < 4294967296) : 0 ≤ blen x ∧ blen x ≤ 32 := by
  rcases Int.lt_or_le 0 x with h0 | h0
  · rw [blen_pos h0]
    have : x.toNat.log2 < 32 := (Nat.log2_lt (by omega)).2 (by omega)
    omega
  · rw [blen_zero h0]; omega
theorem tl_len {n : Int} (h0 : 0 ≤ n) {k : Nat} (h : n < PW k) : (tl n).length ≤ k := by
  rcases Nat.lt_or_ge k (tl n).length with h1 | h1
  · have h2 := nv_ge (lim_tl n) (right_tl n) (by intro e; rw [e] at h1; simp at h1)
    rw [nv_tl h0] at h2
    have := PW_le (show k ≤ (tl n).length - 1 by omega)
    omega
  · exact h1
theorem shr_bd {x : Int} (h : 0 ≤ x ∧ x < 4294967296) (s : Int) : 0 ≤ x / 2 ^ s.toNat ∧ x / 2 ^ s.toNat < 4294967296 :=
  ⟨Int.ediv_nonneg h.1 (Int.le_of_lt (two_pos _)), Int.lt_of_le_of_lt (Int.ediv_le_self _ h.1) h.2⟩
theorem bit_no1 {n i : Int} (h : ¬ 0 ≤ i) : bitB n i = false := by unfold bitB; simp [h]
theorem bit_no2 {a : List Int} (h : Lim a) {i : Int} (h0 : 0 ≤ i) (h1 : ¬ i / 32 < a.length) : bitB (nv a) i = false := by
  unfold bitB; rw [bit_over h h0 (by omega)]; simp
theorem bit_yes {a : List Int} (h : Lim a) {i : Int} (h0 : 0 ≤ i) (h1 : i / 32 < a.length) : decide (iand (ix a (i / 32) / 2 ^ (i % 32).toNat) 1 = 1) = bitB (nv a) i := by
  unfold bitB
  rw [decide_eq_true h0, Bool.true_and, bit_limb h h0 h1, iand_one (shr_bd (h.ix _) _).1]
end Go.Gw
