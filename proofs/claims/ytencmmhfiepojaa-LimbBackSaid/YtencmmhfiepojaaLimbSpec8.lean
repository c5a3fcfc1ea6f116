/- Part of the proof that is named in YtencmmhfiepojaaLRowBack: a library for walks, or a function's walk. -/
import Derived.Test.YtencmmhfiepojaaLimbSpec7
import Derived.Test.YtencmmhfiepojaaGw16
set_option linter.unusedSimpArgs false
set_option linter.unusedVariables false
namespace Go.Gw
open Go.RowKit
theorem bv_rep : ∀ k : Nat, bv (List.replicate k false) = 0
  | 0 => rfl
  | k + 1 => by rw [List.replicate_succ]; simp only [bv]; rw [bv_rep k]; rfl
theorem shl_bits {m : Int} (h : 0 ≤ m) (k : Nat) : bv (List.replicate k false ++ tb m) = m * 2 ^ k := by
  rw [bv_append, bv_rep, bv_tb h, List.length_replicate, Int.mul_comm]; omega
theorem bv_drop : ∀ (k : Nat) (b : List Bool), bv (b.drop k) = bv b / 2 ^ k
  | 0, b => by simp
  | k + 1, [] => by simp [bv]
  | k + 1, x :: r => by
    have h := bv_drop k r
    have hx := bn_bd x
    rw [List.drop_succ_cons, h, Int.pow_succ, Int.mul_comm, ← Int.ediv_ediv_of_nonneg (by decide)]
    simp only [bv]
    congr 1; omega
theorem shr_bits {m : Int} (h : 0 ≤ m) (k : Nat) : tl (bv ((tb m).drop k)) = tl (m / 2 ^ k) := by rw [bv_drop, bv_tb h]
theorem shr_small {m n : Int} (h : 0 ≤ m) (hn : ((tb m).length : Int) ≤ n) : tl (m / 2 ^ n.toNat) = [] := by
  rw [tb_len] at hn
  rw [div_top h hn]; exact tl_zero (Int.le_refl _)
theorem fit_no {n : Int} (h : n < 0 ∨ 10000 < n) : fitB n = false := by
  unfold fitB
  rcases h with h | h
  · rw [decide_eq_false (by omega)]; rfl
  · rw [decide_eq_false (p := n ≤ 10000) (by omega)]; simp
theorem fit_yes {n : Int} (h0 : 0 ≤ n) (h1 : n ≤ 10000) : fitB n = true := by unfold fitB; rw [decide_eq_true h0, decide_eq_true h1]; rfl
/-! #### quotients from the last limb on -/
theorem rdiv_step {xs os : List Int} {m l i : Int} (hm : 0 < m) (h0 : 0 ≤ i) (h1 : i < xs.length) (hl : os.length = xs.length) (e1 : l = nv (xs.drop (i + 1).toNat) % m) (e2 : nv (os.drop (i + 1).toNat) = nv (xs.drop (i + 1).toNat) / m) :
    (l * 4294967296 + ix xs i) % m = nv (xs.drop i.toNat) % m ∧ nv ((os.set i.toNat ((l * 4294967296 + ix xs i) / m)).drop i.toNat) = nv (xs.drop i.toNat) / m := by
  obtain ⟨s1, s2⟩ := divmod_step (x := ix xs i) (N := nv (xs.drop (i + 1).toNat)) hm
  rw [nv_drop_step h0 h1, s1, s2, drop_set_self _ h0 (by omega), e1]
  refine ⟨rfl, ?_⟩
  show _ + 4294967296 * nv _ = _
  rw [e2]
theorem rdiv_end {xs os : List Int} {m l i : Int} (hi : i = -1) (e1 : l = nv (xs.drop (i + 1).toNat) % m) (e2 : nv (os.drop (i + 1).toNat) = nv (xs.drop (i + 1).toNat) / m) : l = nv xs % m ∧ nv os = nv xs / m := by
  subst hi
  simp at e1 e2
  exact ⟨e1, e2⟩
theorem rmul_step {os xs : List Int} {i c m k : Int} (h : nv os + PW i.toNat * c = nv (xs.take i.toNat) * m + k) (h0 : 0 ≤ i) (hl : (os.length : Int) = i) :
    nv (os ++ [(ix xs i * m + c) % 4294967296]) + PW (i + 1).toNat * ((ix xs i * m + c) / 4294967296) = nv (xs.take (i + 1).toNat) * m + k := by
  rw [nv_snoc, nv_take xs h0, PW_next h0, show os.length = i.toNat by omega]
  have e := Int.mul_ediv_add_emod (ix xs i * m + c) 4294967296
  grind
theorem rmul_end {os xs : List Int} {i c m k : Int} (h : nv os + PW i.toNat * c = nv (xs.take i.toNat) * m + k) (h0 : 0 ≤ i) (hi : i = xs.length) (hl : (os.length : Int) = i) : nv (os ++ [c]) = nv xs * m + k := by
  rw [nv_snoc, show os.length = i.toNat by omega, h, List.take_of_length_le (by omega)]
end Go.Gw
