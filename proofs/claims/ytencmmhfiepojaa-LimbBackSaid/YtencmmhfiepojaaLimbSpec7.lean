/- Part of the proof that is named in YtencmmhfiepojaaLRowBack: a library for walks, or a function's walk. -/
import Derived.Test.YtencmmhfiepojaaLimbSpec6
set_option linter.unusedSimpArgs false
set_option linter.unusedVariables false
namespace Go.Gw
open Go.RowKit
section
variable {P : Program} {ops : Array Oper} {Q : Exit → Act → World → Prop} {rest : List Oper} {n : Nat} {D : List Deferred} {ρ : Env} {w : World}
variable {d ty xt yt : Nat} {pos : String} {after : Array Edge} {gd : Option (Nat × Bool)} {C : Value → World → Prop} {x y : Operand} {k j : IntKind} {a b M : Int}
theorem s_mulm (hk : k.signed = false) (hM : (2 : Int) ^ k.bits = M) (hx : opv ρ x = some (.int k a)) (hy : opv ρ y = some (.int k b)) (h : C (.int k ((a * b) % M)) w) : OpW P ⟨some d, .binOp .mul xt x y yt, ty, pos, after, gd⟩ n D ρ w C :=
  s_mulw hx hy (by rw [wrap_u hk, hM]; exact h)
theorem s_neg (hx : opv ρ x = some (.int .i64 a)) (hb : -9223372036854775808 ≤ -a ∧ -a ≤ 9223372036854775807) (h : C (.int .i64 (-a)) w) : OpW P ⟨some d, .unOp .neg xt x, ty, pos, after, gd⟩ n D ρ w C :=
  opw_val (v := .int .i64 (-a)) (fun e he => by
    have h1 : Op.unary .neg (.int .i64 a) = pure (.int .i64 (-a)) := by
      show Op.intArith .sub .i64 0 a = _
      simp [Op.intArith, wrap64_of hb]
    simp [execOp, he x _ hx, h1]) h
theorem s_max {kd kd' : IntKind} {i j : Int} {ats : Array TypeId} (hx : opv ρ x = some (.int kd i)) (hy : opv ρ y = some (.int kd' j)) (k : C (.int kd (max i j)) w) :
    OpW P ⟨some d, .call { callee := .builtin .max, args := #[x, y], argTypes := ats }, ty, pos, after, gd⟩ n D ρ w C := by
  refine opw_val (fun ev he => ?_) k
  have e : (if i < j then j else i) = max i j := by omega
  simp [execOp, resolve, invoke, builtin, he x _ hx, he y _ hy, Builtin.max_, Builtin.max2, e]
end
/-! #### one round each -/
theorem bits_step {os : List Bool} {x V : Int} (h : bv os + 2 ^ os.length * x = V) : bv (os ++ [decide (x % 2 = 1)]) + 2 ^ (os ++ [decide (x % 2 = 1)]).length * (x / 2) = V := by
  rw [bv_snoc, bn_odd, List.length_append, List.length_singleton, Int.pow_succ]
  have e := Int.mul_ediv_add_emod x 2
  grind
theorem half_bd {x k : Int} (hx : 0 ≤ x ∧ x < 2 ^ (32 - k).toNat) (h0 : 0 ≤ k) (h1 : k < 32) : 0 ≤ x / 2 ∧ x / 2 < 2 ^ (32 - (k + 1)).toNat := by
  have e : (2 : Int) ^ (32 - k).toNat = 2 ^ (32 - (k + 1)).toNat * 2 := by rw [← Int.pow_succ]; congr 1; omega
  omega
theorem bits_end {os : List Bool} {x V k : Int} (h : bv os + 2 ^ os.length * x = V) (hx : 0 ≤ x ∧ x < 2 ^ (32 - k).toNat) (hk : k = 32) : bv os = V := by
  subst hk
  have : x = 0 := by have := hx.2; simp at this; omega
  subst this; simpa using h
theorem bits_next {os : List Bool} {xs : List Int} {i : Int} (h : bv os = nv (xs.take i.toNat) + PW i.toNat * ix xs i) (h0 : 0 ≤ i) : bv os = nv (xs.take (i + 1).toNat) := by rw [nv_take xs h0, h]
theorem right_tb (n : Int) : rightC (tb n) := by
  by_cases h : n ≤ 0
  · rw [tb_zero h]; exact .inl rfl
  · refine .inr ?_
    have hb := blen_spec (n := n) (by omega)
    obtain ⟨k, e, h1, h2⟩ := hb
    have hl := tb_len (n := n)
    rw [tb_ix (by omega) (by omega), show (((tb n).length : Int) - 1).toNat = k by omega]
    have hq : n / 2 ^ k = 1 := by
      have hp := two_pos k
      rw [Int.pow_succ] at h2
      have a1 : 1 ≤ n / 2 ^ k := (Int.le_ediv_iff_mul_le hp).2 (by omega)
      have a2 : n / 2 ^ k < 2 := Int.ediv_lt_of_lt_mul hp (by omega)
      omega
    rw [hq]; rfl
theorem bv_zero_right {b : List Bool} (h : rightC b) (h0 : bv b = 0) : b = [] := by rw [← tb_bv h, h0, tb_zero (Int.le_refl _)]
theorem right_drop {b : List Bool} (h : rightC b) {i : Nat} (hi : i < b.length) : rightC (b.drop i) := by
  rcases h with h | h
  · subst h; simp at hi
  · refine .inr ?_
    unfold ix at h ⊢
    rw [List.length_drop]
    have e1 : ((b.length : Int) - 1).toNat = b.length - 1 := by omega
    have e2 : (((b.length - i : Nat) : Int) - 1).toNat = b.length - i - 1 := by omega
    rw [e1] at h
    rw [e2, List.getD_eq_getElem?_getD, List.getElem?_drop, show i + (b.length - i - 1) = b.length - 1 by omega, ← List.getD_eq_getElem?_getD]
    exact h
theorem bv_chunk (d : List Bool) : bv d = bv (d.take 32) + 4294967296 * bv (d.drop 32) := by
  have h := bv_append (d.take 32) (d.drop 32)
  rw [List.take_append_drop] at h
  by_cases hl : 32 ≤ d.length
  · rw [show (d.take 32).length = 32 by simp; omega] at h
    exact h
  · rw [List.drop_of_length_le (by omega)] at h ⊢
    rw [h]; simp [bv]
/-- A chunk's bits, one more. -/
theorem take_snocB {a : List Bool} {i : Int} (h0 : 0 ≤ i) (h1 : i < a.length) : a.take (i + 1).toNat = a.take i.toNat ++ [ix a i] := by
  rw [show (i + 1).toNat = i.toNat + 1 by omega, List.take_add_one]
  unfold ix
  simp [show i.toNat < a.length by omega]
theorem ix_dropB {a : List Bool} {i k : Int} (h0 : 0 ≤ i) (h : i ≤ k) : ix (a.drop i.toNat) (k - i) = ix a k := by
  unfold ix; rw [List.getD_eq_getElem?_getD, List.getElem?_drop, show i.toNat + (k - i).toNat = k.toNat by omega, ← List.getD_eq_getElem?_getD]
theorem of_step {bs : List Bool} {i k x p : Int} (h0 : 0 ≤ i) (hk : i ≤ k ∧ k < bs.length ∧ k < i + 32) (hx : x = bv ((bs.drop i.toNat).take (k - i).toNat)) (hp : p = 2 ^ (k - i).toNat % 4294967296) :
    p = 2 ^ (k - i).toNat ∧ 0 ≤ x ∧ x < p ∧ 0 < p ∧ p ≤ 2147483648 ∧ (p * 2) % 4294967296 = 2 ^ (k + 1 - i).toNat % 4294967296 ∧ x + bn (ix bs k) * p = bv ((bs.drop i.toNat).take (k + 1 - i).toNat) := by
  have hb : (2 : Int) ^ (k - i).toNat ≤ 2 ^ 31 := by
    obtain ⟨r, hr⟩ : ∃ r, 31 = (k - i).toNat + r := ⟨31 - (k - i).toNat, by omega⟩
    rw [hr, Int.pow_add]
    have := Int.mul_le_mul_of_nonneg_left (show 1 ≤ (2 : Int) ^ r from two_pos _) (Int.le_of_lt (two_pos (k - i).toNat))
    omega
  have hb' : (2 : Int) ^ (k - i).toNat ≤ 2147483648 := hb
  have hpp := two_pos (k - i).toNat
  have e : p = 2 ^ (k - i).toNat := by rw [hp]; omega
  have hl : ((bs.drop i.toNat).take (k - i).toNat).length = (k - i).toNat := by simp; omega
  have hbd := bv_bd ((bs.drop i.toNat).take (k - i).toNat)
  rw [hl] at hbd
  refine ⟨e, by rw [hx]; exact hbd.1, by rw [hx, e]; exact hbd.2, by omega, by omega, ?_, ?_⟩
  · rw [e, show (k + 1 - i).toNat = (k - i).toNat + 1 by omega, Int.pow_succ]
  · rw [show k + 1 - i = (k - i) + 1 by omega, take_snocB (by omega) (by simp; omega), bv_snoc, hl, ← hx, ← e, ix_dropB h0 hk.1, Int.mul_comm]
theorem of_chunk {bs : List Bool} {i k x : Int} (h0 : 0 ≤ i) (hk : i ≤ k ∧ k ≤ bs.length ∧ k ≤ i + 32) (hx : x = bv ((bs.drop i.toNat).take (k - i).toNat)) (hend : ¬ (k < bs.length ∧ k < i + 32)) : x = bv ((bs.drop i.toNat).take 32) := by
  rw [hx]
  by_cases h : k = i + 32
  · rw [show (k - i).toNat = 32 by omega]
  · have hl : (bs.drop i.toNat).length ≤ (k - i).toNat := by simp; omega
    have hl2 : (bs.drop i.toNat).length ≤ 32 := by simp; omega
    rw [List.take_of_length_le hl, List.take_of_length_le hl2]
theorem of_next {bs : List Bool} {os : List Int} {i x : Int} (hr : rightC bs) (h0 : 0 ≤ i) (hi : i < bs.length) (hx : x = bv ((bs.drop i.toNat).take 32)) (h : nv os + PW os.length * bv (bs.drop i.toNat) = bv bs) :
    (0 ≤ x ∧ x < 4294967296) ∧ nv (os ++ [x]) + PW (os ++ [x]).length * bv (bs.drop (i + 32).toNat) = bv bs ∧ ((i + 32 < bs.length) ∨ rightB (os ++ [x]) = true) := by
  have hc := bv_chunk (bs.drop i.toNat)
  rw [List.drop_drop, ← hx, show i.toNat + 32 = (i + 32).toNat by omega] at hc
  have hbd := bv_bd ((bs.drop i.toNat).take 32)
  have hpw : (2 : Int) ^ ((bs.drop i.toNat).take 32).length ≤ 4294967296 := by
    obtain ⟨r, hr⟩ : ∃ r, 32 = ((bs.drop i.toNat).take 32).length + r := ⟨32 - ((bs.drop i.toNat).take 32).length, by have := List.length_take_le 32 (bs.drop i.toNat); omega⟩
    have e : (4294967296 : Int) = 2 ^ 32 := rfl
    rw [e]
    conv => rhs; rw [hr]
    rw [Int.pow_add]
    have := Int.mul_le_mul_of_nonneg_left (show 1 ≤ (2 : Int) ^ r from two_pos _) (Int.le_of_lt (two_pos ((bs.drop i.toNat).take 32).length))
    omega
  refine ⟨by rw [hx]; omega, ?_, ?_⟩
  · rw [nv_snoc, List.length_append, List.length_singleton, PW_succ, ← h, hc]; grind
  · by_cases hl : i + 32 < bs.length
    · exact .inl hl
    · refine .inr ?_
      rw [rightB_snoc]
      have hz : x ≠ 0 := fun e => by
        rw [List.drop_of_length_le (i := (i + 32).toNat) (by omega), e] at hc
        have h1 := bv_zero_right (right_drop hr (i := i.toNat) (by omega)) (by simpa [bv] using hc)
        have h2 := congrArg List.length h1
        simp at h2; omega
      simpa using hz
theorem of_end {bs : List Bool} {os : List Int} {i : Int} (hL : Lim os) (hi : (bs.length : Int) ≤ i) (h : nv os + PW os.length * bv (bs.drop i.toNat) = bv bs) (hr : (i < bs.length) ∨ rightB os = true) : tl (bv bs) = os := by
  rw [List.drop_of_length_le (by omega)] at h
  rw [← h, show nv os + PW os.length * bv [] = nv os by simp [bv], tl_nv hL (hr.resolve_left (by omega))]
theorem tb_le {b : List Bool} {m : Int} (h : (b.length : Int) ≤ m) : ((tb (bv b)).length : Int) ≤ m := by
  have hb := bv_bd b
  rcases Int.lt_or_le m (tb (bv b)).length with h1 | h1
  · exfalso
    rw [tb_len] at h1
    have h0 : 0 < bv b := by
      rcases Int.lt_or_le 0 (bv b) with h | h
      · exact h
      · rw [blen_zero h] at h1; omega
    obtain ⟨k, e, k1, k2⟩ := blen_spec h0
    have hle : (2 : Int) ^ b.length ≤ 2 ^ k := by
      rw [show k = b.length + (k - b.length) by omega, Int.pow_add]
      have := Int.mul_le_mul_of_nonneg_left (show 1 ≤ (2 : Int) ^ (k - b.length) from two_pos _) (Int.le_of_lt (two_pos b.length))
      omega
    omega
  · exact h1
theorem tb_nv_len {xs : List Int} (h : Lim xs) : (tb (nv xs)).length ≤ 32 * xs.length := by
  have h0 := nv_nonneg h
  have h1 := nv_lt h
  rcases Nat.lt_or_ge (32 * xs.length) (tb (nv xs)).length with h2 | h2
  · exfalso
    have hl := tb_len (n := nv xs)
    have hp : 0 < nv xs := by
      rcases Int.lt_or_le 0 (nv xs) with h | h
      · exact h
      · rw [tb_zero h] at h2; simp at h2
    obtain ⟨k, e, k1, k2⟩ := blen_spec hp
    rw [PW_two] at h1
    have hle : (2 : Int) ^ (32 * xs.length) ≤ 2 ^ k := by
      rw [show k = 32 * xs.length + (k - 32 * xs.length) by omega, Int.pow_add]
      have := Int.mul_le_mul_of_nonneg_left (show 1 ≤ (2 : Int) ^ (k - 32 * xs.length) from two_pos _) (Int.le_of_lt (two_pos (32 * xs.length)))
      omega
    omega
  · exact h2
/-! #### the order, bit by bit -/
theorem div_half {n i : Int} (hi : 0 ≤ i) : n / 2 ^ i.toNat = 2 * (n / 2 ^ (i + 1).toNat) + bn (bitB n i) := by
  unfold bitB
  rw [decide_eq_true hi, Bool.true_and, bn_odd, show (i + 1).toNat = i.toNat + 1 by omega, Int.pow_succ, ← Int.ediv_ediv_of_nonneg (Int.le_of_lt (two_pos _))]
  omega
theorem div_top {n : Int} (h0 : 0 ≤ n) {i : Int} (hi : blen n ≤ i) : n / 2 ^ i.toNat = 0 := by
  have h := mod_all h0 hi
  refine Int.ediv_eq_zero_of_lt h0 ?_
  rw [← h]; exact Int.emod_lt_of_pos _ (two_pos _)
theorem bcmp_next {m n i : Int} (hi : 0 ≤ i) (h : m / 2 ^ (i + 1).toNat = n / 2 ^ (i + 1).toNat) (hb : bitB m i = bitB n i) : m / 2 ^ (i - 1 + 1).toNat = n / 2 ^ (i - 1 + 1).toNat := by
  rw [show i - 1 + 1 = i by omega, div_half hi, div_half hi, h, hb]
theorem bcmp_gt {m n i : Int} (hi : 0 ≤ i) (h : m / 2 ^ (i + 1).toNat = n / 2 ^ (i + 1).toNat) (h1 : bitB m i = true) (h2 : bitB n i = false) : cmpI m n = 1 := by
  refine cmpI_gt ?_
  rcases Int.lt_or_le n m with h3 | h3
  · exact h3
  · have h4 := Int.ediv_le_ediv (two_pos i.toNat) h3
    rw [div_half hi, div_half (n := n) hi, h, h1, h2] at h4
    simp [bn] at h4; omega
theorem bcmp_lt {m n i : Int} (hi : 0 ≤ i) (h : m / 2 ^ (i + 1).toNat = n / 2 ^ (i + 1).toNat) (h1 : bitB m i = false) (h2 : bitB n i = true) : cmpI m n = -1 := by
  refine cmpI_lt ?_
  rcases Int.lt_or_le m n with h3 | h3
  · exact h3
  · have h4 := Int.ediv_le_ediv (two_pos i.toNat) h3
    rw [div_half hi, div_half (n := m) hi, h, h1, h2] at h4
    simp [bn] at h4; omega
theorem bcmp_end {m n i : Int} (hi : i = -1) (h : m / 2 ^ (i + 1).toNat = n / 2 ^ (i + 1).toNat) : cmpI m n = 0 := by
  subst hi
  exact cmpI_eq (by simpa using h)
/-! #### sums and differences, bit by bit -/
theorem badd_step {os : List Bool} {a b i n : Int} {c : Bool} (ha : 0 ≤ a) (hb : 0 ≤ b) (hi : 0 ≤ i) (hl : (os.length : Int) = i) (h : bv os + 2 ^ i.toNat * bn c = a % 2 ^ i.toNat + b % 2 ^ i.toNat) (hn : n = bn (bitB a i) + bn (bitB b i) + bn c) :
    bv (os ++ [decide (n % 2 = 1)]) + 2 ^ (i + 1).toNat * bn (decide (1 < n)) = a % 2 ^ (i + 1).toNat + b % 2 ^ (i + 1).toNat := by
  rw [bv_snoc, bn_odd, mod_step ha hi, mod_step hb hi, show os.length = i.toNat by omega, show (i + 1).toNat = i.toNat + 1 by omega, Int.pow_succ]
  have e : n = n % 2 + 2 * bn (decide (1 < n)) := by
    have h1 := bn_bd (bitB a i)
    have h2 := bn_bd (bitB b i)
    have h3 := bn_bd c
    unfold bn
    by_cases h4 : 1 < n <;> simp [h4] <;> omega
  generalize bn (decide (1 < n)) = u at e ⊢
  have e2 : 2 ^ i.toNat * (n % 2 + 2 * u) = 2 ^ i.toNat * (bn (bitB a i) + bn (bitB b i) + bn c) := by rw [← e, hn]
  grind
theorem badd_end {os : List Bool} {a b i : Int} {c : Bool} (ha : 0 ≤ a) (hb : 0 ≤ b) (hi : 0 ≤ i) (hl : (os.length : Int) = i) (h : bv os + 2 ^ i.toNat * bn c = a % 2 ^ i.toNat + b % 2 ^ i.toNat) (h1 : blen a < i) (h2 : blen b < i) : bv os = a + b := by
  rw [mod_all ha (by omega), mod_all hb (by omega)] at h
  have a1 := mod_all ha (i := i - 1) (by omega)
  have b1 := mod_all hb (i := i - 1) (by omega)
  have a2 := Int.emod_lt_of_pos a (two_pos (i - 1).toNat)
  have b2 := Int.emod_lt_of_pos b (two_pos (i - 1).toNat)
  have e : (2 : Int) ^ i.toNat = 2 ^ (i - 1).toNat * 2 := by rw [← Int.pow_succ]; congr 1; have : 0 ≤ blen a := by (unfold blen; split <;> omega)
                                                             omega
  have := (bv_bd os).1
  cases c with
  | false => simpa [bn] using h
  | true => simp [bn] at h; omega
theorem bsub_step {os : List Bool} {a b i n u u' : Int} (ha : 0 ≤ a) (hb : 0 ≤ b) (hi : 0 ≤ i) (hl : (os.length : Int) = i) (h : bv os = a % 2 ^ i.toNat - b % 2 ^ i.toNat + 2 ^ i.toNat * u) (hn : n = bn (bitB a i) - bn (bitB b i) - u + 2 * u') (hnb : 0 ≤ n ∧ n ≤ 1) :
    bv (os ++ [decide (n = 1)]) = a % 2 ^ (i + 1).toNat - b % 2 ^ (i + 1).toNat + 2 ^ (i + 1).toNat * u' := by
  have e : bn (decide (n = 1)) = n := by
    unfold bn
    by_cases h4 : n = 1 <;> simp [h4] <;> omega
  rw [bv_snoc, e, mod_step ha hi, mod_step hb hi, show os.length = i.toNat by omega, show (i + 1).toNat = i.toNat + 1 by omega, Int.pow_succ, h, hn]
  grind
theorem bsub_end {os : List Bool} {a b i u : Int} (ha : 0 ≤ a) (hb : 0 ≤ b) (hle : b ≤ a) (hl : (os.length : Int) = i) (h : bv os = a % 2 ^ i.toNat - b % 2 ^ i.toNat + 2 ^ i.toNat * u) (hu : 0 ≤ u ∧ u ≤ 1) (h1 : i = blen a) : bv os = a - b := by
  have a1 := mod_all ha (i := i) (by omega)
  have a2 := Int.emod_lt_of_pos a (two_pos i.toNat)
  rw [a1] at a2
  rw [a1, Int.emod_eq_of_lt hb (by omega)] at h
  have h3 := bv_bd os
  rw [show os.length = i.toNat by omega] at h3
  have : u = 0 := by
    rcases Int.lt_or_eq_of_le hu.1 with h4 | h4
    · obtain rfl : u = 1 := by omega
      omega
    · exact h4.symm
  subst this
  simpa using h
end Go.Gw
