/- Part of the proof: a library for walks, plain laws, and functions' walks. -/
import Derived.Test.YtfljelnfjbbknaaM3
import Derived.LoopN
import Derived.Test.YtfljelnfjbbknaaM2
import Derived.Laws.CopyRow
set_option linter.unusedSimpArgs false
set_option linter.unusedVariables false
namespace Go.Gw
open Go.RowKit
section
variable {P : Program} {ops : Array Oper} {Q : Exit → Act → World → Prop} {rest : List Oper} {n : Nat} {D : List Deferred} {ρ : Env} {w : World}
variable {d ty xt yt : Nat} {pos : String} {after : Array Edge} {gd : Option (Nat × Bool)} {C : Value → World → Prop} {x y : Operand} {k j : IntKind} {a b M : Int}
theorem s_mulm (hk : k.signed = false) (hM : (2 : Int) ^ k.bits = M) (hx : opv ρ x = some (.int k a)) (hy : opv ρ y = some (.int k b)) (h : C (.int k ((a * b) % M)) w) : OpW P ⟨some d, .binOp .mul xt x y yt, ty, pos, after, gd⟩ n D ρ w C :=
  s_mulw hx hy (by rw [wrap_u hk, hM]; exact h)
theorem s_neg (hx : opv ρ x = some (.int .i64 a)) (hb : -9223372036854775808 ≤ -a ∧ -a ≤ 9223372036854775807) (h : C (.int .i64 (-a)) w) : OpW P ⟨some d, .unOp .neg xt x, ty, pos, after, gd⟩ n D ρ w C :=
  opw_val (v := .int .i64 (-a)) (fun e he => by
    have h1 : Op.unary .neg (.int .i64 a) = pure (.int .i64 (-a)) := by
      show Op.intArith .sub .i64 0 a = _
      simp [Op.intArith, wrap64_of hb]
    simp [execOp, he x _ hx, h1]) h
theorem s_max {kd kd' : IntKind} {i j : Int} {ats : Array TypeId} (hx : opv ρ x = some (.int kd i)) (hy : opv ρ y = some (.int kd' j)) (k : C (.int kd (max i j)) w) :
    OpW P ⟨some d, .call { callee := .builtin .max, args := #[x, y], argTypes := ats }, ty, pos, after, gd⟩ n D ρ w C := by
  refine opw_val (fun ev he => ?_) k
  have e : (if i < j then j else i) = max i j := by omega
  simp [execOp, resolve, invoke, builtin, he x _ hx, he y _ hy, Builtin.max_, Builtin.max2, e]
end
/-! #### one round each -/
theorem bits_step {os : List Bool} {x V : Int} (h : bv os + 2 ^ os.length * x = V) : bv (os ++ [decide (x % 2 = 1)]) + 2 ^ (os ++ [decide (x % 2 = 1)]).length * (x / 2) = V := by
  rw [bv_snoc, bn_odd, List.length_append, List.length_singleton, Int.pow_succ]
  have e := Int.mul_ediv_add_emod x 2
  grind
theorem half_bd {x k : Int} (hx : 0 ≤ x ∧ x < 2 ^ (32 - k).toNat) (h0 : 0 ≤ k) (h1 : k < 32) : 0 ≤ x / 2 ∧ x / 2 < 2 ^ (32 - (k + 1)).toNat := by
  have e : (2 : Int) ^ (32 - k).toNat = 2 ^ (32 - (k + 1)).toNat * 2 := by rw [← Int.pow_succ]; congr 1; omega
  omega
theorem bits_end {os : List Bool} {x V k : Int} (h : bv os + 2 ^ os.length * x = V) (hx : 0 ≤ x ∧ x < 2 ^ (32 - k).toNat) (hk : k = 32) : bv os = V := by
  subst hk
  have : x = 0 := by have := hx.2; simp at this; omega
  subst this; simpa using h
theorem bits_next {os : List Bool} {xs : List Int} {i : Int} (h : bv os = nv (xs.take i.toNat) + PW i.toNat * ix xs i) (h0 : 0 ≤ i) : bv os = nv (xs.take (i + 1).toNat) := by rw [nv_take xs h0, h]
theorem right_tb (n : Int) : rightC (tb n) := by
  by_cases h : n ≤ 0
  · rw [tb_zero h]; exact .inl rfl
  · refine .inr ?_
    have hb := blen_spec (n := n) (by omega)
    obtain ⟨k, e, h1, h2⟩ := hb
    have hl := tb_len (n := n)
    rw [tb_ix (by omega) (by omega), show (((tb n).length : Int) - 1).toNat = k by omega]
    have hq : n / 2 ^ k = 1 := by
      have hp := two_pos k
      rw [Int.pow_succ] at h2
      have a1 : 1 ≤ n / 2 ^ k := (Int.le_ediv_iff_mul_le hp).2 (by omega)
      have a2 : n / 2 ^ k < 2 := Int.ediv_lt_of_lt_mul hp (by omega)
      omega
    rw [hq]; rfl
theorem bv_zero_right {b : List Bool} (h : rightC b) (h0 : bv b = 0) : b = [] := by rw [← tb_bv h, h0, tb_zero (Int.le_refl _)]
theorem right_drop {b : List Bool} (h : rightC b) {i : Nat} (hi : i < b.length) : rightC (b.drop i) := by
  rcases h with h | h
  · subst h; simp at hi
  · refine .inr ?_
    unfold ix at h ⊢
    rw [List.length_drop]
    have e1 : ((b.length : Int) - 1).toNat = b.length - 1 := by omega
    have e2 : (((b.length - i : Nat) : Int) - 1).toNat = b.length - i - 1 := by omega
    rw [e1] at h
    rw [e2, List.getD_eq_getElem?_getD, List.getElem?_drop, show i + (b.length - i - 1) = b.length - 1 by omega, ← List.getD_eq_getElem?_getD]
    exact h
theorem bv_chunk (d : List Bool) : bv d = bv (d.take 32) + 4294967296 * bv (d.drop 32) := by
  have h := bv_append (d.take 32) (d.drop 32)
  rw [List.take_append_drop] at h
  by_cases hl : 32 ≤ d.length
  · rw [show (d.take 32).length = 32 by simp; omega] at h
    exact h
  · rw [List.drop_of_length_le (by omega)] at h ⊢
    rw [h]; simp [bv]
/-- A chunk's bits, one more. -/
theorem take_snocB {a : List Bool} {i : Int} (h0 : 0 ≤ i) (h1 : i < a.length) : a.take (i + 1).toNat = a.take i.toNat ++ [ix a i] := by
  rw [show (i + 1).toNat = i.toNat + 1 by omega, List.take_add_one]
  unfold ix
  simp [show i.toNat < a.length by omega]
theorem ix_dropB {a : List Bool} {i k : Int} (h0 : 0 ≤ i) (h : i ≤ k) : ix (a.drop i.toNat) (k - i) = ix a k := by
  unfold ix; rw [List.getD_eq_getElem?_getD, List.getElem?_drop, show i.toNat + (k - i).toNat = k.toNat by omega, ← List.getD_eq_getElem?_getD]
theorem of_step {bs : List Bool} {i k x p : Int} (h0 : 0 ≤ i) (hk : i ≤ k ∧ k < bs.length ∧ k < i + 32) (hx : x = bv ((bs.drop i.toNat).take (k - i).toNat)) (hp : p = 2 ^ (k - i).toNat % 4294967296) :
    p = 2 ^ (k - i).toNat ∧ 0 ≤ x ∧ x < p ∧ 0 < p ∧ p ≤ 2147483648 ∧ (p * 2) % 4294967296 = 2 ^ (k + 1 - i).toNat % 4294967296 ∧ x + bn (ix bs k) * p = bv ((bs.drop i.toNat).take (k + 1 - i).toNat) := by
  have hb : (2 : Int) ^ (k - i).toNat ≤ 2 ^ 31 := by
    obtain ⟨r, hr⟩ : ∃ r, 31 = (k - i).toNat + r := ⟨31 - (k - i).toNat, by omega⟩
    rw [hr, Int.pow_add]
    have := Int.mul_le_mul_of_nonneg_left (show 1 ≤ (2 : Int) ^ r from two_pos _) (Int.le_of_lt (two_pos (k - i).toNat))
    omega
  have hb' : (2 : Int) ^ (k - i).toNat ≤ 2147483648 := hb
  have hpp := two_pos (k - i).toNat
  have e : p = 2 ^ (k - i).toNat := by rw [hp]; omega
  have hl : ((bs.drop i.toNat).take (k - i).toNat).length = (k - i).toNat := by simp; omega
  have hbd := bv_bd ((bs.drop i.toNat).take (k - i).toNat)
  rw [hl] at hbd
  refine ⟨e, by rw [hx]; exact hbd.1, by rw [hx, e]; exact hbd.2, by omega, by omega, ?_, ?_⟩
  · rw [e, show (k + 1 - i).toNat = (k - i).toNat + 1 by omega, Int.pow_succ]
  · rw [show k + 1 - i = (k - i) + 1 by omega, take_snocB (by omega) (by simp; omega), bv_snoc, hl, ← hx, ← e, ix_dropB h0 hk.1, Int.mul_comm]
theorem of_chunk {bs : List Bool} {i k x : Int} (h0 : 0 ≤ i) (hk : i ≤ k ∧ k ≤ bs.length ∧ k ≤ i + 32) (hx : x = bv ((bs.drop i.toNat).take (k - i).toNat)) (hend : ¬ (k < bs.length ∧ k < i + 32)) : x = bv ((bs.drop i.toNat).take 32) := by
  rw [hx]
  by_cases h : k = i + 32
  · rw [show (k - i).toNat = 32 by omega]
  · have hl : (bs.drop i.toNat).length ≤ (k - i).toNat := by simp; omega
    have hl2 : (bs.drop i.toNat).length ≤ 32 := by simp; omega
    rw [List.take_of_length_le hl, List.take_of_length_le hl2]
theorem of_next {bs : List Bool} {os : List Int} {i x : Int} (hr : rightC bs) (h0 : 0 ≤ i) (hi : i < bs.length) (hx : x = bv ((bs.drop i.toNat).take 32)) (h : nv os + PW os.length * bv (bs.drop i.toNat) = bv bs) :
    (0 ≤ x ∧ x < 4294967296) ∧ nv (os ++ [x]) + PW (os ++ [x]).length * bv (bs.drop (i + 32).toNat) = bv bs ∧ ((i + 32 < bs.length) ∨ rightL (os ++ [x]) = true) := by
  have hc := bv_chunk (bs.drop i.toNat)
  rw [List.drop_drop, ← hx, show i.toNat + 32 = (i + 32).toNat by omega] at hc
  have hbd := bv_bd ((bs.drop i.toNat).take 32)
  have hpw : (2 : Int) ^ ((bs.drop i.toNat).take 32).length ≤ 4294967296 := by
    obtain ⟨r, hr⟩ : ∃ r, 32 = ((bs.drop i.toNat).take 32).length + r := ⟨32 - ((bs.drop i.toNat).take 32).length, by have := List.length_take_le 32 (bs.drop i.toNat); omega⟩
    have e : (4294967296 : Int) = 2 ^ 32 := rfl
    rw [e]
    conv => rhs; rw [hr]
    rw [Int.pow_add]
    have := Int.mul_le_mul_of_nonneg_left (show 1 ≤ (2 : Int) ^ r from two_pos _) (Int.le_of_lt (two_pos ((bs.drop i.toNat).take 32).length))
    omega
  refine ⟨by rw [hx]; omega, ?_, ?_⟩
  · rw [nv_snoc, List.length_append, List.length_singleton, PW_succ, ← h, hc]; grind
  · by_cases hl : i + 32 < bs.length
    · exact .inl hl
    · refine .inr ?_
      rw [rightB_snoc]
      have hz : x ≠ 0 := fun e => by
        rw [List.drop_of_length_le (i := (i + 32).toNat) (by omega), e] at hc
        have h1 := bv_zero_right (right_drop hr (i := i.toNat) (by omega)) (by simpa [bv] using hc)
        have h2 := congrArg List.length h1
        simp at h2; omega
      simpa using hz
theorem of_end {bs : List Bool} {os : List Int} {i : Int} (hL : Lim os) (hi : (bs.length : Int) ≤ i) (h : nv os + PW os.length * bv (bs.drop i.toNat) = bv bs) (hr : (i < bs.length) ∨ rightL os = true) : tl (bv bs) = os := by
  rw [List.drop_of_length_le (by omega)] at h
  rw [← h, show nv os + PW os.length * bv [] = nv os by simp [bv], tl_nv hL (hr.resolve_left (by omega))]
theorem tb_le {b : List Bool} {m : Int} (h : (b.length : Int) ≤ m) : ((tb (bv b)).length : Int) ≤ m := by
  have hb := bv_bd b
  rcases Int.lt_or_le m (tb (bv b)).length with h1 | h1
  · exfalso
    rw [tb_len] at h1
    have h0 : 0 < bv b := by
      rcases Int.lt_or_le 0 (bv b) with h | h
      · exact h
      · rw [blen_zero h] at h1; omega
    obtain ⟨k, e, k1, k2⟩ := blen_spec h0
    have hle : (2 : Int) ^ b.length ≤ 2 ^ k := by
      rw [show k = b.length + (k - b.length) by omega, Int.pow_add]
      have := Int.mul_le_mul_of_nonneg_left (show 1 ≤ (2 : Int) ^ (k - b.length) from two_pos _) (Int.le_of_lt (two_pos b.length))
      omega
    omega
  · exact h1
theorem tb_nv_len {xs : List Int} (h : Lim xs) : (tb (nv xs)).length ≤ 32 * xs.length := by
  have h0 := nv_nonneg h
  have h1 := nv_lt h
  rcases Nat.lt_or_ge (32 * xs.length) (tb (nv xs)).length with h2 | h2
  · exfalso
    have hl := tb_len (n := nv xs)
    have hp : 0 < nv xs := by
      rcases Int.lt_or_le 0 (nv xs) with h | h
      · exact h
      · rw [tb_zero h] at h2; simp at h2
    obtain ⟨k, e, k1, k2⟩ := blen_spec hp
    rw [PW_two] at h1
    have hle : (2 : Int) ^ (32 * xs.length) ≤ 2 ^ k := by
      rw [show k = 32 * xs.length + (k - 32 * xs.length) by omega, Int.pow_add]
      have := Int.mul_le_mul_of_nonneg_left (show 1 ≤ (2 : Int) ^ (k - 32 * xs.length) from two_pos _) (Int.le_of_lt (two_pos (32 * xs.length)))
      omega
    omega
  · exact h2
/-! #### the order, bit by bit -/
theorem div_half {n i : Int} (hi : 0 ≤ i) : n / 2 ^ i.toNat = 2 * (n / 2 ^ (i + 1).toNat) + bn (bitB n i) := by
  unfold bitB
  rw [decide_eq_true hi, Bool.true_and, bn_odd, show (i + 1).toNat = i.toNat + 1 by omega, Int.pow_succ, ← Int.ediv_ediv_of_nonneg (Int.le_of_lt (two_pos _))]
  omega
theorem div_top {n : Int} (h0 : 0 ≤ n) {i : Int} (hi : blen n ≤ i) : n / 2 ^ i.toNat = 0 := by
  have h := mod_all h0 hi
  refine Int.ediv_eq_zero_of_lt h0 ?_
  rw [← h]; exact Int.emod_lt_of_pos _ (two_pos _)
theorem bcmp_next {m n i : Int} (hi : 0 ≤ i) (h : m / 2 ^ (i + 1).toNat = n / 2 ^ (i + 1).toNat) (hb : bitB m i = bitB n i) : m / 2 ^ (i - 1 + 1).toNat = n / 2 ^ (i - 1 + 1).toNat := by
  rw [show i - 1 + 1 = i by omega, div_half hi, div_half hi, h, hb]
theorem bcmp_gt {m n i : Int} (hi : 0 ≤ i) (h : m / 2 ^ (i + 1).toNat = n / 2 ^ (i + 1).toNat) (h1 : bitB m i = true) (h2 : bitB n i = false) : cmpI m n = 1 := by
  refine cmpI_gt ?_
  rcases Int.lt_or_le n m with h3 | h3
  · exact h3
  · have h4 := Int.ediv_le_ediv (two_pos i.toNat) h3
    rw [div_half hi, div_half (n := n) hi, h, h1, h2] at h4
    simp [bn] at h4; omega
theorem bcmp_lt {m n i : Int} (hi : 0 ≤ i) (h : m / 2 ^ (i + 1).toNat = n / 2 ^ (i + 1).toNat) (h1 : bitB m i = false) (h2 : bitB n i = true) : cmpI m n = -1 := by
  refine cmpI_lt ?_
  rcases Int.lt_or_le m n with h3 | h3
  · exact h3
  · have h4 := Int.ediv_le_ediv (two_pos i.toNat) h3
    rw [div_half hi, div_half (n := m) hi, h, h1, h2] at h4
    simp [bn] at h4; omega
theorem bcmp_end {m n i : Int} (hi : i = -1) (h : m / 2 ^ (i + 1).toNat = n / 2 ^ (i + 1).toNat) : cmpI m n = 0 := by
  subst hi
  exact cmpI_eq (by simpa using h)
/-! #### sums and differences, bit by bit -/
theorem badd_step {os : List Bool} {a b i n : Int} {c : Bool} (ha : 0 ≤ a) (hb : 0 ≤ b) (hi : 0 ≤ i) (hl : (os.length : Int) = i) (h : bv os + 2 ^ i.toNat * bn c = a % 2 ^ i.toNat + b % 2 ^ i.toNat) (hn : n = bn (bitB a i) + bn (bitB b i) + bn c) :
    bv (os ++ [decide (n % 2 = 1)]) + 2 ^ (i + 1).toNat * bn (decide (1 < n)) = a % 2 ^ (i + 1).toNat + b % 2 ^ (i + 1).toNat := by
  rw [bv_snoc, bn_odd, mod_step ha hi, mod_step hb hi, show os.length = i.toNat by omega, show (i + 1).toNat = i.toNat + 1 by omega, Int.pow_succ]
  have e : n = n % 2 + 2 * bn (decide (1 < n)) := by
    have h1 := bn_bd (bitB a i)
    have h2 := bn_bd (bitB b i)
    have h3 := bn_bd c
    unfold bn
    by_cases h4 : 1 < n <;> simp [h4] <;> omega
  generalize bn (decide (1 < n)) = u at e ⊢
  have e2 : 2 ^ i.toNat * (n % 2 + 2 * u) = 2 ^ i.toNat * (bn (bitB a i) + bn (bitB b i) + bn c) := by rw [← e, hn]
  grind
theorem badd_end {os : List Bool} {a b i : Int} {c : Bool} (ha : 0 ≤ a) (hb : 0 ≤ b) (hi : 0 ≤ i) (hl : (os.length : Int) = i) (h : bv os + 2 ^ i.toNat * bn c = a % 2 ^ i.toNat + b % 2 ^ i.toNat) (h1 : blen a < i) (h2 : blen b < i) : bv os = a + b := by
  rw [mod_all ha (by omega), mod_all hb (by omega)] at h
  have a1 := mod_all ha (i := i - 1) (by omega)
  have b1 := mod_all hb (i := i - 1) (by omega)
  have a2 := Int.emod_lt_of_pos a (two_pos (i - 1).toNat)
  have b2 := Int.emod_lt_of_pos b (two_pos (i - 1).toNat)
  have e : (2 : Int) ^ i.toNat = 2 ^ (i - 1).toNat * 2 := by rw [← Int.pow_succ]; congr 1; have : 0 ≤ blen a := by (unfold blen; split <;> omega)
                                                             omega
  have := (bv_bd os).1
  cases c with
  | false => simpa [bn] using h
  | true => simp [bn] at h; omega
theorem bsub_step {os : List Bool} {a b i n u u' : Int} (ha : 0 ≤ a) (hb : 0 ≤ b) (hi : 0 ≤ i) (hl : (os.length : Int) = i) (h : bv os = a % 2 ^ i.toNat - b % 2 ^ i.toNat + 2 ^ i.toNat * u) (hn : n = bn (bitB a i) - bn (bitB b i) - u + 2 * u') (hnb : 0 ≤ n ∧ n ≤ 1) :
    bv (os ++ [decide (n = 1)]) = a % 2 ^ (i + 1).toNat - b % 2 ^ (i + 1).toNat + 2 ^ (i + 1).toNat * u' := by
  have e : bn (decide (n = 1)) = n := by
    unfold bn
    by_cases h4 : n = 1 <;> simp [h4] <;> omega
  rw [bv_snoc, e, mod_step ha hi, mod_step hb hi, show os.length = i.toNat by omega, show (i + 1).toNat = i.toNat + 1 by omega, Int.pow_succ, h, hn]
  grind
theorem bsub_end {os : List Bool} {a b i u : Int} (ha : 0 ≤ a) (hb : 0 ≤ b) (hle : b ≤ a) (hl : (os.length : Int) = i) (h : bv os = a % 2 ^ i.toNat - b % 2 ^ i.toNat + 2 ^ i.toNat * u) (hu : 0 ≤ u ∧ u ≤ 1) (h1 : i = blen a) : bv os = a - b := by
  have a1 := mod_all ha (i := i) (by omega)
  have a2 := Int.emod_lt_of_pos a (two_pos i.toNat)
  rw [a1] at a2
  rw [a1, Int.emod_eq_of_lt hb (by omega)] at h
  have h3 := bv_bd os
  rw [show os.length = i.toNat by omega] at h3
  have : u = 0 := by
    rcases Int.lt_or_eq_of_le hu.1 with h4 | h4
    · obtain rfl : u = 1 := by omega
      omega
    · exact h4.symm
  subst this
  simpa using h
end Go.Gw

set_option linter.unusedSimpArgs false
set_option linter.unusedVariables false
namespace Go.Gw
open Go.RowKit
section
variable {P : Program} {ops : Array Oper} {Q : Exit → Act → World → Prop} {rest : List Oper} {n : Nat} {D : List Deferred} {ρ : Env} {w : World}
variable {d ty xt yt : Nat} {pos : String} {after : Array Edge} {gd : Option (Nat × Bool)} {C : Value → World → Prop} {x y : Operand} {k j : IntKind} {a b M : Int}
theorem s_negk (hk : k.signed = false) (hM : (2 : Int) ^ k.bits = M) (hx : opv ρ x = some (.int k a)) (h : C (.int k ((-a) % M)) w) : OpW P ⟨some d, .unOp .neg xt x, ty, pos, after, gd⟩ n D ρ w C :=
  opw_val (v := .int k ((-a) % M)) (fun e he => by
    have h1 : Op.unary .neg (.int k a) = pure (.int k ((-a) % M)) := by
      show Op.intArith .sub k 0 a = _
      simp [Op.intArith, wrap_u hk, hM]
    simp [execOp, he x _ hx, h1]) h
end
section
variable {P : Program} {n : Nat} {ρ : Env} {w : World}
/-- One result, a struct that lies in a cell row of its own. -/
theorem w_retc1 {Q : Exit → Act → World → Prop} {fn : Func} {R : Ending → World → Prop} {t ty m g : Nat} {cs : List Value} (hr : fn.results = #[.cell t ty]) (ht : RowF P ty m) (hl : look ρ t = some (.pointer (some ⟨g, 0, none⟩)))
    (hc : w.rangeAt g 0 cs) (hm : cs.length = m) (h : R (.returned (.agg cs.toArray)) w)
    (hQ : ∀ a w, Q .ret a w = bodyPost P fn R .ret a w := by exact fun _ _ => rfl) : W P .ret Q n [] ρ w := by
  intro a ha
  refine wp_ret ?_
  rw [hQ]
  refine bodyPost_ret (v := .agg cs.toArray) ?_ ha.defers h
  obtain ⟨dd, hu, hrow, hs⟩ := ht.out
  have h1 : a.tmps[t]?.getD undef = .pointer (some ⟨g, 0, none⟩) := by rw [ha.slot t _ hl]; rfl
  have h3 := run_loadVar_mid (P := P) w g 0 ty cs dd hc hu hrow (by rw [hs, hm])
  simp [results, hr, h1, asAddr, h3]
/-- A loop whose rounds are counted by the walk itself. -/
theorem w_unroll {D : List Deferred} {Q : Exit → Act → World → Prop} {c : Code} (m : Nat) (h : W P c (Exit.then (Code.rounds P c Q m) Q) n D ρ w) : W P (.loop c) Q n D ρ w := fun a ha => wp_loop_rounds (m + 1) (h a ha)
theorem n_again {D : List Deferred} {Q : Exit → Act → World → Prop} {c : Code} {m : Nat} (h : W P c (Exit.then (Code.rounds P c Q m) Q) n D ρ w) : Nx n D ρ w (Exit.then (Code.rounds P c Q (m + 1)) Q .normal) := h
end
section
variable {P : Program} {ops : Array Oper} {Q : Exit → Act → World → Prop} {rest : List Oper} {n : Nat} {D : List Deferred} {ρ : Env} {w : World}
variable {d ty xt yt : Nat} {pos : String} {after : Array Edge} {gd : Option (Nat × Bool)} {C : Value → World → Prop} {x y : Operand} {a b c : Int}
theorem s_addl (hx : opv ρ x = some (.int .i64 a)) (hy : opv ρ y = some (.int .i64 b)) (e : a + b = c) (hb : -9223372036854775808 ≤ c ∧ c ≤ 9223372036854775807)
    (h : C (.int .i64 c) w) : OpW P ⟨some d, .binOp .add xt x y yt, ty, pos, after, gd⟩ n D ρ w C :=
  s_add hx hy (by omega) (e ▸ h)
end
/-! ### A slice of numbers beside a row without any -/
end Go.Gw

set_option linter.unusedSimpArgs false
set_option linter.unusedVariables false
namespace Go.Gw
open Go.RowKit
/-! ### A region that draws its order: what ends it may wait for the rest by way of others -/
section
variable {P : Program} {l : List Oper} {Q : Exit → Act → World → Prop} {n m : Nat} {D : List Deferred} {ρ0 : Env} {w0 : World} {R : World → World → Prop} {sp : Spec} {ds : List (List Nat)}
structure MidT (l : List Oper) (n : Nat) (D : List Deferred) (ρ0 : Env) (w0 : World) (R : World → World → Prop) (sp : Spec) (m N : Nat) (listed : Array Bool) (vals : Nat → Value) (a : Act) (w : World) : Prop where
  fr : Fr n D ρ0 a
  wr : R w0 w
  size : listed.size = N
  tail : ∀ i, m ≤ i → listed.getD i false = false
  cl : ∀ i o j, l[i]? = some o → listed.getD i false = true → hasEdge o j = true → listed.getD j false = true
  got : ∀ i dst φ, sp[i]? = some (dst, φ) → listed.getD i false = true → φ (vals i) w ∧ ∀ d, dst = some d → a.tmps[d]? = some (vals i)

theorem depV_instT {listed : Array Bool} {vals : Nat → Value} {a : Act} {w : World} {N : Nat} (hM : MidT l n D ρ0 w0 R sp m N listed vals a w) : ∀ (d : List Nat) (ρ : Env) (K : Env → Prop), Fr n D ρ a → (∀ j ∈ d, listed.getD j false = true) →
    depV sp d ρ w K → ∃ ρ', Fr n D ρ' a ∧ K ρ'
  | [], ρ, K, hF, _, h => ⟨ρ, hF, h⟩
  | j :: r, ρ, K, hF, hl, h => by
    unfold depV at h
    split at h
    · rename_i d φ hs
      obtain ⟨h1, h2⟩ := hM.got j _ _ hs (hl j (by simp))
      refine depV_instT hM r _ K ⟨hF.defers, hF.size, fun t v hlk => ?_⟩ (fun i hi => hl i (by simp [hi])) (h _ h1)
      rw [look_cons] at hlk
      split at hlk
      · rename_i e; subst e; cases hlk; exact h2 _ rfl
      · exact hF.slot _ _ hlk
    · exact depV_instT hM r _ K hF (fun i hi => hl i (by simp [hi])) h
def reachN (l : List Oper) : Nat → Oper → Nat → Bool
  | 0, o, j => hasEdge o j
  | f + 1, o, j => hasEdge o j || (List.range l.length).any fun k => hasEdge o k && (match l[k]? with | some o' => reachN l f o' j | none => false)
theorem reach_listed {l : List Oper} {L : Array Bool} (cl : ∀ i o j, l[i]? = some o → L.getD i false = true → hasEdge o j = true → L.getD j false = true) : ∀ (f : Nat) (o : Oper) (j : Nat), (∀ k, hasEdge o k = true → L.getD k false = true) → reachN l f o j = true → L.getD j false = true
  | 0, o, j, h, hr => h j hr
  | f + 1, o, j, h, hr => by
    unfold reachN at hr
    rw [Bool.or_eq_true] at hr
    rcases hr with hr | hr
    · exact h j hr
    · rw [List.any_eq_true] at hr
      obtain ⟨k, _, hk⟩ := hr
      rw [Bool.and_eq_true] at hk
      obtain ⟨h1, h2⟩ := hk
      split at h2
      · rename_i o' ho'
        exact reach_listed cl f o' j (fun k' hk' => cl k o' k' ho' (h k h1) hk') h2
      · cases h2
def drawOkT (l : List Oper) (m n : Nat) (keys : List Nat) (sd : List (Option Nat)) (ds : List (List Nat)) : Bool :=
  decide (m ≤ l.length) && decide (sd.length = m) && decide (ds.length = m) &&
  (List.range l.length).all (fun i => match l[i]? with
    | some o => o.after.all (fun e => !Region.binds .any e || decide (e.on < i)) &&
      (if i < m then (ds.getD i []).all (fun j => decide (j < m) && hasEdge o j) && (decide (sd.getD i none = o.dst)) && (match o.dst with | some d => decide (d < n) && !keys.contains d | none => true)
       else (i == m || hasEdge o (i - 1)) && (List.range m).all (fun j => reachN l 8 o j))
    | none => false) &&
  (List.range m).all (fun i => (List.range m).all fun j => i == j || (match sd.getD i none, sd.getD j none with | some d, some e => d != e | _, _ => true))
structure DrawFactsT (l : List Oper) (m n : Nat) (keys : List Nat) (sp : Spec) (ds : List (List Nat)) : Prop where
  le : m ≤ l.length
  spl : sp.length = m
  before : ∀ (i : Nat) (o : Oper), l[i]? = some o → ∀ e, e ∈ o.after → Region.binds .any e = true → e.on < i
  deps : ∀ (i : Nat) (o : Oper), i < m → l[i]? = some o → ∀ j, j ∈ ds.getD i [] → j < m ∧ hasEdge o j = true
  dst : ∀ (i : Nat) (o : Oper) (dst : Option Nat) (φ : Value → World → Prop), l[i]? = some o → sp[i]? = some (dst, φ) → o.dst = dst
  ok : ∀ (i : Nat) (o : Oper) (d : Nat), i < m → l[i]? = some o → o.dst = some d → d < n ∧ d ∉ keys
  tail : ∀ (i : Nat) (o : Oper), m ≤ i → l[i]? = some o → (i = m ∨ hasEdge o (i - 1) = true) ∧ ∀ j, j < m → reachN l 8 o j = true
  apart : ∀ (i j : Nat) (o o' : Oper) (d : Nat), i < m → j < m → i ≠ j → l[i]? = some o → l[j]? = some o' → o.dst = some d → o'.dst ≠ some d
theorem drawFactsT {keys : List Nat} (h : drawOkT l m n keys (sp.map (·.1)) ds = true) : DrawFactsT l m n keys sp ds := by
  unfold drawOkT at h
  simp only [Bool.and_eq_true, decide_eq_true_eq, List.all_eq_true, List.mem_range, List.length_map] at h
  obtain ⟨⟨⟨⟨h1, h2⟩, h3⟩, h4⟩, h5⟩ := h
  have hat : ∀ i o, l[i]? = some o → i < l.length := fun i o ho => (List.getElem?_eq_some_iff.1 ho).1
  have hsd : ∀ i, (List.map (·.1) sp).getD i none = ((sp[i]?).map (·.1)).getD none := fun i => by simp [List.getD_eq_getElem?_getD]
  refine ⟨h1, h2, ?_, ?_, ?_, ?_, ?_, ?_⟩
  · intro i o ho e he hb
    have := h4 i (hat i o ho)
    rw [ho] at this
    simp only [Bool.and_eq_true] at this
    obtain ⟨k, hk, rfl⟩ := Array.getElem_of_mem he
    have := (Array.all_eq_true.1 this.1) k hk
    simpa [hb] using this
  · intro i o hi ho j hj
    have := h4 i (hat i o ho)
    rw [ho] at this
    simp only [Bool.and_eq_true, if_pos hi, List.all_eq_true, decide_eq_true_eq] at this
    exact this.2.1.1 j hj
  · intro i o dst φ ho hs
    have hi : i < m := by rw [← h2]; exact (List.getElem?_eq_some_iff.1 hs).1
    have := h4 i (hat i o ho)
    rw [ho] at this
    simp only [Bool.and_eq_true, if_pos hi, List.all_eq_true, decide_eq_true_eq] at this
    have h6 := this.2.1.2
    rw [hsd, hs] at h6
    simpa using h6.symm
  · intro i o d hi ho hd
    have := h4 i (hat i o ho)
    rw [ho] at this
    simp only [Bool.and_eq_true, if_pos hi, List.all_eq_true, decide_eq_true_eq] at this
    have h6 := this.2.2
    rw [hd] at h6
    simpa using h6
  · intro i o hi ho
    have := h4 i (hat i o ho)
    rw [ho] at this
    simp only [Bool.and_eq_true, if_neg (show ¬ i < m by omega), List.all_eq_true, List.mem_range, Bool.or_eq_true, beq_iff_eq] at this
    exact this.2
  · intro i j o o' d hi hj hne ho ho' hd hd'
    have h6 := h5 i hi j hj
    have a1 : (List.map (·.1) sp).getD i none = some d := by
      have := h4 i (hat i o ho)
      rw [ho] at this
      simp only [Bool.and_eq_true, if_pos hi, decide_eq_true_eq] at this
      rw [this.2.1.2, hd]
    have a2 : (List.map (·.1) sp).getD j none = some d := by
      have := h4 j (hat j o' ho')
      rw [ho'] at this
      simp only [Bool.and_eq_true, if_pos hj, decide_eq_true_eq] at this
      rw [this.2.1.2, hd']
    rw [a1, a2] at h6
    simp [hne] at h6

theorem tail_anyT {keys : List Nat} (hF : DrawFactsT l m n keys sp ds) : ∀ (fuel k : Nat) (listed : Array Bool) (a : Act) (w : World), m ≤ k → k ≤ l.length → l.length - k ≤ fuel → listed.size = l.length →
    (∀ i, i < k → listed.getD i false = true) → (∀ i, k ≤ i → listed.getD i false = false) → wpList P l.toArray Q (l.drop k) a w → wpAny P .any l.toArray Q fuel listed a w := by
  intro fuel
  induction fuel with
  | zero =>
    intro k listed a w hm hk hf hs h1 h2 h
    have hk' : k = l.length := by omega
    subst hk'
    rw [List.drop_length] at h
    refine ⟨?_, h⟩
    rw [List.eq_nil_iff_forall_not_mem]
    intro i hi
    obtain ⟨o, ho, hf', _⟩ := (mem_ready (by simpa using hs)).1 hi
    have : i < l.length := by simpa using (Array.getElem?_eq_some_iff.1 ho).1
    rw [h1 i this] at hf'; cases hf'
  | succ fuel ih =>
    intro k listed a w hm hk hf hs h1 h2 h
    rcases Nat.lt_or_ge k l.length with hlt | hge
    · have hget : l[k]? = some l[k] := List.getElem?_eq_getElem hlt
      have hr : k ∈ Region.ready .any l.toArray listed := by
        refine (mem_ready (by simpa using hs)).2 ⟨l[k], by simp, h2 k (Nat.le_refl _), ?_⟩
        rw [Array.all_eq_true]
        intro j hj
        by_cases hb : Region.binds .any l[k].after[j] = true
        · rw [h1 _ (hF.before k _ hget _ (Array.getElem_mem hj) hb)]; simp
        · simp [hb]
      refine ⟨fun h0 => by rw [h0] at hr; simp at hr, fun i hi => ?_⟩
      obtain ⟨o, ho, hfi, hall⟩ := (mem_ready (by simpa using hs)).1 hi
      have ho' : l[i]? = some o := by simpa using ho
      have hik : i = k := by
        rcases Nat.lt_trichotomy i k with h3 | h3 | h3
        · rw [h1 i h3] at hfi; cases hfi
        · exact h3
        · have := hasEdge_listed ((hF.tail i o (by omega) ho').1.resolve_left (by omega)) hall
          rw [h2 (i - 1) (by omega)] at this; cases this
      subst hik
      have hsz : i < listed.size := by omega
      have hnext : ∀ a w, wpList P l.toArray Q (l.drop (i + 1)) a w → wpAny P .any l.toArray Q fuel (listed.setIfInBounds i true) a w := fun a w hh =>
        ih (i + 1) _ a w (by omega) (by omega) (by omega) (by simpa using hs) (fun j hj => by
          rw [getD_set _ _ _ hsz]
          by_cases e : i = j
          · rw [if_pos e]
          · rw [if_neg e]; exact h1 j (by omega))
          (fun j hj => by rw [getD_set _ _ _ hsz, if_neg (by omega)]; exact h2 j (by omega)) hh
      rw [List.drop_eq_getElem_cons hlt] at h
      unfold wpList at h
      unfold wpOp
      rw [ho]
      have hoe : o = l[i] := by rw [hget] at ho'; injection ho' with e; exact e.symm
      subst hoe
      dsimp only
      split
      · rename_i hw
        rw [if_pos hw] at h
        rcases h with h | h
        · exact .inl (Oper.wp_mono hnext h)
        · exact .inr h
      · rename_i hw
        rw [if_neg hw] at h
        exact hnext _ _ h
    · have hk' : k = l.length := by omega
      subst hk'
      rw [List.drop_length] at h
      refine ⟨fun _ => h, fun i hi => ?_⟩
      obtain ⟨o, ho, hf', _⟩ := (mem_ready (by simpa using hs)).1 hi
      have : i < l.length := by simpa using (Array.getElem?_eq_some_iff.1 ho).1
      rw [h1 i this] at hf'; cases hf'

theorem mid_anyT {keys : List Nat} (hF : DrawFactsT l m n keys sp ds) (hkeys : ∀ t v, look ρ0 t = some v → t ∈ keys) (hRt : ∀ a b c, R a b → R b c → R a c) (hst : StAll R sp) (hobs : ObsAll P l.toArray n D ρ0 w0 R sp l ds sp)
    (hend : ∀ w, R w0 w → AllV sp ρ0 w (fun ρ => Reg P l.toArray Q (l.drop m) n D ρ w)) :
    ∀ (fuel : Nat) (listed : Array Bool) (vals : Nat → Value) (a : Act) (w : World), MidT l n D ρ0 w0 R sp m l.length listed vals a w → cnt l.length listed ≤ fuel → wpAny P .any l.toArray Q fuel listed a w := by
  -- once all heads are listed
  have hfin : ∀ (fuel : Nat) (listed : Array Bool) (vals : Nat → Value) (a : Act) (w : World), MidT l n D ρ0 w0 R sp m l.length listed vals a w → (∀ i, i < m → listed.getD i false = true) → l.length - m ≤ fuel → wpAny P .any l.toArray Q fuel listed a w := by
    intro fuel listed vals a w hM hall hf
    obtain ⟨ρ', hFr, hReg⟩ := allV_inst (w := w) vals sp 0 ρ0 _ hM.fr (fun i dst φ hs => by
      have hi : i < m := by rw [← hF.spl]; exact (List.getElem?_eq_some_iff.1 hs).1
      rw [Nat.zero_add]; exact hM.got i dst φ hs (hall i hi)) (hend w hM.wr)
    exact tail_anyT hF fuel m listed a w (Nat.le_refl _) hF.le hf hM.size hall hM.tail (hReg a hFr)
  have hcnt : ∀ listed : Array Bool, (∀ i, m ≤ i → listed.getD i false = false) → ∀ k, m ≤ k → k - m ≤ cnt k listed := by
    intro listed ht k
    induction k with
    | zero => intro _; omega
    | succ k ih =>
      intro hk
      unfold cnt
      rcases Nat.lt_or_ge k m with h | h
      · omega
      · rw [ht k h]; have := ih h; simp; omega
  intro fuel
  induction fuel with
  | zero =>
    intro listed vals a w hM hc
    have h0 : cnt l.length listed = 0 := by omega
    have hall := cnt_zero listed _ h0
    refine hfin 0 listed vals a w hM (fun i hi => hall i (by have := hF.le; omega)) ?_
    have := hcnt listed hM.tail l.length hF.le
    omega
  | succ fuel ih =>
    intro listed vals a w hM hc
    by_cases hall : ∀ i, i < m → listed.getD i false = true
    · refine hfin _ listed vals a w hM hall ?_
      have := hcnt listed hM.tail l.length hF.le
      omega
    · -- some head is not listed: it's not the end, and no tail is ready
      refine ⟨fun h0 => absurd ?_ hall, fun i hi => ?_⟩
      · -- the least one that isn't listed is ready
        intro i hi
        induction i using Nat.strongRecOn with
        | _ i ihh =>
          by_cases hb : listed.getD i false = true
          · exact hb
          · exfalso
            have hil : i < l.length := by have := hF.le; omega
            have hr : i ∈ Region.ready .any l.toArray listed := by
              refine (mem_ready (by simpa using hM.size)).2 ⟨l[i], by simp [hil], by simpa using hb, ?_⟩
              rw [Array.all_eq_true]
              intro j hj
              by_cases hbd : Region.binds .any l[i].after[j] = true
              · have := hF.before i _ (List.getElem?_eq_getElem hil) _ (Array.getElem_mem hj) hbd
                rw [ihh _ this (by omega)]; simp
              · simp [hbd]
            rw [h0] at hr; simp at hr
      · obtain ⟨o, ho, hfi, hal⟩ := (mem_ready (by simpa using hM.size)).1 hi
        have ho' : l[i]? = some o := by simpa using ho
        have hil : i < l.length := (List.getElem?_eq_some_iff.1 ho').1
        have him : i < m := by
          rcases Nat.lt_or_ge i m with h | h
          · exact h
          · exact absurd (fun j hj => reach_listed hM.cl 8 o j (fun k hk => hasEdge_listed hk hal) ((hF.tail i o h ho').2 j hj)) hall
        have hsp : ∃ dst φ, sp[i]? = some (dst, φ) := by
          have : i < sp.length := by rw [hF.spl]; exact him
          exact ⟨_, _, List.getElem?_eq_getElem this⟩
        obtain ⟨dst, φ, hs⟩ := hsp
        have hdst := hF.dst i o dst φ ho' hs
        subst hdst
        have hsz : i < listed.size := by rw [hM.size]; exact hil
        obtain ⟨ρ', hFr, hOp⟩ := depV_instT hM (ds.getD i []) ρ0 _ hM.fr (fun j hj => hasEdge_listed (hF.deps i o him ho' j hj).2 hal) (hobs.at_ hs ho' w hM.wr)
        have hnew : ∀ (v : Value) (w' : World), φ v w' → R w w' → MidT l n D ρ0 w0 R sp m l.length (listed.setIfInBounds i true) (fun j => if j = i then v else vals j) (a.put o.dst v) w' := by
          intro v w' hv hR
          have hput : ∀ t, (∀ d, o.dst = some d → t ≠ d) → (a.put o.dst v).tmps[t]? = a.tmps[t]? := by
            intro t ht
            cases hd : o.dst with
            | none => rfl
            | some d => simp only [Act.put, Array.getElem?_setIfInBounds]; rw [if_neg (fun e => ht d hd e.symm)]
          have hputd : ∀ d, o.dst = some d → (a.put o.dst v).tmps[d]? = some v := by
            intro d hd
            have := (hF.ok i o d him ho' hd).1
            rw [hd]
            simp [Act.put, hM.fr.size, this]
          refine ⟨⟨?_, ?_, ?_⟩, hRt _ _ _ hM.wr hR, by simpa using hM.size, ?_, ?_, ?_⟩
          · rw [← hM.fr.defers]; cases o.dst <;> rfl
          · rw [← hM.fr.size]; cases o.dst <;> simp [Act.put]
          · intro t u hl
            rw [hput t (fun d hd e => (hF.ok i o d him ho' hd).2 (by rw [← e]; exact hkeys t u hl))]
            exact hM.fr.slot t u hl
          · intro j hj
            rw [getD_set _ _ _ hsz, if_neg (by omega)]; exact hM.tail j hj
          · intro j oj j' hoj hl he
            rw [getD_set _ _ _ hsz] at hl ⊢
            by_cases e : i = j'
            · rw [if_pos e]
            · rw [if_neg e]
              by_cases e2 : i = j
              · subst e2; rw [ho'] at hoj; injection hoj with hoj; subst hoj; exact hasEdge_listed he hal
              · rw [if_neg e2] at hl; exact hM.cl j oj j' hoj hl he
          · intro j dst φ' hs' hl
            rw [getD_set _ _ _ hsz] at hl
            by_cases e : j = i
            · subst e
              rw [hs] at hs'
              injection hs' with hs'
              injection hs' with e1 e2
              subst e1; subst e2
              rw [if_pos rfl]
              exact ⟨hv, hputd⟩
            · rw [if_neg (fun e' => e e'.symm)] at hl
              rw [if_neg e]
              obtain ⟨g1, g2⟩ := hM.got j dst φ' hs' hl
              refine ⟨hst.at_ hs' _ _ _ g1 hR, fun d hd => ?_⟩
              have hj : j < m := by rw [← hF.spl]; exact (List.getElem?_eq_some_iff.1 hs').1
              have hjl : j < l.length := by have := hF.le; omega
              have hoj := List.getElem?_eq_getElem hjl
              have hdj := hF.dst j _ dst φ' hoj hs'
              rw [hput d (fun d' hd' e' => by subst e'; exact hF.apart j i _ o d hj him e hoj ho' (by rw [hdj, hd]) hd')]
              exact g2 d hd
        have hcnt' := cnt_set listed i hsz hfi l.length hil
        unfold wpOp
        rw [ho]
        dsimp only
        have h1 := hOp a hFr
        split
        · rename_i hw
          rw [if_pos hw] at h1
          refine .inl (Oper.wp_mono ?_ (h1 Q))
          rintro a' w' ⟨v, rfl, hv, hR⟩
          exact ih _ _ _ _ (hnew v w' hv hR) (by omega)
        · rename_i hw
          rw [if_neg hw] at h1
          exact ih _ _ _ _ (hnew undef w h1.1 h1.2) (by omega)

theorem w_drawT {id : Nat} {w : World} {ρ : Env} (m : Nat) (R : World → World → Prop) (sp : Spec) (ds : List (List Nat)) (ρ0 : Env) (hsub : Sub ρ0 ρ) (hm : P.follows .mixedOrders = true)
    (hchk : drawOkT l m n (keysOf ρ0) (sp.map (·.1)) ds = true) (hR : ∀ a, R a a) (hRt : ∀ a b c, R a b → R b c → R a c) (hst : StAll R sp)
    (h : ∀ w0, w.grownBy w0 none → w0.heap.size = w.heap.size → ObsAll P l.toArray n D ρ0 w0 R sp l ds sp ∧ (∀ w', R w0 w' → AllV sp ρ0 w' (fun ρ => Reg P l.toArray Q (l.drop m) n D ρ w'))) :
    W P (.region id l.toArray true) Q n D ρ w := by
  intro a ha
  have hF := drawFactsT hchk
  obtain ⟨h1, h2⟩ := h w.drew (grown_drew w) rfl
  refine wp_region_any hm ?_
  have := mid_anyT hF (fun t v hl => look_of_keys hl) hRt hst h1 h2 l.length (Array.replicate l.length false) (fun _ => undef) a w.drew ⟨ha.sub hsub, hR _, by simp, fun i _ => by simp [Array.getD_eq_getD_getElem?, Array.getElem?_replicate]; split <;> rfl, fun i o j _ hl _ => by
    simp [Array.getD_eq_getD_getElem?, Array.getElem?_replicate] at hl
    split at hl <;> simp at hl, fun i dst φ hs hl => by
    simp [Array.getD_eq_getD_getElem?, Array.getElem?_replicate] at hl
    split at hl <;> simp at hl⟩ (by
      have : ∀ k L, cnt k L ≤ k := by
        intro k L; induction k with
        | zero => exact Nat.le_refl _
        | succ k ih => unfold cnt; split <;> omega
      exact this _ _)
  simpa using this
end
end Go.Gw

set_option linter.unusedSimpArgs false
set_option linter.unusedVariables false
namespace Go.Gw
open Go.RowKit
/-! ### A region that draws its order and makes several new rows -/
def NewV (v : Value) (w : World) : Prop := ∃ g, v = .pointer (some ⟨g, 0, none⟩) ∧ w.heap.size ≤ g
def OldV (v : Value) (w : World) : Prop := ∃ g, v = .pointer (some ⟨g, 0, none⟩) ∧ g < w.heap.size
theorem new_ne_old {u v : Value} {w : World} (h : NewV v w) (k : OldV u w) : u ≠ v := by
  obtain ⟨g, rfl, hg⟩ := h
  obtain ⟨g', rfl, hg'⟩ := k
  intro e; injection e with e; injection e with e; injection e with e; omega
def AllVF : Spec → List Bool → List Value → Env → World → (Env → Prop) → Prop
  | [], _, _, ρ, _, K => K ρ
  | (some d, φ) :: r, true :: bs, acc, ρ, w, K => ∀ v, φ v w → (∀ u ∈ acc, u ≠ v) → AllVF r bs (v :: acc) ((d, v) :: ρ) w K
  | (some d, φ) :: r, _ :: bs, acc, ρ, w, K => ∀ v, φ v w → AllVF r bs acc ((d, v) :: ρ) w K
  | (none, _) :: r, _ :: bs, acc, ρ, w, K => AllVF r bs acc ρ w K
  | _ :: _, [], _, _, _, _ => False
def ObsAllF (P : Program) (ops : Array Oper) (n : Nat) (D : List Deferred) (ρ0 : Env) (w0 : World) (R : World → World → Prop) (sp : Spec) : List Oper → List (List Nat) → List Bool → Spec → Prop
  | o :: os, d :: ds, b :: bs, (_, φ) :: r => (∀ w, R w0 w → depV sp d ρ0 w (fun ρ => Op1 P ops o n D ρ w (fun v w' => φ v w' ∧ R w w' ∧ (b = true → NewV v w)))) ∧ ObsAllF P ops n D ρ0 w0 R sp os ds bs r
  | _, _, _, [] => True
  | _, _, _, _ => False
def OldAll : Spec → List Bool → Prop
  | (_, φ) :: r, b :: bs => (b = true → ∀ v w, φ v w → OldV v w) ∧ OldAll r bs
  | _, _ => True
theorem OldAll.at_ : ∀ {sp : Spec} {bs : List Bool}, OldAll sp bs → ∀ {i : Nat} {dst : Option Nat} {φ : Value → World → Prop}, sp[i]? = some (dst, φ) → bs.getD i false = true → ∀ v w, φ v w → OldV v w
  | [], _, _, i, dst, φ, hs, _, _, _, _ => by simp at hs
  | p :: r, [], _, i, dst, φ, _, hb, _, _, _ => by simp at hb
  | p :: r, b :: bs, h, i, dst, φ, hs, hb, v, w, hv => by
    obtain ⟨pd, pφ⟩ := p
    obtain ⟨h1, h2⟩ := h
    cases i with
    | zero => simp at hs hb; obtain ⟨rfl, rfl⟩ := hs; exact h1 hb v w hv
    | succ i => simp at hs hb; exact OldAll.at_ h2 hs (by simpa using hb) v w hv
section
variable {P : Program} {l : List Oper} {Q : Exit → Act → World → Prop} {n m : Nat} {D : List Deferred} {ρ0 : Env} {w0 : World} {R : World → World → Prop} {sp : Spec} {ds : List (List Nat)} {bs : List Bool}
theorem ObsAllF.at_ {ops : Array Oper} : ∀ {l' : List Oper} {ds' : List (List Nat)} {bs' : List Bool} {sp' : Spec}, ObsAllF P ops n D ρ0 w0 R sp l' ds' bs' sp' → ∀ {i : Nat} {dst : Option Nat} {φ : Value → World → Prop} {o : Oper}, sp'[i]? = some (dst, φ) → l'[i]? = some o →
    ∀ w, R w0 w → depV sp (ds'.getD i []) ρ0 w (fun ρ => Op1 P ops o n D ρ w (fun v w' => φ v w' ∧ R w w' ∧ (bs'.getD i false = true → NewV v w))) := by
  intro l' ds' bs' sp' h
  induction sp' generalizing l' ds' bs' with
  | nil => intro i dst φ o hs; simp at hs
  | cons p r ih =>
    intro i dst φ o hs hl
    obtain ⟨pd, pφ⟩ := p
    match l', ds', bs', h with
    | o' :: os, d :: dd, b :: bb, h =>
      obtain ⟨h1, h2⟩ := h
      cases i with
      | zero => simp at hs hl; obtain ⟨rfl, rfl⟩ := hs; subst hl; simpa using h1
      | succ i => simp at hs hl; simpa using ih h2 hs hl
theorem allVF_inst {w : World} (vals : Nat → Value) {a : Act} : ∀ (r : Spec) (bs : List Bool) (k : Nat) (acc : List Value) (ρ : Env) (K : Env → Prop), Fr n D ρ a → (∀ i dst φ, r[i]? = some (dst, φ) → φ (vals (k + i)) w ∧ ∀ d, dst = some d → a.tmps[d]? = some (vals (k + i))) →
    (∀ i u, bs.getD i false = true → i < r.length → u ∈ acc → u ≠ vals (k + i)) → (∀ i j, bs.getD i false = true → bs.getD j false = true → i < r.length → j < r.length → i ≠ j → vals (k + i) ≠ vals (k + j)) →
    AllVF r bs acc ρ w K → ∃ ρ', Fr n D ρ' a ∧ K ρ'
  | [], bs, k, acc, ρ, K, hF, _, _, _, h => by unfold AllVF at h; exact ⟨ρ, hF, h⟩
  | p :: r, [], k, acc, ρ, K, hF, hg, ha, hb, h => by obtain ⟨pd, pφ⟩ := p; cases pd <;> exact (show False from h).elim
  | (some d, φ) :: r, true :: bs, k, acc, ρ, K, hF, hg, ha, hb, h => by
    obtain ⟨h1, h2⟩ := hg 0 _ _ rfl
    unfold AllVF at h
    refine allVF_inst vals r bs (k + 1) _ _ K ⟨hF.defers, hF.size, fun t v hlk => ?_⟩ (fun i dst φ hs => by have := hg (i + 1) dst φ (by simpa using hs); rwa [show k + 1 + i = k + (i + 1) by omega])
      (fun i u h3 h4 h5 => ?_) (fun i j h3 h4 h5 h6 h7 => ?_) (h _ h1 (fun u hu => by have := ha 0 u rfl (by simp) hu; simpa using this))
    · rw [look_cons] at hlk
      split at hlk
      · rename_i e; subst e; cases hlk; exact h2 _ rfl
      · exact hF.slot _ _ hlk
    · rcases List.mem_cons.1 h5 with rfl | h5
      · have := hb 0 (i + 1) rfl (by simpa using h3) (by simp) (by simpa using h4) (by omega)
        rwa [show k + 1 + i = k + (i + 1) by omega]
      · have := ha (i + 1) u (by simpa using h3) (by simpa using h4) h5
        rwa [show k + 1 + i = k + (i + 1) by omega]
    · have := hb (i + 1) (j + 1) (by simpa using h3) (by simpa using h4) (by simpa using h5) (by simpa using h6) (by omega)
      rwa [show k + 1 + i = k + (i + 1) by omega, show k + 1 + j = k + (j + 1) by omega]
  | (some d, φ) :: r, false :: bs, k, acc, ρ, K, hF, hg, ha, hb, h => by
    obtain ⟨h1, h2⟩ := hg 0 _ _ rfl
    unfold AllVF at h
    refine allVF_inst vals r bs (k + 1) _ _ K ⟨hF.defers, hF.size, fun t v hlk => ?_⟩ (fun i dst φ hs => by have := hg (i + 1) dst φ (by simpa using hs); rwa [show k + 1 + i = k + (i + 1) by omega])
      (fun i u h3 h4 h5 => ?_) (fun i j h3 h4 h5 h6 h7 => ?_) (h _ h1)
    · rw [look_cons] at hlk
      split at hlk
      · rename_i e; subst e; cases hlk; exact h2 _ rfl
      · exact hF.slot _ _ hlk
    · have := ha (i + 1) u (by simpa using h3) (by simpa using h4) h5
      rwa [show k + 1 + i = k + (i + 1) by omega]
    · have := hb (i + 1) (j + 1) (by simpa using h3) (by simpa using h4) (by simpa using h5) (by simpa using h6) (by omega)
      rwa [show k + 1 + i = k + (i + 1) by omega, show k + 1 + j = k + (j + 1) by omega]
  | (none, φ) :: r, b :: bs, k, acc, ρ, K, hF, hg, ha, hb, h => by
    have h' : AllVF r bs acc ρ w K := by cases b <;> (unfold AllVF at h; exact h)
    refine allVF_inst vals r bs (k + 1) _ _ K hF (fun i dst φ hs => by have := hg (i + 1) dst φ (by simpa using hs); rwa [show k + 1 + i = k + (i + 1) by omega])
      (fun i u h3 h4 h5 => ?_) (fun i j h3 h4 h5 h6 h7 => ?_) h'
    · have := ha (i + 1) u (by simpa using h3) (by simpa using h4) h5
      rwa [show k + 1 + i = k + (i + 1) by omega]
    · have := hb (i + 1) (j + 1) (by simpa using h3) (by simpa using h4) (by simpa using h5) (by simpa using h6) (by omega)
      rwa [show k + 1 + i = k + (i + 1) by omega, show k + 1 + j = k + (j + 1) by omega]
structure MidF (l : List Oper) (bs : List Bool) (n : Nat) (D : List Deferred) (ρ0 : Env) (w0 : World) (R : World → World → Prop) (sp : Spec) (m N : Nat) (listed : Array Bool) (vals : Nat → Value) (a : Act) (w : World) : Prop where
  fr : Fr n D ρ0 a
  wr : R w0 w
  size : listed.size = N
  tail : ∀ i, m ≤ i → listed.getD i false = false
  cl : ∀ i o j, l[i]? = some o → listed.getD i false = true → hasEdge o j = true → listed.getD j false = true
  fre : ∀ i j, bs.getD i false = true → bs.getD j false = true → i < m → j < m → i ≠ j → listed.getD i false = true → listed.getD j false = true → vals i ≠ vals j
  got : ∀ i dst φ, sp[i]? = some (dst, φ) → listed.getD i false = true → φ (vals i) w ∧ ∀ d, dst = some d → a.tmps[d]? = some (vals i)

theorem depV_instF {listed : Array Bool} {vals : Nat → Value} {a : Act} {w : World} {N : Nat} (hM : MidF l bs n D ρ0 w0 R sp m N listed vals a w) : ∀ (d : List Nat) (ρ : Env) (K : Env → Prop), Fr n D ρ a → (∀ j ∈ d, listed.getD j false = true) →
    depV sp d ρ w K → ∃ ρ', Fr n D ρ' a ∧ K ρ'
  | [], ρ, K, hF, _, h => ⟨ρ, hF, h⟩
  | j :: r, ρ, K, hF, hl, h => by
    unfold depV at h
    split at h
    · rename_i d φ hs
      obtain ⟨h1, h2⟩ := hM.got j _ _ hs (hl j (by simp))
      refine depV_instF hM r _ K ⟨hF.defers, hF.size, fun t v hlk => ?_⟩ (fun i hi => hl i (by simp [hi])) (h _ h1)
      rw [look_cons] at hlk
      split at hlk
      · rename_i e; subst e; cases hlk; exact h2 _ rfl
      · exact hF.slot _ _ hlk
    · exact depV_instF hM r _ K hF (fun i hi => hl i (by simp [hi])) h
theorem mid_anyF {keys : List Nat} (hF : DrawFactsT l m n keys sp ds) (hkeys : ∀ t v, look ρ0 t = some v → t ∈ keys) (hRt : ∀ a b c, R a b → R b c → R a c) (hst : StAll R sp) (hold : OldAll sp bs) (hobs : ObsAllF P l.toArray n D ρ0 w0 R sp l ds bs sp)
    (hend : ∀ w, R w0 w → AllVF sp bs [] ρ0 w (fun ρ => Reg P l.toArray Q (l.drop m) n D ρ w)) :
    ∀ (fuel : Nat) (listed : Array Bool) (vals : Nat → Value) (a : Act) (w : World), MidF l bs n D ρ0 w0 R sp m l.length listed vals a w → cnt l.length listed ≤ fuel → wpAny P .any l.toArray Q fuel listed a w := by
  -- once all heads are listed
  have hfin : ∀ (fuel : Nat) (listed : Array Bool) (vals : Nat → Value) (a : Act) (w : World), MidF l bs n D ρ0 w0 R sp m l.length listed vals a w → (∀ i, i < m → listed.getD i false = true) → l.length - m ≤ fuel → wpAny P .any l.toArray Q fuel listed a w := by
    intro fuel listed vals a w hM hall hf
    obtain ⟨ρ', hFr, hReg⟩ := allVF_inst (w := w) vals sp bs 0 [] ρ0 _ hM.fr (fun i dst φ hs => by
      have hi : i < m := by rw [← hF.spl]; exact (List.getElem?_eq_some_iff.1 hs).1
      rw [Nat.zero_add]; exact hM.got i dst φ hs (hall i hi)) (fun _ _ _ _ h => by cases h) (fun i j h1 h2 h3 h4 h5 => by
      rw [hF.spl] at h3 h4
      rw [Nat.zero_add, Nat.zero_add]; exact hM.fre i j h1 h2 h3 h4 h5 (hall i h3) (hall j h4)) (hend w hM.wr)
    exact tail_anyT hF fuel m listed a w (Nat.le_refl _) hF.le hf hM.size hall hM.tail (hReg a hFr)
  have hcnt : ∀ listed : Array Bool, (∀ i, m ≤ i → listed.getD i false = false) → ∀ k, m ≤ k → k - m ≤ cnt k listed := by
    intro listed ht k
    induction k with
    | zero => intro _; omega
    | succ k ih =>
      intro hk
      unfold cnt
      rcases Nat.lt_or_ge k m with h | h
      · omega
      · rw [ht k h]; have := ih h; simp; omega
  intro fuel
  induction fuel with
  | zero =>
    intro listed vals a w hM hc
    have h0 : cnt l.length listed = 0 := by omega
    have hall := cnt_zero listed _ h0
    refine hfin 0 listed vals a w hM (fun i hi => hall i (by have := hF.le; omega)) ?_
    have := hcnt listed hM.tail l.length hF.le
    omega
  | succ fuel ih =>
    intro listed vals a w hM hc
    by_cases hall : ∀ i, i < m → listed.getD i false = true
    · refine hfin _ listed vals a w hM hall ?_
      have := hcnt listed hM.tail l.length hF.le
      omega
    · -- some head is not listed: it's not the end, and no tail is ready
      refine ⟨fun h0 => absurd ?_ hall, fun i hi => ?_⟩
      · -- the least one that isn't listed is ready
        intro i hi
        induction i using Nat.strongRecOn with
        | _ i ihh =>
          by_cases hb : listed.getD i false = true
          · exact hb
          · exfalso
            have hil : i < l.length := by have := hF.le; omega
            have hr : i ∈ Region.ready .any l.toArray listed := by
              refine (mem_ready (by simpa using hM.size)).2 ⟨l[i], by simp [hil], by simpa using hb, ?_⟩
              rw [Array.all_eq_true]
              intro j hj
              by_cases hbd : Region.binds .any l[i].after[j] = true
              · have := hF.before i _ (List.getElem?_eq_getElem hil) _ (Array.getElem_mem hj) hbd
                rw [ihh _ this (by omega)]; simp
              · simp [hbd]
            rw [h0] at hr; simp at hr
      · obtain ⟨o, ho, hfi, hal⟩ := (mem_ready (by simpa using hM.size)).1 hi
        have ho' : l[i]? = some o := by simpa using ho
        have hil : i < l.length := (List.getElem?_eq_some_iff.1 ho').1
        have him : i < m := by
          rcases Nat.lt_or_ge i m with h | h
          · exact h
          · exact absurd (fun j hj => reach_listed hM.cl 8 o j (fun k hk => hasEdge_listed hk hal) ((hF.tail i o h ho').2 j hj)) hall
        have hsp : ∃ dst φ, sp[i]? = some (dst, φ) := by
          have : i < sp.length := by rw [hF.spl]; exact him
          exact ⟨_, _, List.getElem?_eq_getElem this⟩
        obtain ⟨dst, φ, hs⟩ := hsp
        have hdst := hF.dst i o dst φ ho' hs
        subst hdst
        have hsz : i < listed.size := by rw [hM.size]; exact hil
        obtain ⟨ρ', hFr, hOp⟩ := depV_instF hM (ds.getD i []) ρ0 _ hM.fr (fun j hj => hasEdge_listed (hF.deps i o him ho' j hj).2 hal) (hobs.at_ hs ho' w hM.wr)
        have hnew : ∀ (v : Value) (w' : World), φ v w' → R w w' → (bs.getD i false = true → NewV v w) → MidF l bs n D ρ0 w0 R sp m l.length (listed.setIfInBounds i true) (fun j => if j = i then v else vals j) (a.put o.dst v) w' := by
          intro v w' hv hR hN
          have hput : ∀ t, (∀ d, o.dst = some d → t ≠ d) → (a.put o.dst v).tmps[t]? = a.tmps[t]? := by
            intro t ht
            cases hd : o.dst with
            | none => rfl
            | some d => simp only [Act.put, Array.getElem?_setIfInBounds]; rw [if_neg (fun e => ht d hd e.symm)]
          have hputd : ∀ d, o.dst = some d → (a.put o.dst v).tmps[d]? = some v := by
            intro d hd
            have := (hF.ok i o d him ho' hd).1
            rw [hd]
            simp [Act.put, hM.fr.size, this]
          refine ⟨⟨?_, ?_, ?_⟩, hRt _ _ _ hM.wr hR, by simpa using hM.size, ?_, ?_, ?_, ?_⟩
          · rw [← hM.fr.defers]; cases o.dst <;> rfl
          · rw [← hM.fr.size]; cases o.dst <;> simp [Act.put]
          · intro t u hl
            rw [hput t (fun d hd e => (hF.ok i o d him ho' hd).2 (by rw [← e]; exact hkeys t u hl))]
            exact hM.fr.slot t u hl
          · intro j hj
            rw [getD_set _ _ _ hsz, if_neg (by omega)]; exact hM.tail j hj
          · intro j oj j' hoj hl he
            rw [getD_set _ _ _ hsz] at hl ⊢
            by_cases e : i = j'
            · rw [if_pos e]
            · rw [if_neg e]
              by_cases e2 : i = j
              · subst e2; rw [ho'] at hoj; injection hoj with hoj; subst hoj; exact hasEdge_listed he hal
              · rw [if_neg e2] at hl; exact hM.cl j oj j' hoj hl he
          · intro i' j' b1 b2 h1 h2 hne l1 l2
            rw [getD_set _ _ _ hsz] at l1 l2
            have hgot : ∀ k, bs.getD k false = true → k < m → k ≠ i → listed.getD k false = true → OldV (vals k) w := by
              intro k hk hkm hki hl
              have hks : k < sp.length := by rw [hF.spl]; exact hkm
              have hsk : sp[k]? = some ((sp[k]).1, (sp[k]).2) := List.getElem?_eq_getElem hks
              exact hold.at_ hsk hk _ _ (hM.got k _ _ hsk hl).1
            by_cases e1 : i' = i
            · by_cases e2 : j' = i
              · exact absurd (e1.trans e2.symm) hne
              · rw [if_neg (fun e => e2 e.symm)] at l2
                rw [if_pos e1, if_neg e2]
                exact fun e => new_ne_old (hN (e1 ▸ b1)) (hgot j' b2 h2 e2 l2) e.symm
            · rw [if_neg (fun e => e1 e.symm)] at l1
              by_cases e2 : j' = i
              · rw [if_neg e1, if_pos e2]
                exact new_ne_old (hN (e2 ▸ b2)) (hgot i' b1 h1 e1 l1)
              · rw [if_neg (fun e => e2 e.symm)] at l2
                rw [if_neg e1, if_neg e2]
                exact hM.fre i' j' b1 b2 h1 h2 hne l1 l2
          · intro j dst φ' hs' hl
            rw [getD_set _ _ _ hsz] at hl
            by_cases e : j = i
            · subst e
              rw [hs] at hs'
              injection hs' with hs'
              injection hs' with e1 e2
              subst e1; subst e2
              rw [if_pos rfl]
              exact ⟨hv, hputd⟩
            · rw [if_neg (fun e' => e e'.symm)] at hl
              rw [if_neg e]
              obtain ⟨g1, g2⟩ := hM.got j dst φ' hs' hl
              refine ⟨hst.at_ hs' _ _ _ g1 hR, fun d hd => ?_⟩
              have hj : j < m := by rw [← hF.spl]; exact (List.getElem?_eq_some_iff.1 hs').1
              have hjl : j < l.length := by have := hF.le; omega
              have hoj := List.getElem?_eq_getElem hjl
              have hdj := hF.dst j _ dst φ' hoj hs'
              rw [hput d (fun d' hd' e' => by subst e'; exact hF.apart j i _ o d hj him e hoj ho' (by rw [hdj, hd]) hd')]
              exact g2 d hd
        have hcnt' := cnt_set listed i hsz hfi l.length hil
        unfold wpOp
        rw [ho]
        dsimp only
        have h1 := hOp a hFr
        split
        · rename_i hw
          rw [if_pos hw] at h1
          refine .inl (Oper.wp_mono ?_ (h1 Q))
          rintro a' w' ⟨v, rfl, hv, hR, hN⟩
          exact ih _ _ _ _ (hnew v w' hv hR hN) (by omega)
        · rename_i hw
          rw [if_neg hw] at h1
          exact ih _ _ _ _ (hnew undef w h1.1 h1.2.1 h1.2.2) (by omega)

theorem w_drawF {id : Nat} {w : World} {ρ : Env} (m : Nat) (R : World → World → Prop) (sp : Spec) (ds : List (List Nat)) (bs : List Bool) (ρ0 : Env) (hsub : Sub ρ0 ρ) (hm : P.follows .mixedOrders = true)
    (hchk : drawOkT l m n (keysOf ρ0) (sp.map (·.1)) ds = true) (hR : ∀ a, R a a) (hRt : ∀ a b c, R a b → R b c → R a c) (hst : StAll R sp) (hold : OldAll sp bs)
    (h : ∀ w0, w.grownBy w0 none → w0.heap.size = w.heap.size → ObsAllF P l.toArray n D ρ0 w0 R sp l ds bs sp ∧ (∀ w', R w0 w' → AllVF sp bs [] ρ0 w' (fun ρ => Reg P l.toArray Q (l.drop m) n D ρ w'))) :
    W P (.region id l.toArray true) Q n D ρ w := by
  intro a ha
  have hF := drawFactsT hchk
  obtain ⟨h1, h2⟩ := h w.drew (grown_drew w) rfl
  refine wp_region_any hm ?_
  have := mid_anyF hF (fun t v hl => look_of_keys hl) hRt hst hold h1 h2 l.length (Array.replicate l.length false) (fun _ => undef) a w.drew ⟨ha.sub hsub, hR _, by simp, fun i _ => by simp [Array.getD_eq_getD_getElem?, Array.getElem?_replicate]; split <;> rfl, fun i o j _ hl _ => by
    simp [Array.getD_eq_getD_getElem?, Array.getElem?_replicate] at hl
    split at hl <;> simp at hl, fun i j _ _ _ _ _ hl _ => by
    simp [Array.getD_eq_getD_getElem?, Array.getElem?_replicate] at hl
    split at hl <;> simp at hl, fun i dst φ hs hl => by
    simp [Array.getD_eq_getD_getElem?, Array.getElem?_replicate] at hl
    split at hl <;> simp at hl⟩ (by
      have : ∀ k L, cnt k L ≤ k := by
        intro k L; induction k with
        | zero => exact Nat.le_refl _
        | succ k ih => unfold cnt; split <;> omega
      exact this _ _)
  simpa using this
end
theorem fresh_ne {g g' : Nat} (h : (Value.pointer (some ⟨g, 0, none⟩)) ≠ .pointer (some ⟨g', 0, none⟩)) : g ≠ g' := fun e => h (by rw [e])
end Go.Gw

set_option linter.unusedSimpArgs false
set_option linter.unusedVariables false
namespace Go.Gw
open Go.RowKit
/-! ### Slices of numbers that lie in rows of numbers, or are older than a base -/
def URow (U : Nat) (w : World) (k : Nat) : Prop := ∃ cs p, w.heap[k]? = some (.cells cs U p)
def G (U n0 : Nat) (w : World) (k : Nat) : Prop := n0 ≤ k ∧ ¬ URow U w k
section
variable {α : Type} {K : Kd α} {U n0 : Nat} {w w' : World} {F : Nat → Prop} {v : Value} {xs : List α}
theorem URow.of {k : Nat} (e : w'.heap[k]? = w.heap[k]?) (h : URow U w k) : URow U w' k := by obtain ⟨cs, p, h⟩ := h; exact ⟨cs, p, e.trans h⟩
theorem G.of {k : Nat} (e : w'.heap[k]? = w.heap[k]?) (h : G U n0 w' k) : G U n0 w k := ⟨h.1, fun hu => h.2 (hu.of e)⟩
/-- What is kept of a slice's blocks is kept of what they are. -/
theorem Sl.gkeep (h : Sl K w (G U n0 w) v xs) (hk : ∀ k, k < w.heap.size → ¬ G U n0 w k → w'.heap[k]? = w.heap[k]?) (hKF : K.Flat) : Sl K w' (G U n0 w') v xs := by
  obtain ⟨A, c, e, h1, h2, h3⟩ := h
  refine ⟨A, c, e, h1, h2, fun i x hx => ?_⟩
  obtain ⟨g, o, us, ea, hg, hF, hr, hc⟩ := h3 i x hx
  have hb := hk g hg hF
  refine ⟨g, o, us, ea, ?_, fun hG => hF (hG.of hb), hKF _ _ _ _ _ _ hr, range_keep hc hb⟩
  rcases Nat.lt_or_ge g w'.heap.size with h | h
  · exact h
  · rw [Array.getElem?_eq_none h, Array.getElem?_eq_getElem hg] at hb; cases hb
end
section
variable {U n0 : Nat} {w w' : World} {v : Value} {xs : List Int}
theorem Sl.gg0 (h : Sl Kd.u32 w (G U n0 w) v xs) (k : w.grownBy w' Option.none) : Sl Kd.u32 w' (G U n0 w') v xs := h.gkeep (fun i hi _ => k.block i hi (by simp)) u32_flat
theorem Sl.ggB {g t : Nat} {cs : Array Value} (h : Sl Kd.u32 w (G U n0 w) v xs) (k : w.grownBy w' (some g)) (hB : Blk w g t cs) (ht : t ≠ U) (hn : n0 ≤ g) : Sl Kd.u32 w' (G U n0 w') v xs :=
  h.gkeep (fun i hi hG => k.block i hi (by
    rintro ⟨⟩
    refine hG ⟨hn, ?_⟩
    rintro ⟨cs', p, hu⟩
    unfold Blk at hB; rw [hB] at hu; injection hu with hu; injection hu with _ hu; exact ht hu)) u32_flat
theorem Sl.unlocG {w0 : World} (h : Sl Kd.u32 w (Loc (G U n0 w0) w0) v xs) (hb : Below w0.heap.size w0 w) : Sl Kd.u32 w (G U n0 w) v xs := by
  refine h.weak fun k hk hG => ?_
  rcases Nat.lt_or_ge k w0.heap.size with h1 | h1
  · exact .inl (hG.of (hb.block k h1))
  · exact .inr h1
theorem Own.slG {base : Nat} {F : Nat → Prop} (h : Gw.Own Kd.u32 U base w F v xs) : Sl Kd.u32 w (G U n0 w) v xs := by
  have hs := h.sl
  obtain ⟨us, hl, hr, ho⟩ := h.out
  rcases ho.2 with ⟨rfl, h0⟩ | ⟨g', cap, cur, rfl, hb, hg, _⟩
  · have : xs = [] := List.eq_nil_of_length_eq_zero h0
    subst this
    exact ⟨Option.none, 0, rfl, by simp, by simp [maxLen], fun i x hx => by simp at hx⟩
  · obtain ⟨A, c, e, h1, h2, h3⟩ := hs
    injection e with e1 e2 e3
    subst e1; subst e3
    refine ⟨_, _, rfl, h1, h2, fun i x hx => ?_⟩
    obtain ⟨g, o, us', ea, hg', hF, hr', hc⟩ := h3 i x hx
    injection ea with ea; injection ea with ea1 ea2; subst ea1
    exact ⟨_, _, us', by rw [ea2], hg', fun hG => hG.2 ⟨_, _, hg⟩, hr', hc⟩
/-- A literal's row. -/
theorem Sl.litG {g : Nat} {cs : Array Value} {m c : Nat} (hB : Blk w g U cs) (h : Sl Kd.u32 w (fun _ => False) (.slice (some ⟨g, 0, Option.none⟩) m c) xs) : Sl Kd.u32 w (G U n0 w) (.slice (some ⟨g, 0, Option.none⟩) m c) xs := by
  obtain ⟨A, c', e, h1, h2, h3⟩ := h
  injection e with e1 e2 e3
  subst e1
  refine ⟨_, c', by rw [e2, e3], h1, h2, fun i x hx => ?_⟩
  obtain ⟨g', o, us', ea, hg', hF, hr', hc⟩ := h3 i x hx
  injection ea with ea; injection ea with ea1 ea2; subst ea1
  exact ⟨_, _, us', by rw [ea2], hg', fun hG => hG.2 ⟨_, _, hB⟩, hr', hc⟩
theorem nilG : Sl Kd.u32 w (G U n0 w) (.slice Option.none 0 0) [] := ⟨Option.none, 0, rfl, by simp, by simp [maxLen], fun i x hx => by simp at hx⟩
/-- An argument of the law's: it is older. -/
theorem Sl.oldG (h : Sl Kd.u32 w (fun _ => False) v xs) : Sl Kd.u32 w (G U w.heap.size w) v xs := by
  refine ?_
  obtain ⟨A, c, e, h1, h2, h3⟩ := h
  refine ⟨A, c, e, h1, h2, fun i x hx => ?_⟩
  obtain ⟨g, o, us, ea, hg, hF, hr, hc⟩ := h3 i x hx
  exact ⟨g, o, us, ea, hg, fun hG => by have := hG.1; omega, hr, hc⟩
theorem below_n0 {a : World} {n0 : Nat} (hn : n0 ≤ a.heap.size) (h : Below a.heap.size a w) : n0 ≤ w.heap.size := Nat.le_trans hn h.size
end
end Go.Gw

set_option linter.unusedSimpArgs false
set_option linter.unusedVariables false
namespace Go.Gw
open Go.RowKit
theorem bv_rep : ∀ k : Nat, bv (List.replicate k false) = 0
  | 0 => rfl
  | k + 1 => by rw [List.replicate_succ]; simp only [bv]; rw [bv_rep k]; rfl
theorem shl_bits {m : Int} (h : 0 ≤ m) (k : Nat) : bv (List.replicate k false ++ tb m) = m * 2 ^ k := by
  rw [bv_append, bv_rep, bv_tb h, List.length_replicate, Int.mul_comm]; omega
theorem fit_no {n : Int} (h : n < 0 ∨ 10000 < n) : fitB n = false := by
  unfold fitB
  rcases h with h | h
  · rw [decide_eq_false (by omega)]; rfl
  · rw [decide_eq_false (p := n ≤ 10000) (by omega)]; simp
theorem fit_yes {n : Int} (h0 : 0 ≤ n) (h1 : n ≤ 10000) : fitB n = true := by unfold fitB; rw [decide_eq_true h0, decide_eq_true h1]; rfl
/-! #### quotients from the last limb on -/
end Go.Gw

set_option linter.unusedSimpArgs false
set_option linter.unusedVariables false
namespace Go.Gw
open Go.RowKit
end Go.Gw

set_option linter.unusedSimpArgs false
set_option linter.unusedVariables false
/-! ### Whole numbers of any size: the plain law -/
namespace Go.Gw
open Go.RowKit
/-- The limbs of a whole number. -/
def ml (n : Int) : List Int := tl (n.natAbs : Int)
def sg (neg : Bool) (m : Int) : Int := if neg then -m else m
def Bd (k : Nat) (n : Int) : Prop := -PW k < n ∧ n < PW k
def shlN (x n : Int) : Int := if fitB n then x * 2 ^ n.toNat else 0
def shrN (x n : Int) : Int := if fitB n then x / 2 ^ n.toNat else 0
def IsBig (U n0 : Nat) (w : World) (v : Value) (n : Int) : Prop := ∃ s, v = .agg [.bool (decide (n < 0)), s].toArray ∧ Sl Kd.u32 w (G U n0 w) s (ml n)
theorem IsBig.g0 {U n0 : Nat} {w w' : World} {v : Value} {n : Int} (h : IsBig U n0 w v n) (k : w.grownBy w' none) : IsBig U n0 w' v n := by obtain ⟨s, e, hs⟩ := h; exact ⟨s, e, hs.gg0 k⟩
theorem nv_ml (n : Int) : nv (ml n) = n.natAbs := nv_tl (by omega)
theorem big_of {U n0 : Nat} {w : World} {s : Value} {m n : Int} (e : m = n) (h : Sl Kd.u32 w (G U n0 w) s (ml m)) : IsBig U n0 w (.agg [.bool (decide (m < 0)), s].toArray) n := by subst e; exact ⟨s, rfl, h⟩
theorem sg_ml (ng : Bool) {m : Int} (h : 0 ≤ m) : tl m = ml (sg ng m) := by
  unfold ml; congr 1; unfold sg; split <;> omega
theorem tl_nil_iff {m : Int} (h : 0 ≤ m) : (0 < ((tl m).length : Int)) ↔ 0 < m := by
  by_cases h0 : m ≤ 0
  · rw [tl_zero h0]; simp; omega
  · rw [tl_pos (by omega)]; simp; omega
theorem sg_neg {ng : Bool} {m : Int} (h : 0 ≤ m) (hg : ng = true) : decide (0 < ((tl m).length : Int)) = decide (sg ng m < 0) := by
  rw [decide_eq_decide, tl_nil_iff h]; unfold sg; rw [if_pos hg]; omega
theorem sg_pos {ng : Bool} {m : Int} (h : 0 ≤ m) (hg : ng = false) : false = decide (sg ng m < 0) := by
  unfold sg; rw [if_neg (by simp [hg])]; simp; omega
theorem shlL_tl (xs : List Int) (n : Int) : shlL xs n = tl (shlN (nv xs) n) := by
  unfold shlL shlN; split
  · rfl
  · rw [tl_zero (Int.le_refl _)]
theorem shlN_nn {x n : Int} (h : 0 ≤ x) : 0 ≤ shlN x n := by
  unfold shlN; split
  · exact Int.mul_nonneg h (Int.le_of_lt (two_pos _))
  · exact Int.le_refl _
theorem shrN_nn {x n : Int} (h : 0 ≤ x) : 0 ≤ shrN x n := by
  unfold shrN; split
  · exact Int.ediv_nonneg h (Int.le_of_lt (two_pos _))
  · exact Int.le_refl _
/-! #### how large -/
theorem Bd.le {j k : Nat} {n : Int} (h : Bd j n) (hjk : j ≤ k) : Bd k n := by have := PW_le hjk; unfold Bd at *; omega
theorem bd_len {k : Nat} {n : Int} (h : Bd k n) : (ml n).length ≤ k := tl_len (by omega) (by unfold Bd at h; omega)
theorem bd_small {n : Int} (h : -9223372036854775808 ≤ n ∧ n ≤ 9223372036854775807) : Bd 2 n := by
  have h2 : PW 2 = 18446744073709551616 := by decide
  unfold Bd; omega
theorem bd_add {j k i : Nat} {a b : Int} (ha : Bd j a) (hb : Bd k b) (h1 : j < i) (h2 : k < i) : Bd i (a + b) := by
  have ha := ha.le (show j ≤ i - 1 by omega)
  have hb := hb.le (show k ≤ i - 1 by omega)
  have := PW_pos (i - 1)
  have := PW_succ (i - 1)
  rw [show i - 1 + 1 = i by omega] at this
  unfold Bd at *; omega
theorem bd_neg {k : Nat} {a : Int} (h : Bd k a) : Bd k (-a) := by unfold Bd at *; omega
theorem bd_sub {j k i : Nat} {a b : Int} (ha : Bd j a) (hb : Bd k b) (h1 : j < i) (h2 : k < i) : Bd i (a - b) := by rw [Int.sub_eq_add_neg]; exact bd_add ha (bd_neg hb) h1 h2
theorem bd_shl {j k : Nat} {a n : Int} (ha : Bd j a) (h : j + 313 ≤ k) : Bd k (shlN a n) := by
  refine Bd.le ?_ h
  unfold shlN
  split
  · rename_i hf
    unfold fitB at hf
    rw [Bool.and_eq_true, decide_eq_true_eq, decide_eq_true_eq] at hf
    have h0 := two_pos n.toNat
    have h1 : (2 : Int) ^ n.toNat ≤ PW 313 := by
      rw [PW_two]
      have e : (2 : Int) ^ (32 * 313) = 2 ^ n.toNat * 2 ^ (32 * 313 - n.toNat) := by rw [← Int.pow_add, show n.toNat + (32 * 313 - n.toNat) = 32 * 313 by omega]
      have := Int.mul_le_mul_of_nonneg_left (show 1 ≤ (2 : Int) ^ (32 * 313 - n.toNat) by have := two_pos (32 * 313 - n.toNat); omega) (Int.le_of_lt h0)
      omega
    have h2 := PW_pos j
    unfold Bd at *
    rw [PW_add]
    have h3 : PW j * 2 ^ n.toNat ≤ PW j * PW 313 := Int.mul_le_mul_of_nonneg_left h1 (Int.le_of_lt h2)
    have h4 : a * 2 ^ n.toNat < PW j * 2 ^ n.toNat := Int.mul_lt_mul_of_pos_right ha.2 h0
    have h5 : (-PW j) * 2 ^ n.toNat < a * 2 ^ n.toNat := Int.mul_lt_mul_of_pos_right ha.1 h0
    rw [Int.neg_mul] at h5
    omega
  · have := PW_pos (j + 313); unfold Bd; omega
/-! #### the functions -/
theorem sg_add {n m : Int} (h : decide (n < 0) = decide (m < 0)) : sg (decide (n < 0)) (nv (ml n) + nv (ml m)) = n + m := by
  rw [nv_ml, nv_ml]; rw [decide_eq_decide] at h; unfold sg; simp only [decide_eq_true_eq]; split <;> omega
theorem sg_sub {n m : Int} (h : ¬ decide (n < 0) = decide (m < 0)) (hle : nv (ml m) ≤ nv (ml n)) : sg (decide (n < 0)) (nv (ml n) - nv (ml m)) = n + m := by
  rw [nv_ml, nv_ml] at hle; rw [nv_ml, nv_ml]; rw [decide_eq_decide] at h; unfold sg; simp only [decide_eq_true_eq]; split <;> omega
theorem sg_shl (x n : Int) : sg (decide (x < 0)) (shlN (nv (ml x)) n) = shlN x n := by
  rw [nv_ml]; unfold sg shlN; simp only [decide_eq_true_eq]
  by_cases h : x < 0
  · rw [if_pos h]; split
    · rw [show ((x.natAbs : Nat) : Int) = -x by omega, Int.neg_mul, Int.neg_neg]
    · rfl
  · rw [if_neg h]; split
    · rw [show ((x.natAbs : Nat) : Int) = x by omega]
    · rfl
def bigR (ng : Bool) (xs : List Int) : Bool := rightL xs && (!ng || decide (0 < (xs.length : Int)))
theorem bigR_out {ng : Bool} {xs : List Int} (hx : Lim xs) (h : bigR ng xs = true) : ∃ n, ng = decide (n < 0) ∧ xs = ml n := by
  unfold bigR at h
  rw [Bool.and_eq_true] at h
  have e := tl_nv hx h.1
  have h0 := nv_nonneg hx
  refine ⟨sg ng (nv xs), ?_, by rw [← sg_ml ng h0, e]⟩
  cases ng with
  | true =>
    have h2 := h.2
    rw [Bool.not_true, Bool.false_or, decide_eq_true_eq, ← e, tl_nil_iff h0] at h2
    symm; rw [decide_eq_true_eq]; unfold sg; rw [if_pos rfl]; omega
  | false => exact (sg_pos h0 rfl)
theorem of_pos {n : Int} (hn : -9223372036854775808 ≤ n ∧ n ≤ 9223372036854775807) (h : ¬ n < 0) : sg (decide (n < 0)) (nv [n % 18446744073709551616 % 4294967296, n % 18446744073709551616 / 4294967296 % 4294967296]) = n := by
  unfold sg; simp only [decide_eq_true_eq, nv]; rw [if_neg h]; omega
theorem of_neg {n : Int} (hn : -9223372036854775808 ≤ n ∧ n ≤ 9223372036854775807) (h : n < 0) : sg (decide (n < 0)) (nv [(-(n % 18446744073709551616)) % 18446744073709551616 % 4294967296, (-(n % 18446744073709551616)) % 18446744073709551616 / 4294967296 % 4294967296]) = n := by
  unfold sg; simp only [decide_eq_true_eq, nv]; rw [if_pos h]; omega
theorem cmpI_neg {x y : Int} (h : cmpI x y < 0) : x < y := by unfold cmpI at h; split at h <;> (try split at h) <;> omega
theorem cmpI_nneg {x y : Int} (h : ¬ cmpI x y < 0) : y ≤ x := by unfold cmpI at h; split at h <;> (try split at h) <;> omega
theorem pow_val (n : Int) : sg false (shlN (nv [1]) n) = shlN 1 n := by rw [show nv [1] = 1 from rfl]; rfl
theorem sg_minv (n : Int) : sg (decide (¬ n < 0)) ((n.natAbs : Nat) : Int) = -n := by unfold sg; simp only [decide_eq_true_eq]; split <;> omega
/-! #### the reference -/
theorem rcmp_big {n m : Int} : (0 < n - m → cmpI n m = 1) ∧ (n - m < 0 → cmpI n m = -1) ∧ (n - m = 0 → cmpI n m = 0) :=
  ⟨fun h => cmpI_gt (by omega), fun h => cmpI_lt (by omega), fun h => cmpI_eq (by omega)⟩
theorem ml_nil {n : Int} : ((ml n).length : Int) = 0 ↔ n = 0 := by
  have := tl_nil_iff (m := n.natAbs) (by omega)
  unfold ml; omega
theorem rof_pos {n : Int} (hn : -9223372036854775808 ≤ n ∧ n ≤ 9223372036854775807) (h : ¬ n < 0) : sg (decide (n < 0)) (nv [n % 18446744073709551616 % 4294967296 % 4294967296, n % 18446744073709551616 / 4294967296 % 4294967296]) = n := by
  unfold sg; simp only [decide_eq_true_eq, nv]; rw [if_neg h]; omega
theorem rof_neg {n : Int} (hn : -9223372036854775808 ≤ n ∧ n ≤ 9223372036854775807) (h : n < 0) : sg (decide (n < 0)) (nv [(-(n % 18446744073709551616)) % 18446744073709551616 % 4294967296 % 4294967296, (-(n % 18446744073709551616)) % 18446744073709551616 / 4294967296 % 4294967296]) = n := by
  unfold sg; simp only [decide_eq_true_eq, nv]; rw [if_pos h]; omega
theorem nv_shlL (xs : List Int) (n : Int) (h : 0 ≤ nv xs) : nv (shlL xs n) = shlN (nv xs) n := by rw [shlL_tl, nv_tl (shlN_nn h)]
theorem shlL_len {n k : Int} (h : Bd 90000 n) : (shlL (ml n) k).length ≤ 90313 := by
  rw [shlL_tl, nv_ml]
  have h1 : Bd 90000 (n.natAbs : Int) := by unfold Bd at *; omega
  exact tl_len (shlN_nn (by omega)) (bd_shl (n := k) h1 (show 90000 + 313 ≤ 90313 by decide)).2
/-! #### the laws -/
end Go.Gw

set_option linter.unusedSimpArgs false
set_option linter.unusedVariables false
namespace Go.Gw
open Go.RowKit
/-! ### Stores of a part; rows of structs that hold slices of numbers -/
section
variable {P : Program} {n : Nat} {D : List Deferred} {ρ : Env} {w : World}
variable {d ty : Nat} {pos : String} {after : Array Edge} {gd : Option (Nat × Bool)} {C : Value → World → Prop} {x y z : Operand}
end
/-! #### worlds apart by one block -/
section
variable {w0 w w' : World} {g g' : Nat}
end
/-! #### kinds that hold slices of numbers -/
section
variable {α : Type} {K : Kd α} {U n0 : Nat} {w w' : World} {F : Nat → Prop} {v : Value} {xs : List α}
def GF (U n0 : Nat) (F : Nat → Prop) (w : World) (k : Nat) : Prop := F k ∨ G U n0 w k
theorem sl_gkeepF {s : Value} {ys : List Int} (h : Sl Kd.u32 w (GF U n0 F w) s ys) (hk : ∀ k, k < w.heap.size → ¬ F k → ¬ G U n0 w k → w'.heap[k]? = w.heap[k]?) : Sl Kd.u32 w' (GF U n0 F w') s ys := by
  obtain ⟨A, c, e, h1, h2, h3⟩ := h
  refine ⟨A, c, e, h1, h2, fun i x hx => ?_⟩
  obtain ⟨g, o, us, ea, hg, hF, hr, hc⟩ := h3 i x hx
  have hF1 : ¬ F g := fun h => hF (.inl h)
  have hG1 : ¬ G U n0 w g := fun h => hF (.inr h)
  have hb := hk g hg hF1 hG1
  refine ⟨g, o, us, ea, ?_, fun hG => hG.elim hF1 fun hG => hG1 (hG.of hb), hr, range_keep hc hb⟩
  rcases Nat.lt_or_ge g w'.heap.size with h | h
  · exact h
  · rw [Array.getElem?_eq_none h, Array.getElem?_eq_getElem hg] at hb; cases hb
theorem Sl.ofGF {s : Value} {ys : List Int} (h : Sl Kd.u32 w (GF U n0 F w) s ys) : Sl Kd.u32 w (G U n0 w) s ys := h.weak fun k _ hk => .inr hk
/-- A kind whose data lie in one place and in slices of numbers. -/
structure Kd.GK (U n0 : Nat) (K : Kd α) : Prop where
  put : ∀ (w w' : World) (F : Nat → Prop) (u : List Value) (x : α) (g : Nat), K.rep w F u x → w.grownBy w' (some g) → G U n0 w g → K.rep w' F u x
  ones : K.Ones
theorem Blk.isG {g t : Nat} {cs : Array Value} (hB : Blk w g t cs) (ht : t ≠ U) (hn : n0 ≤ g) : G U n0 w g := ⟨hn, by
  rintro ⟨cs', p, hu⟩
  unfold Blk at hB; rw [hB] at hu; injection hu with hu; injection hu with _ hu; exact ht hu⟩
theorem Own.isG {e base g : Nat} (hO : Gw.Own K e base w F v xs) (hv : v.ownBlock = some g) (ht : e ≠ U) (hn : n0 ≤ base) : G U n0 w g := by
  have hlt := hO.lt g hv
  refine ⟨by omega, ?_⟩
  rintro ⟨cs', p, hu⟩
  obtain ⟨us, hl, hr, ho⟩ := hO.out
  rcases ho.2 with ⟨rfl, h0⟩ | ⟨g', cap, cur, rfl, hb, hg, _⟩
  · cases hv
  · have : g' = g := by simpa [Value.ownBlock] using hv
    subst this
    rw [hg] at hu; injection hu with hu; injection hu with _ hu; exact ht hu
theorem Own.neB {e base t g : Nat} {cs : Array Value} (h : Gw.Own K e base w F v xs) (hb : Blk w g t cs) (hne : e ≠ t) : v.ownBlock ≠ some g := fun he => by
  rcases h.ne_blk hb hne with h' | h'
  · rw [h'] at he; cases he
  · exact h' he
end
/-- A whole number as a kind. -/
def Kd.big (U n0 : Nat) : Kd Int where
  sz := 2
  rep := fun w F us n => ∃ s, us = [.bool (decide (n < 0)), s] ∧ Sl Kd.u32 w (GF U n0 F w) s (ml n)
  len := by rintro _ _ _ _ ⟨s, rfl, _⟩; rfl
  keep := by
    rintro w w' F _ x ⟨s, rfl, h⟩ hk
    exact ⟨s, rfl, sl_gkeepF h fun k hk1 hk2 _ => hk k hk1 hk2⟩
  weak := by
    rintro w F F' _ x ⟨s, rfl, h⟩ hf
    exact ⟨s, rfl, h.weak fun k hk hF => hF.elim (fun h => .inl (hf k hk h)) .inr⟩
/-- Of a node: where its cells are. -/
structure Spn where
  some : Bool
  fx : Int
  fy : Int
  tx : Int
  ty : Int
deriving DecidableEq
instance : Inhabited Spn := ⟨⟨false, 0, 0, 0, 0⟩⟩
def Kd.span (U n0 : Nat) : Kd Spn where
  sz := 9
  rep := fun w F us x => ∃ a b c d, us = [.bool x.some, .bool (decide (x.fx < 0)), a, .bool (decide (x.fy < 0)), b, .bool (decide (x.tx < 0)), c, .bool (decide (x.ty < 0)), d] ∧ Sl Kd.u32 w (GF U n0 F w) a (ml x.fx) ∧ Sl Kd.u32 w (GF U n0 F w) b (ml x.fy) ∧ Sl Kd.u32 w (GF U n0 F w) c (ml x.tx) ∧ Sl Kd.u32 w (GF U n0 F w) d (ml x.ty)
  len := by rintro _ _ _ _ ⟨a, b, c, d, rfl, _⟩; rfl
  keep := by
    rintro w w' F _ x ⟨a, b, c, d, rfl, h1, h2, h3, h4⟩ hk
    have f := fun {s : Value} {ys : List Int} (h : Sl Kd.u32 w (GF U n0 F w) s ys) => sl_gkeepF (w' := w') h fun k hk1 hk2 _ => hk k hk1 hk2
    exact ⟨a, b, c, d, rfl, f h1, f h2, f h3, f h4⟩
  weak := by
    rintro w F F' _ x ⟨a, b, c, d, rfl, h1, h2, h3, h4⟩ hf
    have f := fun {s : Value} {ys : List Int} (h : Sl Kd.u32 w (GF U n0 F w) s ys) => h.weak (F' := GF U n0 F' w) fun k hk hF => hF.elim (fun h => .inl (hf k hk h)) .inr
    exact ⟨a, b, c, d, rfl, f h1, f h2, f h3, f h4⟩
end Go.Gw

set_option linter.unusedSimpArgs false
set_option linter.unusedVariables false
/-! ### Where the cells of a tree are: edges -/
namespace Go.Gw
open Go.RowKit
/-- The lesser, the greater of what there is; the first stays among equals. -/
def mo : Option Int → Option Int → Option Int
  | none, y => y
  | some a, none => some a
  | some a, some b => some (if b < a then b else a)
def mx : Option Int → Option Int → Option Int
  | none, y => y
  | some a, none => some a
  | some a, some b => some (if a < b then b else a)
def hf (v : Int) : Int := 2 ^ (v - 1).toNat
def shE (f : Int → Bool) (v k : Int) (o : Option Int) : Option Int := o.map fun e => e + if f k then hf v else 0
def cellE (c a : Int) : Option Int := if a = 0 then none else some c
def fold4 (m : Option Int → Option Int → Option Int) (g : Int → Option Int) : Option Int := m (m (m (g 0) (g 1)) (g 2)) (g 3)
/-- The edge of a tree: 'm' chooses, 'c' is what a cell itself adds, 'f' tells the far quarters. -/
def eg (m : Option Int → Option Int → Option Int) (c : Int) (f : Int → Bool) : Tr → Option Int
  | .no => none
  | .leaf a b d e => m (m (m (shE f 1 0 (cellE c a)) (shE f 1 1 (cellE c b))) (shE f 1 2 (cellE c d))) (shE f 1 3 (cellE c e))
  | .nd v a b d e => m (m (m (shE f v 0 (eg m c f a)) (shE f v 1 (eg m c f b))) (shE f v 2 (eg m c f d))) (shE f v 3 (eg m c f e))
abbrev ea := eg mo 0
abbrev ta := eg mx 1
/-- What a node's k-th quarter adds. -/
def egK (m : Option Int → Option Int → Option Int) (c : Int) (f : Int → Bool) (l : List Nd) (x : Nd) (k : Int) : Option Int :=
  shE f x.lv k (if x.lv = 1 then cellE c (x.kid k) else eg m c f (tr l (x.kid k)))
theorem mo_isSome (x y : Option Int) : (mo x y).isSome = (x.isSome || y.isSome) := by cases x <;> cases y <;> rfl
theorem shE_isSome (f : Int → Bool) (v k : Int) (o : Option Int) : (shE f v k o).isSome = o.isSome := by cases o <;> rfl
theorem cellE_isSome (c a : Int) : (cellE c a).isSome = !decide (a = 0) := by unfold cellE; split <;> simp [*]
theorem eg_isSome {m : Option Int → Option Int → Option Int} (hm : ∀ x y, (m x y).isSome = (x.isSome || y.isSome)) (c : Int) (f : Int → Bool) : ∀ t : Tr, (eg m c f t).isSome = !emp t
  | .no => rfl
  | .leaf a b d e => by simp only [eg, hm, shE_isSome, cellE_isSome, emp]; cases decide (a = 0) <;> cases decide (b = 0) <;> cases decide (d = 0) <;> cases decide (e = 0) <;> rfl
  | .nd v a b d e => by
    simp only [eg, hm, shE_isSome, eg_isSome hm c f a, eg_isSome hm c f b, eg_isSome hm c f d, eg_isSome hm c f e, emp]
    cases emp a <;> cases emp b <;> cases emp d <;> cases emp e <;> rfl
theorem hf_one : hf 1 = 1 := rfl
theorem hf_pos (v : Int) : 0 < hf v := two_pos _
theorem hf_two {v : Int} (h : 2 ≤ v) : 2 * hf (v - 1) = hf v := by
  unfold hf; rw [show (v - 1).toNat = (v - 1 - 1).toNat + 1 by omega, Int.pow_succ]; omega
/-! #### what the program keeps of each node -/
def fX (k : Int) : Bool := decide (k % 2 = 1)
def fY (k : Int) : Bool := decide (2 ≤ k)
/-- Four edges as a span: nothing, or all of them. -/
def spO (a b c d : Option Int) : Spn := ⟨a.isSome, a.getD 0, b.getD 0, c.getD 0, d.getD 0⟩
def spn (t : Tr) : Spn := spO (ea fX t) (ea fY t) (ta fX t) (ta fY t)
/-- After k quarters. -/
def egN (m : Option Int → Option Int → Option Int) (g : Int → Option Int) : Nat → Option Int
  | 0 => none
  | k + 1 => m (egN m g k) (g k)
/-! #### how large -/
structure SpBd (k : Nat) (s : Spn) : Prop where
  fx : Bd k s.fx
  fy : Bd k s.fy
  tx : Bd k s.tx
  ty : Bd k s.ty
structure Sm (s : Spn) : Prop where
  fx : 0 ≤ s.fx ∧ s.fx < 2 ^ 1330
  fy : 0 ≤ s.fy ∧ s.fy < 2 ^ 1330
  tx : 0 ≤ s.tx ∧ s.tx < 2 ^ 1330
  ty : 0 ≤ s.ty ∧ s.ty < 2 ^ 1330
theorem shl_hf {v : Int} (h : 1 ≤ v ∧ v ≤ 1329) : shlN 1 (v - 1) = hf v := by
  unfold shlN hf; rw [if_pos (fit_yes (by omega) (by omega)), Int.one_mul]
theorem hf_le {v : Int} (h : v ≤ 1329) : hf v ≤ hf 1329 := by
  unfold hf
  have e : (2 : Int) ^ ((1329 : Int) - 1).toNat = 2 ^ (v - 1).toNat * 2 ^ (((1329 : Int) - 1).toNat - (v - 1).toNat) := by rw [← Int.pow_add]; congr 1; omega
  have h1 := two_pos (v - 1).toNat
  have h2 := two_pos (((1329 : Int) - 1).toNat - (v - 1).toNat)
  have := Int.mul_le_mul_of_nonneg_left (show 1 ≤ (2 : Int) ^ (((1329 : Int) - 1).toNat - (v - 1).toNat) by omega) (Int.le_of_lt h1)
  omega
theorem bd_hf {v : Int} (h : v ≤ 1329) : Bd 42 (hf v) := by
  have h1 := hf_le h
  have h2 := hf_pos v
  have h3 : hf 1329 < PW 42 := by decide +kernel
  unfold Bd; omega
/-! #### the box -/
structure Bx where
  x : Int
  y : Int
  w : Int
  h : Int
deriving DecidableEq
def bxs (l : List Nd) : Spn := spn (tr l l.length)
theorem level_of {l : List Nd} (hl : looseB l = true) (hne : l ≠ []) : 1 ≤ levelN l ∧ levelN l ≤ 1329 := by
  have : l.length ≠ 0 := fun e => hne (List.eq_nil_of_length_eq_zero e)
  unfold levelN; rw [if_neg this]; exact lv_in hl (by omega) (by omega)
structure BxBd (k : Nat) (b : Bx) : Prop where
  x : Bd k b.x
  y : Bd k b.y
  w : Bd k b.w
  h : Bd k b.h
end Go.Gw

set_option linter.unusedSimpArgs false
set_option linter.unusedVariables false
/-! ### The cells of a tree, one by one -/
namespace Go.Gw
open Go.RowKit
/-- A cell's state; its place is counted from the tree's corner. -/
def cat : Tr → Int → Int → Int
  | .no, _, _ => 0
  | .leaf a b c d, x, y => if x = 0 then (if y = 0 then a else if y = 1 then c else 0) else if x = 1 then (if y = 0 then b else if y = 1 then d else 0) else 0
  | .nd v a b c d, x, y => if x < hf v then (if y < hf v then cat a x y else cat c x (y - hf v)) else (if y < hf v then cat b (x - hf v) y else cat d (x - hf v) (y - hf v))
/-- Outside of the tree there is nothing. -/
theorem cat_out : ∀ (t : Tr) {v x y : Int}, wf v t → (x < 0 ∨ 2 * hf v ≤ x ∨ y < 0 ∨ 2 * hf v ≤ y) → cat t x y = 0
  | .no, v, x, y, _, _ => rfl
  | .leaf a b c d, v, x, y, h, ho => by
    obtain ⟨rfl, _⟩ := h
    rw [hf_one] at ho
    simp only [cat]
    split
    · split
      · omega
      · split
        · omega
        · rfl
    · split
      · split
        · omega
        · split
          · omega
          · rfl
      · rfl
  | .nd u a b c d, v, x, y, h, ho => by
    obtain ⟨rfl, h2, _, ha, hb, hc, hd⟩ := h
    have e := hf_two h2
    have p := hf_pos u
    simp only [cat]
    split
    · split
      · exact cat_out a ha (by omega)
      · exact cat_out c hc (by omega)
    · split
      · exact cat_out b hb (by omega)
      · exact cat_out d hd (by omega)
theorem cat_emp : ∀ (t : Tr) (x y : Int), emp t = true → cat t x y = 0
  | .no, _, _, _ => rfl
  | .leaf a b c d, x, y, h => by
    simp only [emp, Bool.and_eq_true, decide_eq_true_eq] at h
    obtain ⟨⟨⟨rfl, rfl⟩, rfl⟩, rfl⟩ := h
    simp [cat]
  | .nd u a b c d, x, y, h => by
    simp only [emp, Bool.and_eq_true] at h
    obtain ⟨⟨⟨ha, hb⟩, hc⟩, hd⟩ := h
    simp only [cat, cat_emp a _ _ ha, cat_emp b _ _ hb, cat_emp c _ _ hc, cat_emp d _ _ hd]
    simp
/-- The cells of the quarters. -/
theorem cat_a {u x y : Int} {a b c d : Tr} (hx : x < hf u) (hy : y < hf u) : cat (.nd u a b c d) x y = cat a x y := by simp only [cat, if_pos hx, if_pos hy]
theorem cat_b {u x y : Int} {a b c d : Tr} (hx : hf u ≤ x) (hy : y < hf u) : cat (.nd u a b c d) x y = cat b (x - hf u) y := by simp only [cat, if_neg (show ¬ x < hf u by omega), if_pos hy]
theorem cat_c {u x y : Int} {a b c d : Tr} (hx : x < hf u) (hy : hf u ≤ y) : cat (.nd u a b c d) x y = cat c x (y - hf u) := by simp only [cat, if_pos hx, if_neg (show ¬ y < hf u by omega)]
theorem cat_d {u x y : Int} {a b c d : Tr} (hx : hf u ≤ x) (hy : hf u ≤ y) : cat (.nd u a b c d) x y = cat d (x - hf u) (y - hf u) := by simp only [cat, if_neg (show ¬ x < hf u by omega), if_neg (show ¬ y < hf u by omega)]
/-- A tree without cells is empty. -/
theorem emp_cat : ∀ (t : Tr) {v : Int}, wf v t → (∀ x y : Int, cat t x y = 0) → emp t = true
  | .no, v, _, _ => rfl
  | .leaf a b c d, v, h, hz => by
    have h1 := hz 0 0; have h2 := hz 1 0; have h3 := hz 0 1; have h4 := hz 1 1
    simp [cat] at h1 h2 h3 h4
    simp [emp, h1, h2, h3, h4]
  | .nd u a b c d, v, h, hz => by
    obtain ⟨rfl, h2, _, ha, hb, hc, hd⟩ := h
    have e := hf_two h2
    have p := hf_pos u
    have qa : emp a = true := emp_cat a ha fun x y => by
      by_cases hr : x < hf u ∧ y < hf u
      · rw [← cat_a (b := b) (c := c) (d := d) hr.1 hr.2]; exact hz x y
      · exact cat_out a ha (by omega)
    have qb : emp b = true := emp_cat b hb fun x y => by
      by_cases hr : 0 ≤ x ∧ y < hf u
      · have := cat_b (u := u) (x := x + hf u) (y := y) (a := a) (b := b) (c := c) (d := d) (by omega) hr.2
        rw [show x + hf u - hf u = x by omega] at this; rw [← this]; exact hz _ _
      · exact cat_out b hb (by omega)
    have qc : emp c = true := emp_cat c hc fun x y => by
      by_cases hr : x < hf u ∧ 0 ≤ y
      · have := cat_c (u := u) (x := x) (y := y + hf u) (a := a) (b := b) (c := c) (d := d) hr.1 (by omega)
        rw [show y + hf u - hf u = y by omega] at this; rw [← this]; exact hz _ _
      · exact cat_out c hc (by omega)
    have qd : emp d = true := emp_cat d hd fun x y => by
      by_cases hr : 0 ≤ x ∧ 0 ≤ y
      · have := cat_d (u := u) (x := x + hf u) (y := y + hf u) (a := a) (b := b) (c := c) (d := d) (by omega) (by omega)
        rw [show x + hf u - hf u = x by omega, show y + hf u - hf u = y by omega] at this; rw [← this]; exact hz _ _
      · exact cat_out d hd (by omega)
    simp [emp, qa, qb, qc, qd]
theorem cat_ne {t : Tr} {v : Int} (h : wf v t) (he : emp t = false) : ∃ x y : Int, cat t x y ≠ 0 ∧ (0 ≤ x ∧ x < 2 * hf v) ∧ 0 ≤ y ∧ y < 2 * hf v := by
  have : ∃ x y : Int, cat t x y ≠ 0 := Classical.byContradiction fun hn => by
    have := emp_cat t h fun x y => Classical.byContradiction fun hc => hn ⟨x, y, hc⟩
    rw [he] at this; cases this
  obtain ⟨x, y, hc⟩ := this
  have hr : ¬ (x < 0 ∨ 2 * hf v ≤ x ∨ y < 0 ∨ 2 * hf v ≤ y) := fun ho => hc (cat_out t h ho)
  exact ⟨x, y, hc, by omega, by omega⟩
/-- Trees of one level with the same cells are visited alike. -/
theorem vis_same : ∀ (s : Tr) {v : Int} {t : Tr}, wf v s → wf v t → (∀ x y : Int, cat s x y = cat t x y) → ∀ o : List Nd, vis s o = vis t o
  | s, v, t, hs, ht, hc => by
    intro o
    by_cases es : emp s = true
    · have et : emp t = true := emp_cat t ht fun x y => by rw [← hc]; exact cat_emp s x y es
      rw [vis_emp s o es, vis_emp t o et]
    · have et : ¬ emp t = true := fun et => es (emp_cat s hs fun x y => by rw [hc]; exact cat_emp t x y et)
      match s, t, hs, ht, hc, es, et with
      | .no, _, _, _, _, es, _ => exact absurd rfl es
      | .leaf _ _ _ _, .no, _, _, _, _, et => exact absurd rfl et
      | .nd _ _ _ _ _, .no, _, _, _, _, et => exact absurd rfl et
      | .leaf a b c d, .leaf a' b' c' d', hs, ht, hc, _, _ =>
        have h1 := hc 0 0; have h2 := hc 1 0; have h3 := hc 0 1; have h4 := hc 1 1
        simp [cat] at h1 h2 h3 h4
        rw [h1, h2, h3, h4]
      | .leaf _ _ _ _, .nd _ _ _ _ _, hs, ht, _, _, _ => obtain ⟨h1, _⟩ := hs; obtain ⟨_, h2, _⟩ := ht; omega
      | .nd _ _ _ _ _, .leaf _ _ _ _, hs, ht, _, _, _ => obtain ⟨h1, _⟩ := ht; obtain ⟨_, h2, _⟩ := hs; omega
      | .nd u a b c d, .nd u' a' b' c' d', hs, ht, hc, _, _ =>
        obtain ⟨rfl, h2, _, ha, hb, hcc, hd⟩ := hs
        obtain ⟨rfl, _, _, ha', hb', hcc', hd'⟩ := ht
        have e := hf_two h2
        have p := hf_pos u'
        have qa := vis_same a ha ha' fun x y => by
          by_cases hr : x < hf u' ∧ y < hf u'
          · have := hc x y; rwa [cat_a hr.1 hr.2, cat_a hr.1 hr.2] at this
          · rw [cat_out a ha (by omega), cat_out a' ha' (by omega)]
        have qb := vis_same b hb hb' fun x y => by
          by_cases hr : 0 ≤ x ∧ y < hf u'
          · have := hc (x + hf u') y; rwa [cat_b (by omega) hr.2, cat_b (by omega) hr.2, show x + hf u' - hf u' = x by omega] at this
          · rw [cat_out b hb (by omega), cat_out b' hb' (by omega)]
        have qc := vis_same c hcc hcc' fun x y => by
          by_cases hr : x < hf u' ∧ 0 ≤ y
          · have := hc x (y + hf u'); rwa [cat_c hr.1 (by omega), cat_c hr.1 (by omega), show y + hf u' - hf u' = y by omega] at this
          · rw [cat_out c hcc (by omega), cat_out c' hcc' (by omega)]
        have qd := vis_same d hd hd' fun x y => by
          by_cases hr : 0 ≤ x ∧ 0 ≤ y
          · have := hc (x + hf u') (y + hf u'); rwa [cat_d (by omega) (by omega), cat_d (by omega) (by omega), show x + hf u' - hf u' = x by omega, show y + hf u' - hf u' = y by omega] at this
          · rw [cat_out d hd (by omega), cat_out d' hd' (by omega)]
        simp only [vis, qa, qb, qc, qd]
/-! #### quarters of quarters -/
theorem cat_q {u : Int} {a : Tr} (h : wf u a) (h2 : 2 ≤ u) (x y : Int) : cat a x y = if x < hf u then (if y < hf u then cat (a.q 0) x y else cat (a.q 2) x (y - hf u)) else (if y < hf u then cat (a.q 1) (x - hf u) y else cat (a.q 3) (x - hf u) (y - hf u)) := by
  cases a with
  | no => simp [cat, Tr.q]
  | leaf a b c d => obtain ⟨h1, _⟩ := h; omega
  | nd w a b c d => obtain ⟨rfl, _⟩ := h; simp [cat, Tr.q]
theorem qe_q {u : Int} {a : Tr} (h : wf u a) (h2 : 2 ≤ u) (j : Int) : qe a j = emp (a.q j) := by
  cases a with
  | no => rfl
  | leaf a b c d => obtain ⟨h1, _⟩ := h; omega
  | nd w a b c d => rfl
theorem cat_s {a : Tr} (h : wf 1 a) (x y : Int) : cat a x y = if x = 0 then (if y = 0 then a.s 0 else if y = 1 then a.s 2 else 0) else if x = 1 then (if y = 0 then a.s 1 else if y = 1 then a.s 3 else 0) else 0 := by
  cases a with
  | no => simp [cat, Tr.s]
  | leaf a b c d => simp [cat, Tr.s, sel4]
  | nd w a b c d => obtain ⟨_, h2, _⟩ := h; omega
theorem qe_s {a : Tr} (h : wf 1 a) (j : Int) : qe a j = decide (a.s j = 0) := by
  cases a with
  | no => rfl
  | leaf a b c d => rfl
  | nd w a b c d => obtain ⟨_, h2, _⟩ := h; omega
/-- Offsets of a quarter. -/
def oX (j h : Int) : Int := if j = 1 ∨ j = 3 then h else 0
def oY (j h : Int) : Int := if j = 2 ∨ j = 3 then h else 0
/-- Where the k-th quarter lies. -/
def inQ (j h x y : Int) : Prop := (oX j h ≤ x ∧ x < oX j h + h) ∧ oY j h ≤ y ∧ y < oY j h + h
theorem qe_zero {u : Int} {a : Tr} (h : wf u a) (h1 : 1 ≤ u) {j : Int} (j0 : 0 ≤ j) (j1 : j < 4) (hq : qe a j = true) {x y : Int} (hi : inQ j (hf u) x y) : cat a x y = 0 := by
  have p := hf_pos u
  by_cases hu : u = 1
  · subst hu
    rw [qe_s h, decide_eq_true_eq] at hq
    rw [cat_s h]
    rw [hf_one] at hi
    have : j = 0 ∨ j = 1 ∨ j = 2 ∨ j = 3 := by omega
    rcases this with rfl | rfl | rfl | rfl <;> simp [inQ, oX, oY] at hi
    · rw [if_pos (by omega), if_pos (by omega), hq]
    · rw [if_neg (by omega), if_pos (by omega), if_pos (by omega), hq]
    · rw [if_pos (by omega), if_neg (by omega), if_pos (by omega), hq]
    · rw [if_neg (by omega), if_pos (by omega), if_neg (by omega), if_pos (by omega), hq]
  · rw [qe_q h (by omega)] at hq
    rw [cat_q h (by omega)]
    have : j = 0 ∨ j = 1 ∨ j = 2 ∨ j = 3 := by omega
    rcases this with rfl | rfl | rfl | rfl <;> simp [inQ, oX, oY] at hi
    · rw [if_pos (by omega), if_pos (by omega)]; exact cat_emp _ _ _ hq
    · rw [if_neg (by omega), if_pos (by omega)]; exact cat_emp _ _ _ hq
    · rw [if_pos (by omega), if_neg (by omega)]; exact cat_emp _ _ _ hq
    · rw [if_neg (by omega), if_neg (by omega)]; exact cat_emp _ _ _ hq
theorem qe_one {u : Int} {a : Tr} (h : wf u a) (h1 : 1 ≤ u) {j : Int} (j0 : 0 ≤ j) (j1 : j < 4) (hq : qe a j = false) : ∃ x y : Int, cat a x y ≠ 0 ∧ inQ j (hf u) x y := by
  have p := hf_pos u
  by_cases hu : u = 1
  · subst hu
    rw [qe_s h, decide_eq_false_iff_not] at hq
    refine ⟨oX j 1, oY j 1, ?_, by rw [hf_one]; unfold inQ; omega⟩
    rw [cat_s h]
    have : j = 0 ∨ j = 1 ∨ j = 2 ∨ j = 3 := by omega
    rcases this with rfl | rfl | rfl | rfl <;> simpa [oX, oY] using hq
  · rw [qe_q h (by omega)] at hq
    obtain ⟨x, y, hc, hx, hy⟩ := cat_ne (q_wf h j) hq
    rw [hf_two (by omega)] at hx hy
    refine ⟨x + oX j (hf u), y + oY j (hf u), ?_, by unfold inQ; omega⟩
    rw [cat_q h (by omega)]
    have : j = 0 ∨ j = 1 ∨ j = 2 ∨ j = 3 := by omega
    rcases this with rfl | rfl | rfl | rfl <;> simp [oX, oY]
    · rw [if_pos (by omega), if_pos (by omega)]; exact hc
    · rw [if_neg (by omega), if_pos (by omega)]; exact hc
    · rw [if_pos (by omega), if_neg (by omega)]; exact hc
    · rw [if_neg (by omega), if_neg (by omega)]; exact hc
/-- A hollow node's cells are those of the node in its middle. -/
theorem cat_inn {v u : Int} {a b c d : Tr} (h : wf v (.nd u a b c d)) (hh : hol (.nd u a b c d) = true) (x y : Int) : cat (.nd u a b c d) x y = cat (inn (.nd u a b c d)) (x - hf (v - 1)) (y - hf (v - 1)) := by
  have hi := wf_inn h
  obtain ⟨rfl, h2, h3, ha, hb, hc, hd⟩ := h
  have e := hf_two h2
  have p := hf_pos (u - 1)
  simp only [hol, Bool.and_eq_true] at hh
  obtain ⟨⟨⟨⟨⟨a0, a1⟩, a2⟩, ⟨b0, b1⟩, b3⟩, ⟨c0, c2⟩, c3⟩, ⟨d1, d2⟩, d3⟩ := hh
  have za : ∀ {x y : Int}, ¬ (hf (u - 1) ≤ x ∧ hf (u - 1) ≤ y) → cat a x y = 0 := fun {x y} hn => by
    by_cases ho : x < 0 ∨ 2 * hf (u - 1) ≤ x ∨ y < 0 ∨ 2 * hf (u - 1) ≤ y
    · exact cat_out a ha ho
    · by_cases hx : x < hf (u - 1)
      · by_cases hy : y < hf (u - 1)
        · exact qe_zero ha (by omega) (by decide) (by decide) a0 (by simp [inQ, oX, oY]; omega)
        · exact qe_zero ha (by omega) (by decide) (by decide) a2 (by simp [inQ, oX, oY]; omega)
      · exact qe_zero ha (by omega) (by decide) (by decide) a1 (by simp [inQ, oX, oY]; omega)
  have zb : ∀ {x y : Int}, ¬ (x < hf (u - 1) ∧ hf (u - 1) ≤ y) → cat b x y = 0 := fun {x y} hn => by
    by_cases ho : x < 0 ∨ 2 * hf (u - 1) ≤ x ∨ y < 0 ∨ 2 * hf (u - 1) ≤ y
    · exact cat_out b hb ho
    · by_cases hx : x < hf (u - 1)
      · exact qe_zero hb (by omega) (by decide) (by decide) b0 (by simp [inQ, oX, oY]; omega)
      · by_cases hy : y < hf (u - 1)
        · exact qe_zero hb (by omega) (by decide) (by decide) b1 (by simp [inQ, oX, oY]; omega)
        · exact qe_zero hb (by omega) (by decide) (by decide) b3 (by simp [inQ, oX, oY]; omega)
  have zc : ∀ {x y : Int}, ¬ (hf (u - 1) ≤ x ∧ y < hf (u - 1)) → cat c x y = 0 := fun {x y} hn => by
    by_cases ho : x < 0 ∨ 2 * hf (u - 1) ≤ x ∨ y < 0 ∨ 2 * hf (u - 1) ≤ y
    · exact cat_out c hc ho
    · by_cases hx : x < hf (u - 1)
      · by_cases hy : y < hf (u - 1)
        · exact qe_zero hc (by omega) (by decide) (by decide) c0 (by simp [inQ, oX, oY]; omega)
        · exact qe_zero hc (by omega) (by decide) (by decide) c2 (by simp [inQ, oX, oY]; omega)
      · exact qe_zero hc (by omega) (by decide) (by decide) c3 (by simp [inQ, oX, oY]; omega)
  have zd : ∀ {x y : Int}, ¬ (x < hf (u - 1) ∧ y < hf (u - 1)) → cat d x y = 0 := fun {x y} hn => by
    by_cases ho : x < 0 ∨ 2 * hf (u - 1) ≤ x ∨ y < 0 ∨ 2 * hf (u - 1) ≤ y
    · exact cat_out d hd ho
    · by_cases hx : x < hf (u - 1)
      · exact qe_zero hd (by omega) (by decide) (by decide) d2 (by simp [inQ, oX, oY]; omega)
      · by_cases hy : y < hf (u - 1)
        · exact qe_zero hd (by omega) (by decide) (by decide) d1 (by simp [inQ, oX, oY]; omega)
        · exact qe_zero hd (by omega) (by decide) (by decide) d3 (by simp [inQ, oX, oY]; omega)
  by_cases hin : hf (u - 1) ≤ x ∧ x < 3 * hf (u - 1) ∧ hf (u - 1) ≤ y ∧ y < 3 * hf (u - 1)
  · by_cases hu : u = 2
    · subst hu
      rw [show (2 : Int) - 1 = 1 from rfl, hf_one] at *
      have e2 : hf 2 = 2 := by rw [← hf_two (v := 2) (by decide)]; rfl
      simp only [inn, if_true, cat, e2]
      rw [cat_s ha, cat_s hb, cat_s hc, cat_s hd]
      have hx : x = 1 ∨ x = 2 := by omega
      have hy : y = 1 ∨ y = 2 := by omega
      rcases hx with rfl | rfl <;> rcases hy with rfl | rfl <;> rfl
    · simp only [inn, if_neg hu, cat]
      rw [cat_q ha (by omega), cat_q hb (by omega), cat_q hc (by omega), cat_q hd (by omega)]
      by_cases hx : x < hf u
      · by_cases hy : y < hf u
        · rw [if_pos hx, if_pos hy, if_neg (by omega), if_neg (by omega), if_pos (by omega), if_pos (by omega)]
        · rw [if_pos hx, if_neg hy, if_neg (by omega), if_pos (by omega), if_pos (by omega), if_neg (by omega)]; congr 1; omega
      · by_cases hy : y < hf u
        · rw [if_neg hx, if_pos hy, if_pos (by omega), if_neg (by omega), if_neg (by omega), if_pos (by omega)]; congr 1; omega
        · rw [if_neg hx, if_neg hy, if_pos (by omega), if_pos (by omega), if_neg (by omega), if_neg (by omega)]; congr 1 <;> omega
  · rw [cat_out _ hi (by omega)]
    simp only [cat]
    split
    · split
      · exact za (by omega)
      · exact zc (by omega)
    · split
      · exact zb (by omega)
      · exact zd (by omega)
/-- The cells, counted from the middle. -/
def mid (v : Int) (t : Tr) (X Y : Int) : Int := cat t (X + hf v) (Y + hf v)
theorem shrF_mid : ∀ (f : Nat) (t : Tr) (v : Int), wf v t → lvT t ≤ f → ∃ u, wf u (shrF f t) ∧ hol (shrF f t) = false ∧ ∀ X Y : Int, mid u (shrF f t) X Y = mid v t X Y
  | 0, t, v, h, hl => by
    cases t with
    | no => exact ⟨v, trivial, rfl, fun _ _ => rfl⟩
    | leaf a b c d => simp [lvT] at hl
    | nd u a b c d => obtain ⟨rfl, h2, _⟩ := h; simp only [lvT] at hl; omega
  | f + 1, t, v, h, hl => by
    unfold shrF
    by_cases hh : hol t = true
    · rw [if_pos hh]
      cases t with
      | no => cases hh
      | leaf a b c d => cases hh
      | nd u a b c d =>
        have hc := cat_inn h hh
        obtain ⟨w, h1, h2, h3⟩ := shrF_mid f _ (v - 1) (wf_inn h) (by
          obtain ⟨rfl, h2, _⟩ := h
          simp only [lvT] at hl
          by_cases e : u = 2
          · subst e; simp only [inn, if_true, lvT]; omega
          · simp only [inn, if_neg e, lvT]; omega)
        refine ⟨w, h1, h2, fun X Y => ?_⟩
        rw [h3]
        obtain ⟨rfl, g2, _⟩ := h
        have e := hf_two g2
        unfold mid
        rw [hc, show X + hf u - hf (u - 1) = X + hf (u - 1) by omega, show Y + hf u - hf (u - 1) = Y + hf (u - 1) by omega]
    · rw [if_neg hh]
      exact ⟨v, h, by simpa using hh, fun _ _ => rfl⟩
theorem shr0_mid {t : Tr} {v : Int} (h : wf v t) : ∃ u, wf u (shr0 t) ∧ hol (shr0 t) = false ∧ ∀ X Y : Int, mid u (shr0 t) X Y = mid v t X Y := by
  unfold shr0
  split
  · rename_i he; exact ⟨v, trivial, rfl, fun X Y => (cat_emp t _ _ he).symm⟩
  · exact shrF_mid _ t v h (Nat.le_refl _)
/-- A node that is not hollow has a cell outside of the middle. -/
theorem hol_out {v u : Int} {a b c d : Tr} (h : wf v (.nd u a b c d)) (hh : hol (.nd u a b c d) = false) : ∃ x y : Int, cat (.nd u a b c d) x y ≠ 0 ∧ ¬ (hf (v - 1) ≤ x ∧ x < 3 * hf (v - 1) ∧ hf (v - 1) ≤ y ∧ y < 3 * hf (v - 1)) := by
  obtain ⟨rfl, h2, h3, ha, hb, hc, hd⟩ := h
  have e := hf_two h2
  have p := hf_pos (u - 1)
  have A : ∀ j : Int, 0 ≤ j → j < 4 → j ≠ 3 → qe a j = false → ∃ x y : Int, cat (.nd u a b c d) x y ≠ 0 ∧ ¬ (hf (u - 1) ≤ x ∧ x < 3 * hf (u - 1) ∧ hf (u - 1) ≤ y ∧ y < 3 * hf (u - 1)) := fun j j0 j1 j3 hq => by
    obtain ⟨x, y, hx, hi⟩ := qe_one ha (by omega) j0 j1 hq
    have : j = 0 ∨ j = 1 ∨ j = 2 := by omega
    rcases this with rfl | rfl | rfl <;> simp [inQ, oX, oY] at hi
    all_goals exact ⟨x, y, by rw [cat_a (by omega) (by omega)]; exact hx, by omega⟩
  have B : ∀ j : Int, 0 ≤ j → j < 4 → j ≠ 2 → qe b j = false → ∃ x y : Int, cat (.nd u a b c d) x y ≠ 0 ∧ ¬ (hf (u - 1) ≤ x ∧ x < 3 * hf (u - 1) ∧ hf (u - 1) ≤ y ∧ y < 3 * hf (u - 1)) := fun j j0 j1 j3 hq => by
    obtain ⟨x, y, hx, hi⟩ := qe_one hb (by omega) j0 j1 hq
    have : j = 0 ∨ j = 1 ∨ j = 3 := by omega
    rcases this with rfl | rfl | rfl <;> simp [inQ, oX, oY] at hi
    all_goals exact ⟨x + hf u, y, by rw [cat_b (by omega) (by omega), show x + hf u - hf u = x by omega]; exact hx, by omega⟩
  have C : ∀ j : Int, 0 ≤ j → j < 4 → j ≠ 1 → qe c j = false → ∃ x y : Int, cat (.nd u a b c d) x y ≠ 0 ∧ ¬ (hf (u - 1) ≤ x ∧ x < 3 * hf (u - 1) ∧ hf (u - 1) ≤ y ∧ y < 3 * hf (u - 1)) := fun j j0 j1 j3 hq => by
    obtain ⟨x, y, hx, hi⟩ := qe_one hc (by omega) j0 j1 hq
    have : j = 0 ∨ j = 2 ∨ j = 3 := by omega
    rcases this with rfl | rfl | rfl <;> simp [inQ, oX, oY] at hi
    all_goals exact ⟨x, y + hf u, by rw [cat_c (by omega) (by omega), show y + hf u - hf u = y by omega]; exact hx, by omega⟩
  have D : ∀ j : Int, 0 ≤ j → j < 4 → j ≠ 0 → qe d j = false → ∃ x y : Int, cat (.nd u a b c d) x y ≠ 0 ∧ ¬ (hf (u - 1) ≤ x ∧ x < 3 * hf (u - 1) ∧ hf (u - 1) ≤ y ∧ y < 3 * hf (u - 1)) := fun j j0 j1 j3 hq => by
    obtain ⟨x, y, hx, hi⟩ := qe_one hd (by omega) j0 j1 hq
    have : j = 1 ∨ j = 2 ∨ j = 3 := by omega
    rcases this with rfl | rfl | rfl <;> simp [inQ, oX, oY] at hi
    all_goals exact ⟨x + hf u, y + hf u, by rw [cat_d (by omega) (by omega), show x + hf u - hf u = x by omega, show y + hf u - hf u = y by omega]; exact hx, by omega⟩
  simp only [hol, Bool.and_eq_false_iff] at hh
  rcases hh with ((((hh | hh) | hh) | ((hh | hh) | hh)) | ((hh | hh) | hh)) | ((hh | hh) | hh)
  · exact A 0 (by decide) (by decide) (by decide) hh
  · exact A 1 (by decide) (by decide) (by decide) hh
  · exact A 2 (by decide) (by decide) (by decide) hh
  · exact B 0 (by decide) (by decide) (by decide) hh
  · exact B 1 (by decide) (by decide) (by decide) hh
  · exact B 3 (by decide) (by decide) (by decide) hh
  · exact C 0 (by decide) (by decide) (by decide) hh
  · exact C 2 (by decide) (by decide) (by decide) hh
  · exact C 3 (by decide) (by decide) (by decide) hh
  · exact D 1 (by decide) (by decide) (by decide) hh
  · exact D 2 (by decide) (by decide) (by decide) hh
  · exact D 3 (by decide) (by decide) (by decide) hh
theorem hf_mono {v w : Int} (h1 : 1 ≤ v) (h : v ≤ w) : hf v ≤ hf w := by
  unfold hf
  have e : (2 : Int) ^ (w - 1).toNat = 2 ^ (v - 1).toNat * 2 ^ ((w - 1).toNat - (v - 1).toNat) := by rw [← Int.pow_add]; congr 1; omega
  have h1 := two_pos (v - 1).toNat
  have h2 := two_pos ((w - 1).toNat - (v - 1).toNat)
  have := Int.mul_le_mul_of_nonneg_left (show 1 ≤ (2 : Int) ^ ((w - 1).toNat - (v - 1).toNat) by omega) (Int.le_of_lt h1)
  omega
theorem wf_lv {t : Tr} {v : Int} (h : wf v t) (he : emp t = false) : 1 ≤ v ∧ v ≤ 1329 := by
  cases t with
  | no => cases he
  | leaf a b c d => obtain ⟨rfl, _⟩ := h; omega
  | nd u a b c d => obtain ⟨rfl, h2, h3, _⟩ := h; omega
theorem lv_least {s t : Tr} {v w : Int} (hs : wf v s) (ht : wf w t) (es : emp s = false) (et : emp t = false) (hh : hol t = false) (hc : ∀ X Y : Int, mid v s X Y = mid w t X Y) : ¬ v < w := fun hlt => by
  have hv := wf_lv hs es
  cases t with
  | no => cases et
  | leaf a b c d => obtain ⟨rfl, _⟩ := ht; omega
  | nd u a b c d =>
    obtain ⟨x, y, hx, ho⟩ := hol_out ht hh
    obtain ⟨rfl, h2, h3, _⟩ := ht
    have e := hf_two h2
    have m := hf_mono hv.1 (show v ≤ u - 1 by omega)
    have p := hf_pos (u - 1)
    have := hc (x - hf u) (y - hf u)
    unfold mid at this
    rw [show x - hf u + hf u = x by omega, show y - hf u + hf u = y by omega] at this
    rw [← this] at hx
    exact hx (cat_out s hs (by omega))
/-- **A quad is its cells.** -/
theorem can_unique {s t : Tr} {v w : Int} (hs : wf v s) (ht : wf w t) (hhs : hol s = false) (hht : hol t = false) (hc : ∀ X Y : Int, mid v s X Y = mid w t X Y) : canT s = canT t := by
  unfold canT
  by_cases es : emp s = true
  · have et : emp t = true := emp_cat t ht fun x y => by
      have := hc (x - hf w) (y - hf w)
      unfold mid at this
      rw [show x - hf w + hf w = x by omega, show y - hf w + hf w = y by omega] at this
      rw [← this]; exact cat_emp s _ _ es
    rw [vis_emp s [] es, vis_emp t [] et]
  · have es' : emp s = false := by simpa using es
    have et : emp t = false := by
      rw [← Bool.not_eq_true]; intro et
      exact es (emp_cat s hs fun x y => by
        have := hc (x - hf v) (y - hf v)
        unfold mid at this
        rw [show x - hf v + hf v = x by omega, show y - hf v + hf v = y by omega] at this
        rw [this]; exact cat_emp t _ _ et)
    have e : v = w := by
      have := lv_least hs ht es' et hht hc
      have := lv_least ht hs et es' hhs (fun X Y => (hc X Y).symm)
      omega
    subst e
    rw [vis_same s hs ht (fun x y => by
      have := hc (x - hf v) (y - hf v)
      unfold mid at this
      rwa [show x - hf v + hf v = x by omega, show y - hf v + hf v = y by omega] at this) []]
theorem can_mid {s t : Tr} {v w : Int} (hs : wf v s) (ht : wf w t) (hc : ∀ X Y : Int, mid v s X Y = mid w t X Y) : canT (shr0 s) = canT (shr0 t) := by
  obtain ⟨a, a1, a2, a3⟩ := shr0_mid hs
  obtain ⟨b, b1, b2, b3⟩ := shr0_mid ht
  exact can_unique a1 b1 a2 b2 fun X Y => by rw [a3, b3, hc]
end Go.Gw

set_option linter.unusedSimpArgs false
set_option linter.unusedVariables false
namespace Go.Gw
open Go.RowKit
section
variable {P : Program} {l : List Oper} {Q : Exit → Act → World → Prop} {n m : Nat} {D : List Deferred} {ρ0 : Env} {w0 : World} {R R0 R1 : World → World → Prop} {sp : Spec} {ds anc con : List (List Nat)} {big st1 cls : List Bool}
end
section
variable {P : Program} {ops : Array Oper} {Q : Exit → Act → World → Prop} {rest : List Oper} {n : Nat} {D : List Deferred} {ρ : Env} {w : World}
variable {d ty xt yt : Nat} {pos : String} {after : Array Edge} {gd : Option (Nat × Bool)} {C : Value → World → Prop} {x y : Operand} {a b : Int}
end
end Go.Gw

set_option linter.unusedSimpArgs false
set_option linter.unusedVariables false
namespace Go.Gw
open Go.RowKit
/-! ### An element, found in a region that draws its order -/
section
variable {P : Program} {n : Nat} {D : List Deferred} {ρ : Env} {w w' : World} {α : Type} [Inhabited α] {K : Kd α} {F : Nat → Prop}
variable {d ty : Nat} {pos : String} {after : Array Edge} {gd : Option (Nat × Bool)} {C : Value → World → Prop} {x y z : Operand}
def IsEl (K : Kd α) (W : World) (F : Nat → Prop) (p : Value) (a : α) : Prop := ∃ b o us, p = .pointer (some ⟨b, o, none⟩) ∧ b < W.heap.size ∧ K.rep W F us a ∧ W.rangeAt b o us
omit [Inhabited α] in
theorem IsEl.g0 {p : Value} {a : α} (h : IsEl K w F p a) (k : w.grownBy w' none) : IsEl K w' F p a := by
  obtain ⟨b, o, us, e, hb, hr, hc⟩ := h
  exact ⟨b, o, us, e, Nat.lt_of_lt_of_le hb k.size, K.keep hr fun i hi _ => k.block i hi (by simp), range_g0 hc k⟩
end
/-! ### A struct into an own row; a place of an array of two -/
section
variable {P : Program} {n : Nat} {D : List Deferred} {ρ : Env} {w : World}
variable {d ty : Nat} {pos : String} {after : Array Edge} {gd : Option (Nat × Bool)} {C : Value → World → Prop} {x y z : Operand}
def sel2 (a b : Int) (i : Int) : Int := if i = 0 then a else b
end
end Go.Gw

set_option linter.unusedSimpArgs false
set_option linter.unusedVariables false
/-! ### The reference's edges: the plain law -/
namespace Go.Gw
open Go.RowKit
def pm (a b c d j : Int) : Int := if j ≤ 1 then sel2 a b (j % 2) else sel2 c d (j % 2)
def acc (l : List Nd) (f : Int → Bool) (x : Nd) (a b c d : Int) (j : Int) : Option Int := egN mo (fun q => egK mo 0 f l x (pm a b c d q)) j.toNat
/-- Two near and two far quarters. -/
structure Sides (f : Int → Bool) (a b c d : Int) : Prop where
  ra : 0 ≤ a ∧ a < 4
  rb : 0 ≤ b ∧ b < 4
  rc : 0 ≤ c ∧ c < 4
  rd : 0 ≤ d ∧ d < 4
  na : f a = false
  nb : f b = false
  fc : f c = true
  fd : f d = true
  all : ∀ g : Int → Option Int, mo (mo (mo (g a) (g b)) (g c)) (g d) = fold4 mo g
/-- No node is without a cell. -/
def Full (l : List Nd) : Prop := ∀ n : Int, 1 ≤ n → n ≤ l.length → emp (tr l n) = false
end Go.Gw
namespace Go.Gw
open Go.RowKit
end Go.Gw

set_option linter.unusedSimpArgs false
set_option linter.unusedVariables false
/-! ### The reference's box is the program's -/
namespace Go.Gw
open Go.RowKit
theorem full_last {l : List Nd} (h : Full l) (hn : l ≠ []) : emp (tr l l.length) = false := by
  have : l.length ≠ 0 := fun e => hn (List.eq_nil_of_length_eq_zero e)
  exact h _ (by omega) (Int.le_refl _)
theorem ea_some {f : Int → Bool} {l : List Nd} (h : Full l) (hn : l ≠ []) : ∃ e, ea f (tr l l.length) = some e := by
  have h1 := eg_isSome mo_isSome 0 f (tr l l.length)
  rw [full_last h hn] at h1
  exact Option.isSome_iff_exists.1 (by simpa using h1)
theorem rbx_some {l : List Nd} (h : Full l) (hn : l ≠ []) : (bxs l).some = true := by
  obtain ⟨e, he⟩ := ea_some (f := fX) h hn
  unfold bxs spn spO; rw [he]; rfl
end Go.Gw

set_option linter.unusedSimpArgs false
set_option linter.unusedVariables false
namespace Go.Gw
open Go.RowKit
/-! ### Cells; parts without room; a row made of two slices -/
section
variable {P : Program} {n : Nat} {D : List Deferred} {ρ : Env} {w w' : World} {α : Type} {K : Kd α} {F : Nat → Prop}
variable {d ty : Nat} {pos : String} {after : Array Edge} {gd : Option (Nat × Bool)} {C : Value → World → Prop} {x y z : Operand}
/-- A slice without room behind it. -/
def SlC (K : Kd α) (w : World) (F : Nat → Prop) (v : Value) (xs : List α) : Prop := Sl K w F v xs ∧ ∃ A, v = .slice A xs.length xs.length
end
end Go.Gw

set_option linter.unusedSimpArgs false
set_option linter.unusedVariables false
namespace Go.Gw
open Go.RowKit
/-! ### Cells -/
/-- A cell, as it is given: its numbers may be whatever. -/
structure RCl where
  xn : Bool
  xs : List Int
  yn : Bool
  ys : List Int
  st : Int
deriving DecidableEq
instance : Inhabited RCl := ⟨⟨false, [], false, [], 0⟩⟩
structure Cl where
  x : Int
  y : Int
  st : Int
deriving DecidableEq
instance : Inhabited Cl := ⟨⟨0, 0, 0⟩⟩
def CRep (U n0 : Nat) (w : World) (F : Nat → Prop) (us : List Value) (xn : Bool) (xs : List Int) (yn : Bool) (ys : List Int) (st : Int) : Prop :=
  ∃ a b, us = [.bool xn, a, .bool yn, b, .int .u8 st] ∧ Sl Kd.u32 w (GF U n0 F w) a xs ∧ Sl Kd.u32 w (GF U n0 F w) b ys ∧ 0 ≤ st ∧ st ≤ 255
section
variable {U n0 : Nat} {w w' : World} {F F' : Nat → Prop} {us : List Value} {xn yn : Bool} {xs ys : List Int} {st : Int}
theorem CRep.len (h : CRep U n0 w F us xn xs yn ys st) : us.length = 5 := by obtain ⟨a, b, rfl, _⟩ := h; rfl
theorem CRep.keep (h : CRep U n0 w F us xn xs yn ys st) (hk : ∀ k, k < w.heap.size → ¬ F k → w'.heap[k]? = w.heap[k]?) : CRep U n0 w' F us xn xs yn ys st := by
  obtain ⟨a, b, rfl, h1, h2, h3⟩ := h
  exact ⟨a, b, rfl, sl_gkeepF h1 fun k a b _ => hk k a b, sl_gkeepF h2 fun k a b _ => hk k a b, h3⟩
theorem CRep.weak (h : CRep U n0 w F us xn xs yn ys st) (hf : ∀ k, k < w.heap.size → F' k → F k) : CRep U n0 w F' us xn xs yn ys st := by
  obtain ⟨a, b, rfl, h1, h2, h3⟩ := h
  exact ⟨a, b, rfl, h1.weak fun k hk hF => hF.elim (fun h => .inl (hf k hk h)) .inr, h2.weak fun k hk hF => hF.elim (fun h => .inl (hf k hk h)) .inr, h3⟩
theorem CRep.put {g : Nat} (h : CRep U n0 w F us xn xs yn ys st) (hg : w.grownBy w' (some g)) (hG : G U n0 w g) : CRep U n0 w' F us xn xs yn ys st := by
  obtain ⟨a, b, rfl, h1, h2, h3⟩ := h
  exact ⟨a, b, rfl, sl_gkeepF h1 fun k hk _ hk2 => hg.block k hk (by rintro ⟨⟩; exact hk2 hG), sl_gkeepF h2 fun k hk _ hk2 => hg.block k hk (by rintro ⟨⟩; exact hk2 hG), h3⟩
theorem CRep.ones (h : CRep U n0 w F us xn xs yn ys st) : ∀ q ∈ us, q.oneCell' = true := by
  obtain ⟨a, b, rfl, h1, h2, h3⟩ := h
  intro q hq
  simp at hq
  rcases hq with rfl | rfl | rfl | rfl | rfl
  · rfl
  · exact h1.one
  · rfl
  · exact h2.one
  · rfl
end
def Kd.rcell (U n0 : Nat) : Kd RCl where
  sz := 5
  rep := fun w F us c => CRep U n0 w F us c.xn c.xs c.yn c.ys c.st
  len := CRep.len
  keep := CRep.keep
  weak := CRep.weak
def Kd.cell (U n0 : Nat) : Kd Cl where
  sz := 5
  rep := fun w F us c => CRep U n0 w F us (decide (c.x < 0)) (ml c.x) (decide (c.y < 0)) (ml c.y) c.st
  len := CRep.len
  keep := CRep.keep
  weak := CRep.weak
section
variable {α β : Type} {K : Kd α} {L : Kd β} {U n0 : Nat} {w w' : World} {F : Nat → Prop} {v s : Value} {xs ys : List α}
end
section
variable {P : Program} {n : Nat} {D : List Deferred} {ρ : Env} {w w' : World} {α : Type} {K : Kd α} {F : Nat → Prop} {U n0 : Nat}
variable {d ty : Nat} {pos : String} {after : Array Edge} {gd : Option (Nat × Bool)} {C : Value → World → Prop} {x y z : Operand}
theorem SlC.g0 {v : Value} {xs : List α} (h : SlC K w F v xs) (k : w.grownBy w' none) : SlC K w' F v xs := ⟨h.1.g0 k, h.2⟩
end
end Go.Gw

set_option linter.unusedSimpArgs false
set_option linter.unusedVariables false
/-! ### The reference's cells: the plain law -/
namespace Go.Gw
open Go.RowKit
def ordC (a b : Cl) : Int := if cmpI a.y b.y = 0 then cmpI a.x b.x else cmpI a.y b.y
def insC : List Cl → Cl → List Cl
  | [], c => [c]
  | a :: r, c => if ordC a c < 0 then a :: insC r c else if ordC a c = 0 then c :: r else c :: a :: r
def lastA (l : List Cl) : List Cl := l.foldl insC []
def nzC (c : Cl) : Bool := decide (c.st ≠ 0)
def lastL (l : List Cl) : List Cl := (lastA l).filter nzC
/-- Cells that are not too great. -/
def CBd (l : List Cl) : Prop := ∀ c ∈ l, Bd 50 c.x ∧ Bd 50 c.y
theorem ix_memC {l : List Cl} {i : Int} (h0 : 0 ≤ i) (h1 : i < l.length) : ix l i ∈ l := by
  unfold ix
  rw [List.getD_eq_getElem?_getD, List.getElem?_eq_getElem (by omega)]
  exact List.getElem_mem _
theorem insC_mem : ∀ {os : List Cl} {c a : Cl}, a ∈ insC os c → a = c ∨ a ∈ os
  | [], c, a, h => by simp [insC] at h; exact .inl h
  | b :: r, c, a, h => by
    unfold insC at h
    split at h
    · rcases List.mem_cons.1 h with h | h
      · exact .inr (by simp [h])
      · rcases insC_mem h with h | h
        · exact .inl h
        · exact .inr (by simp [h])
    · split at h
      · rcases List.mem_cons.1 h with h | h
        · exact .inl h
        · exact .inr (by simp [h])
      · rcases List.mem_cons.1 h with h | h
        · exact .inl h
        · exact .inr h
end Go.Gw

set_option linter.unusedSimpArgs false
set_option linter.unusedVariables false
/-! ### Cells into a tree: the plain law of 'place' -/
namespace Go.Gw
open Go.RowKit
def qX (x h k : Int) : Int := if k % 2 = 1 then x + h else x
def qY (y h k : Int) : Int := if 1 < k then y + h else y
def qC (x y h : Int) (c : Cl) : Bool := decide (x ≤ c.x ∧ c.x < x + h ∧ y ≤ c.y ∧ c.y < y + h)
def hdS (l : List Cl) : Int := if l = [] then 0 else (ix l 0).st
def placeN : Nat → Int → Int → List Cl → List Nd → List Nd × Int
  | 0, _, _, _, o => (o, 0)
  | v + 1, x, y, l, o =>
    if l = [] then (o, 0) else
    let h := hf ((v : Int) + 1)
    let kid (k : Int) (o : List Nd) : List Nd × Int := if v = 0 then (o, hdS (l.filter (qC (qX x h k) (qY y h k) h))) else placeN v (qX x h k) (qY y h k) (l.filter (qC (qX x h k) (qY y h k) h)) o
    let r0 := kid 0 o
    let r1 := kid 1 r0.1
    let r2 := kid 2 r1.1
    let r3 := kid 3 r2.1
    (r3.1 ++ [⟨(v : Int) + 1, r0.2, r1.2, r2.2, r3.2⟩], (r3.1.length : Int) + 1)
/-- One quarter. -/
def kidP (v : Nat) (x y : Int) (l : List Cl) (k : Int) (o : List Nd) : List Nd × Int :=
  let h := hf ((v : Int) + 1)
  if v = 0 then (o, hdS (l.filter (qC (qX x h k) (qY y h k) h))) else placeN v (qX x h k) (qY y h k) (l.filter (qC (qX x h k) (qY y h k) h)) o
/-- After k quarters. -/
def pst (v : Nat) (x y : Int) (l : List Cl) (o : List Nd) : Nat → List Nd × (Int → Int)
  | 0 => (o, fun _ => 0)
  | k + 1 => ((kidP v x y l k (pst v x y l o k).1).1, fun j => if j = (k : Int) then (kidP v x y l k (pst v x y l o k).1).2 else (pst v x y l o k).2 j)
/-- What is known of a node's cells on the way. -/
structure PSt (v : Nat) (x y : Int) (l : List Cl) (o : List Nd) (k : Int) (ok : List Nd) (a b c e : Int) : Prop where
  q : ok = (pst v x y l o k.toNat).1
  a : a = (pst v x y l o k.toNat).2 0
  b : b = (pst v x y l o k.toNat).2 1
  c : c = (pst v x y l o k.toNat).2 2
  e : e = (pst v x y l o k.toNat).2 3
section
variable {α : Type} {K : Kd α} {U n0 : Nat} {w w' : World} {v v' s : Value} {xs : List α}
end
theorem cmpI_ge {a b : Int} : 0 ≤ cmpI a b ↔ b ≤ a := by unfold cmpI; split <;> (try split) <;> omega
theorem cmpI_lti {a b : Int} : cmpI a b < 0 ↔ a < b := by unfold cmpI; split <;> (try split) <;> omega
def inC (c : Cl) (v : Int) : Bool := decide (-(hf v) ≤ c.x ∧ c.x < hf v ∧ -(hf v) ≤ c.y ∧ c.y < hf v)
/-! #### how many nodes there may be -/
def qn (x y h : Int) (l : List Cl) (k : Int) : Nat := (l.filter (qC (qX x h k) (qY y h k) h)).length
theorem q4 (x y h : Int) (hh : 0 < h) (l : List Cl) : qn x y h l 0 + qn x y h l 1 + qn x y h l 2 + qn x y h l 3 ≤ l.length := by
  induction l with
  | nil => simp [qn]
  | cons c r ih =>
    have e : ∀ k, qn x y h (c :: r) k = qn x y h r k + if qC (qX x h k) (qY y h k) h c = true then 1 else 0 := by
      intro k; unfold qn; rw [List.filter_cons]; split <;> simp
    rw [e 0, e 1, e 2, e 3, List.length_cons]
    have one : (if qC (qX x h 0) (qY y h 0) h c = true then 1 else 0) + (if qC (qX x h 1) (qY y h 1) h c = true then 1 else 0) + (if qC (qX x h 2) (qY y h 2) h c = true then 1 else 0) + (if qC (qX x h 3) (qY y h 3) h c = true then 1 else 0) ≤ 1 := by
      rw [show qX x h 0 = x from rfl, show qY y h 0 = y from rfl, show qX x h 1 = x + h from rfl, show qY y h 1 = y from rfl, show qX x h 2 = x from rfl, show qY y h 2 = y + h from rfl, show qX x h 3 = x + h from rfl, show qY y h 3 = y + h from rfl]
      simp only [qC, decide_eq_true_eq]
      split <;> split <;> split <;> split <;> omega
    omega
end Go.Gw

set_option linter.unusedSimpArgs false
set_option linter.unusedVariables false
/-! ### What 'place' lays has the cells -/
namespace Go.Gw
open Go.RowKit
/-- A number in a list of nodes, of a level. -/
structure NumIn (p : List Nd) (c v : Int) : Prop where
  r : 0 ≤ c ∧ c ≤ p.length
  lv : c ≠ 0 → (ix p (c - 1)).lv = v
theorem NumIn.pre {o p : List Nd} {c v : Int} (h : NumIn o c v) (k : o <+: p) : NumIn p c v := ⟨⟨h.r.1, by have := k.length_le; have := h.r; omega⟩, fun hc => by rw [ix_pre k _ (by have := h.r; omega) (by have := h.r; omega)]; exact h.lv hc⟩
theorem NumIn.zero (p : List Nd) (v : Int) : NumIn p 0 v := ⟨⟨Int.le_refl _, by omega⟩, fun h => absurd rfl h⟩
theorem tr_snoc {p : List Nd} {x : Nd} (hp : looseB p = true) (hq : looseB (p ++ [x]) = true) : tr (p ++ [x]) ((p.length : Int) + 1) = if x.lv = 1 then .leaf x.k0 x.k1 x.k2 x.k3 else .nd x.lv (tr (p ++ [x]) x.k0) (tr (p ++ [x]) x.k1) (tr (p ++ [x]) x.k2) (tr (p ++ [x]) x.k3) := by
  have e : ix (p ++ [x]) ((p.length : Int) + 1 - 1) = x := by
    rw [show (p.length : Int) + 1 - 1 = p.length by omega]
    unfold ix; simp [List.getD_eq_getElem?_getD]
  rw [tr_at hq (by omega) (by simp), e]
theorem laid_node {p : List Nd} {v a b c d : Int} (hp : looseB p = true) (hv : 2 ≤ v ∧ v ≤ 1329) (ha : NumIn p a (v - 1)) (hb : NumIn p b (v - 1)) (hc : NumIn p c (v - 1)) (hd : NumIn p d (v - 1)) :
    looseB (p ++ [⟨v, a, b, c, d⟩]) = true ∧ tr (p ++ [⟨v, a, b, c, d⟩]) ((p.length : Int) + 1) = .nd v (tr p a) (tr p b) (tr p c) (tr p d) := by
  have q : ∀ {c : Int}, NumIn p c (v - 1) → c = 0 ∨ (v = 1 ∧ 0 < c ∧ c ≤ 255) ∨ (v ≠ 1 ∧ 0 < c ∧ c ≤ p.length ∧ (ix p (c - 1)).lv = v - 1) := fun {c} h => by
    by_cases e : c = 0
    · exact .inl e
    · exact .inr (.inr ⟨by omega, by have := h.r; omega, h.r.2, h.lv e⟩)
  have h1 : looseB (p ++ [⟨v, a, b, c, d⟩]) = true := loose_snoc hp (by show 1 ≤ v ∧ v ≤ 1329; omega) fun k k0 k1 => by
    have : k = 0 ∨ k = 1 ∨ k = 2 ∨ k = 3 := by omega
    rcases this with rfl | rfl | rfl | rfl
    · exact q ha
    · exact q hb
    · exact q hc
    · exact q hd
  refine ⟨h1, ?_⟩
  rw [tr_snoc hp h1, if_neg (show ¬ v = 1 by omega), tr_pre hp h1 (List.prefix_append _ _) a ha.r.1 ha.r.2, tr_pre hp h1 (List.prefix_append _ _) b hb.r.1 hb.r.2, tr_pre hp h1 (List.prefix_append _ _) c hc.r.1 hc.r.2, tr_pre hp h1 (List.prefix_append _ _) d hd.r.1 hd.r.2]
theorem laid_leaf {p : List Nd} {a b c d : Int} (hp : looseB p = true) (ha : 0 ≤ a ∧ a ≤ 255) (hb : 0 ≤ b ∧ b ≤ 255) (hc : 0 ≤ c ∧ c ≤ 255) (hd : 0 ≤ d ∧ d ≤ 255) :
    looseB (p ++ [⟨1, a, b, c, d⟩]) = true ∧ tr (p ++ [⟨1, a, b, c, d⟩]) ((p.length : Int) + 1) = .leaf a b c d := by
  have q : ∀ {c : Int}, 0 ≤ c ∧ c ≤ 255 → c = 0 ∨ ((1 : Int) = 1 ∧ 0 < c ∧ c ≤ 255) ∨ ((1 : Int) ≠ 1 ∧ 0 < c ∧ c ≤ p.length ∧ (ix p (c - 1)).lv = 1 - 1) := fun {c} h => by
    by_cases e : c = 0
    · exact .inl e
    · exact .inr (.inl ⟨rfl, by omega, h.2⟩)
  have h1 : looseB (p ++ [⟨1, a, b, c, d⟩]) = true := loose_snoc hp (by show (1 : Int) ≤ 1 ∧ (1 : Int) ≤ 1329; omega) fun k k0 k1 => by
    have : k = 0 ∨ k = 1 ∨ k = 2 ∨ k = 3 := by omega
    rcases this with rfl | rfl | rfl | rfl
    · exact q ha
    · exact q hb
    · exact q hc
    · exact q hd
  exact ⟨h1, by rw [tr_snoc hp h1]; rfl⟩
theorem num_last (p : List Nd) (x : Nd) : NumIn (p ++ [x]) ((p.length : Int) + 1) x.lv := ⟨by simp; omega, fun _ => by
  rw [show (p.length : Int) + 1 - 1 = p.length by omega]
  unfold ix; simp [List.getD_eq_getElem?_getD]⟩
/-! #### places -/
def isAt (X Y : Int) (c : Cl) : Bool := decide (c.x = X ∧ c.y = Y)
/-- The state of a place among cells: the first one's there. -/
def stA (l : List Cl) (X Y : Int) : Int := hdS (l.filter (isAt X Y))
theorem stA_cons (c : Cl) (l : List Cl) (X Y : Int) : stA (c :: l) X Y = if c.x = X ∧ c.y = Y then c.st else stA l X Y := by
  unfold stA isAt
  rw [List.filter_cons]
  by_cases h : c.x = X ∧ c.y = Y
  · rw [if_pos h, if_pos (by simpa using h)]; rfl
  · rw [if_neg h, if_neg (by simpa using h)]
def StB (l : List Cl) : Prop := ∀ c ∈ l, 0 ≤ c.st ∧ c.st ≤ 255
theorem StB.filter {l : List Cl} (h : StB l) (p : Cl → Bool) : StB (l.filter p) := fun c hc => h c (List.mem_filter.1 hc).1
/-- What is laid. -/
structure Laid (v : Nat) (x y : Int) (l : List Cl) (o : List Nd) (r : List Nd × Int) : Prop where
  pre : o <+: r.1
  ok : looseB r.1 = true
  num : NumIn r.1 r.2 v
  cel : ∀ X Y : Int, (0 ≤ X ∧ X < 2 * hf v) → (0 ≤ Y ∧ Y < 2 * hf v) → cat (tr r.1 r.2) X Y = stA l (x + X) (y + Y)
end Go.Gw

set_option linter.unusedSimpArgs false
set_option linter.unusedVariables false
/-! ### Which level cells want: the plain law of the reference's 'Of' -/
namespace Go.Gw
open Go.RowKit
def upL (c : Cl) : Nat → Int → Int
  | 0, v => v
  | n + 1, v => if v ≤ 1329 ∧ inC c v = false then upL c n (v + 1) else v
def levelC (l : List Cl) : Int := l.foldl (fun v c => upL c 1331 v) 1
def toCl (c : RCl) : Cl := ⟨sg c.xn (nv c.xs), sg c.yn (nv c.ys), c.st⟩
def rightR (c : RCl) : Bool := bigR c.xn c.xs && bigR c.yn c.ys
theorem sg_right {ng : Bool} {xs : List Int} (hx : Lim xs) (h : bigR ng xs = true) : ng = decide (sg ng (nv xs) < 0) ∧ xs = ml (sg ng (nv xs)) := by
  obtain ⟨n, h1, h2⟩ := bigR_out hx h
  have e : sg ng (nv xs) = n := by
    rw [h2, nv_ml, h1]; unfold sg
    by_cases h : n < 0
    · simp [h]; omega
    · simp [h]; omega
  rw [e]; exact ⟨h1, h2⟩
def ofCells (cs : List Cl) : List Nd × Int :=
  if 1329 < levelC (lastL cs) then ([], 4)
  else ofL (placeN (levelC (lastL cs)).toNat (-(hf (levelC (lastL cs)))) (-(hf (levelC (lastL cs)))) (lastL cs) []).1 (placeN (levelC (lastL cs)).toNat (-(hf (levelC (lastL cs)))) (-(hf (levelC (lastL cs)))) (lastL cs) []).2
def ofR (l : List RCl) : List Nd × Int := if l.all rightR then ofCells (l.map toCl) else ([], 1)
theorem ix_memR {l : List RCl} {i : Int} (h0 : 0 ≤ i) (h1 : i < l.length) : ix l i ∈ l := by
  unfold ix
  rw [List.getD_eq_getElem?_getD, List.getElem?_eq_getElem (by omega)]
  exact List.getElem_mem _
theorem Sl.nil0 {α : Type} {K : Kd α} {w : World} {F : Nat → Prop} : Sl K w F (.slice Option.none 0 0) [] := ⟨Option.none, 0, rfl, by simp, by simp [maxLen], fun i x hx => by simp at hx⟩
end Go.Gw

set_option linter.unusedSimpArgs false
set_option linter.unusedVariables false
/-! ### Great and Quad: the plain law -/
namespace Go.Gw
open Go.RowKit
def greatC (c : RCl) : Bool := decide (50 < (c.xs.length : Int)) || decide (50 < (c.ys.length : Int))
def greatB (l : List RCl) (m : Int) : Bool := decide (m < (l.length : Int)) || l.any greatC
def quadR (l : List RCl) (m : Int) : List Nd × Bool := if greatB l m then ([], false) else ((ofR l).1, decide ((ofR l).2 = 0))
theorem great_yes {l : List RCl} {m i : Int} (h0 : 0 ≤ i) (h1 : i < l.length) (h : greatC (ix l i) = true) : greatB l m = true := by
  unfold greatB; rw [List.any_eq_true.2 ⟨_, ix_memR h0 h1, h⟩, Bool.or_true]
theorem great_none {l : List RCl} {m i : Int} (hm : ¬ m < (l.length : Int)) (hi : i = l.length) (h : ∀ j : Int, 0 ≤ j → j < i → greatC (ix l j) = false) : greatB l m = false := by
  unfold greatB
  rw [decide_eq_false hm, Bool.false_or, List.any_eq_false]
  intro c hc
  obtain ⟨j, hj, rfl⟩ := List.getElem_of_mem hc
  have := h j (by omega) (by omega)
  unfold ix at this
  rw [List.getD_eq_getElem?_getD, Int.toNat_natCast, List.getElem?_eq_getElem hj] at this
  simpa using this
theorem sg_bd {xs : List Int} (hx : Lim xs) (hl : (xs.length : Int) ≤ 50) (ng : Bool) : Bd 50 (sg ng (nv xs)) := by
  have h1 := nv_lt hx
  have h2 := PW_le (show xs.length ≤ 50 by omega)
  have h3 : 0 ≤ nv xs := nv_nonneg hx
  unfold Bd sg; split <;> omega
end Go.Gw

set_option linter.unusedSimpArgs false
set_option linter.unusedVariables false
/-! ### Cells in order, and the quad of cells -/
namespace Go.Gw
open Go.RowKit
def lexLt (a b : Cl) : Prop := a.y < b.y ∨ (a.y = b.y ∧ a.x < b.x)
theorem ord_lt {a b : Cl} : ordC a b < 0 ↔ lexLt a b := by
  unfold ordC lexLt cmpI
  by_cases h1 : a.y < b.y
  · simp [h1]
  · by_cases h2 : b.y < a.y
    · simp [h1, h2]; omega
    · by_cases h3 : a.x < b.x
      · simp [h1, h2, h3]; omega
      · by_cases h4 : b.x < a.x <;> simp [h1, h2, h3, h4]
theorem ord_eq {a b : Cl} : ordC a b = 0 ↔ a.x = b.x ∧ a.y = b.y := by
  unfold ordC cmpI
  by_cases h1 : a.y < b.y
  · simp [h1]; omega
  · by_cases h2 : b.y < a.y
    · simp [h1, h2]; omega
    · by_cases h3 : a.x < b.x
      · simp [h1, h2, h3]; omega
      · by_cases h4 : b.x < a.x <;> simp [h1, h2, h3, h4] <;> omega
def Srt (l : List Cl) : Prop := l.Pairwise lexLt
theorem insC_srt : ∀ {os : List Cl} {c : Cl}, Srt os → Srt (insC os c)
  | [], c, _ => List.pairwise_singleton _ _
  | a :: r, c, h => by
    obtain ⟨h1, h2⟩ := List.pairwise_cons.1 h
    unfold insC
    split
    · rename_i hc
      refine List.pairwise_cons.2 ⟨fun b hb => ?_, insC_srt h2⟩
      rcases insC_mem hb with rfl | hb
      · exact ord_lt.1 hc
      · exact h1 b hb
    · rename_i hc
      have hc : ¬ lexLt a c := fun q => hc (ord_lt.2 q)
      split
      · rename_i he
        have he := ord_eq.1 he
        refine List.pairwise_cons.2 ⟨fun b hb => ?_, h2⟩
        have := h1 b hb
        unfold lexLt at *; omega
      · rename_i he
        have he : ¬ (a.x = c.x ∧ a.y = c.y) := fun q => he (ord_eq.2 q)
        refine List.pairwise_cons.2 ⟨fun b hb => ?_, h⟩
        rcases List.mem_cons.1 hb with rfl | hb
        · unfold lexLt at *; omega
        · have := h1 b hb
          unfold lexLt at *; omega
theorem insC_st : ∀ (os : List Cl) (c : Cl) (X Y : Int), stA (insC os c) X Y = if c.x = X ∧ c.y = Y then c.st else stA os X Y
  | [], c, X, Y => by unfold insC; rw [stA_cons]
  | a :: r, c, X, Y => by
    unfold insC
    split
    · rename_i hc
      have hc := ord_lt.1 hc
      rw [stA_cons, insC_st r c X Y, stA_cons]
      by_cases h1 : a.x = X ∧ a.y = Y
      · rw [if_pos h1, if_neg (show ¬ (c.x = X ∧ c.y = Y) by unfold lexLt at hc; omega), if_pos h1]
      · rw [if_neg h1, if_neg h1]
    · split
      · rename_i he
        have he := ord_eq.1 he
        rw [stA_cons, stA_cons]
        by_cases h1 : c.x = X ∧ c.y = Y
        · rw [if_pos h1, if_pos h1]
        · rw [if_neg h1, if_neg h1, if_neg (show ¬ (a.x = X ∧ a.y = Y) by omega)]
      · rw [stA_cons]
/-- The last one's state. -/
def stL (l : List Cl) (X Y : Int) : Int := l.foldl (fun s c => if c.x = X ∧ c.y = Y then c.st else s) 0
theorem lastA_sem (l : List Cl) : Srt (lastA l) ∧ ∀ X Y : Int, stA (lastA l) X Y = stL l X Y := by
  have : ∀ (l os : List Cl), Srt os → Srt (l.foldl insC os) ∧ ∀ X Y : Int, stA (l.foldl insC os) X Y = l.foldl (fun s c => if c.x = X ∧ c.y = Y then c.st else s) (stA os X Y) := by
    intro l
    induction l with
    | nil => intro os h; exact ⟨h, fun _ _ => rfl⟩
    | cons a r ih =>
      intro os h
      obtain ⟨h1, h2⟩ := ih (insC os a) (insC_srt h)
      exact ⟨h1, fun X Y => by rw [List.foldl_cons, h2, insC_st]; rfl⟩
  exact this l [] List.Pairwise.nil
theorem stA_out {l : List Cl} {X Y : Int} (h : ∀ c ∈ l, ¬ (c.x = X ∧ c.y = Y)) : stA l X Y = 0 := by
  induction l with
  | nil => rfl
  | cons a r ih => rw [stA_cons, if_neg (h a (by simp)), ih fun c hc => h c (by simp [hc])]
theorem srt_ne {a : Cl} {r : List Cl} (h : Srt (a :: r)) : ∀ c ∈ r, ¬ (c.x = a.x ∧ c.y = a.y) := fun c hc e => by
  have := (List.pairwise_cons.1 h).1 c hc
  unfold lexLt at this; omega
theorem stA_nz : ∀ {l : List Cl}, Srt l → ∀ X Y : Int, stA (l.filter nzC) X Y = stA l X Y
  | [], _, X, Y => rfl
  | a :: r, h, X, Y => by
    rw [List.filter_cons, stA_cons]
    have ih := stA_nz (List.pairwise_cons.1 h).2 X Y
    by_cases hz : nzC a = true
    · rw [if_pos hz, stA_cons, ih]
    · rw [if_neg hz, ih]
      by_cases e : a.x = X ∧ a.y = Y
      · rw [if_pos e, stA_out fun c hc q => srt_ne h c hc (by omega)]
        unfold nzC at hz; simp at hz; exact hz.symm
      · rw [if_neg e]
theorem lastL_sem (l : List Cl) : Srt (lastL l) ∧ (∀ c ∈ lastL l, c.st ≠ 0) ∧ ∀ X Y : Int, stA (lastL l) X Y = stL l X Y := by
  obtain ⟨h1, h2⟩ := lastA_sem l
  exact ⟨h1.filter _, fun c hc => by have := (List.mem_filter.1 hc).2; unfold nzC at this; simpa using this, fun X Y => by unfold lastL; rw [stA_nz h1, h2]⟩
theorem stA_mem {l : List Cl} (hs : Srt l) {c : Cl} (hc : c ∈ l) : stA l c.x c.y = c.st := by
  induction l with
  | nil => cases hc
  | cons a r ih =>
    rw [stA_cons]
    rcases List.mem_cons.1 hc with rfl | hc
    · rw [if_pos ⟨rfl, rfl⟩]
    · rw [if_neg (fun e => srt_ne hs c hc (by omega)), ih (List.pairwise_cons.1 hs).2 hc]
theorem stA_is {l : List Cl} {X Y : Int} (h : stA l X Y ≠ 0) : ∃ c ∈ l, c.x = X ∧ c.y = Y := by
  exact Classical.byContradiction fun hn => h (stA_out fun c hc e => hn ⟨c, hc, e⟩)
/-! #### the level -/
theorem upL_ge (c : Cl) : ∀ (n : Nat) (v : Int), v ≤ upL c n v
  | 0, v => Int.le_refl _
  | n + 1, v => by
    unfold upL
    split
    · have := upL_ge c n (v + 1); omega
    · exact Int.le_refl _
theorem upL_le (c : Cl) : ∀ (n : Nat) (v : Int), v ≤ 1330 → upL c n v ≤ 1330
  | 0, v, h => h
  | n + 1, v, h => by
    unfold upL
    split
    · rename_i hc; exact upL_le c n (v + 1) (by omega)
    · exact h
theorem upL_in (c : Cl) : ∀ (n : Nat) (v : Int), 1330 - v < n → 1329 < upL c n v ∨ inC c (upL c n v) = true
  | 0, v, h => by unfold upL; left; omega
  | n + 1, v, h => by
    unfold upL
    split
    · exact upL_in c n (v + 1) (by omega)
    · rename_i hc
      by_cases h2 : v ≤ 1329
      · right; cases hb : inC c v with
        | true => rfl
        | false => exact absurd ⟨h2, hb⟩ hc
      · left; omega
end Go.Gw

set_option linter.unusedSimpArgs false
set_option linter.unusedVariables false
/-! ### A quad and its cells -/
namespace Go.Gw
open Go.RowKit
theorem cat_pru : ∀ (t : Tr) (x y : Int), cat (pru t) x y = cat t x y
  | .no, _, _ => rfl
  | .leaf a b c d, x, y => by
    by_cases h : emp (.leaf a b c d) = true
    · rw [pru_emp h, cat_emp _ _ _ h]; rfl
    · simp only [pru, if_neg h]
  | .nd u a b c d, x, y => by
    by_cases h : emp (.nd u a b c d) = true
    · rw [pru_emp h, cat_emp _ _ _ h]; rfl
    · simp only [pru, if_neg h, cat, cat_pru a, cat_pru b, cat_pru c, cat_pru d]
/-- A cell of a quad. -/
def celQ (q : List Nd) (X Y : Int) : Int := mid (levelN q) (tr q q.length) X Y
theorem celQ_nil (X Y : Int) : celQ [] X Y = 0 := rfl
/-- A quad that is its own. -/
def Can (q : List Nd) : Prop := ∃ t v, wf v t ∧ q = canT (shr0 t)
theorem can_of {t : Tr} {v : Int} (h : wf v t) : Can (canT (shr0 t)) := ⟨t, v, h, rfl⟩
theorem celQ_can {t : Tr} {v : Int} (h : wf v t) (X Y : Int) : celQ (canT (shr0 t)) X Y = mid v t X Y := by
  obtain ⟨u, h1, h2, h3⟩ := shr0_mid h
  rw [← h3]
  generalize shr0 t = s at *
  unfold celQ canT
  by_cases he : emp s = true
  · rw [vis_emp s [] he]
    unfold mid
    rw [cat_emp s _ _ he]; rfl
  · have he : emp s = false := by simpa using he
    obtain ⟨r1, r2⟩ := vis_root h1 he
    obtain ⟨c1, c2⟩ := vis_can s h1 can_nil
    have hlv : levelN (vis s []).1 = u := by
      unfold levelN; rw [if_neg (by omega), ← r1]; exact c2 (by omega)
    rw [hlv, ← r1, tr_num c1 s h1 (List.prefix_refl _)]
    unfold mid; rw [cat_pru]
theorem can_eq {p q : List Nd} (hp : Can p) (hq : Can q) (h : ∀ X Y : Int, celQ p X Y = celQ q X Y) : p = q := by
  obtain ⟨s, v, hs, rfl⟩ := hp
  obtain ⟨t, w, ht, rfl⟩ := hq
  exact can_mid hs ht fun X Y => by rw [← celQ_can hs, ← celQ_can ht, h]
theorem can_nil_q : Can [] := ⟨.no, 1, trivial, rfl⟩
theorem Can.ok {q : List Nd} (h : Can q) : looseB q = true := by
  obtain ⟨t, v, ht, rfl⟩ := h
  obtain ⟨u, h1, h2, h3⟩ := shr0_mid ht
  exact rightB_loose h1
theorem Can.canL {q : List Nd} (h : Can q) : CanL q := by
  obtain ⟨t, v, ht, rfl⟩ := h
  obtain ⟨u, h1, h2, h3⟩ := shr0_mid ht
  exact (vis_can (shr0 t) h1 can_nil).1
theorem Can.right {q : List Nd} (h : Can q) : rightB q = true := by
  obtain ⟨t, v, ht, rfl⟩ := h
  obtain ⟨u, h1, h2, h3⟩ := shr0_mid ht
  exact right_can h1 h2
theorem Can.full {q : List Nd} (h : Can q) : Full q := fun n h0 h1 => by
  have hf := (full_iff q).1 (full_can h.canL) (n - 1) (by omega) (by omega)
  rw [show n - 1 + 1 = n by omega, has_tr h.ok n (by omega) h1] at hf
  simpa using hf
theorem Can.wf {q : List Nd} (h : Can q) : wf (levelN q) (tr q q.length) := wf_tr h.ok _ (by omega) (Int.le_refl _) _ fun h0 => by unfold levelN; rw [if_neg (by omega)]
/-- Outside of its root a quad has nothing. -/
theorem celQ_out {q : List Nd} (h : Can q) {X Y : Int} (ho : ¬ (-(hf (levelN q)) ≤ X ∧ X < hf (levelN q) ∧ -(hf (levelN q)) ≤ Y ∧ Y < hf (levelN q))) : celQ q X Y = 0 := by
  have := hf_pos (levelN q)
  exact cat_out _ h.wf (by omega)
theorem celQ_zero {q : List Nd} (h : Can q) (hz : ∀ X Y : Int, celQ q X Y = 0) : q = [] := can_eq h can_nil_q fun X Y => by rw [hz, celQ_nil]
theorem ofL_any (l : List Nd) (n : Int) : Can (ofL l n).1 := by
  unfold ofL
  split
  · rename_i hc; exact can_of (wf_tr hc.1 n hc.2.1 hc.2.2 _ (fun _ => rfl))
  · exact can_nil_q
theorem looseB_nil : looseB [] = true := can_nil.ok
end Go.Gw

set_option linter.unusedSimpArgs false
set_option linter.unusedVariables false
/-! ### The box, by its cells -/
namespace Go.Gw
open Go.RowKit
structure Least (P : Int → Prop) (o : Option Int) : Prop where
  le : ∀ x, P x → ∃ e, o = some e ∧ e ≤ x
  hit : ∀ e, o = some e → P e
structure Most (P : Int → Prop) (o : Option Int) : Prop where
  ge : ∀ x, P x → ∃ e, o = some e ∧ x + 1 ≤ e
  hit : ∀ e, o = some e → P (e - 1)
/-- A box is around cells, and touches them on each side. -/
structure Around (g : Int → Int → Int) (b : Bx) : Prop where
  rng : ∀ X Y : Int, g X Y ≠ 0 → (b.x ≤ X ∧ X < b.x + b.w) ∧ b.y ≤ Y ∧ Y < b.y + b.h
  west : ∃ Y, g b.x Y ≠ 0
  east : ∃ Y, g (b.x + b.w - 1) Y ≠ 0
  north : ∃ X, g X b.y ≠ 0
  south : ∃ X, g X (b.y + b.h - 1) ≠ 0
theorem box_no {q : List Nd} (h : Can q) (hs : (bxs q).some = false) : q = [] := Classical.byContradiction fun hn => by
  rw [rbx_some h.full hn] at hs; cases hs
end Go.Gw
