/- Part of the proof that is named in YtencmmhfiepojaaLRowBack: a library for walks, or a function's walk. -/
import Derived.Test.YtencmmhfiepojaaLimbSpec5
set_option linter.unusedSimpArgs false
set_option linter.unusedVariables false
/-! ### Bits -/
namespace Go.Gw
open Go.RowKit
def bn (b : Bool) : Int := if b then 1 else 0
theorem bn_bd (b : Bool) : 0 ≤ bn b ∧ bn b ≤ 1 := by cases b <;> decide
def bv : List Bool → Int
  | [] => 0
  | b :: r => bn b + 2 * bv r
theorem bv_bd : ∀ b : List Bool, 0 ≤ bv b ∧ bv b < 2 ^ b.length
  | [] => by decide
  | b :: r => by
    have h := bv_bd r
    have := bn_bd b
    rw [List.length_cons, Int.pow_succ]; unfold bv; omega
theorem bv_append : ∀ a b : List Bool, bv (a ++ b) = bv a + 2 ^ a.length * bv b
  | [], b => by simp [bv]
  | x :: r, b => by
    have := bv_append r b
    simp only [List.cons_append, bv, List.length_cons, Int.pow_succ]
    rw [this]; grind
theorem bv_snoc (a : List Bool) (x : Bool) : bv (a ++ [x]) = bv a + 2 ^ a.length * bn x := by rw [bv_append]; simp [bv]
def tb (n : Int) : List Bool := if h : n ≤ 0 then [] else decide (n % 2 = 1) :: tb (n / 2)
termination_by n.toNat
decreasing_by omega
theorem tb_zero {n : Int} (h : n ≤ 0) : tb n = [] := by unfold tb; rw [dif_pos h]
theorem tb_pos {n : Int} (h : 0 < n) : tb n = decide (n % 2 = 1) :: tb (n / 2) := by rw [tb, dif_neg (by omega)]
theorem bn_odd {n : Int} : bn (decide (n % 2 = 1)) = n % 2 := by
  unfold bn
  by_cases h : n % 2 = 1 <;> simp [h]; omega
theorem bv_tb {n : Int} (h : 0 ≤ n) : bv (tb n) = n := by
  unfold tb
  split
  · simp only [bv]; omega
  · have := bv_tb (n := n / 2) (by omega)
    simp only [bv]; rw [this, bn_odd]; omega
termination_by n.toNat
decreasing_by omega
theorem tb_len {n : Int} : ((tb n).length : Int) = blen n := by
  by_cases h : n ≤ 0
  · rw [tb_zero h, blen_zero h]; rfl
  · have ih := tb_len (n := n / 2)
    rw [tb_pos (by omega), List.length_cons]
    by_cases h1 : n = 1
    · subst h1; rw [tb_zero (by decide)]; rfl
    · rw [blen_step (x := n) 1 (by omega)]
      have e : (2 : Int) ^ 1 = 2 := rfl
      rw [e, ← ih]; push_cast; omega
termination_by n.toNat
decreasing_by omega
def rightC (b : List Bool) : Prop := b = [] ∨ ix b ((b.length : Int) - 1) = true
theorem ixb_last (a : List Bool) (x : Bool) : ix (a ++ [x]) (((a ++ [x]).length : Int) - 1) = x := by
  unfold ix; rw [show ((((a ++ [x]).length : Nat) : Int) - 1).toNat = a.length by simp]; simp
theorem tb_bv : ∀ {b : List Bool}, rightC b → tb (bv b) = b
  | [], _ => tb_zero (Int.le_refl _)
  | [x], h => by
    rcases h with h | h
    · cases h
    · have : x = true := (ixb_last [] x).symm.trans h
      subst this
      rw [show bv [true] = 1 from rfl, tb_pos (by decide), tb_zero (by decide)]; rfl
  | x :: y :: r, h => by
    have hr : rightC (y :: r) := by
      rcases h with h | h
      · cases h
      · refine .inr ?_
        obtain ⟨i, z, e⟩ : ∃ i z, y :: r = i ++ [z] := ⟨(y :: r).dropLast, (y :: r).getLast (by simp), (List.dropLast_concat_getLast _).symm⟩
        rw [e, show x :: (i ++ [z]) = (x :: i) ++ [z] by rfl, ixb_last] at h
        rw [e, ixb_last]; exact h
    have ih := tb_bv hr
    have hb := bv_bd (y :: r)
    have hx := bn_bd x
    have h0 : bv (y :: r) ≠ 0 := fun e => by rw [e, tb_zero (Int.le_refl _)] at ih; cases ih
    rw [show bv (x :: y :: r) = bn x + 2 * bv (y :: r) from rfl, tb_pos (by omega), show (bn x + 2 * bv (y :: r)) / 2 = bv (y :: r) by omega, ih]
    congr 1
    cases x <;> simp [bn] <;> omega
theorem bv_cut {a : List Bool} (h1 : 0 < (a.length : Int)) (h : ¬ ix a ((a.length : Int) - 1) = true) : bv (a.take (a.length - 1)) = bv a := by
  obtain ⟨i, z, rfl⟩ : ∃ i z, a = i ++ [z] := ⟨a.dropLast, a.getLast (by intro e; subst e; simp at h1), (List.dropLast_concat_getLast _).symm⟩
  rw [ixb_last] at h
  have : z = false := by simpa using h
  subst this
  rw [bv_snoc, show (i ++ [false]).take ((i ++ [false]).length - 1) = i by simp]
  simp [bn]
/-- Bits of a number, one by one. -/
theorem tb_ix {n : Int} (h0 : 0 ≤ n) {i : Int} (hi : 0 ≤ i) : ix (tb n) i = decide (n / 2 ^ i.toNat % 2 = 1) := by
  by_cases h : n ≤ 0
  · rw [tb_zero h, show n = 0 by omega]; simp [ix]
  · rw [tb_pos (by omega)]
    by_cases h1 : i = 0
    · subst h1; simp [ix]
    · have ih := tb_ix (n := n / 2) (by omega) (i := i - 1) (by omega)
      have e : ix (decide (n % 2 = 1) :: tb (n / 2)) i = ix (tb (n / 2)) (i - 1) := by
        unfold ix; rw [show i.toNat = (i - 1).toNat + 1 by omega]; simp
      rw [e, ih, Int.ediv_ediv_of_nonneg (by decide), show i.toNat = (i - 1).toNat + 1 by omega, Int.pow_succ, Int.mul_comm]
termination_by n.toNat
decreasing_by omega
/-- What 'at' answers. -/
def atB (b : List Bool) (i : Int) : Bool := decide (0 ≤ i) && (decide (i < b.length) && ix b i)
theorem ixb_over {b : List Bool} {i : Int} (h : (b.length : Int) ≤ i) : ix b i = false := by
  unfold ix
  have e : b.getD i.toNat default = default := by simp [show b.length ≤ i.toNat by omega]
  rw [e]; rfl
theorem atB_tb {n i : Int} (h0 : 0 ≤ n) : atB (tb n) i = bitB n i := by
  unfold atB bitB
  by_cases hi : 0 ≤ i
  · rw [decide_eq_true hi, Bool.true_and, Bool.true_and, ← tb_ix h0 hi]
    by_cases hl : i < (tb n).length
    · rw [decide_eq_true hl, Bool.true_and]
    · rw [ixb_over (by omega)]; simp
  · simp [hi]
/-- The number below a place. -/
theorem mod_step {n i : Int} (h0 : 0 ≤ n) (hi : 0 ≤ i) : n % 2 ^ (i + 1).toNat = n % 2 ^ i.toNat + 2 ^ i.toNat * bn (bitB n i) := by
  have hp := two_pos i.toNat
  unfold bitB
  rw [decide_eq_true hi, Bool.true_and, bn_odd, show (i + 1).toNat = i.toNat + 1 by omega, Int.pow_succ]
  generalize (2 : Int) ^ i.toNat = p at hp
  have e := Int.mul_ediv_add_emod n p
  have r0 := Int.emod_nonneg n (show p ≠ 0 by omega)
  have r1 := Int.emod_lt_of_pos n hp
  have q := Int.mul_ediv_add_emod (n / p) 2
  have e1 : n = (n % p + p * (n / p % 2)) + p * 2 * (n / p / 2) := by
    have : p * (2 * (n / p / 2) + n / p % 2) = p * (n / p) := by rw [q]
    grind
  have hb : n / p % 2 = 0 ∨ n / p % 2 = 1 := by omega
  conv => lhs; rw [e1]
  rw [Int.add_mul_emod_self_left]
  rcases hb with hb | hb
  · rw [hb, Int.mul_zero, Int.add_zero, Int.emod_eq_of_lt r0 (by omega)]
  · rw [hb, Int.mul_one, Int.emod_eq_of_lt (by omega) (by omega)]
theorem mod_all {n i : Int} (h0 : 0 ≤ n) (hi : blen n ≤ i) : n % 2 ^ i.toNat = n := by
  refine Int.emod_eq_of_lt h0 ?_
  have h := bv_bd (tb n)
  rw [bv_tb h0] at h
  have h2 := tb_len (n := n)
  have : (2 : Int) ^ (tb n).length ≤ 2 ^ i.toNat := by
    rw [show i.toNat = (tb n).length + (i.toNat - (tb n).length) by omega, Int.pow_add]
    have := Int.mul_le_mul_of_nonneg_left (show 1 ≤ (2 : Int) ^ (i.toNat - (tb n).length) from two_pos _) (Int.le_of_lt (two_pos (tb n).length))
    omega
  omega
theorem u32_rep1 {w : World} {F : Nat → Prop} {xs : List Int} (hL : Lim xs) : ∀ (i : Nat) (u : Value) (x : Int), (xs.map fun x => Value.int .u32 x)[i]? = some u → xs[i]? = some x → Kd.u32.rep w F [u] x := by
  intro i u x hu hx
  rw [List.getElem?_map, hx] at hu
  simp at hu
  exact ⟨by rw [← hu], hL x (List.mem_of_getElem? hx)⟩
theorem lit_u32s {w : World} {F : Nat → Prop} {g t m : Nat} (xs : List Int) (h : Blk w g t (xs.map fun x => Value.int .u32 x).toArray) (hF : ¬ F g) (hm : m = xs.length) (h63 : m ≤ 9223372036854775807) (hL : Lim xs := by decide) : Sl Kd.u32 w F (.slice (some ⟨g, 0, none⟩) m m) xs :=
  sl_of_range rfl h.range (by simp) hm hF h.lt h63 (u32_rep1 hL)
theorem lit_u32 {w w0 : World} {t g : Nat} {F : Nat → Prop} {v : Value} {xs : List Int} {e base : Nat} {x : Int} (h : Blk w g t [Value.int .u32 x].toArray) (ho : Gw.Own Kd.u32 e base w0 F v xs) (hF : ¬ F g) (hg : w0.heap.size = g) (hx : 0 ≤ x ∧ x < 4294967296) :
    Sl Kd.u32 w (Out F v) (.slice (some ⟨g, 0, none⟩) 1 1) [x] :=
  sl_of_range rfl h.range rfl rfl (fun h => h.elim hF (fun h => by have := (ho.lt g h).2; omega)) h.lt (by decide) (u32_rep1 (xs := [x]) (fun y hy => by rw [List.mem_singleton.1 hy]; exact hx))
theorem lit_bool {w w0 : World} {t g : Nat} {F : Nat → Prop} {v : Value} {xs : List Bool} {e base : Nat} {x : Bool} (h : Blk w g t [Value.bool x].toArray) (ho : Gw.Own Kd.bool e base w0 F v xs) (hF : ¬ F g) (hg : w0.heap.size = g) :
    Sl Kd.bool w (Out F v) (.slice (some ⟨g, 0, none⟩) 1 1) [x] :=
  sl_of_range rfl h.range rfl rfl (fun h => h.elim hF (fun h => by have := (ho.lt g h).2; omega)) h.lt (by decide) (fun i u y hu hx => by
    cases i with
    | zero => simp at hu hx; subst hu; subst hx; exact ⟨rfl, trivial⟩
    | succ i => simp at hu)
instance {xs : List Int} : Decidable (Lim xs) := by unfold Lim; exact inferInstance
end Go.Gw
