/- Part of the proof that is named in YtencmmhfiepojaaLRowBack: a library for walks, or a function's walk. -/
import Derived.Test.YtencmmhfiepojaaLimbSpec3
set_option linter.unusedSimpArgs false
set_option linter.unusedVariables false
/-! ### Quotients, lengths, single bits -/
namespace Go.Gw
open Go.RowKit
theorem div32_q {h l y : Int} (hh : 0 ≤ h) (hl : 0 ≤ l ∧ l < 4294967296) (hy : h < y) : 0 ≤ (h * 4294967296 + l) / y ∧ (h * 4294967296 + l) / y < 4294967296 :=
  ⟨Int.ediv_nonneg (by omega) (by omega), Int.ediv_lt_of_lt_mul (by omega) (by omega)⟩
theorem div32_r {h l y : Int} (hh : 0 ≤ h) (hl : 0 ≤ l ∧ l < 4294967296) (hy : h < y) : 0 ≤ (h * 4294967296 + l) % y ∧ (h * 4294967296 + l) % y < y :=
  ⟨Int.emod_nonneg _ (by omega), Int.emod_lt_of_pos _ (by omega)⟩
def DivSt (xs : List Int) (m : Int) (pre : List (LX xs)) (os : List Int) (l : Int) : Prop :=
  ∀ k, pre.map (·.1) = bkt xs k → k ≤ xs.length → l = nv (xs.drop (xs.length - k)) % m ∧ nv (os.drop (xs.length - k)) = nv (xs.drop (xs.length - k)) / m
theorem divSt_nil {xs os : List Int} {m : Int} (hl : os.length = xs.length) : DivSt xs m [] os 0 := by
  intro k h _
  have := congrArg List.length h
  rw [bkt_len] at this
  obtain rfl : k = 0 := by simpa using this.symm
  rw [Nat.sub_zero, List.drop_length, List.drop_of_length_le (by omega)]
  simp [nv]
theorem divmod_step {x N m : Int} (hm : 0 < m) : (x + 4294967296 * N) % m = (N % m * 4294967296 + x) % m ∧ (x + 4294967296 * N) / m = (N % m * 4294967296 + x) / m + 4294967296 * (N / m) := by
  have e := Int.mul_ediv_add_emod N m
  have e1 : x + 4294967296 * N = (N % m * 4294967296 + x) + m * (4294967296 * (N / m)) := by grind
  constructor
  · rw [e1, Int.add_mul_emod_self_left]
  · rw [e1, Int.add_mul_ediv_left _ _ (by omega)]
theorem drop_set_self {os : List Int} {j : Int} (q : Int) (h0 : 0 ≤ j) (h1 : j < os.length) : (os.set j.toNat q).drop j.toNat = q :: os.drop (j + 1).toNat := by
  rw [List.drop_eq_getElem_cons (by rw [List.length_set]; omega), show (j + 1).toNat = j.toNat + 1 by omega, List.drop_set_of_lt (by omega)]
  simp
theorem div_step {xs os : List Int} {m l : Int} {pre : List (LX xs)} {x : LX xs} (h : DivSt xs m pre os l) (hl : os.length = xs.length) (hm : 0 < m) :
    DivSt xs m (pre ++ [x]) (os.set x.1.1.toNat ((l * 4294967296 + x.1.2) / m)) ((l * 4294967296 + x.1.2) % m) := by
  intro k hk hkl
  obtain ⟨hj, _⟩ := bkt_last hk
  have hlen := congrArg List.length hk
  rw [List.length_map, bkt_len, List.length_append, List.length_singleton] at hlen
  obtain rfl : k = pre.length + 1 := hlen.symm
  rw [bkt_succ, List.map_append] at hk
  obtain ⟨hk1, _⟩ := List.append_inj' hk rfl
  obtain ⟨g1, g2⟩ := h _ hk1 (by omega)
  obtain ⟨x0, x1, x2⟩ := x.2
  have e1 : xs.length - (pre.length + 1) = x.1.1.toNat := by omega
  have e2 : xs.length - pre.length = (x.1.1 + 1).toNat := by omega
  rw [e1, drop_set_self _ x0 (by omega), nv_drop_step x0 x1, ← x2]
  rw [e2] at g1 g2
  obtain ⟨s1, s2⟩ := divmod_step (x := x.1.2) (N := nv (xs.drop (x.1.1 + 1).toNat)) hm
  rw [s1, s2, ← g1]
  refine ⟨rfl, ?_⟩
  show _ + 4294967296 * nv _ = _
  rw [g2]
theorem div_end {xs os : List Int} {m l : Int} {pre : List (LX xs)} (h : DivSt xs m pre os l) (hp : pre.map (·.1) = bkt xs xs.length) : l = nv xs % m ∧ nv os = nv xs / m := by
  have := h _ hp (Nat.le_refl _)
  simpa using this
/-! #### how many bits -/
def blen (n : Int) : Int := if n ≤ 0 then 0 else (n.toNat.log2 : Int) + 1
theorem blen_zero {n : Int} (h : n ≤ 0) : blen n = 0 := by unfold blen; rw [if_pos h]
theorem blen_pos {n : Int} (h : 0 < n) : blen n = (n.toNat.log2 : Int) + 1 := by unfold blen; rw [if_neg (by omega)]
theorem blen_bd {n : Int} {k : Nat} (h : 2 ^ k ≤ n) (h2 : n < 2 ^ (k + 1)) : blen n = k + 1 := by
  have h0 : (0 : Int) < 2 ^ k := two_pos k
  rw [blen_pos (by omega)]
  have h3 : n.toNat.log2 = k := by
    rw [Nat.log2_eq_iff (by omega)]
    have e1 : ((2 ^ k : Nat) : Int) = (2 : Int) ^ k := by simp
    have e2 : ((2 ^ (k + 1) : Nat) : Int) = (2 : Int) ^ (k + 1) := by simp
    omega
  rw [h3]
theorem blen_spec {n : Int} (h : 0 < n) : ∃ k : Nat, blen n = k + 1 ∧ 2 ^ k ≤ n ∧ n < 2 ^ (k + 1) := by
  refine ⟨n.toNat.log2, blen_pos h, ?_, ?_⟩
  · have := Nat.log2_self_le (n := n.toNat) (by omega)
    have e1 : ((2 ^ n.toNat.log2 : Nat) : Int) = (2 : Int) ^ n.toNat.log2 := by simp
    omega
  · have := Nat.lt_log2_self (n := n.toNat)
    have e1 : ((2 ^ (n.toNat.log2 + 1) : Nat) : Int) = (2 : Int) ^ (n.toNat.log2 + 1) := by simp
    omega
/-- What lies above a power of two, and something below it. -/
theorem blen_add {N l : Int} {j : Nat} (hN : 0 < N) (hl : 0 ≤ l ∧ l < 2 ^ j) : blen (l + 2 ^ j * N) = j + blen N := by
  obtain ⟨k, e, h1, h2⟩ := blen_spec hN
  have hp := two_pos j
  have e1 : (2 : Int) ^ (j + k) = 2 ^ j * 2 ^ k := Int.pow_add ..
  have e2 : (2 : Int) ^ (j + k + 1) = 2 ^ j * 2 ^ (k + 1) := by rw [← Int.pow_add]; rfl
  have m1 := Int.mul_le_mul_of_nonneg_left h1 (Int.le_of_lt hp)
  have m2 := Int.mul_le_mul_of_nonneg_left (show N + 1 ≤ 2 ^ (k + 1) by omega) (Int.le_of_lt hp)
  rw [blen_bd (k := j + k) (by rw [e1]; omega) (by rw [e2]; grind), e]
  push_cast; omega
theorem blen_last {a : List Int} (h : Lim a) (hr : rightB a = true) (hne : ¬ (a.length : Int) = 0) : ((a.length : Int) - 1) * 32 + blen (ix a ((a.length : Int) - 1)) = blen (nv a) := by
  obtain ⟨i, z, rfl⟩ : ∃ i z, a = i ++ [z] := ⟨a.dropLast, a.getLast (fun e => hne (by rw [e]; rfl)), (List.dropLast_concat_getLast _).symm⟩
  rw [rightB_snoc] at hr
  have hz := h z (by simp)
  have h0 : z ≠ 0 := by simpa using hr
  have hi : Lim i := fun x hx => h x (by simp [hx])
  have h1 := nv_nonneg hi
  have h2 := nv_lt hi
  rw [ix_last, nv_snoc, PW_two]
  rw [PW_two] at h2
  rw [blen_add (by omega) ⟨h1, h2⟩]
  simp; omega
theorem blen_step {x : Int} (k : Nat) (h : 2 ^ k ≤ x) : blen x = k + blen (x / 2 ^ k) := by
  have hp := two_pos k
  have e := Int.mul_ediv_add_emod x (2 ^ k)
  have e0 := Int.emod_nonneg x (show (2 : Int) ^ k ≠ 0 by omega)
  have e1 := Int.emod_lt_of_pos x hp
  have hq : 0 < x / 2 ^ k := Int.lt_of_lt_of_le (by decide) (show 1 ≤ x / 2 ^ k from (Int.le_ediv_iff_mul_le hp).2 (by omega))
  conv => lhs; rw [show x = x % 2 ^ k + 2 ^ k * (x / 2 ^ k) by omega]
  exact blen_add hq ⟨e0, e1⟩
/-- Bit number i. -/
def bitB (n i : Int) : Bool := decide (0 ≤ i) && decide (n / 2 ^ i.toNat % 2 = 1)
theorem two_part' {s : Int} (h0 : 0 ≤ s) (h1 : s ≤ 32) : ∃ r : Int, 0 < r ∧ 2 ^ s.toNat * r = 4294967296 := by
  refine ⟨2 ^ (32 - s).toNat, two_pos _, ?_⟩
  rw [← Int.pow_add, show s.toNat + (32 - s).toNat = 32 by omega]; rfl
theorem bit_limb {a : List Int} (h : Lim a) {i : Int} (h0 : 0 ≤ i) (h1 : i / 32 < a.length) : (nv a / 2 ^ i.toNat) % 2 = (ix a (i / 32) / 2 ^ (i % 32).toNat) % 2 := by
  rw [← nv_shr h h0 h1, nv_drop_step (i := i / 32) (by omega) h1]
  obtain ⟨r, hr0, hr⟩ := two_part' (s := i % 32 + 1) (by omega) (by omega)
  rw [show (i % 32 + 1).toNat = (i % 32).toNat + 1 by omega, Int.pow_succ] at hr
  have e : ix a (i / 32) + 4294967296 * nv (a.drop (i / 32 + 1).toNat) = ix a (i / 32) + 2 ^ (i % 32).toNat * (2 * (r * nv (a.drop (i / 32 + 1).toNat))) := by rw [← hr]; grind
  have hp := two_pos (i % 32).toNat
  rw [e, Int.add_mul_ediv_left _ _ (by omega), Int.add_mul_emod_self_left]
theorem bit_over {a : List Int} (h : Lim a) {i : Int} (h0 : 0 ≤ i) (h1 : (a.length : Int) ≤ i / 32) : nv a / 2 ^ i.toNat = 0 := by
  have h2 := nv_nonneg h
  have h3 := nv_lt h
  have h4 := PW_le (show a.length ≤ (i / 32).toNat by omega)
  have h5 := two_pos (i % 32).toNat
  have h6 : PW (i / 32).toNat * 1 ≤ PW (i / 32).toNat * 2 ^ (i % 32).toNat := Int.mul_le_mul_of_nonneg_left (by omega) (Int.le_of_lt (PW_pos _))
  rw [two_split h0, Int.ediv_eq_zero_of_lt h2 (by omega)]
theorem iand_one {a : Int} (h : 0 ≤ a) : iand a 1 = a % 2 := by
  obtain ⟨A, rfl⟩ := Int.eq_ofNat_of_zero_le h
  have : iand (A : Int) 1 = ((A &&& 1 : Nat) : Int) := rfl
  rw [this, Nat.and_one_is_mod]; omega
end Go.Gw
