/- Part of the proof that is named in YtencmmhfiepojaaLRowBack: a library for walks, or a function's walk. -/
import Derived.Test.YtencmmhfiepojaaGw24
set_option linter.unusedSimpArgs false
set_option linter.unusedVariables false
/-! ### Numbers of any size, as limbs and as bits: the plain law -/
namespace Go.Gw
open Go.RowKit
def nv : List Int → Int
  | [] => 0
  | x :: r => x + 4294967296 * nv r
theorem Lim.tail {x : Int} {r : List Int} (h : Lim (x :: r)) : Lim r := fun y hy => h y (List.mem_cons_of_mem _ hy)
theorem Lim.head {x : Int} {r : List Int} (h : Lim (x :: r)) : 0 ≤ x ∧ x < 4294967296 := h x (List.mem_cons_self ..)
theorem Lim.cons {x : Int} {r : List Int} (h : 0 ≤ x ∧ x < 4294967296) (k : Lim r) : Lim (x :: r) := fun y hy => by
  rcases List.mem_cons.1 hy with rfl | hy
  · exact h
  · exact k y hy
theorem Lim.nil : Lim [] := fun x h => by cases h
theorem Lim.take {xs : List Int} (h : Lim xs) (k : Nat) : Lim (xs.take k) := fun x hx => h x (List.mem_of_mem_take hx)
theorem Lim.drop {xs : List Int} (h : Lim xs) (k : Nat) : Lim (xs.drop k) := fun x hx => h x (List.mem_of_mem_drop hx)
theorem Lim.append {xs ys : List Int} (h : Lim xs) (k : Lim ys) : Lim (xs ++ ys) := fun x hx => (List.mem_append.1 hx).elim (h x) (k x)
theorem nv_nonneg : ∀ {xs : List Int}, Lim xs → 0 ≤ nv xs
  | [], _ => Int.le_refl _
  | x :: r, h => by have := nv_nonneg h.tail; have := h.head; unfold nv; omega
def PW (k : Nat) : Int := 4294967296 ^ k
theorem PW_zero : PW 0 = 1 := rfl
theorem PW_succ (k : Nat) : PW (k + 1) = 4294967296 * PW k := by unfold PW; rw [Int.pow_succ]; grind
theorem PW_pos (k : Nat) : 0 < PW k := by induction k with
  | zero => decide
  | succ k ih => rw [PW_succ]; omega
theorem nv_append : ∀ (a b : List Int), nv (a ++ b) = nv a + PW a.length * nv b
  | [], b => by simp [nv, PW_zero]
  | x :: r, b => by
    have := nv_append r b
    simp only [List.cons_append, nv, List.length_cons, PW_succ]
    grind
theorem nv_lt : ∀ {xs : List Int}, Lim xs → nv xs < PW xs.length
  | [], _ => by decide
  | x :: r, h => by have := nv_lt h.tail; have := h.head; simp only [List.length_cons, PW_succ]; unfold nv; omega
theorem nv_snoc (a : List Int) (x : Int) : nv (a ++ [x]) = nv a + PW a.length * x := by rw [nv_append]; simp [nv]
/-- The digits of a number. -/
def tl (n : Int) : List Int := if h : n ≤ 0 then [] else n % 4294967296 :: tl (n / 4294967296)
termination_by n.toNat
decreasing_by omega
theorem tl_zero {n : Int} (h : n ≤ 0) : tl n = [] := by unfold tl; rw [dif_pos h]
theorem tl_pos {n : Int} (h : 0 < n) : tl n = n % 4294967296 :: tl (n / 4294967296) := by rw [tl, dif_neg (by omega)]
def rightB (a : List Int) : Bool := decide (a = []) || decide (ix a ((a.length : Int) - 1) ≠ 0)
theorem ix_last (a : List Int) (x : Int) : ix (a ++ [x]) (((a ++ [x]).length : Int) - 1) = x := by
  unfold ix; rw [show ((((a ++ [x]).length : Nat) : Int) - 1).toNat = a.length by simp]; simp
theorem rightB_snoc (a : List Int) (x : Int) : rightB (a ++ [x]) = decide (x ≠ 0) := by
  unfold rightB; rw [ix_last]; simp
theorem rightB_cons {x y : Int} {r : List Int} : rightB (x :: y :: r) = rightB (y :: r) := by
  obtain ⟨i, z, h⟩ : ∃ i z, y :: r = i ++ [z] := ⟨(y :: r).dropLast, (y :: r).getLast (by simp), (List.dropLast_concat_getLast _).symm⟩
  rw [h, show x :: (i ++ [z]) = (x :: i) ++ [z] by rfl, rightB_snoc, rightB_snoc]
theorem nv_pos {a : List Int} (h : Lim a) (hr : rightB a = true) (hne : a ≠ []) : 0 < nv a := by
  obtain ⟨i, z, rfl⟩ : ∃ i z, a = i ++ [z] := ⟨a.dropLast, a.getLast hne, (List.dropLast_concat_getLast _).symm⟩
  rw [rightB_snoc] at hr
  have hz := h z (by simp)
  have h0 : z ≠ 0 := by simpa using hr
  have h1 := nv_nonneg (fun x hx => h x (by simp [hx]) : Lim i)
  rw [nv_snoc]
  have := Int.mul_pos (PW_pos i.length) (show 0 < z by omega)
  omega
theorem tl_nv : ∀ {a : List Int}, Lim a → rightB a = true → tl (nv a) = a
  | [], _, _ => tl_zero (Int.le_refl _)
  | [x], h, hr => by
    have hx := h.head
    have h0 : x ≠ 0 := by simpa using (rightB_snoc [] x).symm.trans hr
    rw [tl_pos (by simp only [nv]; omega)]
    simp only [nv]
    rw [show (x + 4294967296 * 0) % 4294967296 = x by omega, show (x + 4294967296 * 0) / 4294967296 = 0 by omega, tl_zero (Int.le_refl _)]
  | x :: y :: r, h, hr => by
    have hx := h.head
    rw [rightB_cons] at hr
    have ih := tl_nv h.tail hr
    have hp := nv_pos h.tail hr (by simp)
    rw [show nv (x :: y :: r) = x + 4294967296 * nv (y :: r) from rfl, tl_pos (by omega), show (x + 4294967296 * nv (y :: r)) % 4294967296 = x by omega, show (x + 4294967296 * nv (y :: r)) / 4294967296 = nv (y :: r) by omega, ih]
theorem lim_tl (n : Int) : Lim (tl n) := by
  unfold tl
  split
  · exact Lim.nil
  · rename_i h
    exact Lim.cons (by omega) (lim_tl _)
termination_by n.toNat
decreasing_by omega
theorem nv_tl {n : Int} (h : 0 ≤ n) : nv (tl n) = n := by
  unfold tl
  split
  · simp only [nv]; omega
  · have := nv_tl (n := n / 4294967296) (by omega)
    simp only [nv]; rw [this]; omega
termination_by n.toNat
decreasing_by omega
theorem right_tl (n : Int) : rightB (tl n) = true := by
  by_cases h : n ≤ 0
  · rw [tl_zero h]; rfl
  · rw [tl_pos (by omega)]
    by_cases h2 : n / 4294967296 ≤ 0
    · rw [tl_zero h2, show [n % 4294967296] = [] ++ [n % 4294967296] from rfl, rightB_snoc]; simp; omega
    · have ih := right_tl (n / 4294967296)
      rw [tl_pos (by omega)] at ih ⊢
      rw [rightB_cons]; exact ih
termination_by n.toNat
decreasing_by omega
theorem tl_inj {m n : Int} (hm : 0 ≤ m) (hn : 0 ≤ n) (h : tl m = tl n) : m = n := by rw [← nv_tl hm, ← nv_tl hn, h]
theorem tl_is {n : Int} (a : List Int) (h : Lim a) (hr : rightB a = true) (e : nv a = n) : tl n = a := by rw [← e, tl_nv h hr]
/-- One nought less. -/
theorem nv_cut {a : List Int} (hne : ¬ rightB a = true) : 1 ≤ a.length ∧ nv (a.take (a.length - 1)) = nv a := by
  by_cases h : a = []
  · subst h; exact absurd rfl hne
  · obtain ⟨i, z, rfl⟩ : ∃ i z, a = i ++ [z] := ⟨a.dropLast, a.getLast h, (List.dropLast_concat_getLast _).symm⟩
    rw [rightB_snoc] at hne
    have : z = 0 := by simpa using hne
    subst this
    refine ⟨by simp, ?_⟩
    rw [nv_snoc, show (i ++ [(0 : Int)]).take ((i ++ [(0 : Int)]).length - 1) = i by simp]
    simp
theorem ix_take {a : List Int} {k : Nat} {i : Int} (h : i.toNat < k) : ix (a.take k) i = ix a i := by
  unfold ix; simp [List.getD_eq_getElem?_getD, List.getElem?_take, h]
theorem take_snoc {a : List Int} {i : Int} (h0 : 0 ≤ i) (h1 : i < a.length) : a.take (i + 1).toNat = a.take i.toNat ++ [ix a i] := by
  rw [show (i + 1).toNat = i.toNat + 1 by omega, List.take_add_one]
  unfold ix
  simp [show i.toNat < a.length by omega]
theorem nv_take_succ {a : List Int} {i : Int} (h0 : 0 ≤ i) (h1 : i < a.length) : nv (a.take (i + 1).toNat) = nv (a.take i.toNat) + PW i.toNat * ix a i := by
  rw [take_snoc h0 h1, nv_snoc, show (a.take i.toNat).length = i.toNat by simp; omega]
theorem nv_split (a : List Int) (k : Nat) (hk : k ≤ a.length) : nv a = nv (a.take k) + PW k * nv (a.drop k) := by
  have h := nv_append (a.take k) (a.drop k)
  rwa [List.take_append_drop, show (a.take k).length = k by simp; omega] at h
theorem right_nil {a : List Int} (h : (a.length : Int) = 0) : rightB a = true := by
  rw [show a = [] from List.eq_nil_of_length_eq_zero (by omega)]; rfl
theorem right_ne {a : List Int} (h : ¬ (a.length : Int) = 0) : rightB a = decide (ix a ((a.length : Int) - 1) ≠ 0) := by
  have : a ≠ [] := fun e => h (by rw [e]; rfl)
  unfold rightB; simp [this]
/-! #### the order -/
def cmpI (x y : Int) : Int := if x < y then -1 else if y < x then 1 else 0
theorem PW_le {a b : Nat} (h : a ≤ b) : PW a ≤ PW b := by
  induction h with
  | refl => exact Int.le_refl _
  | step _ ih => have := PW_pos a; rw [PW_succ]; omega
theorem nv_ge {a : List Int} (h : Lim a) (hr : rightB a = true) (hne : a ≠ []) : PW (a.length - 1) ≤ nv a := by
  obtain ⟨i, z, rfl⟩ : ∃ i z, a = i ++ [z] := ⟨a.dropLast, a.getLast hne, (List.dropLast_concat_getLast _).symm⟩
  rw [rightB_snoc] at hr
  have hz := h z (by simp)
  have h0 : z ≠ 0 := by simpa using hr
  have h1 := nv_nonneg (fun x hx => h x (by simp [hx]) : Lim i)
  rw [nv_snoc, show (i ++ [z]).length - 1 = i.length by simp]
  have := Int.mul_le_mul_of_nonneg_left (show 1 ≤ z by omega) (Int.le_of_lt (PW_pos i.length))
  omega
theorem len_lt {a b : List Int} (ha : Lim a) (hb : Lim b) (hr : rightB b = true) (h : a.length < b.length) : nv a < nv b := by
  have h1 := nv_lt ha
  have h2 := nv_ge hb hr (by intro e; subst e; simp at h)
  have h3 := PW_le (show a.length ≤ b.length - 1 by omega)
  omega
theorem ix_cons {x : Int} {r : List Int} {i : Int} (h : 0 ≤ i) : ix (x :: r) (i + 1) = ix r i := by
  unfold ix; rw [show (i + 1).toNat = i.toNat + 1 by omega]; simp
theorem ix_zero (x : Int) (r : List Int) : ix (x :: r) 0 = x := rfl
theorem cmp_at : ∀ {a b : List Int}, Lim a → Lim b → a.length = b.length → ∀ (i : Int), 0 ≤ i → i < a.length → (∀ j : Int, i < j → j < a.length → ix a j = ix b j) → ix a i < ix b i → nv a < nv b
  | [], _, _, _, _, i, h0, h1, _, _ => by simp at h1; omega
  | _ :: _, [], _, _, hl, _, _, _, _, _ => by simp at hl
  | x :: r, y :: s, ha, hb, hl, i, h0, h1, hd, hlt => by
    have hx := ha.head
    have hy := hb.head
    have hl' : r.length = s.length := by simpa using hl
    by_cases hi : i = 0
    · subst hi
      have e : r = s := by
        apply List.ext_getElem hl'
        intro k hk1 hk2
        have := hd ((k : Int) + 1) (by omega) (by simp; omega)
        rw [ix_cons (by omega), ix_cons (by omega)] at this
        unfold ix at this
        simpa [hk1, hk2] using this
      subst e
      rw [ix_zero, ix_zero] at hlt
      simp only [nv]; omega
    · have ih := cmp_at ha.tail hb.tail hl' (i - 1) (by omega) (by simp at h1; omega) (fun j j0 j1 => by
        have := hd (j + 1) (by omega) (by simp; omega)
        rwa [ix_cons (by omega), ix_cons (by omega)] at this) (by
        rw [show i = (i - 1) + 1 by omega, ix_cons (by omega), ix_cons (by omega)] at hlt; exact hlt)
      simp only [nv]; omega
theorem same_all {a b : List Int} (hl : a.length = b.length) (h : ∀ j : Int, 0 ≤ j → j < a.length → ix a j = ix b j) : a = b := by
  apply List.ext_getElem hl
  intro k hk1 hk2
  have := h k (by omega) (by omega)
  unfold ix at this
  simpa [hk1, hk2] using this
theorem bkt_mem {xs : List Int} {k : Nat} {j : Int} (h1 : (xs.length : Int) - 1 - j < k) (h2 : j < xs.length) : (j, ix xs j) ∈ bkt xs k := by
  unfold bkt
  rw [List.mem_map]
  exact ⟨((xs.length : Int) - 1 - j).toNat, by rw [List.mem_range]; omega, by rw [show (xs.length : Int) - 1 - ((((xs.length : Int) - 1 - j).toNat : Nat) : Int) = j by omega]⟩
/-- The rounds that a walk backwards has gone, and the last of them. -/
theorem bkt_last {xs : List Int} {k : Nat} {pre : List (LX xs)} {x : LX xs} (h : (pre ++ [x]).map (·.1) = bkt xs k) : x.1.1 = (xs.length : Int) - k ∧ ∀ j : Int, x.1.1 < j → j < xs.length → ∃ p ∈ pre, p.1 = (j, ix xs j) := by
  have hl := congrArg List.length h
  rw [List.length_map, bkt_len, List.length_append, List.length_singleton] at hl
  obtain rfl : k = pre.length + 1 := hl.symm
  rw [bkt_succ, List.map_append] at h
  obtain ⟨h1, h2⟩ := List.append_inj' h rfl
  simp only [List.map_cons, List.map_nil, List.cons.injEq, and_true] at h2
  refine ⟨by rw [h2]; show (xs.length : Int) - 1 - _ = _; push_cast; omega, fun j j0 j1 => ?_⟩
  rw [h2] at j0
  have hm := bkt_mem (xs := xs) (k := pre.length) (j := j) (by simp only at j0; omega) j1
  rw [← h1, List.mem_map] at hm
  exact hm
theorem cmp_len {m n : Int} (hm : 0 ≤ m) (hn : 0 ≤ n) (h : (tl m).length < (tl n).length) : m < n := by
  have := len_lt (lim_tl m) (lim_tl n) (right_tl n) h
  rwa [nv_tl hm, nv_tl hn] at this
theorem cmpI_lt {x y : Int} (h : x < y) : cmpI x y = -1 := by simp [cmpI, h]
theorem cmpI_gt {x y : Int} (h : y < x) : cmpI x y = 1 := by simp [cmpI, h, show ¬ x < y by omega]
theorem cmpI_eq {x y : Int} (h : x = y) : cmpI x y = 0 := by simp [cmpI, h]
theorem cmp_full {m n : Int} (hm : 0 ≤ m) (hn : 0 ≤ n) (hl : (tl m).length = (tl n).length) {pre : List (LX (tl m))} (h : pre.map (·.1) = bkt (tl m) (tl m).length) (he : ∀ p ∈ pre, p.1.2 = ix (tl n) p.1.1) : cmpI m n = 0 := by
  refine cmpI_eq (tl_inj hm hn (same_all hl fun j j0 j1 => ?_))
  have hm := bkt_mem (xs := tl m) (k := (tl m).length) (j := j) (by omega) j1
  rw [← h, List.mem_map] at hm
  obtain ⟨p, hp, e⟩ := hm
  have := he p hp
  rw [e] at this
  exact this
theorem cmp_stop {m n : Int} (hm : 0 ≤ m) (hn : 0 ≤ n) (hl : (tl m).length = (tl n).length) {k : Nat} {pre : List (LX (tl m))} {x : LX (tl m)} (h : (pre ++ [x]).map (·.1) = bkt (tl m) k) (he : ∀ p ∈ pre, p.1.2 = ix (tl n) p.1.1) :
    (x.1.2 < ix (tl n) x.1.1 → cmpI m n = -1) ∧ (ix (tl n) x.1.1 < x.1.2 → cmpI m n = 1) := by
  obtain ⟨_, h2⟩ := bkt_last h
  have heq : ∀ j : Int, x.1.1 < j → j < (tl m).length → ix (tl m) j = ix (tl n) j := fun j j0 j1 => by
    obtain ⟨p, hp, e⟩ := h2 j j0 j1
    have := he p hp
    rw [e] at this
    exact this
  obtain ⟨x0, x1, x2⟩ := x.2
  constructor
  · intro hlt
    rw [x2] at hlt
    have := cmp_at (lim_tl m) (lim_tl n) hl _ x0 x1 heq hlt
    rw [nv_tl hm, nv_tl hn] at this
    exact cmpI_lt this
  · intro hlt
    rw [x2] at hlt
    have := cmp_at (lim_tl n) (lim_tl m) hl.symm _ x0 (by omega) (fun j j0 j1 => (heq j j0 (by omega)).symm) hlt
    rw [nv_tl hm, nv_tl hn] at this
    exact cmpI_gt this
/-! #### sums -/
theorem ix_over {a : List Int} {i : Int} (h : (a.length : Int) ≤ i) : ix a i = 0 := by
  unfold ix
  have e : a.getD i.toNat default = default := by simp [show a.length ≤ i.toNat by omega]
  rw [e]; rfl
theorem nv_take (a : List Int) {i : Int} (h0 : 0 ≤ i) : nv (a.take (i + 1).toNat) = nv (a.take i.toNat) + PW i.toNat * ix a i := by
  by_cases h1 : i < a.length
  · exact nv_take_succ h0 h1
  · rw [ix_over (by omega), List.take_of_length_le (by omega), List.take_of_length_le (by omega)]; simp
theorem PW_next {i : Int} (h0 : 0 ≤ i) : PW (i + 1).toNat = 4294967296 * PW i.toNat := by
  rw [show (i + 1).toNat = i.toNat + 1 by omega, PW_succ]
theorem set_take {a : List Int} {i v : Int} (h0 : 0 ≤ i) (h1 : i < a.length) : nv ((a.set i.toNat v).take (i + 1).toNat) = nv (a.take i.toNat) + PW i.toNat * v := by
  rw [nv_take _ h0]
  congr 1
  · rw [List.take_set_of_le (Nat.le_refl _)]
  · unfold ix; simp [show i.toNat < a.length by omega]
theorem add_step {os a b : List Int} {i c x y : Int} (h : nv (os.take i.toNat) + PW i.toNat * c = nv (a.take i.toNat) + nv (b.take i.toNat)) (h0 : 0 ≤ i) (h1 : i < os.length) (hx : x = ix a i) (hy : y = ix b i) :
    nv ((os.set i.toNat ((x + y + c) % 4294967296)).take (i + 1).toNat) + PW (i + 1).toNat * ((x + y + c) / 4294967296) = nv (a.take (i + 1).toNat) + nv (b.take (i + 1).toNat) := by
  rw [set_take h0 h1, nv_take a h0, nv_take b h0, PW_next h0, ← hx, ← hy]
  have e := Int.mul_ediv_add_emod (x + y + c) 4294967296
  grind
theorem add_end {os a b : List Int} {i c : Int} (h : nv (os.take i.toNat) + PW i.toNat * c = nv (a.take i.toNat) + nv (b.take i.toNat)) (h0 : 0 ≤ i) (hi : i = a.length) (hl : (os.length : Int) = i + 1) (hb : b.length ≤ a.length) :
    nv (os.set (a.length : Int).toNat c) = nv a + nv b := by
  rw [← hi]
  have e := set_take (a := os) (v := c) h0 (by omega)
  rw [List.take_of_length_le (by simp; omega)] at e
  rw [e, h, List.take_of_length_le (by omega), List.take_of_length_le (by omega)]
theorem Sl.orig {α : Type} {K : Kd α} (hK : K.Flat) {F : Nat → Prop} {w W : World} {v : Value} {xs : List α} (h : Sl K W (Loc F w) v xs) (hb : Below w.heap.size w W) : Sl K w F v xs := by
  obtain ⟨A, c, e, h2, h3, h4⟩ := h
  refine ⟨A, c, e, h2, h3, fun i x hx => ?_⟩
  obtain ⟨g, o, us, q1, q2, q3, q4, q5⟩ := h4 i x hx
  have hlt : g < w.heap.size := Loc.lt q3
  refine ⟨g, o, us, q1, hlt, Loc.no q3, hK _ _ _ _ _ _ q4, fun j u_ hu => ?_⟩
  have := q5 j u_ hu
  unfold World.cell? at this ⊢
  simp only [← hb.block g hlt]
  exact this
end Go.Gw
