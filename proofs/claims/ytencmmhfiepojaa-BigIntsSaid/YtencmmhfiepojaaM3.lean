/- Part of the proof: a library for walks, plain laws, and functions' walks. -/
import Derived.Test.YtencmmhfiepojaaM2
import Derived.Lib.Bytealg
import Derived.Lib.Strings
import Derived.Laws.Externs
import Derived.Test.YtencmmhfiepojaaRows
import Derived.ChangeMaps5
import Derived.OpenShut
import Derived.LoopN
set_option linter.unusedSimpArgs false
set_option linter.unusedVariables false
/-! ### Numbers of any size, as limbs and as bits: the plain law -/
namespace Go.Gw
open Go.RowKit
def nv : List Int → Int
  | [] => 0
  | x :: r => x + 4294967296 * nv r
theorem Lim.tail {x : Int} {r : List Int} (h : Lim (x :: r)) : Lim r := fun y hy => h y (List.mem_cons_of_mem _ hy)
theorem Lim.head {x : Int} {r : List Int} (h : Lim (x :: r)) : 0 ≤ x ∧ x < 4294967296 := h x (List.mem_cons_self ..)
theorem Lim.cons {x : Int} {r : List Int} (h : 0 ≤ x ∧ x < 4294967296) (k : Lim r) : Lim (x :: r) := fun y hy => by
  rcases List.mem_cons.1 hy with rfl | hy
  · exact h
  · exact k y hy
theorem Lim.nil : Lim [] := fun x h => by cases h
theorem Lim.take {xs : List Int} (h : Lim xs) (k : Nat) : Lim (xs.take k) := fun x hx => h x (List.mem_of_mem_take hx)
theorem Lim.drop {xs : List Int} (h : Lim xs) (k : Nat) : Lim (xs.drop k) := fun x hx => h x (List.mem_of_mem_drop hx)
theorem Lim.append {xs ys : List Int} (h : Lim xs) (k : Lim ys) : Lim (xs ++ ys) := fun x hx => (List.mem_append.1 hx).elim (h x) (k x)
theorem nv_nonneg : ∀ {xs : List Int}, Lim xs → 0 ≤ nv xs
  | [], _ => Int.le_refl _
  | x :: r, h => by have := nv_nonneg h.tail; have := h.head; unfold nv; omega
def PW (k : Nat) : Int := 4294967296 ^ k
theorem PW_zero : PW 0 = 1 := rfl
theorem PW_succ (k : Nat) : PW (k + 1) = 4294967296 * PW k := by unfold PW; rw [Int.pow_succ]; grind
theorem PW_pos (k : Nat) : 0 < PW k := by induction k with
  | zero => decide
  | succ k ih => rw [PW_succ]; omega
theorem nv_append : ∀ (a b : List Int), nv (a ++ b) = nv a + PW a.length * nv b
  | [], b => by simp [nv, PW_zero]
  | x :: r, b => by
    have := nv_append r b
    simp only [List.cons_append, nv, List.length_cons, PW_succ]
    grind
theorem nv_lt : ∀ {xs : List Int}, Lim xs → nv xs < PW xs.length
  | [], _ => by decide
  | x :: r, h => by have := nv_lt h.tail; have := h.head; simp only [List.length_cons, PW_succ]; unfold nv; omega
theorem nv_snoc (a : List Int) (x : Int) : nv (a ++ [x]) = nv a + PW a.length * x := by rw [nv_append]; simp [nv]
/-- The digits of a number. -/
def tl (n : Int) : List Int := if h : n ≤ 0 then [] else n % 4294967296 :: tl (n / 4294967296)
termination_by n.toNat
decreasing_by omega
theorem tl_zero {n : Int} (h : n ≤ 0) : tl n = [] := by unfold tl; rw [dif_pos h]
theorem tl_pos {n : Int} (h : 0 < n) : tl n = n % 4294967296 :: tl (n / 4294967296) := by rw [tl, dif_neg (by omega)]
def rightB (a : List Int) : Bool := decide (a = []) || decide (ix a ((a.length : Int) - 1) ≠ 0)
theorem ix_last (a : List Int) (x : Int) : ix (a ++ [x]) (((a ++ [x]).length : Int) - 1) = x := by
  unfold ix; rw [show ((((a ++ [x]).length : Nat) : Int) - 1).toNat = a.length by simp]; simp
theorem rightB_snoc (a : List Int) (x : Int) : rightB (a ++ [x]) = decide (x ≠ 0) := by
  unfold rightB; rw [ix_last]; simp
theorem rightB_cons {x y : Int} {r : List Int} : rightB (x :: y :: r) = rightB (y :: r) := by
  obtain ⟨i, z, h⟩ : ∃ i z, y :: r = i ++ [z] := ⟨(y :: r).dropLast, (y :: r).getLast (by simp), (List.dropLast_concat_getLast _).symm⟩
  rw [h, show x :: (i ++ [z]) = (x :: i) ++ [z] by rfl, rightB_snoc, rightB_snoc]
theorem nv_pos {a : List Int} (h : Lim a) (hr : rightB a = true) (hne : a ≠ []) : 0 < nv a := by
  obtain ⟨i, z, rfl⟩ : ∃ i z, a = i ++ [z] := ⟨a.dropLast, a.getLast hne, (List.dropLast_concat_getLast _).symm⟩
  rw [rightB_snoc] at hr
  have hz := h z (by simp)
  have h0 : z ≠ 0 := by simpa using hr
  have h1 := nv_nonneg (fun x hx => h x (by simp [hx]) : Lim i)
  rw [nv_snoc]
  have := Int.mul_pos (PW_pos i.length) (show 0 < z by omega)
  omega
theorem tl_nv : ∀ {a : List Int}, Lim a → rightB a = true → tl (nv a) = a
  | [], _, _ => tl_zero (Int.le_refl _)
  | [x], h, hr => by
    have hx := h.head
    have h0 : x ≠ 0 := by simpa using (rightB_snoc [] x).symm.trans hr
    rw [tl_pos (by simp only [nv]; omega)]
    simp only [nv]
    rw [show (x + 4294967296 * 0) % 4294967296 = x by omega, show (x + 4294967296 * 0) / 4294967296 = 0 by omega, tl_zero (Int.le_refl _)]
  | x :: y :: r, h, hr => by
    have hx := h.head
    rw [rightB_cons] at hr
    have ih := tl_nv h.tail hr
    have hp := nv_pos h.tail hr (by simp)
    rw [show nv (x :: y :: r) = x + 4294967296 * nv (y :: r) from rfl, tl_pos (by omega), show (x + 4294967296 * nv (y :: r)) % 4294967296 = x by omega, show (x + 4294967296 * nv (y :: r)) / 4294967296 = nv (y :: r) by omega, ih]
theorem lim_tl (n : Int) : Lim (tl n) := by
  unfold tl
  split
  · exact Lim.nil
  · rename_i h
    exact Lim.cons (by omega) (lim_tl _)
termination_by n.toNat
decreasing_by omega
theorem nv_tl {n : Int} (h : 0 ≤ n) : nv (tl n) = n := by
  unfold tl
  split
  · simp only [nv]; omega
  · have := nv_tl (n := n / 4294967296) (by omega)
    simp only [nv]; rw [this]; omega
termination_by n.toNat
decreasing_by omega
theorem right_tl (n : Int) : rightB (tl n) = true := by
  by_cases h : n ≤ 0
  · rw [tl_zero h]; rfl
  · rw [tl_pos (by omega)]
    by_cases h2 : n / 4294967296 ≤ 0
    · rw [tl_zero h2, show [n % 4294967296] = [] ++ [n % 4294967296] from rfl, rightB_snoc]; simp; omega
    · have ih := right_tl (n / 4294967296)
      rw [tl_pos (by omega)] at ih ⊢
      rw [rightB_cons]; exact ih
termination_by n.toNat
decreasing_by omega
theorem tl_inj {m n : Int} (hm : 0 ≤ m) (hn : 0 ≤ n) (h : tl m = tl n) : m = n := by rw [← nv_tl hm, ← nv_tl hn, h]
theorem tl_is {n : Int} (a : List Int) (h : Lim a) (hr : rightB a = true) (e : nv a = n) : tl n = a := by rw [← e, tl_nv h hr]
/-- One nought less. -/
theorem nv_cut {a : List Int} (hne : ¬ rightB a = true) : 1 ≤ a.length ∧ nv (a.take (a.length - 1)) = nv a := by
  by_cases h : a = []
  · subst h; exact absurd rfl hne
  · obtain ⟨i, z, rfl⟩ : ∃ i z, a = i ++ [z] := ⟨a.dropLast, a.getLast h, (List.dropLast_concat_getLast _).symm⟩
    rw [rightB_snoc] at hne
    have : z = 0 := by simpa using hne
    subst this
    refine ⟨by simp, ?_⟩
    rw [nv_snoc, show (i ++ [(0 : Int)]).take ((i ++ [(0 : Int)]).length - 1) = i by simp]
    simp
theorem ix_take {a : List Int} {k : Nat} {i : Int} (h : i.toNat < k) : ix (a.take k) i = ix a i := by
  unfold ix; simp [List.getD_eq_getElem?_getD, List.getElem?_take, h]
theorem take_snoc {a : List Int} {i : Int} (h0 : 0 ≤ i) (h1 : i < a.length) : a.take (i + 1).toNat = a.take i.toNat ++ [ix a i] := by
  rw [show (i + 1).toNat = i.toNat + 1 by omega, List.take_add_one]
  unfold ix
  simp [show i.toNat < a.length by omega]
theorem nv_take_succ {a : List Int} {i : Int} (h0 : 0 ≤ i) (h1 : i < a.length) : nv (a.take (i + 1).toNat) = nv (a.take i.toNat) + PW i.toNat * ix a i := by
  rw [take_snoc h0 h1, nv_snoc, show (a.take i.toNat).length = i.toNat by simp; omega]
theorem nv_split (a : List Int) (k : Nat) (hk : k ≤ a.length) : nv a = nv (a.take k) + PW k * nv (a.drop k) := by
  have h := nv_append (a.take k) (a.drop k)
  rwa [List.take_append_drop, show (a.take k).length = k by simp; omega] at h
theorem right_nil {a : List Int} (h : (a.length : Int) = 0) : rightB a = true := by
  rw [show a = [] from List.eq_nil_of_length_eq_zero (by omega)]; rfl
theorem right_ne {a : List Int} (h : ¬ (a.length : Int) = 0) : rightB a = decide (ix a ((a.length : Int) - 1) ≠ 0) := by
  have : a ≠ [] := fun e => h (by rw [e]; rfl)
  unfold rightB; simp [this]
/-! #### the order -/
def cmpI (x y : Int) : Int := if x < y then -1 else if y < x then 1 else 0
theorem PW_le {a b : Nat} (h : a ≤ b) : PW a ≤ PW b := by
  induction h with
  | refl => exact Int.le_refl _
  | step _ ih => have := PW_pos a; rw [PW_succ]; omega
theorem nv_ge {a : List Int} (h : Lim a) (hr : rightB a = true) (hne : a ≠ []) : PW (a.length - 1) ≤ nv a := by
  obtain ⟨i, z, rfl⟩ : ∃ i z, a = i ++ [z] := ⟨a.dropLast, a.getLast hne, (List.dropLast_concat_getLast _).symm⟩
  rw [rightB_snoc] at hr
  have hz := h z (by simp)
  have h0 : z ≠ 0 := by simpa using hr
  have h1 := nv_nonneg (fun x hx => h x (by simp [hx]) : Lim i)
  rw [nv_snoc, show (i ++ [z]).length - 1 = i.length by simp]
  have := Int.mul_le_mul_of_nonneg_left (show 1 ≤ z by omega) (Int.le_of_lt (PW_pos i.length))
  omega
theorem len_lt {a b : List Int} (ha : Lim a) (hb : Lim b) (hr : rightB b = true) (h : a.length < b.length) : nv a < nv b := by
  have h1 := nv_lt ha
  have h2 := nv_ge hb hr (by intro e; subst e; simp at h)
  have h3 := PW_le (show a.length ≤ b.length - 1 by omega)
  omega
theorem ix_cons {x : Int} {r : List Int} {i : Int} (h : 0 ≤ i) : ix (x :: r) (i + 1) = ix r i := by
  unfold ix; rw [show (i + 1).toNat = i.toNat + 1 by omega]; simp
theorem ix_zero (x : Int) (r : List Int) : ix (x :: r) 0 = x := rfl
theorem cmp_at : ∀ {a b : List Int}, Lim a → Lim b → a.length = b.length → ∀ (i : Int), 0 ≤ i → i < a.length → (∀ j : Int, i < j → j < a.length → ix a j = ix b j) → ix a i < ix b i → nv a < nv b
  | [], _, _, _, _, i, h0, h1, _, _ => by simp at h1; omega
  | _ :: _, [], _, _, hl, _, _, _, _, _ => by simp at hl
  | x :: r, y :: s, ha, hb, hl, i, h0, h1, hd, hlt => by
    have hx := ha.head
    have hy := hb.head
    have hl' : r.length = s.length := by simpa using hl
    by_cases hi : i = 0
    · subst hi
      have e : r = s := by
        apply List.ext_getElem hl'
        intro k hk1 hk2
        have := hd ((k : Int) + 1) (by omega) (by simp; omega)
        rw [ix_cons (by omega), ix_cons (by omega)] at this
        unfold ix at this
        simpa [hk1, hk2] using this
      subst e
      rw [ix_zero, ix_zero] at hlt
      simp only [nv]; omega
    · have ih := cmp_at ha.tail hb.tail hl' (i - 1) (by omega) (by simp at h1; omega) (fun j j0 j1 => by
        have := hd (j + 1) (by omega) (by simp; omega)
        rwa [ix_cons (by omega), ix_cons (by omega)] at this) (by
        rw [show i = (i - 1) + 1 by omega, ix_cons (by omega), ix_cons (by omega)] at hlt; exact hlt)
      simp only [nv]; omega
theorem same_all {a b : List Int} (hl : a.length = b.length) (h : ∀ j : Int, 0 ≤ j → j < a.length → ix a j = ix b j) : a = b := by
  apply List.ext_getElem hl
  intro k hk1 hk2
  have := h k (by omega) (by omega)
  unfold ix at this
  simpa [hk1, hk2] using this
theorem bkt_mem {xs : List Int} {k : Nat} {j : Int} (h1 : (xs.length : Int) - 1 - j < k) (h2 : j < xs.length) : (j, ix xs j) ∈ bkt xs k := by
  unfold bkt
  rw [List.mem_map]
  exact ⟨((xs.length : Int) - 1 - j).toNat, by rw [List.mem_range]; omega, by rw [show (xs.length : Int) - 1 - ((((xs.length : Int) - 1 - j).toNat : Nat) : Int) = j by omega]⟩
/-- The rounds that a walk backwards has gone, and the last of them. -/
theorem bkt_last {xs : List Int} {k : Nat} {pre : List (LX xs)} {x : LX xs} (h : (pre ++ [x]).map (·.1) = bkt xs k) : x.1.1 = (xs.length : Int) - k ∧ ∀ j : Int, x.1.1 < j → j < xs.length → ∃ p ∈ pre, p.1 = (j, ix xs j) := by
  have hl := congrArg List.length h
  rw [List.length_map, bkt_len, List.length_append, List.length_singleton] at hl
  obtain rfl : k = pre.length + 1 := hl.symm
  rw [bkt_succ, List.map_append] at h
  obtain ⟨h1, h2⟩ := List.append_inj' h rfl
  simp only [List.map_cons, List.map_nil, List.cons.injEq, and_true] at h2
  refine ⟨by rw [h2]; show (xs.length : Int) - 1 - _ = _; push_cast; omega, fun j j0 j1 => ?_⟩
  rw [h2] at j0
  have hm := bkt_mem (xs := xs) (k := pre.length) (j := j) (by simp only at j0; omega) j1
  rw [← h1, List.mem_map] at hm
  exact hm
theorem cmp_len {m n : Int} (hm : 0 ≤ m) (hn : 0 ≤ n) (h : (tl m).length < (tl n).length) : m < n := by
  have := len_lt (lim_tl m) (lim_tl n) (right_tl n) h
  rwa [nv_tl hm, nv_tl hn] at this
theorem cmpI_lt {x y : Int} (h : x < y) : cmpI x y = -1 := by simp [cmpI, h]
theorem cmpI_gt {x y : Int} (h : y < x) : cmpI x y = 1 := by simp [cmpI, h, show ¬ x < y by omega]
theorem cmpI_eq {x y : Int} (h : x = y) : cmpI x y = 0 := by simp [cmpI, h]
theorem cmp_full {m n : Int} (hm : 0 ≤ m) (hn : 0 ≤ n) (hl : (tl m).length = (tl n).length) {pre : List (LX (tl m))} (h : pre.map (·.1) = bkt (tl m) (tl m).length) (he : ∀ p ∈ pre, p.1.2 = ix (tl n) p.1.1) : cmpI m n = 0 := by
  refine cmpI_eq (tl_inj hm hn (same_all hl fun j j0 j1 => ?_))
  have hm := bkt_mem (xs := tl m) (k := (tl m).length) (j := j) (by omega) j1
  rw [← h, List.mem_map] at hm
  obtain ⟨p, hp, e⟩ := hm
  have := he p hp
  rw [e] at this
  exact this
theorem cmp_stop {m n : Int} (hm : 0 ≤ m) (hn : 0 ≤ n) (hl : (tl m).length = (tl n).length) {k : Nat} {pre : List (LX (tl m))} {x : LX (tl m)} (h : (pre ++ [x]).map (·.1) = bkt (tl m) k) (he : ∀ p ∈ pre, p.1.2 = ix (tl n) p.1.1) :
    (x.1.2 < ix (tl n) x.1.1 → cmpI m n = -1) ∧ (ix (tl n) x.1.1 < x.1.2 → cmpI m n = 1) := by
  obtain ⟨_, h2⟩ := bkt_last h
  have heq : ∀ j : Int, x.1.1 < j → j < (tl m).length → ix (tl m) j = ix (tl n) j := fun j j0 j1 => by
    obtain ⟨p, hp, e⟩ := h2 j j0 j1
    have := he p hp
    rw [e] at this
    exact this
  obtain ⟨x0, x1, x2⟩ := x.2
  constructor
  · intro hlt
    rw [x2] at hlt
    have := cmp_at (lim_tl m) (lim_tl n) hl _ x0 x1 heq hlt
    rw [nv_tl hm, nv_tl hn] at this
    exact cmpI_lt this
  · intro hlt
    rw [x2] at hlt
    have := cmp_at (lim_tl n) (lim_tl m) hl.symm _ x0 (by omega) (fun j j0 j1 => (heq j j0 (by omega)).symm) hlt
    rw [nv_tl hm, nv_tl hn] at this
    exact cmpI_gt this
/-! #### sums -/
theorem ix_over {a : List Int} {i : Int} (h : (a.length : Int) ≤ i) : ix a i = 0 := by
  unfold ix
  have e : a.getD i.toNat default = default := by simp [show a.length ≤ i.toNat by omega]
  rw [e]; rfl
theorem nv_take (a : List Int) {i : Int} (h0 : 0 ≤ i) : nv (a.take (i + 1).toNat) = nv (a.take i.toNat) + PW i.toNat * ix a i := by
  by_cases h1 : i < a.length
  · exact nv_take_succ h0 h1
  · rw [ix_over (by omega), List.take_of_length_le (by omega), List.take_of_length_le (by omega)]; simp
theorem PW_next {i : Int} (h0 : 0 ≤ i) : PW (i + 1).toNat = 4294967296 * PW i.toNat := by
  rw [show (i + 1).toNat = i.toNat + 1 by omega, PW_succ]
theorem set_take {a : List Int} {i v : Int} (h0 : 0 ≤ i) (h1 : i < a.length) : nv ((a.set i.toNat v).take (i + 1).toNat) = nv (a.take i.toNat) + PW i.toNat * v := by
  rw [nv_take _ h0]
  congr 1
  · rw [List.take_set_of_le (Nat.le_refl _)]
  · unfold ix; simp [show i.toNat < a.length by omega]
theorem add_step {os a b : List Int} {i c x y : Int} (h : nv (os.take i.toNat) + PW i.toNat * c = nv (a.take i.toNat) + nv (b.take i.toNat)) (h0 : 0 ≤ i) (h1 : i < os.length) (hx : x = ix a i) (hy : y = ix b i) :
    nv ((os.set i.toNat ((x + y + c) % 4294967296)).take (i + 1).toNat) + PW (i + 1).toNat * ((x + y + c) / 4294967296) = nv (a.take (i + 1).toNat) + nv (b.take (i + 1).toNat) := by
  rw [set_take h0 h1, nv_take a h0, nv_take b h0, PW_next h0, ← hx, ← hy]
  have e := Int.mul_ediv_add_emod (x + y + c) 4294967296
  grind
theorem add_end {os a b : List Int} {i c : Int} (h : nv (os.take i.toNat) + PW i.toNat * c = nv (a.take i.toNat) + nv (b.take i.toNat)) (h0 : 0 ≤ i) (hi : i = a.length) (hl : (os.length : Int) = i + 1) (hb : b.length ≤ a.length) :
    nv (os.set (a.length : Int).toNat c) = nv a + nv b := by
  rw [← hi]
  have e := set_take (a := os) (v := c) h0 (by omega)
  rw [List.take_of_length_le (by simp; omega)] at e
  rw [e, h, List.take_of_length_le (by omega), List.take_of_length_le (by omega)]
theorem Sl.orig {α : Type} {K : Kd α} (hK : K.Flat) {F : Nat → Prop} {w W : World} {v : Value} {xs : List α} (h : Sl K W (Loc F w) v xs) (hb : Below w.heap.size w W) : Sl K w F v xs := by
  obtain ⟨A, c, e, h2, h3, h4⟩ := h
  refine ⟨A, c, e, h2, h3, fun i x hx => ?_⟩
  obtain ⟨g, o, us, q1, q2, q3, q4, q5⟩ := h4 i x hx
  have hlt : g < w.heap.size := Loc.lt q3
  refine ⟨g, o, us, q1, hlt, Loc.no q3, hK _ _ _ _ _ _ q4, fun j u_ hu => ?_⟩
  have := q5 j u_ hu
  unfold World.cell? at this ⊢
  simp only [← hb.block g hlt]
  exact this
end Go.Gw

set_option linter.unusedSimpArgs false
set_option linter.unusedVariables false
/-! ### Strings -/
namespace Go.Gw
open Go.RowKit
/-- A string's bytes. -/
def bl (s : ByteArray) : List Int := s.data.toList.map fun b => (b.toNat : Int)
theorem bl_length (s : ByteArray) : (bl s).length = s.size := by unfold bl; rw [List.length_map]; rfl
theorem bl_append (a b : ByteArray) : bl (a ++ b) = bl a ++ bl b := by simp [bl, ByteArray.data_append]
theorem bl_extract (s : ByteArray) (i j : Nat) : bl (s.extract i j) = ((bl s).take j).drop i := by
  simp [bl, ByteArray.data_extract, Array.toList_extract, List.extract, List.map_drop, List.map_take]
  rw [List.take_drop]
  by_cases h : i ≤ j
  · rw [show i + (j - i) = j by omega]
  · rw [List.drop_eq_nil_of_le, List.drop_eq_nil_of_le] <;> simp <;> omega
theorem bl_inj {a b : ByteArray} : bl a = bl b ↔ a = b := by
  constructor
  · intro h
    have inj : ∀ l m : List UInt8, l.map (fun b => (b.toNat : Int)) = m.map (fun b => (b.toNat : Int)) → l = m := by
      intro l
      induction l with
      | nil => intro m h; cases m with
        | nil => rfl
        | cons y r => simp at h
      | cons x l ih => intro m h; cases m with
        | nil => simp at h
        | cons y r =>
          simp only [List.map_cons, List.cons.injEq] at h
          rw [ih r h.2, UInt8.toNat_inj.1 (show x.toNat = y.toNat by omega)]
    have h2 : a.data.toList = b.data.toList := inj _ _ h
    cases a; cases b; simp at h2; simp [h2]
  · rintro rfl; rfl
theorem bl_range (s : ByteArray) (i : Int) : 0 ≤ ix (bl s) i ∧ ix (bl s) i ≤ 255 := by
  unfold ix bl
  rw [List.getD_eq_getElem?_getD, List.getElem?_map]
  cases s.data.toList[i.toNat]? with
  | none => simp
  | some b => simp; have := b.toNat_lt; omega
section
variable {P : Program} {n : Nat} {D : List Deferred} {ρ : Env} {w : World}
variable {d ty : Nat} {pos : String} {after : Array Edge} {gd : Option (Nat × Bool)} {C : Value → World → Prop} {x y z : Operand} {s a b : ByteArray} {t : Nat}
structure StrF (P : Program) (t : Nat) : Prop where
  und : P.underlying t = some .string
theorem s_slen (ht : StrF P t) (hx : opv ρ x = some (.string s)) (k : C (.int .i64 ((bl s).length : Int)) w) :
    OpW P ⟨some d, .call { callee := .builtin .len, args := #[x], argTypes := #[t] }, ty, pos, after, gd⟩ n D ρ w C := by
  refine opw_val (fun ev he => ?_) k
  simp [execOp, resolve, invoke, builtin, he x _ hx, Builtin.len_, run_underlying ht.und, goInt, bl_length]
theorem s_sidx {kd : IntKind} {i : Int} (ht : StrF P t) (hx : opv ρ x = some (.string s)) (hy : opv ρ y = some (.int kd i)) (h0 : 0 ≤ i) (h1 : i < (bl s).length) (k : C (.int .u8 (ix (bl s) i)) w) :
    OpW P ⟨some d, .index t x y, ty, pos, after, gd⟩ n D ρ w C := by
  refine opw_val (fun ev he => ?_) k
  rw [bl_length] at h1
  have hi : i.toNat < s.size := by omega
  have e : ix (bl s) i = ((s[i.toNat]'hi).toNat : Int) := by
    unfold ix bl
    rw [List.getD_eq_getElem?_getD, List.getElem?_map, Array.getElem?_toList, Array.getElem?_eq_getElem (show i.toNat < s.data.size from hi)]
    rfl
  simp [execOp, Instr.index, asIntOf, he x _ hx, he y _ hy, run_underlying ht.und, h0, hi, e]
theorem s_scut {kd : IntKind} {j : Int} (ht : StrF P t) (hx : opv ρ x = some (.string s)) (hy : opv ρ y = some (.int kd j)) (h0 : 0 ≤ j) (h1 : j ≤ (bl s).length) (k : C (.string (s.extract 0 j.toNat)) w) :
    OpW P ⟨some d, .slice t x none (some y) none, ty, pos, after, gd⟩ n D ρ w C := by
  refine opw_val (fun ev he => ?_) k
  rw [bl_length] at h1
  simp [execOp, he x _ hx, he y _ hy, Instr.sliceAt, Instr.slice, run_underlying ht.und, Instr.sliceBounds, Instr.sliceBound, asIntOf, h0, h1]
theorem s_scat {yt : Nat} (hx : opv ρ x = some (.string a)) (hy : opv ρ y = some (.string b)) (h : (bl a).length + (bl b).length ≤ 9223372036854775807) (k : C (.string (a ++ b)) w) :
    OpW P ⟨some d, .binOp .add t x y yt, ty, pos, after, gd⟩ n D ρ w C := by
  rw [bl_length, bl_length] at h
  refine opw_val (fun ev he => ?_) k
  simp [execOp, he x _ hx, he y _ hy, eqGuard, binOp, Op.stringOp]
  omega
theorem str_eq (a b : ByteArray) : (a.toList == b.toList) = decide (bl a = bl b) := by
  rw [Lib.toList_data, Lib.toList_data, Bool.eq_iff_iff, beq_iff_eq, decide_eq_true_eq, bl_inj]
  constructor
  · intro h; cases a; cases b; simp at h; simp [h]
  · rintro rfl; rfl
theorem s_seq {yt : Nat} (hx : opv ρ x = some (.string a)) (hy : opv ρ y = some (.string b)) (k : C (.bool (decide (bl a = bl b))) w) :
    OpW P ⟨some d, .binOp .eql t x y yt, ty, pos, after, gd⟩ n D ρ w C := by
  refine opw_val (fun ev he => ?_) k
  simp [execOp, he x _ hx, he y _ hy, eqGuard, binOp, Op.stringOp, str_eq]
theorem s_sne {yt : Nat} (hx : opv ρ x = some (.string a)) (hy : opv ρ y = some (.string b)) (k : C (.bool (decide (bl a ≠ bl b))) w) :
    OpW P ⟨some d, .binOp .neq t x y yt, ty, pos, after, gd⟩ n D ρ w C := by
  refine opw_val (fun ev he => ?_) k
  simp [execOp, he x _ hx, he y _ hy, eqGuard, binOp, Op.stringOp, str_eq]
theorem s_min {kd kd' : IntKind} {i j : Int} {ats : Array TypeId} (hx : opv ρ x = some (.int kd i)) (hy : opv ρ y = some (.int kd' j)) (k : C (.int kd (min i j)) w) :
    OpW P ⟨some d, .call { callee := .builtin .min, args := #[x, y], argTypes := ats }, ty, pos, after, gd⟩ n D ρ w C := by
  refine opw_val (fun ev he => ?_) k
  have e : (if j < i then j else i) = min i j := by omega
  simp [execOp, resolve, invoke, builtin, he x _ hx, he y _ hy, Builtin.min_, Builtin.min2, e]
/-- A function of the library that is not in Go. -/
structure ExtF (P : Program) (f : Nat) (e : Array Value → Sem Value) : Prop where
  out : ∃ fn, P.funcs[f]? = some fn ∧ (fn.name == "runtime.NumGoroutine") = false ∧ fn.body.isNone = true ∧ Extern.findNext fn = none ∧ Extern.find fn = some e
theorem s_calle {f : Nat} {e : Array Value → Sem Value} {args : List Operand} {ats : Array TypeId} {vs : List Value} {v : Value} (hf : ExtF P f e) (ha : opvs ρ args = some vs)
    (hr : ∀ w, (e vs.toArray).run P w = .ok v w) (k : C v w) :
    OpW P ⟨some d, .call { callee := .value (.func f), args := args.toArray, argTypes := ats }, ty, pos, after, gd⟩ n D ρ w C := by
  obtain ⟨fn, h1, h2, h3, h4, h5⟩ := hf.out
  intro a hF Q
  unfold Oper.wp
  have he : (execOp a.eval ⟨some d, .call { callee := .value (.func f), args := args.toArray, argTypes := ats }, ty, pos, after, gd⟩).run P w = .ok (.value v) w := by
    have hv : args.map a.eval = vs := hF.evals ha
    simp [execOp, resolve, Act.eval, Deferred.ofValue, invoke, hv, run_callFunc_extern h1 h2 h3 h4 h5, hr]
  rw [he, Oper.upon_value]
  exact ⟨v, rfl, k⟩
theorem bl_count (s : ByteArray) (c : Int) (h0 : 0 ≤ c) (h1 : c ≤ 255) : (Lib.countByte s.data.toList c.toNat.toUInt8 : Int) = ((bl s).count c : Nat) := by
  have e : ∀ l : List UInt8, l.count c.toNat.toUInt8 = (l.map fun b => (b.toNat : Int)).count c := by
    intro l
    induction l with
    | nil => rfl
    | cons x r ih =>
      rw [List.count_cons, List.map_cons, List.count_cons, ih]
      congr 1
      have : (x == c.toNat.toUInt8) = ((x.toNat : Int) == c) := by
        rw [Bool.eq_iff_iff, beq_iff_eq, beq_iff_eq]
        constructor
        · rintro rfl; simp; omega
        · intro h; apply UInt8.toNat_inj.1; simp; omega
      rw [this]
  unfold Lib.countByte bl
  rw [e]
theorem s_count {f : Nat} {c : Int} {ats : Array TypeId} (hf : ExtF P f Extern.BytealgCount.count) (hx : opv ρ x = some (.string s)) (hy : opv ρ y = some (.int .u8 c)) (h0 : 0 ≤ c) (h1 : c ≤ 255) (k : C (.int .i64 (((bl s).count c : Nat) : Int)) w) :
    OpW P ⟨some d, .call { callee := .value (.func f), args := #[x, y], argTypes := ats }, ty, pos, after, gd⟩ n D ρ w C := by
  refine s_calle (args := [x, y]) (vs := [.string s, .int .u8 c]) hf (by simp [opvs, hx, hy]) (fun w => ?_) (v := .int .i64 (((bl s).count c : Nat) : Int)) k
  rw [← bl_count s c h0 h1]
  exact Lib.run_countString s c w
end
end Go.Gw

set_option maxRecDepth 20000
set_option linter.unusedSimpArgs false
set_option linter.unusedVariables false
namespace Go.Proofs.Ytencmmhfiepojaa
open Go.RowKit Go.Gw
theorem one32 : OneF Try.prog 32 := ⟨by kernel_rfl⟩
theorem sl32 : SlF Try.prog 32 44 1 4 (.int .u32 0) := ⟨by kernel_rfl, by kernel_rfl, rfl, by decide⟩
theorem one44 : OneF Try.prog 44 := ⟨by kernel_rfl⟩
theorem fn38 : FunF Try.prog 38 := ⟨_, _, Try.func38, by decide +kernel, rfl⟩
theorem fn72 : FunF Try.prog 72 := ⟨_, _, Try.func72, by decide +kernel, rfl⟩
theorem fn74 : FunF Try.prog 74 := ⟨_, _, Try.func74, by decide +kernel, rfl⟩
theorem one3 : OneF Try.prog 3 := ⟨by kernel_rfl⟩
theorem zero3 : ZeroF Try.prog 3 #[.int .i64 0] := ⟨by kernel_rfl⟩
theorem fn79 : FunF Try.prog 79 := ⟨_, _, Try.func79, by decide +kernel, rfl⟩
theorem fn91 : FunF Try.prog 91 := ⟨_, _, Try.func91, by decide +kernel, rfl⟩
theorem intk44 : Go.Program.underlying Try.prog 44 = some (.int .u32) := by kernel_rfl
theorem intk76 : Go.Program.underlying Try.prog 76 = some (.int .u64) := by kernel_rfl
theorem fn78 : FunF Try.prog 78 := ⟨_, _, Try.func78, by decide +kernel, rfl⟩
theorem fn28 : FunF Try.prog 28 := ⟨_, _, Try.func28, by decide +kernel, rfl⟩
theorem fn73 : FunF Try.prog 73 := ⟨_, _, Try.func73, by decide +kernel, rfl⟩
theorem fn80 : FunF Try.prog 80 := ⟨_, _, Try.func80, by decide +kernel, rfl⟩
theorem zero32 : ZeroF Try.prog 32 #[.slice none 0 0] := ⟨by kernel_rfl⟩
theorem zero44 : ZeroF Try.prog 44 #[.int .u32 0] := ⟨by kernel_rfl⟩
theorem fn82 : FunF Try.prog 82 := ⟨_, _, Try.func82, by decide +kernel, rfl⟩
theorem intk5 : Go.Program.underlying Try.prog 5 = some (.int .u8) := by kernel_rfl
theorem str9 : StrF Try.prog 9 := ⟨by kernel_rfl⟩
theorem intk3 : Go.Program.underlying Try.prog 3 = some (.int .i64) := by kernel_rfl
theorem fn81 : FunF Try.prog 81 := ⟨_, _, Try.func81, by decide +kernel, rfl⟩
theorem sl68 : SlF Try.prog 68 4 1 1 (.bool false) := ⟨by kernel_rfl, by kernel_rfl, rfl, by decide⟩
theorem one4 : OneF Try.prog 4 := ⟨by kernel_rfl⟩
theorem nz4 : ∃ ie, Try.prog.info? 4 = some ie ∧ 0 < ie.size := nz_of (by kernel_rfl)
theorem fn90 : FunF Try.prog 90 := ⟨_, _, Try.func90, by decide +kernel, rfl⟩
theorem nz44 : ∃ ie, Try.prog.info? 44 = some ie ∧ 0 < ie.size := nz_of (by kernel_rfl)
theorem fn75 : FunF Try.prog 75 := ⟨_, _, Try.func75, by decide +kernel, rfl⟩
theorem fn77 : FunF Try.prog 77 := ⟨_, _, Try.func77, by decide +kernel, rfl⟩
theorem fn76 : FunF Try.prog 76 := ⟨_, _, Try.func76, by decide +kernel, rfl⟩
theorem bool4 : Go.Program.underlying Try.prog 4 = some .bool := by kernel_rfl
theorem fn29 : FunF Try.prog 29 := ⟨_, _, Try.func29, by decide +kernel, rfl⟩
theorem fn41 : FunF Try.prog 41 := ⟨_, _, Try.func41, by decide +kernel, rfl⟩
theorem fn23 : FunF Try.prog 23 := ⟨_, _, Try.func23, by decide +kernel, rfl⟩
theorem fn42 : FunF Try.prog 42 := ⟨_, _, Try.func42, by decide +kernel, rfl⟩
theorem fn34 : FunF Try.prog 34 := ⟨_, _, Try.func34, by decide +kernel, rfl⟩
theorem fn40 : FunF Try.prog 40 := ⟨_, _, Try.func40, by decide +kernel, rfl⟩
theorem fn25 : FunF Try.prog 25 := ⟨_, _, Try.func25, by decide +kernel, rfl⟩
theorem fn26 : FunF Try.prog 26 := ⟨_, _, Try.func26, by decide +kernel, rfl⟩
theorem fn30 : FunF Try.prog 30 := ⟨_, _, Try.func30, by decide +kernel, rfl⟩
theorem fn32 : FunF Try.prog 32 := ⟨_, _, Try.func32, by decide +kernel, rfl⟩
theorem fn44 : FunF Try.prog 44 := ⟨_, _, Try.func44, by decide +kernel, rfl⟩
theorem fn36 : FunF Try.prog 36 := ⟨_, _, Try.func36, by decide +kernel, rfl⟩
theorem fn22 : FunF Try.prog 22 := ⟨_, _, Try.func22, by decide +kernel, rfl⟩
theorem fn24 : FunF Try.prog 24 := ⟨_, _, Try.func24, by decide +kernel, rfl⟩
theorem fn27 : FunF Try.prog 27 := ⟨_, _, Try.func27, by decide +kernel, rfl⟩
theorem fn31 : FunF Try.prog 31 := ⟨_, _, Try.func31, by decide +kernel, rfl⟩
theorem fn33 : FunF Try.prog 33 := ⟨_, _, Try.func33, by decide +kernel, rfl⟩
theorem fn35 : FunF Try.prog 35 := ⟨_, _, Try.func35, by decide +kernel, rfl⟩
theorem fn37 : FunF Try.prog 37 := ⟨_, _, Try.func37, by decide +kernel, rfl⟩
theorem fn39 : FunF Try.prog 39 := ⟨_, _, Try.func39, by decide +kernel, rfl⟩
theorem fn43 : FunF Try.prog 43 := ⟨_, _, Try.func43, by decide +kernel, rfl⟩
theorem fn45 : FunF Try.prog 45 := ⟨_, _, Try.func45, by decide +kernel, rfl⟩
theorem arr49 : ArrF Try.prog 49 2 44 1 := ⟨by kernel_rfl, by kernel_rfl⟩
end Go.Proofs.Ytencmmhfiepojaa

namespace Go.Proofs.Ytencmmhfiepojaa
open Go.ChangeShapes Go.WideShapes Go.ChangeAt Go.RowKit Go.Gw
theorem ownTry : ownKnob Try.prog.godebug = none := by kernel_rfl
theorem laidTry : laidOutB Try.prog = true := by kernel_rfl
theorem u32_wf {a : Int} (h : (Lit.int .u32 a).wf = true) : 0 ≤ a ∧ a < 4294967296 := by
  unfold Lit.wf at h
  rw [Bool.and_eq_true, decide_eq_true_eq, decide_eq_true_eq] at h
  have h1 : IntKind.u32.min = 0 := rfl
  have h2 : IntKind.u32.max = 4294967295 := by decide
  rw [h1] at h
  rw [h2] at h
  omega
theorem i64_wf {a : Int} (h : (Lit.int .i64 a).wf = true) : -9223372036854775808 ≤ a ∧ a ≤ 9223372036854775807 := by
  unfold Lit.wf at h
  rw [Bool.and_eq_true, decide_eq_true_eq, decide_eq_true_eq] at h
  have h1 : IntKind.i64.min = -9223372036854775808 := by decide
  have h2 : IntKind.i64.max = 9223372036854775807 := by decide
  rw [h1] at h
  rw [h2] at h
  exact h
theorem u32_of_trod {H : Type} {enc : TypeId × Value → H} {w : World} (n : Nat) (cs : List Value) (x : DataW H × List MemPlace) (h : DataW.trod enc Try.prog w 0 (fun _ => true) true n 44 cs = some x) : ∃ a : Int, Kd.u32.rep w (fun _ => False) cs a := by
  obtain ⟨m, rfl, _, hw⟩ := DataW.trod_int (show Try.prog.underlying 44 = some (.int .u32) by kernel_rfl) h
  exact ⟨m, rfl, u32_wf hw⟩
theorem u32sArg {H : Type} {enc : TypeId × Value → H} {w : World} {r : Reach} {b0 : Nat} {v : Value} {d : DataW H} {p : List MemPlace} (hv : Value.okWide Try.prog w r b0 32 v) (h : DataW.Trod enc Try.prog w 0 (fun _ => true) true 32 v d p) :
    ∃ xs : List Int, Sl Kd.u32 w (fun _ => False) v xs :=
  sl_of_trod (K := Kd.u32) (e := 44) (by kernel_rfl) (by kernel_rfl) (by decide) u32_of_trod hv h
theorem pairArg {H : Type} {enc : TypeId × Value → H} {w : World} {r : Reach} {b0 : Nat} {v : Value} {d : DataW H} {p : List MemPlace} (hv : Value.okWide Try.prog w r b0 49 v) (h : DataW.Trod enc Try.prog w 0 (fun _ => true) true 49 v d p) :
    ∃ a b : Int, v = .agg [.int .u32 a, .int .u32 b].toArray ∧ (0 ≤ a ∧ a < 4294967296) ∧ (0 ≤ b ∧ b < 4294967296) := by
  have ht : Try.prog.underlying 49 = some (.array 2 44) := by kernel_rfl
  have hu : Try.prog.underlying 44 = some (.int .u32) := by kernel_rfl
  have hc : Try.prog.cellsOf 49 = 2 := by kernel_rfl
  have hc1 : Try.prog.cellsOf 44 = 1 := by kernel_rfl
  simp only [Value.okWide, ht] at hv
  obtain ⟨cs, rfl, _⟩ := hv
  obtain ⟨fuel, hf⟩ := h
  obtain ⟨xs, m, _, _, hl, hx, hi⟩ := DataW.trod_array ht hf
  rw [hc] at hl
  simp only [Value.cells] at hl hi
  match hcs : cs.toList, hl with
  | [c0, c1], _ =>
    rw [hcs] at hi
    have g0 := hi 0 (by decide)
    have g1 := hi 1 (by decide)
    rw [hc1, List.getElem?_eq_getElem (by omega)] at g0 g1
    obtain ⟨a, e0, _, w0⟩ := DataW.trod_int hu g0
    obtain ⟨b, e1, _, w1⟩ := DataW.trod_int hu g1
    simp at e0 e1
    subst e0 e1
    refine ⟨a, b, ?_, u32_wf w0, u32_wf w1⟩
    congr 1
    apply Array.toList_inj.1
    rw [hcs]
end Go.Proofs.Ytencmmhfiepojaa

set_option linter.unusedSimpArgs false
set_option linter.unusedVariables false
namespace Go.Gw
open Go.RowKit Go.ChangeShapes Go.WideShapes Go.ChangeAt Go.Deep
section
variable {H : Type} {enc : TypeId × Value → H} {P : Program} {w : World} {α : Type} {K : Kd α}
/-- An argument that is a slice reads as a list, if its elements read. -/
theorem sl_of_trodC {t e : TypeId} {v : Value} {d : DataW H} {p : List MemPlace} (ht : P.underlying t = some (.slice e)) (hC : P.cellsOf e = K.sz) (hpos : 0 < K.sz)
    (hel : ∀ (n : Nat) (cs : List Value) (x : DataW H × List MemPlace), DataW.trod enc P w 0 (fun _ => true) true n e cs = some x → ∃ a : α, K.rep w (fun _ => False) cs a)
    (hv : ∃ A len cap, v = .slice A len cap) (h : DataW.Trod enc P w 0 (fun _ => true) true t v d p) : ∃ xs : List α, Sl K w (fun _ => False) v xs := by
  obtain ⟨A, len, cap, rfl⟩ := hv
  obtain ⟨fuel, hf⟩ := h
  rcases open_slice ht hf with ⟨hcs, _⟩ | ⟨a, len', cap', m, n, D, Pl, hcs, hb, hl, hm, hmm, hx, hi⟩
  · simp [Value.cells] at hcs
    obtain ⟨rfl, rfl, rfl⟩ := hcs
    exact ⟨[], none, 0, rfl, Nat.le_refl _, by simp [maxLen], fun i x hx => by simp at hx⟩
  · simp [Value.cells] at hcs
    obtain ⟨rfl, rfl, rfl⟩ := hcs
    have hlm : len ≤ m := by simp at hmm; omega
    have hex : ∀ i : Fin len, ∃ (x : α) (cs : List Value), K.rep w (fun _ => False) cs x ∧ w.cells? 0 (a.add (i * P.cellsOf e)) (P.cellsOf e) = some cs := by
      intro i
      obtain ⟨cs', hc, ht'⟩ := hi i (by omega)
      obtain ⟨x, hx⟩ := hel _ _ _ ht'
      exact ⟨x, cs', hx, hc⟩
    let f : Fin len → α := fun i => Classical.choose (hex i)
    refine ⟨List.ofFn f, some a, cap, by simp, by simpa using hl, hm, fun i x hx => ?_⟩
    have hil : i < len := by have := (List.getElem?_eq_some_iff.1 hx).1; simpa using this
    rw [List.getElem?_eq_getElem (by simpa using hil), List.getElem_ofFn] at hx
    obtain rfl := Option.some.inj hx
    obtain ⟨cs, hrep, hc⟩ := Classical.choose_spec (hex ⟨i, hil⟩)
    obtain ⟨_, hcl, hat⟩ := World.cells?_some hc
    obtain ⟨cs1, hc1, _⟩ := hi 0 (by omega)
    obtain ⟨_, hcl1, hat1⟩ := World.cells?_some hc1
    have h0 := hat1 0 (by omega)
    rw [List.getElem?_eq_getElem (by omega)] at h0
    have hsp : a = ⟨a.block, a.off, none⟩ ∧ a.block < w.heap.size := spot_none (v := cs1[0]'(by omega)) (by simpa [Addr.add] using h0)
    obtain ⟨b, o, s⟩ := a
    obtain ⟨hs, hlt⟩ := hsp
    simp only [Addr.mk.injEq, true_and] at hs
    subst hs
    refine ⟨b, o, cs, rfl, hlt, fun h => h, hrep, fun j v hj => ?_⟩
    have hjl : j < cs.length := (List.getElem?_eq_some_iff.1 hj).1
    have h2 := hat j (by omega)
    rw [hj] at h2
    rw [← hC]
    simp only [Addr.add_mid] at h2
    exact h2
theorem wf_u32 {a : Int} (h : (Lit.int .u32 a).wf = true) : 0 ≤ a ∧ a < 4294967296 := by
  unfold Lit.wf at h
  rw [Bool.and_eq_true, decide_eq_true_eq, decide_eq_true_eq] at h
  have h1 : IntKind.u32.min = 0 := rfl
  have h2 : IntKind.u32.max = 4294967295 := by decide
  rw [h1] at h
  rw [h2] at h
  omega
theorem u32_trod {te : Nat} (he : P.underlying te = some (.int .u32)) (n : Nat) (cs : List Value) (x : DataW H × List MemPlace) (h : DataW.trod enc P w 0 (fun _ => true) true n te cs = some x) : ∃ a : Int, Kd.u32.rep w (fun _ => False) cs a := by
  obtain ⟨m, rfl, _, hw⟩ := DataW.trod_int he h
  exact ⟨m, rfl, wf_u32 hw⟩
/-- What is asked of the tables: a struct of a bool and a slice of numbers. -/
structure BigF (P : Program) (t tb ts te : Nat) : Prop where
  is : fieldsAre P t = [(true, tb, 0), (true, ts, 1)]
  bool : P.underlying tb = some .bool
  sl : P.underlying ts = some (.slice te)
  int : P.underlying te = some (.int .u32)
  ct : P.cellsOf t = 2
  cb : P.cellsOf tb = 1
  cs : P.cellsOf ts = 1
  ce : P.cellsOf te = 1
theorem fields_out {t : Nat} {l : List (Bool × Nat × Nat)} (h : fieldsAre P t = l) (hne : l ≠ []) : ∃ fs : Array Field, P.underlying t = some (.struct fs) ∧ fs.size = l.length ∧ ∀ (i : Nat) (b : Bool) (ty o : Nat), l[i]? = some (b, ty, o) → ∃ f : Field, fs[i]? = some f ∧ f.type = ty ∧ f.offset = o := by
  unfold fieldsAre at h
  split at h
  · rename_i fs hu
    subst h
    refine ⟨fs, hu, by simp, fun i b ty o hi => ?_⟩
    rw [List.getElem?_map] at hi
    cases hf : fs.toList[i]? with
    | none => rw [hf] at hi; cases hi
    | some f =>
      rw [hf] at hi
      simp at hi
      exact ⟨f, by simpa using hf, hi.2.1, hi.2.2⟩
  · exact absurd h.symm hne
theorem big_of_trod {t tb ts te : Nat} (h : BigF P t tb ts te) (n : Nat) (cs : List Value) (x : DataW H × List MemPlace) (hx : DataW.trod enc P w 0 (fun _ => true) true n t cs = some x) : ∃ ng s xs, cs = [.bool ng, s] ∧ Sl Kd.u32 w (fun _ => False) s xs := by
  obtain ⟨fs, hu, hsz, hfs⟩ := fields_out h.is (by simp)
  obtain ⟨f0, g0, t0, o0⟩ := hfs 0 _ _ _ rfl
  obtain ⟨f1, g1, t1, o1⟩ := hfs 1 _ _ _ rfl
  obtain ⟨xs, m, _, _, hlen, hxl, hf⟩ := DataW.trod_struct hu hx
  rw [h.ct] at hlen
  match cs, hlen with
  | [c0, c1], _ =>
    have h0 := hf 0 f0 g0
    have h1 := hf 1 f1 g1
    rw [t0, o0, h.cb] at h0
    rw [t1, o1, h.cs] at h1
    have hx0 : 0 < xs.length := by rw [hxl, hsz]; simp
    have hx1 : 1 < xs.length := by rw [hxl, hsz]; simp
    rw [List.getElem?_eq_getElem hx0] at h0
    rw [List.getElem?_eq_getElem hx1] at h1
    obtain ⟨b, e0, _⟩ := DataW.trod_bool h.bool h0
    have e0' : c0 = .bool b := by simpa using e0
    have h1' : DataW.trod enc P w 0 (fun _ => true) true m ts [c1] = some xs[1] := by simpa using h1
    have hv : ∃ A len cap, c1 = .slice A len cap := by
      rcases DataW.trod_slice h.sl h1' with ⟨e, _⟩ | ⟨a, len, cap, _, _, _, _, e, _⟩
      · exact ⟨none, 0, 0, by simpa using e⟩
      · exact ⟨some a, len, cap, by simpa using e⟩
    have hc : c1.cells.toList = [c1] := by obtain ⟨A, len, cap, rfl⟩ := hv; rfl
    obtain ⟨ys, hs⟩ := sl_of_trodC (K := Kd.u32) (d := (xs[1]).1) (p := (xs[1]).2) h.sl (by rw [h.ce]; rfl) (by decide) (u32_trod h.int) hv ⟨m, by rw [hc]; exact h1'⟩
    exact ⟨b, c1, ys, by rw [e0'], hs⟩
theorem big_arg {r : Reach} {b0 : Nat} {t tb ts te : Nat} {v : Value} {d : DataW H} {p : List MemPlace} (h : BigF P t tb ts te) (hv : Value.okWide P w r b0 t v) (ht : DataW.Trod enc P w 0 (fun _ => true) true t v d p) :
    ∃ ng s xs, v = .agg [.bool ng, s].toArray ∧ Sl Kd.u32 w (fun _ => False) s xs := by
  obtain ⟨fs, hu, hsz, hfs⟩ := fields_out h.is (by simp)
  simp only [Value.okWide, hu] at hv
  obtain ⟨cs, rfl, _⟩ := hv
  obtain ⟨fuel, hf⟩ := ht
  obtain ⟨ng, s, xs, e, hs⟩ := big_of_trod h _ _ _ hf
  refine ⟨ng, s, xs, ?_, hs⟩
  congr 1
  apply Array.toList_inj.1
  simpa [Value.cells] using e
end
end Go.Gw

set_option linter.unusedSimpArgs false
set_option linter.unusedVariables false
/-! ### Differences, products, shifts -/
namespace Go.Gw
open Go.RowKit
theorem ix_set_ne {a : List Int} {i j v : Int} (h0 : 0 ≤ i) (h1 : 0 ≤ j) (h : i ≠ j) : ix (a.set i.toNat v) j = ix a j := by
  unfold ix
  simp [List.getD_eq_getElem?_getD, List.getElem?_set, show ¬ i.toNat = j.toNat by omega]
theorem ix_set_eq {a : List Int} {i v : Int} (h0 : 0 ≤ i) (h1 : i < a.length) : ix (a.set i.toNat v) i = v := by
  unfold ix; simp [show i.toNat < a.length by omega]
theorem sub_step {os a b : List Int} {i c x y : Int} (h : nv (os.take i.toNat) = nv (a.take i.toNat) - nv (b.take i.toNat) + PW i.toNat * c) (h0 : 0 ≤ i) (h1 : i < os.length) (hx : x = ix a i) (hy : y = ix b i) (hxb : 0 ≤ x ∧ x < 4294967296) (hyb : 0 ≤ y ∧ y < 4294967296) (hc : 0 ≤ c ∧ c ≤ 1) :
    nv ((os.set i.toNat ((x - y - c) % 4294967296)).take (i + 1).toNat) = nv (a.take (i + 1).toNat) - nv (b.take (i + 1).toNat) + PW (i + 1).toNat * (if x < y + c then 1 else 0) := by
  rw [set_take h0 h1, nv_take a h0, nv_take b h0, PW_next h0, ← hx, ← hy, h]
  have e : (x - y - c) % 4294967296 = x - y - c + 4294967296 * (if x < y + c then 1 else 0) := by split <;> omega
  rw [e]
  grind
theorem sub_end {os a b : List Int} {i c : Int} (h : nv (os.take i.toNat) = nv (a.take i.toNat) - nv (b.take i.toNat) + PW i.toNat * c) (hi : i = os.length) (hl : os.length = a.length) (hc : 0 ≤ c ∧ c ≤ 1) (ho : Lim os) (ha : Lim a) (hb : Lim b) (hle : nv b ≤ nv a) : nv os = nv a - nv b := by
  have hk : i.toNat = a.length := by omega
  rw [hk] at h
  rw [List.take_of_length_le (by omega), List.take_of_length_le (Nat.le_refl _)] at h
  have hla := nv_lt ha
  have hb2 : nv (b.take a.length) = nv b := by
    by_cases hbl : b.length ≤ a.length
    · rw [List.take_of_length_le hbl]
    · have hs := nv_split b a.length (by omega)
      have h1 := nv_nonneg (hb.take a.length)
      have h2 := nv_nonneg (hb.drop a.length)
      have hp := PW_pos a.length
      have : nv (b.drop a.length) = 0 := by
        rcases Int.lt_or_eq_of_le h2 with h3 | h3
        · have := Int.mul_le_mul_of_nonneg_left (show 1 ≤ nv (b.drop a.length) by omega) (Int.le_of_lt hp)
          omega
        · exact h3.symm
      rw [hs, this]; simp
  rw [hb2] at h
  have h5 := nv_lt ho
  rw [hl] at h5
  have : c = 0 := by
    rcases Int.lt_or_eq_of_le hc.1 with h3 | h3
    · obtain rfl : c = 1 := by omega
      omega
    · exact h3.symm
  subst this
  simp at h
  exact h
theorem mul_bd {x m : Int} (hx : 0 ≤ x ∧ x < 4294967296) (hm : 0 ≤ m ∧ m < 4294967296) : 0 ≤ x * m ∧ x * m ≤ 18446744065119617025 := by
  refine ⟨Int.mul_nonneg hx.1 hm.1, ?_⟩
  have h1 := Int.mul_le_mul (show x ≤ 4294967295 by omega) (show m ≤ 4294967295 by omega) hm.1 (by decide)
  omega
theorem mul_step {os a : List Int} {i c m k : Int} (h : nv (os.take i.toNat) + PW i.toNat * c = nv (a.take i.toNat) * m + k) (h0 : 0 ≤ i) (h1 : i < os.length) :
    nv ((os.set i.toNat ((c + ix a i * m) % 4294967296)).take (i + 1).toNat) + PW (i + 1).toNat * ((c + ix a i * m) / 4294967296) = nv (a.take (i + 1).toNat) * m + k := by
  rw [set_take h0 h1, nv_take a h0, PW_next h0]
  have e := Int.mul_ediv_add_emod (c + ix a i * m) 4294967296
  grind
theorem mul_end {os a : List Int} {i c m k : Int} (h : nv (os.take i.toNat) + PW i.toNat * c = nv (a.take i.toNat) * m + k) (h0 : 0 ≤ i) (hi : i = a.length) (hl : (os.length : Int) = i + 1) :
    nv (os.set (a.length : Int).toNat c) = nv a * m + k := by
  rw [← hi]
  have e := set_take (a := os) (v := c) h0 (by omega)
  rw [List.take_of_length_le (by simp; omega)] at e
  rw [e, h, List.take_of_length_le (by omega)]
/-! #### shifts -/
def fitB (n : Int) : Bool := decide (0 ≤ n) && decide (n ≤ 10000)
def shlL (a : List Int) (n : Int) : List Int := if fitB n then tl (nv a * 2 ^ n.toNat) else []
def shrL (a : List Int) (n : Int) : List Int := if fitB n then tl (nv a / 2 ^ n.toNat) else []
theorem PW_add (i j : Nat) : PW (i + j) = PW i * PW j := by unfold PW; rw [Int.pow_add]
theorem PW_two (k : Nat) : PW k = 2 ^ (32 * k) := by unfold PW; rw [Int.pow_mul]; rfl
theorem two_split {n : Int} (h : 0 ≤ n) : (2 : Int) ^ n.toNat = PW (n / 32).toNat * 2 ^ (n % 32).toNat := by
  rw [PW_two, ← Int.pow_add]; congr 1; omega
theorem two_pos (k : Nat) : (0 : Int) < 2 ^ k := Int.pow_pos (by decide)
/-- A part of a limb's bits: their power goes into the base. -/
theorem two_part {s : Int} (h0 : 0 ≤ s) (h1 : s < 32) : ∃ r : Int, 0 < r ∧ 2 ^ s.toNat * r = 4294967296 := by
  refine ⟨2 ^ (32 - s).toNat, two_pos _, ?_⟩
  rw [← Int.pow_add, show s.toNat + (32 - s).toNat = 32 by omega]; rfl
theorem nv_drop_step {d : List Int} {i : Int} (h0 : 0 ≤ i) (h1 : i < d.length) : nv (d.drop i.toNat) = ix d i + 4294967296 * nv (d.drop (i + 1).toNat) := by
  have hlt : i.toNat < d.length := by omega
  have e : ix d i = d[i.toNat] := by unfold ix; simp [hlt]
  rw [List.drop_eq_getElem_cons hlt, show (i + 1).toNat = i.toNat + 1 by omega, e]
  rfl
theorem nv_drop_mod {d : List Int} (hd : Lim d) {i : Int} (h0 : 0 ≤ i) : nv (d.drop i.toNat) % 4294967296 = ix d i := by
  by_cases h1 : i < d.length
  · have := hd.ix i
    rw [nv_drop_step h0 h1]; omega
  · rw [List.drop_of_length_le (by omega), ix_over (by omega)]; rfl
theorem ior_add {h x : Int} (hh : 0 ≤ h ∧ h < 4294967296) (hx : 0 ≤ x ∧ x < 4294967296) : ior (h * 4294967296 % 18446744073709551616) x = h * 4294967296 + x := by
  rw [Int.emod_eq_of_lt (by omega) (by omega)]
  obtain ⟨H, rfl⟩ := Int.eq_ofNat_of_zero_le hh.1
  obtain ⟨X, rfl⟩ := Int.eq_ofNat_of_zero_le hx.1
  have e : ((2 ^ 32 * H : Nat) : Int) = (H : Int) * 4294967296 := by rw [Int.natCast_mul, Int.mul_comm]; rfl
  rw [← e, ior_nat, ← Nat.two_pow_add_eq_or_of_lt (show X < 2 ^ 32 by omega), Int.natCast_add]
theorem shr_digit {x T p h : Int} (hx : 0 ≤ x ∧ x < 4294967296) (hh : h = T % 4294967296) (hp : 0 < p) (hr : ∃ r : Int, 0 < r ∧ p * r = 4294967296) : (x + 4294967296 * T) / p = ((h * 4294967296 + x) / p) % 4294967296 + 4294967296 * (T / p) := by
  obtain ⟨r, hr0, hr⟩ := hr
  have e1 : (x + 4294967296 * T) / p = x / p + r * T := by
    rw [← hr, show x + p * r * T = x + p * (r * T) by grind, Int.add_mul_ediv_left _ _ (by omega)]
  have e2 : (h * 4294967296 + x) / p = x / p + r * h := by
    rw [← hr, show h * (p * r) + x = x + p * (r * h) by grind, Int.add_mul_ediv_left _ _ (by omega)]
  have hTp := Int.mul_ediv_add_emod T p
  have hhp := Int.mul_ediv_add_emod h p
  have hmod : h % p = T % p := by
    rw [hh, ← hr]; exact Int.emod_emod_of_dvd _ ⟨r, rfl⟩
  have b1 := Int.emod_nonneg T (show p ≠ 0 by omega)
  have b2 := Int.emod_lt_of_pos T hp
  have hxr : x / p < r := Int.ediv_lt_of_lt_mul hp (by rw [Int.mul_comm, hr]; exact hx.2)
  have hx0 := Int.ediv_nonneg hx.1 (Int.le_of_lt hp)
  have b3 : r * (T % p) ≤ r * (p - 1) := Int.mul_le_mul_of_nonneg_left (by omega) (by omega)
  have b4 : 0 ≤ r * (T % p) := Int.mul_nonneg (by omega) b1
  have hrp : r * (p - 1) = 4294967296 - r := by rw [← hr]; grind
  have e3 : x / p + r * h = x / p + r * (T % p) + 4294967296 * (h / p) := by rw [← hr, ← hmod]; grind
  have e4 : x / p + r * T = x / p + r * (T % p) + 4294967296 * (T / p) := by rw [← hr]; grind
  have hA0 : 0 ≤ x / p + r * (T % p) := Int.add_nonneg hx0 b4
  have hA1 : x / p + r * (T % p) < 4294967296 := by
    have := Int.add_lt_add_of_lt_of_le hxr b3
    rw [hrp] at this
    have e9 : r + (4294967296 - r) = 4294967296 := by omega
    rwa [e9] at this
  rw [e1, e2, e3, e4, Int.add_mul_emod_self_left, Int.emod_eq_of_lt hA0 hA1]
theorem shr_step {os d : List Int} {i p : Int} (hd : Lim d) (h : nv (os.take i.toNat) + PW i.toNat * (nv (d.drop i.toNat) / p) = nv d / p) (h0 : 0 ≤ i) (h1 : i < os.length) (hl : os.length = d.length) (hp : 0 < p) (hr : ∃ r : Int, 0 < r ∧ p * r = 4294967296)
    {x h' : Int} (hx : x = ix d i) (hh : h' = ix d (i + 1)) :
    nv ((os.set i.toNat ((ior (h' * 4294967296 % 18446744073709551616) x / p) % 4294967296)).take (i + 1).toNat) + PW (i + 1).toNat * (nv (d.drop (i + 1).toNat) / p) = nv d / p := by
  have hxb := hd.ix i
  have hhb := hd.ix (i + 1)
  rw [set_take h0 h1, PW_next h0, ior_add (by rw [hh]; exact hhb) (by rw [hx]; exact hxb), ← h, nv_drop_step h0 (by omega), shr_digit (h := h') hxb (by rw [nv_drop_mod hd (by omega), hh]) hp hr, hx]
  grind
theorem shr_end {os d : List Int} {i p : Int} (h : nv (os.take i.toNat) + PW i.toNat * (nv (d.drop i.toNat) / p) = nv d / p) (hi : i = os.length) (hl : os.length = d.length) : nv os = nv d / p := by
  rw [List.take_of_length_le (by omega), List.drop_of_length_le (by omega)] at h
  simp [nv] at h
  exact h
theorem nv_shr {a : List Int} (ha : Lim a) {n : Int} (h0 : 0 ≤ n) (h1 : n / 32 < a.length) : nv (a.drop (n / 32).toNat) / 2 ^ (n % 32).toNat = nv a / 2 ^ n.toNat := by
  have hs := nv_split a (n / 32).toNat (by omega)
  have hlt := nv_lt (ha.take (n / 32).toNat)
  rw [show (a.take (n / 32).toNat).length = (n / 32).toNat by simp; omega] at hlt
  have h2 := nv_nonneg (ha.take (n / 32).toNat)
  have hp := PW_pos (n / 32).toNat
  rw [two_split h0, ← Int.ediv_ediv_of_nonneg (Int.le_of_lt hp)]
  congr 1
  rw [hs, Int.add_mul_ediv_left _ _ (by omega), Int.ediv_eq_zero_of_lt h2 hlt]
  simp
theorem shr_over {a : List Int} (ha : Lim a) {n : Int} (h0 : 0 ≤ n) (h1 : (a.length : Int) ≤ n / 32) : tl (nv a / 2 ^ n.toNat) = [] := by
  have h2 := nv_nonneg ha
  have h3 := nv_lt ha
  have h4 := PW_le (show a.length ≤ (n / 32).toNat by omega)
  have h5 := two_pos (n % 32).toNat
  have h6 : PW (n / 32).toNat * 1 ≤ PW (n / 32).toNat * 2 ^ (n % 32).toNat := Int.mul_le_mul_of_nonneg_left (by omega) (Int.le_of_lt (PW_pos _))
  rw [two_split h0, Int.ediv_eq_zero_of_lt h2 (by omega)]
  exact tl_zero (Int.le_refl _)
/-- Below a multiple of a power: one beside the other. -/
theorem ior_part {h l p : Int} (hp : ∃ s : Int, 0 ≤ s ∧ p = 2 ^ s.toNat) (hh : 0 ≤ h ∧ h < p) (hl : 0 ≤ l) (hm : l % p = 0) : ior h l = h + l := by
  obtain ⟨s, hs, rfl⟩ := hp
  obtain ⟨k, hk⟩ : ∃ k, l = 2 ^ s.toNat * k := ⟨l / 2 ^ s.toNat, by have := Int.mul_ediv_add_emod l (2 ^ s.toNat); omega⟩
  have hk0 : 0 ≤ k := by
    rcases Int.lt_or_le k 0 with h3 | h3
    · have := Int.mul_neg_of_pos_of_neg (two_pos s.toNat) h3
      omega
    · exact h3
  obtain ⟨H, rfl⟩ := Int.eq_ofNat_of_zero_le hh.1
  obtain ⟨K, rfl⟩ := Int.eq_ofNat_of_zero_le hk0
  have hH : H < 2 ^ s.toNat := by
    have h1 := hh.2
    have h2 : ((2 ^ s.toNat : Nat) : Int) = (2 : Int) ^ s.toNat := by simp
    omega
  have e : ((2 ^ s.toNat * K : Nat) : Int) = (2 : Int) ^ s.toNat * (K : Int) := by rw [Int.natCast_mul]; simp
  rw [hk, ← e, ior_nat, Nat.or_comm, ← Nat.two_pow_add_eq_or_of_lt hH, Int.natCast_add]
  omega
end Go.Gw

set_option linter.unusedSimpArgs false
set_option linter.unusedVariables false
namespace Go.Gw
open Go.RowKit
theorem ix_zeros (k : Nat) (j : Int) : ix (List.replicate k (0 : Int)) j = 0 := by
  unfold ix
  by_cases h : j.toNat < k
  · simp [h]
  · have e : (List.replicate k (0 : Int)).getD j.toNat default = default := by simp [show k ≤ j.toNat by omega]
    rw [e]; rfl
theorem nv_rep : ∀ k : Nat, nv (List.replicate k (0 : Int)) = 0
  | 0 => rfl
  | k + 1 => by rw [List.replicate_succ]; simp only [nv]; rw [nv_rep k]; rfl
theorem nv_zeros (k j : Nat) : nv ((List.replicate k (0 : Int)).take j) = 0 := by rw [List.take_replicate, nv_rep]
theorem shl_alg {A Pi Pq h X p x lo hi : Int} (hn : A + Pi * Pq * h = X * (Pq * p)) (e : 4294967296 * hi + lo = x * p) : A + Pi * Pq * (h + lo) + 4294967296 * (Pi * Pq) * hi = (X + Pi * x) * (Pq * p) := by
  have e1 : Pi * Pq * (4294967296 * hi + lo) = Pi * Pq * (x * p) := by rw [e]
  grind
theorem shl_step {os xs : List Int} {i n : Int} (hx : Lim xs) (ho : Lim os) (h0 : 0 ≤ i) (h1 : i < xs.length) (hn0 : 0 ≤ n) (hol : (os.length : Int) = xs.length + n / 32 + 1) (hz : ∀ j : Int, i + n / 32 < j → ix os j = 0)
    (hp : ix os (i + n / 32) < 2 ^ (n % 32).toNat) (hn : nv (os.take (i + n / 32 + 1).toNat) = nv (xs.take i.toNat) * 2 ^ n.toNat) :
    nv (((os.set (i + n / 32).toNat (ior (ix os (i + n / 32)) ((ix xs i * 2 ^ (n % 32).toNat) % 4294967296))).set (i + n / 32 + 1).toNat (ior (ix (os.set (i + n / 32).toNat (ior (ix os (i + n / 32)) ((ix xs i * 2 ^ (n % 32).toNat) % 4294967296))) (i + n / 32 + 1)) (((ix xs i * 2 ^ (n % 32).toNat) % 18446744073709551616) / 4294967296 % 4294967296))).take (i + 1 + n / 32 + 1).toNat) = nv (xs.take (i + 1).toNat) * 2 ^ n.toNat ∧
    ix ((os.set (i + n / 32).toNat (ior (ix os (i + n / 32)) ((ix xs i * 2 ^ (n % 32).toNat) % 4294967296))).set (i + n / 32 + 1).toNat (ior (ix (os.set (i + n / 32).toNat (ior (ix os (i + n / 32)) ((ix xs i * 2 ^ (n % 32).toNat) % 4294967296))) (i + n / 32 + 1)) (((ix xs i * 2 ^ (n % 32).toNat) % 18446744073709551616) / 4294967296 % 4294967296))) (i + 1 + n / 32) < 2 ^ (n % 32).toNat ∧
    ∀ j : Int, i + 1 + n / 32 < j → ix ((os.set (i + n / 32).toNat (ior (ix os (i + n / 32)) ((ix xs i * 2 ^ (n % 32).toNat) % 4294967296))).set (i + n / 32 + 1).toNat (ior (ix (os.set (i + n / 32).toNat (ior (ix os (i + n / 32)) ((ix xs i * 2 ^ (n % 32).toNat) % 4294967296))) (i + n / 32 + 1)) (((ix xs i * 2 ^ (n % 32).toNat) % 18446744073709551616) / 4294967296 % 4294967296))) j = 0 := by
  have hxb := hx.ix i
  have hob := ho.ix (i + n / 32)
  obtain ⟨r, hr0, hr⟩ := two_part (s := n % 32) (by omega) (by omega)
  have hp0 := two_pos (n % 32).toNat
  have hts := two_split hn0
  generalize hP : (2 : Int) ^ (n % 32).toNat = p at *
  have hpe : ∃ s : Int, 0 ≤ s ∧ p = 2 ^ s.toNat := ⟨n % 32, by omega, hP.symm⟩
  generalize hxe : ix xs i = x at hxb ⊢
  -- the two parts of what is shifted
  have hxp0 : 0 ≤ x * p := Int.mul_nonneg hxb.1 (Int.le_of_lt hp0)
  have hxp1 : x * p < 4294967296 * p := Int.mul_lt_mul_of_pos_right hxb.2 hp0
  have hpB : p ≤ 4294967296 := by
    have := Int.mul_le_mul_of_nonneg_left (show 1 ≤ r by omega) (Int.le_of_lt hp0)
    rw [hr] at this; omega
  have e64 : x * p % 18446744073709551616 = x * p := Int.emod_eq_of_lt hxp0 (by omega)
  rw [e64]
  have hhi : x * p / 4294967296 < p := Int.ediv_lt_of_lt_mul (by decide) (by omega)
  have hhi0 : 0 ≤ x * p / 4294967296 := Int.ediv_nonneg hxp0 (by decide)
  have ehi : x * p / 4294967296 % 4294967296 = x * p / 4294967296 := Int.emod_eq_of_lt hhi0 (by omega)
  rw [ehi]
  have hlo : x * p % 4294967296 % p = 0 := by
    rw [← hr, Int.emod_emod_of_dvd _ ⟨r, rfl⟩, Int.mul_emod_left]
  have e1 : ior (ix os (i + n / 32)) (x * p % 4294967296) = ix os (i + n / 32) + x * p % 4294967296 := ior_part hpe ⟨hob.1, hp⟩ (by omega) hlo
  rw [e1]
  have ez : ix (os.set (i + n / 32).toNat (ix os (i + n / 32) + x * p % 4294967296)) (i + n / 32 + 1) = 0 := by
    rw [ix_set_ne (by omega) (by omega) (by omega)]; exact hz _ (by omega)
  rw [ez]
  have e2 : ior 0 (x * p / 4294967296) = x * p / 4294967296 := by unfold ior; simp; omega
  rw [e2]
  refine ⟨?_, ?_, ?_⟩
  · rw [show i + 1 + n / 32 + 1 = (i + n / 32 + 1) + 1 by omega, set_take (by omega) (by rw [List.length_set]; omega), set_take (by omega) (by omega), PW_next (by omega)]
    have h5 := nv_take os (i := i + n / 32) (by omega)
    rw [h5] at hn
    rw [nv_take xs h0, hts, hxe]
    have e3 := Int.mul_ediv_add_emod (x * p) 4294967296
    have e4 : PW (i + n / 32).toNat = PW i.toNat * PW (n / 32).toNat := by rw [← PW_add]; congr 1; omega
    rw [hts, e4] at hn
    rw [e4]
    exact shl_alg hn e3
  · rw [show i + 1 + n / 32 = i + n / 32 + 1 by omega, ix_set_eq (by omega) (by rw [List.length_set]; omega)]; exact hhi
  · intro j hj
    rw [ix_set_ne (by omega) (by omega) (by omega), ix_set_ne (by omega) (by omega) (by omega)]
    exact hz j (by omega)
theorem shl_end {os xs : List Int} {i n : Int} (hn : nv (os.take (i + n / 32 + 1).toNat) = nv (xs.take i.toNat) * 2 ^ n.toNat) (hi : i = xs.length) (hol : (os.length : Int) = xs.length + n / 32 + 1) : nv os = nv xs * 2 ^ n.toNat := by
  rwa [List.take_of_length_le (by omega), List.take_of_length_le (by omega)] at hn
end Go.Gw

set_option linter.unusedSimpArgs false
set_option linter.unusedVariables false
/-! ### Quotients, lengths, single bits -/
namespace Go.Gw
open Go.RowKit
theorem div32_q {h l y : Int} (hh : 0 ≤ h) (hl : 0 ≤ l ∧ l < 4294967296) (hy : h < y) : 0 ≤ (h * 4294967296 + l) / y ∧ (h * 4294967296 + l) / y < 4294967296 :=
  ⟨Int.ediv_nonneg (by omega) (by omega), Int.ediv_lt_of_lt_mul (by omega) (by omega)⟩
theorem div32_r {h l y : Int} (hh : 0 ≤ h) (hl : 0 ≤ l ∧ l < 4294967296) (hy : h < y) : 0 ≤ (h * 4294967296 + l) % y ∧ (h * 4294967296 + l) % y < y :=
  ⟨Int.emod_nonneg _ (by omega), Int.emod_lt_of_pos _ (by omega)⟩
def DivSt (xs : List Int) (m : Int) (pre : List (LX xs)) (os : List Int) (l : Int) : Prop :=
  ∀ k, pre.map (·.1) = bkt xs k → k ≤ xs.length → l = nv (xs.drop (xs.length - k)) % m ∧ nv (os.drop (xs.length - k)) = nv (xs.drop (xs.length - k)) / m
theorem divSt_nil {xs os : List Int} {m : Int} (hl : os.length = xs.length) : DivSt xs m [] os 0 := by
  intro k h _
  have := congrArg List.length h
  rw [bkt_len] at this
  obtain rfl : k = 0 := by simpa using this.symm
  rw [Nat.sub_zero, List.drop_length, List.drop_of_length_le (by omega)]
  simp [nv]
theorem divmod_step {x N m : Int} (hm : 0 < m) : (x + 4294967296 * N) % m = (N % m * 4294967296 + x) % m ∧ (x + 4294967296 * N) / m = (N % m * 4294967296 + x) / m + 4294967296 * (N / m) := by
  have e := Int.mul_ediv_add_emod N m
  have e1 : x + 4294967296 * N = (N % m * 4294967296 + x) + m * (4294967296 * (N / m)) := by grind
  constructor
  · rw [e1, Int.add_mul_emod_self_left]
  · rw [e1, Int.add_mul_ediv_left _ _ (by omega)]
theorem drop_set_self {os : List Int} {j : Int} (q : Int) (h0 : 0 ≤ j) (h1 : j < os.length) : (os.set j.toNat q).drop j.toNat = q :: os.drop (j + 1).toNat := by
  rw [List.drop_eq_getElem_cons (by rw [List.length_set]; omega), show (j + 1).toNat = j.toNat + 1 by omega, List.drop_set_of_lt (by omega)]
  simp
theorem div_step {xs os : List Int} {m l : Int} {pre : List (LX xs)} {x : LX xs} (h : DivSt xs m pre os l) (hl : os.length = xs.length) (hm : 0 < m) :
    DivSt xs m (pre ++ [x]) (os.set x.1.1.toNat ((l * 4294967296 + x.1.2) / m)) ((l * 4294967296 + x.1.2) % m) := by
  intro k hk hkl
  obtain ⟨hj, _⟩ := bkt_last hk
  have hlen := congrArg List.length hk
  rw [List.length_map, bkt_len, List.length_append, List.length_singleton] at hlen
  obtain rfl : k = pre.length + 1 := hlen.symm
  rw [bkt_succ, List.map_append] at hk
  obtain ⟨hk1, _⟩ := List.append_inj' hk rfl
  obtain ⟨g1, g2⟩ := h _ hk1 (by omega)
  obtain ⟨x0, x1, x2⟩ := x.2
  have e1 : xs.length - (pre.length + 1) = x.1.1.toNat := by omega
  have e2 : xs.length - pre.length = (x.1.1 + 1).toNat := by omega
  rw [e1, drop_set_self _ x0 (by omega), nv_drop_step x0 x1, ← x2]
  rw [e2] at g1 g2
  obtain ⟨s1, s2⟩ := divmod_step (x := x.1.2) (N := nv (xs.drop (x.1.1 + 1).toNat)) hm
  rw [s1, s2, ← g1]
  refine ⟨rfl, ?_⟩
  show _ + 4294967296 * nv _ = _
  rw [g2]
theorem div_end {xs os : List Int} {m l : Int} {pre : List (LX xs)} (h : DivSt xs m pre os l) (hp : pre.map (·.1) = bkt xs xs.length) : l = nv xs % m ∧ nv os = nv xs / m := by
  have := h _ hp (Nat.le_refl _)
  simpa using this
/-! #### how many bits -/
def blen (n : Int) : Int := if n ≤ 0 then 0 else (n.toNat.log2 : Int) + 1
theorem blen_zero {n : Int} (h : n ≤ 0) : blen n = 0 := by unfold blen; rw [if_pos h]
theorem blen_pos {n : Int} (h : 0 < n) : blen n = (n.toNat.log2 : Int) + 1 := by unfold blen; rw [if_neg (by omega)]
theorem blen_bd {n : Int} {k : Nat} (h : 2 ^ k ≤ n) (h2 : n < 2 ^ (k + 1)) : blen n = k + 1 := by
  have h0 : (0 : Int) < 2 ^ k := two_pos k
  rw [blen_pos (by omega)]
  have h3 : n.toNat.log2 = k := by
    rw [Nat.log2_eq_iff (by omega)]
    have e1 : ((2 ^ k : Nat) : Int) = (2 : Int) ^ k := by simp
    have e2 : ((2 ^ (k + 1) : Nat) : Int) = (2 : Int) ^ (k + 1) := by simp
    omega
  rw [h3]
theorem blen_spec {n : Int} (h : 0 < n) : ∃ k : Nat, blen n = k + 1 ∧ 2 ^ k ≤ n ∧ n < 2 ^ (k + 1) := by
  refine ⟨n.toNat.log2, blen_pos h, ?_, ?_⟩
  · have := Nat.log2_self_le (n := n.toNat) (by omega)
    have e1 : ((2 ^ n.toNat.log2 : Nat) : Int) = (2 : Int) ^ n.toNat.log2 := by simp
    omega
  · have := Nat.lt_log2_self (n := n.toNat)
    have e1 : ((2 ^ (n.toNat.log2 + 1) : Nat) : Int) = (2 : Int) ^ (n.toNat.log2 + 1) := by simp
    omega
/-- What lies above a power of two, and something below it. -/
theorem blen_add {N l : Int} {j : Nat} (hN : 0 < N) (hl : 0 ≤ l ∧ l < 2 ^ j) : blen (l + 2 ^ j * N) = j + blen N := by
  obtain ⟨k, e, h1, h2⟩ := blen_spec hN
  have hp := two_pos j
  have e1 : (2 : Int) ^ (j + k) = 2 ^ j * 2 ^ k := Int.pow_add ..
  have e2 : (2 : Int) ^ (j + k + 1) = 2 ^ j * 2 ^ (k + 1) := by rw [← Int.pow_add]; rfl
  have m1 := Int.mul_le_mul_of_nonneg_left h1 (Int.le_of_lt hp)
  have m2 := Int.mul_le_mul_of_nonneg_left (show N + 1 ≤ 2 ^ (k + 1) by omega) (Int.le_of_lt hp)
  rw [blen_bd (k := j + k) (by rw [e1]; omega) (by rw [e2]; grind), e]
  push_cast; omega
theorem blen_last {a : List Int} (h : Lim a) (hr : rightB a = true) (hne : ¬ (a.length : Int) = 0) : ((a.length : Int) - 1) * 32 + blen (ix a ((a.length : Int) - 1)) = blen (nv a) := by
  obtain ⟨i, z, rfl⟩ : ∃ i z, a = i ++ [z] := ⟨a.dropLast, a.getLast (fun e => hne (by rw [e]; rfl)), (List.dropLast_concat_getLast _).symm⟩
  rw [rightB_snoc] at hr
  have hz := h z (by simp)
  have h0 : z ≠ 0 := by simpa using hr
  have hi : Lim i := fun x hx => h x (by simp [hx])
  have h1 := nv_nonneg hi
  have h2 := nv_lt hi
  rw [ix_last, nv_snoc, PW_two]
  rw [PW_two] at h2
  rw [blen_add (by omega) ⟨h1, h2⟩]
  simp; omega
theorem blen_step {x : Int} (k : Nat) (h : 2 ^ k ≤ x) : blen x = k + blen (x / 2 ^ k) := by
  have hp := two_pos k
  have e := Int.mul_ediv_add_emod x (2 ^ k)
  have e0 := Int.emod_nonneg x (show (2 : Int) ^ k ≠ 0 by omega)
  have e1 := Int.emod_lt_of_pos x hp
  have hq : 0 < x / 2 ^ k := Int.lt_of_lt_of_le (by decide) (show 1 ≤ x / 2 ^ k from (Int.le_ediv_iff_mul_le hp).2 (by omega))
  conv => lhs; rw [show x = x % 2 ^ k + 2 ^ k * (x / 2 ^ k) by omega]
  exact blen_add hq ⟨e0, e1⟩
/-- Bit number i. -/
def bitB (n i : Int) : Bool := decide (0 ≤ i) && decide (n / 2 ^ i.toNat % 2 = 1)
theorem two_part' {s : Int} (h0 : 0 ≤ s) (h1 : s ≤ 32) : ∃ r : Int, 0 < r ∧ 2 ^ s.toNat * r = 4294967296 := by
  refine ⟨2 ^ (32 - s).toNat, two_pos _, ?_⟩
  rw [← Int.pow_add, show s.toNat + (32 - s).toNat = 32 by omega]; rfl
theorem bit_limb {a : List Int} (h : Lim a) {i : Int} (h0 : 0 ≤ i) (h1 : i / 32 < a.length) : (nv a / 2 ^ i.toNat) % 2 = (ix a (i / 32) / 2 ^ (i % 32).toNat) % 2 := by
  rw [← nv_shr h h0 h1, nv_drop_step (i := i / 32) (by omega) h1]
  obtain ⟨r, hr0, hr⟩ := two_part' (s := i % 32 + 1) (by omega) (by omega)
  rw [show (i % 32 + 1).toNat = (i % 32).toNat + 1 by omega, Int.pow_succ] at hr
  have e : ix a (i / 32) + 4294967296 * nv (a.drop (i / 32 + 1).toNat) = ix a (i / 32) + 2 ^ (i % 32).toNat * (2 * (r * nv (a.drop (i / 32 + 1).toNat))) := by rw [← hr]; grind
  have hp := two_pos (i % 32).toNat
  rw [e, Int.add_mul_ediv_left _ _ (by omega), Int.add_mul_emod_self_left]
theorem bit_over {a : List Int} (h : Lim a) {i : Int} (h0 : 0 ≤ i) (h1 : (a.length : Int) ≤ i / 32) : nv a / 2 ^ i.toNat = 0 := by
  have h2 := nv_nonneg h
  have h3 := nv_lt h
  have h4 := PW_le (show a.length ≤ (i / 32).toNat by omega)
  have h5 := two_pos (i % 32).toNat
  have h6 : PW (i / 32).toNat * 1 ≤ PW (i / 32).toNat * 2 ^ (i % 32).toNat := Int.mul_le_mul_of_nonneg_left (by omega) (Int.le_of_lt (PW_pos _))
  rw [two_split h0, Int.ediv_eq_zero_of_lt h2 (by omega)]
theorem iand_one {a : Int} (h : 0 ≤ a) : iand a 1 = a % 2 := by
  obtain ⟨A, rfl⟩ := Int.eq_ofNat_of_zero_le h
  have : iand (A : Int) 1 = ((A &&& 1 : Nat) : Int) := rfl
  rw [this, Nat.and_one_is_mod]; omega
end Go.Gw

set_option linter.unusedSimpArgs false
set_option linter.unusedVariables false
namespace Go.Gw
open Go.RowKit
def tabL : List Int := (List.range 256).map fun j : Nat => blen (j : Int)
theorem tab_lt {S : ByteArray} {i : Int} (h : bl S = tabL) (hi : i < 256) : i < (bl S).length := by rw [h]; unfold tabL; simp; omega
theorem bl_le (S : ByteArray) (i : Int) : 0 ≤ ix (bl S) i ∧ ix (bl S) i ≤ 255 := by
  have := bl_range S i
  omega
theorem bl_conv (S : ByteArray) (i : Int) : -9223372036854775808 ≤ ix (bl S) i ∧ ix (bl S) i ≤ 9223372036854775807 := by have := bl_le S i; omega
theorem bl_add {S : ByteArray} {i N : Int} (h : 0 ≤ N ∧ N ≤ 100) : -9223372036854775808 ≤ N + ix (bl S) i ∧ N + ix (bl S) i ≤ 9223372036854775807 := by have := bl_le S i; omega
theorem blen16 {x : Int} (h : 65536 ≤ x) : blen x = 16 + blen (x / 65536) := blen_step 16 h
theorem blen8 {x : Int} (h : 256 ≤ x) : blen x = 8 + blen (x / 256) := blen_step 8 h
theorem len_fin {S : ByteArray} {N x x' : Int} (hS : bl S = tabL) (h : blen x = N + blen x') (hx : 0 ≤ x' ∧ x' < 256) : N + ix (bl S) (x' % 256) = blen x := by
  rw [hS, h, Int.emod_eq_of_lt hx.1 hx.2]
  congr 1
  unfold ix tabL
  have : x'.toNat < 256 := by omega
  simp [this, show ((x'.toNat : Nat) : Int) = x' by omega]
theorem blen_le {x : Int} (h : 0 ≤ x ∧ x < 4294967296) : 0 ≤ blen x ∧ blen x ≤ 32 := by
  rcases Int.lt_or_le 0 x with h0 | h0
  · rw [blen_pos h0]
    have : x.toNat.log2 < 32 := (Nat.log2_lt (by omega)).2 (by omega)
    omega
  · rw [blen_zero h0]; omega
theorem tl_len {n : Int} (h0 : 0 ≤ n) {k : Nat} (h : n < PW k) : (tl n).length ≤ k := by
  rcases Nat.lt_or_ge k (tl n).length with h1 | h1
  · have h2 := nv_ge (lim_tl n) (right_tl n) (by intro e; rw [e] at h1; simp at h1)
    rw [nv_tl h0] at h2
    have := PW_le (show k ≤ (tl n).length - 1 by omega)
    omega
  · exact h1
theorem shr_bd {x : Int} (h : 0 ≤ x ∧ x < 4294967296) (s : Int) : 0 ≤ x / 2 ^ s.toNat ∧ x / 2 ^ s.toNat < 4294967296 :=
  ⟨Int.ediv_nonneg h.1 (Int.le_of_lt (two_pos _)), Int.lt_of_le_of_lt (Int.ediv_le_self _ h.1) h.2⟩
theorem bit_no1 {n i : Int} (h : ¬ 0 ≤ i) : bitB n i = false := by unfold bitB; simp [h]
theorem bit_no2 {a : List Int} (h : Lim a) {i : Int} (h0 : 0 ≤ i) (h1 : ¬ i / 32 < a.length) : bitB (nv a) i = false := by
  unfold bitB; rw [bit_over h h0 (by omega)]; simp
theorem bit_yes {a : List Int} (h : Lim a) {i : Int} (h0 : 0 ≤ i) (h1 : i / 32 < a.length) : decide (iand (ix a (i / 32) / 2 ^ (i % 32).toNat) 1 = 1) = bitB (nv a) i := by
  unfold bitB
  rw [decide_eq_true h0, Bool.true_and, bit_limb h h0 h1, iand_one (shr_bd (h.ix _) _).1]
end Go.Gw

set_option linter.unusedSimpArgs false
set_option linter.unusedVariables false
/-! ### Bits -/
namespace Go.Gw
open Go.RowKit
def bn (b : Bool) : Int := if b then 1 else 0
theorem bn_bd (b : Bool) : 0 ≤ bn b ∧ bn b ≤ 1 := by cases b <;> decide
def bv : List Bool → Int
  | [] => 0
  | b :: r => bn b + 2 * bv r
theorem bv_bd : ∀ b : List Bool, 0 ≤ bv b ∧ bv b < 2 ^ b.length
  | [] => by decide
  | b :: r => by
    have h := bv_bd r
    have := bn_bd b
    rw [List.length_cons, Int.pow_succ]; unfold bv; omega
theorem bv_append : ∀ a b : List Bool, bv (a ++ b) = bv a + 2 ^ a.length * bv b
  | [], b => by simp [bv]
  | x :: r, b => by
    have := bv_append r b
    simp only [List.cons_append, bv, List.length_cons, Int.pow_succ]
    rw [this]; grind
theorem bv_snoc (a : List Bool) (x : Bool) : bv (a ++ [x]) = bv a + 2 ^ a.length * bn x := by rw [bv_append]; simp [bv]
def tb (n : Int) : List Bool := if h : n ≤ 0 then [] else decide (n % 2 = 1) :: tb (n / 2)
termination_by n.toNat
decreasing_by omega
theorem tb_zero {n : Int} (h : n ≤ 0) : tb n = [] := by unfold tb; rw [dif_pos h]
theorem tb_pos {n : Int} (h : 0 < n) : tb n = decide (n % 2 = 1) :: tb (n / 2) := by rw [tb, dif_neg (by omega)]
theorem bn_odd {n : Int} : bn (decide (n % 2 = 1)) = n % 2 := by
  unfold bn
  by_cases h : n % 2 = 1 <;> simp [h]; omega
theorem bv_tb {n : Int} (h : 0 ≤ n) : bv (tb n) = n := by
  unfold tb
  split
  · simp only [bv]; omega
  · have := bv_tb (n := n / 2) (by omega)
    simp only [bv]; rw [this, bn_odd]; omega
termination_by n.toNat
decreasing_by omega
theorem tb_len {n : Int} : ((tb n).length : Int) = blen n := by
  by_cases h : n ≤ 0
  · rw [tb_zero h, blen_zero h]; rfl
  · have ih := tb_len (n := n / 2)
    rw [tb_pos (by omega), List.length_cons]
    by_cases h1 : n = 1
    · subst h1; rw [tb_zero (by decide)]; rfl
    · rw [blen_step (x := n) 1 (by omega)]
      have e : (2 : Int) ^ 1 = 2 := rfl
      rw [e, ← ih]; push_cast; omega
termination_by n.toNat
decreasing_by omega
def rightC (b : List Bool) : Prop := b = [] ∨ ix b ((b.length : Int) - 1) = true
theorem ixb_last (a : List Bool) (x : Bool) : ix (a ++ [x]) (((a ++ [x]).length : Int) - 1) = x := by
  unfold ix; rw [show ((((a ++ [x]).length : Nat) : Int) - 1).toNat = a.length by simp]; simp
theorem tb_bv : ∀ {b : List Bool}, rightC b → tb (bv b) = b
  | [], _ => tb_zero (Int.le_refl _)
  | [x], h => by
    rcases h with h | h
    · cases h
    · have : x = true := (ixb_last [] x).symm.trans h
      subst this
      rw [show bv [true] = 1 from rfl, tb_pos (by decide), tb_zero (by decide)]; rfl
  | x :: y :: r, h => by
    have hr : rightC (y :: r) := by
      rcases h with h | h
      · cases h
      · refine .inr ?_
        obtain ⟨i, z, e⟩ : ∃ i z, y :: r = i ++ [z] := ⟨(y :: r).dropLast, (y :: r).getLast (by simp), (List.dropLast_concat_getLast _).symm⟩
        rw [e, show x :: (i ++ [z]) = (x :: i) ++ [z] by rfl, ixb_last] at h
        rw [e, ixb_last]; exact h
    have ih := tb_bv hr
    have hb := bv_bd (y :: r)
    have hx := bn_bd x
    have h0 : bv (y :: r) ≠ 0 := fun e => by rw [e, tb_zero (Int.le_refl _)] at ih; cases ih
    rw [show bv (x :: y :: r) = bn x + 2 * bv (y :: r) from rfl, tb_pos (by omega), show (bn x + 2 * bv (y :: r)) / 2 = bv (y :: r) by omega, ih]
    congr 1
    cases x <;> simp [bn] <;> omega
theorem bv_cut {a : List Bool} (h1 : 0 < (a.length : Int)) (h : ¬ ix a ((a.length : Int) - 1) = true) : bv (a.take (a.length - 1)) = bv a := by
  obtain ⟨i, z, rfl⟩ : ∃ i z, a = i ++ [z] := ⟨a.dropLast, a.getLast (by intro e; subst e; simp at h1), (List.dropLast_concat_getLast _).symm⟩
  rw [ixb_last] at h
  have : z = false := by simpa using h
  subst this
  rw [bv_snoc, show (i ++ [false]).take ((i ++ [false]).length - 1) = i by simp]
  simp [bn]
/-- Bits of a number, one by one. -/
theorem tb_ix {n : Int} (h0 : 0 ≤ n) {i : Int} (hi : 0 ≤ i) : ix (tb n) i = decide (n / 2 ^ i.toNat % 2 = 1) := by
  by_cases h : n ≤ 0
  · rw [tb_zero h, show n = 0 by omega]; simp [ix]
  · rw [tb_pos (by omega)]
    by_cases h1 : i = 0
    · subst h1; simp [ix]
    · have ih := tb_ix (n := n / 2) (by omega) (i := i - 1) (by omega)
      have e : ix (decide (n % 2 = 1) :: tb (n / 2)) i = ix (tb (n / 2)) (i - 1) := by
        unfold ix; rw [show i.toNat = (i - 1).toNat + 1 by omega]; simp
      rw [e, ih, Int.ediv_ediv_of_nonneg (by decide), show i.toNat = (i - 1).toNat + 1 by omega, Int.pow_succ, Int.mul_comm]
termination_by n.toNat
decreasing_by omega
/-- What 'at' answers. -/
def atB (b : List Bool) (i : Int) : Bool := decide (0 ≤ i) && (decide (i < b.length) && ix b i)
theorem ixb_over {b : List Bool} {i : Int} (h : (b.length : Int) ≤ i) : ix b i = false := by
  unfold ix
  have e : b.getD i.toNat default = default := by simp [show b.length ≤ i.toNat by omega]
  rw [e]; rfl
theorem atB_tb {n i : Int} (h0 : 0 ≤ n) : atB (tb n) i = bitB n i := by
  unfold atB bitB
  by_cases hi : 0 ≤ i
  · rw [decide_eq_true hi, Bool.true_and, Bool.true_and, ← tb_ix h0 hi]
    by_cases hl : i < (tb n).length
    · rw [decide_eq_true hl, Bool.true_and]
    · rw [ixb_over (by omega)]; simp
  · simp [hi]
/-- The number below a place. -/
theorem mod_step {n i : Int} (h0 : 0 ≤ n) (hi : 0 ≤ i) : n % 2 ^ (i + 1).toNat = n % 2 ^ i.toNat + 2 ^ i.toNat * bn (bitB n i) := by
  have hp := two_pos i.toNat
  unfold bitB
  rw [decide_eq_true hi, Bool.true_and, bn_odd, show (i + 1).toNat = i.toNat + 1 by omega, Int.pow_succ]
  generalize (2 : Int) ^ i.toNat = p at hp
  have e := Int.mul_ediv_add_emod n p
  have r0 := Int.emod_nonneg n (show p ≠ 0 by omega)
  have r1 := Int.emod_lt_of_pos n hp
  have q := Int.mul_ediv_add_emod (n / p) 2
  have e1 : n = (n % p + p * (n / p % 2)) + p * 2 * (n / p / 2) := by
    have : p * (2 * (n / p / 2) + n / p % 2) = p * (n / p) := by rw [q]
    grind
  have hb : n / p % 2 = 0 ∨ n / p % 2 = 1 := by omega
  conv => lhs; rw [e1]
  rw [Int.add_mul_emod_self_left]
  rcases hb with hb | hb
  · rw [hb, Int.mul_zero, Int.add_zero, Int.emod_eq_of_lt r0 (by omega)]
  · rw [hb, Int.mul_one, Int.emod_eq_of_lt (by omega) (by omega)]
theorem mod_all {n i : Int} (h0 : 0 ≤ n) (hi : blen n ≤ i) : n % 2 ^ i.toNat = n := by
  refine Int.emod_eq_of_lt h0 ?_
  have h := bv_bd (tb n)
  rw [bv_tb h0] at h
  have h2 := tb_len (n := n)
  have : (2 : Int) ^ (tb n).length ≤ 2 ^ i.toNat := by
    rw [show i.toNat = (tb n).length + (i.toNat - (tb n).length) by omega, Int.pow_add]
    have := Int.mul_le_mul_of_nonneg_left (show 1 ≤ (2 : Int) ^ (i.toNat - (tb n).length) from two_pos _) (Int.le_of_lt (two_pos (tb n).length))
    omega
  omega
theorem u32_rep1 {w : World} {F : Nat → Prop} {xs : List Int} (hL : Lim xs) : ∀ (i : Nat) (u : Value) (x : Int), (xs.map fun x => Value.int .u32 x)[i]? = some u → xs[i]? = some x → Kd.u32.rep w F [u] x := by
  intro i u x hu hx
  rw [List.getElem?_map, hx] at hu
  simp at hu
  exact ⟨by rw [← hu], hL x (List.mem_of_getElem? hx)⟩
theorem lit_u32s {w : World} {F : Nat → Prop} {g t m : Nat} (xs : List Int) (h : Blk w g t (xs.map fun x => Value.int .u32 x).toArray) (hF : ¬ F g) (hm : m = xs.length) (h63 : m ≤ 9223372036854775807) (hL : Lim xs := by decide) : Sl Kd.u32 w F (.slice (some ⟨g, 0, none⟩) m m) xs :=
  sl_of_range rfl h.range (by simp) hm hF h.lt h63 (u32_rep1 hL)
theorem lit_u32 {w w0 : World} {t g : Nat} {F : Nat → Prop} {v : Value} {xs : List Int} {e base : Nat} {x : Int} (h : Blk w g t [Value.int .u32 x].toArray) (ho : Gw.Own Kd.u32 e base w0 F v xs) (hF : ¬ F g) (hg : w0.heap.size = g) (hx : 0 ≤ x ∧ x < 4294967296) :
    Sl Kd.u32 w (Out F v) (.slice (some ⟨g, 0, none⟩) 1 1) [x] :=
  sl_of_range rfl h.range rfl rfl (fun h => h.elim hF (fun h => by have := (ho.lt g h).2; omega)) h.lt (by decide) (u32_rep1 (xs := [x]) (fun y hy => by rw [List.mem_singleton.1 hy]; exact hx))
theorem lit_bool {w w0 : World} {t g : Nat} {F : Nat → Prop} {v : Value} {xs : List Bool} {e base : Nat} {x : Bool} (h : Blk w g t [Value.bool x].toArray) (ho : Gw.Own Kd.bool e base w0 F v xs) (hF : ¬ F g) (hg : w0.heap.size = g) :
    Sl Kd.bool w (Out F v) (.slice (some ⟨g, 0, none⟩) 1 1) [x] :=
  sl_of_range rfl h.range rfl rfl (fun h => h.elim hF (fun h => by have := (ho.lt g h).2; omega)) h.lt (by decide) (fun i u y hu hx => by
    cases i with
    | zero => simp at hu hx; subst hu; subst hx; exact ⟨rfl, trivial⟩
    | succ i => simp at hu)
instance {xs : List Int} : Decidable (Lim xs) := by unfold Lim; exact inferInstance
end Go.Gw

set_option linter.unusedSimpArgs false
set_option linter.unusedVariables false
namespace Go.Gw
open Go.RowKit
section
variable {P : Program} {ops : Array Oper} {Q : Exit → Act → World → Prop} {rest : List Oper} {n : Nat} {D : List Deferred} {ρ : Env} {w : World}
variable {d ty xt yt : Nat} {pos : String} {after : Array Edge} {gd : Option (Nat × Bool)} {C : Value → World → Prop} {x y : Operand} {k j : IntKind} {a b M : Int}
theorem s_mulm (hk : k.signed = false) (hM : (2 : Int) ^ k.bits = M) (hx : opv ρ x = some (.int k a)) (hy : opv ρ y = some (.int k b)) (h : C (.int k ((a * b) % M)) w) : OpW P ⟨some d, .binOp .mul xt x y yt, ty, pos, after, gd⟩ n D ρ w C :=
  s_mulw hx hy (by rw [wrap_u hk, hM]; exact h)
theorem s_neg (hx : opv ρ x = some (.int .i64 a)) (hb : -9223372036854775808 ≤ -a ∧ -a ≤ 9223372036854775807) (h : C (.int .i64 (-a)) w) : OpW P ⟨some d, .unOp .neg xt x, ty, pos, after, gd⟩ n D ρ w C :=
  opw_val (v := .int .i64 (-a)) (fun e he => by
    have h1 : Op.unary .neg (.int .i64 a) = pure (.int .i64 (-a)) := by
      show Op.intArith .sub .i64 0 a = _
      simp [Op.intArith, wrap64_of hb]
    simp [execOp, he x _ hx, h1]) h
theorem s_max {kd kd' : IntKind} {i j : Int} {ats : Array TypeId} (hx : opv ρ x = some (.int kd i)) (hy : opv ρ y = some (.int kd' j)) (k : C (.int kd (max i j)) w) :
    OpW P ⟨some d, .call { callee := .builtin .max, args := #[x, y], argTypes := ats }, ty, pos, after, gd⟩ n D ρ w C := by
  refine opw_val (fun ev he => ?_) k
  have e : (if i < j then j else i) = max i j := by omega
  simp [execOp, resolve, invoke, builtin, he x _ hx, he y _ hy, Builtin.max_, Builtin.max2, e]
end
/-! #### one round each -/
theorem bits_step {os : List Bool} {x V : Int} (h : bv os + 2 ^ os.length * x = V) : bv (os ++ [decide (x % 2 = 1)]) + 2 ^ (os ++ [decide (x % 2 = 1)]).length * (x / 2) = V := by
  rw [bv_snoc, bn_odd, List.length_append, List.length_singleton, Int.pow_succ]
  have e := Int.mul_ediv_add_emod x 2
  grind
theorem half_bd {x k : Int} (hx : 0 ≤ x ∧ x < 2 ^ (32 - k).toNat) (h0 : 0 ≤ k) (h1 : k < 32) : 0 ≤ x / 2 ∧ x / 2 < 2 ^ (32 - (k + 1)).toNat := by
  have e : (2 : Int) ^ (32 - k).toNat = 2 ^ (32 - (k + 1)).toNat * 2 := by rw [← Int.pow_succ]; congr 1; omega
  omega
theorem bits_end {os : List Bool} {x V k : Int} (h : bv os + 2 ^ os.length * x = V) (hx : 0 ≤ x ∧ x < 2 ^ (32 - k).toNat) (hk : k = 32) : bv os = V := by
  subst hk
  have : x = 0 := by have := hx.2; simp at this; omega
  subst this; simpa using h
theorem bits_next {os : List Bool} {xs : List Int} {i : Int} (h : bv os = nv (xs.take i.toNat) + PW i.toNat * ix xs i) (h0 : 0 ≤ i) : bv os = nv (xs.take (i + 1).toNat) := by rw [nv_take xs h0, h]
theorem right_tb (n : Int) : rightC (tb n) := by
  by_cases h : n ≤ 0
  · rw [tb_zero h]; exact .inl rfl
  · refine .inr ?_
    have hb := blen_spec (n := n) (by omega)
    obtain ⟨k, e, h1, h2⟩ := hb
    have hl := tb_len (n := n)
    rw [tb_ix (by omega) (by omega), show (((tb n).length : Int) - 1).toNat = k by omega]
    have hq : n / 2 ^ k = 1 := by
      have hp := two_pos k
      rw [Int.pow_succ] at h2
      have a1 : 1 ≤ n / 2 ^ k := (Int.le_ediv_iff_mul_le hp).2 (by omega)
      have a2 : n / 2 ^ k < 2 := Int.ediv_lt_of_lt_mul hp (by omega)
      omega
    rw [hq]; rfl
theorem bv_zero_right {b : List Bool} (h : rightC b) (h0 : bv b = 0) : b = [] := by rw [← tb_bv h, h0, tb_zero (Int.le_refl _)]
theorem right_drop {b : List Bool} (h : rightC b) {i : Nat} (hi : i < b.length) : rightC (b.drop i) := by
  rcases h with h | h
  · subst h; simp at hi
  · refine .inr ?_
    unfold ix at h ⊢
    rw [List.length_drop]
    have e1 : ((b.length : Int) - 1).toNat = b.length - 1 := by omega
    have e2 : (((b.length - i : Nat) : Int) - 1).toNat = b.length - i - 1 := by omega
    rw [e1] at h
    rw [e2, List.getD_eq_getElem?_getD, List.getElem?_drop, show i + (b.length - i - 1) = b.length - 1 by omega, ← List.getD_eq_getElem?_getD]
    exact h
theorem bv_chunk (d : List Bool) : bv d = bv (d.take 32) + 4294967296 * bv (d.drop 32) := by
  have h := bv_append (d.take 32) (d.drop 32)
  rw [List.take_append_drop] at h
  by_cases hl : 32 ≤ d.length
  · rw [show (d.take 32).length = 32 by simp; omega] at h
    exact h
  · rw [List.drop_of_length_le (by omega)] at h ⊢
    rw [h]; simp [bv]
/-- A chunk's bits, one more. -/
theorem take_snocB {a : List Bool} {i : Int} (h0 : 0 ≤ i) (h1 : i < a.length) : a.take (i + 1).toNat = a.take i.toNat ++ [ix a i] := by
  rw [show (i + 1).toNat = i.toNat + 1 by omega, List.take_add_one]
  unfold ix
  simp [show i.toNat < a.length by omega]
theorem ix_dropB {a : List Bool} {i k : Int} (h0 : 0 ≤ i) (h : i ≤ k) : ix (a.drop i.toNat) (k - i) = ix a k := by
  unfold ix; rw [List.getD_eq_getElem?_getD, List.getElem?_drop, show i.toNat + (k - i).toNat = k.toNat by omega, ← List.getD_eq_getElem?_getD]
theorem of_step {bs : List Bool} {i k x p : Int} (h0 : 0 ≤ i) (hk : i ≤ k ∧ k < bs.length ∧ k < i + 32) (hx : x = bv ((bs.drop i.toNat).take (k - i).toNat)) (hp : p = 2 ^ (k - i).toNat % 4294967296) :
    p = 2 ^ (k - i).toNat ∧ 0 ≤ x ∧ x < p ∧ 0 < p ∧ p ≤ 2147483648 ∧ (p * 2) % 4294967296 = 2 ^ (k + 1 - i).toNat % 4294967296 ∧ x + bn (ix bs k) * p = bv ((bs.drop i.toNat).take (k + 1 - i).toNat) := by
  have hb : (2 : Int) ^ (k - i).toNat ≤ 2 ^ 31 := by
    obtain ⟨r, hr⟩ : ∃ r, 31 = (k - i).toNat + r := ⟨31 - (k - i).toNat, by omega⟩
    rw [hr, Int.pow_add]
    have := Int.mul_le_mul_of_nonneg_left (show 1 ≤ (2 : Int) ^ r from two_pos _) (Int.le_of_lt (two_pos (k - i).toNat))
    omega
  have hb' : (2 : Int) ^ (k - i).toNat ≤ 2147483648 := hb
  have hpp := two_pos (k - i).toNat
  have e : p = 2 ^ (k - i).toNat := by rw [hp]; omega
  have hl : ((bs.drop i.toNat).take (k - i).toNat).length = (k - i).toNat := by simp; omega
  have hbd := bv_bd ((bs.drop i.toNat).take (k - i).toNat)
  rw [hl] at hbd
  refine ⟨e, by rw [hx]; exact hbd.1, by rw [hx, e]; exact hbd.2, by omega, by omega, ?_, ?_⟩
  · rw [e, show (k + 1 - i).toNat = (k - i).toNat + 1 by omega, Int.pow_succ]
  · rw [show k + 1 - i = (k - i) + 1 by omega, take_snocB (by omega) (by simp; omega), bv_snoc, hl, ← hx, ← e, ix_dropB h0 hk.1, Int.mul_comm]
theorem of_chunk {bs : List Bool} {i k x : Int} (h0 : 0 ≤ i) (hk : i ≤ k ∧ k ≤ bs.length ∧ k ≤ i + 32) (hx : x = bv ((bs.drop i.toNat).take (k - i).toNat)) (hend : ¬ (k < bs.length ∧ k < i + 32)) : x = bv ((bs.drop i.toNat).take 32) := by
  rw [hx]
  by_cases h : k = i + 32
  · rw [show (k - i).toNat = 32 by omega]
  · have hl : (bs.drop i.toNat).length ≤ (k - i).toNat := by simp; omega
    have hl2 : (bs.drop i.toNat).length ≤ 32 := by simp; omega
    rw [List.take_of_length_le hl, List.take_of_length_le hl2]
theorem of_next {bs : List Bool} {os : List Int} {i x : Int} (hr : rightC bs) (h0 : 0 ≤ i) (hi : i < bs.length) (hx : x = bv ((bs.drop i.toNat).take 32)) (h : nv os + PW os.length * bv (bs.drop i.toNat) = bv bs) :
    (0 ≤ x ∧ x < 4294967296) ∧ nv (os ++ [x]) + PW (os ++ [x]).length * bv (bs.drop (i + 32).toNat) = bv bs ∧ ((i + 32 < bs.length) ∨ rightB (os ++ [x]) = true) := by
  have hc := bv_chunk (bs.drop i.toNat)
  rw [List.drop_drop, ← hx, show i.toNat + 32 = (i + 32).toNat by omega] at hc
  have hbd := bv_bd ((bs.drop i.toNat).take 32)
  have hpw : (2 : Int) ^ ((bs.drop i.toNat).take 32).length ≤ 4294967296 := by
    obtain ⟨r, hr⟩ : ∃ r, 32 = ((bs.drop i.toNat).take 32).length + r := ⟨32 - ((bs.drop i.toNat).take 32).length, by have := List.length_take_le 32 (bs.drop i.toNat); omega⟩
    have e : (4294967296 : Int) = 2 ^ 32 := rfl
    rw [e]
    conv => rhs; rw [hr]
    rw [Int.pow_add]
    have := Int.mul_le_mul_of_nonneg_left (show 1 ≤ (2 : Int) ^ r from two_pos _) (Int.le_of_lt (two_pos ((bs.drop i.toNat).take 32).length))
    omega
  refine ⟨by rw [hx]; omega, ?_, ?_⟩
  · rw [nv_snoc, List.length_append, List.length_singleton, PW_succ, ← h, hc]; grind
  · by_cases hl : i + 32 < bs.length
    · exact .inl hl
    · refine .inr ?_
      rw [rightB_snoc]
      have hz : x ≠ 0 := fun e => by
        rw [List.drop_of_length_le (i := (i + 32).toNat) (by omega), e] at hc
        have h1 := bv_zero_right (right_drop hr (i := i.toNat) (by omega)) (by simpa [bv] using hc)
        have h2 := congrArg List.length h1
        simp at h2; omega
      simpa using hz
theorem of_end {bs : List Bool} {os : List Int} {i : Int} (hL : Lim os) (hi : (bs.length : Int) ≤ i) (h : nv os + PW os.length * bv (bs.drop i.toNat) = bv bs) (hr : (i < bs.length) ∨ rightB os = true) : tl (bv bs) = os := by
  rw [List.drop_of_length_le (by omega)] at h
  rw [← h, show nv os + PW os.length * bv [] = nv os by simp [bv], tl_nv hL (hr.resolve_left (by omega))]
theorem tb_le {b : List Bool} {m : Int} (h : (b.length : Int) ≤ m) : ((tb (bv b)).length : Int) ≤ m := by
  have hb := bv_bd b
  rcases Int.lt_or_le m (tb (bv b)).length with h1 | h1
  · exfalso
    rw [tb_len] at h1
    have h0 : 0 < bv b := by
      rcases Int.lt_or_le 0 (bv b) with h | h
      · exact h
      · rw [blen_zero h] at h1; omega
    obtain ⟨k, e, k1, k2⟩ := blen_spec h0
    have hle : (2 : Int) ^ b.length ≤ 2 ^ k := by
      rw [show k = b.length + (k - b.length) by omega, Int.pow_add]
      have := Int.mul_le_mul_of_nonneg_left (show 1 ≤ (2 : Int) ^ (k - b.length) from two_pos _) (Int.le_of_lt (two_pos b.length))
      omega
    omega
  · exact h1
theorem tb_nv_len {xs : List Int} (h : Lim xs) : (tb (nv xs)).length ≤ 32 * xs.length := by
  have h0 := nv_nonneg h
  have h1 := nv_lt h
  rcases Nat.lt_or_ge (32 * xs.length) (tb (nv xs)).length with h2 | h2
  · exfalso
    have hl := tb_len (n := nv xs)
    have hp : 0 < nv xs := by
      rcases Int.lt_or_le 0 (nv xs) with h | h
      · exact h
      · rw [tb_zero h] at h2; simp at h2
    obtain ⟨k, e, k1, k2⟩ := blen_spec hp
    rw [PW_two] at h1
    have hle : (2 : Int) ^ (32 * xs.length) ≤ 2 ^ k := by
      rw [show k = 32 * xs.length + (k - 32 * xs.length) by omega, Int.pow_add]
      have := Int.mul_le_mul_of_nonneg_left (show 1 ≤ (2 : Int) ^ (k - 32 * xs.length) from two_pos _) (Int.le_of_lt (two_pos (32 * xs.length)))
      omega
    omega
  · exact h2
/-! #### the order, bit by bit -/
theorem div_half {n i : Int} (hi : 0 ≤ i) : n / 2 ^ i.toNat = 2 * (n / 2 ^ (i + 1).toNat) + bn (bitB n i) := by
  unfold bitB
  rw [decide_eq_true hi, Bool.true_and, bn_odd, show (i + 1).toNat = i.toNat + 1 by omega, Int.pow_succ, ← Int.ediv_ediv_of_nonneg (Int.le_of_lt (two_pos _))]
  omega
theorem div_top {n : Int} (h0 : 0 ≤ n) {i : Int} (hi : blen n ≤ i) : n / 2 ^ i.toNat = 0 := by
  have h := mod_all h0 hi
  refine Int.ediv_eq_zero_of_lt h0 ?_
  rw [← h]; exact Int.emod_lt_of_pos _ (two_pos _)
theorem bcmp_next {m n i : Int} (hi : 0 ≤ i) (h : m / 2 ^ (i + 1).toNat = n / 2 ^ (i + 1).toNat) (hb : bitB m i = bitB n i) : m / 2 ^ (i - 1 + 1).toNat = n / 2 ^ (i - 1 + 1).toNat := by
  rw [show i - 1 + 1 = i by omega, div_half hi, div_half hi, h, hb]
theorem bcmp_gt {m n i : Int} (hi : 0 ≤ i) (h : m / 2 ^ (i + 1).toNat = n / 2 ^ (i + 1).toNat) (h1 : bitB m i = true) (h2 : bitB n i = false) : cmpI m n = 1 := by
  refine cmpI_gt ?_
  rcases Int.lt_or_le n m with h3 | h3
  · exact h3
  · have h4 := Int.ediv_le_ediv (two_pos i.toNat) h3
    rw [div_half hi, div_half (n := n) hi, h, h1, h2] at h4
    simp [bn] at h4; omega
theorem bcmp_lt {m n i : Int} (hi : 0 ≤ i) (h : m / 2 ^ (i + 1).toNat = n / 2 ^ (i + 1).toNat) (h1 : bitB m i = false) (h2 : bitB n i = true) : cmpI m n = -1 := by
  refine cmpI_lt ?_
  rcases Int.lt_or_le m n with h3 | h3
  · exact h3
  · have h4 := Int.ediv_le_ediv (two_pos i.toNat) h3
    rw [div_half hi, div_half (n := m) hi, h, h1, h2] at h4
    simp [bn] at h4; omega
theorem bcmp_end {m n i : Int} (hi : i = -1) (h : m / 2 ^ (i + 1).toNat = n / 2 ^ (i + 1).toNat) : cmpI m n = 0 := by
  subst hi
  exact cmpI_eq (by simpa using h)
/-! #### sums and differences, bit by bit -/
theorem badd_step {os : List Bool} {a b i n : Int} {c : Bool} (ha : 0 ≤ a) (hb : 0 ≤ b) (hi : 0 ≤ i) (hl : (os.length : Int) = i) (h : bv os + 2 ^ i.toNat * bn c = a % 2 ^ i.toNat + b % 2 ^ i.toNat) (hn : n = bn (bitB a i) + bn (bitB b i) + bn c) :
    bv (os ++ [decide (n % 2 = 1)]) + 2 ^ (i + 1).toNat * bn (decide (1 < n)) = a % 2 ^ (i + 1).toNat + b % 2 ^ (i + 1).toNat := by
  rw [bv_snoc, bn_odd, mod_step ha hi, mod_step hb hi, show os.length = i.toNat by omega, show (i + 1).toNat = i.toNat + 1 by omega, Int.pow_succ]
  have e : n = n % 2 + 2 * bn (decide (1 < n)) := by
    have h1 := bn_bd (bitB a i)
    have h2 := bn_bd (bitB b i)
    have h3 := bn_bd c
    unfold bn
    by_cases h4 : 1 < n <;> simp [h4] <;> omega
  generalize bn (decide (1 < n)) = u at e ⊢
  have e2 : 2 ^ i.toNat * (n % 2 + 2 * u) = 2 ^ i.toNat * (bn (bitB a i) + bn (bitB b i) + bn c) := by rw [← e, hn]
  grind
theorem badd_end {os : List Bool} {a b i : Int} {c : Bool} (ha : 0 ≤ a) (hb : 0 ≤ b) (hi : 0 ≤ i) (hl : (os.length : Int) = i) (h : bv os + 2 ^ i.toNat * bn c = a % 2 ^ i.toNat + b % 2 ^ i.toNat) (h1 : blen a < i) (h2 : blen b < i) : bv os = a + b := by
  rw [mod_all ha (by omega), mod_all hb (by omega)] at h
  have a1 := mod_all ha (i := i - 1) (by omega)
  have b1 := mod_all hb (i := i - 1) (by omega)
  have a2 := Int.emod_lt_of_pos a (two_pos (i - 1).toNat)
  have b2 := Int.emod_lt_of_pos b (two_pos (i - 1).toNat)
  have e : (2 : Int) ^ i.toNat = 2 ^ (i - 1).toNat * 2 := by rw [← Int.pow_succ]; congr 1; have : 0 ≤ blen a := by (unfold blen; split <;> omega)
                                                             omega
  have := (bv_bd os).1
  cases c with
  | false => simpa [bn] using h
  | true => simp [bn] at h; omega
theorem bsub_step {os : List Bool} {a b i n u u' : Int} (ha : 0 ≤ a) (hb : 0 ≤ b) (hi : 0 ≤ i) (hl : (os.length : Int) = i) (h : bv os = a % 2 ^ i.toNat - b % 2 ^ i.toNat + 2 ^ i.toNat * u) (hn : n = bn (bitB a i) - bn (bitB b i) - u + 2 * u') (hnb : 0 ≤ n ∧ n ≤ 1) :
    bv (os ++ [decide (n = 1)]) = a % 2 ^ (i + 1).toNat - b % 2 ^ (i + 1).toNat + 2 ^ (i + 1).toNat * u' := by
  have e : bn (decide (n = 1)) = n := by
    unfold bn
    by_cases h4 : n = 1 <;> simp [h4] <;> omega
  rw [bv_snoc, e, mod_step ha hi, mod_step hb hi, show os.length = i.toNat by omega, show (i + 1).toNat = i.toNat + 1 by omega, Int.pow_succ, h, hn]
  grind
theorem bsub_end {os : List Bool} {a b i u : Int} (ha : 0 ≤ a) (hb : 0 ≤ b) (hle : b ≤ a) (hl : (os.length : Int) = i) (h : bv os = a % 2 ^ i.toNat - b % 2 ^ i.toNat + 2 ^ i.toNat * u) (hu : 0 ≤ u ∧ u ≤ 1) (h1 : i = blen a) : bv os = a - b := by
  have a1 := mod_all ha (i := i) (by omega)
  have a2 := Int.emod_lt_of_pos a (two_pos i.toNat)
  rw [a1] at a2
  rw [a1, Int.emod_eq_of_lt hb (by omega)] at h
  have h3 := bv_bd os
  rw [show os.length = i.toNat by omega] at h3
  have : u = 0 := by
    rcases Int.lt_or_eq_of_le hu.1 with h4 | h4
    · obtain rfl : u = 1 := by omega
      omega
    · exact h4.symm
  subst this
  simpa using h
end Go.Gw

set_option linter.unusedSimpArgs false
set_option linter.unusedVariables false
namespace Go.Gw
open Go.RowKit
theorem bv_rep : ∀ k : Nat, bv (List.replicate k false) = 0
  | 0 => rfl
  | k + 1 => by rw [List.replicate_succ]; simp only [bv]; rw [bv_rep k]; rfl
theorem shl_bits {m : Int} (h : 0 ≤ m) (k : Nat) : bv (List.replicate k false ++ tb m) = m * 2 ^ k := by
  rw [bv_append, bv_rep, bv_tb h, List.length_replicate, Int.mul_comm]; omega
theorem bv_drop : ∀ (k : Nat) (b : List Bool), bv (b.drop k) = bv b / 2 ^ k
  | 0, b => by simp
  | k + 1, [] => by simp [bv]
  | k + 1, x :: r => by
    have h := bv_drop k r
    have hx := bn_bd x
    rw [List.drop_succ_cons, h, Int.pow_succ, Int.mul_comm, ← Int.ediv_ediv_of_nonneg (by decide)]
    simp only [bv]
    congr 1; omega
theorem shr_bits {m : Int} (h : 0 ≤ m) (k : Nat) : tl (bv ((tb m).drop k)) = tl (m / 2 ^ k) := by rw [bv_drop, bv_tb h]
theorem shr_small {m n : Int} (h : 0 ≤ m) (hn : ((tb m).length : Int) ≤ n) : tl (m / 2 ^ n.toNat) = [] := by
  rw [tb_len] at hn
  rw [div_top h hn]; exact tl_zero (Int.le_refl _)
theorem fit_no {n : Int} (h : n < 0 ∨ 10000 < n) : fitB n = false := by
  unfold fitB
  rcases h with h | h
  · rw [decide_eq_false (by omega)]; rfl
  · rw [decide_eq_false (p := n ≤ 10000) (by omega)]; simp
theorem fit_yes {n : Int} (h0 : 0 ≤ n) (h1 : n ≤ 10000) : fitB n = true := by unfold fitB; rw [decide_eq_true h0, decide_eq_true h1]; rfl
/-! #### quotients from the last limb on -/
theorem rdiv_step {xs os : List Int} {m l i : Int} (hm : 0 < m) (h0 : 0 ≤ i) (h1 : i < xs.length) (hl : os.length = xs.length) (e1 : l = nv (xs.drop (i + 1).toNat) % m) (e2 : nv (os.drop (i + 1).toNat) = nv (xs.drop (i + 1).toNat) / m) :
    (l * 4294967296 + ix xs i) % m = nv (xs.drop i.toNat) % m ∧ nv ((os.set i.toNat ((l * 4294967296 + ix xs i) / m)).drop i.toNat) = nv (xs.drop i.toNat) / m := by
  obtain ⟨s1, s2⟩ := divmod_step (x := ix xs i) (N := nv (xs.drop (i + 1).toNat)) hm
  rw [nv_drop_step h0 h1, s1, s2, drop_set_self _ h0 (by omega), e1]
  refine ⟨rfl, ?_⟩
  show _ + 4294967296 * nv _ = _
  rw [e2]
theorem rdiv_end {xs os : List Int} {m l i : Int} (hi : i = -1) (e1 : l = nv (xs.drop (i + 1).toNat) % m) (e2 : nv (os.drop (i + 1).toNat) = nv (xs.drop (i + 1).toNat) / m) : l = nv xs % m ∧ nv os = nv xs / m := by
  subst hi
  simp at e1 e2
  exact ⟨e1, e2⟩
theorem rmul_step {os xs : List Int} {i c m k : Int} (h : nv os + PW i.toNat * c = nv (xs.take i.toNat) * m + k) (h0 : 0 ≤ i) (hl : (os.length : Int) = i) :
    nv (os ++ [(ix xs i * m + c) % 4294967296]) + PW (i + 1).toNat * ((ix xs i * m + c) / 4294967296) = nv (xs.take (i + 1).toNat) * m + k := by
  rw [nv_snoc, nv_take xs h0, PW_next h0, show os.length = i.toNat by omega]
  have e := Int.mul_ediv_add_emod (ix xs i * m + c) 4294967296
  grind
theorem rmul_end {os xs : List Int} {i c m k : Int} (h : nv os + PW i.toNat * c = nv (xs.take i.toNat) * m + k) (h0 : 0 ≤ i) (hi : i = xs.length) (hl : (os.length : Int) = i) : nv (os ++ [c]) = nv xs * m + k := by
  rw [nv_snoc, show os.length = i.toNat by omega, h, List.take_of_length_le (by omega)]
end Go.Gw

set_option linter.unusedSimpArgs false
set_option linter.unusedVariables false
namespace Go.Gw
open Go.RowKit
theorem add_len {a b : List Int} (ha : Lim a) (hb : Lim b) : (tl (nv a + nv b)).length ≤ a.length + b.length + 1 := by
  have h1 := nv_lt ha
  have h2 := nv_lt hb
  have h3 := PW_le (show a.length ≤ a.length + b.length by omega)
  have h4 := PW_le (show b.length ≤ a.length + b.length by omega)
  refine tl_len (by have := nv_nonneg ha; have := nv_nonneg hb; omega) ?_
  have h5 := PW_pos (a.length + b.length)
  rw [PW_succ]; omega
theorem shl_len {a : List Int} (ha : Lim a) {k : Nat} (hk : k ≤ 10016) : (tl (nv a * 2 ^ k)).length ≤ a.length + 313 := by
  have h1 := nv_lt ha
  have h0 := nv_nonneg ha
  refine tl_len (Int.mul_nonneg h0 (Int.le_of_lt (two_pos k))) ?_
  rw [PW_add]
  have hp : (2 : Int) ^ k ≤ PW 313 := by
    rw [PW_two, show 32 * 313 = k + (10016 - k) by omega, Int.pow_add]
    have := Int.mul_le_mul_of_nonneg_left (show 1 ≤ (2 : Int) ^ (10016 - k) from two_pos _) (Int.le_of_lt (two_pos k))
    omega
  have h2 := Int.mul_le_mul_of_nonneg_left hp h0
  have h3 := Int.mul_lt_mul_of_pos_right h1 (PW_pos 313)
  exact Int.lt_of_le_of_lt h2 h3
theorem div_len {a : List Int} (ha : Lim a) (m : Int) : (tl (nv a / m)).length ≤ a.length := by
  by_cases h : 0 ≤ nv a / m
  · refine tl_len h (Int.lt_of_le_of_lt (Int.ediv_le_self _ (nv_nonneg ha)) (nv_lt ha))
  · rw [tl_zero (by omega)]; simp
theorem nv_len (a : List Int) (ha : Lim a) : (tl (nv a)).length ≤ a.length := tl_len (nv_nonneg ha) (nv_lt ha)
theorem back_len {m : Int} (hm : 0 ≤ m) (h : 0 < ((tl m).length : Int)) {k : Int} (hk : 0 ≤ k) : blen (nv (tl (m * 2 ^ k.toNat))) = blen m + k := by
  have h0 : 0 < m := by
    rcases Int.lt_or_le 0 m with h1 | h1
    · exact h1
    · rw [tl_zero h1] at h; simp at h
  rw [nv_tl (Int.mul_nonneg hm (Int.le_of_lt (two_pos _)))]
  have := blen_add (N := m) (l := 0) (j := k.toNat) h0 ⟨Int.le_refl _, two_pos _⟩
  rw [Int.zero_add, Int.mul_comm] at this
  rw [this]; omega
theorem back_shift {m k : Int} (hm : 0 ≤ m) (h0 : 0 ≤ k) (h1 : k ≤ 10000) : shrL (tl (m * 2 ^ k.toNat)) k = tl m := by
  unfold shrL
  rw [if_pos (fit_yes h0 h1), nv_tl (Int.mul_nonneg hm (Int.le_of_lt (two_pos _))), Int.mul_ediv_cancel _ (by have := two_pos k.toNat; omega)]
theorem back_div {m t : Int} (hm : 0 ≤ m) (ht : 0 < t) : tl (nv (tl (m / t)) * t + m % t) = tl m := by
  rw [nv_tl (Int.ediv_nonneg hm (by omega)), Int.mul_comm, Int.mul_ediv_add_emod]
theorem back_sub {a b : Int} (ha : 0 ≤ a) (hb : 0 ≤ b) : tl (nv (tl (a + b)) - b) = tl a := by
  rw [nv_tl (by omega), Int.add_sub_cancel]
theorem shl_fit (a : List Int) {k : Int} (h0 : 0 ≤ k) (h1 : k ≤ 10000) : shlL a k = tl (nv a * 2 ^ k.toNat) := if_pos (fit_yes h0 h1)
end Go.Gw

set_option linter.unusedSimpArgs false
set_option linter.unusedVariables false
/-! ### Whole numbers of any size: the plain law -/
namespace Go.Gw
open Go.RowKit
/-- The limbs of a whole number. -/
def ml (n : Int) : List Int := tl (n.natAbs : Int)
def sg (neg : Bool) (m : Int) : Int := if neg then -m else m
def Bd (k : Nat) (n : Int) : Prop := -PW k < n ∧ n < PW k
def shlN (x n : Int) : Int := if fitB n then x * 2 ^ n.toNat else 0
def shrN (x n : Int) : Int := if fitB n then x / 2 ^ n.toNat else 0
def IsBig (w : World) (v : Value) (n : Int) : Prop := ∃ s, v = .agg [.bool (decide (n < 0)), s].toArray ∧ Sl Kd.u32 w (fun _ => False) s (ml n)
theorem IsBig.g0 {w w' : World} {v : Value} {n : Int} (h : IsBig w v n) (k : w.grownBy w' none) : IsBig w' v n := by obtain ⟨s, e, hs⟩ := h; exact ⟨s, e, hs.g0 k⟩
theorem nv_ml (n : Int) : nv (ml n) = n.natAbs := nv_tl (by omega)
theorem lim_ml (n : Int) : Lim (ml n) := lim_tl _
theorem right_ml (n : Int) : rightB (ml n) = true := right_tl _
theorem big_of {w : World} {s : Value} {m n : Int} (e : m = n) (h : Sl Kd.u32 w (fun _ => False) s (ml m)) : IsBig w (.agg [.bool (decide (m < 0)), s].toArray) n := by subst e; exact ⟨s, rfl, h⟩
theorem sg_ml (ng : Bool) {m : Int} (h : 0 ≤ m) : tl m = ml (sg ng m) := by
  unfold ml; congr 1; unfold sg; split <;> omega
theorem tl_nil_iff {m : Int} (h : 0 ≤ m) : (0 < ((tl m).length : Int)) ↔ 0 < m := by
  by_cases h0 : m ≤ 0
  · rw [tl_zero h0]; simp; omega
  · rw [tl_pos (by omega)]; simp; omega
theorem sg_neg {ng : Bool} {m : Int} (h : 0 ≤ m) (hg : ng = true) : decide (0 < ((tl m).length : Int)) = decide (sg ng m < 0) := by
  rw [decide_eq_decide, tl_nil_iff h]; unfold sg; rw [if_pos hg]; omega
theorem sg_pos {ng : Bool} {m : Int} (h : 0 ≤ m) (hg : ng = false) : false = decide (sg ng m < 0) := by
  unfold sg; rw [if_neg (by simp [hg])]; simp; omega
theorem shlL_tl (xs : List Int) (n : Int) : shlL xs n = tl (shlN (nv xs) n) := by
  unfold shlL shlN; split
  · rfl
  · rw [tl_zero (Int.le_refl _)]
theorem shrL_tl (xs : List Int) (n : Int) : shrL xs n = tl (shrN (nv xs) n) := by
  unfold shrL shrN; split
  · rfl
  · rw [tl_zero (Int.le_refl _)]
theorem shlN_nn {x n : Int} (h : 0 ≤ x) : 0 ≤ shlN x n := by
  unfold shlN; split
  · exact Int.mul_nonneg h (Int.le_of_lt (two_pos _))
  · exact Int.le_refl _
theorem shrN_nn {x n : Int} (h : 0 ≤ x) : 0 ≤ shrN x n := by
  unfold shrN; split
  · exact Int.ediv_nonneg h (Int.le_of_lt (two_pos _))
  · exact Int.le_refl _
/-! #### how large -/
theorem Bd.le {j k : Nat} {n : Int} (h : Bd j n) (hjk : j ≤ k) : Bd k n := by have := PW_le hjk; unfold Bd at *; omega
theorem bd_len {k : Nat} {n : Int} (h : Bd k n) : (ml n).length ≤ k := tl_len (by omega) (by unfold Bd at h; omega)
theorem bd_ml {k : Nat} {n : Int} (h : (ml n).length ≤ k) : Bd k n := by
  have h1 := nv_lt (lim_ml n)
  rw [nv_ml] at h1
  have := PW_le h
  unfold Bd; omega
theorem bd_small {n : Int} (h : -9223372036854775808 ≤ n ∧ n ≤ 9223372036854775807) : Bd 2 n := by
  have h2 : PW 2 = 18446744073709551616 := by decide
  unfold Bd; omega
theorem bd_add {j k i : Nat} {a b : Int} (ha : Bd j a) (hb : Bd k b) (h1 : j < i) (h2 : k < i) : Bd i (a + b) := by
  have ha := ha.le (show j ≤ i - 1 by omega)
  have hb := hb.le (show k ≤ i - 1 by omega)
  have := PW_pos (i - 1)
  have := PW_succ (i - 1)
  rw [show i - 1 + 1 = i by omega] at this
  unfold Bd at *; omega
theorem bd_neg {k : Nat} {a : Int} (h : Bd k a) : Bd k (-a) := by unfold Bd at *; omega
theorem bd_sub {j k i : Nat} {a b : Int} (ha : Bd j a) (hb : Bd k b) (h1 : j < i) (h2 : k < i) : Bd i (a - b) := by rw [Int.sub_eq_add_neg]; exact bd_add ha (bd_neg hb) h1 h2
theorem bd_shl {j k : Nat} {a n : Int} (ha : Bd j a) (h : j + 313 ≤ k) : Bd k (shlN a n) := by
  refine Bd.le ?_ h
  unfold shlN
  split
  · rename_i hf
    unfold fitB at hf
    rw [Bool.and_eq_true, decide_eq_true_eq, decide_eq_true_eq] at hf
    have h0 := two_pos n.toNat
    have h1 : (2 : Int) ^ n.toNat ≤ PW 313 := by
      rw [PW_two]
      have e : (2 : Int) ^ (32 * 313) = 2 ^ n.toNat * 2 ^ (32 * 313 - n.toNat) := by rw [← Int.pow_add, show n.toNat + (32 * 313 - n.toNat) = 32 * 313 by omega]
      have := Int.mul_le_mul_of_nonneg_left (show 1 ≤ (2 : Int) ^ (32 * 313 - n.toNat) by have := two_pos (32 * 313 - n.toNat); omega) (Int.le_of_lt h0)
      omega
    have h2 := PW_pos j
    unfold Bd at *
    rw [PW_add]
    have h3 : PW j * 2 ^ n.toNat ≤ PW j * PW 313 := Int.mul_le_mul_of_nonneg_left h1 (Int.le_of_lt h2)
    have h4 : a * 2 ^ n.toNat < PW j * 2 ^ n.toNat := Int.mul_lt_mul_of_pos_right ha.2 h0
    have h5 : (-PW j) * 2 ^ n.toNat < a * 2 ^ n.toNat := Int.mul_lt_mul_of_pos_right ha.1 h0
    rw [Int.neg_mul] at h5
    omega
  · have := PW_pos (j + 313); unfold Bd; omega
theorem bd_shr {k : Nat} {a n : Int} (ha : Bd k a) : Bd k (shrN a n) := by
  unfold shrN
  split
  · have h0 := two_pos n.toNat
    have h1 := Int.mul_ediv_add_emod a (2 ^ n.toNat)
    have h2 := Int.emod_nonneg a (show (2 : Int) ^ n.toNat ≠ 0 by omega)
    have h3 := Int.emod_lt_of_pos a h0
    unfold Bd at *
    generalize a / 2 ^ n.toNat = q at *
    generalize (2 : Int) ^ n.toNat = p at *
    rcases Int.lt_or_le q 0 with hq | hq
    · refine ⟨?_, by omega⟩
      have h4 : p * (q + 1) ≤ 1 * (q + 1) := by
        have := Int.mul_le_mul_of_nonneg_right (show 1 ≤ p by omega) (show 0 ≤ -(q + 1) by omega)
        rw [Int.mul_neg, Int.mul_neg] at this; omega
      rw [Int.mul_add] at h4
      omega
    · have h4 : 1 * q ≤ p * q := Int.mul_le_mul_of_nonneg_right (by omega) hq
      omega
  · have := PW_pos k; unfold Bd; omega
/-! #### the functions -/
theorem sg_add {n m : Int} (h : decide (n < 0) = decide (m < 0)) : sg (decide (n < 0)) (nv (ml n) + nv (ml m)) = n + m := by
  rw [nv_ml, nv_ml]; rw [decide_eq_decide] at h; unfold sg; simp only [decide_eq_true_eq]; split <;> omega
theorem sg_sub {n m : Int} (h : ¬ decide (n < 0) = decide (m < 0)) (hle : nv (ml m) ≤ nv (ml n)) : sg (decide (n < 0)) (nv (ml n) - nv (ml m)) = n + m := by
  rw [nv_ml, nv_ml] at hle; rw [nv_ml, nv_ml]; rw [decide_eq_decide] at h; unfold sg; simp only [decide_eq_true_eq]; split <;> omega
theorem sg_abs (n : Int) : sg (decide (n < 0)) (nv (ml n)) = n := by rw [nv_ml]; unfold sg; simp only [decide_eq_true_eq]; split <;> omega
theorem sg_min (n : Int) : sg (!decide (n < 0)) (nv (ml n)) = -n := by rw [nv_ml]; unfold sg; simp only [Bool.not_eq_true', decide_eq_false_iff_not]; split <;> omega
theorem sg_shl (x n : Int) : sg (decide (x < 0)) (shlN (nv (ml x)) n) = shlN x n := by
  rw [nv_ml]; unfold sg shlN; simp only [decide_eq_true_eq]
  by_cases h : x < 0
  · rw [if_pos h]; split
    · rw [show ((x.natAbs : Nat) : Int) = -x by omega, Int.neg_mul, Int.neg_neg]
    · rfl
  · rw [if_neg h]; split
    · rw [show ((x.natAbs : Nat) : Int) = x by omega]
    · rfl
theorem sg_shr {x n : Int} (h : ¬ x < 0) : sg (decide (x < 0)) (shrN (nv (ml x)) n) = shrN x n := by
  rw [nv_ml]; unfold sg; simp only [decide_eq_true_eq]; rw [if_neg h, show ((x.natAbs : Nat) : Int) = x by omega]
theorem ceil_neg {x p : Int} (hp : 0 < p) : -((-x + (p - 1)) / p) = x / p := by
  have e1 := Int.mul_ediv_add_emod x p
  have e2 := Int.emod_nonneg x (show p ≠ 0 by omega)
  have e3 := Int.emod_lt_of_pos x hp
  have : (-x + (p - 1)) / p = -(x / p) := by
    rw [show -x + (p - 1) = (p - 1 - x % p) + p * (-(x / p)) by rw [Int.mul_neg]; omega, Int.add_mul_ediv_left _ _ (by omega), Int.ediv_eq_zero_of_lt (by omega) (by omega)]; omega
  omega
theorem same_big {n m : Int} : (decide (n < 0) = decide (m < 0) ∧ ml n = ml m) ↔ n = m := by
  constructor
  · rintro ⟨h1, h2⟩
    have h3 := tl_inj (m := n.natAbs) (n := m.natAbs) (by omega) (by omega) h2
    rw [decide_eq_decide] at h1; omega
  · rintro rfl; exact ⟨rfl, rfl⟩
def bigR (ng : Bool) (xs : List Int) : Bool := rightB xs && (!ng || decide (0 < (xs.length : Int)))
theorem bigR_ml (n : Int) : bigR (decide (n < 0)) (ml n) = true := by
  unfold bigR; rw [right_ml, Bool.true_and]
  by_cases h : n < 0
  · rw [show decide (0 < ((ml n).length : Int)) = true from decide_eq_true ((tl_nil_iff (by omega)).2 (by omega)), Bool.or_true]
  · rw [decide_eq_false h]; rfl
theorem bigR_out {ng : Bool} {xs : List Int} (hx : Lim xs) (h : bigR ng xs = true) : ∃ n, ng = decide (n < 0) ∧ xs = ml n := by
  unfold bigR at h
  rw [Bool.and_eq_true] at h
  have e := tl_nv hx h.1
  have h0 := nv_nonneg hx
  refine ⟨sg ng (nv xs), ?_, by rw [← sg_ml ng h0, e]⟩
  cases ng with
  | true =>
    have h2 := h.2
    rw [Bool.not_true, Bool.false_or, decide_eq_true_eq, ← e, tl_nil_iff h0] at h2
    symm; rw [decide_eq_true_eq]; unfold sg; rw [if_pos rfl]; omega
  | false => exact (sg_pos h0 rfl)
def fit64 (n : Int) : Bool := decide (-9223372036854775808 ≤ n ∧ n ≤ 9223372036854775807)
def toI (n : Int) : Int := if fit64 n then n else 0
theorem fit64_yes {n : Int} (h : -9223372036854775808 ≤ n ∧ n ≤ 9223372036854775807) : fit64 n = true := decide_eq_true h
theorem fit64_no {n : Int} (h : ¬ (-9223372036854775808 ≤ n ∧ n ≤ 9223372036854775807)) : fit64 n = false := decide_eq_false h
theorem toI_yes {n : Int} (h : -9223372036854775808 ≤ n ∧ n ≤ 9223372036854775807) : toI n = n := by unfold toI; rw [fit64_yes h]; rfl
theorem toI_no {n : Int} (h : ¬ (-9223372036854775808 ≤ n ∧ n ≤ 9223372036854775807)) : toI n = 0 := by unfold toI; rw [fit64_no h]; rfl
theorem of_pos {n : Int} (hn : -9223372036854775808 ≤ n ∧ n ≤ 9223372036854775807) (h : ¬ n < 0) : sg (decide (n < 0)) (nv [n % 18446744073709551616 % 4294967296, n % 18446744073709551616 / 4294967296 % 4294967296]) = n := by
  unfold sg; simp only [decide_eq_true_eq, nv]; rw [if_neg h]; omega
theorem of_neg {n : Int} (hn : -9223372036854775808 ≤ n ∧ n ≤ 9223372036854775807) (h : n < 0) : sg (decide (n < 0)) (nv [(-(n % 18446744073709551616)) % 18446744073709551616 % 4294967296, (-(n % 18446744073709551616)) % 18446744073709551616 / 4294967296 % 4294967296]) = n := by
  unfold sg; simp only [decide_eq_true_eq, nv]; rw [if_pos h]; omega
theorem cmpI_neg {x y : Int} (h : cmpI x y < 0) : x < y := by unfold cmpI at h; split at h <;> (try split at h) <;> omega
theorem cmpI_nneg {x y : Int} (h : ¬ cmpI x y < 0) : y ≤ x := by unfold cmpI at h; split at h <;> (try split at h) <;> omega
theorem cmpI_swap {a b x y : Int} (h : (x < y ↔ a < b) ∧ (y < x ↔ b < a)) : cmpI x y = cmpI a b := by
  unfold cmpI; simp only [h.1, h.2]
theorem ior_comm (a b : Int) : ior a b = ior b a := by unfold ior; rw [Nat.or_comm]
theorem int_step {xs : List Int} {i u : Int} (hx : Lim xs) (h0 : 0 ≤ i) (h1 : i < xs.length) (hl : ¬ (2 : Int) < xs.length) (hu : u = nv (xs.take i.toNat)) : ior u (ix xs i * 2 ^ (32 * i).toNat % 18446744073709551616) = nv (xs.take (i + 1).toNat) := by
  have hb := hx.ix i
  rw [nv_take_succ h0 h1, ← hu]
  rcases (show i = 0 ∨ i = 1 by omega) with rfl | rfl
  · have : u = 0 := by rw [hu]; rfl
    subst this
    rw [show (32 * (0 : Int)).toNat = 0 from rfl, show ((0 : Int)).toNat = 0 from rfl, PW_zero, Int.pow_zero, Int.mul_one, Int.one_mul, Int.emod_eq_of_lt hb.1 (by omega)]
    unfold ior; simp; omega
  · have hu1 : 0 ≤ u ∧ u < 4294967296 := by
      have h2 := nv_nonneg (hx.take (1 : Int).toNat)
      have h3 := nv_lt (hx.take (1 : Int).toNat)
      rw [show (xs.take (1 : Int).toNat).length = 1 by simp; omega, show PW 1 = 4294967296 by decide] at h3
      omega
    rw [show (32 * (1 : Int)).toNat = 32 from rfl, show (2 : Int) ^ 32 = 4294967296 by decide, ior_comm, ior_add hb hu1, show ((1 : Int)).toNat = 1 from rfl, show PW 1 = 4294967296 by decide]
    omega
theorem take_bd {xs : List Int} {i : Int} (hx : Lim xs) (hl : ¬ (2 : Int) < xs.length) : 0 ≤ nv (xs.take i.toNat) ∧ nv (xs.take i.toNat) < 18446744073709551616 := by
  have h2 := nv_nonneg (hx.take i.toNat)
  have h3 := nv_lt (hx.take i.toNat)
  have h4 := PW_le (show (xs.take i.toNat).length ≤ 2 by simp; omega)
  rw [show PW 2 = 18446744073709551616 by decide] at h4
  omega
theorem int_all {n u : Int} {i : Int} (hu : u = nv ((ml n).take i.toNat)) (hi : ¬ i < (ml n).length) : u = n.natAbs := by rw [hu, List.take_of_length_le (by omega), nv_ml]
theorem int_long {n : Int} (h : (2 : Int) < (ml n).length) : ¬ (-9223372036854775808 ≤ n ∧ n ≤ 9223372036854775807) := by
  have h1 := nv_ge (lim_ml n) (right_ml n) (by intro e; rw [e] at h; simp at h)
  have h2 := PW_le (show 2 ≤ (ml n).length - 1 by omega)
  rw [nv_ml] at h1
  rw [show PW 2 = 18446744073709551616 by decide] at h2
  omega
theorem rint_over {n u i : Int} (hi : 0 ≤ i) (hi2 : i < (ml n).length) (hu : u = nv ((ml n).drop (i + 1).toNat)) (h : 4294967295 < u) : ¬ (-9223372036854775808 ≤ n ∧ n ≤ 9223372036854775807) := by
  have h1 := nv_split (ml n) (i + 1).toNat (by omega)
  have h2 := nv_nonneg ((lim_ml n).take (i + 1).toNat)
  rw [nv_ml, ← hu] at h1
  have h3 := PW_le (show 1 ≤ (i + 1).toNat by omega)
  rw [show PW 1 = 4294967296 by decide] at h3
  have h4 : 4294967296 * u ≤ PW (i + 1).toNat * u := Int.mul_le_mul_of_nonneg_right h3 (by omega)
  omega
theorem rint_step {n u i : Int} (hi : 0 ≤ i) (hi2 : i < (ml n).length) (hu : u = nv ((ml n).drop (i + 1).toNat)) : u * 4294967296 + ix (ml n) i = nv ((ml n).drop i.toNat) := by
  rw [nv_drop_step hi hi2, ← hu]; omega
theorem rint_all {n u i : Int} (hi : i = -1) (hu : u = nv ((ml n).drop (i + 1).toNat)) : u = n.natAbs := by rw [hu, hi, ← nv_ml]; rfl
theorem shr_unfit {x n : Int} (h : ¬ (0 ≤ n ∧ n ≤ 10000)) : sg (decide (x < 0)) (shrN (nv (ml x)) n) = shrN x n := by
  have : fitB n = false := fit_no (by omega)
  unfold shrN sg; rw [this]; simp
theorem up_val {n : Int} (h0 : 0 ≤ n) (h1 : n ≤ 10000) : nv (tl (nv (shlL [1] n) - nv [1])) = 2 ^ n.toNat - 1 := by
  have := two_pos n.toNat
  rw [shlL_tl, show nv [1] = 1 from rfl]
  unfold shlN; rw [if_pos (fit_yes h0 h1), Int.one_mul, show nv (tl (2 ^ n.toNat)) = 2 ^ n.toNat from nv_tl (by omega), nv_tl (by omega)]
theorem shr_negv {x n : Int} (hx : x < 0) (h0 : 0 ≤ n) (h1 : n ≤ 10000) : sg true (shrN (nv (tl (nv (ml x) + nv (tl (nv (shlL [1] n) - nv [1]))))) n) = shrN x n := by
  have h2 := two_pos n.toNat
  rw [up_val h0 h1, nv_ml, nv_tl (by omega)]
  have h3 := ceil_neg (x := x) h2
  unfold shrN sg; rw [if_pos rfl, if_pos (fit_yes h0 h1), if_pos (fit_yes h0 h1), show ((x.natAbs : Nat) : Int) = -x by omega]
  exact h3
theorem up_len {n : Int} (h0 : 0 ≤ n) (h1 : n ≤ 10000) : (shlL [1] n).length ≤ 314 ∧ (tl (nv (shlL [1] n) - nv [1])).length ≤ 314 := by
  have h2 := two_pos n.toNat
  have hb : (2 : Int) ^ n.toNat < PW 314 := by
    have h := (bd_shl (k := 314) (j := 1) (a := 1) (n := n) (by unfold Bd; decide) (by decide)).2
    unfold shlN at h; rwa [if_pos (fit_yes h0 h1), Int.one_mul] at h
  constructor
  · rw [shlL_tl, show nv [1] = 1 from rfl]; unfold shlN; rw [if_pos (fit_yes h0 h1), Int.one_mul]; exact tl_len (by omega) hb
  · have := up_val h0 h1
    have h3 : nv (shlL [1] n) = 2 ^ n.toNat := by rw [shlL_tl, show nv [1] = 1 from rfl]; unfold shlN; rw [if_pos (fit_yes h0 h1), Int.one_mul, nv_tl (by omega)]
    rw [h3, show nv [1] = 1 from rfl]; exact tl_len (by omega) (by omega)
theorem add_len2 {a b : List Int} (ha : Lim a) (hb : Lim b) {k : Nat} (h : a.length + b.length + 1 ≤ k) : (tl (nv a + nv b)).length ≤ k := Nat.le_trans (add_len ha hb) h
theorem pow_val (n : Int) : sg false (shlN (nv [1]) n) = shlN 1 n := by rw [show nv [1] = 1 from rfl]; rfl
theorem bd_one : Bd 1 1 := by unfold Bd; decide
theorem bd_zero (k : Nat) : Bd k 0 := by have := PW_pos k; unfold Bd; omega
theorem sg_minv (n : Int) : sg (decide (¬ n < 0)) ((n.natAbs : Nat) : Int) = -n := by unfold sg; simp only [decide_eq_true_eq]; split <;> omega
/-! #### the reference -/
theorem rcmp_big {n m : Int} : (0 < n - m → cmpI n m = 1) ∧ (n - m < 0 → cmpI n m = -1) ∧ (n - m = 0 → cmpI n m = 0) :=
  ⟨fun h => cmpI_gt (by omega), fun h => cmpI_lt (by omega), fun h => cmpI_eq (by omega)⟩
theorem ml_nil {n : Int} : ((ml n).length : Int) = 0 ↔ n = 0 := by
  have := tl_nil_iff (m := n.natAbs) (by omega)
  unfold ml; omega
theorem rof_pos {n : Int} (hn : -9223372036854775808 ≤ n ∧ n ≤ 9223372036854775807) (h : ¬ n < 0) : sg (decide (n < 0)) (nv [n % 18446744073709551616 % 4294967296 % 4294967296, n % 18446744073709551616 / 4294967296 % 4294967296]) = n := by
  unfold sg; simp only [decide_eq_true_eq, nv]; rw [if_neg h]; omega
theorem rof_neg {n : Int} (hn : -9223372036854775808 ≤ n ∧ n ≤ 9223372036854775807) (h : n < 0) : sg (decide (n < 0)) (nv [(-(n % 18446744073709551616)) % 18446744073709551616 % 4294967296 % 4294967296, (-(n % 18446744073709551616)) % 18446744073709551616 / 4294967296 % 4294967296]) = n := by
  unfold sg; simp only [decide_eq_true_eq, nv]; rw [if_pos h]; omega
theorem nv_shlL (xs : List Int) (n : Int) (h : 0 ≤ nv xs) : nv (shlL xs n) = shlN (nv xs) n := by rw [shlL_tl, nv_tl (shlN_nn h)]
theorem nv_shrL (xs : List Int) (n : Int) (h : 0 ≤ nv xs) : nv (shrL xs n) = shrN (nv xs) n := by rw [shrL_tl, nv_tl (shrN_nn h)]
theorem shlL_len {n k : Int} (h : Bd 90000 n) : (shlL (ml n) k).length ≤ 90313 := by
  rw [shlL_tl, nv_ml]
  have h1 : Bd 90000 (n.natAbs : Int) := by unfold Bd at *; omega
  exact tl_len (shlN_nn (by omega)) (bd_shl (n := k) h1 (show 90000 + 313 ≤ 90313 by decide)).2
theorem shrL_len {n k : Int} (h : Bd 90000 n) : (shrL (ml n) k).length ≤ 90000 := by
  rw [shrL_tl, nv_ml]
  have h1 : Bd 90000 (n.natAbs : Int) := by unfold Bd at *; omega
  exact tl_len (shrN_nn (by omega)) (bd_shr (n := k) h1).2
/-- The reference's quotient of a number below nought. -/
def trN (x n : Int) : Int := sg (decide (x < 0)) (nv (shrL (ml x) n))
theorem trN_pos {x n : Int} (h : ¬ x < 0) : trN x n = shrN x n := by unfold trN; rw [nv_shrL _ _ (by rw [nv_ml]; omega)]; exact sg_shr h
theorem trN_bd {k : Nat} {x n : Int} (h : Bd k x) : Bd k (trN x n) := by
  unfold trN; rw [nv_shrL _ _ (by rw [nv_ml]; omega), nv_ml]
  have h1 : Bd k (x.natAbs : Int) := by unfold Bd at *; omega
  have h2 := bd_shr (n := n) h1
  unfold sg; split
  · exact bd_neg h2
  · exact h2
theorem trN_val {x n : Int} (h0 : 0 ≤ n) (h1 : n ≤ 10000) (hx : x < 0) : trN x n = -((-x) / 2 ^ n.toNat) ∧ shlN (trN x n) n = -((-x) / 2 ^ n.toNat) * 2 ^ n.toNat := by
  have e : trN x n = -((-x) / 2 ^ n.toNat) := by
    unfold trN; rw [nv_shrL _ _ (by rw [nv_ml]; omega), nv_ml]; unfold sg shrN; rw [if_pos (by simpa using hx), if_pos (fit_yes h0 h1), show ((x.natAbs : Nat) : Int) = -x by omega]
  refine ⟨e, ?_⟩
  rw [e]; unfold shlN; rw [if_pos (fit_yes h0 h1)]
theorem rshr_up {x n : Int} (h0 : 0 ≤ n) (h1 : n ≤ 10000) (h : 0 < cmpI (shlN (trN x n) n) x) : trN x n - 1 = shrN x n := by
  have hp := two_pos n.toNat
  have hc : x < shlN (trN x n) n := by unfold cmpI at h; split at h <;> (try split at h) <;> omega
  by_cases hx : x < 0
  · obtain ⟨e1, e2⟩ := trN_val h0 h1 hx
    rw [e2] at hc; rw [e1]
    unfold shrN; rw [if_pos (fit_yes h0 h1)]
    generalize (2 : Int) ^ n.toNat = p at *
    have a1 := Int.mul_ediv_add_emod (-x) p
    have a2 := Int.emod_nonneg (-x) (show p ≠ 0 by omega)
    have a3 := Int.emod_lt_of_pos (-x) hp
    generalize (-x) / p = q at *
    generalize (-x) % p = r at *
    rw [Int.neg_mul, Int.mul_comm] at hc
    symm
    rw [show x = (p - r) + p * (-q - 1) by rw [Int.mul_sub, Int.mul_neg]; omega, Int.add_mul_ediv_left _ _ (by omega), Int.ediv_eq_zero_of_lt (by omega) (by omega)]; omega
  · exfalso
    rw [trN_pos hx] at hc
    unfold shlN shrN at hc; rw [if_pos (fit_yes h0 h1), if_pos (fit_yes h0 h1)] at hc
    have := Int.ediv_mul_le x (show (2 : Int) ^ n.toNat ≠ 0 by omega)
    omega
theorem rshr_is {x n : Int} (h0 : 0 ≤ n) (h1 : n ≤ 10000) (h : ¬ 0 < cmpI (shlN (trN x n) n) x) : trN x n = shrN x n := by
  have hp := two_pos n.toNat
  by_cases hx : x < 0
  · have hc : shlN (trN x n) n ≤ x := by unfold cmpI at h; split at h <;> (try split at h) <;> omega
    obtain ⟨e1, e2⟩ := trN_val h0 h1 hx
    rw [e2] at hc; rw [e1]
    unfold shrN; rw [if_pos (fit_yes h0 h1)]
    generalize (2 : Int) ^ n.toNat = p at *
    have a1 := Int.mul_ediv_add_emod (-x) p
    have a2 := Int.emod_nonneg (-x) (show p ≠ 0 by omega)
    generalize (-x) / p = q at *
    generalize (-x) % p = r at *
    rw [Int.neg_mul, Int.mul_comm] at hc
    rw [show x = 0 + p * (-q) by rw [Int.mul_neg]; omega, Int.add_mul_ediv_left _ _ (by omega)]; simp
  · exact trN_pos hx
theorem rshr_unfit {x n : Int} (h : n < 0 ∨ 10000 < n) : (0 : Int) = shrN x n := by unfold shrN; rw [if_neg (by rw [fit_no h]; decide)]
/-! #### the laws -/
theorem cmpI_bd (x y : Int) : -9223372036854775808 ≤ -(cmpI x y) ∧ -(cmpI x y) ≤ 9223372036854775807 := by unfold cmpI; split <;> (try split) <;> omega
theorem cmpI_flip (x y : Int) : cmpI x y = -(cmpI y x) := by unfold cmpI; split <;> (try split) <;> (try split) <;> omega
theorem back_low {x k : Int} (h0 : 0 ≤ k) (h1 : k ≤ 255) : cmpI (shlN (shrN x k) k) x ≤ 0 := by
  have hp := two_pos k.toNat
  have hf := fit_yes h0 (show k ≤ 10000 by omega)
  have := Int.ediv_mul_le x (show (2 : Int) ^ k.toNat ≠ 0 by omega)
  unfold shlN shrN; rw [if_pos hf, if_pos hf]; unfold cmpI; split <;> (try split) <;> omega
theorem back_high {x k : Int} (h0 : 0 ≤ k) (h1 : k ≤ 255) : cmpI x (shlN (shrN x k + 1) k) < 0 := by
  have hp := two_pos k.toNat
  have hf := fit_yes h0 (show k ≤ 10000 by omega)
  have := Int.lt_ediv_add_one_mul_self x hp
  unfold shlN shrN; rw [if_pos hf, if_pos hf]; unfold cmpI; split <;> (try split) <;> omega
theorem back_shN {x k : Int} (h0 : 0 ≤ k) (h1 : k ≤ 255) : shrN (shlN x k) k = x := by
  have hp := two_pos k.toNat
  have hf := fit_yes h0 (show k ≤ 10000 by omega)
  unfold shlN shrN; rw [if_pos hf, if_pos hf, Int.mul_ediv_cancel _ (by omega)]
end Go.Gw

set_option linter.unusedSimpArgs false
set_option linter.unusedVariables false
/-! ### A drawn region in a round -/
namespace Go.Gw
open Go.RowKit
section
variable {P : Program} {l : List Oper} {Q : Exit → Act → World → Prop} {n m : Nat} {D : List Deferred} {ρ0 : Env} {w0 : World} {R R0 R1 : World → World → Prop} {sp : Spec} {ds anc con : List (List Nat)} {big st1 cls : List Bool}
theorem any_in {ro : Option Nat} {mm : Nat} (hL : ¬ LetsOut Q) (hnd : l.all (fun o => notDefer o.op) = true) : ∀ (fuel : Nat) (listed : Array Bool) (a : Act) (w : World), wpAny P .any l.toArray Q fuel listed a w → wpAnyIn (FI ro) mm P .any l.toArray Q fuel listed a w := by
  intro fuel
  induction fuel with
  | zero => intro listed a w h; exact h
  | succ fuel ih =>
    intro listed a w h
    refine ⟨h.1, fun i hi => ?_⟩
    have h1 := h.2 i hi
    unfold wpOp at h1
    unfold wpOpIn
    cases ho : l.toArray[i]? with
    | none => rw [ho] at h1; exact ih _ _ _ h1
    | some o =>
      rw [ho] at h1
      dsimp only at h1 ⊢
      have hnd' : notDefer o.op = true := by
        rw [List.all_eq_true] at hnd
        exact hnd o (List.mem_of_getElem? (by simpa using ho))
      split
      · rename_i hw
        rw [if_pos hw] at h1
        rcases h1 with h1 | ⟨_, h1⟩
        · exact oper_in hnd' (Oper.wp_mono (fun a w => ih _ a w) h1)
        · exact absurd h1 hL
      · rename_i hw
        rw [if_neg hw] at h1
        exact ⟨fun _ _ => trivial, ih _ _ _ h1⟩
theorem i_drawD {ro : Option Nat} {mm : Nat} (hL : ¬ LetsOut Q) (hnd : l.all (fun o => notDefer o.op) = true) {id : Nat} {w : World} {ρ : Env} (m : Nat) (R R0 R1 : World → World → Prop) (sp : Spec) (ds anc con : List (List Nat)) (big st1 cls : List Bool) (ρ0 : Env) (hsub : Sub ρ0 ρ) (hm : P.follows .mixedOrders = true)
    (hchk : drawOk l m n (keysOf ρ0) (sp.map (·.1)) ds = true) (hA : ancOk l anc = true) (hC : conOk m ds anc con big st1 = true) (hR : ∀ a, R a a) (hRt : ∀ a b c, R a b → R b c → R a c) (hR0 : ∀ a b, R0 a b → R a b) (hR1 : ∀ a b, R1 a b → R a b) (hst : StAllC R0 R1 sp st1) (hR00 : ∀ a, R0 a a) (hR0t : ∀ a b c, R0 a b → R0 b c → R0 a c) (hcl : cleanOk m anc big cls = true)
    (h : ∀ w0, w.grownBy w0 none → w0.heap.size = w.heap.size → ObsAllD P l.toArray n D ρ0 w0 R R0 R1 sp l ds big cls sp ∧ (∀ w', R w0 w' → AllV2 (finS sp con) ρ0 w' (fun ρ => Reg P l.toArray Q (l.drop m) n D ρ w'))) :
    IW ro mm P (.region id l.toArray true) Q n D ρ w := by
  intro a ha
  have hF := drawFacts hchk
  obtain ⟨h1, h2⟩ := h w.drew (grown_drew w) rfl
  refine wpIn_region_any hm (any_in hL hnd _ _ _ _ ?_)
  have hno : ∀ i, (Array.replicate l.length false).getD i false = false := fun i => by
    simp [Array.getD_eq_getD_getElem?, Array.getElem?_replicate]; split <;> rfl
  have hM : MidD l con n D ρ0 w.drew R R0 big sp m l.length (Array.replicate l.length false) (fun _ => undef) a w.drew :=
    { fr := ha.sub hsub, wr := hR _, cln := fun _ => hR00 _, size := by simp, tail := fun i _ => hno i,
      cl := fun i o _ hl j _ => (by rw [hno] at hl; cases hl),
      got := fun i dst φ hs hl => (by rw [hno] at hl; cases hl) }
  have := mid_anyD hA hC hR0 hR1 hF (fun t v hl => look_of_keys hl) hRt hst hR00 hR0t hcl h1 h2 l.length (Array.replicate l.length false) (fun _ => undef) a w.drew hM (by
      have : ∀ k L, cnt k L ≤ k := by
        intro k L; induction k with
        | zero => exact Nat.le_refl _
        | succ k ih => unfold cnt; split <;> omega
      exact this _ _)
  simpa using this
end
theorem own_block {α : Type} {K : Kd α} {e base : Nat} {w : World} {F : Nat → Prop} {v : Value} {xs : List α} (h : Gw.Own K e base w F v xs) (hne : xs.length ≠ 0) : ∃ g, v.ownBlock = some g ∧ base ≤ g ∧ g < w.heap.size := by
  obtain ⟨us, hl, hr, ho⟩ := h.out
  rcases ho.2 with ⟨rfl, h0⟩ | ⟨g, cap, cur, rfl, hb, hg, _⟩
  · exact absurd h0 hne
  · exact ⟨g, by simp [Value.ownBlock], hb, (Array.getElem?_eq_some_iff.1 hg).1⟩
theorem grown_some_refl (g : Nat) (a : World) : a.grownBy a (some g) := grown_row_refl _ a
theorem grown_some_trans {g : Nat} (a b c : World) (h : a.grownBy b (some g)) (k : b.grownBy c (some g)) : a.grownBy c (some g) := grown_row_trans h k
theorem ne_own_of {v : Value} {g g' : Nat} (h : v.ownBlock ≠ some g') (hg : v.ownBlock = some g) : g' ≠ g := by
  rintro rfl
  exact h hg
theorem own_fresh {α : Type} {K : Kd α} {e base : Nat} {w : World} {F : Nat → Prop} {v : Value} {xs : List α} (h : Gw.Own K e base w F v xs) {g : Nat} (hg : g < base) : v.ownBlock ≠ some g :=
  fun e => by have := (h.lt g e).1; omega
end Go.Gw

set_option linter.unusedSimpArgs false
set_option linter.unusedVariables false
namespace Go.Gw
open Go.RowKit
section
variable {P : Program} {ops : Array Oper} {Q : Exit → Act → World → Prop} {rest : List Oper} {n : Nat} {D : List Deferred} {ρ : Env} {w : World}
variable {d ty xt yt : Nat} {pos : String} {after : Array Edge} {gd : Option (Nat × Bool)} {C : Value → World → Prop} {x y : Operand} {k j : IntKind} {a b M : Int}
theorem s_negk (hk : k.signed = false) (hM : (2 : Int) ^ k.bits = M) (hx : opv ρ x = some (.int k a)) (h : C (.int k ((-a) % M)) w) : OpW P ⟨some d, .unOp .neg xt x, ty, pos, after, gd⟩ n D ρ w C :=
  opw_val (v := .int k ((-a) % M)) (fun e he => by
    have h1 : Op.unary .neg (.int k a) = pure (.int k ((-a) % M)) := by
      show Op.intArith .sub k 0 a = _
      simp [Op.intArith, wrap_u hk, hM]
    simp [execOp, he x _ hx, h1]) h
end
section
variable {P : Program} {n : Nat} {ρ : Env} {w : World}
/-- One result, a struct that lies in a cell row of its own. -/
theorem w_retc1 {Q : Exit → Act → World → Prop} {fn : Func} {R : Ending → World → Prop} {t ty m g : Nat} {cs : List Value} (hr : fn.results = #[.cell t ty]) (ht : RowF P ty m) (hl : look ρ t = some (.pointer (some ⟨g, 0, none⟩)))
    (hc : w.rangeAt g 0 cs) (hm : cs.length = m) (h : R (.returned (.agg cs.toArray)) w)
    (hQ : ∀ a w, Q .ret a w = bodyPost P fn R .ret a w := by exact fun _ _ => rfl) : W P .ret Q n [] ρ w := by
  intro a ha
  refine wp_ret ?_
  rw [hQ]
  refine bodyPost_ret (v := .agg cs.toArray) ?_ ha.defers h
  obtain ⟨dd, hu, hrow, hs⟩ := ht.out
  have h1 : a.tmps[t]?.getD undef = .pointer (some ⟨g, 0, none⟩) := by rw [ha.slot t _ hl]; rfl
  have h3 := run_loadVar_mid (P := P) w g 0 ty cs dd hc hu hrow (by rw [hs, hm])
  simp [results, hr, h1, asAddr, h3]
/-- Two results, the second one in a cell row of its own. -/
theorem w_retc12 {Q : Exit → Act → World → Prop} {fn : Func} {R : Ending → World → Prop} {t u ty m g : Nat} {cs : List Value} {x : Value} (hr : fn.results = #[.tmp u, .cell t ty]) (ht : RowF P ty m) (hl : look ρ t = some (.pointer (some ⟨g, 0, none⟩))) (hl2 : look ρ u = some x)
    (hc : w.rangeAt g 0 cs) (hm : cs.length = m) (h : R (.returned (.tuple #[x, .agg cs.toArray])) w)
    (hQ : ∀ a w, Q .ret a w = bodyPost P fn R .ret a w := by exact fun _ _ => rfl) : W P .ret Q n [] ρ w := by
  intro a ha
  refine wp_ret ?_
  rw [hQ]
  refine bodyPost_ret (v := .tuple #[x, .agg cs.toArray]) ?_ ha.defers h
  obtain ⟨dd, hu, hrow, hs⟩ := ht.out
  have h1 : a.tmps[t]?.getD undef = .pointer (some ⟨g, 0, none⟩) := by rw [ha.slot t _ hl]; rfl
  have h2 : a.tmps[u]?.getD undef = x := by rw [ha.slot u _ hl2]; rfl
  have h3 := run_loadVar_mid (P := P) w g 0 ty cs dd hc hu hrow (by rw [hs, hm])
  simp [results, hr, h1, h2, asAddr, h3]
/-- A loop whose rounds are counted by the walk itself. -/
theorem w_unroll {D : List Deferred} {Q : Exit → Act → World → Prop} {c : Code} (m : Nat) (h : W P c (Exit.then (Code.rounds P c Q m) Q) n D ρ w) : W P (.loop c) Q n D ρ w := fun a ha => wp_loop_rounds (m + 1) (h a ha)
theorem n_again {D : List Deferred} {Q : Exit → Act → World → Prop} {c : Code} {m : Nat} (h : W P c (Exit.then (Code.rounds P c Q m) Q) n D ρ w) : Nx n D ρ w (Exit.then (Code.rounds P c Q (m + 1)) Q .normal) := h
end
section
variable {P : Program} {ops : Array Oper} {Q : Exit → Act → World → Prop} {rest : List Oper} {n : Nat} {D : List Deferred} {ρ : Env} {w : World}
variable {d ty xt yt : Nat} {pos : String} {after : Array Edge} {gd : Option (Nat × Bool)} {C : Value → World → Prop} {x y : Operand} {a b c : Int}
theorem s_addl (hx : opv ρ x = some (.int .i64 a)) (hy : opv ρ y = some (.int .i64 b)) (e : a + b = c) (hb : -9223372036854775808 ≤ c ∧ c ≤ 9223372036854775807)
    (h : C (.int .i64 c) w) : OpW P ⟨some d, .binOp .add xt x y yt, ty, pos, after, gd⟩ n D ρ w C :=
  s_add hx hy (by omega) (e ▸ h)
end
/-! ### A slice of numbers beside a row without any -/
def uc : Value → Bool
  | .int .u32 _ => true
  | _ => false
theorem Sl.uc {α : Type} {K : Kd α} {w : World} {F : Nat → Prop} {v : Value} {xs : List α} (h : Sl K w F v xs) : Gw.uc v = false := by obtain ⟨A, c, rfl, _⟩ := h; rfl
theorem Sl.gB {w w' : World} {F : Nat → Prop} {v : Value} {xs : List Int} {g t : Nat} {cs : Array Value} (h : Sl Kd.u32 w F v xs) (k : w.grownBy w' (some g)) (hB : Blk w g t cs) (hn : (cs.toList.all fun c => !Gw.uc c) = true) : Sl Kd.u32 w' F v xs := by
  obtain ⟨A, c, e, h1, h2, h3⟩ := h
  refine ⟨A, c, e, h1, h2, fun i x hx => ?_⟩
  obtain ⟨g', o, us, ea, hg, hF, hr, hc⟩ := h3 i x hx
  obtain ⟨e1, _⟩ := hr
  subst e1
  have hne : g' ≠ g := by
    rintro rfl
    have h4 := hc 0 (.int .u32 x) rfl
    rw [hB.cell, Array.getElem?_eq_some_iff] at h4
    obtain ⟨hj, h5⟩ := h4
    have h6 := List.all_eq_true.1 hn (.int .u32 x) (by rw [← h5]; exact Array.mem_toList_iff.2 (Array.getElem_mem hj))
    simp [Gw.uc] at h6
  have hb := k.block g' hg (by simpa using hne)
  refine ⟨g', o, _, ea, ?_, hF, ⟨rfl, by assumption⟩, range_keep hc hb⟩
  have := k.size; omega
end Go.Gw

set_option linter.unusedSimpArgs false
set_option linter.unusedVariables false
namespace Go.Gw
open Go.RowKit
/-! ### A region that draws its order: what ends it may wait for the rest by way of others -/
section
variable {P : Program} {l : List Oper} {Q : Exit → Act → World → Prop} {n m : Nat} {D : List Deferred} {ρ0 : Env} {w0 : World} {R : World → World → Prop} {sp : Spec} {ds : List (List Nat)}
structure MidT (l : List Oper) (n : Nat) (D : List Deferred) (ρ0 : Env) (w0 : World) (R : World → World → Prop) (sp : Spec) (m N : Nat) (listed : Array Bool) (vals : Nat → Value) (a : Act) (w : World) : Prop where
  fr : Fr n D ρ0 a
  wr : R w0 w
  size : listed.size = N
  tail : ∀ i, m ≤ i → listed.getD i false = false
  cl : ∀ i o j, l[i]? = some o → listed.getD i false = true → hasEdge o j = true → listed.getD j false = true
  got : ∀ i dst φ, sp[i]? = some (dst, φ) → listed.getD i false = true → φ (vals i) w ∧ ∀ d, dst = some d → a.tmps[d]? = some (vals i)

theorem depV_instT {listed : Array Bool} {vals : Nat → Value} {a : Act} {w : World} {N : Nat} (hM : MidT l n D ρ0 w0 R sp m N listed vals a w) : ∀ (d : List Nat) (ρ : Env) (K : Env → Prop), Fr n D ρ a → (∀ j ∈ d, listed.getD j false = true) →
    depV sp d ρ w K → ∃ ρ', Fr n D ρ' a ∧ K ρ'
  | [], ρ, K, hF, _, h => ⟨ρ, hF, h⟩
  | j :: r, ρ, K, hF, hl, h => by
    unfold depV at h
    split at h
    · rename_i d φ hs
      obtain ⟨h1, h2⟩ := hM.got j _ _ hs (hl j (by simp))
      refine depV_instT hM r _ K ⟨hF.defers, hF.size, fun t v hlk => ?_⟩ (fun i hi => hl i (by simp [hi])) (h _ h1)
      rw [look_cons] at hlk
      split at hlk
      · rename_i e; subst e; cases hlk; exact h2 _ rfl
      · exact hF.slot _ _ hlk
    · exact depV_instT hM r _ K hF (fun i hi => hl i (by simp [hi])) h
def reachN (l : List Oper) : Nat → Oper → Nat → Bool
  | 0, o, j => hasEdge o j
  | f + 1, o, j => hasEdge o j || (List.range l.length).any fun k => hasEdge o k && (match l[k]? with | some o' => reachN l f o' j | none => false)
theorem reach_listed {l : List Oper} {L : Array Bool} (cl : ∀ i o j, l[i]? = some o → L.getD i false = true → hasEdge o j = true → L.getD j false = true) : ∀ (f : Nat) (o : Oper) (j : Nat), (∀ k, hasEdge o k = true → L.getD k false = true) → reachN l f o j = true → L.getD j false = true
  | 0, o, j, h, hr => h j hr
  | f + 1, o, j, h, hr => by
    unfold reachN at hr
    rw [Bool.or_eq_true] at hr
    rcases hr with hr | hr
    · exact h j hr
    · rw [List.any_eq_true] at hr
      obtain ⟨k, _, hk⟩ := hr
      rw [Bool.and_eq_true] at hk
      obtain ⟨h1, h2⟩ := hk
      split at h2
      · rename_i o' ho'
        exact reach_listed cl f o' j (fun k' hk' => cl k o' k' ho' (h k h1) hk') h2
      · cases h2
def drawOkT (l : List Oper) (m n : Nat) (keys : List Nat) (sd : List (Option Nat)) (ds : List (List Nat)) : Bool :=
  decide (m ≤ l.length) && decide (sd.length = m) && decide (ds.length = m) &&
  (List.range l.length).all (fun i => match l[i]? with
    | some o => o.after.all (fun e => !Region.binds .any e || decide (e.on < i)) &&
      (if i < m then (ds.getD i []).all (fun j => decide (j < m) && hasEdge o j) && (decide (sd.getD i none = o.dst)) && (match o.dst with | some d => decide (d < n) && !keys.contains d | none => true)
       else (i == m || hasEdge o (i - 1)) && (List.range m).all (fun j => reachN l 3 o j))
    | none => false) &&
  (List.range m).all (fun i => (List.range m).all fun j => i == j || (match sd.getD i none, sd.getD j none with | some d, some e => d != e | _, _ => true))
structure DrawFactsT (l : List Oper) (m n : Nat) (keys : List Nat) (sp : Spec) (ds : List (List Nat)) : Prop where
  le : m ≤ l.length
  spl : sp.length = m
  before : ∀ (i : Nat) (o : Oper), l[i]? = some o → ∀ e, e ∈ o.after → Region.binds .any e = true → e.on < i
  deps : ∀ (i : Nat) (o : Oper), i < m → l[i]? = some o → ∀ j, j ∈ ds.getD i [] → j < m ∧ hasEdge o j = true
  dst : ∀ (i : Nat) (o : Oper) (dst : Option Nat) (φ : Value → World → Prop), l[i]? = some o → sp[i]? = some (dst, φ) → o.dst = dst
  ok : ∀ (i : Nat) (o : Oper) (d : Nat), i < m → l[i]? = some o → o.dst = some d → d < n ∧ d ∉ keys
  tail : ∀ (i : Nat) (o : Oper), m ≤ i → l[i]? = some o → (i = m ∨ hasEdge o (i - 1) = true) ∧ ∀ j, j < m → reachN l 3 o j = true
  apart : ∀ (i j : Nat) (o o' : Oper) (d : Nat), i < m → j < m → i ≠ j → l[i]? = some o → l[j]? = some o' → o.dst = some d → o'.dst ≠ some d
theorem drawFactsT {keys : List Nat} (h : drawOkT l m n keys (sp.map (·.1)) ds = true) : DrawFactsT l m n keys sp ds := by
  unfold drawOkT at h
  simp only [Bool.and_eq_true, decide_eq_true_eq, List.all_eq_true, List.mem_range, List.length_map] at h
  obtain ⟨⟨⟨⟨h1, h2⟩, h3⟩, h4⟩, h5⟩ := h
  have hat : ∀ i o, l[i]? = some o → i < l.length := fun i o ho => (List.getElem?_eq_some_iff.1 ho).1
  have hsd : ∀ i, (List.map (·.1) sp).getD i none = ((sp[i]?).map (·.1)).getD none := fun i => by simp [List.getD_eq_getElem?_getD]
  refine ⟨h1, h2, ?_, ?_, ?_, ?_, ?_, ?_⟩
  · intro i o ho e he hb
    have := h4 i (hat i o ho)
    rw [ho] at this
    simp only [Bool.and_eq_true] at this
    obtain ⟨k, hk, rfl⟩ := Array.getElem_of_mem he
    have := (Array.all_eq_true.1 this.1) k hk
    simpa [hb] using this
  · intro i o hi ho j hj
    have := h4 i (hat i o ho)
    rw [ho] at this
    simp only [Bool.and_eq_true, if_pos hi, List.all_eq_true, decide_eq_true_eq] at this
    exact this.2.1.1 j hj
  · intro i o dst φ ho hs
    have hi : i < m := by rw [← h2]; exact (List.getElem?_eq_some_iff.1 hs).1
    have := h4 i (hat i o ho)
    rw [ho] at this
    simp only [Bool.and_eq_true, if_pos hi, List.all_eq_true, decide_eq_true_eq] at this
    have h6 := this.2.1.2
    rw [hsd, hs] at h6
    simpa using h6.symm
  · intro i o d hi ho hd
    have := h4 i (hat i o ho)
    rw [ho] at this
    simp only [Bool.and_eq_true, if_pos hi, List.all_eq_true, decide_eq_true_eq] at this
    have h6 := this.2.2
    rw [hd] at h6
    simpa using h6
  · intro i o hi ho
    have := h4 i (hat i o ho)
    rw [ho] at this
    simp only [Bool.and_eq_true, if_neg (show ¬ i < m by omega), List.all_eq_true, List.mem_range, Bool.or_eq_true, beq_iff_eq] at this
    exact this.2
  · intro i j o o' d hi hj hne ho ho' hd hd'
    have h6 := h5 i hi j hj
    have a1 : (List.map (·.1) sp).getD i none = some d := by
      have := h4 i (hat i o ho)
      rw [ho] at this
      simp only [Bool.and_eq_true, if_pos hi, decide_eq_true_eq] at this
      rw [this.2.1.2, hd]
    have a2 : (List.map (·.1) sp).getD j none = some d := by
      have := h4 j (hat j o' ho')
      rw [ho'] at this
      simp only [Bool.and_eq_true, if_pos hj, decide_eq_true_eq] at this
      rw [this.2.1.2, hd']
    rw [a1, a2] at h6
    simp [hne] at h6

theorem tail_anyT {keys : List Nat} (hF : DrawFactsT l m n keys sp ds) : ∀ (fuel k : Nat) (listed : Array Bool) (a : Act) (w : World), m ≤ k → k ≤ l.length → l.length - k ≤ fuel → listed.size = l.length →
    (∀ i, i < k → listed.getD i false = true) → (∀ i, k ≤ i → listed.getD i false = false) → wpList P l.toArray Q (l.drop k) a w → wpAny P .any l.toArray Q fuel listed a w := by
  intro fuel
  induction fuel with
  | zero =>
    intro k listed a w hm hk hf hs h1 h2 h
    have hk' : k = l.length := by omega
    subst hk'
    rw [List.drop_length] at h
    refine ⟨?_, h⟩
    rw [List.eq_nil_iff_forall_not_mem]
    intro i hi
    obtain ⟨o, ho, hf', _⟩ := (mem_ready (by simpa using hs)).1 hi
    have : i < l.length := by simpa using (Array.getElem?_eq_some_iff.1 ho).1
    rw [h1 i this] at hf'; cases hf'
  | succ fuel ih =>
    intro k listed a w hm hk hf hs h1 h2 h
    rcases Nat.lt_or_ge k l.length with hlt | hge
    · have hget : l[k]? = some l[k] := List.getElem?_eq_getElem hlt
      have hr : k ∈ Region.ready .any l.toArray listed := by
        refine (mem_ready (by simpa using hs)).2 ⟨l[k], by simp, h2 k (Nat.le_refl _), ?_⟩
        rw [Array.all_eq_true]
        intro j hj
        by_cases hb : Region.binds .any l[k].after[j] = true
        · rw [h1 _ (hF.before k _ hget _ (Array.getElem_mem hj) hb)]; simp
        · simp [hb]
      refine ⟨fun h0 => by rw [h0] at hr; simp at hr, fun i hi => ?_⟩
      obtain ⟨o, ho, hfi, hall⟩ := (mem_ready (by simpa using hs)).1 hi
      have ho' : l[i]? = some o := by simpa using ho
      have hik : i = k := by
        rcases Nat.lt_trichotomy i k with h3 | h3 | h3
        · rw [h1 i h3] at hfi; cases hfi
        · exact h3
        · have := hasEdge_listed ((hF.tail i o (by omega) ho').1.resolve_left (by omega)) hall
          rw [h2 (i - 1) (by omega)] at this; cases this
      subst hik
      have hsz : i < listed.size := by omega
      have hnext : ∀ a w, wpList P l.toArray Q (l.drop (i + 1)) a w → wpAny P .any l.toArray Q fuel (listed.setIfInBounds i true) a w := fun a w hh =>
        ih (i + 1) _ a w (by omega) (by omega) (by omega) (by simpa using hs) (fun j hj => by
          rw [getD_set _ _ _ hsz]
          by_cases e : i = j
          · rw [if_pos e]
          · rw [if_neg e]; exact h1 j (by omega))
          (fun j hj => by rw [getD_set _ _ _ hsz, if_neg (by omega)]; exact h2 j (by omega)) hh
      rw [List.drop_eq_getElem_cons hlt] at h
      unfold wpList at h
      unfold wpOp
      rw [ho]
      have hoe : o = l[i] := by rw [hget] at ho'; injection ho' with e; exact e.symm
      subst hoe
      dsimp only
      split
      · rename_i hw
        rw [if_pos hw] at h
        rcases h with h | h
        · exact .inl (Oper.wp_mono hnext h)
        · exact .inr h
      · rename_i hw
        rw [if_neg hw] at h
        exact hnext _ _ h
    · have hk' : k = l.length := by omega
      subst hk'
      rw [List.drop_length] at h
      refine ⟨fun _ => h, fun i hi => ?_⟩
      obtain ⟨o, ho, hf', _⟩ := (mem_ready (by simpa using hs)).1 hi
      have : i < l.length := by simpa using (Array.getElem?_eq_some_iff.1 ho).1
      rw [h1 i this] at hf'; cases hf'

theorem mid_anyT {keys : List Nat} (hF : DrawFactsT l m n keys sp ds) (hkeys : ∀ t v, look ρ0 t = some v → t ∈ keys) (hRt : ∀ a b c, R a b → R b c → R a c) (hst : StAll R sp) (hobs : ObsAll P l.toArray n D ρ0 w0 R sp l ds sp)
    (hend : ∀ w, R w0 w → AllV sp ρ0 w (fun ρ => Reg P l.toArray Q (l.drop m) n D ρ w)) :
    ∀ (fuel : Nat) (listed : Array Bool) (vals : Nat → Value) (a : Act) (w : World), MidT l n D ρ0 w0 R sp m l.length listed vals a w → cnt l.length listed ≤ fuel → wpAny P .any l.toArray Q fuel listed a w := by
  -- once all heads are listed
  have hfin : ∀ (fuel : Nat) (listed : Array Bool) (vals : Nat → Value) (a : Act) (w : World), MidT l n D ρ0 w0 R sp m l.length listed vals a w → (∀ i, i < m → listed.getD i false = true) → l.length - m ≤ fuel → wpAny P .any l.toArray Q fuel listed a w := by
    intro fuel listed vals a w hM hall hf
    obtain ⟨ρ', hFr, hReg⟩ := allV_inst (w := w) vals sp 0 ρ0 _ hM.fr (fun i dst φ hs => by
      have hi : i < m := by rw [← hF.spl]; exact (List.getElem?_eq_some_iff.1 hs).1
      rw [Nat.zero_add]; exact hM.got i dst φ hs (hall i hi)) (hend w hM.wr)
    exact tail_anyT hF fuel m listed a w (Nat.le_refl _) hF.le hf hM.size hall hM.tail (hReg a hFr)
  have hcnt : ∀ listed : Array Bool, (∀ i, m ≤ i → listed.getD i false = false) → ∀ k, m ≤ k → k - m ≤ cnt k listed := by
    intro listed ht k
    induction k with
    | zero => intro _; omega
    | succ k ih =>
      intro hk
      unfold cnt
      rcases Nat.lt_or_ge k m with h | h
      · omega
      · rw [ht k h]; have := ih h; simp; omega
  intro fuel
  induction fuel with
  | zero =>
    intro listed vals a w hM hc
    have h0 : cnt l.length listed = 0 := by omega
    have hall := cnt_zero listed _ h0
    refine hfin 0 listed vals a w hM (fun i hi => hall i (by have := hF.le; omega)) ?_
    have := hcnt listed hM.tail l.length hF.le
    omega
  | succ fuel ih =>
    intro listed vals a w hM hc
    by_cases hall : ∀ i, i < m → listed.getD i false = true
    · refine hfin _ listed vals a w hM hall ?_
      have := hcnt listed hM.tail l.length hF.le
      omega
    · -- some head is not listed: it's not the end, and no tail is ready
      refine ⟨fun h0 => absurd ?_ hall, fun i hi => ?_⟩
      · -- the least one that isn't listed is ready
        intro i hi
        induction i using Nat.strongRecOn with
        | _ i ihh =>
          by_cases hb : listed.getD i false = true
          · exact hb
          · exfalso
            have hil : i < l.length := by have := hF.le; omega
            have hr : i ∈ Region.ready .any l.toArray listed := by
              refine (mem_ready (by simpa using hM.size)).2 ⟨l[i], by simp [hil], by simpa using hb, ?_⟩
              rw [Array.all_eq_true]
              intro j hj
              by_cases hbd : Region.binds .any l[i].after[j] = true
              · have := hF.before i _ (List.getElem?_eq_getElem hil) _ (Array.getElem_mem hj) hbd
                rw [ihh _ this (by omega)]; simp
              · simp [hbd]
            rw [h0] at hr; simp at hr
      · obtain ⟨o, ho, hfi, hal⟩ := (mem_ready (by simpa using hM.size)).1 hi
        have ho' : l[i]? = some o := by simpa using ho
        have hil : i < l.length := (List.getElem?_eq_some_iff.1 ho').1
        have him : i < m := by
          rcases Nat.lt_or_ge i m with h | h
          · exact h
          · exact absurd (fun j hj => reach_listed hM.cl 3 o j (fun k hk => hasEdge_listed hk hal) ((hF.tail i o h ho').2 j hj)) hall
        have hsp : ∃ dst φ, sp[i]? = some (dst, φ) := by
          have : i < sp.length := by rw [hF.spl]; exact him
          exact ⟨_, _, List.getElem?_eq_getElem this⟩
        obtain ⟨dst, φ, hs⟩ := hsp
        have hdst := hF.dst i o dst φ ho' hs
        subst hdst
        have hsz : i < listed.size := by rw [hM.size]; exact hil
        obtain ⟨ρ', hFr, hOp⟩ := depV_instT hM (ds.getD i []) ρ0 _ hM.fr (fun j hj => hasEdge_listed (hF.deps i o him ho' j hj).2 hal) (hobs.at_ hs ho' w hM.wr)
        have hnew : ∀ (v : Value) (w' : World), φ v w' → R w w' → MidT l n D ρ0 w0 R sp m l.length (listed.setIfInBounds i true) (fun j => if j = i then v else vals j) (a.put o.dst v) w' := by
          intro v w' hv hR
          have hput : ∀ t, (∀ d, o.dst = some d → t ≠ d) → (a.put o.dst v).tmps[t]? = a.tmps[t]? := by
            intro t ht
            cases hd : o.dst with
            | none => rfl
            | some d => simp only [Act.put, Array.getElem?_setIfInBounds]; rw [if_neg (fun e => ht d hd e.symm)]
          have hputd : ∀ d, o.dst = some d → (a.put o.dst v).tmps[d]? = some v := by
            intro d hd
            have := (hF.ok i o d him ho' hd).1
            rw [hd]
            simp [Act.put, hM.fr.size, this]
          refine ⟨⟨?_, ?_, ?_⟩, hRt _ _ _ hM.wr hR, by simpa using hM.size, ?_, ?_, ?_⟩
          · rw [← hM.fr.defers]; cases o.dst <;> rfl
          · rw [← hM.fr.size]; cases o.dst <;> simp [Act.put]
          · intro t u hl
            rw [hput t (fun d hd e => (hF.ok i o d him ho' hd).2 (by rw [← e]; exact hkeys t u hl))]
            exact hM.fr.slot t u hl
          · intro j hj
            rw [getD_set _ _ _ hsz, if_neg (by omega)]; exact hM.tail j hj
          · intro j oj j' hoj hl he
            rw [getD_set _ _ _ hsz] at hl ⊢
            by_cases e : i = j'
            · rw [if_pos e]
            · rw [if_neg e]
              by_cases e2 : i = j
              · subst e2; rw [ho'] at hoj; injection hoj with hoj; subst hoj; exact hasEdge_listed he hal
              · rw [if_neg e2] at hl; exact hM.cl j oj j' hoj hl he
          · intro j dst φ' hs' hl
            rw [getD_set _ _ _ hsz] at hl
            by_cases e : j = i
            · subst e
              rw [hs] at hs'
              injection hs' with hs'
              injection hs' with e1 e2
              subst e1; subst e2
              rw [if_pos rfl]
              exact ⟨hv, hputd⟩
            · rw [if_neg (fun e' => e e'.symm)] at hl
              rw [if_neg e]
              obtain ⟨g1, g2⟩ := hM.got j dst φ' hs' hl
              refine ⟨hst.at_ hs' _ _ _ g1 hR, fun d hd => ?_⟩
              have hj : j < m := by rw [← hF.spl]; exact (List.getElem?_eq_some_iff.1 hs').1
              have hjl : j < l.length := by have := hF.le; omega
              have hoj := List.getElem?_eq_getElem hjl
              have hdj := hF.dst j _ dst φ' hoj hs'
              rw [hput d (fun d' hd' e' => by subst e'; exact hF.apart j i _ o d hj him e hoj ho' (by rw [hdj, hd]) hd')]
              exact g2 d hd
        have hcnt' := cnt_set listed i hsz hfi l.length hil
        unfold wpOp
        rw [ho]
        dsimp only
        have h1 := hOp a hFr
        split
        · rename_i hw
          rw [if_pos hw] at h1
          refine .inl (Oper.wp_mono ?_ (h1 Q))
          rintro a' w' ⟨v, rfl, hv, hR⟩
          exact ih _ _ _ _ (hnew v w' hv hR) (by omega)
        · rename_i hw
          rw [if_neg hw] at h1
          exact ih _ _ _ _ (hnew undef w h1.1 h1.2) (by omega)

theorem w_drawT {id : Nat} {w : World} {ρ : Env} (m : Nat) (R : World → World → Prop) (sp : Spec) (ds : List (List Nat)) (ρ0 : Env) (hsub : Sub ρ0 ρ) (hm : P.follows .mixedOrders = true)
    (hchk : drawOkT l m n (keysOf ρ0) (sp.map (·.1)) ds = true) (hR : ∀ a, R a a) (hRt : ∀ a b c, R a b → R b c → R a c) (hst : StAll R sp)
    (h : ∀ w0, w.grownBy w0 none → w0.heap.size = w.heap.size → ObsAll P l.toArray n D ρ0 w0 R sp l ds sp ∧ (∀ w', R w0 w' → AllV sp ρ0 w' (fun ρ => Reg P l.toArray Q (l.drop m) n D ρ w'))) :
    W P (.region id l.toArray true) Q n D ρ w := by
  intro a ha
  have hF := drawFactsT hchk
  obtain ⟨h1, h2⟩ := h w.drew (grown_drew w) rfl
  refine wp_region_any hm ?_
  have := mid_anyT hF (fun t v hl => look_of_keys hl) hRt hst h1 h2 l.length (Array.replicate l.length false) (fun _ => undef) a w.drew ⟨ha.sub hsub, hR _, by simp, fun i _ => by simp [Array.getD_eq_getD_getElem?, Array.getElem?_replicate]; split <;> rfl, fun i o j _ hl _ => by
    simp [Array.getD_eq_getD_getElem?, Array.getElem?_replicate] at hl
    split at hl <;> simp at hl, fun i dst φ hs hl => by
    simp [Array.getD_eq_getD_getElem?, Array.getElem?_replicate] at hl
    split at hl <;> simp at hl⟩ (by
      have : ∀ k L, cnt k L ≤ k := by
        intro k L; induction k with
        | zero => exact Nat.le_refl _
        | succ k ih => unfold cnt; split <;> omega
      exact this _ _)
  simpa using this
end
end Go.Gw
