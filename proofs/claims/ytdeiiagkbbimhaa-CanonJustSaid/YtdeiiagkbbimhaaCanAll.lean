/- Part of the proof that is named in YtdeiiagkbbimhaaNRowCanJust: a library for walks, or a function's walk. -/
import Derived.Test.YtdeiiagkbbimhaaNodeSpec5
import Derived.Test.YtdeiiagkbbimhaaGw18
import Derived.Test.YtdeiiagkbbimhaaGw19
set_option linter.unusedVariables false
set_option linter.unusedSimpArgs false
namespace Go.Gw
theorem ix_pre {α : Type} [Inhabited α] {o p : List α} (h : o <+: p) (i : Int) (h0 : 0 ≤ i) (h1 : i < o.length) : ix p i = ix o i := by
  obtain ⟨z, rfl⟩ := h
  exact ix_append_left o z i h0 h1
theorem kid_rng {l : List Nd} (h : looseB l = true) {i : Int} (h0 : 0 ≤ i) (h1 : i < l.length) (hl : (ix l i).lv ≠ 1) (k : Int) (k0 : 0 ≤ k) (k1 : k < 4) : 0 ≤ (ix l i).kid k ∧ (ix l i).kid k ≤ i := by
  by_cases e : (ix l i).kid k = 0
  · omega
  · exact okAt_kids h h0 h1 hl k k0 k1 e
theorem kids_rng {l : List Nd} (h : looseB l = true) {i : Int} (h0 : 0 ≤ i) (h1 : i < l.length) (hl : (ix l i).lv ≠ 1) :
    (0 ≤ (ix l i).k0 ∧ (ix l i).k0 ≤ i) ∧ (0 ≤ (ix l i).k1 ∧ (ix l i).k1 ≤ i) ∧ (0 ≤ (ix l i).k2 ∧ (ix l i).k2 ≤ i) ∧ (0 ≤ (ix l i).k3 ∧ (ix l i).k3 ≤ i) :=
  ⟨kid_rng h h0 h1 hl 0 (by omega) (by omega), kid_rng h h0 h1 hl 1 (by omega) (by omega), kid_rng h h0 h1 hl 2 (by omega) (by omega), kid_rng h h0 h1 hl 3 (by omega) (by omega)⟩
theorem hasL_app (l z : List Nd) : hasL l <+: hasL (l ++ z) := by
  have h : ∀ (z : List Nd) (acc : List Bool), acc <+: z.foldl (fun out x => out ++ [hasN x out]) acc := by
    intro z
    induction z with
    | nil => intro acc; exact List.prefix_refl _
    | cons x r ih => intro acc; rw [List.foldl_cons]; exact (List.prefix_append _ _).trans (ih _)
  unfold hasL
  rw [List.foldl_append]
  exact h z _
theorem hasN_eq {x : Nd} {A B : List Bool} (h : x.lv ≠ 1 → ix A x.k0 = ix B x.k0 ∧ ix A x.k1 = ix B x.k1 ∧ ix A x.k2 = ix B x.k2 ∧ ix A x.k3 = ix B x.k3) : hasN x A = hasN x B := by
  by_cases e : x.lv = 1
  · simp [hasN, kids, hasK, e]
  · obtain ⟨a, b, c, d⟩ := h e
    simp [hasN, kids, hasK, e, a, b, c, d]
theorem hasL_at {l : List Nd} (hl : looseB l = true) (i : Int) (h0 : 0 ≤ i) (h1 : i < l.length) : ix (hasL l) (i + 1) = hasN (ix l i) (hasL l) := by
  have e1 : l = l.take i.toNat ++ ([ix l i] ++ l.drop (i + 1).toNat) := by
    rw [← List.append_assoc, ← take_succ_ix l i h0 h1, List.take_append_drop]
  have hlen : (l.take i.toNat).length = i.toNat := by rw [List.length_take]; omega
  have p1 : hasL (l.take i.toNat) <+: hasL l := by
    have := hasL_app (l.take i.toNat) ([ix l i] ++ l.drop (i + 1).toNat)
    rw [← e1] at this; exact this
  have p2 : hasL (l.take i.toNat) ++ [hasN (ix l i) (hasL (l.take i.toNat))] <+: hasL l := by
    have := hasL_app (l.take i.toNat ++ [ix l i]) (l.drop (i + 1).toNat)
    rw [List.append_assoc, ← e1, hasL_snoc] at this; exact this
  rw [ix_pre p2 (i + 1) (by omega) (by rw [List.length_append, hasL_length, hlen]; simp; omega)]
  have e2 : ix (hasL (l.take i.toNat) ++ [hasN (ix l i) (hasL (l.take i.toNat))]) (i + 1) = hasN (ix l i) (hasL (l.take i.toNat)) := by
    unfold ix
    rw [List.getD_eq_getElem?_getD, List.getElem?_append_right (by rw [hasL_length, hlen]; omega), hasL_length, hlen, show (i + 1).toNat - (i.toNat + 1) = 0 by omega]
    rfl
  rw [e2]
  refine hasN_eq fun hv => ?_
  obtain ⟨a, b, c, d⟩ := kids_rng hl h0 h1 hv
  have hL : ((hasL (l.take i.toNat)).length : Int) = i + 1 := by rw [hasL_length, hlen]; omega
  exact ⟨(ix_pre p1 _ a.1 (by omega)).symm, (ix_pre p1 _ b.1 (by omega)).symm, (ix_pre p1 _ c.1 (by omega)).symm, (ix_pre p1 _ d.1 (by omega)).symm⟩

/-! ### a node's tree -/
inductive Tr where
  | no
  | leaf (a b c d : Int)
  | nd (lv : Int) (a b c d : Tr)
def trF (l : List Nd) : Nat → Int → Tr
  | 0, _ => .no
  | f + 1, n => if n = 0 then .no else if (ix l (n - 1)).lv = 1 then .leaf (ix l (n - 1)).k0 (ix l (n - 1)).k1 (ix l (n - 1)).k2 (ix l (n - 1)).k3
    else .nd (ix l (n - 1)).lv (trF l f (ix l (n - 1)).k0) (trF l f (ix l (n - 1)).k1) (trF l f (ix l (n - 1)).k2) (trF l f (ix l (n - 1)).k3)
def tr (l : List Nd) (n : Int) : Tr := trF l n.toNat n
theorem tr_zero (l : List Nd) : tr l 0 = .no := rfl
theorem trF_tr {l : List Nd} (hl : looseB l = true) (f : Nat) : ∀ (n : Int), 0 ≤ n → n ≤ l.length → n ≤ f → trF l f n = tr l n := by
  induction f using Nat.strongRecOn with
  | ind f ih =>
    intro n h0 h1 h2
    by_cases hn : n = 0
    · subst hn; cases f <;> simp [tr, trF]
    · obtain ⟨g, rfl⟩ : ∃ g, f = g + 1 := ⟨f - 1, by omega⟩
      obtain ⟨m, hm⟩ : ∃ m, n.toNat = m + 1 := ⟨n.toNat - 1, by omega⟩
      unfold tr
      rw [hm]
      simp only [trF, if_neg hn]
      split
      · rfl
      · rename_i hv
        obtain ⟨a, b, c, d⟩ := kids_rng hl (i := n - 1) (by omega) (by omega) hv
        congr 1
        · exact (ih g (by omega) _ a.1 (by omega) (by omega)).trans (ih m (by omega) _ a.1 (by omega) (by omega)).symm
        · exact (ih g (by omega) _ b.1 (by omega) (by omega)).trans (ih m (by omega) _ b.1 (by omega) (by omega)).symm
        · exact (ih g (by omega) _ c.1 (by omega) (by omega)).trans (ih m (by omega) _ c.1 (by omega) (by omega)).symm
        · exact (ih g (by omega) _ d.1 (by omega) (by omega)).trans (ih m (by omega) _ d.1 (by omega) (by omega)).symm
theorem tr_at {l : List Nd} (hl : looseB l = true) {n : Int} (h0 : 1 ≤ n) (h1 : n ≤ l.length) :
    tr l n = if (ix l (n - 1)).lv = 1 then .leaf (ix l (n - 1)).k0 (ix l (n - 1)).k1 (ix l (n - 1)).k2 (ix l (n - 1)).k3
      else .nd (ix l (n - 1)).lv (tr l (ix l (n - 1)).k0) (tr l (ix l (n - 1)).k1) (tr l (ix l (n - 1)).k2) (tr l (ix l (n - 1)).k3) := by
  obtain ⟨m, hm⟩ : ∃ m, n.toNat = m + 1 := ⟨n.toNat - 1, by omega⟩
  rw [show tr l n = trF l (m + 1) n by unfold tr; rw [hm]]
  simp only [trF, if_neg (show n ≠ 0 by omega)]
  split
  · rfl
  · rename_i hv
    obtain ⟨a, b, c, d⟩ := kids_rng hl (i := n - 1) (by omega) (by omega) hv
    rw [trF_tr hl m _ a.1 (by omega) (by omega), trF_tr hl m _ b.1 (by omega) (by omega), trF_tr hl m _ c.1 (by omega) (by omega), trF_tr hl m _ d.1 (by omega) (by omega)]
theorem tr_leaf {l : List Nd} (hl : looseB l = true) {n : Int} (h0 : 1 ≤ n) (h1 : n ≤ l.length) (hv : (ix l (n - 1)).lv = 1) :
    tr l n = .leaf (ix l (n - 1)).k0 (ix l (n - 1)).k1 (ix l (n - 1)).k2 (ix l (n - 1)).k3 := by rw [tr_at hl h0 h1, if_pos hv]
theorem tr_nd {l : List Nd} (hl : looseB l = true) {n : Int} (h0 : 1 ≤ n) (h1 : n ≤ l.length) (hv : (ix l (n - 1)).lv ≠ 1) :
    tr l n = .nd (ix l (n - 1)).lv (tr l (ix l (n - 1)).k0) (tr l (ix l (n - 1)).k1) (tr l (ix l (n - 1)).k2) (tr l (ix l (n - 1)).k3) := by rw [tr_at hl h0 h1, if_neg hv]
/-- What is true of no node, and of each node of which it is true of the quarters, is true of all. -/
theorem nodes_ind {l : List Nd} (hl : looseB l = true) (p : Int → Prop) (h0 : p 0) (h1 : ∀ n : Int, 1 ≤ n → n ≤ l.length → (ix l (n - 1)).lv = 1 → p n)
    (h2 : ∀ n : Int, 1 ≤ n → n ≤ l.length → (ix l (n - 1)).lv ≠ 1 → p (ix l (n - 1)).k0 → p (ix l (n - 1)).k1 → p (ix l (n - 1)).k2 → p (ix l (n - 1)).k3 → p n) :
    ∀ n : Int, 0 ≤ n → n ≤ l.length → p n := by
  have h : ∀ (f : Nat) (n : Int), 0 ≤ n → n ≤ l.length → n ≤ f → p n := by
    intro f
    induction f with
    | zero => intro n a b c; rw [show n = 0 by omega]; exact h0
    | succ f ih =>
      intro n a b c
      by_cases hn : n = 0
      · rw [hn]; exact h0
      · by_cases hv : (ix l (n - 1)).lv = 1
        · exact h1 n (by omega) b hv
        · obtain ⟨q0, q1, q2, q3⟩ := kids_rng hl (i := n - 1) (by omega) (by omega) hv
          exact h2 n (by omega) b hv (ih _ q0.1 (by omega) (by omega)) (ih _ q1.1 (by omega) (by omega)) (ih _ q2.1 (by omega) (by omega)) (ih _ q3.1 (by omega) (by omega))
  exact fun n a b => h n.toNat n a b (by omega)
def emp : Tr → Bool
  | .no => true
  | .leaf a b c d => decide (a = 0) && decide (b = 0) && decide (c = 0) && decide (d = 0)
  | .nd _ a b c d => emp a && emp b && emp c && emp d
theorem has_kid {l : List Nd} {x : Nd} {c : Int} (hv : x.lv ≠ 1) (h : ix (hasL l) c = !emp (tr l c)) : hasK x (hasL l) c = !emp (tr l c) := by
  unfold hasK
  rw [h, decide_eq_false hv, Bool.false_or]
  by_cases hc : c = 0
  · rw [hc, tr_zero]; rfl
  · simp [hc]
theorem has_tr {l : List Nd} (hl : looseB l = true) : ∀ n : Int, 0 ≤ n → n ≤ l.length → ix (hasL l) n = !emp (tr l n) := by
  refine nodes_ind hl _ (by rw [hasL_zero, tr_zero]; rfl) (fun n h0 h1 hv => ?_) (fun n h0 h1 hv p0 p1 p2 p3 => ?_)
  · rw [show n = (n - 1) + 1 by omega, hasL_at hl (n - 1) (by omega) (by omega), show n - 1 + 1 = n by omega, tr_leaf hl h0 h1 hv]
    simp [hasN, kids, hasK, hv, emp]
    by_cases a : (ix l (n - 1)).k0 = 0 <;> by_cases b : (ix l (n - 1)).k1 = 0 <;> by_cases c : (ix l (n - 1)).k2 = 0 <;> by_cases d : (ix l (n - 1)).k3 = 0 <;> simp [a, b, c, d]
  · rw [show n = (n - 1) + 1 by omega, hasL_at hl (n - 1) (by omega) (by omega), show n - 1 + 1 = n by omega, tr_nd hl h0 h1 hv]
    simp only [hasN, kids, List.any_cons, List.any_nil, has_kid hv p0, has_kid hv p1, has_kid hv p2, has_kid hv p3, emp]
    cases emp (tr l (ix l (n - 1)).k0) <;> cases emp (tr l (ix l (n - 1)).k1) <;> cases emp (tr l (ix l (n - 1)).k2) <;> cases emp (tr l (ix l (n - 1)).k3) <;> rfl
def Tr.q : Tr → Int → Tr
  | .nd _ a b c d, j => if j = 0 then a else if j = 1 then b else if j = 2 then c else d
  | _, _ => .no
def Tr.s : Tr → Int → Int
  | .leaf a b c d, j => sel4 a b c d j
  | _, _ => 0
def qe : Tr → Int → Bool
  | .no, _ => true
  | .leaf a b c d, j => decide (sel4 a b c d j = 0)
  | .nd _ a b c d, j => emp (if j = 0 then a else if j = 1 then b else if j = 2 then c else d)
def hol : Tr → Bool
  | .nd _ a b c d => (qe a 0 && qe a 1 && qe a 2) && (qe b 0 && qe b 1 && qe b 3) && (qe c 0 && qe c 2 && qe c 3) && (qe d 1 && qe d 2 && qe d 3)
  | _ => false
theorem qe_tr {l : List Nd} (hl : looseB l = true) {c : Int} (c0 : 0 ≤ c) (c1 : c ≤ l.length) (j : Int) (j0 : 0 ≤ j) (j1 : j < 4) :
    (c ≠ 0 → hasK (ix l (c - 1)) (hasL l) ((ix l (c - 1)).kid j) = false) ↔ qe (tr l c) j = true := by
  by_cases hc : c = 0
  · subst hc; simp [tr_zero, qe]
  · by_cases hv : (ix l (c - 1)).lv = 1
    · rw [tr_leaf hl (by omega) c1 hv]
      simp only [hasK, hv, qe, Nd.kid, hc, decide_true, Bool.true_or, Bool.and_true]
      by_cases e : sel4 (ix l (c - 1)).k0 (ix l (c - 1)).k1 (ix l (c - 1)).k2 (ix l (c - 1)).k3 j = 0 <;> simp [e, hc]
    · have r := kid_rng hl (i := c - 1) (by omega) (by omega) hv j j0 j1
      rw [tr_nd hl (by omega) c1 hv, has_kid hv (has_tr hl _ r.1 (by omega))]
      have : j = 0 ∨ j = 1 ∨ j = 2 ∨ j = 3 := by omega
      rcases this with rfl | rfl | rfl | rfl <;> simp [qe, Nd.kid, sel4, hc]
theorem hol_tr {l : List Nd} (hl : looseB l = true) {n : Int} (h0 : 0 ≤ n) (h1 : n ≤ l.length) : hollowB l n = hol (tr l n) := by
  by_cases hn : n = 0
  · subst hn; simp [hollowB, tr_zero, hol]
  · by_cases hv : (ix l (n - 1)).lv = 1
    · rw [tr_leaf hl (by omega) h1 hv]; simp [hollowB, hv, hol]
    · rw [Bool.eq_iff_iff, hollowB_iff, tr_nd hl (by omega) h1 hv]
      obtain ⟨a, b, c, d⟩ := kids_rng hl (i := n - 1) (by omega) (by omega) hv
      have Q := fun (c : Int) (c0 : 0 ≤ c ∧ c ≤ n - 1) (j : Int) => qe_tr hl c0.1 (by omega) j
      simp only [hol, Bool.and_eq_true]
      constructor
      · rintro ⟨_, _, h⟩
        exact ⟨⟨⟨⟨⟨(Q _ a 0 (by omega) (by omega)).1 fun e => h 0 (by omega) (by omega) e 0 (by omega) (by omega) (by omega), (Q _ a 1 (by omega) (by omega)).1 fun e => h 0 (by omega) (by omega) e 1 (by omega) (by omega) (by omega)⟩, (Q _ a 2 (by omega) (by omega)).1 fun e => h 0 (by omega) (by omega) e 2 (by omega) (by omega) (by omega)⟩,
          ⟨(Q _ b 0 (by omega) (by omega)).1 fun e => h 1 (by omega) (by omega) e 0 (by omega) (by omega) (by omega), (Q _ b 1 (by omega) (by omega)).1 fun e => h 1 (by omega) (by omega) e 1 (by omega) (by omega) (by omega)⟩, (Q _ b 3 (by omega) (by omega)).1 fun e => h 1 (by omega) (by omega) e 3 (by omega) (by omega) (by omega)⟩,
          ⟨(Q _ c 0 (by omega) (by omega)).1 fun e => h 2 (by omega) (by omega) e 0 (by omega) (by omega) (by omega), (Q _ c 2 (by omega) (by omega)).1 fun e => h 2 (by omega) (by omega) e 2 (by omega) (by omega) (by omega)⟩, (Q _ c 3 (by omega) (by omega)).1 fun e => h 2 (by omega) (by omega) e 3 (by omega) (by omega) (by omega)⟩,
          ⟨(Q _ d 1 (by omega) (by omega)).1 fun e => h 3 (by omega) (by omega) e 1 (by omega) (by omega) (by omega), (Q _ d 2 (by omega) (by omega)).1 fun e => h 3 (by omega) (by omega) e 2 (by omega) (by omega) (by omega)⟩, (Q _ d 3 (by omega) (by omega)).1 fun e => h 3 (by omega) (by omega) e 3 (by omega) (by omega) (by omega)⟩
      · rintro ⟨⟨⟨⟨⟨a0, a1⟩, a2⟩, ⟨b0, b1⟩, b3⟩, ⟨c0, c2⟩, c3⟩, ⟨d1, d2⟩, d3⟩
        refine ⟨hn, hv, fun k k0 k1 hk j j0 j1 hj => ?_⟩
        have e : j = 0 ∨ j = 1 ∨ j = 2 ∨ j = 3 := by omega
        have : k = 0 ∨ k = 1 ∨ k = 2 ∨ k = 3 := by omega
        rcases this with rfl | rfl | rfl | rfl
        · rcases e with rfl | rfl | rfl | rfl
          · exact (Q _ a _ j0 j1).2 a0 hk
          · exact (Q _ a _ j0 j1).2 a1 hk
          · exact (Q _ a _ j0 j1).2 a2 hk
          · exact absurd rfl hj
        · rcases e with rfl | rfl | rfl | rfl
          · exact (Q _ b _ j0 j1).2 b0 hk
          · exact (Q _ b _ j0 j1).2 b1 hk
          · exact absurd rfl hj
          · exact (Q _ b _ j0 j1).2 b3 hk
        · rcases e with rfl | rfl | rfl | rfl
          · exact (Q _ c _ j0 j1).2 c0 hk
          · exact absurd rfl hj
          · exact (Q _ c _ j0 j1).2 c2 hk
          · exact (Q _ c _ j0 j1).2 c3 hk
        · rcases e with rfl | rfl | rfl | rfl
          · exact absurd rfl hj
          · exact (Q _ d _ j0 j1).2 d1 hk
          · exact (Q _ d _ j0 j1).2 d2 hk
          · exact (Q _ d _ j0 j1).2 d3 hk
theorem tr_pre {l m : List Nd} (hl : looseB l = true) (hm : looseB m = true) (h : l <+: m) : ∀ n : Int, 0 ≤ n → n ≤ l.length → tr m n = tr l n := by
  have hle : (l.length : Int) ≤ m.length := by have := h.length_le; omega
  refine nodes_ind hl _ rfl (fun n h0 h1 hv => ?_) (fun n h0 h1 hv p0 p1 p2 p3 => ?_)
  · rw [tr_leaf hl h0 h1 hv, tr_leaf hm h0 (by omega) (by rw [ix_pre h _ (by omega) (by omega)]; exact hv), ix_pre h _ (by omega) (by omega)]
  · rw [tr_nd hl h0 h1 hv, tr_nd hm h0 (by omega) (by rw [ix_pre h _ (by omega) (by omega)]; exact hv), ix_pre h _ (by omega) (by omega), p0, p1, p2, p3]
end Go.Gw

set_option linter.unusedVariables false
set_option linter.unusedSimpArgs false
namespace Go.Gw
/-! ### what is hollow, a level lower -/
def innN (l : List Nd) (n k : Int) : Int := if 0 < (ix l (n - 1)).kid k then (ix l ((ix l (n - 1)).kid k - 1)).kid (3 - k) else 0
def innX (l : List Nd) (n : Int) : Nd := ⟨(ix l (n - 1)).lv - 1, innN l n 0, innN l n 1, innN l n 2, innN l n 3⟩
def inn : Tr → Tr
  | .nd v a b c d => if v = 2 then .leaf (a.s 3) (b.s 2) (c.s 1) (d.s 0) else .nd (v - 1) (a.q 3) (b.q 2) (c.q 1) (d.q 0)
  | t => t
def lvT : Tr → Nat
  | .no => 0
  | .leaf _ _ _ _ => 1
  | .nd v _ _ _ _ => v.toNat
def shrF : Nat → Tr → Tr
  | 0, t => t
  | f + 1, t => if hol t then shrF f (inn t) else t
def shr (t : Tr) : Tr := shrF (lvT t) t
def shr0 (t : Tr) : Tr := if emp t then .no else shr t
theorem shr_no {t : Tr} (h : hol t = false) : shr t = t := by
  unfold shr
  cases lvT t with
  | zero => rfl
  | succ f => simp [shrF, h]
theorem shr_yes {v : Int} {a b c d : Tr} (hv : 2 ≤ v) (h : hol (.nd v a b c d) = true) : shr (.nd v a b c d) = shr (inn (.nd v a b c d)) := by
  have e : lvT (.nd v a b c d) = lvT (inn (.nd v a b c d)) + 1 := by
    by_cases e : v = 2
    · subst e; rfl
    · simp only [inn, if_neg e, lvT]; omega
  conv => lhs; unfold shr
  rw [e]
  simp only [shrF, h, if_true]
  rfl
theorem loose_snoc {l : List Nd} {x : Nd} (hl : looseB l = true) (hv : 1 ≤ x.lv ∧ x.lv ≤ 1329) (hk : ∀ k : Int, 0 ≤ k → k < 4 → x.kid k = 0 ∨ (x.lv = 1 ∧ 0 < x.kid k ∧ x.kid k ≤ 255) ∨ (x.lv ≠ 1 ∧ 0 < x.kid k ∧ x.kid k ≤ l.length ∧ (ix l (x.kid k - 1)).lv = x.lv - 1)) :
    looseB (l ++ [x]) = true := by
  have P : l <+: l ++ [x] := List.prefix_append _ _
  rw [looseB_iff]
  intro i h0 h1
  rw [List.length_append] at h1
  simp at h1
  by_cases hi : i < l.length
  · have o := (okAt_iff l i).1 ((looseB_iff l).1 hl i h0 hi)
    rw [okAt_iff, ix_pre P i h0 hi]
    refine ⟨o.1, fun k k0 k1 => ?_⟩
    have q := o.2 k k0 k1
    unfold kidB at q ⊢
    rw [ix_pre P i h0 hi]
    by_cases hc : (ix l i).lv = 1
    · rw [if_pos hc] at q ⊢; exact q
    · rw [if_neg hc] at q ⊢
      have r := kid_rng hl h0 hi hc k k0 k1
      by_cases hz : (ix l i).kid k = 0
      · simp [hz]
      · rw [ix_pre P _ (by omega) (by omega)]; exact q
  · have e : i = (l.length : Int) := by omega
    have ex : ix (l ++ [x]) i = x := by rw [e]; unfold ix; simp
    rw [okAt_iff, ex]
    refine ⟨hv, fun k k0 k1 => ?_⟩
    unfold kidB
    rw [ex]
    rcases hk k k0 k1 with h | ⟨h1, h2, h3⟩ | ⟨h1, h2, h3, h4⟩
    · simp [h]
    · rw [if_pos h1]; simp [h2, h3]
    · rw [if_neg h1, ix_pre P _ (by omega) (by omega)]; simp [h2, h4, show x.kid k ≤ i by omega]
theorem inn_in {l : List Nd} (hl : looseB l = true) {n : Int} (h0 : 1 ≤ n) (h1 : n ≤ l.length) (hv : (ix l (n - 1)).lv ≠ 1) (k : Int) (k0 : 0 ≤ k) (k1 : k < 4) :
    innN l n k = 0 ∨ ((ix l (n - 1)).lv = 2 ∧ 0 < innN l n k ∧ innN l n k ≤ 255) ∨ ((ix l (n - 1)).lv ≠ 2 ∧ 0 < innN l n k ∧ innN l n k ≤ l.length ∧ (ix l (innN l n k - 1)).lv = (ix l (n - 1)).lv - 2) := by
  unfold innN
  split
  · rename_i hc
    have a := kid_in hl (i := n - 1) (k := k) (by omega) (by omega) k0 k1 hv (by omega)
    generalize (ix l (n - 1)).kid k = c at a hc ⊢
    have l1 := lv_in hl (i := c - 1) (by omega) (by omega)
    by_cases h2 : (ix l (c - 1)).lv = 1
    · have b := kid1_in hl (i := c - 1) (k := 3 - k) (by omega) (by omega) (by omega) (by omega) h2
      by_cases hz : (ix l (c - 1)).kid (3 - k) = 0
      · exact .inl hz
      · exact .inr (.inl ⟨by omega, by omega, by omega⟩)
    · by_cases hz : (ix l (c - 1)).kid (3 - k) = 0
      · exact .inl hz
      · have b := kid_in hl (i := c - 1) (k := 3 - k) (by omega) (by omega) (by omega) (by omega) h2 hz
        exact .inr (.inr ⟨by omega, by omega, by omega, by omega⟩)
  · exact .inl rfl
theorem innX_kid (l : List Nd) (n k : Int) (k0 : 0 ≤ k) (k1 : k < 4) : (innX l n).kid k = innN l n k := by
  have : k = 0 ∨ k = 1 ∨ k = 2 ∨ k = 3 := by omega
  rcases this with rfl | rfl | rfl | rfl <;> rfl
theorem inn_loose {l : List Nd} (hl : looseB l = true) {n : Int} (h0 : 1 ≤ n) (h1 : n ≤ l.length) (hv : (ix l (n - 1)).lv ≠ 1) : looseB (l ++ [innX l n]) = true := by
  have b := lv_in hl (i := n - 1) (by omega) (by omega)
  refine loose_snoc hl ⟨by simp only [innX]; omega, by simp only [innX]; omega⟩ fun k k0 k1 => ?_
  rw [innX_kid l n k k0 k1]
  rcases inn_in hl h0 h1 hv k k0 k1 with h | ⟨h2, h3, h4⟩ | ⟨h2, h3, h4, h5⟩
  · exact .inl h
  · exact .inr (.inl ⟨by simp only [innX]; omega, h3, h4⟩)
  · exact .inr (.inr ⟨by simp only [innX]; omega, h3, h4, by simp only [innX]; omega⟩)
theorem inn_s {l : List Nd} (hl : looseB l = true) {n : Int} (h0 : 1 ≤ n) (h1 : n ≤ l.length) (hv : (ix l (n - 1)).lv = 2) (k : Int) (k0 : 0 ≤ k) (k1 : k < 4) :
    innN l n k = (tr l ((ix l (n - 1)).kid k)).s (3 - k) := by
  unfold innN
  have r := kid_rng hl (i := n - 1) (by omega) (by omega) (by omega) k k0 k1
  split
  · rename_i hc
    have a := kid_in hl (i := n - 1) (k := k) (by omega) (by omega) k0 k1 (by omega) (by omega)
    rw [tr_leaf hl (by omega) (by omega) (by omega)]
    rfl
  · rename_i hc
    rw [show (ix l (n - 1)).kid k = 0 by omega, tr_zero]; rfl
theorem inn_q {l : List Nd} (hl : looseB l = true) {n : Int} (h0 : 1 ≤ n) (h1 : n ≤ l.length) (hv : (ix l (n - 1)).lv ≠ 1) (hv2 : (ix l (n - 1)).lv ≠ 2) (k : Int) (k0 : 0 ≤ k) (k1 : k < 4) :
    tr l (innN l n k) = (tr l ((ix l (n - 1)).kid k)).q (3 - k) := by
  unfold innN
  have r := kid_rng hl (i := n - 1) (by omega) (by omega) (by omega) k k0 k1
  split
  · rename_i hc
    have a := kid_in hl (i := n - 1) (k := k) (by omega) (by omega) k0 k1 (by omega) (by omega)
    rw [tr_nd hl (n := (ix l (n - 1)).kid k) (by omega) (by omega) (by omega)]
    have : k = 0 ∨ k = 1 ∨ k = 2 ∨ k = 3 := by omega
    rcases this with rfl | rfl | rfl | rfl <;> rfl
  · rename_i hc
    rw [show (ix l (n - 1)).kid k = 0 by omega, tr_zero]; rfl
theorem inn_tr {l : List Nd} (hl : looseB l = true) {n : Int} (h0 : 1 ≤ n) (h1 : n ≤ l.length) (hv : (ix l (n - 1)).lv ≠ 1) : tr (l ++ [innX l n]) ((l.length : Int) + 1) = inn (tr l n) := by
  have hm := inn_loose hl h0 h1 hv
  have P : l <+: l ++ [innX l n] := List.prefix_append _ _
  have ex : ix (l ++ [innX l n]) ((l.length : Int) + 1 - 1) = innX l n := by rw [show (l.length : Int) + 1 - 1 = l.length by omega]; unfold ix; simp
  have b := lv_in hl (i := n - 1) (by omega) (by omega)
  rw [tr_nd hl h0 h1 hv]
  by_cases h2 : (ix l (n - 1)).lv = 2
  · rw [tr_leaf hm (by omega) (by simp) (by rw [ex]; simp only [innX]; omega), ex]
    simp only [inn, if_pos h2, innX]
    rw [inn_s hl h0 h1 h2 0 (by omega) (by omega), inn_s hl h0 h1 h2 1 (by omega) (by omega), inn_s hl h0 h1 h2 2 (by omega) (by omega), inn_s hl h0 h1 h2 3 (by omega) (by omega)]
    rfl
  · rw [tr_nd hm (by omega) (by simp) (by rw [ex]; simp only [innX]; omega), ex]
    have Q : ∀ k : Int, 0 ≤ k → k < 4 → tr (l ++ [innX l n]) (innN l n k) = (tr l ((ix l (n - 1)).kid k)).q (3 - k) := fun k k0 k1 => by
      rw [← inn_q hl h0 h1 hv h2 k k0 k1]
      rcases inn_in hl h0 h1 hv k k0 k1 with h | ⟨h2, h3, h4⟩ | ⟨h2, h3, h4, h5⟩
      · rw [h]; rfl
      · omega
      · exact tr_pre hl hm P _ (by omega) h4
    simp only [inn, if_neg h2]
    show Tr.nd ((ix l (n - 1)).lv - 1) (tr (l ++ [innX l n]) (innN l n 0)) (tr (l ++ [innX l n]) (innN l n 1)) (tr (l ++ [innX l n]) (innN l n 2)) (tr (l ++ [innX l n]) (innN l n 3)) = _
    rw [Q 0 (by omega) (by omega), Q 1 (by omega) (by omega), Q 2 (by omega) (by omega), Q 3 (by omega) (by omega)]
    rfl
/-! ### a tree's nodes, each once, in the order in which they come to an end -/
def intr (o : List Nd) (x : Nd) : List Nd × Int :=
  if x.k0 = 0 ∧ x.k1 = 0 ∧ x.k2 = 0 ∧ x.k3 = 0 then (o, 0) else if x ∈ o then (o, (o.idxOf x : Int) + 1) else (o ++ [x], (o.length : Int) + 1)
def vis : Tr → List Nd → List Nd × Int
  | .no, o => (o, 0)
  | .leaf a b c d, o => intr o ⟨1, a, b, c, d⟩
  | .nd v a b c d, o => intr (vis d (vis c (vis b (vis a o).1).1).1).1 ⟨v, (vis a o).2, (vis b (vis a o).1).2, (vis c (vis b (vis a o).1).1).2, (vis d (vis c (vis b (vis a o).1).1).1).2⟩
theorem intr_pre (o : List Nd) (x : Nd) : o <+: (intr o x).1 := by
  unfold intr
  split
  · exact List.prefix_refl _
  · split
    · exact List.prefix_refl _
    · exact List.prefix_append _ _
theorem vis_pre : ∀ (t : Tr) (o : List Nd), o <+: (vis t o).1
  | .no, o => List.prefix_refl _
  | .leaf a b c d, o => intr_pre _ _
  | .nd v a b c d, o => ((vis_pre a o).trans ((vis_pre b _).trans ((vis_pre c _).trans (vis_pre d _)))).trans (intr_pre _ _)
theorem intr_stay {o p : List Nd} {x : Nd} (h : (intr o x).1 <+: p) : intr p x = (p, (intr o x).2) := by
  unfold intr at h ⊢
  by_cases hz : x.k0 = 0 ∧ x.k1 = 0 ∧ x.k2 = 0 ∧ x.k3 = 0
  · rw [if_pos hz, if_pos hz]
  · rw [if_neg hz] at h ⊢
    by_cases hm : x ∈ o
    · rw [if_pos hm] at h
      obtain ⟨z, rfl⟩ := h
      rw [if_neg hz, if_pos (List.mem_append_left _ hm), if_pos hm, List.idxOf_append, if_pos hm]
    · rw [if_neg hm] at h
      rw [if_neg hz]
      obtain ⟨z, rfl⟩ := h
      rw [if_pos (by simp), if_neg hm, List.append_assoc, List.idxOf_append, if_neg hm]
      simp
theorem vis_stay : ∀ (t : Tr) {o p : List Nd}, (vis t o).1 <+: p → vis t p = (p, (vis t o).2)
  | .no, o, p, _ => rfl
  | .leaf a b c d, o, p, h => intr_stay h
  | .nd v a b c d, o, p, h => by
    simp only [vis] at h ⊢
    have h4 := (intr_pre _ _).trans h
    have h3 := (vis_pre d _).trans h4
    have h2 := (vis_pre c _).trans h3
    have h1 := (vis_pre b _).trans h2
    rw [vis_stay a h1, vis_stay b h2, vis_stay c h3, vis_stay d h4]
    exact intr_stay h
theorem vis_emp : ∀ (t : Tr) (o : List Nd), emp t = true → vis t o = (o, 0)
  | .no, o, _ => rfl
  | .leaf a b c d, o, h => by
    simp [emp] at h
    simp [vis, intr, h]
  | .nd v a b c d, o, h => by
    simp only [emp, Bool.and_eq_true] at h
    simp only [vis, vis_emp a _ h.1.1.1, vis_emp b _ h.1.1.2, vis_emp c _ h.1.2, vis_emp d _ h.2]
    simp [intr]
theorem intr_ge (o : List Nd) (x : Nd) : (intr o x).2 = 0 ∧ (x.k0 = 0 ∧ x.k1 = 0 ∧ x.k2 = 0 ∧ x.k3 = 0) ∧ (intr o x).1 = o ∨
    1 ≤ (intr o x).2 ∧ (intr o x).2 ≤ o.length ∧ ¬ (x.k0 = 0 ∧ x.k1 = 0 ∧ x.k2 = 0 ∧ x.k3 = 0) ∧ x ∈ o ∧ (intr o x).1 = o ∧ ix o ((intr o x).2 - 1) = x ∨
    (intr o x).2 = (o.length : Int) + 1 ∧ ¬ (x.k0 = 0 ∧ x.k1 = 0 ∧ x.k2 = 0 ∧ x.k3 = 0) ∧ ¬ x ∈ o ∧ (intr o x).1 = o ++ [x] := by
  unfold intr
  split
  · rename_i h; exact .inl ⟨rfl, h, rfl⟩
  · rename_i h
    split
    · rename_i hm
      have := List.idxOf_lt_length_iff.2 hm
      refine .inr (.inl ⟨by omega, by omega, h, hm, rfl, ?_⟩)
      show ix o ((o.idxOf x : Int) + 1 - 1) = x
      rw [show (o.idxOf x : Int) + 1 - 1 = (o.idxOf x : Nat) by omega]
      unfold ix
      rw [Int.toNat_natCast, List.getD_eq_getElem?_getD, List.getElem?_eq_getElem this]
      simp
    · rename_i hm; exact .inr (.inr ⟨rfl, h, hm, rfl⟩)
theorem intr_ix (o : List Nd) (x : Nd) (h : (intr o x).2 ≠ 0) : 1 ≤ (intr o x).2 ∧ (intr o x).2 ≤ (intr o x).1.length ∧ ix (intr o x).1 ((intr o x).2 - 1) = x := by
  rcases intr_ge o x with ⟨a, _⟩ | ⟨a, b, _, _, e, f⟩ | ⟨a, b, c, d⟩
  · exact absurd a h
  · rw [e]; exact ⟨a, b, f⟩
  · rw [d, a]
    refine ⟨by omega, by simp, ?_⟩
    rw [show (o.length : Int) + 1 - 1 = o.length by omega]; unfold ix; simp
theorem vis_zero : ∀ (t : Tr) (o : List Nd), 0 ≤ (vis t o).2 ∧ (vis t o).2 ≤ (vis t o).1.length ∧ ((vis t o).2 = 0 ↔ emp t = true)
  | .no, o => by simp [vis, emp]
  | .leaf a b c d, o => by
    simp only [vis]
    by_cases h : (intr o ⟨1, a, b, c, d⟩).2 = 0
    · rcases intr_ge o ⟨1, a, b, c, d⟩ with ⟨q, r, s⟩ | ⟨q, _⟩ | ⟨q, _⟩
      · simp only at r; rw [q, s]; simp [emp, r]
      · omega
      · omega
    · have := intr_ix _ _ h
      refine ⟨by omega, this.2.1, fun e => absurd e h, fun e => absurd (congrArg Prod.snd (vis_emp (.leaf a b c d) o e)) h⟩
  | .nd v a b c d, o => by
    have ha := vis_zero a o
    have hb := vis_zero b (vis a o).1
    have hc := vis_zero c (vis b (vis a o).1).1
    have hd := vis_zero d (vis c (vis b (vis a o).1).1).1
    refine ⟨?_, ?_, fun e => ?_, fun e => congrArg Prod.snd (vis_emp (.nd v a b c d) o e)⟩
    · simp only [vis]
      rcases intr_ge (vis d (vis c (vis b (vis a o).1).1).1).1 ⟨v, (vis a o).2, (vis b (vis a o).1).2, (vis c (vis b (vis a o).1).1).2, (vis d (vis c (vis b (vis a o).1).1).1).2⟩ with ⟨q, _⟩ | ⟨q, _⟩ | ⟨q, _⟩ <;> omega
    · simp only [vis]
      rcases intr_ge (vis d (vis c (vis b (vis a o).1).1).1).1 ⟨v, (vis a o).2, (vis b (vis a o).1).2, (vis c (vis b (vis a o).1).1).2, (vis d (vis c (vis b (vis a o).1).1).1).2⟩ with ⟨q, _⟩ | ⟨q, q2, _, _, q3, _⟩ | ⟨q, _, _, q3⟩
      · omega
      · rw [q3]; omega
      · rw [q3]; simp; omega
    · simp only [vis] at e
      rcases intr_ge (vis d (vis c (vis b (vis a o).1).1).1).1 ⟨v, (vis a o).2, (vis b (vis a o).1).2, (vis c (vis b (vis a o).1).1).2, (vis d (vis c (vis b (vis a o).1).1).1).2⟩ with ⟨q, ⟨r0, r1, r2, r3⟩, _⟩ | ⟨q, _⟩ | ⟨q, _⟩
      · simp only at r0 r1 r2 r3
        simp [emp, ha.2.2.1 r0, hb.2.2.1 r1, hc.2.2.1 r2, hd.2.2.1 r3]
      · omega
      · omega
end Go.Gw

set_option linter.unusedVariables false
set_option linter.unusedSimpArgs false
namespace Go.Gw
structure CanL (o : List Nd) : Prop where
  nd : o.Nodup
  ok : looseB o = true
  sm : ∀ i : Int, 0 ≤ i → i < o.length → ¬ ((ix o i).k0 = 0 ∧ (ix o i).k1 = 0 ∧ (ix o i).k2 = 0 ∧ (ix o i).k3 = 0)
theorem can_nil : CanL [] := ⟨by simp, by rw [looseB_iff]; intro i h0 h1; simp at h1; omega, fun i h0 h1 => by simp at h1; omega⟩
def wf : Int → Tr → Prop
  | _, .no => True
  | v, .leaf a b c d => v = 1 ∧ (0 ≤ a ∧ a ≤ 255) ∧ (0 ≤ b ∧ b ≤ 255) ∧ (0 ≤ c ∧ c ≤ 255) ∧ (0 ≤ d ∧ d ≤ 255)
  | v, .nd u a b c d => u = v ∧ 2 ≤ v ∧ v ≤ 1329 ∧ wf (v - 1) a ∧ wf (v - 1) b ∧ wf (v - 1) c ∧ wf (v - 1) d
theorem wf_tr {l : List Nd} (hl : looseB l = true) : ∀ n : Int, 0 ≤ n → n ≤ l.length → ∀ v : Int, (n ≠ 0 → v = (ix l (n - 1)).lv) → wf v (tr l n) := by
  refine nodes_ind hl _ (fun v _ => trivial) (fun n h0 h1 hv v e => ?_) (fun n h0 h1 hv p0 p1 p2 p3 v e => ?_)
  · rw [tr_leaf hl h0 h1 hv]
    have q := fun k k0 k1 => kid1_in hl (i := n - 1) (k := k) (by omega) (by omega) k0 k1 hv
    exact ⟨by rw [e (by omega), hv], q 0 (by omega) (by omega), q 1 (by omega) (by omega), q 2 (by omega) (by omega), q 3 (by omega) (by omega)⟩
  · rw [tr_nd hl h0 h1 hv]
    have b := lv_in hl (i := n - 1) (by omega) (by omega)
    have q := fun k k0 k1 => kid_in hl (i := n - 1) (k := k) (by omega) (by omega) k0 k1 hv
    have ev := e (by omega)
    have r : ∀ k : Int, 0 ≤ k → k < 4 → (ix l (n - 1)).kid k ≠ 0 → v - 1 = (ix l ((ix l (n - 1)).kid k - 1)).lv := fun k k0 k1 hk => by have := q k k0 k1 hk; omega
    exact ⟨ev.symm, by omega, by omega, p0 _ (r 0 (by omega) (by omega)), p1 _ (r 1 (by omega) (by omega)), p2 _ (r 2 (by omega) (by omega)), p3 _ (r 3 (by omega) (by omega))⟩
theorem intr_can {o : List Nd} {x : Nd} (h : CanL o) (hv : 1 ≤ x.lv ∧ x.lv ≤ 1329) (hk : ∀ k : Int, 0 ≤ k → k < 4 → x.kid k = 0 ∨ (x.lv = 1 ∧ 0 < x.kid k ∧ x.kid k ≤ 255) ∨ (x.lv ≠ 1 ∧ 0 < x.kid k ∧ x.kid k ≤ o.length ∧ (ix o (x.kid k - 1)).lv = x.lv - 1)) :
    CanL (intr o x).1 := by
  rcases intr_ge o x with ⟨_, _, e⟩ | ⟨_, _, _, _, e, _⟩ | ⟨_, hz, hm, e⟩
  · rw [e]; exact h
  · rw [e]; exact h
  · rw [e]
    refine ⟨List.nodup_append.2 ⟨h.nd, by simp, fun a ha b hb => by simp at hb; subst hb; intro e; subst e; exact hm ha⟩, loose_snoc h.ok hv hk, fun i h0 h1 => ?_⟩
    by_cases hi : i < o.length
    · rw [ix_append_left o [x] i h0 hi]; exact h.sm i h0 hi
    · have e2 : i = (o.length : Int) := by simp at h1; omega
      have ex : ix (o ++ [x]) i = x := by rw [e2]; unfold ix; simp
      rw [ex]; exact hz
theorem num_in {o p : List Nd} {m v : Int} (hm : 0 ≤ m ∧ m ≤ o.length) (hv : m ≠ 0 → (ix o (m - 1)).lv = v) (h : o <+: p) : m = 0 ∨ (0 < m ∧ m ≤ p.length ∧ (ix p (m - 1)).lv = v) := by
  by_cases e : m = 0
  · exact .inl e
  · have := h.length_le
    exact .inr ⟨by omega, by omega, by rw [ix_pre h _ (by omega) (by omega)]; exact hv e⟩
theorem vis_can : ∀ (t : Tr) {v : Int} {o : List Nd}, wf v t → CanL o → CanL (vis t o).1 ∧ ((vis t o).2 ≠ 0 → (ix (vis t o).1 ((vis t o).2 - 1)).lv = v)
  | .no, v, o, _, h => ⟨h, fun e => absurd rfl e⟩
  | .leaf a b c d, v, o, ⟨hv, ha, hb, hc, hd⟩, h => by
    simp only [vis]
    refine ⟨intr_can h ⟨by simp, by simp⟩ fun k k0 k1 => ?_, fun e => by rw [(intr_ix _ _ e).2.2]; exact hv.symm⟩
    have : k = 0 ∨ k = 1 ∨ k = 2 ∨ k = 3 := by omega
    rcases this with rfl | rfl | rfl | rfl <;> simp [Nd.kid, sel4] <;> omega
  | .nd u a b c d, v, o, ⟨hu, h2, h3, wa, wb, wc, wd⟩, h => by
    subst hu
    have A := vis_can a wa h
    have B := vis_can b wb A.1
    have C := vis_can c wc B.1
    have D := vis_can d wd C.1
    have za := vis_zero a o
    have zb := vis_zero b (vis a o).1
    have zc := vis_zero c (vis b (vis a o).1).1
    have zd := vis_zero d (vis c (vis b (vis a o).1).1).1
    have pd := vis_pre d (vis c (vis b (vis a o).1).1).1
    have pc := (vis_pre c (vis b (vis a o).1).1).trans pd
    have pb := (vis_pre b (vis a o).1).trans pc
    have ia := num_in ⟨za.1, za.2.1⟩ A.2 pb
    have ib := num_in ⟨zb.1, zb.2.1⟩ B.2 pc
    have ic := num_in ⟨zc.1, zc.2.1⟩ C.2 pd
    have id := num_in ⟨zd.1, zd.2.1⟩ D.2 (List.prefix_refl _)
    simp only [vis]
    refine ⟨intr_can D.1 ⟨by simp only; omega, by simp only; omega⟩ fun k k0 k1 => ?_, fun e => by rw [(intr_ix _ _ e).2.2]⟩
    have hu : u ≠ 1 := by omega
    have : k = 0 ∨ k = 1 ∨ k = 2 ∨ k = 3 := by omega
    rcases this with rfl | rfl | rfl | rfl
    · rcases ia with e | ⟨e1, e2, e3⟩
      · exact .inl e
      · exact .inr (.inr ⟨hu, e1, e2, e3⟩)
    · rcases ib with e | ⟨e1, e2, e3⟩
      · exact .inl e
      · exact .inr (.inr ⟨hu, e1, e2, e3⟩)
    · rcases ic with e | ⟨e1, e2, e3⟩
      · exact .inl e
      · exact .inr (.inr ⟨hu, e1, e2, e3⟩)
    · rcases id with e | ⟨e1, e2, e3⟩
      · exact .inl e
      · exact .inr (.inr ⟨hu, e1, e2, e3⟩)
/-- What is laid new is not above. -/
def Lows (o p : List Nd) (v : Int) : Prop := ∀ i : Int, o.length ≤ i → i < p.length → (ix p i).lv ≤ v
theorem lows_trans {o p q : List Nd} {v : Int} (h : Lows o p v) (k : Lows p q v) (hq : p <+: q) : Lows o q v := fun i h0 h1 => by
  by_cases e : i < p.length
  · rw [ix_pre hq i (by omega) e]; exact h i h0 e
  · exact k i (by omega) h1
theorem lows_mono {o p : List Nd} {v u : Int} (h : Lows o p v) (k : v ≤ u) : Lows o p u := fun i h0 h1 => Int.le_trans (h i h0 h1) k
theorem lows_intr (o : List Nd) (x : Nd) : Lows o (intr o x).1 x.lv := by
  intro i h0 h1
  rcases intr_ge o x with ⟨_, _, e⟩ | ⟨_, _, _, _, e, _⟩ | ⟨_, hz, hm, e⟩
  · rw [e] at h1; omega
  · rw [e] at h1; omega
  · rw [e] at h1 ⊢
    have e2 : i = (o.length : Int) := by simp at h1; omega
    have ex : ix (o ++ [x]) i = x := by rw [e2]; unfold ix; simp
    rw [ex]; exact Int.le_refl _
theorem vis_lows : ∀ (t : Tr) {v : Int} (o : List Nd), wf v t → Lows o (vis t o).1 v
  | .no, v, o, _ => fun i h0 h1 => by simp only [vis] at h1; omega
  | .leaf a b c d, v, o, ⟨hv, _⟩ => by subst hv; exact lows_intr _ _
  | .nd u a b c d, v, o, ⟨hu, h2, h3, wa, wb, wc, wd⟩ => by
    subst hu
    have A := vis_lows a o wa
    have B := vis_lows b (vis a o).1 wb
    have C := vis_lows c (vis b (vis a o).1).1 wc
    have D := vis_lows d (vis c (vis b (vis a o).1).1).1 wd
    simp only [vis]
    exact lows_trans (lows_mono (lows_trans (lows_trans (lows_trans A B (vis_pre b _)) C (vis_pre c _)) D (vis_pre d _)) (by omega)) (lows_intr _ _) (intr_pre _ _)
theorem kids_lows {u : Int} {a b c d : Tr} (o : List Nd) (wa : wf (u - 1) a) (wb : wf (u - 1) b) (wc : wf (u - 1) c) (wd : wf (u - 1) d) : Lows o (vis d (vis c (vis b (vis a o).1).1).1).1 (u - 1) :=
  lows_trans (lows_trans (lows_trans (vis_lows a o wa) (vis_lows b (vis a o).1 wb) (vis_pre b _)) (vis_lows c (vis b (vis a o).1).1 wc) (vis_pre c _)) (vis_lows d (vis c (vis b (vis a o).1).1).1 wd) (vis_pre d _)
/-- A number that was there: nothing is laid. -/
theorem vis_old : ∀ (t : Tr) {v : Int} {o : List Nd}, wf v t → CanL o → (vis t o).2 ≤ o.length → (vis t o).1 = o
  | .no, v, o, _, _, _ => rfl
  | .leaf a b c d, v, o, _, _, h => by
    simp only [vis] at h ⊢
    rcases intr_ge o ⟨1, a, b, c, d⟩ with ⟨_, _, e⟩ | ⟨_, _, _, _, e, _⟩ | ⟨e, _⟩
    · exact e
    · exact e
    · omega
  | .nd u a b c d, v, o, ⟨hu, h2, h3, wa, wb, wc, wd⟩, hc, h => by
    subst hu
    simp only [vis] at h ⊢
    have po : o <+: (vis d (vis c (vis b (vis a o).1).1).1).1 := (vis_pre a o).trans ((vis_pre b _).trans ((vis_pre c _).trans (vis_pre d _)))
    have hle := po.length_le
    have key : (vis a o).2 ≤ o.length → (vis b (vis a o).1).2 ≤ o.length → (vis c (vis b (vis a o).1).1).2 ≤ o.length → (vis d (vis c (vis b (vis a o).1).1).1).2 ≤ o.length →
        (vis d (vis c (vis b (vis a o).1).1).1).1 = o := by
      intro q0 q1 q2 q3
      have A := vis_old a wa hc q0
      rw [A] at q1 q2 q3 ⊢
      have B := vis_old b wb hc q1
      rw [B] at q2 q3 ⊢
      have C := vis_old c wc hc q2
      rw [C] at q3 ⊢
      exact vis_old d wd hc q3
    rcases intr_ge (vis d (vis c (vis b (vis a o).1).1).1).1 ⟨u, (vis a o).2, (vis b (vis a o).1).2, (vis c (vis b (vis a o).1).1).2, (vis d (vis c (vis b (vis a o).1).1).1).2⟩ with ⟨_, ⟨e0, e1, e2, e3⟩, e⟩ | ⟨e0, e1, _, _, e, ex⟩ | ⟨e, _⟩
    · simp only at e0 e1 e2 e3
      rw [e]; exact key (by omega) (by omega) (by omega) (by omega)
    · rw [e]
      rw [ix_pre po _ (by omega) (by omega)] at ex
      obtain ⟨r0, r1, r2, r3⟩ := kids_rng hc.ok (i := (intr (vis d (vis c (vis b (vis a o).1).1).1).1 ⟨u, (vis a o).2, (vis b (vis a o).1).2, (vis c (vis b (vis a o).1).1).2, (vis d (vis c (vis b (vis a o).1).1).1).2⟩).2 - 1) (by omega) (by omega) (by rw [ex]; simp only; omega)
      rw [ex] at r0 r1 r2 r3
      simp only at r0 r1 r2 r3
      exact key (by omega) (by omega) (by omega) (by omega)
    · omega
theorem vis_new : ∀ (t : Tr) {v : Int} {o : List Nd}, wf v t → o.length < (vis t o).2 → (vis t o).2 = (vis t o).1.length
  | .no, v, o, _, h => by simp only [vis] at h; omega
  | .leaf a b c d, v, o, _, h => by
    simp only [vis] at h ⊢
    rcases intr_ge o ⟨1, a, b, c, d⟩ with ⟨e, _⟩ | ⟨_, e, _⟩ | ⟨e, _, _, e2⟩
    · omega
    · omega
    · rw [e, e2]; simp
  | .nd u a b c d, v, o, ⟨hu, h2, h3, wa, wb, wc, wd⟩, h => by
    subst hu
    simp only [vis] at h ⊢
    have L := kids_lows o wa wb wc wd
    rcases intr_ge (vis d (vis c (vis b (vis a o).1).1).1).1 ⟨u, (vis a o).2, (vis b (vis a o).1).2, (vis c (vis b (vis a o).1).1).2, (vis d (vis c (vis b (vis a o).1).1).1).2⟩ with ⟨e, _⟩ | ⟨e0, e1, _, _, e, ex⟩ | ⟨e, _, _, e2⟩
    · omega
    · have := L _ (show (o.length : Int) ≤ (intr (vis d (vis c (vis b (vis a o).1).1).1).1 ⟨u, (vis a o).2, (vis b (vis a o).1).2, (vis c (vis b (vis a o).1).1).2, (vis d (vis c (vis b (vis a o).1).1).1).2⟩).2 - 1 by omega) (by omega)
      rw [ex] at this
      simp only at this
      omega
    · rw [e, e2]; simp
def nums (k : Nat) : List Int := (List.range k).map fun (i : Nat) => ((i : Int) + 1)
theorem nums_mem {k : Nat} {m : Int} : m ∈ nums k ↔ 1 ≤ m ∧ m ≤ k := by
  unfold nums
  rw [List.mem_map]
  constructor
  · rintro ⟨i, hi, rfl⟩; rw [List.mem_range] at hi; omega
  · rintro ⟨h0, h1⟩; exact ⟨(m - 1).toNat, by rw [List.mem_range]; omega, by omega⟩
theorem nums_succ (k : Nat) : nums (k + 1) = nums k ++ [(k : Int) + 1] := by unfold nums; rw [List.range_succ]; simp
theorem end_step {p o : List Nd} {g : Nat} {x : Nd} {E : List Int} {t : Tr} {k v : Int} (k0 : 0 ≤ k) (k1 : k < 4) (hx : 1 < x.lv) (hw : wf v t) (hc : CanL o) (he : endV p g x E k = nums o.length) (hk : x.kid k = (vis t o).2)
    (ih : (vis t o).2 ≠ 0 → endF p g (vis t o).2 (nums o.length) = nums (vis t o).1.length) : endV p g x E (k + 1) = nums (vis t o).1.length := by
  have z := vis_zero t o
  by_cases hz : (vis t o).2 = 0
  · rw [endV_no k0 k1 (fun _ => by omega), he, vis_old t hw hc (by omega)]
  · rw [endV_yes k0 k1 hx (by omega), he, hk]; exact ih hz
theorem vis_end {p : List Nd} (hp : CanL p) : ∀ (t : Tr) {v : Int} {o : List Nd} (f : Nat), wf v t → CanL o → (vis t o).1 <+: p → (vis t o).2 ≠ 0 → (vis t o).2 ≤ f → endF p f (vis t o).2 (nums o.length) = nums (vis t o).1.length
  | .no, v, o, f, _, _, _, h, _ => absurd rfl h
  | .leaf a b c d, v, o, f, hw, hc, hpre, hm, hf => by
    have z := vis_zero (.leaf a b c d) o
    obtain ⟨g, rfl⟩ : ∃ g, f = g + 1 := ⟨f - 1, by omega⟩
    by_cases ho : (vis (.leaf a b c d) o).2 ≤ o.length
    · rw [endF_in (nums_mem.2 ⟨by omega, ho⟩), vis_old _ hw hc ho]
    · have hn := vis_new _ hw (show (o.length : Int) < (vis (.leaf a b c d) o).2 by omega)
      have ex : ix p ((vis (.leaf a b c d) o).2 - 1) = ⟨1, a, b, c, d⟩ := by
        rw [ix_pre hpre _ (by omega) (by omega)]; exact (intr_ix o ⟨1, a, b, c, d⟩ hm).2.2
      rw [endF_low (fun h => ho (nums_mem.1 h).2) (by rw [ex]; simp)]
      have e : (vis (.leaf a b c d) o).2 = (o.length : Int) + 1 := by
        simp only [vis] at ho ⊢
        rcases intr_ge o ⟨1, a, b, c, d⟩ with ⟨e, _⟩ | ⟨_, e, _⟩ | ⟨e, _⟩
        · omega
        · omega
        · exact e
      have e2 : (vis (.leaf a b c d) o).1.length = o.length + 1 := by omega
      rw [e2, nums_succ, e]
  | .nd u a b c d, v, o, f, hw, hc, hpre, hm, hf => by
    have z := vis_zero (.nd u a b c d) o
    obtain ⟨g, rfl⟩ : ∃ g, f = g + 1 := ⟨f - 1, by omega⟩
    by_cases ho : (vis (.nd u a b c d) o).2 ≤ o.length
    · rw [endF_in (nums_mem.2 ⟨by omega, ho⟩), vis_old _ hw hc ho]
    · have hn := vis_new _ hw (show (o.length : Int) < (vis (.nd u a b c d) o).2 by omega)
      obtain ⟨hu, h2, h3, wa, wb, wc, wd⟩ := hw
      subst hu
      have A := vis_can a wa hc
      have B := vis_can b wb A.1
      have C := vis_can c wc B.1
      have D := vis_can d wd C.1
      have hpre4 := (intr_pre (vis d (vis c (vis b (vis a o).1).1).1).1 ⟨u, (vis a o).2, (vis b (vis a o).1).2, (vis c (vis b (vis a o).1).1).2, (vis d (vis c (vis b (vis a o).1).1).1).2⟩).trans hpre
      have hpre3 := (vis_pre d _).trans hpre4
      have hpre2 := (vis_pre c _).trans hpre3
      have hpre1 := (vis_pre b _).trans hpre2
      have ex : ix p ((vis (.nd u a b c d) o).2 - 1) = ⟨u, (vis a o).2, (vis b (vis a o).1).2, (vis c (vis b (vis a o).1).1).2, (vis d (vis c (vis b (vis a o).1).1).1).2⟩ := by
        rw [ix_pre hpre _ (by omega) (by omega)]; exact (intr_ix _ _ hm).2.2
      have e : (vis (.nd u a b c d) o).2 = ((vis d (vis c (vis b (vis a o).1).1).1).1.length : Int) + 1 := by
        have L := kids_lows o wa wb wc wd
        simp only [vis] at ho hm ⊢
        rcases intr_ge (vis d (vis c (vis b (vis a o).1).1).1).1 ⟨u, (vis a o).2, (vis b (vis a o).1).2, (vis c (vis b (vis a o).1).1).2, (vis d (vis c (vis b (vis a o).1).1).1).2⟩ with ⟨e, _⟩ | ⟨e0, e1, _, _, e, ex⟩ | ⟨e, _, _, e2⟩
        · omega
        · have := L _ (show (o.length : Int) ≤ (intr (vis d (vis c (vis b (vis a o).1).1).1).1 ⟨u, (vis a o).2, (vis b (vis a o).1).2, (vis c (vis b (vis a o).1).1).2, (vis d (vis c (vis b (vis a o).1).1).1).2⟩).2 - 1 by omega) (by omega)
          rw [ex] at this
          simp only at this
          omega
        · exact e
      have za := vis_zero a o
      have zb := vis_zero b (vis a o).1
      have zc := vis_zero c (vis b (vis a o).1).1
      have zd := vis_zero d (vis c (vis b (vis a o).1).1).1
      have ld := (vis_pre d (vis c (vis b (vis a o).1).1).1).length_le
      have lc := (vis_pre c (vis b (vis a o).1).1).length_le
      have lb := (vis_pre b (vis a o).1).length_le
      rw [endF_eq (fun h => ho (nums_mem.1 h).2), ex]
      have hx : 1 < (⟨u, (vis a o).2, (vis b (vis a o).1).2, (vis c (vis b (vis a o).1).1).2, (vis d (vis c (vis b (vis a o).1).1).1).2⟩ : Nd).lv := by simp only; omega
      have s0 := end_step (p := p) (g := g) (E := nums o.length) (k := 0) (by omega) (by omega) hx wa hc (endV_zero _ _ _ _) rfl (fun q => vis_end hp a g wa hc hpre1 q (by omega))
      have s1 := end_step (k := 0 + 1) (by omega) (by omega) hx wb A.1 s0 rfl (fun q => vis_end hp b g wb A.1 hpre2 q (by omega))
      have s2 := end_step (k := 0 + 1 + 1) (by omega) (by omega) hx wc B.1 s1 rfl (fun q => vis_end hp c g wc B.1 hpre3 q (by omega))
      have s3 := end_step (k := 0 + 1 + 1 + 1) (by omega) (by omega) hx wd C.1 s2 rfl (fun q => vis_end hp d g wd C.1 hpre4 q (by omega))
      rw [show (0 : Int) + 1 + 1 + 1 + 1 = 4 from rfl] at s3
      have e2 : (vis (.nd u a b c d) o).1.length = (vis d (vis c (vis b (vis a o).1).1).1).1.length + 1 := by omega
      rw [s3, e2, nums_succ, e]
end Go.Gw

set_option linter.unusedVariables false
set_option linter.unusedSimpArgs false
namespace Go.Gw
/-- A tree without what is empty. -/
def pru : Tr → Tr
  | .no => .no
  | .leaf a b c d => if emp (.leaf a b c d) then .no else .leaf a b c d
  | .nd v a b c d => if emp (.nd v a b c d) then .no else .nd v (pru a) (pru b) (pru c) (pru d)
theorem pru_emp {t : Tr} (h : emp t = true) : pru t = .no := by
  cases t with
  | no => rfl
  | leaf a b c d => simp only [pru, h, if_true]
  | nd v a b c d => simp only [pru, h, if_true]
theorem emp_pru : ∀ t : Tr, emp (pru t) = emp t
  | .no => rfl
  | .leaf a b c d => by
    by_cases h : emp (.leaf a b c d) = true
    · rw [pru_emp h, h]; rfl
    · simp only [pru, if_neg h]
  | .nd v a b c d => by
    by_cases h : emp (.nd v a b c d) = true
    · rw [pru_emp h, h]; rfl
    · have e : pru (.nd v a b c d) = .nd v (pru a) (pru b) (pru c) (pru d) := by simp only [pru, if_neg h]
      rw [e]
      simp only [emp, emp_pru a, emp_pru b, emp_pru c, emp_pru d]
theorem qe_emp {t : Tr} (h : emp t = true) (j : Int) : qe t j = true := by
  cases t with
  | no => rfl
  | leaf a b c d => simp [emp] at h; simp [qe, sel4, h]
  | nd v a b c d =>
    simp only [emp, Bool.and_eq_true] at h
    simp only [qe]
    split
    · exact h.1.1.1
    · split
      · exact h.1.1.2
      · split
        · exact h.1.2
        · exact h.2
theorem qe_pru (t : Tr) (j : Int) : qe (pru t) j = qe t j := by
  by_cases h : emp t = true
  · rw [pru_emp h, qe_emp h]; rfl
  · cases t with
    | no => rfl
    | leaf a b c d => simp only [pru, if_neg h]
    | nd v a b c d =>
      simp only [pru, if_neg h, qe]
      split
      · exact emp_pru a
      · split
        · exact emp_pru b
        · split
          · exact emp_pru c
          · exact emp_pru d
theorem hol_pru {t : Tr} (h : emp t = false) : hol (pru t) = hol t := by
  cases t with
  | no => rfl
  | leaf a b c d => simp [pru, h]
  | nd v a b c d => simp only [pru, h, hol, qe_pru]; simp [hol, qe_pru]
theorem vis_pru : ∀ (t : Tr) (o : List Nd), vis (pru t) o = vis t o
  | .no, o => rfl
  | .leaf a b c d, o => by
    by_cases h : emp (.leaf a b c d) = true
    · rw [pru_emp h, vis_emp _ _ h]; rfl
    · simp only [pru, if_neg h]
  | .nd v a b c d, o => by
    by_cases h : emp (.nd v a b c d) = true
    · rw [pru_emp h, vis_emp _ _ h]; rfl
    · simp only [pru, if_neg h, vis, vis_pru a, vis_pru b, vis_pru c, vis_pru d]
theorem tr_num {p : List Nd} (hp : CanL p) : ∀ (t : Tr) {v : Int} {o : List Nd}, wf v t → (vis t o).1 <+: p → tr p (vis t o).2 = pru t
  | .no, v, o, _, _ => rfl
  | .leaf a b c d, v, o, hw, hpre => by
    have z := vis_zero (.leaf a b c d) o
    by_cases h : emp (.leaf a b c d) = true
    · rw [pru_emp h, vis_emp _ _ h]; rfl
    · have hm : (vis (.leaf a b c d) o).2 ≠ 0 := fun e => h (z.2.2.1 e)
      have hl := hpre.length_le
      have ex : ix p ((vis (.leaf a b c d) o).2 - 1) = ⟨1, a, b, c, d⟩ := by
        rw [ix_pre hpre _ (by omega) (by omega)]; exact (intr_ix o ⟨1, a, b, c, d⟩ hm).2.2
      rw [tr_leaf hp.ok (by omega) (by omega) (by rw [ex]), ex]
      simp only [pru, if_neg h]
  | .nd u a b c d, v, o, hw, hpre => by
    have z := vis_zero (.nd u a b c d) o
    by_cases h : emp (.nd u a b c d) = true
    · rw [pru_emp h, vis_emp _ _ h]; rfl
    · have hm : (vis (.nd u a b c d) o).2 ≠ 0 := fun e => h (z.2.2.1 e)
      have hl := hpre.length_le
      have ex : ix p ((vis (.nd u a b c d) o).2 - 1) = ⟨u, (vis a o).2, (vis b (vis a o).1).2, (vis c (vis b (vis a o).1).1).2, (vis d (vis c (vis b (vis a o).1).1).1).2⟩ := by
        rw [ix_pre hpre _ (by omega) (by omega)]; exact (intr_ix _ _ hm).2.2
      obtain ⟨hu, h2, h3, wa, wb, wc, wd⟩ := hw
      have hpre4 := (intr_pre (vis d (vis c (vis b (vis a o).1).1).1).1 ⟨u, (vis a o).2, (vis b (vis a o).1).2, (vis c (vis b (vis a o).1).1).2, (vis d (vis c (vis b (vis a o).1).1).1).2⟩).trans hpre
      have hpre3 := (vis_pre d _).trans hpre4
      have hpre2 := (vis_pre c _).trans hpre3
      have hpre1 := (vis_pre b _).trans hpre2
      rw [tr_nd hp.ok (by omega) (by omega) (by rw [ex]; simp only; omega), ex]
      simp only [pru, if_neg h]
      rw [tr_num hp a wa hpre1, tr_num hp b wb hpre2, tr_num hp c wc hpre3, tr_num hp d wd hpre4]
/-- What is laid for a tree that isn't empty: the last node is the root. -/
theorem vis_root {t : Tr} {v : Int} (hw : wf v t) (h : emp t = false) : (vis t []).2 = (vis t []).1.length ∧ 0 < (vis t []).1.length := by
  have z := vis_zero t []
  have hm : (vis t []).2 ≠ 0 := fun e => by rw [z.2.2.1 e] at h; cases h
  have := vis_new t hw (o := []) (by simp; omega)
  omega
theorem full_can {o : List Nd} (h : CanL o) : fullB o = true := by
  rw [full_iff]
  have k : ∀ (f : Nat) (i : Int), 0 ≤ i → i < o.length → i < f → ix (hasL o) (i + 1) = true := by
    intro f
    induction f with
    | zero => intro i a b c; omega
    | succ f ih =>
      intro i a b c
      rw [hasL_at h.ok i a b]
      have s := h.sm i a b
      unfold hasN
      rw [List.any_eq_true]
      have q : ∀ k : Int, 0 ≤ k → k < 4 → (ix o i).kid k ≠ 0 → hasK (ix o i) (hasL o) ((ix o i).kid k) = true := by
        intro k k0 k1 hk
        refine hasK_yes hk ?_
        by_cases hv : (ix o i).lv = 1
        · exact .inl hv
        · have r := kid_rng h.ok a b hv k k0 k1
          have := ih ((ix o i).kid k - 1) (by omega) (by omega) (by omega)
          rw [show (ix o i).kid k - 1 + 1 = (ix o i).kid k by omega] at this
          exact .inr this
      by_cases e0 : (ix o i).k0 = 0
      · by_cases e1 : (ix o i).k1 = 0
        · by_cases e2 : (ix o i).k2 = 0
          · exact ⟨_, by simp only [kids, List.mem_cons]; exact .inr (.inr (.inr (.inl rfl))), q 3 (by omega) (by omega) (fun e3 => s ⟨e0, e1, e2, e3⟩)⟩
          · exact ⟨_, by simp only [kids, List.mem_cons]; exact .inr (.inr (.inl rfl)), q 2 (by omega) (by omega) e2⟩
        · exact ⟨_, by simp only [kids, List.mem_cons]; exact .inr (.inl rfl), q 1 (by omega) (by omega) e1⟩
      · exact ⟨_, by simp only [kids, List.mem_cons]; exact .inl rfl, q 0 (by omega) (by omega) e0⟩
  exact fun i a b => k (i.toNat + 1) i a b (by omega)
theorem right_can {t : Tr} {v : Int} (hw : wf v t) (hh : hol t = false) : rightB (vis t []).1 = true := by
  by_cases he : emp t = true
  · rw [vis_emp t [] he]; rfl
  · have he : emp t = false := by simpa using he
    obtain ⟨r1, r2⟩ := vis_root hw he
    have C := (vis_can t hw can_nil).1
    have T := tr_num C t (o := []) hw (List.prefix_refl _)
    rw [r1] at T
    have H : hollowB (vis t []).1 (vis t []).1.length = false := by
      rw [hol_tr C.ok (by omega) (by omega), T, hol_pru he, hh]
    have O : ordB (vis t []).1 = true := by
      unfold ordB endL
      rw [decide_eq_true_eq]
      have := vis_end C t (o := []) (vis t []).1.length hw can_nil (List.prefix_refl _) (by omega) (by omega)
      rw [r1] at this
      exact this
    unfold rightB
    rw [C.ok, H, full_can C, decide_eq_true C.nd, O]
    simp
theorem rightB_loose {t : Tr} {v : Int} (hw : wf v t) : looseB (vis t []).1 = true := (vis_can t hw can_nil).1.ok
/-- The quad of a node's tree, and what becomes of it if one asks again. -/
def canT (t : Tr) : List Nd := (vis t []).1
theorem can_again {t : Tr} {v : Int} (hw : wf v t) (hh : hol t = false) : canT (shr0 (tr (canT t) (canT t).length)) = canT t := by
  unfold canT
  by_cases he : emp t = true
  · rw [vis_emp t [] he]; rfl
  · have he : emp t = false := by simpa using he
    obtain ⟨r1, r2⟩ := vis_root hw he
    have C := (vis_can t hw can_nil).1
    have T := tr_num C t (o := []) hw (List.prefix_refl _)
    rw [r1] at T
    rw [T]
    unfold shr0
    rw [emp_pru, he, shr_no (by rw [hol_pru he, hh])]
    simp only [Bool.false_eq_true, if_false]
    rw [vis_pru]
/-! ### a list behind another one -/
def Nd.shift (x : Nd) (s : Int) : Nd := if 1 < x.lv then ⟨x.lv, if 0 < x.k0 then x.k0 + s else x.k0, if 0 < x.k1 then x.k1 + s else x.k1, if 0 < x.k2 then x.k2 + s else x.k2, if 0 < x.k3 then x.k3 + s else x.k3⟩ else x
def nestL (m l : List Nd) : List Nd := m ++ l.map fun x => x.shift m.length
theorem nest_len (m l : List Nd) : (nestL m l).length = m.length + l.length := by simp [nestL]
theorem nest_ix {m l : List Nd} {i : Int} (h0 : 0 ≤ i) (h1 : i < l.length) : ix (nestL m l) (i + m.length) = (ix l i).shift m.length := by
  unfold nestL ix
  rw [List.getD_eq_getElem?_getD, List.getElem?_append_right (by omega), show (i + (m.length : Int)).toNat - m.length = i.toNat by omega, List.getElem?_map, ← show some (ix l i) = l[i.toNat]? from (ix_at l i h0 h1).symm]
  rfl
theorem shift_lv (x : Nd) (s : Int) : (x.shift s).lv = x.lv := by unfold Nd.shift; split <;> rfl
theorem shift_kid (x : Nd) (s k : Int) (k0 : 0 ≤ k) (k1 : k < 4) : (x.shift s).kid k = if 1 < x.lv ∧ 0 < x.kid k then x.kid k + s else x.kid k := by
  unfold Nd.shift
  by_cases h : 1 < x.lv
  · rw [if_pos h]
    have : k = 0 ∨ k = 1 ∨ k = 2 ∨ k = 3 := by omega
    rcases this with rfl | rfl | rfl | rfl <;> simp [Nd.kid, sel4, h]
  · rw [if_neg h, if_neg (fun e => h e.1)]
theorem nest_loose {m l : List Nd} (hm : looseB m = true) (hl : looseB l = true) : looseB (nestL m l) = true := by
  rw [looseB_iff]
  intro i h0 h1
  rw [nest_len] at h1
  have P : m <+: nestL m l := List.prefix_append _ _
  by_cases hi : i < m.length
  · have o := (okAt_iff m i).1 ((looseB_iff m).1 hm i h0 hi)
    rw [okAt_iff, ix_pre P i h0 hi]
    refine ⟨o.1, fun k k0 k1 => ?_⟩
    have q := o.2 k k0 k1
    unfold kidB at q ⊢
    rw [ix_pre P i h0 hi]
    by_cases hc : (ix m i).lv = 1
    · rw [if_pos hc] at q ⊢; exact q
    · rw [if_neg hc] at q ⊢
      have r := kid_rng hm h0 hi hc k k0 k1
      by_cases hz : (ix m i).kid k = 0
      · simp [hz]
      · rw [ix_pre P _ (by omega) (by omega)]; exact q
  · obtain ⟨j, rfl⟩ : ∃ j, i = j + (m.length : Int) := ⟨i - m.length, by omega⟩
    have j0 : 0 ≤ j := by omega
    have j1 : j < l.length := by omega
    have o := (okAt_iff l j).1 ((looseB_iff l).1 hl j j0 j1)
    rw [okAt_iff, nest_ix j0 j1, shift_lv]
    refine ⟨o.1, fun k k0 k1 => ?_⟩
    rw [shift_kid _ _ _ k0 k1]
    by_cases hv : (ix l j).lv = 1
    · have r := kid1_in hl j0 j1 k0 k1 hv
      rw [if_neg (by omega)]
      exact kidB_yes (by omega) (fun _ => by omega) (fun h => absurd (by rw [nest_ix j0 j1, shift_lv]; exact hv) h)
    · have r := kid_rng hl j0 j1 hv k k0 k1
      by_cases hz : (ix l j).kid k = 0
      · rw [if_neg (by omega), hz]; simp [kidB]
      · rw [if_pos (by omega)]
        have q := kid_in hl j0 j1 k0 k1 hv hz
        refine kidB_yes (by omega) (fun h => absurd h (by rw [nest_ix j0 j1, shift_lv]; exact hv)) (fun _ _ => ⟨by omega, ?_⟩)
        rw [show (ix l j).kid k + (m.length : Int) - 1 = ((ix l j).kid k - 1) + m.length by omega, nest_ix (by omega) (by omega), nest_ix j0 j1, shift_lv, shift_lv]
        omega
theorem nest_tr {m l : List Nd} (hm : looseB m = true) (hl : looseB l = true) : ∀ n : Int, 0 ≤ n → n ≤ l.length → tr (nestL m l) (if 0 < n then n + m.length else n) = tr l n := by
  have hn := nest_loose hm hl
  have len := nest_len m l
  refine nodes_ind hl _ rfl (fun n h0 h1 hv => ?_) (fun n h0 h1 hv p0 p1 p2 p3 => ?_)
  · have ex : ix (nestL m l) (n + m.length - 1) = (ix l (n - 1)).shift m.length := by rw [show n + (m.length : Int) - 1 = (n - 1) + m.length by omega, nest_ix (by omega) (by omega)]
    rw [if_pos (by omega), tr_leaf hl h0 h1 hv, tr_leaf hn (by omega) (by omega) (by rw [ex, shift_lv]; exact hv), ex]
    unfold Nd.shift
    rw [if_neg (by omega)]
  · have ex : ix (nestL m l) (n + m.length - 1) = (ix l (n - 1)).shift m.length := by rw [show n + (m.length : Int) - 1 = (n - 1) + m.length by omega, nest_ix (by omega) (by omega)]
    have b := lv_in hl (i := n - 1) (by omega) (by omega)
    rw [if_pos (by omega), tr_nd hl h0 h1 hv, tr_nd hn (by omega) (by omega) (by rw [ex, shift_lv]; exact hv), ex, ← p0, ← p1, ← p2, ← p3]
    unfold Nd.shift
    rw [if_pos (by omega)]
end Go.Gw

set_option linter.unusedVariables false
set_option linter.unusedSimpArgs false
namespace Go.Gw
theorem shr_step {L : List Nd} {n : Int} (hL : looseB L = true) (h0 : 1 ≤ n) (h1 : n ≤ L.length) (h : hollowB L n = true) : shr (tr (L ++ [innX L n]) ((L ++ [innX L n]).length : Int)) = shr (tr L n) := by
  have hv := ((hollowB_iff L n).1 h).2.1
  have hh := h
  rw [hol_tr hL (by omega) h1] at hh
  rw [show (((L ++ [innX L n]).length : Nat) : Int) = (L.length : Int) + 1 by simp, inn_tr hL h0 h1 hv]
  have b := lv_in hL (i := n - 1) (by omega) (by omega)
  rw [tr_nd hL h0 h1 hv] at hh ⊢
  exact (shr_yes (by omega) hh).symm
theorem shr_end {L : List Nd} {n : Int} {t : Tr} (hL : looseB L = true) (h0 : 0 ≤ n) (h1 : n ≤ L.length) (h : hollowB L n = false) (e : shr (tr L n) = shr t) (he : emp t = false) : tr L n = shr0 t ∧ hol (tr L n) = false := by
  rw [hol_tr hL h0 h1] at h
  refine ⟨?_, h⟩
  unfold shr0
  rw [he, ← e, shr_no h]
  rfl
theorem shr_nil {l : List Nd} {n : Int} (hL : looseB l = true) (h0 : 0 ≤ n) (h1 : n ≤ l.length) (h : ix (hasL l) n = false) : tr l 0 = shr0 (tr l n) ∧ hol (tr l 0) = false := by
  rw [has_tr hL n h0 h1] at h
  have h : emp (tr l n) = true := by simpa using h
  unfold shr0
  rw [h]
  exact ⟨rfl, rfl⟩
theorem emp_has {l : List Nd} {n : Int} (hL : looseB l = true) (h0 : 0 ≤ n) (h1 : n ≤ l.length) (h : ix (hasL l) n = true) : emp (tr l n) = false ∧ 1 ≤ n := by
  have := hasL_nz h
  rw [has_tr hL n h0 h1] at h
  exact ⟨by simpa using h, by omega⟩
theorem innX_eq {L : List Nd} {n a b c e : Int} (h : ∀ j : Int, 0 ≤ j → j < 4 → sel4 a b c e j = innN L n j) : (⟨(ix L (n - 1)).lv - 1, a, b, c, e⟩ : Nd) = innX L n := by
  have h0 := h 0 (by omega) (by omega)
  have h1 := h 1 (by omega) (by omega)
  have h2 := h 2 (by omega) (by omega)
  have h3 := h 3 (by omega) (by omega)
  simp [sel4] at h0 h1 h2 h3
  simp [innX, h0, h1, h2, h3]
theorem sel4_step {a b c e v k : Int} {f : Int → Int} (k0 : 0 ≤ k) (k1 : k < 4) (h : ∀ j : Int, 0 ≤ j → j < k → sel4 a b c e j = f j) (hv : v = f k) :
    ∀ j : Int, 0 ≤ j → j < k + 1 → sel4 (if k = 0 then v else a) (if k = 1 then v else b) (if k = 2 then v else c) (if k = 3 then v else e) j = f j := by
  intro j j0 j1
  by_cases hj : j = k
  · subst hj
    have : j = 0 ∨ j = 1 ∨ j = 2 ∨ j = 3 := by omega
    rcases this with rfl | rfl | rfl | rfl <;> simp [sel4, hv]
  · rw [← h j j0 (by omega)]
    have : j = 0 ∨ j = 1 ∨ j = 2 ∨ j = 3 := by omega
    rcases this with rfl | rfl | rfl | rfl <;> simp only [sel4] <;> (simp; try omega)
end Go.Gw

set_option linter.unusedVariables false
set_option linter.unusedSimpArgs false
namespace Go.Gw
def findN (l : List Nd) (x : Nd) : Int := if x ∈ l then (l.idxOf x : Int) + 1 else 0
theorem find_no {l : List Nd} {x : Nd} (h : ∀ j : Int, 0 ≤ j → j < l.length → ix l j ≠ x) : findN l x = 0 := by
  unfold findN
  rw [if_neg]
  intro hm
  obtain ⟨i, i0, i1, e⟩ := mem_ix hm
  exact h i i0 i1 e
theorem find_at {l : List Nd} {x : Nd} (i : Int) (h0 : 0 ≤ i) (h1 : i < l.length) (h : ∀ j : Int, 0 ≤ j → j < i → ix l j ≠ x) (e : ix l i = x) : findN l x = i + 1 := by
  have hm : x ∈ l := by rw [← e]; exact ix_mem h0 h1
  unfold findN
  rw [if_pos hm]
  have a := List.idxOf_lt_length_iff.2 hm
  have b : ix l (l.idxOf x : Nat) = x := by
    unfold ix
    rw [Int.toNat_natCast, List.getD_eq_getElem?_getD, List.getElem?_eq_getElem a]
    simp
  have c : ¬ ((l.idxOf x : Nat) : Int) < i := fun q => h _ (by omega) q b
  have d : ¬ i < ((l.idxOf x : Nat) : Int) := fun q => by
    have hlt : i.toNat < l.idxOf x := by omega
    have hx : l[i.toNat]'(by omega) = x := by
      have := ix_at l i h0 h1
      rw [List.getElem?_eq_getElem (by omega)] at this
      injection this with this
      rw [this, e]
    have := List.not_of_lt_findIdx hlt
    rw [hx] at this
    simp at this
  omega
theorem find_ge (l : List Nd) (x : Nd) : 0 ≤ findN l x := by unfold findN; split <;> omega
theorem intr_find {o : List Nd} {x : Nd} (h : (intr o x).2 ≠ 0) : (findN o x = 0 → intr o x = (o ++ [x], (o.length : Int) + 1)) ∧ (findN o x ≠ 0 → intr o x = (o, findN o x)) := by
  have hz : ¬ (x.k0 = 0 ∧ x.k1 = 0 ∧ x.k2 = 0 ∧ x.k3 = 0) := fun e => h (by unfold intr; rw [if_pos e])
  unfold findN intr
  rw [if_neg hz]
  by_cases hm : x ∈ o
  · rw [if_pos hm, if_pos hm]
    exact ⟨fun e => by omega, fun _ => rfl⟩
  · rw [if_neg hm, if_neg hm]
    exact ⟨fun _ => rfl, fun e => absurd rfl e⟩
/-- The kids' numbers, so far. -/
def St4 (l : List Nd) (x : Nd) (o : List Nd) (k : Int) (ok : List Nd) (a b c e : Int) : Prop :=
  (a = if 0 < k then (vis (tr l x.k0) o).2 else x.k0) ∧ (b = if 1 < k then (vis (tr l x.k1) (vis (tr l x.k0) o).1).2 else x.k1) ∧
  (c = if 2 < k then (vis (tr l x.k2) (vis (tr l x.k1) (vis (tr l x.k0) o).1).1).2 else x.k2) ∧
  (e = if 3 < k then (vis (tr l x.k3) (vis (tr l x.k2) (vis (tr l x.k1) (vis (tr l x.k0) o).1).1).1).2 else x.k3) ∧
  ok = if k ≤ 0 then o else if k = 1 then (vis (tr l x.k0) o).1 else if k = 2 then (vis (tr l x.k1) (vis (tr l x.k0) o).1).1 else if k = 3 then (vis (tr l x.k2) (vis (tr l x.k1) (vis (tr l x.k0) o).1).1).1 else (vis (tr l x.k3) (vis (tr l x.k2) (vis (tr l x.k1) (vis (tr l x.k0) o).1).1).1).1
theorem st4_zero (l : List Nd) (x : Nd) (o : List Nd) : St4 l x o 0 o x.k0 x.k1 x.k2 x.k3 := by simp [St4]
theorem st4_kid {l : List Nd} {x : Nd} {o ok : List Nd} {k a b c e : Int} (h : St4 l x o k ok a b c e) (h0 : 0 ≤ k) (h1 : k < 4) : sel4 a b c e k = x.kid k := by
  obtain ⟨rfl, rfl, rfl, rfl, _⟩ := h
  have : k = 0 ∨ k = 1 ∨ k = 2 ∨ k = 3 := by omega
  rcases this with rfl | rfl | rfl | rfl <;> simp [sel4, Nd.kid]
theorem st4_step {l : List Nd} {x : Nd} {o ok : List Nd} {k a b c e v : Int} (h : St4 l x o k ok a b c e) (h0 : 0 ≤ k) (h1 : k < 4) (hv : v = (vis (tr l (x.kid k)) ok).2) :
    St4 l x o (k + 1) (vis (tr l (x.kid k)) ok).1 (if k = 0 then v else a) (if k = 1 then v else b) (if k = 2 then v else c) (if k = 3 then v else e) := by
  subst hv
  obtain ⟨rfl, rfl, rfl, rfl, rfl⟩ := h
  have : k = 0 ∨ k = 1 ∨ k = 2 ∨ k = 3 := by omega
  rcases this with rfl | rfl | rfl | rfl <;> simp [St4, sel4, Nd.kid]
theorem st4_end {l : List Nd} {n : Int} {o ok : List Nd} {k a b c e : Int} (hl : looseB l = true) (h0 : 1 ≤ n) (h1 : n ≤ l.length) (h : St4 l (ix l (n - 1)) o k ok a b c e) (hk : k = 4 ∧ 1 < (ix l (n - 1)).lv ∨ k = 0 ∧ ¬ 1 < (ix l (n - 1)).lv) :
    vis (tr l n) o = intr ok ⟨(ix l (n - 1)).lv, a, b, c, e⟩ := by
  have hv := lv_in hl (i := n - 1) (by omega) (by omega)
  obtain ⟨rfl, rfl, rfl, rfl, rfl⟩ := h
  rcases hk with ⟨rfl, hk⟩ | ⟨rfl, hk⟩
  · rw [tr_nd hl h0 h1 (by omega)]
    simp [vis]
  · have e1 : (ix l (n - 1)).lv = 1 := by omega
    rw [tr_leaf hl h0 h1 e1]
    simp [vis, e1]
theorem st4_pre {l : List Nd} {x : Nd} {o ok : List Nd} {k a b c e : Int} (h : St4 l x o k ok a b c e) : o <+: ok := by
  obtain ⟨_, _, _, _, rfl⟩ := h
  have p1 := vis_pre (tr l x.k0) o
  have p2 := p1.trans (vis_pre (tr l x.k1) _)
  have p3 := p2.trans (vis_pre (tr l x.k2) _)
  have p4 := p3.trans (vis_pre (tr l x.k3) _)
  split
  · exact List.prefix_refl _
  · split
    · exact p1
    · split
      · exact p2
      · split
        · exact p3
        · exact p4
/-- What is remembered is so. -/
def DInv (l : List Nd) (dn : List Int) (o : List Nd) : Prop := ∀ i : Int, 0 ≤ i → i ≤ l.length → 0 < ix dn i → vis (tr l i) o = (o, ix dn i)
theorem dinv_mono {l : List Nd} {dn : List Int} {o p : List Nd} (h : DInv l dn o) (hp : o <+: p) : DInv l dn p := fun i a b c => by
  have := h i a b c
  rw [vis_stay (tr l i) (o := o) (p := p) (by rw [this]; exact hp), this]
theorem dinv_set {l : List Nd} {dn : List Int} {o : List Nd} {n m : Int} (h : DInv l dn o) (h0 : 0 ≤ n) (h1 : n < dn.length) (hm : vis (tr l n) o = (o, m)) : DInv l (dn.set n.toNat m) o := fun i a b c => by
  rw [ix_set _ _ _ _ h0 h1 a] at c ⊢
  by_cases e : i = n
  · rw [if_pos e, e]; exact hm
  · rw [if_neg e] at c ⊢; exact h i a b c
def cntP (dn : List Int) : Nat := dn.countP fun x => decide (0 < x)
theorem cntP_set : ∀ (dn : List Int) (i : Nat) (v : Int), i < dn.length → ¬ 0 < dn.getD i default → 0 < v → cntP (dn.set i v) = cntP dn + 1
  | [], i, v, h, _, _ => by simp at h
  | x :: r, 0, v, _, h1, h2 => by
    have h1 : ¬ 0 < x := by simpa using h1
    simp [cntP, List.countP_cons, h1, h2]
  | x :: r, i + 1, v, h, h1, h2 => by
    have ih := cntP_set r i v (by simpa using h) (by simpa using h1) h2
    simp only [cntP, List.set_cons_succ, List.countP_cons] at ih ⊢
    omega
theorem cntP_le (dn : List Int) : cntP dn ≤ dn.length := List.countP_le_length
theorem vis_self {t : Tr} (o : List Nd) : vis t (vis t o).1 = ((vis t o).1, (vis t o).2) := vis_stay t (List.prefix_refl _)
end Go.Gw

set_option linter.unusedVariables false
set_option linter.unusedSimpArgs false
namespace Go.Gw
open Go.RowKit
theorem below_of {n : Nat} {a b c : World} (h : Below n a b) (k : Below n a c) (hs : b.heap.size ≤ c.heap.size := by omega) : Below n b c := ⟨k.os.trans h.os.symm, k.tape.trans h.tape.symm, k.output.trans h.output.symm, hs, fun i hi => (k.block i hi).trans (h.block i hi).symm⟩
/-- A node's quad, or a refusal. -/
def ofL (l : List Nd) (n : Int) : List Nd × Int := if looseB l = true ∧ 0 ≤ n ∧ n ≤ l.length then (canT (shr0 (tr l n)), 0) else ([], 1)
theorem of_yes {l : List Nd} {n : Int} (h : looseB l = true) (h0 : 0 ≤ n) (h1 : n ≤ l.length) : ofL l n = (canT (shr0 (tr l n)), 0) := by unfold ofL; rw [if_pos ⟨h, h0, h1⟩]
theorem of_no {l : List Nd} {n : Int} (h : looseB l = false ∨ n < 0 ∨ (l.length : Int) < n) : ofL l n = ([], 1) := by
  unfold ofL
  rw [if_neg]
  rintro ⟨a, b, c⟩
  rcases h with h | h | h
  · rw [h] at a; cases a
  · omega
  · omega
theorem dinv_none (l : List Nd) (k : Nat) : DInv l (List.replicate k 0) [] := fun i a b c => by
  exfalso
  unfold ix at c
  rw [List.getD_eq_getElem?_getD, List.getElem?_replicate] at c
  split at c
  · exact absurd c (by simp)
  · exact absurd c (by decide)
def shf (x : Nd) (s c : Int) : Int := if 1 < x.lv ∧ 0 < c then c + s else c
def Sh4 (x : Nd) (s k a b c e : Int) : Prop := (a = if 0 < k then shf x s x.k0 else x.k0) ∧ (b = if 1 < k then shf x s x.k1 else x.k1) ∧ (c = if 2 < k then shf x s x.k2 else x.k2) ∧ (e = if 3 < k then shf x s x.k3 else x.k3)
theorem sh4_zero (x : Nd) (s : Int) : Sh4 x s 0 x.k0 x.k1 x.k2 x.k3 := by simp [Sh4]
theorem sh4_kid {x : Nd} {s k a b c e : Int} (h : Sh4 x s k a b c e) (h0 : 0 ≤ k) (h1 : k < 4) : sel4 a b c e k = x.kid k := by
  obtain ⟨rfl, rfl, rfl, rfl⟩ := h
  have : k = 0 ∨ k = 1 ∨ k = 2 ∨ k = 3 := by omega
  rcases this with rfl | rfl | rfl | rfl <;> simp [sel4, Nd.kid]
theorem sh4_put {x : Nd} {s k a b c e v : Int} (h : Sh4 x s k a b c e) (h0 : 0 ≤ k) (h1 : k < 4) (hv : v = shf x s (x.kid k)) : Sh4 x s (k + 1) (if k = 0 then v else a) (if k = 1 then v else b) (if k = 2 then v else c) (if k = 3 then v else e) := by
  subst hv
  obtain ⟨rfl, rfl, rfl, rfl⟩ := h
  have : k = 0 ∨ k = 1 ∨ k = 2 ∨ k = 3 := by omega
  rcases this with rfl | rfl | rfl | rfl <;> simp [Sh4, sel4, Nd.kid]
theorem sh4_same {x : Nd} {s k a b c e : Int} (h : Sh4 x s k a b c e) (h0 : 0 ≤ k) (h1 : k < 4) (hn : ¬ (1 < x.lv ∧ 0 < x.kid k)) : Sh4 x s (k + 1) a b c e := by
  have hv : x.kid k = shf x s (x.kid k) := by unfold shf; rw [if_neg hn]
  obtain ⟨rfl, rfl, rfl, rfl⟩ := h
  have : k = 0 ∨ k = 1 ∨ k = 2 ∨ k = 3 := by omega
  rcases this with rfl | rfl | rfl | rfl <;> simp [Sh4, Nd.kid, sel4] at hv ⊢ <;> exact hv
theorem sh4_end {x : Nd} {s a b c e : Int} (h : Sh4 x s 4 a b c e) : (⟨x.lv, a, b, c, e⟩ : Nd) = x.shift s := by
  obtain ⟨rfl, rfl, rfl, rfl⟩ := h
  unfold Nd.shift shf
  by_cases hv : 1 < x.lv
  · simp [hv]
  · simp [hv]
def nestP (l m : List Nd) (i : Int) : List Nd := l ++ (m.take i.toNat).map fun x => x.shift l.length
theorem nestP_zero (l m : List Nd) : nestP l m 0 = l := by simp [nestP]
theorem nestP_step {l m : List Nd} {i : Int} (h0 : 0 ≤ i) (h1 : i < m.length) : nestP l m i ++ [(ix m i).shift l.length] = nestP l m (i + 1) := by
  unfold nestP; rw [take_succ_ix m i h0 h1, List.map_append, List.append_assoc]; rfl
theorem nestP_end (l m : List Nd) : nestP l m m.length = nestL l m := by simp [nestP, nestL]
theorem nestP_len {l m : List Nd} {i : Int} (h0 : 0 ≤ i) (h1 : i ≤ m.length) : ((nestP l m i).length : Int) = l.length + i := by simp [nestP]; omega
end Go.Gw

set_option linter.unusedVariables false
set_option linter.unusedSimpArgs false
namespace Go.Gw
def MInv (M : List (Nd × Int)) (o : List Nd) : Prop := ∀ x, mget M x = if x ∈ o then some ((o.idxOf x : Int) + 1) else none
theorem minv_nil : MInv [] [] := fun x => by simp [mget, fnd]
theorem minv_push {M : List (Nd × Int)} {o : List Nd} {x : Nd} {v : Int} (h : MInv M o) (hx : ¬ x ∈ o) (hv : v = (o.length : Int) + 1) : MInv (mput M x v) (o ++ [x]) := fun y => by
  rw [mget_mput]
  by_cases e : y = x
  · subst e
    rw [if_pos rfl, if_pos (by simp), List.idxOf_append, if_neg hx, hv]
    simp
  · rw [if_neg e, h y]
    by_cases hy : y ∈ o
    · rw [if_pos hy, if_pos (by simp [hy]), List.idxOf_append, if_pos hy]
    · rw [if_neg hy, if_neg (by simp [hy, e])]
theorem minv_yes {M : List (Nd × Int)} {o : List Nd} {x : Nd} (h : MInv M o) (hs : (mget M x).isSome = true) (hz : ¬ (x.k0 = 0 ∧ x.k1 = 0 ∧ x.k2 = 0 ∧ x.k3 = 0)) : intr o x = (o, (mget M x).getD 0) := by
  rw [h x] at hs ⊢
  by_cases hx : x ∈ o
  · rw [if_pos hx]; unfold intr; rw [if_neg hz, if_pos hx]; rfl
  · rw [if_neg hx] at hs; cases hs
theorem minv_no {M : List (Nd × Int)} {o : List Nd} {x : Nd} (h : MInv M o) (hs : (mget M x).isSome = false) (hz : ¬ (x.k0 = 0 ∧ x.k1 = 0 ∧ x.k2 = 0 ∧ x.k3 = 0)) : intr o x = (o ++ [x], (o.length : Int) + 1) ∧ ¬ x ∈ o := by
  rw [h x] at hs
  by_cases hx : x ∈ o
  · rw [if_pos hx] at hs; cases hs
  · unfold intr; rw [if_neg hz, if_neg hx]; exact ⟨rfl, hx⟩
theorem intr_zero {o : List Nd} {x : Nd} (hz : x.k0 = 0 ∧ x.k1 = 0 ∧ x.k2 = 0 ∧ x.k3 = 0) : intr o x = (o, 0) := by unfold intr; rw [if_pos hz]
structure DOk (l : List Nd) (D : List (Int × Int)) (o : List Nd) : Prop where
  ok : ∀ i m : Int, mget D i = some m → 0 ≤ i ∧ i ≤ l.length ∧ vis (tr l i) o = (o, m)
  zero : (mget D 0).isSome = true
  nd : (D.map (·.1)).Nodup
  cnt : o.length ≤ D.length
theorem mget_mem {κ ν : Type} [DecidableEq κ] : ∀ (m : List (κ × ν)) (a : κ), a ∈ m.map (·.1) ↔ (mget m a).isSome = true
  | [], a => by simp [mget, fnd]
  | (k, v) :: m, a => by
    rw [mget_cons, List.map_cons, List.mem_cons, mget_mem m a]
    by_cases h : a = k
    · simp [h]
    · simp [h]
theorem mput_new {κ ν : Type} [DecidableEq κ] (a : κ) (v : ν) : ∀ m : List (κ × ν), mget m a = none → mput m a v = m ++ [(a, v)]
  | [], _ => rfl
  | (k, u) :: m, h => by
    rw [mget_cons] at h
    rw [mput_cons]
    by_cases e : a = k
    · rw [if_pos e] at h; cases h
    · rw [if_neg e] at h ⊢; rw [mput_new a v m h]; rfl
theorem DOk.len {l : List Nd} {D : List (Int × Int)} {o : List Nd} (h : DOk l D o) : D.length ≤ l.length + 1 := by
  have hn : ((D.map (·.1)).map (· + 1)).Nodup := by
    have hd := h.nd
    generalize D.map (·.1) = E at hd
    induction E with
    | nil => simp
    | cons x r ih =>
      rw [List.nodup_cons] at hd
      rw [List.map_cons, List.nodup_cons]
      refine ⟨fun hm => ?_, ih hd.2⟩
      rw [List.mem_map] at hm
      obtain ⟨y, hy, e⟩ := hm
      have : y = x := by omega
      exact hd.1 (this ▸ hy)
  have := pigeon (l.length + 1) _ hn (fun x hx => by
    rw [List.mem_map] at hx
    obtain ⟨y, hy, rfl⟩ := hx
    obtain ⟨m, hm⟩ := Option.isSome_iff_exists.1 ((mget_mem D y).1 hy)
    have := h.ok y m hm
    omega)
  simpa using this
theorem DOk.mono {l : List Nd} {D : List (Int × Int)} {o p : List Nd} (h : DOk l D o) (hp : o <+: p) (hl : p.length ≤ D.length) : DOk l D p :=
  ⟨fun i m hm => by
    have := h.ok i m hm
    refine ⟨this.1, this.2.1, ?_⟩
    rw [vis_stay (tr l i) (o := o) (p := p) (by rw [this.2.2]; exact hp), this.2.2], h.zero, h.nd, hl⟩
theorem DOk.put {l : List Nd} {D : List (Int × Int)} {o p : List Nd} {n m : Int} (h : DOk l D o) (hp : o <+: p) (hl : p.length ≤ o.length + 1) (h0 : 0 ≤ n) (h1 : n ≤ l.length) (hn : mget D n = none) (hv : vis (tr l n) p = (p, m)) : DOk l (mput D n m) p := by
  have e := mput_new n m D hn
  have k : ∀ i q : Int, mget D i = some q → 0 ≤ i ∧ i ≤ l.length ∧ vis (tr l i) p = (p, q) := fun i q hm => by
    have := h.ok i q hm
    refine ⟨this.1, this.2.1, ?_⟩
    rw [vis_stay (tr l i) (o := o) (p := p) (by rw [this.2.2]; exact hp), this.2.2]
  refine ⟨fun i q hm => ?_, ?_, ?_, ?_⟩
  · rw [mget_mput] at hm
    by_cases ei : i = n
    · rw [if_pos ei] at hm; injection hm with hm; subst hm; rw [ei]; exact ⟨h0, h1, hv⟩
    · rw [if_neg ei] at hm; exact k i q hm
  · rw [mget_mput]
    split
    · rfl
    · exact h.zero
  · rw [e, List.map_append, List.nodup_append]
    refine ⟨h.nd, by simp, fun a ha b hb => ?_⟩
    simp at hb
    subst hb
    intro ea
    subst ea
    have := (mget_mem D a).1 ha
    rw [hn] at this; cases this
  · rw [e, List.length_append]; have := h.cnt; simp; omega
theorem dok_start (l : List Nd) : DOk l [(0, 0)] [] :=
  ⟨fun i m hm => by
    rw [mget_cons] at hm
    by_cases e : i = 0
    · rw [if_pos e] at hm; injection hm with hm; subst e; subst hm; exact ⟨by omega, by omega, rfl⟩
    · rw [if_neg e] at hm; simp [mget, fnd] at hm, rfl, by simp, by simp⟩
theorem intr_len (o : List Nd) (x : Nd) : (intr o x).1.length ≤ o.length + 1 := by
  rcases intr_ge o x with ⟨_, _, e⟩ | ⟨_, _, _, _, e, _⟩ | ⟨_, _, _, e⟩ <;> rw [e] <;> simp
end Go.Gw

set_option linter.unusedVariables false
set_option linter.unusedSimpArgs false
namespace Go.Gw
def yN (lv k c : Int) : Nd := ⟨lv, if 3 - k = 0 then c else 0, if 3 - k = 1 then c else 0, if 3 - k = 2 then c else 0, if 3 - k = 3 then c else 0⟩
abbrev GrT := List Nd × Int × Int × Int × Int
def gr1 (old : Nd) (s : GrT) (k : Int) : GrT :=
  if old.kid k = 0 then s else (s.1 ++ [yN old.lv k (old.kid k)], if k = 0 then ((s.1 ++ [yN old.lv k (old.kid k)]).length : Int) else s.2.1, if k = 1 then ((s.1 ++ [yN old.lv k (old.kid k)]).length : Int) else s.2.2.1,
    if k = 2 then ((s.1 ++ [yN old.lv k (old.kid k)]).length : Int) else s.2.2.2.1, if k = 3 then ((s.1 ++ [yN old.lv k (old.kid k)]).length : Int) else s.2.2.2.2)
def grS (old : Nd) (o : List Nd) : Nat → GrT
  | 0 => (o, 0, 0, 0, 0)
  | k + 1 => gr1 old (grS old o k) k
def grX (old : Nd) (s : GrT) : List Nd := s.1 ++ [⟨old.lv + 1, s.2.1, s.2.2.1, s.2.2.2.1, s.2.2.2.2⟩]
def lastN' (o : List Nd) : Nd := ix o ((o.length : Int) - 1)
def growF : Nat → List Nd → List Nd
  | 0, o => o
  | f + 1, o => growF f (grX (lastN' o) (grS (lastN' o) o 4))
theorem grS_step {old : Nd} {o ok : List Nd} {k a b c e : Int} (h0 : 0 ≤ k) (h : (ok, a, b, c, e) = grS old o k.toNat) (hc : old.kid k = 0) : (ok, a, b, c, e) = grS old o (k + 1).toNat := by
  rw [show (k + 1).toNat = k.toNat + 1 by omega, grS, ← h, show ((k.toNat : Nat) : Int) = k by omega, gr1, if_pos hc]
theorem grS_put {old : Nd} {o ok : List Nd} {k a b c e : Int} (h0 : 0 ≤ k) (h : (ok, a, b, c, e) = grS old o k.toNat) (hc : ¬ old.kid k = 0) :
    (ok ++ [yN old.lv k (old.kid k)], (if k = 0 then ((ok ++ [yN old.lv k (old.kid k)]).length : Int) else a), (if k = 1 then ((ok ++ [yN old.lv k (old.kid k)]).length : Int) else b), (if k = 2 then ((ok ++ [yN old.lv k (old.kid k)]).length : Int) else c), (if k = 3 then ((ok ++ [yN old.lv k (old.kid k)]).length : Int) else e)) = grS old o (k + 1).toNat := by
  rw [show (k + 1).toNat = k.toNat + 1 by omega, grS, ← h, show ((k.toNat : Nat) : Int) = k by omega, gr1, if_neg hc]
theorem grow_round {level : Int} {o : List Nd} {a b c e : Int} {ok : List Nd} (h : (ok, a, b, c, e) = grS (lastN' o) o 4) (hl : (lastN' o).lv < level) :
    growF (level - (lastN' (ok ++ [⟨(lastN' o).lv + 1, a, b, c, e⟩])).lv).toNat (ok ++ [⟨(lastN' o).lv + 1, a, b, c, e⟩]) = growF (level - (lastN' o).lv).toNat o := by
  have e1 : lastN' (ok ++ [⟨(lastN' o).lv + 1, a, b, c, e⟩]) = ⟨(lastN' o).lv + 1, a, b, c, e⟩ := by
    unfold lastN'
    rw [show (((ok ++ [(⟨(ix o ((o.length : Int) - 1)).lv + 1, a, b, c, e⟩ : Nd)]).length : Nat) : Int) - 1 = ok.length by simp]
    unfold ix; simp
  rw [e1]
  simp only
  obtain ⟨f, hf⟩ : ∃ f, (level - (lastN' o).lv).toNat = f + 1 := ⟨(level - (lastN' o).lv).toNat - 1, by omega⟩
  rw [hf, show (level - ((lastN' o).lv + 1)).toNat = f by omega, growF, ← h]
  rfl
theorem grow_last {o : List Nd} {x : Nd} : lastN' (o ++ [x]) = x := by
  unfold lastN'
  rw [show (((o ++ [x]).length : Nat) : Int) - 1 = o.length by simp]
  unfold ix; simp
theorem grow_end {level : Int} {o : List Nd} (hl : ¬ (lastN' o).lv < level) : growF (level - (lastN' o).lv).toNat o = o := by rw [show (level - (lastN' o).lv).toNat = 0 by omega]; rfl
theorem tr_is_leaf {L : List Nd} {n a b c d : Int} (hL : looseB L = true) (h0 : 0 ≤ n) (h1 : n ≤ L.length) (h : tr L n = .leaf a b c d) : 1 ≤ n ∧ (ix L (n - 1)).lv = 1 := by
  have hn : n ≠ 0 := fun e => by rw [e, tr_zero] at h; cases h
  refine ⟨by omega, ?_⟩
  by_cases hv : (ix L (n - 1)).lv = 1
  · exact hv
  · rw [tr_nd hL (by omega) h1 hv] at h; cases h
end Go.Gw

set_option linter.unusedVariables false
set_option linter.unusedSimpArgs false
namespace Go.Gw
theorem s_rng {a : Tr} (h : wf 1 a) (j : Int) : 0 ≤ a.s j ∧ a.s j ≤ 255 := by
  cases a with
  | no => simp [Tr.s]
  | leaf a b c d =>
    obtain ⟨_, ha, hb, hc, hd⟩ := h
    simp only [Tr.s, sel4]
    split
    · exact ha
    · split
      · exact hb
      · split
        · exact hc
        · exact hd
  | nd v a b c d => obtain ⟨_, h2, _⟩ := h; omega
theorem q_wf {u : Int} {a : Tr} (h : wf u a) (j : Int) : wf (u - 1) (a.q j) := by
  cases a with
  | no => trivial
  | leaf a b c d => trivial
  | nd v a b c d =>
    obtain ⟨_, _, _, ha, hb, hc, hd⟩ := h
    simp only [Tr.q]
    split
    · exact ha
    · split
      · exact hb
      · split
        · exact hc
        · exact hd
theorem wf_inn {u v : Int} {a b c d : Tr} (h : wf v (.nd u a b c d)) : wf (v - 1) (inn (.nd u a b c d)) := by
  obtain ⟨rfl, h2, h3, ha, hb, hc, hd⟩ := h
  by_cases e : u = 2
  · subst e
    simp only [inn, if_true]
    exact ⟨by omega, s_rng ha _, s_rng hb _, s_rng hc _, s_rng hd _⟩
  · simp only [inn, if_neg e]
    exact ⟨rfl, by omega, by omega, q_wf ha _, q_wf hb _, q_wf hc _, q_wf hd _⟩
theorem shrF_wf : ∀ (f : Nat) (t : Tr) (v : Int), wf v t → lvT t ≤ f → (∃ u, wf u (shrF f t)) ∧ hol (shrF f t) = false
  | 0, t, v, h, hf => by
    cases t with
    | no => exact ⟨⟨0, trivial⟩, rfl⟩
    | leaf a b c d => simp [lvT] at hf
    | nd u a b c d => obtain ⟨rfl, h2, _⟩ := h; simp only [lvT] at hf; omega
  | f + 1, t, v, h, hf => by
    unfold shrF
    by_cases hh : hol t = true
    · rw [if_pos hh]
      cases t with
      | no => cases hh
      | leaf a b c d => cases hh
      | nd u a b c d =>
        refine shrF_wf f _ (v - 1) (wf_inn h) ?_
        obtain ⟨rfl, h2, _⟩ := h
        simp only [lvT] at hf
        by_cases e : u = 2
        · subst e; simp only [inn, if_true, lvT]; omega
        · simp only [inn, if_neg e, lvT]; omega
    · rw [if_neg hh]
      exact ⟨⟨v, h⟩, by simpa using hh⟩
theorem shr0_wf {t : Tr} {v : Int} (h : wf v t) : (∃ u, wf u (shr0 t)) ∧ hol (shr0 t) = false := by
  unfold shr0
  split
  · exact ⟨⟨0, trivial⟩, rfl⟩
  · exact shrF_wf _ t v h (Nat.le_refl _)
theorem of_wf {l : List Nd} {n : Int} (hl : looseB l = true) (h0 : 0 ≤ n) (h1 : n ≤ l.length) : (∃ u, wf u (shr0 (tr l n))) ∧ hol (shr0 (tr l n)) = false := shr0_wf (wf_tr hl n h0 h1 (ix l (n - 1)).lv (fun _ => rfl))
theorem of_right (l : List Nd) (n : Int) : rightB (ofL l n).1 = true := by
  unfold ofL
  split
  · rename_i h
    obtain ⟨⟨u, hu⟩, hh⟩ := of_wf h.1 h.2.1 h.2.2
    exact right_can hu hh
  · rfl
theorem of_again {l : List Nd} {n : Int} (hl : looseB l = true) (h0 : 0 ≤ n) (h1 : n ≤ l.length) : ofL (ofL l n).1 ((ofL l n).1.length) = ((ofL l n).1, 0) := by
  obtain ⟨⟨u, hu⟩, hh⟩ := of_wf hl h0 h1
  rw [of_yes hl h0 h1]
  simp only
  rw [of_yes (l := canT (shr0 (tr l n))) (rightB_loose hu) (by omega) (by omega)]
  congr 1
  exact can_again hu hh
theorem of_nest {m l : List Nd} {n k : Int} (hm : looseB m = true) (hl : looseB l = true) (h0 : 0 ≤ n) (h1 : n ≤ l.length) (hk : k = if 0 < n then n + m.length else n) : ofL (nestL m l) k = ofL l n := by
  have len := nest_len m l
  rw [of_yes hl h0 h1, of_yes (nest_loose hm hl) (by rw [hk]; split <;> omega) (by rw [hk]; split <;> omega), hk, nest_tr hm hl n h0 h1]
theorem eqv_self (l : List Nd) : Nd.eqv l l = true := by unfold Nd.eqv; exact decide_eq_true rfl
end Go.Gw
