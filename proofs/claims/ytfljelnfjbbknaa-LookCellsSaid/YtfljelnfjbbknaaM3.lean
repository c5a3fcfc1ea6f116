/- Part of the proof: a library for walks, plain laws, and functions' walks. -/
import Derived.Test.YtfljelnfjbbknaaM2
import Derived.Lib.Bytealg
import Derived.Lib.Strings
import Derived.Laws.Externs
import Derived.LoopN
set_option linter.unusedVariables false
set_option linter.unusedSimpArgs false
set_option linter.unusedVariables false
set_option linter.unusedSimpArgs false
set_option linter.unusedVariables false
set_option linter.unusedSimpArgs false
set_option linter.unusedVariables false
set_option linter.unusedSimpArgs false
set_option linter.unusedVariables false
set_option linter.unusedSimpArgs false
set_option linter.unusedVariables false
set_option linter.unusedSimpArgs false
set_option linter.unusedVariables false
set_option linter.unusedSimpArgs false
set_option linter.unusedVariables false
set_option linter.unusedSimpArgs false
set_option linter.unusedVariables false
set_option linter.unusedSimpArgs false
set_option linter.unusedVariables false
set_option linter.unusedSimpArgs false
namespace Go.Gw
theorem Zdc {α : Type} [Inhabited α] {o p : List α} (h : o <+: p) (i : Int) (h0 : 0 ≤ i) (h1 : i < o.length) : ix p i = ix o i := by
  obtain ⟨z, rfl⟩ := h
  exact Zfh o z i h0 h1
theorem Zc1 {l : List Nd} (h : Zaf l = true) {i : Int} (h0 : 0 ≤ i) (h1 : i < l.length) (hl : (ix l i).lv ≠ 1) (k : Int) (k0 : 0 ≤ k) (k1 : k < 4) : 0 ≤ (ix l i).kid k ∧ (ix l i).kid k ≤ i := by
  by_cases e : (ix l i).kid k = 0
  · omega
  · exact Zh2 h h0 h1 hl k k0 k1 e
theorem Zht {l : List Nd} (h : Zaf l = true) {i : Int} (h0 : 0 ≤ i) (h1 : i < l.length) (hl : (ix l i).lv ≠ 1) :
    (0 ≤ (ix l i).k0 ∧ (ix l i).k0 ≤ i) ∧ (0 ≤ (ix l i).k1 ∧ (ix l i).k1 ≤ i) ∧ (0 ≤ (ix l i).k2 ∧ (ix l i).k2 ≤ i) ∧ (0 ≤ (ix l i).k3 ∧ (ix l i).k3 ≤ i) :=
  ⟨Zc1 h h0 h1 hl 0 om om, Zc1 h h0 h1 hl 1 om om, Zc1 h h0 h1 hl 2 om om, Zc1 h h0 h1 hl 3 om om⟩
theorem hasL_app (l z : List Nd) : Zca l <+: Zca (l ++ z) := by
  have h : ∀ (z : List Nd) (acc : List Bool), acc <+: z.foldl (fun out x => out ++ [Zhx x out]) acc := by
    intro z
    induction z with
    | nil => intro acc; exact List.prefix_refl _
    | cons x r ih => intro acc; rw [List.foldl_cons]; exact (List.prefix_append _ _).trans (ih _)
  unfold Zca
  rw [List.foldl_append]
  exact h z _
theorem hasN_eq {x : Nd} {A B : List Bool} (h : x.lv ≠ 1 → ix A x.k0 = ix B x.k0 ∧ ix A x.k1 = ix B x.k1 ∧ ix A x.k2 = ix B x.k2 ∧ ix A x.k3 = ix B x.k3) : Zhx x A = Zhx x B := by
  by_cases e : x.lv = 1
  · simp [Zhx, kids, Zes, e]
  · obtain ⟨a, b, c, d⟩ := h e
    simp [Zhx, kids, Zes, e, a, b, c, d]
theorem hasL_at {l : List Nd} (hl : Zaf l = true) (i : Int) (h0 : 0 ≤ i) (h1 : i < l.length) : ix (Zca l) (i + 1) = Zhx (ix l i) (Zca l) := by
  have e1 : l = l.take i.toNat ++ ([ix l i] ++ l.drop (i + 1).toNat) := by
    rw [← List.append_assoc, ← Zia l i h0 h1, List.take_append_drop]
  have hlen : (l.take i.toNat).length = i.toNat := by rw [List.length_take]; omega
  have p1 : Zca (l.take i.toNat) <+: Zca l := by
    have := hasL_app (l.take i.toNat) ([ix l i] ++ l.drop (i + 1).toNat)
    rw [← e1] at this; exact this
  have p2 : Zca (l.take i.toNat) ++ [Zhx (ix l i) (Zca (l.take i.toNat))] <+: Zca l := by
    have := hasL_app (l.take i.toNat ++ [ix l i]) (l.drop (i + 1).toNat)
    rw [List.append_assoc, ← e1, Zlb] at this; exact this
  rw [Zdc p2 (i + 1) om (by rw [List.length_append, Zbg, hlen]; simp; omega)]
  have e2 : ix (Zca (l.take i.toNat) ++ [Zhx (ix l i) (Zca (l.take i.toNat))]) (i + 1) = Zhx (ix l i) (Zca (l.take i.toNat)) := by
    unfold ix
    rw [List.getD_eq_getElem?_getD, List.getElem?_append_right (by rw [Zbg, hlen]; omega), Zbg, hlen, show (i + 1).toNat - (i.toNat + 1) = 0 by omega]
    rfl
  rw [e2]
  refine hasN_eq fun hv => ?_
  obtain ⟨a, b, c, d⟩ := Zht hl h0 h1 hv
  have hL : ((Zca (l.take i.toNat)).length : Int) = i + 1 := by rw [Zbg, hlen]; omega
  exact ⟨(Zdc p1 _ a.1 om).symm, (Zdc p1 _ b.1 om).symm, (Zdc p1 _ c.1 om).symm, (Zdc p1 _ d.1 om).symm⟩
inductive Tr where
  | no
  | leaf (a b c d : Int)
  | nd (lv : Int) (a b c d : Tr)
def trF (l : List Nd) : Nat → Int → Tr
  | 0, _ => .no
  | f + 1, n => if n = 0 then .no else if (ix l (n - 1)).lv = 1 then .leaf (ix l (n - 1)).k0 (ix l (n - 1)).k1 (ix l (n - 1)).k2 (ix l (n - 1)).k3
    else .nd (ix l (n - 1)).lv (trF l f (ix l (n - 1)).k0) (trF l f (ix l (n - 1)).k1) (trF l f (ix l (n - 1)).k2) (trF l f (ix l (n - 1)).k3)
def tr (l : List Nd) (n : Int) : Tr := trF l n.toNat n
theorem Zc8 (l : List Nd) : tr l 0 = .no := rfl
theorem trF_tr {l : List Nd} (hl : Zaf l = true) (f : Nat) : ∀ (n : Int), 0 ≤ n → n ≤ l.length → n ≤ f → trF l f n = tr l n := by
  induction f using Nat.strongRecOn with
  | ind f ih =>
    intro n h0 h1 h2
    by_cases hn : n = 0
    · subst hn; cases f <;> simp [tr, trF]
    · obtain ⟨g, rfl⟩ : ∃ g, f = g + 1 := ⟨f - 1, by omega⟩
      obtain ⟨m, hm⟩ : ∃ m, n.toNat = m + 1 := ⟨n.toNat - 1, by omega⟩
      unfold tr
      rw [hm]
      simp only [trF, if_neg hn]
      split
      · rfl
      · rename_i hv
        obtain ⟨a, b, c, d⟩ := Zht hl (i := n - 1) om om hv
        congr 1
        · exact (ih g om _ a.1 om om).trans (ih m om _ a.1 om om).symm
        · exact (ih g om _ b.1 om om).trans (ih m om _ b.1 om om).symm
        · exact (ih g om _ c.1 om om).trans (ih m om _ c.1 om om).symm
        · exact (ih g om _ d.1 om om).trans (ih m om _ d.1 om om).symm
theorem tr_at {l : List Nd} (hl : Zaf l = true) {n : Int} (h0 : 1 ≤ n) (h1 : n ≤ l.length) :
    tr l n = if (ix l (n - 1)).lv = 1 then .leaf (ix l (n - 1)).k0 (ix l (n - 1)).k1 (ix l (n - 1)).k2 (ix l (n - 1)).k3
      else .nd (ix l (n - 1)).lv (tr l (ix l (n - 1)).k0) (tr l (ix l (n - 1)).k1) (tr l (ix l (n - 1)).k2) (tr l (ix l (n - 1)).k3) := by
  obtain ⟨m, hm⟩ : ∃ m, n.toNat = m + 1 := ⟨n.toNat - 1, by omega⟩
  rw [show tr l n = trF l (m + 1) n by unfold tr; rw [hm]]
  simp only [trF, if_neg (show n ≠ 0 by omega)]
  split
  · rfl
  · rename_i hv
    obtain ⟨a, b, c, d⟩ := Zht hl (i := n - 1) om om hv
    rw [trF_tr hl m _ a.1 om om, trF_tr hl m _ b.1 om om, trF_tr hl m _ c.1 om om, trF_tr hl m _ d.1 om om]
theorem Zel {l : List Nd} (hl : Zaf l = true) {n : Int} (h0 : 1 ≤ n) (h1 : n ≤ l.length) (hv : (ix l (n - 1)).lv = 1) :
    tr l n = .leaf (ix l (n - 1)).k0 (ix l (n - 1)).k1 (ix l (n - 1)).k2 (ix l (n - 1)).k3 := by rw [tr_at hl h0 h1, if_pos hv]
theorem Zfx {l : List Nd} (hl : Zaf l = true) {n : Int} (h0 : 1 ≤ n) (h1 : n ≤ l.length) (hv : (ix l (n - 1)).lv ≠ 1) :
    tr l n = .nd (ix l (n - 1)).lv (tr l (ix l (n - 1)).k0) (tr l (ix l (n - 1)).k1) (tr l (ix l (n - 1)).k2) (tr l (ix l (n - 1)).k3) := by rw [tr_at hl h0 h1, if_neg hv]
theorem Zju {l : List Nd} (hl : Zaf l = true) (p : Int → Prop) (h0 : p 0) (h1 : ∀ n : Int, 1 ≤ n → n ≤ l.length → (ix l (n - 1)).lv = 1 → p n)
    (h2 : ∀ n : Int, 1 ≤ n → n ≤ l.length → (ix l (n - 1)).lv ≠ 1 → p (ix l (n - 1)).k0 → p (ix l (n - 1)).k1 → p (ix l (n - 1)).k2 → p (ix l (n - 1)).k3 → p n) :
    ∀ n : Int, 0 ≤ n → n ≤ l.length → p n := by
  have h : ∀ (f : Nat) (n : Int), 0 ≤ n → n ≤ l.length → n ≤ f → p n := by
    intro f
    induction f with
    | zero => intro n a b c; rw [show n = 0 by omega]; exact h0
    | succ f ih =>
      intro n a b c
      by_cases hn : n = 0
      · rw [hn]; exact h0
      · by_cases hv : (ix l (n - 1)).lv = 1
        · exact h1 n om b hv
        · obtain ⟨q0, q1, q2, q3⟩ := Zht hl (i := n - 1) om om hv
          exact h2 n om b hv (ih _ q0.1 om om) (ih _ q1.1 om om) (ih _ q2.1 om om) (ih _ q3.1 om om)
  exact fun n a b => h n.toNat n a b om
def emp : Tr → Bool
  | .no => true
  | .leaf a b c d => decide (a = 0) && decide (b = 0) && decide (c = 0) && decide (d = 0)
  | .nd _ a b c d => emp a && emp b && emp c && emp d
theorem Zkg {l : List Nd} {x : Nd} {c : Int} (hv : x.lv ≠ 1) (h : ix (Zca l) c = !emp (tr l c)) : Zes x (Zca l) c = !emp (tr l c) := by
  unfold Zes
  rw [h, decide_eq_false hv, Bool.false_or]
  by_cases hc : c = 0
  · rw [hc, Zc8]; rfl
  · simp [hc]
theorem has_tr {l : List Nd} (hl : Zaf l = true) : ∀ n : Int, 0 ≤ n → n ≤ l.length → ix (Zca l) n = !emp (tr l n) := by
  refine Zju hl _ (by rw [hasL_zero, Zc8]; rfl) (fun n h0 h1 hv => ?_) (fun n h0 h1 hv p0 p1 p2 p3 => ?_)
  · rw [show n = (n - 1) + 1 by omega, hasL_at hl (n - 1) om om, show n - 1 + 1 = n by omega, Zel hl h0 h1 hv]
    simp [Zhx, kids, Zes, hv, emp]
    by_cases a : (ix l (n - 1)).k0 = 0 <;> by_cases b : (ix l (n - 1)).k1 = 0 <;> by_cases c : (ix l (n - 1)).k2 = 0 <;> by_cases d : (ix l (n - 1)).k3 = 0 <;> simp [a, b, c, d]
  · rw [show n = (n - 1) + 1 by omega, hasL_at hl (n - 1) om om, show n - 1 + 1 = n by omega, Zfx hl h0 h1 hv]
    simp only [Zhx, kids, List.any_cons, List.any_nil, Zkg hv p0, Zkg hv p1, Zkg hv p2, Zkg hv p3, emp]
    cases emp (tr l (ix l (n - 1)).k0) <;> cases emp (tr l (ix l (n - 1)).k1) <;> cases emp (tr l (ix l (n - 1)).k2) <;> cases emp (tr l (ix l (n - 1)).k3) <;> rfl
def Tr.q : Tr → Int → Tr
  | .nd _ a b c d, j => if j = 0 then a else if j = 1 then b else if j = 2 then c else d
  | _, _ => .no
def Tr.s : Tr → Int → Int
  | .leaf a b c d, j => Zae a b c d j
  | _, _ => 0
def qe : Tr → Int → Bool
  | .no, _ => true
  | .leaf a b c d, j => decide (Zae a b c d j = 0)
  | .nd _ a b c d, j => emp (if j = 0 then a else if j = 1 then b else if j = 2 then c else d)
def hol : Tr → Bool
  | .nd _ a b c d => (qe a 0 && qe a 1 && qe a 2) && (qe b 0 && qe b 1 && qe b 3) && (qe c 0 && qe c 2 && qe c 3) && (qe d 1 && qe d 2 && qe d 3)
  | _ => false
theorem qe_tr {l : List Nd} (hl : Zaf l = true) {c : Int} (c0 : 0 ≤ c) (c1 : c ≤ l.length) (j : Int) (j0 : 0 ≤ j) (j1 : j < 4) :
    (c ≠ 0 → Zes (ix l (c - 1)) (Zca l) ((ix l (c - 1)).kid j) = false) ↔ qe (tr l c) j = true := by
  by_cases hc : c = 0
  · subst hc; simp [Zc8, qe]
  · by_cases hv : (ix l (c - 1)).lv = 1
    · rw [Zel hl om c1 hv]
      simp only [Zes, hv, qe, Nd.kid, hc, decide_true, Bool.true_or, Bool.and_true]
      by_cases e : Zae (ix l (c - 1)).k0 (ix l (c - 1)).k1 (ix l (c - 1)).k2 (ix l (c - 1)).k3 j = 0 <;> simp [e, hc]
    · have r := Zc1 hl (i := c - 1) om om hv j j0 j1
      rw [Zfx hl om c1 hv, Zkg hv (has_tr hl _ r.1 om)]
      have : j = 0 ∨ j = 1 ∨ j = 2 ∨ j = 3 := by omega
      rcases this with rfl | rfl | rfl | rfl <;> simp [qe, Nd.kid, Zae, hc]
theorem hol_tr {l : List Nd} (hl : Zaf l = true) {n : Int} (h0 : 0 ≤ n) (h1 : n ≤ l.length) : Zev l n = hol (tr l n) := by
  by_cases hn : n = 0
  · subst hn; simp [Zev, Zc8, hol]
  · by_cases hv : (ix l (n - 1)).lv = 1
    · rw [Zel hl om h1 hv]; simp [Zev, hv, hol]
    · rw [Bool.eq_iff_iff, Zd9, Zfx hl om h1 hv]
      obtain ⟨a, b, c, d⟩ := Zht hl (i := n - 1) om om hv
      have Q := fun (c : Int) (c0 : 0 ≤ c ∧ c ≤ n - 1) (j : Int) => qe_tr hl c0.1 om j
      simp only [hol, Bool.and_eq_true]
      constructor
      · rintro ⟨_, _, h⟩
        exact ⟨⟨⟨⟨⟨(Q _ a 0 om om).1 fun e => h 0 om om e 0 om om om, (Q _ a 1 om om).1 fun e => h 0 om om e 1 om om om⟩, (Q _ a 2 om om).1 fun e => h 0 om om e 2 om om om⟩,
          ⟨(Q _ b 0 om om).1 fun e => h 1 om om e 0 om om om, (Q _ b 1 om om).1 fun e => h 1 om om e 1 om om om⟩, (Q _ b 3 om om).1 fun e => h 1 om om e 3 om om om⟩,
          ⟨(Q _ c 0 om om).1 fun e => h 2 om om e 0 om om om, (Q _ c 2 om om).1 fun e => h 2 om om e 2 om om om⟩, (Q _ c 3 om om).1 fun e => h 2 om om e 3 om om om⟩,
          ⟨(Q _ d 1 om om).1 fun e => h 3 om om e 1 om om om, (Q _ d 2 om om).1 fun e => h 3 om om e 2 om om om⟩, (Q _ d 3 om om).1 fun e => h 3 om om e 3 om om om⟩
      · rintro ⟨⟨⟨⟨⟨a0, a1⟩, a2⟩, ⟨b0, b1⟩, b3⟩, ⟨c0, c2⟩, c3⟩, ⟨d1, d2⟩, d3⟩
        refine ⟨hn, hv, fun k k0 k1 hk j j0 j1 hj => ?_⟩
        have e : j = 0 ∨ j = 1 ∨ j = 2 ∨ j = 3 := by omega
        have : k = 0 ∨ k = 1 ∨ k = 2 ∨ k = 3 := by omega
        rcases this with rfl | rfl | rfl | rfl
        · rcases e with rfl | rfl | rfl | rfl
          · exact (Q _ a _ j0 j1).2 a0 hk
          · exact (Q _ a _ j0 j1).2 a1 hk
          · exact (Q _ a _ j0 j1).2 a2 hk
          · exact absurd rfl hj
        · rcases e with rfl | rfl | rfl | rfl
          · exact (Q _ b _ j0 j1).2 b0 hk
          · exact (Q _ b _ j0 j1).2 b1 hk
          · exact absurd rfl hj
          · exact (Q _ b _ j0 j1).2 b3 hk
        · rcases e with rfl | rfl | rfl | rfl
          · exact (Q _ c _ j0 j1).2 c0 hk
          · exact absurd rfl hj
          · exact (Q _ c _ j0 j1).2 c2 hk
          · exact (Q _ c _ j0 j1).2 c3 hk
        · rcases e with rfl | rfl | rfl | rfl
          · exact absurd rfl hj
          · exact (Q _ d _ j0 j1).2 d1 hk
          · exact (Q _ d _ j0 j1).2 d2 hk
          · exact (Q _ d _ j0 j1).2 d3 hk
theorem Zg1 {l m : List Nd} (hl : Zaf l = true) (hm : Zaf m = true) (h : l <+: m) : ∀ n : Int, 0 ≤ n → n ≤ l.length → tr m n = tr l n := by
  have hle : (l.length : Int) ≤ m.length := by have := h.length_le; omega
  refine Zju hl _ rfl (fun n h0 h1 hv => ?_) (fun n h0 h1 hv p0 p1 p2 p3 => ?_)
  · rw [Zel hl h0 h1 hv, Zel hm h0 om (by rw [Zdc h _ om om]; exact hv), Zdc h _ om om]
  · rw [Zfx hl h0 h1 hv, Zfx hm h0 om (by rw [Zdc h _ om om]; exact hv), Zdc h _ om om, p0, p1, p2, p3]
end Go.Gw
namespace Go.Gw
def Zdy (l : List Nd) (n k : Int) : Int := if 0 < (ix l (n - 1)).kid k then (ix l ((ix l (n - 1)).kid k - 1)).kid (3 - k) else 0
def Zei (l : List Nd) (n : Int) : Nd := ⟨(ix l (n - 1)).lv - 1, Zdy l n 0, Zdy l n 1, Zdy l n 2, Zdy l n 3⟩
def inn : Tr → Tr
  | .nd v a b c d => if v = 2 then .leaf (a.s 3) (b.s 2) (c.s 1) (d.s 0) else .nd (v - 1) (a.q 3) (b.q 2) (c.q 1) (d.q 0)
  | t => t
def lvT : Tr → Nat
  | .no => 0
  | .leaf _ _ _ _ => 1
  | .nd v _ _ _ _ => v.toNat
def shrF : Nat → Tr → Tr
  | 0, t => t
  | f + 1, t => if hol t then shrF f (inn t) else t
def shr (t : Tr) : Tr := shrF (lvT t) t
def Zhl (t : Tr) : Tr := if emp t then .no else shr t
theorem shr_no {t : Tr} (h : hol t = false) : shr t = t := by
  unfold shr
  cases lvT t with
  | zero => rfl
  | succ f => simp [shrF, h]
theorem shr_yes {v : Int} {a b c d : Tr} (hv : 2 ≤ v) (h : hol (.nd v a b c d) = true) : shr (.nd v a b c d) = shr (inn (.nd v a b c d)) := by
  have e : lvT (.nd v a b c d) = lvT (inn (.nd v a b c d)) + 1 := by
    by_cases e : v = 2
    · subst e; rfl
    · simp only [inn, if_neg e, lvT]; omega
  conv => lhs; unfold shr
  rw [e]
  simp only [shrF, h, if_true]
  rfl
theorem Zil {l : List Nd} {x : Nd} (hl : Zaf l = true) (hv : 1 ≤ x.lv ∧ x.lv ≤ 1329) (hk : ∀ k : Int, 0 ≤ k → k < 4 → x.kid k = 0 ∨ (x.lv = 1 ∧ 0 < x.kid k ∧ x.kid k ≤ 255) ∨ (x.lv ≠ 1 ∧ 0 < x.kid k ∧ x.kid k ≤ l.length ∧ (ix l (x.kid k - 1)).lv = x.lv - 1)) :
    Zaf (l ++ [x]) = true := by
  have P : l <+: l ++ [x] := List.prefix_append _ _
  rw [Zcz]
  intro i h0 h1
  rw [List.length_append] at h1
  simp at h1
  by_cases hi : i < l.length
  · have o := (Zck l i).1 ((Zcz l).1 hl i h0 hi)
    rw [Zck, Zdc P i h0 hi]
    refine ⟨o.1, fun k k0 k1 => ?_⟩
    have q := o.2 k k0 k1
    unfold Zf6 at q ⊢
    rw [Zdc P i h0 hi]
    by_cases hc : (ix l i).lv = 1
    · rw [if_pos hc] at q ⊢; exact q
    · rw [if_neg hc] at q ⊢
      have r := Zc1 hl h0 hi hc k k0 k1
      by_cases hz : (ix l i).kid k = 0
      · simp [hz]
      · rw [Zdc P _ om om]; exact q
  · have e : i = (l.length : Int) := by omega
    have ex : ix (l ++ [x]) i = x := by rw [e]; unfold ix; simp
    rw [Zck, ex]
    refine ⟨hv, fun k k0 k1 => ?_⟩
    unfold Zf6
    rw [ex]
    rcases hk k k0 k1 with h | ⟨h1, h2, h3⟩ | ⟨h1, h2, h3, h4⟩
    · simp [h]
    · rw [if_pos h1]; simp [h2, h3]
    · rw [if_neg h1, Zdc P _ om om]; simp [h2, h4, show x.kid k ≤ i by omega]
theorem inn_in {l : List Nd} (hl : Zaf l = true) {n : Int} (h0 : 1 ≤ n) (h1 : n ≤ l.length) (hv : (ix l (n - 1)).lv ≠ 1) (k : Int) (k0 : 0 ≤ k) (k1 : k < 4) :
    Zdy l n k = 0 ∨ ((ix l (n - 1)).lv = 2 ∧ 0 < Zdy l n k ∧ Zdy l n k ≤ 255) ∨ ((ix l (n - 1)).lv ≠ 2 ∧ 0 < Zdy l n k ∧ Zdy l n k ≤ l.length ∧ (ix l (Zdy l n k - 1)).lv = (ix l (n - 1)).lv - 2) := by
  unfold Zdy
  split
  · rename_i hc
    have a := Zdm hl (i := n - 1) (k := k) om om k0 k1 hv om
    generalize (ix l (n - 1)).kid k = c at a hc ⊢
    have l1 := Ze9 hl (i := c - 1) om om
    by_cases h2 : (ix l (c - 1)).lv = 1
    · have b := Zhh hl (i := c - 1) (k := 3 - k) om om om om h2
      by_cases hz : (ix l (c - 1)).kid (3 - k) = 0
      · exact .inl hz
      · exact .inr (.inl ⟨by omega, by omega, by omega⟩)
    · by_cases hz : (ix l (c - 1)).kid (3 - k) = 0
      · exact .inl hz
      · have b := Zdm hl (i := c - 1) (k := 3 - k) om om om om h2 hz
        exact .inr (.inr ⟨by omega, by omega, by omega, by omega⟩)
  · exact .inl rfl
theorem innX_kid (l : List Nd) (n k : Int) (k0 : 0 ≤ k) (k1 : k < 4) : (Zei l n).kid k = Zdy l n k := by
  have : k = 0 ∨ k = 1 ∨ k = 2 ∨ k = 3 := by omega
  rcases this with rfl | rfl | rfl | rfl <;> rfl
theorem Zji {l : List Nd} (hl : Zaf l = true) {n : Int} (h0 : 1 ≤ n) (h1 : n ≤ l.length) (hv : (ix l (n - 1)).lv ≠ 1) : Zaf (l ++ [Zei l n]) = true := by
  have b := Ze9 hl (i := n - 1) om om
  refine Zil hl ⟨by simp only [Zei]; omega, by simp only [Zei]; omega⟩ fun k k0 k1 => ?_
  rw [innX_kid l n k k0 k1]
  rcases inn_in hl h0 h1 hv k k0 k1 with h | ⟨h2, h3, h4⟩ | ⟨h2, h3, h4, h5⟩
  · exact .inl h
  · exact .inr (.inl ⟨by simp only [Zei]; omega, h3, h4⟩)
  · exact .inr (.inr ⟨by simp only [Zei]; omega, h3, h4, by simp only [Zei]; omega⟩)
theorem inn_s {l : List Nd} (hl : Zaf l = true) {n : Int} (h0 : 1 ≤ n) (h1 : n ≤ l.length) (hv : (ix l (n - 1)).lv = 2) (k : Int) (k0 : 0 ≤ k) (k1 : k < 4) :
    Zdy l n k = (tr l ((ix l (n - 1)).kid k)).s (3 - k) := by
  unfold Zdy
  have r := Zc1 hl (i := n - 1) om om om k k0 k1
  split
  · rename_i hc
    have a := Zdm hl (i := n - 1) (k := k) om om k0 k1 om om
    rw [Zel hl om om om]
    rfl
  · rename_i hc
    rw [show (ix l (n - 1)).kid k = 0 by omega, Zc8]; rfl
theorem inn_q {l : List Nd} (hl : Zaf l = true) {n : Int} (h0 : 1 ≤ n) (h1 : n ≤ l.length) (hv : (ix l (n - 1)).lv ≠ 1) (hv2 : (ix l (n - 1)).lv ≠ 2) (k : Int) (k0 : 0 ≤ k) (k1 : k < 4) :
    tr l (Zdy l n k) = (tr l ((ix l (n - 1)).kid k)).q (3 - k) := by
  unfold Zdy
  have r := Zc1 hl (i := n - 1) om om om k k0 k1
  split
  · rename_i hc
    have a := Zdm hl (i := n - 1) (k := k) om om k0 k1 om om
    rw [Zfx hl (n := (ix l (n - 1)).kid k) om om om]
    have : k = 0 ∨ k = 1 ∨ k = 2 ∨ k = 3 := by omega
    rcases this with rfl | rfl | rfl | rfl <;> rfl
  · rename_i hc
    rw [show (ix l (n - 1)).kid k = 0 by omega, Zc8]; rfl
theorem inn_tr {l : List Nd} (hl : Zaf l = true) {n : Int} (h0 : 1 ≤ n) (h1 : n ≤ l.length) (hv : (ix l (n - 1)).lv ≠ 1) : tr (l ++ [Zei l n]) ((l.length : Int) + 1) = inn (tr l n) := by
  have hm := Zji hl h0 h1 hv
  have P : l <+: l ++ [Zei l n] := List.prefix_append _ _
  have ex : ix (l ++ [Zei l n]) ((l.length : Int) + 1 - 1) = Zei l n := by rw [show (l.length : Int) + 1 - 1 = l.length by omega]; unfold ix; simp
  have b := Ze9 hl (i := n - 1) om om
  rw [Zfx hl h0 h1 hv]
  by_cases h2 : (ix l (n - 1)).lv = 2
  · rw [Zel hm om (by simp) (by rw [ex]; simp only [Zei]; omega), ex]
    simp only [inn, if_pos h2, Zei]
    rw [inn_s hl h0 h1 h2 0 om om, inn_s hl h0 h1 h2 1 om om, inn_s hl h0 h1 h2 2 om om, inn_s hl h0 h1 h2 3 om om]
    rfl
  · rw [Zfx hm om (by simp) (by rw [ex]; simp only [Zei]; omega), ex]
    have Q : ∀ k : Int, 0 ≤ k → k < 4 → tr (l ++ [Zei l n]) (Zdy l n k) = (tr l ((ix l (n - 1)).kid k)).q (3 - k) := fun k k0 k1 => by
      rw [← inn_q hl h0 h1 hv h2 k k0 k1]
      rcases inn_in hl h0 h1 hv k k0 k1 with h | ⟨h2, h3, h4⟩ | ⟨h2, h3, h4, h5⟩
      · rw [h]; rfl
      · omega
      · exact Zg1 hl hm P _ om h4
    simp only [inn, if_neg h2]
    show Tr.nd ((ix l (n - 1)).lv - 1) (tr (l ++ [Zei l n]) (Zdy l n 0)) (tr (l ++ [Zei l n]) (Zdy l n 1)) (tr (l ++ [Zei l n]) (Zdy l n 2)) (tr (l ++ [Zei l n]) (Zdy l n 3)) = _
    rw [Q 0 om om, Q 1 om om, Q 2 om om, Q 3 om om]
    rfl
def Zcj (o : List Nd) (x : Nd) : List Nd × Int :=
  if x.k0 = 0 ∧ x.k1 = 0 ∧ x.k2 = 0 ∧ x.k3 = 0 then (o, 0) else if x ∈ o then (o, (o.idxOf x : Int) + 1) else (o ++ [x], (o.length : Int) + 1)
def vis : Tr → List Nd → List Nd × Int
  | .no, o => (o, 0)
  | .leaf a b c d, o => Zcj o ⟨1, a, b, c, d⟩
  | .nd v a b c d, o => Zcj (vis d (vis c (vis b (vis a o).1).1).1).1 ⟨v, (vis a o).2, (vis b (vis a o).1).2, (vis c (vis b (vis a o).1).1).2, (vis d (vis c (vis b (vis a o).1).1).1).2⟩
theorem Zfk (o : List Nd) (x : Nd) : o <+: (Zcj o x).1 := by
  unfold Zcj
  split
  · exact List.prefix_refl _
  · split
    · exact List.prefix_refl _
    · exact List.prefix_append _ _
theorem Zbn : ∀ (t : Tr) (o : List Nd), o <+: (vis t o).1
  | .no, o => List.prefix_refl _
  | .leaf a b c d, o => Zfk _ _
  | .nd v a b c d, o => ((Zbn a o).trans ((Zbn b _).trans ((Zbn c _).trans (Zbn d _)))).trans (Zfk _ _)
theorem intr_stay {o p : List Nd} {x : Nd} (h : (Zcj o x).1 <+: p) : Zcj p x = (p, (Zcj o x).2) := by
  unfold Zcj at h ⊢
  by_cases hz : x.k0 = 0 ∧ x.k1 = 0 ∧ x.k2 = 0 ∧ x.k3 = 0
  · rw [if_pos hz, if_pos hz]
  · rw [if_neg hz] at h ⊢
    by_cases hm : x ∈ o
    · rw [if_pos hm] at h
      obtain ⟨z, rfl⟩ := h
      rw [if_neg hz, if_pos (List.mem_append_left _ hm), if_pos hm, List.idxOf_append, if_pos hm]
    · rw [if_neg hm] at h
      rw [if_neg hz]
      obtain ⟨z, rfl⟩ := h
      rw [if_pos (by simp), if_neg hm, List.append_assoc, List.idxOf_append, if_neg hm]
      simp
theorem Zdo : ∀ (t : Tr) {o p : List Nd}, (vis t o).1 <+: p → vis t p = (p, (vis t o).2)
  | .no, o, p, _ => rfl
  | .leaf a b c d, o, p, h => intr_stay h
  | .nd v a b c d, o, p, h => by
    simp only [vis] at h ⊢
    have h4 := (Zfk _ _).trans h
    have h3 := (Zbn d _).trans h4
    have h2 := (Zbn c _).trans h3
    have h1 := (Zbn b _).trans h2
    rw [Zdo a h1, Zdo b h2, Zdo c h3, Zdo d h4]
    exact intr_stay h
theorem Zds : ∀ (t : Tr) (o : List Nd), emp t = true → vis t o = (o, 0)
  | .no, o, _ => rfl
  | .leaf a b c d, o, h => by
    simp [emp] at h
    simp [vis, Zcj, h]
  | .nd v a b c d, o, h => by
    simp only [emp, Bool.and_eq_true] at h
    simp only [vis, Zds a _ h.1.1.1, Zds b _ h.1.1.2, Zds c _ h.1.2, Zds d _ h.2]
    simp [Zcj]
theorem Zd1 (o : List Nd) (x : Nd) : (Zcj o x).2 = 0 ∧ (x.k0 = 0 ∧ x.k1 = 0 ∧ x.k2 = 0 ∧ x.k3 = 0) ∧ (Zcj o x).1 = o ∨
    1 ≤ (Zcj o x).2 ∧ (Zcj o x).2 ≤ o.length ∧ ¬ (x.k0 = 0 ∧ x.k1 = 0 ∧ x.k2 = 0 ∧ x.k3 = 0) ∧ x ∈ o ∧ (Zcj o x).1 = o ∧ ix o ((Zcj o x).2 - 1) = x ∨
    (Zcj o x).2 = (o.length : Int) + 1 ∧ ¬ (x.k0 = 0 ∧ x.k1 = 0 ∧ x.k2 = 0 ∧ x.k3 = 0) ∧ ¬ x ∈ o ∧ (Zcj o x).1 = o ++ [x] := by
  unfold Zcj
  split
  · rename_i h; exact .inl ⟨rfl, h, rfl⟩
  · rename_i h
    split
    · rename_i hm
      have := List.idxOf_lt_length_iff.2 hm
      refine .inr (.inl ⟨by omega, by omega, h, hm, rfl, ?_⟩)
      show ix o ((o.idxOf x : Int) + 1 - 1) = x
      rw [show (o.idxOf x : Int) + 1 - 1 = (o.idxOf x : Nat) by omega]
      unfold ix
      rw [Int.toNat_natCast, List.getD_eq_getElem?_getD, List.getElem?_eq_getElem this]
      simp
    · rename_i hm; exact .inr (.inr ⟨rfl, h, hm, rfl⟩)
theorem Zik (o : List Nd) (x : Nd) (h : (Zcj o x).2 ≠ 0) : 1 ≤ (Zcj o x).2 ∧ (Zcj o x).2 ≤ (Zcj o x).1.length ∧ ix (Zcj o x).1 ((Zcj o x).2 - 1) = x := by
  rcases Zd1 o x with ⟨a, _⟩ | ⟨a, b, _, _, e, f⟩ | ⟨a, b, c, d⟩
  · exact absurd a h
  · rw [e]; exact ⟨a, b, f⟩
  · rw [d, a]
    refine ⟨by omega, by simp, ?_⟩
    rw [show (o.length : Int) + 1 - 1 = o.length by omega]; unfold ix; simp
theorem Zb2 : ∀ (t : Tr) (o : List Nd), 0 ≤ (vis t o).2 ∧ (vis t o).2 ≤ (vis t o).1.length ∧ ((vis t o).2 = 0 ↔ emp t = true)
  | .no, o => by simp [vis, emp]
  | .leaf a b c d, o => by
    simp only [vis]
    by_cases h : (Zcj o ⟨1, a, b, c, d⟩).2 = 0
    · rcases Zd1 o ⟨1, a, b, c, d⟩ with ⟨q, r, s⟩ | ⟨q, _⟩ | ⟨q, _⟩
      · simp only at r; rw [q, s]; simp [emp, r]
      · omega
      · omega
    · have := Zik _ _ h
      refine ⟨by omega, this.2.1, fun e => absurd e h, fun e => absurd (congrArg Prod.snd (Zds (.leaf a b c d) o e)) h⟩
  | .nd v a b c d, o => by
    have ha := Zb2 a o
    have hb := Zb2 b (vis a o).1
    have hc := Zb2 c (vis b (vis a o).1).1
    have hd := Zb2 d (vis c (vis b (vis a o).1).1).1
    refine ⟨?_, ?_, fun e => ?_, fun e => congrArg Prod.snd (Zds (.nd v a b c d) o e)⟩
    · simp only [vis]
      rcases Zd1 (vis d (vis c (vis b (vis a o).1).1).1).1 ⟨v, (vis a o).2, (vis b (vis a o).1).2, (vis c (vis b (vis a o).1).1).2, (vis d (vis c (vis b (vis a o).1).1).1).2⟩ with ⟨q, _⟩ | ⟨q, _⟩ | ⟨q, _⟩ <;> omega
    · simp only [vis]
      rcases Zd1 (vis d (vis c (vis b (vis a o).1).1).1).1 ⟨v, (vis a o).2, (vis b (vis a o).1).2, (vis c (vis b (vis a o).1).1).2, (vis d (vis c (vis b (vis a o).1).1).1).2⟩ with ⟨q, _⟩ | ⟨q, q2, _, _, q3, _⟩ | ⟨q, _, _, q3⟩
      · omega
      · rw [q3]; omega
      · rw [q3]; simp; omega
    · simp only [vis] at e
      rcases Zd1 (vis d (vis c (vis b (vis a o).1).1).1).1 ⟨v, (vis a o).2, (vis b (vis a o).1).2, (vis c (vis b (vis a o).1).1).2, (vis d (vis c (vis b (vis a o).1).1).1).2⟩ with ⟨q, ⟨r0, r1, r2, r3⟩, _⟩ | ⟨q, _⟩ | ⟨q, _⟩
      · simp only at r0 r1 r2 r3
        simp [emp, ha.2.2.1 r0, hb.2.2.1 r1, hc.2.2.1 r2, hd.2.2.1 r3]
      · omega
      · omega
end Go.Gw
namespace Go.Gw
structure CanL (o : List Nd) : Prop where
  nd : o.Nodup
  ok : Zaf o = true
  sm : ∀ i : Int, 0 ≤ i → i < o.length → ¬ ((ix o i).k0 = 0 ∧ (ix o i).k1 = 0 ∧ (ix o i).k2 = 0 ∧ (ix o i).k3 = 0)
theorem Zg5 : CanL [] := ⟨by simp, by rw [Zcz]; intro i h0 h1; simp at h1; omega, fun i h0 h1 => by simp at h1; omega⟩
def wf : Int → Tr → Prop
  | _, .no => True
  | v, .leaf a b c d => v = 1 ∧ (0 ≤ a ∧ a ≤ 255) ∧ (0 ≤ b ∧ b ≤ 255) ∧ (0 ≤ c ∧ c ≤ 255) ∧ (0 ≤ d ∧ d ≤ 255)
  | v, .nd u a b c d => u = v ∧ 2 ≤ v ∧ v ≤ 1329 ∧ wf (v - 1) a ∧ wf (v - 1) b ∧ wf (v - 1) c ∧ wf (v - 1) d
theorem Zi2 {l : List Nd} (hl : Zaf l = true) : ∀ n : Int, 0 ≤ n → n ≤ l.length → ∀ v : Int, (n ≠ 0 → v = (ix l (n - 1)).lv) → wf v (tr l n) := by
  refine Zju hl _ (fun v _ => trivial) (fun n h0 h1 hv v e => ?_) (fun n h0 h1 hv p0 p1 p2 p3 v e => ?_)
  · rw [Zel hl h0 h1 hv]
    have q := fun k k0 k1 => Zhh hl (i := n - 1) (k := k) om om k0 k1 hv
    exact ⟨by rw [e om, hv], q 0 om om, q 1 om om, q 2 om om, q 3 om om⟩
  · rw [Zfx hl h0 h1 hv]
    have b := Ze9 hl (i := n - 1) om om
    have q := fun k k0 k1 => Zdm hl (i := n - 1) (k := k) om om k0 k1 hv
    have ev := e om
    have r : ∀ k : Int, 0 ≤ k → k < 4 → (ix l (n - 1)).kid k ≠ 0 → v - 1 = (ix l ((ix l (n - 1)).kid k - 1)).lv := fun k k0 k1 hk => by have := q k k0 k1 hk; omega
    exact ⟨ev.symm, by omega, by omega, p0 _ (r 0 om om), p1 _ (r 1 om om), p2 _ (r 2 om om), p3 _ (r 3 om om)⟩
theorem intr_can {o : List Nd} {x : Nd} (h : CanL o) (hv : 1 ≤ x.lv ∧ x.lv ≤ 1329) (hk : ∀ k : Int, 0 ≤ k → k < 4 → x.kid k = 0 ∨ (x.lv = 1 ∧ 0 < x.kid k ∧ x.kid k ≤ 255) ∨ (x.lv ≠ 1 ∧ 0 < x.kid k ∧ x.kid k ≤ o.length ∧ (ix o (x.kid k - 1)).lv = x.lv - 1)) :
    CanL (Zcj o x).1 := by
  rcases Zd1 o x with ⟨_, _, e⟩ | ⟨_, _, _, _, e, _⟩ | ⟨_, hz, hm, e⟩
  · rw [e]; exact h
  · rw [e]; exact h
  · rw [e]
    refine ⟨List.nodup_append.2 ⟨h.nd, by simp, fun a ha b hb => by simp at hb; subst hb; intro e; subst e; exact hm ha⟩, Zil h.ok hv hk, fun i h0 h1 => ?_⟩
    by_cases hi : i < o.length
    · rw [Zfh o [x] i h0 hi]; exact h.sm i h0 hi
    · have e2 : i = (o.length : Int) := by simp at h1; omega
      have ex : ix (o ++ [x]) i = x := by rw [e2]; unfold ix; simp
      rw [ex]; exact hz
theorem num_in {o p : List Nd} {m v : Int} (hm : 0 ≤ m ∧ m ≤ o.length) (hv : m ≠ 0 → (ix o (m - 1)).lv = v) (h : o <+: p) : m = 0 ∨ (0 < m ∧ m ≤ p.length ∧ (ix p (m - 1)).lv = v) := by
  by_cases e : m = 0
  · exact .inl e
  · have := h.length_le
    exact .inr ⟨by omega, by omega, by rw [Zdc h _ om om]; exact hv e⟩
theorem Zc2 : ∀ (t : Tr) {v : Int} {o : List Nd}, wf v t → CanL o → CanL (vis t o).1 ∧ ((vis t o).2 ≠ 0 → (ix (vis t o).1 ((vis t o).2 - 1)).lv = v)
  | .no, v, o, _, h => ⟨h, fun e => absurd rfl e⟩
  | .leaf a b c d, v, o, ⟨hv, ha, hb, hc, hd⟩, h => by
    simp only [vis]
    refine ⟨intr_can h ⟨by simp, by simp⟩ fun k k0 k1 => ?_, fun e => by rw [(Zik _ _ e).2.2]; exact hv.symm⟩
    have : k = 0 ∨ k = 1 ∨ k = 2 ∨ k = 3 := by omega
    rcases this with rfl | rfl | rfl | rfl <;> simp [Nd.kid, Zae] <;> omega
  | .nd u a b c d, v, o, ⟨hu, h2, h3, wa, wb, wc, wd⟩, h => by
    subst hu
    have A := Zc2 a wa h
    have B := Zc2 b wb A.1
    have C := Zc2 c wc B.1
    have D := Zc2 d wd C.1
    have za := Zb2 a o
    have zb := Zb2 b (vis a o).1
    have zc := Zb2 c (vis b (vis a o).1).1
    have zd := Zb2 d (vis c (vis b (vis a o).1).1).1
    have pd := Zbn d (vis c (vis b (vis a o).1).1).1
    have pc := (Zbn c (vis b (vis a o).1).1).trans pd
    have pb := (Zbn b (vis a o).1).trans pc
    have ia := num_in ⟨za.1, za.2.1⟩ A.2 pb
    have ib := num_in ⟨zb.1, zb.2.1⟩ B.2 pc
    have ic := num_in ⟨zc.1, zc.2.1⟩ C.2 pd
    have id := num_in ⟨zd.1, zd.2.1⟩ D.2 (List.prefix_refl _)
    simp only [vis]
    refine ⟨intr_can D.1 ⟨by simp only; omega, by simp only; omega⟩ fun k k0 k1 => ?_, fun e => by rw [(Zik _ _ e).2.2]⟩
    have hu : u ≠ 1 := by omega
    have : k = 0 ∨ k = 1 ∨ k = 2 ∨ k = 3 := by omega
    rcases this with rfl | rfl | rfl | rfl
    · rcases ia with e | ⟨e1, e2, e3⟩
      · exact .inl e
      · exact .inr (.inr ⟨hu, e1, e2, e3⟩)
    · rcases ib with e | ⟨e1, e2, e3⟩
      · exact .inl e
      · exact .inr (.inr ⟨hu, e1, e2, e3⟩)
    · rcases ic with e | ⟨e1, e2, e3⟩
      · exact .inl e
      · exact .inr (.inr ⟨hu, e1, e2, e3⟩)
    · rcases id with e | ⟨e1, e2, e3⟩
      · exact .inl e
      · exact .inr (.inr ⟨hu, e1, e2, e3⟩)
def Lows (o p : List Nd) (v : Int) : Prop := ∀ i : Int, o.length ≤ i → i < p.length → (ix p i).lv ≤ v
theorem Ze1 {o p q : List Nd} {v : Int} (h : Lows o p v) (k : Lows p q v) (hq : p <+: q) : Lows o q v := fun i h0 h1 => by
  by_cases e : i < p.length
  · rw [Zdc hq i om e]; exact h i h0 e
  · exact k i om h1
theorem lows_mono {o p : List Nd} {v u : Int} (h : Lows o p v) (k : v ≤ u) : Lows o p u := fun i h0 h1 => Int.le_trans (h i h0 h1) k
theorem lows_intr (o : List Nd) (x : Nd) : Lows o (Zcj o x).1 x.lv := by
  intro i h0 h1
  rcases Zd1 o x with ⟨_, _, e⟩ | ⟨_, _, _, _, e, _⟩ | ⟨_, hz, hm, e⟩
  · rw [e] at h1; omega
  · rw [e] at h1; omega
  · rw [e] at h1 ⊢
    have e2 : i = (o.length : Int) := by simp at h1; omega
    have ex : ix (o ++ [x]) i = x := by rw [e2]; unfold ix; simp
    rw [ex]; exact Int.le_refl _
theorem Zf4 : ∀ (t : Tr) {v : Int} (o : List Nd), wf v t → Lows o (vis t o).1 v
  | .no, v, o, _ => fun i h0 h1 => by simp only [vis] at h1; omega
  | .leaf a b c d, v, o, ⟨hv, _⟩ => by subst hv; exact lows_intr _ _
  | .nd u a b c d, v, o, ⟨hu, h2, h3, wa, wb, wc, wd⟩ => by
    subst hu
    have A := Zf4 a o wa
    have B := Zf4 b (vis a o).1 wb
    have C := Zf4 c (vis b (vis a o).1).1 wc
    have D := Zf4 d (vis c (vis b (vis a o).1).1).1 wd
    simp only [vis]
    exact Ze1 (lows_mono (Ze1 (Ze1 (Ze1 A B (Zbn b _)) C (Zbn c _)) D (Zbn d _)) om) (lows_intr _ _) (Zfk _ _)
theorem kids_lows {u : Int} {a b c d : Tr} (o : List Nd) (wa : wf (u - 1) a) (wb : wf (u - 1) b) (wc : wf (u - 1) c) (wd : wf (u - 1) d) : Lows o (vis d (vis c (vis b (vis a o).1).1).1).1 (u - 1) :=
  Ze1 (Ze1 (Ze1 (Zf4 a o wa) (Zf4 b (vis a o).1 wb) (Zbn b _)) (Zf4 c (vis b (vis a o).1).1 wc) (Zbn c _)) (Zf4 d (vis c (vis b (vis a o).1).1).1 wd) (Zbn d _)
theorem Zif : ∀ (t : Tr) {v : Int} {o : List Nd}, wf v t → CanL o → (vis t o).2 ≤ o.length → (vis t o).1 = o
  | .no, v, o, _, _, _ => rfl
  | .leaf a b c d, v, o, _, _, h => by
    simp only [vis] at h ⊢
    rcases Zd1 o ⟨1, a, b, c, d⟩ with ⟨_, _, e⟩ | ⟨_, _, _, _, e, _⟩ | ⟨e, _⟩
    · exact e
    · exact e
    · omega
  | .nd u a b c d, v, o, ⟨hu, h2, h3, wa, wb, wc, wd⟩, hc, h => by
    subst hu
    simp only [vis] at h ⊢
    have po : o <+: (vis d (vis c (vis b (vis a o).1).1).1).1 := (Zbn a o).trans ((Zbn b _).trans ((Zbn c _).trans (Zbn d _)))
    have hle := po.length_le
    have key : (vis a o).2 ≤ o.length → (vis b (vis a o).1).2 ≤ o.length → (vis c (vis b (vis a o).1).1).2 ≤ o.length → (vis d (vis c (vis b (vis a o).1).1).1).2 ≤ o.length →
        (vis d (vis c (vis b (vis a o).1).1).1).1 = o := by
      intro q0 q1 q2 q3
      have A := Zif a wa hc q0
      rw [A] at q1 q2 q3 ⊢
      have B := Zif b wb hc q1
      rw [B] at q2 q3 ⊢
      have C := Zif c wc hc q2
      rw [C] at q3 ⊢
      exact Zif d wd hc q3
    rcases Zd1 (vis d (vis c (vis b (vis a o).1).1).1).1 ⟨u, (vis a o).2, (vis b (vis a o).1).2, (vis c (vis b (vis a o).1).1).2, (vis d (vis c (vis b (vis a o).1).1).1).2⟩ with ⟨_, ⟨e0, e1, e2, e3⟩, e⟩ | ⟨e0, e1, _, _, e, ex⟩ | ⟨e, _⟩
    · simp only at e0 e1 e2 e3
      rw [e]; exact key om om om om
    · rw [e]
      rw [Zdc po _ om om] at ex
      obtain ⟨r0, r1, r2, r3⟩ := Zht hc.ok (i := (Zcj (vis d (vis c (vis b (vis a o).1).1).1).1 ⟨u, (vis a o).2, (vis b (vis a o).1).2, (vis c (vis b (vis a o).1).1).2, (vis d (vis c (vis b (vis a o).1).1).1).2⟩).2 - 1) om om (by rw [ex]; simp only; omega)
      rw [ex] at r0 r1 r2 r3
      simp only at r0 r1 r2 r3
      exact key om om om om
    · omega
theorem vis_new : ∀ (t : Tr) {v : Int} {o : List Nd}, wf v t → o.length < (vis t o).2 → (vis t o).2 = (vis t o).1.length
  | .no, v, o, _, h => by simp only [vis] at h; omega
  | .leaf a b c d, v, o, _, h => by
    simp only [vis] at h ⊢
    rcases Zd1 o ⟨1, a, b, c, d⟩ with ⟨e, _⟩ | ⟨_, e, _⟩ | ⟨e, _, _, e2⟩
    · omega
    · omega
    · rw [e, e2]; simp
  | .nd u a b c d, v, o, ⟨hu, h2, h3, wa, wb, wc, wd⟩, h => by
    subst hu
    simp only [vis] at h ⊢
    have L := kids_lows o wa wb wc wd
    rcases Zd1 (vis d (vis c (vis b (vis a o).1).1).1).1 ⟨u, (vis a o).2, (vis b (vis a o).1).2, (vis c (vis b (vis a o).1).1).2, (vis d (vis c (vis b (vis a o).1).1).1).2⟩ with ⟨e, _⟩ | ⟨e0, e1, _, _, e, ex⟩ | ⟨e, _, _, e2⟩
    · omega
    · have := L _ (show (o.length : Int) ≤ (Zcj (vis d (vis c (vis b (vis a o).1).1).1).1 ⟨u, (vis a o).2, (vis b (vis a o).1).2, (vis c (vis b (vis a o).1).1).2, (vis d (vis c (vis b (vis a o).1).1).1).2⟩).2 - 1 by omega) om
      rw [ex] at this
      simp only at this
      omega
    · rw [e, e2]; simp
def nums (k : Nat) : List Int := (List.range k).map fun (i : Nat) => ((i : Int) + 1)
theorem Zkh {k : Nat} {m : Int} : m ∈ nums k ↔ 1 ≤ m ∧ m ≤ k := by
  unfold nums
  rw [List.mem_map]
  constructor
  · rintro ⟨i, hi, rfl⟩; rw [List.mem_range] at hi; omega
  · rintro ⟨h0, h1⟩; exact ⟨(m - 1).toNat, by rw [List.mem_range]; omega, by omega⟩
theorem nums_succ (k : Nat) : nums (k + 1) = nums k ++ [(k : Int) + 1] := by unfold nums; rw [List.range_succ]; simp
theorem Zk8 {p o : List Nd} {g : Nat} {x : Nd} {E : List Int} {t : Tr} {k v : Int} (k0 : 0 ≤ k) (k1 : k < 4) (hx : 1 < x.lv) (hw : wf v t) (hc : CanL o) (he : endV p g x E k = nums o.length) (hk : x.kid k = (vis t o).2)
    (ih : (vis t o).2 ≠ 0 → Zhk p g (vis t o).2 (nums o.length) = nums (vis t o).1.length) : endV p g x E (k + 1) = nums (vis t o).1.length := by
  have z := Zb2 t o
  by_cases hz : (vis t o).2 = 0
  · rw [endV_no k0 k1 (fun _ => by omega), he, Zif t hw hc om]
  · rw [endV_yes k0 k1 hx om, he, hk]; exact ih hz
theorem Zla {p : List Nd} (hp : CanL p) : ∀ (t : Tr) {v : Int} {o : List Nd} (f : Nat), wf v t → CanL o → (vis t o).1 <+: p → (vis t o).2 ≠ 0 → (vis t o).2 ≤ f → Zhk p f (vis t o).2 (nums o.length) = nums (vis t o).1.length
  | .no, v, o, f, _, _, _, h, _ => absurd rfl h
  | .leaf a b c d, v, o, f, hw, hc, hpre, hm, hf => by
    have z := Zb2 (.leaf a b c d) o
    obtain ⟨g, rfl⟩ : ∃ g, f = g + 1 := ⟨f - 1, by omega⟩
    by_cases ho : (vis (.leaf a b c d) o).2 ≤ o.length
    · rw [endF_in (Zkh.2 ⟨by omega, ho⟩), Zif _ hw hc ho]
    · have hn := vis_new _ hw (show (o.length : Int) < (vis (.leaf a b c d) o).2 by omega)
      have ex : ix p ((vis (.leaf a b c d) o).2 - 1) = ⟨1, a, b, c, d⟩ := by
        rw [Zdc hpre _ om om]; exact (Zik o ⟨1, a, b, c, d⟩ hm).2.2
      rw [endF_low (fun h => ho (Zkh.1 h).2) (by rw [ex]; simp)]
      have e : (vis (.leaf a b c d) o).2 = (o.length : Int) + 1 := by
        simp only [vis] at ho ⊢
        rcases Zd1 o ⟨1, a, b, c, d⟩ with ⟨e, _⟩ | ⟨_, e, _⟩ | ⟨e, _⟩
        · omega
        · omega
        · exact e
      have e2 : (vis (.leaf a b c d) o).1.length = o.length + 1 := by omega
      rw [e2, nums_succ, e]
  | .nd u a b c d, v, o, f, hw, hc, hpre, hm, hf => by
    have z := Zb2 (.nd u a b c d) o
    obtain ⟨g, rfl⟩ : ∃ g, f = g + 1 := ⟨f - 1, by omega⟩
    by_cases ho : (vis (.nd u a b c d) o).2 ≤ o.length
    · rw [endF_in (Zkh.2 ⟨by omega, ho⟩), Zif _ hw hc ho]
    · have hn := vis_new _ hw (show (o.length : Int) < (vis (.nd u a b c d) o).2 by omega)
      obtain ⟨hu, h2, h3, wa, wb, wc, wd⟩ := hw
      subst hu
      have A := Zc2 a wa hc
      have B := Zc2 b wb A.1
      have C := Zc2 c wc B.1
      have D := Zc2 d wd C.1
      have hpre4 := (Zfk (vis d (vis c (vis b (vis a o).1).1).1).1 ⟨u, (vis a o).2, (vis b (vis a o).1).2, (vis c (vis b (vis a o).1).1).2, (vis d (vis c (vis b (vis a o).1).1).1).2⟩).trans hpre
      have hpre3 := (Zbn d _).trans hpre4
      have hpre2 := (Zbn c _).trans hpre3
      have hpre1 := (Zbn b _).trans hpre2
      have ex : ix p ((vis (.nd u a b c d) o).2 - 1) = ⟨u, (vis a o).2, (vis b (vis a o).1).2, (vis c (vis b (vis a o).1).1).2, (vis d (vis c (vis b (vis a o).1).1).1).2⟩ := by
        rw [Zdc hpre _ om om]; exact (Zik _ _ hm).2.2
      have e : (vis (.nd u a b c d) o).2 = ((vis d (vis c (vis b (vis a o).1).1).1).1.length : Int) + 1 := by
        have L := kids_lows o wa wb wc wd
        simp only [vis] at ho hm ⊢
        rcases Zd1 (vis d (vis c (vis b (vis a o).1).1).1).1 ⟨u, (vis a o).2, (vis b (vis a o).1).2, (vis c (vis b (vis a o).1).1).2, (vis d (vis c (vis b (vis a o).1).1).1).2⟩ with ⟨e, _⟩ | ⟨e0, e1, _, _, e, ex⟩ | ⟨e, _, _, e2⟩
        · omega
        · have := L _ (show (o.length : Int) ≤ (Zcj (vis d (vis c (vis b (vis a o).1).1).1).1 ⟨u, (vis a o).2, (vis b (vis a o).1).2, (vis c (vis b (vis a o).1).1).2, (vis d (vis c (vis b (vis a o).1).1).1).2⟩).2 - 1 by omega) om
          rw [ex] at this
          simp only at this
          omega
        · exact e
      have za := Zb2 a o
      have zb := Zb2 b (vis a o).1
      have zc := Zb2 c (vis b (vis a o).1).1
      have zd := Zb2 d (vis c (vis b (vis a o).1).1).1
      have ld := (Zbn d (vis c (vis b (vis a o).1).1).1).length_le
      have lc := (Zbn c (vis b (vis a o).1).1).length_le
      have lb := (Zbn b (vis a o).1).length_le
      rw [endF_eq (fun h => ho (Zkh.1 h).2), ex]
      have hx : 1 < (⟨u, (vis a o).2, (vis b (vis a o).1).2, (vis c (vis b (vis a o).1).1).2, (vis d (vis c (vis b (vis a o).1).1).1).2⟩ : Nd).lv := by simp only; omega
      have s0 := Zk8 (p := p) (g := g) (E := nums o.length) (k := 0) om om hx wa hc (endV_zero _ _ _ _) rfl (fun q => Zla hp a g wa hc hpre1 q om)
      have s1 := Zk8 (k := 0 + 1) om om hx wb A.1 s0 rfl (fun q => Zla hp b g wb A.1 hpre2 q om)
      have s2 := Zk8 (k := 0 + 1 + 1) om om hx wc B.1 s1 rfl (fun q => Zla hp c g wc B.1 hpre3 q om)
      have s3 := Zk8 (k := 0 + 1 + 1 + 1) om om hx wd C.1 s2 rfl (fun q => Zla hp d g wd C.1 hpre4 q om)
      rw [show (0 : Int) + 1 + 1 + 1 + 1 = 4 from rfl] at s3
      have e2 : (vis (.nd u a b c d) o).1.length = (vis d (vis c (vis b (vis a o).1).1).1).1.length + 1 := by omega
      rw [s3, e2, nums_succ, e]
end Go.Gw
namespace Go.Gw
def pru : Tr → Tr
  | .no => .no
  | .leaf a b c d => if emp (.leaf a b c d) then .no else .leaf a b c d
  | .nd v a b c d => if emp (.nd v a b c d) then .no else .nd v (pru a) (pru b) (pru c) (pru d)
theorem Zib {t : Tr} (h : emp t = true) : pru t = .no := by
  cases t with
  | no => rfl
  | leaf a b c d => simp only [pru, h, if_true]
  | nd v a b c d => simp only [pru, h, if_true]
theorem Zg6 : ∀ t : Tr, emp (pru t) = emp t
  | .no => rfl
  | .leaf a b c d => by
    by_cases h : emp (.leaf a b c d) = true
    · rw [Zib h, h]; rfl
    · simp only [pru, if_neg h]
  | .nd v a b c d => by
    by_cases h : emp (.nd v a b c d) = true
    · rw [Zib h, h]; rfl
    · have e : pru (.nd v a b c d) = .nd v (pru a) (pru b) (pru c) (pru d) := by simp only [pru, if_neg h]
      rw [e]
      simp only [emp, Zg6 a, Zg6 b, Zg6 c, Zg6 d]
theorem qe_emp {t : Tr} (h : emp t = true) (j : Int) : qe t j = true := by
  cases t with
  | no => rfl
  | leaf a b c d => simp [emp] at h; simp [qe, Zae, h]
  | nd v a b c d =>
    simp only [emp, Bool.and_eq_true] at h
    simp only [qe]
    split
    · exact h.1.1.1
    · split
      · exact h.1.1.2
      · split
        · exact h.1.2
        · exact h.2
theorem qe_pru (t : Tr) (j : Int) : qe (pru t) j = qe t j := by
  by_cases h : emp t = true
  · rw [Zib h, qe_emp h]; rfl
  · cases t with
    | no => rfl
    | leaf a b c d => simp only [pru, if_neg h]
    | nd v a b c d =>
      simp only [pru, if_neg h, qe]
      split
      · exact Zg6 a
      · split
        · exact Zg6 b
        · split
          · exact Zg6 c
          · exact Zg6 d
theorem hol_pru {t : Tr} (h : emp t = false) : hol (pru t) = hol t := by
  cases t with
  | no => rfl
  | leaf a b c d => simp [pru, h]
  | nd v a b c d => simp only [pru, h, hol, qe_pru]; simp [hol, qe_pru]
theorem Zlt {p : List Nd} (hp : CanL p) : ∀ (t : Tr) {v : Int} {o : List Nd}, wf v t → (vis t o).1 <+: p → tr p (vis t o).2 = pru t
  | .no, v, o, _, _ => rfl
  | .leaf a b c d, v, o, hw, hpre => by
    have z := Zb2 (.leaf a b c d) o
    by_cases h : emp (.leaf a b c d) = true
    · rw [Zib h, Zds _ _ h]; rfl
    · have hm : (vis (.leaf a b c d) o).2 ≠ 0 := fun e => h (z.2.2.1 e)
      have hl := hpre.length_le
      have ex : ix p ((vis (.leaf a b c d) o).2 - 1) = ⟨1, a, b, c, d⟩ := by
        rw [Zdc hpre _ om om]; exact (Zik o ⟨1, a, b, c, d⟩ hm).2.2
      rw [Zel hp.ok om om (by rw [ex]), ex]
      simp only [pru, if_neg h]
  | .nd u a b c d, v, o, hw, hpre => by
    have z := Zb2 (.nd u a b c d) o
    by_cases h : emp (.nd u a b c d) = true
    · rw [Zib h, Zds _ _ h]; rfl
    · have hm : (vis (.nd u a b c d) o).2 ≠ 0 := fun e => h (z.2.2.1 e)
      have hl := hpre.length_le
      have ex : ix p ((vis (.nd u a b c d) o).2 - 1) = ⟨u, (vis a o).2, (vis b (vis a o).1).2, (vis c (vis b (vis a o).1).1).2, (vis d (vis c (vis b (vis a o).1).1).1).2⟩ := by
        rw [Zdc hpre _ om om]; exact (Zik _ _ hm).2.2
      obtain ⟨hu, h2, h3, wa, wb, wc, wd⟩ := hw
      have hpre4 := (Zfk (vis d (vis c (vis b (vis a o).1).1).1).1 ⟨u, (vis a o).2, (vis b (vis a o).1).2, (vis c (vis b (vis a o).1).1).2, (vis d (vis c (vis b (vis a o).1).1).1).2⟩).trans hpre
      have hpre3 := (Zbn d _).trans hpre4
      have hpre2 := (Zbn c _).trans hpre3
      have hpre1 := (Zbn b _).trans hpre2
      rw [Zfx hp.ok om om (by rw [ex]; simp only; omega), ex]
      simp only [pru, if_neg h]
      rw [Zlt hp a wa hpre1, Zlt hp b wb hpre2, Zlt hp c wc hpre3, Zlt hp d wd hpre4]
theorem vis_root {t : Tr} {v : Int} (hw : wf v t) (h : emp t = false) : (vis t []).2 = (vis t []).1.length ∧ 0 < (vis t []).1.length := by
  have z := Zb2 t []
  have hm : (vis t []).2 ≠ 0 := fun e => by rw [z.2.2.1 e] at h; cases h
  have := vis_new t hw (o := []) (by simp; omega)
  omega
theorem full_can {o : List Nd} (h : CanL o) : fullB o = true := by
  rw [Zkl]
  have k : ∀ (f : Nat) (i : Int), 0 ≤ i → i < o.length → i < f → ix (Zca o) (i + 1) = true := by
    intro f
    induction f with
    | zero => intro i a b c; omega
    | succ f ih =>
      intro i a b c
      rw [hasL_at h.ok i a b]
      have s := h.sm i a b
      unfold Zhx
      rw [List.any_eq_true]
      have q : ∀ k : Int, 0 ≤ k → k < 4 → (ix o i).kid k ≠ 0 → Zes (ix o i) (Zca o) ((ix o i).kid k) = true := by
        intro k k0 k1 hk
        refine Zhy hk ?_
        by_cases hv : (ix o i).lv = 1
        · exact .inl hv
        · have r := Zc1 h.ok a b hv k k0 k1
          have := ih ((ix o i).kid k - 1) om om om
          rw [show (ix o i).kid k - 1 + 1 = (ix o i).kid k by omega] at this
          exact .inr this
      by_cases e0 : (ix o i).k0 = 0
      · by_cases e1 : (ix o i).k1 = 0
        · by_cases e2 : (ix o i).k2 = 0
          · exact ⟨_, by simp only [kids, List.mem_cons]; exact .inr (.inr (.inr (.inl rfl))), q 3 om om (fun e3 => s ⟨e0, e1, e2, e3⟩)⟩
          · exact ⟨_, by simp only [kids, List.mem_cons]; exact .inr (.inr (.inl rfl)), q 2 om om e2⟩
        · exact ⟨_, by simp only [kids, List.mem_cons]; exact .inr (.inl rfl), q 1 om om e1⟩
      · exact ⟨_, by simp only [kids, List.mem_cons]; exact .inl rfl, q 0 om om e0⟩
  exact fun i a b => k (i.toNat + 1) i a b om
theorem right_can {t : Tr} {v : Int} (hw : wf v t) (hh : hol t = false) : Zfr (vis t []).1 = true := by
  by_cases he : emp t = true
  · rw [Zds t [] he]; rfl
  · have he : emp t = false := by simpa using he
    obtain ⟨r1, r2⟩ := vis_root hw he
    have C := (Zc2 t hw Zg5).1
    have T := Zlt C t (o := []) hw (List.prefix_refl _)
    rw [r1] at T
    have H : Zev (vis t []).1 (vis t []).1.length = false := by
      rw [hol_tr C.ok om om, T, hol_pru he, hh]
    have O : ordB (vis t []).1 = true := by
      unfold ordB endL
      rw [decide_eq_true_eq]
      have := Zla C t (o := []) (vis t []).1.length hw Zg5 (List.prefix_refl _) om om
      rw [r1] at this
      exact this
    unfold Zfr
    rw [C.ok, H, full_can C, decide_eq_true C.nd, O]
    simp
theorem rightB_loose {t : Tr} {v : Int} (hw : wf v t) : Zaf (vis t []).1 = true := (Zc2 t hw Zg5).1.ok
def canT (t : Tr) : List Nd := (vis t []).1
def Nd.shift (x : Nd) (s : Int) : Nd := if 1 < x.lv then ⟨x.lv, if 0 < x.k0 then x.k0 + s else x.k0, if 0 < x.k1 then x.k1 + s else x.k1, if 0 < x.k2 then x.k2 + s else x.k2, if 0 < x.k3 then x.k3 + s else x.k3⟩ else x
end Go.Gw
namespace Go.Gw
theorem shr_step {L : List Nd} {n : Int} (hL : Zaf L = true) (h0 : 1 ≤ n) (h1 : n ≤ L.length) (h : Zev L n = true) : shr (tr (L ++ [Zei L n]) ((L ++ [Zei L n]).length : Int)) = shr (tr L n) := by
  have hv := ((Zd9 L n).1 h).2.1
  have hh := h
  rw [hol_tr hL om h1] at hh
  rw [show (((L ++ [Zei L n]).length : Nat) : Int) = (L.length : Int) + 1 by simp, inn_tr hL h0 h1 hv]
  have b := Ze9 hL (i := n - 1) om om
  rw [Zfx hL h0 h1 hv] at hh ⊢
  exact (shr_yes om hh).symm
theorem shr_end {L : List Nd} {n : Int} {t : Tr} (hL : Zaf L = true) (h0 : 0 ≤ n) (h1 : n ≤ L.length) (h : Zev L n = false) (e : shr (tr L n) = shr t) (he : emp t = false) : tr L n = Zhl t ∧ hol (tr L n) = false := by
  rw [hol_tr hL h0 h1] at h
  refine ⟨?_, h⟩
  unfold Zhl
  rw [he, ← e, shr_no h]
  rfl
theorem shr_nil {l : List Nd} {n : Int} (hL : Zaf l = true) (h0 : 0 ≤ n) (h1 : n ≤ l.length) (h : ix (Zca l) n = false) : tr l 0 = Zhl (tr l n) ∧ hol (tr l 0) = false := by
  rw [has_tr hL n h0 h1] at h
  have h : emp (tr l n) = true := by simpa using h
  unfold Zhl
  rw [h]
  exact ⟨rfl, rfl⟩
theorem emp_has {l : List Nd} {n : Int} (hL : Zaf l = true) (h0 : 0 ≤ n) (h1 : n ≤ l.length) (h : ix (Zca l) n = true) : emp (tr l n) = false ∧ 1 ≤ n := by
  have := hasL_nz h
  rw [has_tr hL n h0 h1] at h
  exact ⟨by simpa using h, by omega⟩
theorem innX_eq {L : List Nd} {n a b c e : Int} (h : ∀ j : Int, 0 ≤ j → j < 4 → Zae a b c e j = Zdy L n j) : (⟨(ix L (n - 1)).lv - 1, a, b, c, e⟩ : Nd) = Zei L n := by
  have h0 := h 0 om om
  have h1 := h 1 om om
  have h2 := h 2 om om
  have h3 := h 3 om om
  simp [Zae] at h0 h1 h2 h3
  simp [Zei, h0, h1, h2, h3]
theorem sel4_step {a b c e v k : Int} {f : Int → Int} (k0 : 0 ≤ k) (k1 : k < 4) (h : ∀ j : Int, 0 ≤ j → j < k → Zae a b c e j = f j) (hv : v = f k) :
    ∀ j : Int, 0 ≤ j → j < k + 1 → Zae (if k = 0 then v else a) (if k = 1 then v else b) (if k = 2 then v else c) (if k = 3 then v else e) j = f j := by
  intro j j0 j1
  by_cases hj : j = k
  · subst hj
    have : j = 0 ∨ j = 1 ∨ j = 2 ∨ j = 3 := by omega
    rcases this with rfl | rfl | rfl | rfl <;> simp [Zae, hv]
  · rw [← h j j0 om]
    have : j = 0 ∨ j = 1 ∨ j = 2 ∨ j = 3 := by omega
    rcases this with rfl | rfl | rfl | rfl <;> simp only [Zae] <;> (simp; try omega)
end Go.Gw
namespace Go.Gw
def Zf2 (l : List Nd) (x : Nd) : Int := if x ∈ l then (l.idxOf x : Int) + 1 else 0
theorem find_no {l : List Nd} {x : Nd} (h : ∀ j : Int, 0 ≤ j → j < l.length → ix l j ≠ x) : Zf2 l x = 0 := by
  unfold Zf2
  rw [if_neg]
  intro hm
  obtain ⟨i, i0, i1, e⟩ := mem_ix hm
  exact h i i0 i1 e
theorem find_at {l : List Nd} {x : Nd} (i : Int) (h0 : 0 ≤ i) (h1 : i < l.length) (h : ∀ j : Int, 0 ≤ j → j < i → ix l j ≠ x) (e : ix l i = x) : Zf2 l x = i + 1 := by
  have hm : x ∈ l := by rw [← e]; exact ix_mem h0 h1
  unfold Zf2
  rw [if_pos hm]
  have a := List.idxOf_lt_length_iff.2 hm
  have b : ix l (l.idxOf x : Nat) = x := by
    unfold ix
    rw [Int.toNat_natCast, List.getD_eq_getElem?_getD, List.getElem?_eq_getElem a]
    simp
  have c : ¬ ((l.idxOf x : Nat) : Int) < i := fun q => h _ om q b
  have d : ¬ i < ((l.idxOf x : Nat) : Int) := fun q => by
    have hlt : i.toNat < l.idxOf x := by omega
    have hx : l[i.toNat]'om = x := by
      have := Zhg l i h0 h1
      rw [List.getElem?_eq_getElem om] at this
      injection this with this
      rw [this, e]
    have := List.not_of_lt_findIdx hlt
    rw [hx] at this
    simp at this
  omega
theorem find_ge (l : List Nd) (x : Nd) : 0 ≤ Zf2 l x := by unfold Zf2; split <;> omega
theorem Zjs {o : List Nd} {x : Nd} (h : (Zcj o x).2 ≠ 0) : (Zf2 o x = 0 → Zcj o x = (o ++ [x], (o.length : Int) + 1)) ∧ (Zf2 o x ≠ 0 → Zcj o x = (o, Zf2 o x)) := by
  have hz : ¬ (x.k0 = 0 ∧ x.k1 = 0 ∧ x.k2 = 0 ∧ x.k3 = 0) := fun e => h (by unfold Zcj; rw [if_pos e])
  unfold Zf2 Zcj
  rw [if_neg hz]
  by_cases hm : x ∈ o
  · rw [if_pos hm, if_pos hm]
    exact ⟨fun e => by omega, fun _ => rfl⟩
  · rw [if_neg hm, if_neg hm]
    exact ⟨fun _ => rfl, fun e => absurd rfl e⟩
def St4 (l : List Nd) (x : Nd) (o : List Nd) (k : Int) (ok : List Nd) (a b c e : Int) : Prop :=
  (a = if 0 < k then (vis (tr l x.k0) o).2 else x.k0) ∧ (b = if 1 < k then (vis (tr l x.k1) (vis (tr l x.k0) o).1).2 else x.k1) ∧
  (c = if 2 < k then (vis (tr l x.k2) (vis (tr l x.k1) (vis (tr l x.k0) o).1).1).2 else x.k2) ∧
  (e = if 3 < k then (vis (tr l x.k3) (vis (tr l x.k2) (vis (tr l x.k1) (vis (tr l x.k0) o).1).1).1).2 else x.k3) ∧
  ok = if k ≤ 0 then o else if k = 1 then (vis (tr l x.k0) o).1 else if k = 2 then (vis (tr l x.k1) (vis (tr l x.k0) o).1).1 else if k = 3 then (vis (tr l x.k2) (vis (tr l x.k1) (vis (tr l x.k0) o).1).1).1 else (vis (tr l x.k3) (vis (tr l x.k2) (vis (tr l x.k1) (vis (tr l x.k0) o).1).1).1).1
theorem st4_zero (l : List Nd) (x : Nd) (o : List Nd) : St4 l x o 0 o x.k0 x.k1 x.k2 x.k3 := by simp [St4]
theorem st4_kid {l : List Nd} {x : Nd} {o ok : List Nd} {k a b c e : Int} (h : St4 l x o k ok a b c e) (h0 : 0 ≤ k) (h1 : k < 4) : Zae a b c e k = x.kid k := by
  obtain ⟨rfl, rfl, rfl, rfl, _⟩ := h
  have : k = 0 ∨ k = 1 ∨ k = 2 ∨ k = 3 := by omega
  rcases this with rfl | rfl | rfl | rfl <;> simp [Zae, Nd.kid]
theorem st4_step {l : List Nd} {x : Nd} {o ok : List Nd} {k a b c e v : Int} (h : St4 l x o k ok a b c e) (h0 : 0 ≤ k) (h1 : k < 4) (hv : v = (vis (tr l (x.kid k)) ok).2) :
    St4 l x o (k + 1) (vis (tr l (x.kid k)) ok).1 (if k = 0 then v else a) (if k = 1 then v else b) (if k = 2 then v else c) (if k = 3 then v else e) := by
  subst hv
  obtain ⟨rfl, rfl, rfl, rfl, rfl⟩ := h
  have : k = 0 ∨ k = 1 ∨ k = 2 ∨ k = 3 := by omega
  rcases this with rfl | rfl | rfl | rfl <;> simp [St4, Zae, Nd.kid]
theorem Zjd {l : List Nd} {n : Int} {o ok : List Nd} {k a b c e : Int} (hl : Zaf l = true) (h0 : 1 ≤ n) (h1 : n ≤ l.length) (h : St4 l (ix l (n - 1)) o k ok a b c e) (hk : k = 4 ∧ 1 < (ix l (n - 1)).lv ∨ k = 0 ∧ ¬ 1 < (ix l (n - 1)).lv) :
    vis (tr l n) o = Zcj ok ⟨(ix l (n - 1)).lv, a, b, c, e⟩ := by
  have hv := Ze9 hl (i := n - 1) om om
  obtain ⟨rfl, rfl, rfl, rfl, rfl⟩ := h
  rcases hk with ⟨rfl, hk⟩ | ⟨rfl, hk⟩
  · rw [Zfx hl h0 h1 om]
    simp [vis]
  · have e1 : (ix l (n - 1)).lv = 1 := by omega
    rw [Zel hl h0 h1 e1]
    simp [vis, e1]
def DInv (l : List Nd) (dn : List Int) (o : List Nd) : Prop := ∀ i : Int, 0 ≤ i → i ≤ l.length → 0 < ix dn i → vis (tr l i) o = (o, ix dn i)
theorem Zjh {l : List Nd} {dn : List Int} {o p : List Nd} (h : DInv l dn o) (hp : o <+: p) : DInv l dn p := fun i a b c => by
  have := h i a b c
  rw [Zdo (tr l i) (o := o) (p := p) (by rw [this]; exact hp), this]
theorem Zk7 {l : List Nd} {dn : List Int} {o : List Nd} {n m : Int} (h : DInv l dn o) (h0 : 0 ≤ n) (h1 : n < dn.length) (hm : vis (tr l n) o = (o, m)) : DInv l (dn.set n.toNat m) o := fun i a b c => by
  rw [ix_set _ _ _ _ h0 h1 a] at c ⊢
  by_cases e : i = n
  · rw [if_pos e, e]; exact hm
  · rw [if_neg e] at c ⊢; exact h i a b c
def cntP (dn : List Int) : Nat := dn.countP fun x => decide (0 < x)
theorem Ziy : ∀ (dn : List Int) (i : Nat) (v : Int), i < dn.length → ¬ 0 < dn.getD i default → 0 < v → cntP (dn.set i v) = cntP dn + 1
  | [], i, v, h, _, _ => by simp at h
  | x :: r, 0, v, _, h1, h2 => by
    have h1 : ¬ 0 < x := by simpa using h1
    simp [cntP, List.countP_cons, h1, h2]
  | x :: r, i + 1, v, h, h1, h2 => by
    have ih := Ziy r i v (by simpa using h) (by simpa using h1) h2
    simp only [cntP, List.set_cons_succ, List.countP_cons] at ih ⊢
    omega
theorem cntP_le (dn : List Int) : cntP dn ≤ dn.length := List.countP_le_length
theorem Zgx {t : Tr} (o : List Nd) : vis t (vis t o).1 = ((vis t o).1, (vis t o).2) := Zdo t (List.prefix_refl _)
end Go.Gw
namespace Go.Gw
open Go.RowKit
theorem below_of {n : Nat} {a b c : World} (h : Below n a b) (k : Below n a c) (hs : b.heap.size ≤ c.heap.size := by omega) : Below n b c := ⟨k.os.trans h.os.symm, k.tape.trans h.tape.symm, k.output.trans h.output.symm, hs, fun i hi => (k.block i hi).trans (h.block i hi).symm⟩
def ofL (l : List Nd) (n : Int) : List Nd × Int := if Zaf l = true ∧ 0 ≤ n ∧ n ≤ l.length then (canT (Zhl (tr l n)), 0) else ([], 1)
theorem Zi6 {l : List Nd} {n : Int} (h : Zaf l = true) (h0 : 0 ≤ n) (h1 : n ≤ l.length) : ofL l n = (canT (Zhl (tr l n)), 0) := by unfold ofL; rw [if_pos ⟨h, h0, h1⟩]
theorem Zgy {l : List Nd} {n : Int} (h : Zaf l = false ∨ n < 0 ∨ (l.length : Int) < n) : ofL l n = ([], 1) := by
  unfold ofL
  rw [if_neg]
  rintro ⟨a, b, c⟩
  rcases h with h | h | h
  · rw [h] at a; cases a
  · omega
  · omega
theorem dinv_none (l : List Nd) (k : Nat) : DInv l (List.replicate k 0) [] := fun i a b c => by
  exfalso
  unfold ix at c
  rw [List.getD_eq_getElem?_getD, List.getElem?_replicate] at c
  split at c
  · exact absurd c (by simp)
  · exact absurd c dc
end Go.Gw
namespace Go.Gw
def MInv (M : List (Nd × Int)) (o : List Nd) : Prop := ∀ x, Zd4 M x = if x ∈ o then some ((o.idxOf x : Int) + 1) else none
theorem minv_nil : MInv [] [] := fun x => by simp [Zd4, fnd]
theorem minv_push {M : List (Nd × Int)} {o : List Nd} {x : Nd} {v : Int} (h : MInv M o) (hx : ¬ x ∈ o) (hv : v = (o.length : Int) + 1) : MInv (mput M x v) (o ++ [x]) := fun y => by
  rw [Zgn]
  by_cases e : y = x
  · subst e
    rw [if_pos rfl, if_pos (by simp), List.idxOf_append, if_neg hx, hv]
    simp
  · rw [if_neg e, h y]
    by_cases hy : y ∈ o
    · rw [if_pos hy, if_pos (by simp [hy]), List.idxOf_append, if_pos hy]
    · rw [if_neg hy, if_neg (by simp [hy, e])]
theorem minv_yes {M : List (Nd × Int)} {o : List Nd} {x : Nd} (h : MInv M o) (hs : (Zd4 M x).isSome = true) (hz : ¬ (x.k0 = 0 ∧ x.k1 = 0 ∧ x.k2 = 0 ∧ x.k3 = 0)) : Zcj o x = (o, (Zd4 M x).getD 0) := by
  rw [h x] at hs ⊢
  by_cases hx : x ∈ o
  · rw [if_pos hx]; unfold Zcj; rw [if_neg hz, if_pos hx]; rfl
  · rw [if_neg hx] at hs; cases hs
theorem minv_no {M : List (Nd × Int)} {o : List Nd} {x : Nd} (h : MInv M o) (hs : (Zd4 M x).isSome = false) (hz : ¬ (x.k0 = 0 ∧ x.k1 = 0 ∧ x.k2 = 0 ∧ x.k3 = 0)) : Zcj o x = (o ++ [x], (o.length : Int) + 1) ∧ ¬ x ∈ o := by
  rw [h x] at hs
  by_cases hx : x ∈ o
  · rw [if_pos hx] at hs; cases hs
  · unfold Zcj; rw [if_neg hz, if_neg hx]; exact ⟨rfl, hx⟩
theorem intr_zero {o : List Nd} {x : Nd} (hz : x.k0 = 0 ∧ x.k1 = 0 ∧ x.k2 = 0 ∧ x.k3 = 0) : Zcj o x = (o, 0) := by unfold Zcj; rw [if_pos hz]
structure DOk (l : List Nd) (D : List (Int × Int)) (o : List Nd) : Prop where
  ok : ∀ i m : Int, Zd4 D i = some m → 0 ≤ i ∧ i ≤ l.length ∧ vis (tr l i) o = (o, m)
  zero : (Zd4 D 0).isSome = true
  nd : (D.map (·.1)).Nodup
  cnt : o.length ≤ D.length
theorem mget_mem {κ ν : Type} [DecidableEq κ] : ∀ (m : List (κ × ν)) (a : κ), a ∈ m.map (·.1) ↔ (Zd4 m a).isSome = true
  | [], a => by simp [Zd4, fnd]
  | (k, v) :: m, a => by
    rw [Zfs, List.map_cons, List.mem_cons, mget_mem m a]
    by_cases h : a = k
    · simp [h]
    · simp [h]
theorem mput_new {κ ν : Type} [DecidableEq κ] (a : κ) (v : ν) : ∀ m : List (κ × ν), Zd4 m a = none → mput m a v = m ++ [(a, v)]
  | [], _ => rfl
  | (k, u) :: m, h => by
    rw [Zfs] at h
    rw [mput_cons]
    by_cases e : a = k
    · rw [if_pos e] at h; cases h
    · rw [if_neg e] at h ⊢; rw [mput_new a v m h]; rfl
theorem DOk.len {l : List Nd} {D : List (Int × Int)} {o : List Nd} (h : DOk l D o) : D.length ≤ l.length + 1 := by
  have hn : ((D.map (·.1)).map (· + 1)).Nodup := by
    have hd := h.nd
    generalize D.map (·.1) = E at hd
    induction E with
    | nil => simp
    | cons x r ih =>
      rw [List.nodup_cons] at hd
      rw [List.map_cons, List.nodup_cons]
      refine ⟨fun hm => ?_, ih hd.2⟩
      rw [List.mem_map] at hm
      obtain ⟨y, hy, e⟩ := hm
      have : y = x := by omega
      exact hd.1 (this ▸ hy)
  have := pigeon (l.length + 1) _ hn (fun x hx => by
    rw [List.mem_map] at hx
    obtain ⟨y, hy, rfl⟩ := hx
    obtain ⟨m, hm⟩ := Option.isSome_iff_exists.1 ((mget_mem D y).1 hy)
    have := h.ok y m hm
    omega)
  simpa using this
theorem DOk.mono {l : List Nd} {D : List (Int × Int)} {o p : List Nd} (h : DOk l D o) (hp : o <+: p) (hl : p.length ≤ D.length) : DOk l D p :=
  ⟨fun i m hm => by
    have := h.ok i m hm
    refine ⟨this.1, this.2.1, ?_⟩
    rw [Zdo (tr l i) (o := o) (p := p) (by rw [this.2.2]; exact hp), this.2.2], h.zero, h.nd, hl⟩
theorem DOk.put {l : List Nd} {D : List (Int × Int)} {o p : List Nd} {n m : Int} (h : DOk l D o) (hp : o <+: p) (hl : p.length ≤ o.length + 1) (h0 : 0 ≤ n) (h1 : n ≤ l.length) (hn : Zd4 D n = none) (hv : vis (tr l n) p = (p, m)) : DOk l (mput D n m) p := by
  have e := mput_new n m D hn
  have k : ∀ i q : Int, Zd4 D i = some q → 0 ≤ i ∧ i ≤ l.length ∧ vis (tr l i) p = (p, q) := fun i q hm => by
    have := h.ok i q hm
    refine ⟨this.1, this.2.1, ?_⟩
    rw [Zdo (tr l i) (o := o) (p := p) (by rw [this.2.2]; exact hp), this.2.2]
  refine ⟨fun i q hm => ?_, ?_, ?_, ?_⟩
  · rw [Zgn] at hm
    by_cases ei : i = n
    · rw [if_pos ei] at hm; injection hm with hm; subst hm; rw [ei]; exact ⟨h0, h1, hv⟩
    · rw [if_neg ei] at hm; exact k i q hm
  · rw [Zgn]
    split
    · rfl
    · exact h.zero
  · rw [e, List.map_append, List.nodup_append]
    refine ⟨h.nd, by simp, fun a ha b hb => ?_⟩
    simp at hb
    subst hb
    intro ea
    subst ea
    have := (mget_mem D a).1 ha
    rw [hn] at this; cases this
  · rw [e, List.length_append]; have := h.cnt; simp; omega
theorem dok_start (l : List Nd) : DOk l [(0, 0)] [] :=
  ⟨fun i m hm => by
    rw [Zfs] at hm
    by_cases e : i = 0
    · rw [if_pos e] at hm; injection hm with hm; subst e; subst hm; exact ⟨by omega, by omega, rfl⟩
    · rw [if_neg e] at hm; simp [Zd4, fnd] at hm, rfl, by simp, by simp⟩
theorem Zku (o : List Nd) (x : Nd) : (Zcj o x).1.length ≤ o.length + 1 := by
  rcases Zd1 o x with ⟨_, _, e⟩ | ⟨_, _, _, _, e, _⟩ | ⟨_, _, _, e⟩ <;> rw [e] <;> simp
end Go.Gw
namespace Go.Gw
def yN (lv k c : Int) : Nd := ⟨lv, if 3 - k = 0 then c else 0, if 3 - k = 1 then c else 0, if 3 - k = 2 then c else 0, if 3 - k = 3 then c else 0⟩
abbrev GrT := List Nd × Int × Int × Int × Int
def gr1 (old : Nd) (s : GrT) (k : Int) : GrT :=
  if old.kid k = 0 then s else (s.1 ++ [yN old.lv k (old.kid k)], if k = 0 then ((s.1 ++ [yN old.lv k (old.kid k)]).length : Int) else s.2.1, if k = 1 then ((s.1 ++ [yN old.lv k (old.kid k)]).length : Int) else s.2.2.1,
    if k = 2 then ((s.1 ++ [yN old.lv k (old.kid k)]).length : Int) else s.2.2.2.1, if k = 3 then ((s.1 ++ [yN old.lv k (old.kid k)]).length : Int) else s.2.2.2.2)
def grS (old : Nd) (o : List Nd) : Nat → GrT
  | 0 => (o, 0, 0, 0, 0)
  | k + 1 => gr1 old (grS old o k) k
def grX (old : Nd) (s : GrT) : List Nd := s.1 ++ [⟨old.lv + 1, s.2.1, s.2.2.1, s.2.2.2.1, s.2.2.2.2⟩]
def Zm (o : List Nd) : Nd := ix o ((o.length : Int) - 1)
def Zfe : Nat → List Nd → List Nd
  | 0, o => o
  | f + 1, o => Zfe f (grX (Zm o) (grS (Zm o) o 4))
theorem grS_step {old : Nd} {o ok : List Nd} {k a b c e : Int} (h0 : 0 ≤ k) (h : (ok, a, b, c, e) = grS old o k.toNat) (hc : old.kid k = 0) : (ok, a, b, c, e) = grS old o (k + 1).toNat := by
  rw [show (k + 1).toNat = k.toNat + 1 by omega, grS, ← h, show ((k.toNat : Nat) : Int) = k by omega, gr1, if_pos hc]
theorem grS_put {old : Nd} {o ok : List Nd} {k a b c e : Int} (h0 : 0 ≤ k) (h : (ok, a, b, c, e) = grS old o k.toNat) (hc : ¬ old.kid k = 0) :
    (ok ++ [yN old.lv k (old.kid k)], (if k = 0 then ((ok ++ [yN old.lv k (old.kid k)]).length : Int) else a), (if k = 1 then ((ok ++ [yN old.lv k (old.kid k)]).length : Int) else b), (if k = 2 then ((ok ++ [yN old.lv k (old.kid k)]).length : Int) else c), (if k = 3 then ((ok ++ [yN old.lv k (old.kid k)]).length : Int) else e)) = grS old o (k + 1).toNat := by
  rw [show (k + 1).toNat = k.toNat + 1 by omega, grS, ← h, show ((k.toNat : Nat) : Int) = k by omega, gr1, if_neg hc]
theorem Zmp {level : Int} {o : List Nd} {a b c e : Int} {ok : List Nd} (h : (ok, a, b, c, e) = grS (Zm o) o 4) (hl : (Zm o).lv < level) :
    Zfe (level - (Zm (ok ++ [⟨(Zm o).lv + 1, a, b, c, e⟩])).lv).toNat (ok ++ [⟨(Zm o).lv + 1, a, b, c, e⟩]) = Zfe (level - (Zm o).lv).toNat o := by
  have e1 : Zm (ok ++ [⟨(Zm o).lv + 1, a, b, c, e⟩]) = ⟨(Zm o).lv + 1, a, b, c, e⟩ := by
    unfold Zm
    rw [show (((ok ++ [(⟨(ix o ((o.length : Int) - 1)).lv + 1, a, b, c, e⟩ : Nd)]).length : Nat) : Int) - 1 = ok.length by simp]
    unfold ix; simp
  rw [e1]
  simp only
  obtain ⟨f, hf⟩ : ∃ f, (level - (Zm o).lv).toNat = f + 1 := ⟨(level - (Zm o).lv).toNat - 1, by omega⟩
  rw [hf, show (level - ((Zm o).lv + 1)).toNat = f by omega, Zfe, ← h]
  rfl
theorem Zlu {o : List Nd} {x : Nd} : Zm (o ++ [x]) = x := by
  unfold Zm
  rw [show (((o ++ [x]).length : Nat) : Int) - 1 = o.length by simp]
  unfold ix; simp
theorem grow_end {level : Int} {o : List Nd} (hl : ¬ (Zm o).lv < level) : Zfe (level - (Zm o).lv).toNat o = o := by rw [show (level - (Zm o).lv).toNat = 0 by omega]; rfl
end Go.Gw
namespace Go.Gw
theorem s_rng {a : Tr} (h : wf 1 a) (j : Int) : 0 ≤ a.s j ∧ a.s j ≤ 255 := by
  cases a with
  | no => simp [Tr.s]
  | leaf a b c d =>
    obtain ⟨_, ha, hb, hc, hd⟩ := h
    simp only [Tr.s, Zae]
    split
    · exact ha
    · split
      · exact hb
      · split
        · exact hc
        · exact hd
  | nd v a b c d => obtain ⟨_, h2, _⟩ := h; omega
theorem q_wf {u : Int} {a : Tr} (h : wf u a) (j : Int) : wf (u - 1) (a.q j) := by
  cases a with
  | no => trivial
  | leaf a b c d => trivial
  | nd v a b c d =>
    obtain ⟨_, _, _, ha, hb, hc, hd⟩ := h
    simp only [Tr.q]
    split
    · exact ha
    · split
      · exact hb
      · split
        · exact hc
        · exact hd
theorem wf_inn {u v : Int} {a b c d : Tr} (h : wf v (.nd u a b c d)) : wf (v - 1) (inn (.nd u a b c d)) := by
  obtain ⟨rfl, h2, h3, ha, hb, hc, hd⟩ := h
  by_cases e : u = 2
  · subst e
    simp only [inn, if_true]
    exact ⟨by omega, s_rng ha _, s_rng hb _, s_rng hc _, s_rng hd _⟩
  · simp only [inn, if_neg e]
    exact ⟨rfl, by omega, by omega, q_wf ha _, q_wf hb _, q_wf hc _, q_wf hd _⟩
theorem eqv_self (l : List Nd) : Nd.eqv l l = true := by unfold Nd.eqv; exact decide_eq_true rfl
end Go.Gw
namespace Go.Gw
open Go.RowKit
def Zjl (P : Program) (ops : Array Oper) (n : Nat) (D : List Deferred) (ρ0 ρe : Env) (w0 : World) (R : World → World → Prop) (sp : Zcf) : List Oper → List (List Nat) → List Bool → Zcf → Prop
  | o :: os, d :: ds, true :: bs, (_, φ) :: r => (∀ w, R w0 w → Zd3 sp d (ρe ++ ρ0) w (fun ρ => Op1 P ops o n D ρ w (fun v w' => φ v w' ∧ R w w'))) ∧ Zjl P ops n D ρ0 ρe w0 R sp os ds bs r
  | o :: os, d :: ds, false :: bs, (_, φ) :: r => (∀ w, R w0 w → Zd3 sp d ρ0 w (fun ρ => Op1 P ops o n D ρ w (fun v w' => φ v w' ∧ R w w'))) ∧ Zjl P ops n D ρ0 ρe w0 R sp os ds bs r
  | _, _, _, [] => True
  | _, _, _, _ => False
def Zgf (l : List Oper) (m : Nat) (ke : List Nat) (es : List Bool) : Bool :=
  (List.range m).all fun i => match l[i]? with
    | some o => (match o.dst with | some d => !ke.contains d || (List.range m).all (fun j => !es.getD j false || Zb4 o j) | none => true)
    | none => true
section
variable {P : Program} {l : List Oper} {Q : Exit → Act → World → Prop} {n m : Nat} {D : List Deferred} {ρ0 ρe : Env} {w0 : World} {R : World → World → Prop} {sp : Zcf} {ds : List (List Nat)} {es : List Bool}
theorem Zgf.out {ke : List Nat} (h : Zgf l m ke es = true) {i j d : Nat} {o : Oper} (hi : i < m) (ho : l[i]? = some o) (hd : o.dst = some d) (hk : d ∈ ke) (hj : j < m) (he : es.getD j false = true) : Zb4 o j = true := by
  unfold Zgf at h
  rw [List.all_eq_true] at h
  have h1 := h i (List.mem_range.2 hi)
  rw [ho] at h1
  simp only [hd] at h1
  rw [Bool.or_eq_true] at h1
  rcases h1 with h1 | h1
  · simp [hk] at h1
  · rw [List.all_eq_true] at h1
    have h2 := h1 j (List.mem_range.2 hj)
    rw [he] at h2
    simpa using h2
theorem Zjl.at_ {ops : Array Oper} : ∀ {l' : List Oper} {ds' : List (List Nat)} {bs' : List Bool} {sp' : Zcf}, Zjl P ops n D ρ0 ρe w0 R sp l' ds' bs' sp' → ∀ {i : Nat} {dst : Option Nat} {φ : Value → World → Prop} {o : Oper}, sp'[i]? = some (dst, φ) → l'[i]? = some o →
    ∀ w, R w0 w → Zd3 sp (ds'.getD i []) (if bs'.getD i false = true then ρe ++ ρ0 else ρ0) w (fun ρ => Op1 P ops o n D ρ w (fun v w' => φ v w' ∧ R w w')) := by
  intro l' ds' bs' sp' h
  induction sp' generalizing l' ds' bs' with
  | nil => intro i dst φ o hs; simp at hs
  | cons p r ih =>
    intro i dst φ o hs hl
    obtain ⟨pd, pφ⟩ := p
    match l', ds', bs', h with
    | o' :: os, d :: dd, true :: bb, h =>
      obtain ⟨h1, h2⟩ := h
      cases i with
      | zero => simp at hs hl; obtain ⟨rfl, rfl⟩ := hs; subst hl; simpa using h1
      | succ i => simp at hs hl; simpa using ih h2 hs hl
    | o' :: os, d :: dd, false :: bb, h =>
      obtain ⟨h1, h2⟩ := h
      cases i with
      | zero => simp at hs hl; obtain ⟨rfl, rfl⟩ := hs; subst hl; simpa using h1
      | succ i => simp at hs hl; simpa using ih h2 hs hl
theorem mid_anyE {keys : List Nat} (hF : DrawFacts l m n keys sp ds) (hkeys : ∀ t v, look ρ0 t = some v → t ∈ keys) (hRt : ∀ a b c, R a b → R b c → R a c) (hst : Zhs R sp) (hke : Zgf l m (Ze0 ρe) es = true) (hem : ∀ j, es.getD j false = true → j < m) (hobs : Zjl P l.toArray n D ρ0 ρe w0 R sp l ds es sp)
    (hend : ∀ w, R w0 w → AllV sp ρ0 w (fun ρ => Reg P l.toArray Q (l.drop m) n D ρ w)) :
    ∀ (fuel : Nat) (listed : Array Bool) (vals : Nat → Value) (a : Act) (w : World), Mid n D ρ0 w0 R sp m l.length listed vals a w → ((∃ e, es.getD e false = true ∧ listed.getD e false = false) → ∀ t v, look ρe t = some v → a.tmps[t]? = some v) → cnt l.length listed ≤ fuel → wpAny P .any l.toArray Q fuel listed a w := by
  have hfin : ∀ (fuel : Nat) (listed : Array Bool) (vals : Nat → Value) (a : Act) (w : World), Mid n D ρ0 w0 R sp m l.length listed vals a w → (∀ i, i < m → listed.getD i false = true) → l.length - m ≤ fuel → wpAny P .any l.toArray Q fuel listed a w := by
    intro fuel listed vals a w hM hall hf
    obtain ⟨ρ', hFr, hReg⟩ := Zgk (w := w) vals sp 0 ρ0 _ hM.fr (fun i dst φ hs => by
      have hi : i < m := by rw [← hF.spl]; exact (List.getElem?_eq_some_iff.1 hs).1
      rw [Nat.zero_add]; exact hM.got i dst φ hs (hall i hi)) (hend w hM.wr)
    exact Zk0 hF fuel m listed a w (Nat.le_refl _) hF.le hf hM.size hall hM.tail (hReg a hFr)
  have hcnt : ∀ listed : Array Bool, (∀ i, m ≤ i → listed.getD i false = false) → ∀ k, m ≤ k → k - m ≤ cnt k listed := by
    intro listed ht k
    induction k with
    | zero => intro _; omega
    | succ k ih =>
      intro hk
      unfold cnt
      rcases Nat.lt_or_ge k m with h | h
      · omega
      · rw [ht k h]; have := ih h; simp; omega
  intro fuel
  induction fuel with
  | zero =>
    intro listed vals a w hM hE hc
    have h0 : cnt l.length listed = 0 := by omega
    have hall := Zfc listed _ h0
    refine hfin 0 listed vals a w hM (fun i hi => hall i (by have := hF.le; omega)) ?_
    have := hcnt listed hM.tail l.length hF.le
    omega
  | succ fuel ih =>
    intro listed vals a w hM hE hc
    by_cases hall : ∀ i, i < m → listed.getD i false = true
    · refine hfin _ listed vals a w hM hall ?_
      have := hcnt listed hM.tail l.length hF.le
      omega
    · 
      refine ⟨fun h0 => absurd ?_ hall, fun i hi => ?_⟩
      · 
        intro i hi
        induction i using Nat.strongRecOn with
        | _ i ihh =>
          by_cases hb : listed.getD i false = true
          · exact hb
          · exfalso
            have hil : i < l.length := by have := hF.le; omega
            have hr : i ∈ Region.ready .any l.toArray listed := by
              refine (Zbm (by simpa using hM.size)).2 ⟨l[i], by simp [hil], by simpa using hb, ?_⟩
              rw [Array.all_eq_true]
              intro j hj
              by_cases hbd : Region.binds .any l[i].after[j] = true
              · have := hF.before i _ (List.getElem?_eq_getElem hil) _ (Array.getElem_mem hj) hbd
                rw [ihh _ this om]; simp
              · simp [hbd]
            rw [h0] at hr; simp at hr
      · obtain ⟨o, ho, hfi, hal⟩ := (Zbm (by simpa using hM.size)).1 hi
        have ho' : l[i]? = some o := by simpa using ho
        have hil : i < l.length := (List.getElem?_eq_some_iff.1 ho').1
        have him : i < m := by
          rcases Nat.lt_or_ge i m with h | h
          · exact h
          · exact absurd (fun j hj => Zam (hF.tail i o h ho' j om) hal) hall
        have hsp : ∃ dst φ, sp[i]? = some (dst, φ) := by
          have : i < sp.length := by rw [hF.spl]; exact him
          exact ⟨_, _, List.getElem?_eq_getElem this⟩
        obtain ⟨dst, φ, hs⟩ := hsp
        have hdst := hF.dst i o dst φ ho' hs
        subst hdst
        have hsz : i < listed.size := by rw [hM.size]; exact hil
        have hFr0 : Fr n D (if es.getD i false = true then ρe ++ ρ0 else ρ0) a := by
          split
          · rename_i hes
            refine ⟨hM.fr.defers, hM.fr.size, fun t v hl => ?_⟩
            have hap : ∀ (x y : Env), look (x ++ y) t = (look x t).or (look y t) := by
              intro x y
              induction x with
              | nil => simp [look]
              | cons p r ihx => obtain ⟨s, u⟩ := p; rw [List.cons_append, Zb1, Zb1, ihx]; split <;> simp
            rw [hap] at hl
            cases hle : look ρe t with
            | some u => rw [hle] at hl; simp at hl; subst hl; exact hE ⟨i, hes, hfi⟩ t u hle
            | none => rw [hle] at hl; simp at hl; exact hM.fr.slot t v hl
          · exact hM.fr
        obtain ⟨ρ', hFr, hOp⟩ := Zja hM (ds.getD i []) _ _ hFr0 (fun j hj => Zam (hF.deps i o him ho' j hj).2 hal) (hobs.at_ hs ho' w hM.wr)
        have hnew : ∀ (v : Value) (w' : World), φ v w' → R w w' → Mid n D ρ0 w0 R sp m l.length (listed.setIfInBounds i true) (fun j => if j = i then v else vals j) (a.put o.dst v) w' := by
          intro v w' hv hR
          have hput : ∀ t, (∀ d, o.dst = some d → t ≠ d) → (a.put o.dst v).tmps[t]? = a.tmps[t]? := by
            intro t ht
            cases hd : o.dst with
            | none => rfl
            | some d => simp only [Act.put, Array.getElem?_setIfInBounds]; rw [if_neg (fun e => ht d hd e.symm)]
          have hputd : ∀ d, o.dst = some d → (a.put o.dst v).tmps[d]? = some v := by
            intro d hd
            have := (hF.ok i o d him ho' hd).1
            rw [hd]
            simp [Act.put, hM.fr.size, this]
          refine ⟨⟨?_, ?_, ?_⟩, hRt _ _ _ hM.wr hR, by simpa using hM.size, ?_, ?_⟩
          · rw [← hM.fr.defers]; cases o.dst <;> rfl
          · rw [← hM.fr.size]; cases o.dst <;> simp [Act.put]
          · intro t u hl
            rw [hput t (fun d hd e => (hF.ok i o d him ho' hd).2 (by rw [← e]; exact hkeys t u hl))]
            exact hM.fr.slot t u hl
          · intro j hj
            rw [Zar _ _ _ hsz, if_neg om]; exact hM.tail j hj
          · intro j dst φ' hs' hl
            rw [Zar _ _ _ hsz] at hl
            by_cases e : j = i
            · subst e
              rw [hs] at hs'
              injection hs' with hs'
              injection hs' with e1 e2
              subst e1; subst e2
              rw [if_pos rfl]
              exact ⟨hv, hputd⟩
            · rw [if_neg (fun e' => e e'.symm)] at hl
              rw [if_neg e]
              obtain ⟨g1, g2⟩ := hM.got j dst φ' hs' hl
              refine ⟨hst.at_ hs' _ _ _ g1 hR, fun d hd => ?_⟩
              have hj : j < m := by rw [← hF.spl]; exact (List.getElem?_eq_some_iff.1 hs').1
              have hjl : j < l.length := by have := hF.le; omega
              have hoj := List.getElem?_eq_getElem hjl
              have hdj := hF.dst j _ dst φ' hoj hs'
              rw [hput d (fun d' hd' e' => by subst e'; exact hF.apart j i _ o d hj him e hoj ho' (by rw [hdj, hd]) hd')]
              exact g2 d hd
        have hnewE : ∀ (v : Value), (∃ e, es.getD e false = true ∧ (listed.setIfInBounds i true).getD e false = false) → ∀ t u, look ρe t = some u → (a.put o.dst v).tmps[t]? = some u := by
          rintro v ⟨e, he, hle⟩ t u hl
          rw [Zar _ _ _ hsz] at hle
          by_cases hie : i = e
          · rw [if_pos hie] at hle; cases hle
          · rw [if_neg hie] at hle
            have h0 := hE ⟨e, he, hle⟩ t u hl
            cases hd : o.dst with
            | none => simpa [Act.put] using h0
            | some d =>
              simp only [Act.put, Array.getElem?_setIfInBounds]
              by_cases hdt : d = t
              · subst hdt
                have := Zam (Zgf.out hke him ho' hd (Zcp hl) (hem e he) he) hal
                rw [hle] at this; cases this
              · rw [if_neg hdt]; exact h0
        have hcnt' := Zgd listed i hsz hfi l.length hil
        unfold wpOp
        rw [ho]
        dsimp only
        have h1 := hOp a hFr
        split
        · rename_i hw
          rw [if_pos hw] at h1
          refine .inl (Oper.wp_mono ?_ (h1 Q))
          rintro a' w' ⟨v, rfl, hv, hR⟩
          exact ih _ _ _ _ (hnew v w' hv hR) (hnewE v) om
        · rename_i hw
          rw [if_neg hw] at h1
          exact ih _ _ _ _ (hnew undef w h1.1 h1.2) (hnewE undef) om
theorem w_drawE {id : Nat} {w : World} {ρ : Env} (m : Nat) (R : World → World → Prop) (sp : Zcf) (ds : List (List Nat)) (ρ0 ρe : Env) (es : List Bool) (hsub : Sub ρ0 ρ) (hsube : Sub ρe ρ) (hke : Zgf l m (Ze0 ρe) es = true) (hem : Nat.ble es.length m = true) (hm : P.follows .mixedOrders = true)
    (hchk : Zl3 l m n (Ze0 ρ0) (sp.map (·.1)) ds = true) (hR : ∀ a, R a a) (hRt : ∀ a b c, R a b → R b c → R a c) (hst : Zhs R sp)
    (h : ∀ w0, w.grownBy w0 none → w0.heap.size = w.heap.size → Zjl P l.toArray n D ρ0 ρe w0 R sp l ds es sp ∧ (∀ w', R w0 w' → AllV sp ρ0 w' (fun ρ => Reg P l.toArray Q (l.drop m) n D ρ w'))) :
    W P (.region id l.toArray true) Q n D ρ w := by
  intro a ha
  have hF := Zjn hchk
  obtain ⟨h1, h2⟩ := h w.drew (Zef w) rfl
  refine wp_region_any hm ?_
  have := mid_anyE hF (fun t v hl => Zcp hl) hRt hst hke (fun j hj => by have := Nat.le_of_ble_eq_true hem; rcases Nat.lt_or_ge j es.length with h | h; omega; simp [List.getD_eq_getElem?_getD, h] at hj) h1 h2 l.length (Array.replicate l.length false) (fun _ => undef) a w.drew ⟨ha.sub hsub, hR _, by simp, fun i _ => by simp [Array.getD_eq_getD_getElem?, Array.getElem?_replicate]; split <;> rfl, fun i dst φ hs hl => by
    simp [Array.getD_eq_getD_getElem?, Array.getElem?_replicate] at hl
    split at hl <;> simp at hl⟩ (fun _ t v hl => ha.slot t v (hsube.look hl)) (by
      have : ∀ k L, cnt k L ≤ k := by
        intro k L; induction k with
        | zero => exact Nat.le_refl _
        | succ k ih => unfold cnt; split <;> omega
      exact this _ _)
  simpa using this
end
end Go.Gw
namespace Go.Gw
open Go.RowKit
def iand (a b : Int) : Int := ((a.toNat &&& b.toNat : Nat) : Int)
def ior (a b : Int) : Int := ((a.toNat ||| b.toNat : Nat) : Int)
def ixor (a b : Int) : Int := ((a.toNat ^^^ b.toNat : Nat) : Int)
theorem Zin {k : IntKind} (hk : k.signed = false) (q : Int) : k.wrap q = q % 2 ^ k.bits := by
  simp [IntKind.wrap, hk]
theorem Zha {n : Nat} {a : Int} (h0 : 0 ≤ a) (h1 : a < 2 ^ n) : (BitVec.ofInt n a).toNat = a.toNat := by
  rw [BitVec.toNat_ofInt]
  have : ((2 ^ n : Nat) : Int) = (2 : Int) ^ n := by simp
  rw [this, Int.emod_eq_of_lt h0 h1]
section
variable {P : Program} {ops : Array Oper} {Q : Exit → Act → World → Prop} {Zao : List Oper} {n : Nat} {D : List Deferred} {ρ : Env} {w : World}
variable {d ty xt yt : Nat} {pos : String} {after : Array Edge} {gd : Option (Nat × Bool)} {C : Value → World → Prop} {x y : Operand} {k j : IntKind} {a b M : Int}
theorem s_addk (hk : k.signed = false) (hM : (2 : Int) ^ k.bits = M) (hx : opv ρ x = some (.int k a)) (hy : opv ρ y = some (.int k b)) (hb : 0 ≤ a + b ∧ a + b < M) (h : C (.int k (a + b)) w) : OpW P ⟨some d, .binOp .add xt x y yt, ty, pos, after, gd⟩ n D ρ w C :=
  s_addw hx hy (by rw [Zin hk, hM, Int.emod_eq_of_lt hb.1 hb.2]; exact h)
theorem s_subk (hk : k.signed = false) (hM : (2 : Int) ^ k.bits = M) (hx : opv ρ x = some (.int k a)) (hy : opv ρ y = some (.int k b)) (h : C (.int k ((a - b) % M)) w) : OpW P ⟨some d, .binOp .sub xt x y yt, ty, pos, after, gd⟩ n D ρ w C :=
  s_subw hx hy (by rw [Zin hk, hM]; exact h)
theorem Zco {src dst : Nat} (hk : k.signed = false) (hM : (2 : Int) ^ k.bits = M) (hs : P.underlying src = some (.int j)) (hd : P.underlying dst = some (.int k)) (hx : opv ρ x = some (.int j a)) (h : C (.int k (a % M)) w) : OpW P ⟨some d, .convert src dst x, ty, pos, after, gd⟩ n D ρ w C :=
  s_convw hs hd hx (by rw [Zin hk, hM]; exact h)
theorem s_convk {src dst : Nat} (hk : k.signed = false) (hM : (2 : Int) ^ k.bits = M) (hs : P.underlying src = some (.int j)) (hd : P.underlying dst = some (.int k)) (hx : opv ρ x = some (.int j a)) (hb : 0 ≤ a ∧ a < M) (h : C (.int k a) w) : OpW P ⟨some d, .convert src dst x, ty, pos, after, gd⟩ n D ρ w C :=
  s_convw hs hd hx (by rw [Zin hk, hM, Int.emod_eq_of_lt hb.1 hb.2]; exact h)
theorem Zio {p : Int} (hx : opv ρ x = some (.int k a)) (hy : opv ρ y = some (.int j b)) (hb : 0 ≤ b) (hp : (2 : Int) ^ (min b.toNat k.bits) = p) (h : C (.int k (a / p)) w) : OpW P ⟨some d, .binOp .shr xt x y yt, ty, pos, after, gd⟩ n D ρ w C :=
  s_shr hx hy hb (by rw [hp, Int.fdiv_eq_ediv_of_nonneg _ (by rw [← hp]; exact Int.le_of_lt (Int.pow_pos dc))]; exact h)
theorem s_shlk {p : Int} (hk : k.signed = false) (hM : (2 : Int) ^ k.bits = M) (hx : opv ρ x = some (.int k a)) (hy : opv ρ y = some (.int j b)) (hb : 0 ≤ b) (hp : (2 : Int) ^ (min b.toNat k.bits) = p) (h : C (.int k ((a * p) % M)) w) : OpW P ⟨some d, .binOp .shl xt x y yt, ty, pos, after, gd⟩ n D ρ w C :=
  s_shl hx hy hb (by rw [hp, Zin hk, hM]; exact h)
theorem s_quok (hk : k.signed = false) (hM : (2 : Int) ^ k.bits = M) (hx : opv ρ x = some (.int k a)) (hy : opv ρ y = some (.int k b)) (ha : 0 ≤ a ∧ a < M) (hb : 0 < b) (h : C (.int k (a / b)) w) : OpW P ⟨some d, .binOp .quo xt x y yt, ty, pos, after, gd⟩ n D ρ w C :=
  s_quo hx hy om (by
    rw [Zin hk, hM, Int.tdiv_eq_ediv_of_nonneg ha.1, Int.emod_eq_of_lt (Int.ediv_nonneg ha.1 om) (Int.lt_of_le_of_lt (Int.ediv_le_self _ ha.1) ha.2)]; exact h)
theorem s_quoi (hx : opv ρ x = some (.int .i64 a)) (hy : opv ρ y = some (.int .i64 b)) (ha : 0 ≤ a ∧ a ≤ 9223372036854775807) (hb : 0 < b) (h : C (.int .i64 (a / b)) w) : OpW P ⟨some d, .binOp .quo xt x y yt, ty, pos, after, gd⟩ n D ρ w C :=
  s_quo hx hy om (by
    rw [Int.tdiv_eq_ediv_of_nonneg ha.1, Zgm ⟨by have := Int.ediv_nonneg ha.1 (show 0 ≤ b by omega); omega, by have := Int.ediv_le_self b ha.1; omega⟩]; exact h)
theorem Zew (hx : opv ρ x = some (.int k a)) (hy : opv ρ y = some (.int k b)) (ha : 0 ≤ a) (hb : 0 < b) (h : C (.int k (a % b)) w) : OpW P ⟨some d, .binOp .rem xt x y yt, ty, pos, after, gd⟩ n D ρ w C :=
  s_rem hx hy om (by rw [Int.tmod_eq_emod_of_nonneg ha]; exact h)
theorem back_u {r : BitVec k.bits} (hk : k.signed = false) : k.wrap (r.toNat : Int) = r.toNat := by
  rw [Zin hk]
  have h := r.isLt
  exact Int.emod_eq_of_lt (by omega) (by have : ((2 ^ k.bits : Nat) : Int) = (2 : Int) ^ k.bits := by simp
                                         omega)
theorem s_and (hk : k.signed = false) (hM : (2 : Int) ^ k.bits = M) (hx : opv ρ x = some (.int k a)) (hy : opv ρ y = some (.int k b)) (ha : 0 ≤ a ∧ a < M) (hb : 0 ≤ b ∧ b < M) (h : C (.int k (iand a b)) w) : OpW P ⟨some d, .binOp .and xt x y yt, ty, pos, after, gd⟩ n D ρ w C :=
  s_bits hx hy (v := .int k (iand a b)) (by
    subst hM
    show (pure (.int k (k.wrap ((BitVec.ofInt k.bits a &&& BitVec.ofInt k.bits b).toNat : Int))) : Sem Value) = _
    rw [back_u hk, BitVec.toNat_and, Zha ha.1 ha.2, Zha hb.1 hb.2]; rfl) rfl h
theorem s_or (hk : k.signed = false) (hM : (2 : Int) ^ k.bits = M) (hx : opv ρ x = some (.int k a)) (hy : opv ρ y = some (.int k b)) (ha : 0 ≤ a ∧ a < M) (hb : 0 ≤ b ∧ b < M) (h : C (.int k (ior a b)) w) : OpW P ⟨some d, .binOp .or xt x y yt, ty, pos, after, gd⟩ n D ρ w C :=
  s_bits hx hy (v := .int k (ior a b)) (by
    subst hM
    show (pure (.int k (k.wrap ((BitVec.ofInt k.bits a ||| BitVec.ofInt k.bits b).toNat : Int))) : Sem Value) = _
    rw [back_u hk, BitVec.toNat_or, Zha ha.1 ha.2, Zha hb.1 hb.2]; rfl) rfl h
theorem s_xor (hk : k.signed = false) (hM : (2 : Int) ^ k.bits = M) (hx : opv ρ x = some (.int k a)) (hy : opv ρ y = some (.int k b)) (ha : 0 ≤ a ∧ a < M) (hb : 0 ≤ b ∧ b < M) (h : C (.int k (ixor a b)) w) : OpW P ⟨some d, .binOp .xor xt x y yt, ty, pos, after, gd⟩ n D ρ w C :=
  s_bits hx hy (v := .int k (ixor a b)) (by
    subst hM
    show (pure (.int k (k.wrap ((BitVec.ofInt k.bits a ^^^ BitVec.ofInt k.bits b).toNat : Int))) : Sem Value) = _
    rw [back_u hk, BitVec.toNat_xor, Zha ha.1 ha.2, Zha hb.1 hb.2]; rfl) rfl h
theorem s_com32 (hx : opv ρ x = some (.int .u32 a)) (ha : 0 ≤ a ∧ a < 4294967296) (h : C (.int .u32 (ixor 4294967295 a)) w) : OpW P ⟨some d, .unOp .xor xt x, ty, pos, after, gd⟩ n D ρ w C :=
  Za3 (v := .int .u32 (ixor 4294967295 a)) (fun e he => by
    have h1 : Op.unary .xor (.int .u32 a) = pure (.int .u32 (IntKind.u32.wrap ((BitVec.ofInt 32 4294967295 ^^^ BitVec.ofInt 32 a).toNat : Int))) := rfl
    have h2 : IntKind.u32.wrap (((BitVec.ofInt 32 4294967295 ^^^ BitVec.ofInt 32 a).toNat : Nat) : Int) = ixor 4294967295 a := by
      rw [show IntKind.u32.wrap (((BitVec.ofInt 32 4294967295 ^^^ BitVec.ofInt 32 a).toNat : Nat) : Int) = ((BitVec.ofInt 32 4294967295 ^^^ BitVec.ofInt 32 a).toNat : Nat) from back_u (k := .u32) rfl, BitVec.toNat_xor, Zha dc dc, Zha ha.1 (by simpa using ha.2)]
      rfl
    have h3 : Op.unary .xor (.int .u32 a) = pure (.int .u32 (ixor 4294967295 a)) := by rw [h1, h2]
    simp [execOp, he x _ hx, h3]) h
end
theorem Zdg {a b M : Int} (h : 0 ≤ a ∧ a < M) : 0 ≤ iand a b ∧ iand a b < M := by
  have := Nat.and_le_left (n := a.toNat) (m := b.toNat)
  unfold iand; omega
theorem Zkp {a b M : Int} (h : 0 ≤ b ∧ b < M) : 0 ≤ iand a b ∧ iand a b < M := by
  have := Nat.and_le_right (n := a.toNat) (m := b.toNat)
  unfold iand; omega
theorem Zby {a b : Int} (h : 0 ≤ a ∧ a < 4294967296) (k : 0 ≤ b ∧ b < 4294967296) : 0 ≤ ixor a b ∧ ixor a b < 4294967296 := by
  have := Nat.xor_lt_two_pow (n := 32) (show a.toNat < 2 ^ 32 by omega) (show b.toNat < 2 ^ 32 by omega)
  unfold ixor; omega
theorem ior_lt {a b : Int} (h : 0 ≤ a ∧ a < 4294967296) (k : 0 ≤ b ∧ b < 4294967296) : 0 ≤ ior a b ∧ ior a b < 4294967296 := by
  have := Nat.or_lt_two_pow (n := 32) (show a.toNat < 2 ^ 32 by omega) (show b.toNat < 2 ^ 32 by omega)
  unfold ior; omega
theorem iand_nat (a b : Nat) : iand (a : Int) (b : Int) = ((a &&& b : Nat) : Int) := rfl
theorem ior_nat (a b : Nat) : ior (a : Int) (b : Int) = ((a ||| b : Nat) : Int) := rfl
theorem ixor_nat (a b : Nat) : ixor (a : Int) (b : Int) = ((a ^^^ b : Nat) : Int) := rfl
theorem all_ones : (4294967295 : Int) = ((2 ^ 32 - 1 : Nat) : Int) := by decide
theorem bit_top {z : Nat} (h : z < 2 ^ 32) : z / 2 ^ 31 = (z.testBit 31).toNat := by
  rw [Nat.toNat_testBit]; omega
theorem borrow_bit {x y c : Int} (hx : 0 ≤ x ∧ x < 4294967296) (hy : 0 ≤ y ∧ y < 4294967296) (hc : 0 ≤ c ∧ c ≤ 1) :
    ior (iand (ixor 4294967295 x) y) (iand (ixor 4294967295 (ixor x y)) (((x - y) % 4294967296 - c) % 4294967296)) / 2147483648 = if x < y + c then 1 else 0 := by
  obtain ⟨X, rfl⟩ := Int.eq_ofNat_of_zero_le hx.1
  obtain ⟨Y, rfl⟩ := Int.eq_ofNat_of_zero_le hy.1
  obtain ⟨Z, hZ⟩ := Int.eq_ofNat_of_zero_le (show 0 ≤ (((X : Int) - Y) % 4294967296 - c) % 4294967296 by omega)
  rw [hZ]
  have hx2 : X < 2 ^ 32 := by omega
  have hy2 : Y < 2 ^ 32 := by omega
  have hz2 : Z < 2 ^ 32 := by omega
  rw [all_ones, ixor_nat, iand_nat, ixor_nat, ixor_nat, iand_nat, ior_nat]
  have hlt : ((2 ^ 32 - 1 ^^^ X) &&& Y ||| (2 ^ 32 - 1 ^^^ (X ^^^ Y)) &&& Z) < 2 ^ 32 := Nat.or_lt_two_pow (Nat.and_lt_two_pow _ hy2) (Nat.and_lt_two_pow _ hz2)
  have hb := bit_top hlt
  have h31 : (2 : Nat) ^ 31 = 2147483648 := rfl
  rw [h31] at hb
  have e : ((((2 ^ 32 - 1 ^^^ X) &&& Y ||| (2 ^ 32 - 1 ^^^ (X ^^^ Y)) &&& Z : Nat) : Int)) / 2147483648 = ((((2 ^ 32 - 1 ^^^ X) &&& Y ||| (2 ^ 32 - 1 ^^^ (X ^^^ Y)) &&& Z) / 2147483648 : Nat) : Int) := by rw [Int.natCast_ediv]; rfl
  rw [e, hb]
  have tX := bit_top hx2
  have tY := bit_top hy2
  have tZ := bit_top hz2
  rw [h31] at tX tY tZ
  simp only [Nat.testBit_or, Nat.testBit_and, Nat.testBit_xor, show (2 ^ 32 - 1 : Nat).testBit 31 = true from by decide]
  cases hbx : X.testBit 31 <;> cases hby : Y.testBit 31 <;> cases hbz : Z.testBit 31 <;> simp [hbx, hby, hbz] at tX tY tZ ⊢ <;> omega
end Go.Gw
namespace Go.Gw
open Go.RowKit
section
variable {P : Program} {l : List Oper} {Q : Exit → Act → World → Prop} {n m : Nat} {D : List Deferred} {ρ0 : Env} {w0 : World} {R R0 R1 : World → World → Prop} {sp : Zcf} {ds anc con : List (List Nat)} {big st1 cls : List Bool}
end
theorem Zdw (g : Nat) (a : World) : a.grownBy a (some g) := Zmw _ a
theorem Zdq {g : Nat} (a b c : World) (h : a.grownBy b (some g)) (k : b.grownBy c (some g)) : a.grownBy c (some g) := Zmg h k
end Go.Gw
namespace Go.Gw
open Go.RowKit
def nv : List Int → Int
  | [] => 0
  | x :: r => x + 4294967296 * nv r
theorem Lim.tail {x : Int} {r : List Int} (h : Lim (x :: r)) : Lim r := fun y hy => h y (List.mem_cons_of_mem _ hy)
theorem Lim.head {x : Int} {r : List Int} (h : Lim (x :: r)) : 0 ≤ x ∧ x < 4294967296 := h x (List.mem_cons_self ..)
theorem Lim.cons {x : Int} {r : List Int} (h : 0 ≤ x ∧ x < 4294967296) (k : Lim r) : Lim (x :: r) := fun y hy => by
  rcases List.mem_cons.1 hy with rfl | hy
  · exact h
  · exact k y hy
theorem Lim.nil : Lim [] := fun x h => by cases h
theorem Lim.take {xs : List Int} (h : Lim xs) (k : Nat) : Lim (xs.take k) := fun x hx => h x (List.mem_of_mem_take hx)
theorem Lim.drop {xs : List Int} (h : Lim xs) (k : Nat) : Lim (xs.drop k) := fun x hx => h x (List.mem_of_mem_drop hx)
theorem Lim.append {xs ys : List Int} (h : Lim xs) (k : Lim ys) : Lim (xs ++ ys) := fun x hx => (List.mem_append.1 hx).elim (h x) (k x)
theorem Zap : ∀ {xs : List Int}, Lim xs → 0 ≤ nv xs
  | [], _ => Int.le_refl _
  | x :: r, h => by have := Zap h.tail; have := h.head; unfold nv; omega
def PW (k : Nat) : Int := 4294967296 ^ k
theorem PW_zero : PW 0 = 1 := rfl
theorem Zij (k : Nat) : PW (k + 1) = 4294967296 * PW k := by unfold PW; rw [Int.pow_succ]; grind
theorem Zid (k : Nat) : 0 < PW k := by induction k with
  | zero => decide
  | succ k ih => rw [Zij]; omega
theorem Zlw : ∀ (a b : List Int), nv (a ++ b) = nv a + PW a.length * nv b
  | [], b => by simp [nv, PW_zero]
  | x :: r, b => by
    have := Zlw r b
    simp only [List.cons_append, nv, List.length_cons, Zij]
    grind
theorem Zj2 : ∀ {xs : List Int}, Lim xs → nv xs < PW xs.length
  | [], _ => by decide
  | x :: r, h => by have := Zj2 h.tail; have := h.head; simp only [List.length_cons, Zij]; unfold nv; omega
theorem Zjc (a : List Int) (x : Int) : nv (a ++ [x]) = nv a + PW a.length * x := by rw [Zlw]; simp [nv]
def tl (n : Int) : List Int := if h : n ≤ 0 then [] else n % 4294967296 :: tl (n / 4294967296)
termination_by n.toNat
decreasing_by omega
theorem Zfv {n : Int} (h : n ≤ 0) : tl n = [] := by unfold tl; rw [dif_pos h]
theorem tl_pos {n : Int} (h : 0 < n) : tl n = n % 4294967296 :: tl (n / 4294967296) := by rw [tl, dif_neg om]
def Zdb (a : List Int) : Bool := decide (a = []) || decide (ix a ((a.length : Int) - 1) ≠ 0)
theorem ix_last (a : List Int) (x : Int) : ix (a ++ [x]) (((a ++ [x]).length : Int) - 1) = x := by
  unfold ix; rw [show ((((a ++ [x]).length : Nat) : Int) - 1).toNat = a.length by simp]; simp
theorem Zc9 (a : List Int) (x : Int) : Zdb (a ++ [x]) = decide (x ≠ 0) := by
  unfold Zdb; rw [ix_last]; simp
theorem Zl7 {x y : Int} {r : List Int} : Zdb (x :: y :: r) = Zdb (y :: r) := by
  obtain ⟨i, z, h⟩ : ∃ i z, y :: r = i ++ [z] := ⟨(y :: r).dropLast, (y :: r).getLast (by simp), (List.dropLast_concat_getLast _).symm⟩
  rw [h, show x :: (i ++ [z]) = (x :: i) ++ [z] by rfl, Zc9, Zc9]
theorem nv_pos {a : List Int} (h : Lim a) (hr : Zdb a = true) (hne : a ≠ []) : 0 < nv a := by
  obtain ⟨i, z, rfl⟩ : ∃ i z, a = i ++ [z] := ⟨a.dropLast, a.getLast hne, (List.dropLast_concat_getLast _).symm⟩
  rw [Zc9] at hr
  have hz := h z (by simp)
  have h0 : z ≠ 0 := by simpa using hr
  have h1 := Zap (fun x hx => h x (by simp [hx]) : Lim i)
  rw [Zjc]
  have := Int.mul_pos (Zid i.length) (show 0 < z by omega)
  omega
theorem tl_nv : ∀ {a : List Int}, Lim a → Zdb a = true → tl (nv a) = a
  | [], _, _ => Zfv (Int.le_refl _)
  | [x], h, hr => by
    have hx := h.head
    have h0 : x ≠ 0 := by simpa using (Zc9 [] x).symm.trans hr
    rw [tl_pos (by simp only [nv]; omega)]
    simp only [nv]
    rw [show (x + 4294967296 * 0) % 4294967296 = x by omega, show (x + 4294967296 * 0) / 4294967296 = 0 by omega, Zfv (Int.le_refl _)]
  | x :: y :: r, h, hr => by
    have hx := h.head
    rw [Zl7] at hr
    have ih := tl_nv h.tail hr
    have hp := nv_pos h.tail hr (by simp)
    rw [show nv (x :: y :: r) = x + 4294967296 * nv (y :: r) from rfl, tl_pos om, show (x + 4294967296 * nv (y :: r)) % 4294967296 = x by omega, show (x + 4294967296 * nv (y :: r)) / 4294967296 = nv (y :: r) by omega, ih]
theorem Zem (n : Int) : Lim (tl n) := by
  unfold tl
  split
  · exact Lim.nil
  · rename_i h
    exact Lim.cons om (Zem _)
termination_by n.toNat
decreasing_by omega
theorem Zf3 {n : Int} (h : 0 ≤ n) : nv (tl n) = n := by
  unfold tl
  split
  · simp only [nv]; omega
  · have := Zf3 (n := n / 4294967296) om
    simp only [nv]; rw [this]; omega
termination_by n.toNat
decreasing_by omega
theorem Zki (n : Int) : Zdb (tl n) = true := by
  by_cases h : n ≤ 0
  · rw [Zfv h]; rfl
  · rw [tl_pos om]
    by_cases h2 : n / 4294967296 ≤ 0
    · rw [Zfv h2, show [n % 4294967296] = [] ++ [n % 4294967296] from rfl, Zc9]; simp; omega
    · have ih := Zki (n / 4294967296)
      rw [tl_pos om] at ih ⊢
      rw [Zl7]; exact ih
termination_by n.toNat
decreasing_by omega
theorem tl_inj {m n : Int} (hm : 0 ≤ m) (hn : 0 ≤ n) (h : tl m = tl n) : m = n := by rw [← Zf3 hm, ← Zf3 hn, h]
theorem nv_cut {a : List Int} (hne : ¬ Zdb a = true) : 1 ≤ a.length ∧ nv (a.take (a.length - 1)) = nv a := by
  by_cases h : a = []
  · subst h; exact absurd rfl hne
  · obtain ⟨i, z, rfl⟩ : ∃ i z, a = i ++ [z] := ⟨a.dropLast, a.getLast h, (List.dropLast_concat_getLast _).symm⟩
    rw [Zc9] at hne
    have : z = 0 := by simpa using hne
    subst this
    refine ⟨by simp, ?_⟩
    rw [Zjc, show (i ++ [(0 : Int)]).take ((i ++ [(0 : Int)]).length - 1) = i by simp]
    simp
theorem take_snoc {a : List Int} {i : Int} (h0 : 0 ≤ i) (h1 : i < a.length) : a.take (i + 1).toNat = a.take i.toNat ++ [ix a i] := by
  rw [show (i + 1).toNat = i.toNat + 1 by omega, List.take_add_one]
  unfold ix
  simp [show i.toNat < a.length by omega]
theorem nv_take_succ {a : List Int} {i : Int} (h0 : 0 ≤ i) (h1 : i < a.length) : nv (a.take (i + 1).toNat) = nv (a.take i.toNat) + PW i.toNat * ix a i := by
  rw [take_snoc h0 h1, Zjc, show (a.take i.toNat).length = i.toNat by simp; omega]
theorem nv_split (a : List Int) (k : Nat) (hk : k ≤ a.length) : nv a = nv (a.take k) + PW k * nv (a.drop k) := by
  have h := Zlw (a.take k) (a.drop k)
  rwa [List.take_append_drop, show (a.take k).length = k by simp; omega] at h
theorem right_nil {a : List Int} (h : (a.length : Int) = 0) : Zdb a = true := by
  rw [show a = [] from List.eq_nil_of_length_eq_zero om]; rfl
theorem right_ne {a : List Int} (h : ¬ (a.length : Int) = 0) : Zdb a = decide (ix a ((a.length : Int) - 1) ≠ 0) := by
  have : a ≠ [] := fun e => h (by rw [e]; rfl)
  unfold Zdb; simp [this]
def Zbt (x y : Int) : Int := if x < y then -1 else if y < x then 1 else 0
theorem PW_le {a b : Nat} (h : a ≤ b) : PW a ≤ PW b := by
  induction h with
  | refl => exact Int.le_refl _
  | step _ ih => have := Zid a; rw [Zij]; omega
theorem nv_ge {a : List Int} (h : Lim a) (hr : Zdb a = true) (hne : a ≠ []) : PW (a.length - 1) ≤ nv a := by
  obtain ⟨i, z, rfl⟩ : ∃ i z, a = i ++ [z] := ⟨a.dropLast, a.getLast hne, (List.dropLast_concat_getLast _).symm⟩
  rw [Zc9] at hr
  have hz := h z (by simp)
  have h0 : z ≠ 0 := by simpa using hr
  have h1 := Zap (fun x hx => h x (by simp [hx]) : Lim i)
  rw [Zjc, show (i ++ [z]).length - 1 = i.length by simp]
  have := Int.mul_le_mul_of_nonneg_left (show 1 ≤ z by omega) (Int.le_of_lt (Zid i.length))
  omega
theorem len_lt {a b : List Int} (ha : Lim a) (hb : Lim b) (hr : Zdb b = true) (h : a.length < b.length) : nv a < nv b := by
  have h1 := Zj2 ha
  have h2 := nv_ge hb hr (by intro e; subst e; simp at h)
  have h3 := PW_le (show a.length ≤ b.length - 1 by omega)
  omega
theorem Zh7 {x : Int} {r : List Int} {i : Int} (h : 0 ≤ i) : ix (x :: r) (i + 1) = ix r i := by
  unfold ix; rw [show (i + 1).toNat = i.toNat + 1 by omega]; simp
theorem ixl_zero (x : Int) (r : List Int) : ix (x :: r) 0 = x := rfl
theorem cmp_at : ∀ {a b : List Int}, Lim a → Lim b → a.length = b.length → ∀ (i : Int), 0 ≤ i → i < a.length → (∀ j : Int, i < j → j < a.length → ix a j = ix b j) → ix a i < ix b i → nv a < nv b
  | [], _, _, _, _, i, h0, h1, _, _ => by simp at h1; omega
  | _ :: _, [], _, _, hl, _, _, _, _, _ => by simp at hl
  | x :: r, y :: s, ha, hb, hl, i, h0, h1, hd, hlt => by
    have hx := ha.head
    have hy := hb.head
    have hl' : r.length = s.length := by simpa using hl
    by_cases hi : i = 0
    · subst hi
      have e : r = s := by
        apply List.ext_getElem hl'
        intro k hk1 hk2
        have := hd ((k : Int) + 1) om (by simp; omega)
        rw [Zh7 om, Zh7 om] at this
        unfold ix at this
        simpa [hk1, hk2] using this
      subst e
      rw [ixl_zero, ixl_zero] at hlt
      simp only [nv]; omega
    · have ih := cmp_at ha.tail hb.tail hl' (i - 1) om (by simp at h1; omega) (fun j j0 j1 => by
        have := hd (j + 1) om (by simp; omega)
        rwa [Zh7 om, Zh7 om] at this) (by
        rw [show i = (i - 1) + 1 by omega, Zh7 om, Zh7 om] at hlt; exact hlt)
      simp only [nv]; omega
theorem samel_all {a b : List Int} (hl : a.length = b.length) (h : ∀ j : Int, 0 ≤ j → j < a.length → ix a j = ix b j) : a = b := by
  apply List.ext_getElem hl
  intro k hk1 hk2
  have := h k om om
  unfold ix at this
  simpa [hk1, hk2] using this
theorem bkt_mem {xs : List Int} {k : Nat} {j : Int} (h1 : (xs.length : Int) - 1 - j < k) (h2 : j < xs.length) : (j, ix xs j) ∈ bkt xs k := by
  unfold bkt
  rw [List.mem_map]
  exact ⟨((xs.length : Int) - 1 - j).toNat, by rw [List.mem_range]; omega, by rw [show (xs.length : Int) - 1 - ((((xs.length : Int) - 1 - j).toNat : Nat) : Int) = j by omega]⟩
theorem bkt_last {xs : List Int} {k : Nat} {pre : List (LX xs)} {x : LX xs} (h : (pre ++ [x]).map (·.1) = bkt xs k) : x.1.1 = (xs.length : Int) - k ∧ ∀ j : Int, x.1.1 < j → j < xs.length → ∃ p ∈ pre, p.1 = (j, ix xs j) := by
  have hl := congrArg List.length h
  rw [List.length_map, bkt_len, List.length_append, List.length_singleton] at hl
  obtain rfl : k = pre.length + 1 := hl.symm
  rw [bkt_succ, List.map_append] at h
  obtain ⟨h1, h2⟩ := List.append_inj' h rfl
  simp only [List.map_cons, List.map_nil, List.cons.injEq, and_true] at h2
  refine ⟨by rw [h2]; show (xs.length : Int) - 1 - _ = _; push_cast; omega, fun j j0 j1 => ?_⟩
  rw [h2] at j0
  have hm := bkt_mem (xs := xs) (k := pre.length) (j := j) (by simp only at j0; omega) j1
  rw [← h1, List.mem_map] at hm
  exact hm
theorem cmp_len {m n : Int} (hm : 0 ≤ m) (hn : 0 ≤ n) (h : (tl m).length < (tl n).length) : m < n := by
  have := len_lt (Zem m) (Zem n) (Zki n) h
  rwa [Zf3 hm, Zf3 hn] at this
theorem cmpI_lt {x y : Int} (h : x < y) : Zbt x y = -1 := by simp [Zbt, h]
theorem cmpI_gt {x y : Int} (h : y < x) : Zbt x y = 1 := by simp [Zbt, h, show ¬ x < y by omega]
theorem cmpI_eq {x y : Int} (h : x = y) : Zbt x y = 0 := by simp [Zbt, h]
theorem cmp_full {m n : Int} (hm : 0 ≤ m) (hn : 0 ≤ n) (hl : (tl m).length = (tl n).length) {pre : List (LX (tl m))} (h : pre.map (·.1) = bkt (tl m) (tl m).length) (he : ∀ p ∈ pre, p.1.2 = ix (tl n) p.1.1) : Zbt m n = 0 := by
  refine cmpI_eq (tl_inj hm hn (samel_all hl fun j j0 j1 => ?_))
  have hm := bkt_mem (xs := tl m) (k := (tl m).length) (j := j) om j1
  rw [← h, List.mem_map] at hm
  obtain ⟨p, hp, e⟩ := hm
  have := he p hp
  rw [e] at this
  exact this
theorem cmp_stop {m n : Int} (hm : 0 ≤ m) (hn : 0 ≤ n) (hl : (tl m).length = (tl n).length) {k : Nat} {pre : List (LX (tl m))} {x : LX (tl m)} (h : (pre ++ [x]).map (·.1) = bkt (tl m) k) (he : ∀ p ∈ pre, p.1.2 = ix (tl n) p.1.1) :
    (x.1.2 < ix (tl n) x.1.1 → Zbt m n = -1) ∧ (ix (tl n) x.1.1 < x.1.2 → Zbt m n = 1) := by
  obtain ⟨_, h2⟩ := bkt_last h
  have heq : ∀ j : Int, x.1.1 < j → j < (tl m).length → ix (tl m) j = ix (tl n) j := fun j j0 j1 => by
    obtain ⟨p, hp, e⟩ := h2 j j0 j1
    have := he p hp
    rw [e] at this
    exact this
  obtain ⟨x0, x1, x2⟩ := x.2
  constructor
  · intro hlt
    rw [x2] at hlt
    have := cmp_at (Zem m) (Zem n) hl _ x0 x1 heq hlt
    rw [Zf3 hm, Zf3 hn] at this
    exact cmpI_lt this
  · intro hlt
    rw [x2] at hlt
    have := cmp_at (Zem n) (Zem m) hl.symm _ x0 om (fun j j0 j1 => (heq j j0 om).symm) hlt
    rw [Zf3 hm, Zf3 hn] at this
    exact cmpI_gt this
theorem ix_over {a : List Int} {i : Int} (h : (a.length : Int) ≤ i) : ix a i = 0 := by
  unfold ix
  have e : a.getD i.toNat default = default := by simp [show a.length ≤ i.toNat by omega]
  rw [e]; rfl
theorem Zhc (a : List Int) {i : Int} (h0 : 0 ≤ i) : nv (a.take (i + 1).toNat) = nv (a.take i.toNat) + PW i.toNat * ix a i := by
  by_cases h1 : i < a.length
  · exact nv_take_succ h0 h1
  · rw [ix_over om, List.take_of_length_le om, List.take_of_length_le om]; simp
theorem PW_next {i : Int} (h0 : 0 ≤ i) : PW (i + 1).toNat = 4294967296 * PW i.toNat := by
  rw [show (i + 1).toNat = i.toNat + 1 by omega, Zij]
theorem Zix {a : List Int} {i v : Int} (h0 : 0 ≤ i) (h1 : i < a.length) : nv ((a.set i.toNat v).take (i + 1).toNat) = nv (a.take i.toNat) + PW i.toNat * v := by
  rw [Zhc _ h0]
  congr 1
  · rw [List.take_set_of_le (Nat.le_refl _)]
  · unfold ix; simp [show i.toNat < a.length by omega]
theorem Zk4 {os a b : List Int} {i c x y : Int} (h : nv (os.take i.toNat) + PW i.toNat * c = nv (a.take i.toNat) + nv (b.take i.toNat)) (h0 : 0 ≤ i) (h1 : i < os.length) (hx : x = ix a i) (hy : y = ix b i) :
    nv ((os.set i.toNat ((x + y + c) % 4294967296)).take (i + 1).toNat) + PW (i + 1).toNat * ((x + y + c) / 4294967296) = nv (a.take (i + 1).toNat) + nv (b.take (i + 1).toNat) := by
  rw [Zix h0 h1, Zhc a h0, Zhc b h0, PW_next h0, ← hx, ← hy]
  have e := Int.mul_ediv_add_emod (x + y + c) 4294967296
  grind
theorem add_end {os a b : List Int} {i c : Int} (h : nv (os.take i.toNat) + PW i.toNat * c = nv (a.take i.toNat) + nv (b.take i.toNat)) (h0 : 0 ≤ i) (hi : i = a.length) (hl : (os.length : Int) = i + 1) (hb : b.length ≤ a.length) :
    nv (os.set (a.length : Int).toNat c) = nv a + nv b := by
  rw [← hi]
  have e := Zix (a := os) (v := c) h0 om
  rw [List.take_of_length_le (by simp; omega)] at e
  rw [e, h, List.take_of_length_le om, List.take_of_length_le om]
theorem Sl.orig {α : Type} {K : Kd α} (hK : K.Flat) {F : Nat → Prop} {w W : World} {v : Value} {xs : List α} (h : Sl K W (Loc F w) v xs) (hb : Below w.heap.size w W) : Sl K w F v xs := by
  obtain ⟨A, c, e, h2, h3, h4⟩ := h
  refine ⟨A, c, e, h2, h3, fun i x hx => ?_⟩
  obtain ⟨g, o, us, q1, q2, q3, q4, q5⟩ := h4 i x hx
  have hlt : g < w.heap.size := Loc.lt q3
  refine ⟨g, o, us, q1, hlt, Loc.no q3, hK _ _ _ _ _ _ q4, fun j u_ hu => ?_⟩
  have := q5 j u_ hu
  unfold World.cell? at this ⊢
  simp only [← hb.block g hlt]
  exact this
end Go.Gw
namespace Go.Gw
open Go.RowKit
theorem Zh4 {a : List Int} {i j v : Int} (h0 : 0 ≤ i) (h1 : 0 ≤ j) (h : i ≠ j) : ix (a.set i.toNat v) j = ix a j := by
  unfold ix
  simp [List.getD_eq_getElem?_getD, List.getElem?_set, show ¬ i.toNat = j.toNat by omega]
theorem ix_set_eq {a : List Int} {i v : Int} (h0 : 0 ≤ i) (h1 : i < a.length) : ix (a.set i.toNat v) i = v := by
  unfold ix; simp [show i.toNat < a.length by omega]
theorem sub_step {os a b : List Int} {i c x y : Int} (h : nv (os.take i.toNat) = nv (a.take i.toNat) - nv (b.take i.toNat) + PW i.toNat * c) (h0 : 0 ≤ i) (h1 : i < os.length) (hx : x = ix a i) (hy : y = ix b i) (hxb : 0 ≤ x ∧ x < 4294967296) (hyb : 0 ≤ y ∧ y < 4294967296) (hc : 0 ≤ c ∧ c ≤ 1) :
    nv ((os.set i.toNat ((x - y - c) % 4294967296)).take (i + 1).toNat) = nv (a.take (i + 1).toNat) - nv (b.take (i + 1).toNat) + PW (i + 1).toNat * (if x < y + c then 1 else 0) := by
  rw [Zix h0 h1, Zhc a h0, Zhc b h0, PW_next h0, ← hx, ← hy, h]
  have e : (x - y - c) % 4294967296 = x - y - c + 4294967296 * (if x < y + c then 1 else 0) := by split <;> omega
  rw [e]
  grind
theorem sub_end {os a b : List Int} {i c : Int} (h : nv (os.take i.toNat) = nv (a.take i.toNat) - nv (b.take i.toNat) + PW i.toNat * c) (hi : i = os.length) (hl : os.length = a.length) (hc : 0 ≤ c ∧ c ≤ 1) (ho : Lim os) (ha : Lim a) (hb : Lim b) (hle : nv b ≤ nv a) : nv os = nv a - nv b := by
  have hk : i.toNat = a.length := by omega
  rw [hk] at h
  rw [List.take_of_length_le om, List.take_of_length_le (Nat.le_refl _)] at h
  have hla := Zj2 ha
  have hb2 : nv (b.take a.length) = nv b := by
    by_cases hbl : b.length ≤ a.length
    · rw [List.take_of_length_le hbl]
    · have hs := nv_split b a.length om
      have h1 := Zap (hb.take a.length)
      have h2 := Zap (hb.drop a.length)
      have hp := Zid a.length
      have : nv (b.drop a.length) = 0 := by
        rcases Int.lt_or_eq_of_le h2 with h3 | h3
        · have := Int.mul_le_mul_of_nonneg_left (show 1 ≤ nv (b.drop a.length) by omega) (Int.le_of_lt hp)
          omega
        · exact h3.symm
      rw [hs, this]; simp
  rw [hb2] at h
  have h5 := Zj2 ho
  rw [hl] at h5
  have : c = 0 := by
    rcases Int.lt_or_eq_of_le hc.1 with h3 | h3
    · obtain rfl : c = 1 := by omega
      omega
    · exact h3.symm
  subst this
  simp at h
  exact h
def fitB (n : Int) : Bool := decide (0 ≤ n) && decide (n ≤ 10000)
def shlL (a : List Int) (n : Int) : List Int := if fitB n then tl (nv a * 2 ^ n.toNat) else []
theorem PW_add (i j : Nat) : PW (i + j) = PW i * PW j := by unfold PW; rw [Int.pow_add]
theorem Zlf (k : Nat) : PW k = 2 ^ (32 * k) := by unfold PW; rw [Int.pow_mul]; rfl
theorem Zlr {n : Int} (h : 0 ≤ n) : (2 : Int) ^ n.toNat = PW (n / 32).toNat * 2 ^ (n % 32).toNat := by
  rw [Zlf, ← Int.pow_add]; congr 1; omega
theorem Za5 (k : Nat) : (0 : Int) < 2 ^ k := Int.pow_pos dc
theorem two_part {s : Int} (h0 : 0 ≤ s) (h1 : s < 32) : ∃ r : Int, 0 < r ∧ 2 ^ s.toNat * r = 4294967296 := by
  refine ⟨2 ^ (32 - s).toNat, Za5 _, ?_⟩
  rw [← Int.pow_add, show s.toNat + (32 - s).toNat = 32 by omega]; rfl
theorem nv_drop_step {d : List Int} {i : Int} (h0 : 0 ≤ i) (h1 : i < d.length) : nv (d.drop i.toNat) = ix d i + 4294967296 * nv (d.drop (i + 1).toNat) := by
  have hlt : i.toNat < d.length := by omega
  have e : ix d i = d[i.toNat] := by unfold ix; simp [hlt]
  rw [List.drop_eq_getElem_cons hlt, show (i + 1).toNat = i.toNat + 1 by omega, e]
  rfl
theorem nv_shr {a : List Int} (ha : Lim a) {n : Int} (h0 : 0 ≤ n) (h1 : n / 32 < a.length) : nv (a.drop (n / 32).toNat) / 2 ^ (n % 32).toNat = nv a / 2 ^ n.toNat := by
  have hs := nv_split a (n / 32).toNat om
  have hlt := Zj2 (ha.take (n / 32).toNat)
  rw [show (a.take (n / 32).toNat).length = (n / 32).toNat by simp; omega] at hlt
  have h2 := Zap (ha.take (n / 32).toNat)
  have hp := Zid (n / 32).toNat
  rw [Zlr h0, ← Int.ediv_ediv_of_nonneg (Int.le_of_lt hp)]
  congr 1
  rw [hs, Int.add_mul_ediv_left _ _ om, Int.ediv_eq_zero_of_lt h2 hlt]
  simp
theorem ior_part {h l p : Int} (hp : ∃ s : Int, 0 ≤ s ∧ p = 2 ^ s.toNat) (hh : 0 ≤ h ∧ h < p) (hl : 0 ≤ l) (hm : l % p = 0) : ior h l = h + l := by
  obtain ⟨s, hs, rfl⟩ := hp
  obtain ⟨k, hk⟩ : ∃ k, l = 2 ^ s.toNat * k := ⟨l / 2 ^ s.toNat, by have := Int.mul_ediv_add_emod l (2 ^ s.toNat); omega⟩
  have hk0 : 0 ≤ k := by
    rcases Int.lt_or_le k 0 with h3 | h3
    · have := Int.mul_neg_of_pos_of_neg (Za5 s.toNat) h3
      omega
    · exact h3
  obtain ⟨H, rfl⟩ := Int.eq_ofNat_of_zero_le hh.1
  obtain ⟨K, rfl⟩ := Int.eq_ofNat_of_zero_le hk0
  have hH : H < 2 ^ s.toNat := by
    have h1 := hh.2
    have h2 : ((2 ^ s.toNat : Nat) : Int) = (2 : Int) ^ s.toNat := by simp
    omega
  have e : ((2 ^ s.toNat * K : Nat) : Int) = (2 : Int) ^ s.toNat * (K : Int) := by rw [Int.natCast_mul]; simp
  rw [hk, ← e, ior_nat, Nat.or_comm, ← Nat.two_pow_add_eq_or_of_lt hH, Int.natCast_add]
  omega
end Go.Gw
namespace Go.Gw
open Go.RowKit
theorem ix_zeros (k : Nat) (j : Int) : ix (List.replicate k (0 : Int)) j = 0 := by
  unfold ix
  by_cases h : j.toNat < k
  · simp [h]
  · have e : (List.replicate k (0 : Int)).getD j.toNat default = default := by simp [show k ≤ j.toNat by omega]
    rw [e]; rfl
theorem nv_rep : ∀ k : Nat, nv (List.replicate k (0 : Int)) = 0
  | 0 => rfl
  | k + 1 => by rw [List.replicate_succ]; simp only [nv]; rw [nv_rep k]; rfl
theorem nv_zeros (k j : Nat) : nv ((List.replicate k (0 : Int)).take j) = 0 := by rw [List.take_replicate, nv_rep]
theorem shl_alg {A Pi Pq h X p x lo hi : Int} (hn : A + Pi * Pq * h = X * (Pq * p)) (e : 4294967296 * hi + lo = x * p) : A + Pi * Pq * (h + lo) + 4294967296 * (Pi * Pq) * hi = (X + Pi * x) * (Pq * p) := by
  have e1 : Pi * Pq * (4294967296 * hi + lo) = Pi * Pq * (x * p) := by rw [e]
  grind
theorem shl_step {os xs : List Int} {i n : Int} (hx : Lim xs) (ho : Lim os) (h0 : 0 ≤ i) (h1 : i < xs.length) (hn0 : 0 ≤ n) (hol : (os.length : Int) = xs.length + n / 32 + 1) (hz : ∀ j : Int, i + n / 32 < j → ix os j = 0)
    (hp : ix os (i + n / 32) < 2 ^ (n % 32).toNat) (hn : nv (os.take (i + n / 32 + 1).toNat) = nv (xs.take i.toNat) * 2 ^ n.toNat) :
    nv (((os.set (i + n / 32).toNat (ior (ix os (i + n / 32)) ((ix xs i * 2 ^ (n % 32).toNat) % 4294967296))).set (i + n / 32 + 1).toNat (ior (ix (os.set (i + n / 32).toNat (ior (ix os (i + n / 32)) ((ix xs i * 2 ^ (n % 32).toNat) % 4294967296))) (i + n / 32 + 1)) (((ix xs i * 2 ^ (n % 32).toNat) % 18446744073709551616) / 4294967296 % 4294967296))).take (i + 1 + n / 32 + 1).toNat) = nv (xs.take (i + 1).toNat) * 2 ^ n.toNat ∧
    ix ((os.set (i + n / 32).toNat (ior (ix os (i + n / 32)) ((ix xs i * 2 ^ (n % 32).toNat) % 4294967296))).set (i + n / 32 + 1).toNat (ior (ix (os.set (i + n / 32).toNat (ior (ix os (i + n / 32)) ((ix xs i * 2 ^ (n % 32).toNat) % 4294967296))) (i + n / 32 + 1)) (((ix xs i * 2 ^ (n % 32).toNat) % 18446744073709551616) / 4294967296 % 4294967296))) (i + 1 + n / 32) < 2 ^ (n % 32).toNat ∧
    ∀ j : Int, i + 1 + n / 32 < j → ix ((os.set (i + n / 32).toNat (ior (ix os (i + n / 32)) ((ix xs i * 2 ^ (n % 32).toNat) % 4294967296))).set (i + n / 32 + 1).toNat (ior (ix (os.set (i + n / 32).toNat (ior (ix os (i + n / 32)) ((ix xs i * 2 ^ (n % 32).toNat) % 4294967296))) (i + n / 32 + 1)) (((ix xs i * 2 ^ (n % 32).toNat) % 18446744073709551616) / 4294967296 % 4294967296))) j = 0 := by
  have hxb := hx.ix i
  have hob := ho.ix (i + n / 32)
  obtain ⟨r, hr0, hr⟩ := two_part (s := n % 32) om om
  have hp0 := Za5 (n % 32).toNat
  have hts := Zlr hn0
  generalize hP : (2 : Int) ^ (n % 32).toNat = p at *
  have hpe : ∃ s : Int, 0 ≤ s ∧ p = 2 ^ s.toNat := ⟨n % 32, by omega, hP.symm⟩
  generalize hxe : ix xs i = x at hxb ⊢
  have hxp0 : 0 ≤ x * p := Int.mul_nonneg hxb.1 (Int.le_of_lt hp0)
  have hxp1 : x * p < 4294967296 * p := Int.mul_lt_mul_of_pos_right hxb.2 hp0
  have hpB : p ≤ 4294967296 := by
    have := Int.mul_le_mul_of_nonneg_left (show 1 ≤ r by omega) (Int.le_of_lt hp0)
    rw [hr] at this; omega
  have e64 : x * p % 18446744073709551616 = x * p := Int.emod_eq_of_lt hxp0 om
  rw [e64]
  have hhi : x * p / 4294967296 < p := Int.ediv_lt_of_lt_mul dc om
  have hhi0 : 0 ≤ x * p / 4294967296 := Int.ediv_nonneg hxp0 dc
  have ehi : x * p / 4294967296 % 4294967296 = x * p / 4294967296 := Int.emod_eq_of_lt hhi0 om
  rw [ehi]
  have hlo : x * p % 4294967296 % p = 0 := by
    rw [← hr, Int.emod_emod_of_dvd _ ⟨r, rfl⟩, Int.mul_emod_left]
  have e1 : ior (ix os (i + n / 32)) (x * p % 4294967296) = ix os (i + n / 32) + x * p % 4294967296 := ior_part hpe ⟨hob.1, hp⟩ om hlo
  rw [e1]
  have ez : ix (os.set (i + n / 32).toNat (ix os (i + n / 32) + x * p % 4294967296)) (i + n / 32 + 1) = 0 := by
    rw [Zh4 om om om]; exact hz _ om
  rw [ez]
  have e2 : ior 0 (x * p / 4294967296) = x * p / 4294967296 := by unfold ior; simp; omega
  rw [e2]
  refine ⟨?_, ?_, ?_⟩
  · rw [show i + 1 + n / 32 + 1 = (i + n / 32 + 1) + 1 by omega, Zix om (by rw [List.length_set]; omega), Zix om om, PW_next om]
    have h5 := Zhc os (i := i + n / 32) om
    rw [h5] at hn
    rw [Zhc xs h0, hts, hxe]
    have e3 := Int.mul_ediv_add_emod (x * p) 4294967296
    have e4 : PW (i + n / 32).toNat = PW i.toNat * PW (n / 32).toNat := by rw [← PW_add]; congr 1; omega
    rw [hts, e4] at hn
    rw [e4]
    exact shl_alg hn e3
  · rw [show i + 1 + n / 32 = i + n / 32 + 1 by omega, ix_set_eq om (by rw [List.length_set]; omega)]; exact hhi
  · intro j hj
    rw [Zh4 om om om, Zh4 om om om]
    exact hz j om
theorem shl_end {os xs : List Int} {i n : Int} (hn : nv (os.take (i + n / 32 + 1).toNat) = nv (xs.take i.toNat) * 2 ^ n.toNat) (hi : i = xs.length) (hol : (os.length : Int) = xs.length + n / 32 + 1) : nv os = nv xs * 2 ^ n.toNat := by
  rwa [List.take_of_length_le om, List.take_of_length_le om] at hn
end Go.Gw
namespace Go.Gw
open Go.RowKit
def Zeb (n : Int) : Int := if n ≤ 0 then 0 else (n.toNat.log2 : Int) + 1
theorem Zhv {n : Int} (h : n ≤ 0) : Zeb n = 0 := by unfold Zeb; rw [if_pos h]
theorem blen_pos {n : Int} (h : 0 < n) : Zeb n = (n.toNat.log2 : Int) + 1 := by unfold Zeb; rw [if_neg om]
theorem blen_bd {n : Int} {k : Nat} (h : 2 ^ k ≤ n) (h2 : n < 2 ^ (k + 1)) : Zeb n = k + 1 := by
  have h0 : (0 : Int) < 2 ^ k := Za5 k
  rw [blen_pos om]
  have h3 : n.toNat.log2 = k := by
    rw [Nat.log2_eq_iff om]
    have e1 : ((2 ^ k : Nat) : Int) = (2 : Int) ^ k := by simp
    have e2 : ((2 ^ (k + 1) : Nat) : Int) = (2 : Int) ^ (k + 1) := by simp
    omega
  rw [h3]
theorem Zhu {n : Int} (h : 0 < n) : ∃ k : Nat, Zeb n = k + 1 ∧ 2 ^ k ≤ n ∧ n < 2 ^ (k + 1) := by
  refine ⟨n.toNat.log2, blen_pos h, ?_, ?_⟩
  · have := Nat.log2_self_le (n := n.toNat) om
    have e1 : ((2 ^ n.toNat.log2 : Nat) : Int) = (2 : Int) ^ n.toNat.log2 := by simp
    omega
  · have := Nat.lt_log2_self (n := n.toNat)
    have e1 : ((2 ^ (n.toNat.log2 + 1) : Nat) : Int) = (2 : Int) ^ (n.toNat.log2 + 1) := by simp
    omega
theorem blen_add {N l : Int} {j : Nat} (hN : 0 < N) (hl : 0 ≤ l ∧ l < 2 ^ j) : Zeb (l + 2 ^ j * N) = j + Zeb N := by
  obtain ⟨k, e, h1, h2⟩ := Zhu hN
  have hp := Za5 j
  have e1 : (2 : Int) ^ (j + k) = 2 ^ j * 2 ^ k := Int.pow_add ..
  have e2 : (2 : Int) ^ (j + k + 1) = 2 ^ j * 2 ^ (k + 1) := by rw [← Int.pow_add]; rfl
  have m1 := Int.mul_le_mul_of_nonneg_left h1 (Int.le_of_lt hp)
  have m2 := Int.mul_le_mul_of_nonneg_left (show N + 1 ≤ 2 ^ (k + 1) by omega) (Int.le_of_lt hp)
  rw [blen_bd (k := j + k) (by rw [e1]; omega) (by rw [e2]; grind), e]
  push_cast; omega
theorem blen_last {a : List Int} (h : Lim a) (hr : Zdb a = true) (hne : ¬ (a.length : Int) = 0) : ((a.length : Int) - 1) * 32 + Zeb (ix a ((a.length : Int) - 1)) = Zeb (nv a) := by
  obtain ⟨i, z, rfl⟩ : ∃ i z, a = i ++ [z] := ⟨a.dropLast, a.getLast (fun e => hne (by rw [e]; rfl)), (List.dropLast_concat_getLast _).symm⟩
  rw [Zc9] at hr
  have hz := h z (by simp)
  have h0 : z ≠ 0 := by simpa using hr
  have hi : Lim i := fun x hx => h x (by simp [hx])
  have h1 := Zap hi
  have h2 := Zj2 hi
  rw [ix_last, Zjc, Zlf]
  rw [Zlf] at h2
  rw [blen_add om ⟨h1, h2⟩]
  simp; omega
theorem Zll {x : Int} (k : Nat) (h : 2 ^ k ≤ x) : Zeb x = k + Zeb (x / 2 ^ k) := by
  have hp := Za5 k
  have e := Int.mul_ediv_add_emod x (2 ^ k)
  have e0 := Int.emod_nonneg x (show (2 : Int) ^ k ≠ 0 by omega)
  have e1 := Int.emod_lt_of_pos x hp
  have hq : 0 < x / 2 ^ k := Int.lt_of_lt_of_le dc (show 1 ≤ x / 2 ^ k from (Int.le_ediv_iff_mul_le hp).2 om)
  conv => lhs; rw [show x = x % 2 ^ k + 2 ^ k * (x / 2 ^ k) by omega]
  exact blen_add hq ⟨e0, e1⟩
def Zex (n i : Int) : Bool := decide (0 ≤ i) && decide (n / 2 ^ i.toNat % 2 = 1)
theorem two_part' {s : Int} (h0 : 0 ≤ s) (h1 : s ≤ 32) : ∃ r : Int, 0 < r ∧ 2 ^ s.toNat * r = 4294967296 := by
  refine ⟨2 ^ (32 - s).toNat, Za5 _, ?_⟩
  rw [← Int.pow_add, show s.toNat + (32 - s).toNat = 32 by omega]; rfl
theorem bit_limb {a : List Int} (h : Lim a) {i : Int} (h0 : 0 ≤ i) (h1 : i / 32 < a.length) : (nv a / 2 ^ i.toNat) % 2 = (ix a (i / 32) / 2 ^ (i % 32).toNat) % 2 := by
  rw [← nv_shr h h0 h1, nv_drop_step (i := i / 32) om h1]
  obtain ⟨r, hr0, hr⟩ := two_part' (s := i % 32 + 1) om om
  rw [show (i % 32 + 1).toNat = (i % 32).toNat + 1 by omega, Int.pow_succ] at hr
  have e : ix a (i / 32) + 4294967296 * nv (a.drop (i / 32 + 1).toNat) = ix a (i / 32) + 2 ^ (i % 32).toNat * (2 * (r * nv (a.drop (i / 32 + 1).toNat))) := by rw [← hr]; grind
  have hp := Za5 (i % 32).toNat
  rw [e, Int.add_mul_ediv_left _ _ om, Int.add_mul_emod_self_left]
theorem bit_over {a : List Int} (h : Lim a) {i : Int} (h0 : 0 ≤ i) (h1 : (a.length : Int) ≤ i / 32) : nv a / 2 ^ i.toNat = 0 := by
  have h2 := Zap h
  have h3 := Zj2 h
  have h4 := PW_le (show a.length ≤ (i / 32).toNat by omega)
  have h5 := Za5 (i % 32).toNat
  have h6 : PW (i / 32).toNat * 1 ≤ PW (i / 32).toNat * 2 ^ (i % 32).toNat := Int.mul_le_mul_of_nonneg_left om (Int.le_of_lt (Zid _))
  rw [Zlr h0, Int.ediv_eq_zero_of_lt h2 om]
theorem iand_one {a : Int} (h : 0 ≤ a) : iand a 1 = a % 2 := by
  obtain ⟨A, rfl⟩ := Int.eq_ofNat_of_zero_le h
  have : iand (A : Int) 1 = ((A &&& 1 : Nat) : Int) := rfl
  rw [this, Nat.and_one_is_mod]; omega
end Go.Gw
namespace Go.Gw
open Go.RowKit
def bl (s : ByteArray) : List Int := s.data.toList.map fun b => (b.toNat : Int)
theorem bl_length (s : ByteArray) : (bl s).length = s.size := by unfold bl; rw [List.length_map]; rfl
theorem bl_range (s : ByteArray) (i : Int) : 0 ≤ ix (bl s) i ∧ ix (bl s) i ≤ 255 := by
  unfold ix bl
  rw [List.getD_eq_getElem?_getD, List.getElem?_map]
  cases s.data.toList[i.toNat]? with
  | none => simp
  | some b => simp; have := b.toNat_lt; omega
section
variable {P : Program} {n : Nat} {D : List Deferred} {ρ : Env} {w : World}
variable {d ty : Nat} {pos : String} {after : Array Edge} {gd : Option (Nat × Bool)} {C : Value → World → Prop} {x y z : Operand} {s a b : ByteArray} {t : Nat}
structure StrF (P : Program) (t : Nat) : Prop where
  und : P.underlying t = some .string
theorem s_sidx {kd : IntKind} {i : Int} (ht : StrF P t) (hx : opv ρ x = some (.string s)) (hy : opv ρ y = some (.int kd i)) (h0 : 0 ≤ i) (h1 : i < (bl s).length) (k : C (.int .u8 (ix (bl s) i)) w) :
    OpW P ⟨some d, .index t x y, ty, pos, after, gd⟩ n D ρ w C := by
  refine Za3 (fun ev he => ?_) k
  rw [bl_length] at h1
  have hi : i.toNat < s.size := by omega
  have e : ix (bl s) i = ((s[i.toNat]'hi).toNat : Int) := by
    unfold ix bl
    rw [List.getD_eq_getElem?_getD, List.getElem?_map, Array.getElem?_toList, Array.getElem?_eq_getElem (show i.toNat < s.data.size from hi)]
    rfl
  simp [execOp, Instr.index, asIntOf, he x _ hx, he y _ hy, run_underlying ht.und, h0, hi, e]
structure ExtF (P : Program) (f : Nat) (e : Array Value → Sem Value) : Prop where
  out : ∃ fn, P.funcs[f]? = some fn ∧ (fn.name == "runtime.NumGoroutine") = false ∧ fn.body.isNone = true ∧ Extern.findNext fn = none ∧ Extern.find fn = some e
end
end Go.Gw
namespace Go.Gw
open Go.RowKit
def tabL : List Int := (List.range 256).map fun j : Nat => Zeb (j : Int)
theorem tab_lt {S : ByteArray} {i : Int} (h : bl S = tabL) (hi : i < 256) : i < (bl S).length := by rw [h]; unfold tabL; simp; omega
theorem bl_le (S : ByteArray) (i : Int) : 0 ≤ ix (bl S) i ∧ ix (bl S) i ≤ 255 := by
  have := bl_range S i
  omega
theorem bl_conv (S : ByteArray) (i : Int) : -9223372036854775808 ≤ ix (bl S) i ∧ ix (bl S) i ≤ 9223372036854775807 := by have := bl_le S i; omega
theorem Zlx {S : ByteArray} {i N : Int} (h : 0 ≤ N ∧ N ≤ 100) : -9223372036854775808 ≤ N + ix (bl S) i ∧ N + ix (bl S) i ≤ 9223372036854775807 := by have := bl_le S i; omega
theorem blen16 {x : Int} (h : 65536 ≤ x) : Zeb x = 16 + Zeb (x / 65536) := Zll 16 h
theorem blen8 {x : Int} (h : 256 ≤ x) : Zeb x = 8 + Zeb (x / 256) := Zll 8 h
theorem len_fin {S : ByteArray} {N x x' : Int} (hS : bl S = tabL) (h : Zeb x = N + Zeb x') (hx : 0 ≤ x' ∧ x' < 256) : N + ix (bl S) (x' % 256) = Zeb x := by
  rw [hS, h, Int.emod_eq_of_lt hx.1 hx.2]
  congr 1
  unfold ix tabL
  have : x'.toNat < 256 := by omega
  simp [this, show ((x'.toNat : Nat) : Int) = x' by omega]
theorem blen_le {x : Int} (h : 0 ≤ x ∧ x < 4294967296) : 0 ≤ Zeb x ∧ Zeb x ≤ 32 := by
  rcases Int.lt_or_le 0 x with h0 | h0
  · rw [blen_pos h0]
    have : x.toNat.log2 < 32 := (Nat.log2_lt om).2 om
    omega
  · rw [Zhv h0]; omega
theorem Zlm {n : Int} (h0 : 0 ≤ n) {k : Nat} (h : n < PW k) : (tl n).length ≤ k := by
  rcases Nat.lt_or_ge k (tl n).length with h1 | h1
  · have h2 := nv_ge (Zem n) (Zki n) (by intro e; rw [e] at h1; simp at h1)
    rw [Zf3 h0] at h2
    have := PW_le (show k ≤ (tl n).length - 1 by omega)
    omega
  · exact h1
theorem shr_bd {x : Int} (h : 0 ≤ x ∧ x < 4294967296) (s : Int) : 0 ≤ x / 2 ^ s.toNat ∧ x / 2 ^ s.toNat < 4294967296 :=
  ⟨Int.ediv_nonneg h.1 (Int.le_of_lt (Za5 _)), Int.lt_of_le_of_lt (Int.ediv_le_self _ h.1) h.2⟩
theorem bit_no1 {n i : Int} (h : ¬ 0 ≤ i) : Zex n i = false := by unfold Zex; simp [h]
theorem bit_no2 {a : List Int} (h : Lim a) {i : Int} (h0 : 0 ≤ i) (h1 : ¬ i / 32 < a.length) : Zex (nv a) i = false := by
  unfold Zex; rw [bit_over h h0 om]; simp
theorem bit_yes {a : List Int} (h : Lim a) {i : Int} (h0 : 0 ≤ i) (h1 : i / 32 < a.length) : decide (iand (ix a (i / 32) / 2 ^ (i % 32).toNat) 1 = 1) = Zex (nv a) i := by
  unfold Zex
  rw [decide_eq_true h0, Bool.true_and, bit_limb h h0 h1, iand_one (shr_bd (h.ix _) _).1]
end Go.Gw
namespace Go.Gw
open Go.RowKit
def bn (b : Bool) : Int := if b then 1 else 0
theorem bn_bd (b : Bool) : 0 ≤ bn b ∧ bn b ≤ 1 := by cases b <;> decide
def bv : List Bool → Int
  | [] => 0
  | b :: r => bn b + 2 * bv r
theorem bv_bd : ∀ b : List Bool, 0 ≤ bv b ∧ bv b < 2 ^ b.length
  | [] => by decide
  | b :: r => by
    have h := bv_bd r
    have := bn_bd b
    rw [List.length_cons, Int.pow_succ]; unfold bv; omega
theorem Zjv : ∀ a b : List Bool, bv (a ++ b) = bv a + 2 ^ a.length * bv b
  | [], b => by simp [bv]
  | x :: r, b => by
    have := Zjv r b
    simp only [List.cons_append, bv, List.length_cons, Int.pow_succ]
    rw [this]; grind
theorem Zko (a : List Bool) (x : Bool) : bv (a ++ [x]) = bv a + 2 ^ a.length * bn x := by rw [Zjv]; simp [bv]
def tb (n : Int) : List Bool := if h : n ≤ 0 then [] else decide (n % 2 = 1) :: tb (n / 2)
termination_by n.toNat
decreasing_by omega
theorem Zgg {n : Int} (h : n ≤ 0) : tb n = [] := by unfold tb; rw [dif_pos h]
theorem tb_pos {n : Int} (h : 0 < n) : tb n = decide (n % 2 = 1) :: tb (n / 2) := by rw [tb, dif_neg om]
theorem bn_odd {n : Int} : bn (decide (n % 2 = 1)) = n % 2 := by
  unfold bn
  by_cases h : n % 2 = 1 <;> simp [h]; omega
theorem bv_tb {n : Int} (h : 0 ≤ n) : bv (tb n) = n := by
  unfold tb
  split
  · simp only [bv]; omega
  · have := bv_tb (n := n / 2) om
    simp only [bv]; rw [this, bn_odd]; omega
termination_by n.toNat
decreasing_by omega
theorem Zgp {n : Int} : ((tb n).length : Int) = Zeb n := by
  by_cases h : n ≤ 0
  · rw [Zgg h, Zhv h]; rfl
  · have ih := Zgp (n := n / 2)
    rw [tb_pos om, List.length_cons]
    by_cases h1 : n = 1
    · subst h1; rw [Zgg dc]; rfl
    · rw [Zll (x := n) 1 om]
      have e : (2 : Int) ^ 1 = 2 := rfl
      rw [e, ← ih]; push_cast; omega
termination_by n.toNat
decreasing_by omega
def Zip (b : List Bool) : Prop := b = [] ∨ ix b ((b.length : Int) - 1) = true
theorem Zk6 (a : List Bool) (x : Bool) : ix (a ++ [x]) (((a ++ [x]).length : Int) - 1) = x := by
  unfold ix; rw [show ((((a ++ [x]).length : Nat) : Int) - 1).toNat = a.length by simp]; simp
theorem tb_bv : ∀ {b : List Bool}, Zip b → tb (bv b) = b
  | [], _ => Zgg (Int.le_refl _)
  | [x], h => by
    rcases h with h | h
    · cases h
    · have : x = true := (Zk6 [] x).symm.trans h
      subst this
      rw [show bv [true] = 1 from rfl, tb_pos dc, Zgg dc]; rfl
  | x :: y :: r, h => by
    have hr : Zip (y :: r) := by
      rcases h with h | h
      · cases h
      · refine .inr ?_
        obtain ⟨i, z, e⟩ : ∃ i z, y :: r = i ++ [z] := ⟨(y :: r).dropLast, (y :: r).getLast (by simp), (List.dropLast_concat_getLast _).symm⟩
        rw [e, show x :: (i ++ [z]) = (x :: i) ++ [z] by rfl, Zk6] at h
        rw [e, Zk6]; exact h
    have ih := tb_bv hr
    have hb := bv_bd (y :: r)
    have hx := bn_bd x
    have h0 : bv (y :: r) ≠ 0 := fun e => by rw [e, Zgg (Int.le_refl _)] at ih; cases ih
    rw [show bv (x :: y :: r) = bn x + 2 * bv (y :: r) from rfl, tb_pos om, show (bn x + 2 * bv (y :: r)) / 2 = bv (y :: r) by omega, ih]
    congr 1
    cases x <;> simp [bn] <;> omega
theorem bv_cut {a : List Bool} (h1 : 0 < (a.length : Int)) (h : ¬ ix a ((a.length : Int) - 1) = true) : bv (a.take (a.length - 1)) = bv a := by
  obtain ⟨i, z, rfl⟩ : ∃ i z, a = i ++ [z] := ⟨a.dropLast, a.getLast (by intro e; subst e; simp at h1), (List.dropLast_concat_getLast _).symm⟩
  rw [Zk6] at h
  have : z = false := by simpa using h
  subst this
  rw [Zko, show (i ++ [false]).take ((i ++ [false]).length - 1) = i by simp]
  simp [bn]
theorem tb_ix {n : Int} (h0 : 0 ≤ n) {i : Int} (hi : 0 ≤ i) : ix (tb n) i = decide (n / 2 ^ i.toNat % 2 = 1) := by
  by_cases h : n ≤ 0
  · rw [Zgg h, show n = 0 by omega]; simp [ix]
  · rw [tb_pos om]
    by_cases h1 : i = 0
    · subst h1; simp [ix]
    · have ih := tb_ix (n := n / 2) om (i := i - 1) om
      have e : ix (decide (n % 2 = 1) :: tb (n / 2)) i = ix (tb (n / 2)) (i - 1) := by
        unfold ix; rw [show i.toNat = (i - 1).toNat + 1 by omega]; simp
      rw [e, ih, Int.ediv_ediv_of_nonneg dc, show i.toNat = (i - 1).toNat + 1 by omega, Int.pow_succ, Int.mul_comm]
termination_by n.toNat
decreasing_by omega
def atB (b : List Bool) (i : Int) : Bool := decide (0 ≤ i) && (decide (i < b.length) && ix b i)
theorem ixb_over {b : List Bool} {i : Int} (h : (b.length : Int) ≤ i) : ix b i = false := by
  unfold ix
  have e : b.getD i.toNat default = default := by simp [show b.length ≤ i.toNat by omega]
  rw [e]; rfl
theorem Ziu {n i : Int} (h0 : 0 ≤ n) : atB (tb n) i = Zex n i := by
  unfold atB Zex
  by_cases hi : 0 ≤ i
  · rw [decide_eq_true hi, Bool.true_and, Bool.true_and, ← tb_ix h0 hi]
    by_cases hl : i < (tb n).length
    · rw [decide_eq_true hl, Bool.true_and]
    · rw [ixb_over om]; simp
  · simp [hi]
theorem Zkz {n i : Int} (h0 : 0 ≤ n) (hi : 0 ≤ i) : n % 2 ^ (i + 1).toNat = n % 2 ^ i.toNat + 2 ^ i.toNat * bn (Zex n i) := by
  have hp := Za5 i.toNat
  unfold Zex
  rw [decide_eq_true hi, Bool.true_and, bn_odd, show (i + 1).toNat = i.toNat + 1 by omega, Int.pow_succ]
  generalize (2 : Int) ^ i.toNat = p at hp
  have e := Int.mul_ediv_add_emod n p
  have r0 := Int.emod_nonneg n (show p ≠ 0 by omega)
  have r1 := Int.emod_lt_of_pos n hp
  have q := Int.mul_ediv_add_emod (n / p) 2
  have e1 : n = (n % p + p * (n / p % 2)) + p * 2 * (n / p / 2) := by
    have : p * (2 * (n / p / 2) + n / p % 2) = p * (n / p) := by rw [q]
    grind
  have hb : n / p % 2 = 0 ∨ n / p % 2 = 1 := by omega
  conv => lhs; rw [e1]
  rw [Int.add_mul_emod_self_left]
  rcases hb with hb | hb
  · rw [hb, Int.mul_zero, Int.add_zero, Int.emod_eq_of_lt r0 om]
  · rw [hb, Int.mul_one, Int.emod_eq_of_lt om om]
theorem Zjt {n i : Int} (h0 : 0 ≤ n) (hi : Zeb n ≤ i) : n % 2 ^ i.toNat = n := by
  refine Int.emod_eq_of_lt h0 ?_
  have h := bv_bd (tb n)
  rw [bv_tb h0] at h
  have h2 := Zgp (n := n)
  have : (2 : Int) ^ (tb n).length ≤ 2 ^ i.toNat := by
    rw [show i.toNat = (tb n).length + (i.toNat - (tb n).length) by omega, Int.pow_add]
    have := Int.mul_le_mul_of_nonneg_left (show 1 ≤ (2 : Int) ^ (i.toNat - (tb n).length) from Za5 _) (Int.le_of_lt (Za5 (tb n).length))
    omega
  omega
theorem u32_rep1 {w : World} {F : Nat → Prop} {xs : List Int} (hL : Lim xs) : ∀ (i : Nat) (u : Value) (x : Int), (xs.map fun x => Value.int .u32 x)[i]? = some u → xs[i]? = some x → Kd.u32.rep w F [u] x := by
  intro i u x hu hx
  rw [List.getElem?_map, hx] at hu
  simp at hu
  exact ⟨by rw [← hu], hL x (List.mem_of_getElem? hx)⟩
theorem Ziw {w : World} {F : Nat → Prop} {g t m : Nat} (xs : List Int) (h : Blk w g t (xs.map fun x => Value.int .u32 x).toArray) (hF : ¬ F g) (hm : m = xs.length) (h63 : m ≤ 9223372036854775807) (hL : Lim xs := by decide) : Sl Kd.u32 w F (.slice (some ⟨g, 0, none⟩) m m) xs :=
  Zfw rfl h.range (by simp) hm hF h.lt h63 (u32_rep1 hL)
theorem lit_u32 {w w0 : World} {t g : Nat} {F : Nat → Prop} {v : Value} {xs : List Int} {e base : Nat} {x : Int} (h : Blk w g t [Value.int .u32 x].toArray) (ho : Gw.Own Kd.u32 e base w0 F v xs) (hF : ¬ F g) (hg : w0.heap.size = g) (hx : 0 ≤ x ∧ x < 4294967296) :
    Sl Kd.u32 w (Out F v) (.slice (some ⟨g, 0, none⟩) 1 1) [x] :=
  Zfw rfl h.range rfl rfl (fun h => h.elim hF (fun h => by have := (ho.lt g h).2; omega)) h.lt dc (u32_rep1 (xs := [x]) (fun y hy => by rw [List.mem_singleton.1 hy]; exact hx))
theorem Zcu {w w0 : World} {t g : Nat} {F : Nat → Prop} {v : Value} {xs : List Bool} {e base : Nat} {x : Bool} (h : Blk w g t [Value.bool x].toArray) (ho : Gw.Own Kd.bool e base w0 F v xs) (hF : ¬ F g) (hg : w0.heap.size = g) :
    Sl Kd.bool w (Out F v) (.slice (some ⟨g, 0, none⟩) 1 1) [x] :=
  Zfw rfl h.range rfl rfl (fun h => h.elim hF (fun h => by have := (ho.lt g h).2; omega)) h.lt dc (fun i u y hu hx => by
    cases i with
    | zero => simp at hu hx; subst hu; subst hx; exact ⟨rfl, trivial⟩
    | succ i => simp at hu)
instance {xs : List Int} : Decidable (Lim xs) := by unfold Lim; exact inferInstance
end Go.Gw
namespace Go.Gw
open Go.RowKit
section
variable {P : Program} {ops : Array Oper} {Q : Exit → Act → World → Prop} {Zao : List Oper} {n : Nat} {D : List Deferred} {ρ : Env} {w : World}
variable {d ty xt yt : Nat} {pos : String} {after : Array Edge} {gd : Option (Nat × Bool)} {C : Value → World → Prop} {x y : Operand} {k j : IntKind} {a b M : Int}
theorem s_mulm (hk : k.signed = false) (hM : (2 : Int) ^ k.bits = M) (hx : opv ρ x = some (.int k a)) (hy : opv ρ y = some (.int k b)) (h : C (.int k ((a * b) % M)) w) : OpW P ⟨some d, .binOp .mul xt x y yt, ty, pos, after, gd⟩ n D ρ w C :=
  s_mulw hx hy (by rw [Zin hk, hM]; exact h)
theorem s_neg (hx : opv ρ x = some (.int .i64 a)) (hb : -9223372036854775808 ≤ -a ∧ -a ≤ 9223372036854775807) (h : C (.int .i64 (-a)) w) : OpW P ⟨some d, .unOp .neg xt x, ty, pos, after, gd⟩ n D ρ w C :=
  Za3 (v := .int .i64 (-a)) (fun e he => by
    have h1 : Op.unary .neg (.int .i64 a) = pure (.int .i64 (-a)) := by
      show Op.intArith .sub .i64 0 a = _
      simp [Op.intArith, Zgm hb]
    simp [execOp, he x _ hx, h1]) h
theorem s_max {kd kd' : IntKind} {i j : Int} {ats : Array TypeId} (hx : opv ρ x = some (.int kd i)) (hy : opv ρ y = some (.int kd' j)) (k : C (.int kd (max i j)) w) :
    OpW P ⟨some d, .call { callee := .builtin .max, args := #[x, y], argTypes := ats }, ty, pos, after, gd⟩ n D ρ w C := by
  refine Za3 (fun ev he => ?_) k
  have e : (if i < j then j else i) = max i j := by omega
  simp [execOp, resolve, invoke, builtin, he x _ hx, he y _ hy, Builtin.max_, Builtin.max2, e]
end
theorem bits_step {os : List Bool} {x V : Int} (h : bv os + 2 ^ os.length * x = V) : bv (os ++ [decide (x % 2 = 1)]) + 2 ^ (os ++ [decide (x % 2 = 1)]).length * (x / 2) = V := by
  rw [Zko, bn_odd, List.length_append, List.length_singleton, Int.pow_succ]
  have e := Int.mul_ediv_add_emod x 2
  grind
theorem half_bd {x k : Int} (hx : 0 ≤ x ∧ x < 2 ^ (32 - k).toNat) (h0 : 0 ≤ k) (h1 : k < 32) : 0 ≤ x / 2 ∧ x / 2 < 2 ^ (32 - (k + 1)).toNat := by
  have e : (2 : Int) ^ (32 - k).toNat = 2 ^ (32 - (k + 1)).toNat * 2 := by rw [← Int.pow_succ]; congr 1; omega
  omega
theorem bits_end {os : List Bool} {x V k : Int} (h : bv os + 2 ^ os.length * x = V) (hx : 0 ≤ x ∧ x < 2 ^ (32 - k).toNat) (hk : k = 32) : bv os = V := by
  subst hk
  have : x = 0 := by have := hx.2; simp at this; omega
  subst this; simpa using h
theorem bits_next {os : List Bool} {xs : List Int} {i : Int} (h : bv os = nv (xs.take i.toNat) + PW i.toNat * ix xs i) (h0 : 0 ≤ i) : bv os = nv (xs.take (i + 1).toNat) := by rw [Zhc xs h0, h]
theorem right_tb (n : Int) : Zip (tb n) := by
  by_cases h : n ≤ 0
  · rw [Zgg h]; exact .inl rfl
  · refine .inr ?_
    have hb := Zhu (n := n) om
    obtain ⟨k, e, h1, h2⟩ := hb
    have hl := Zgp (n := n)
    rw [tb_ix om om, show (((tb n).length : Int) - 1).toNat = k by omega]
    have hq : n / 2 ^ k = 1 := by
      have hp := Za5 k
      rw [Int.pow_succ] at h2
      have a1 : 1 ≤ n / 2 ^ k := (Int.le_ediv_iff_mul_le hp).2 om
      have a2 : n / 2 ^ k < 2 := Int.ediv_lt_of_lt_mul hp om
      omega
    rw [hq]; rfl
theorem bv_zero_right {b : List Bool} (h : Zip b) (h0 : bv b = 0) : b = [] := by rw [← tb_bv h, h0, Zgg (Int.le_refl _)]
theorem right_drop {b : List Bool} (h : Zip b) {i : Nat} (hi : i < b.length) : Zip (b.drop i) := by
  rcases h with h | h
  · subst h; simp at hi
  · refine .inr ?_
    unfold ix at h ⊢
    rw [List.length_drop]
    have e1 : ((b.length : Int) - 1).toNat = b.length - 1 := by omega
    have e2 : (((b.length - i : Nat) : Int) - 1).toNat = b.length - i - 1 := by omega
    rw [e1] at h
    rw [e2, List.getD_eq_getElem?_getD, List.getElem?_drop, show i + (b.length - i - 1) = b.length - 1 by omega, ← List.getD_eq_getElem?_getD]
    exact h
theorem bv_chunk (d : List Bool) : bv d = bv (d.take 32) + 4294967296 * bv (d.drop 32) := by
  have h := Zjv (d.take 32) (d.drop 32)
  rw [List.take_append_drop] at h
  by_cases hl : 32 ≤ d.length
  · rw [show (d.take 32).length = 32 by simp; omega] at h
    exact h
  · rw [List.drop_of_length_le om] at h ⊢
    rw [h]; simp [bv]
theorem take_snocB {a : List Bool} {i : Int} (h0 : 0 ≤ i) (h1 : i < a.length) : a.take (i + 1).toNat = a.take i.toNat ++ [ix a i] := by
  rw [show (i + 1).toNat = i.toNat + 1 by omega, List.take_add_one]
  unfold ix
  simp [show i.toNat < a.length by omega]
theorem ix_dropB {a : List Bool} {i k : Int} (h0 : 0 ≤ i) (h : i ≤ k) : ix (a.drop i.toNat) (k - i) = ix a k := by
  unfold ix; rw [List.getD_eq_getElem?_getD, List.getElem?_drop, show i.toNat + (k - i).toNat = k.toNat by omega, ← List.getD_eq_getElem?_getD]
theorem of_step {bs : List Bool} {i k x p : Int} (h0 : 0 ≤ i) (hk : i ≤ k ∧ k < bs.length ∧ k < i + 32) (hx : x = bv ((bs.drop i.toNat).take (k - i).toNat)) (hp : p = 2 ^ (k - i).toNat % 4294967296) :
    p = 2 ^ (k - i).toNat ∧ 0 ≤ x ∧ x < p ∧ 0 < p ∧ p ≤ 2147483648 ∧ (p * 2) % 4294967296 = 2 ^ (k + 1 - i).toNat % 4294967296 ∧ x + bn (ix bs k) * p = bv ((bs.drop i.toNat).take (k + 1 - i).toNat) := by
  have hb : (2 : Int) ^ (k - i).toNat ≤ 2 ^ 31 := by
    obtain ⟨r, hr⟩ : ∃ r, 31 = (k - i).toNat + r := ⟨31 - (k - i).toNat, by omega⟩
    rw [hr, Int.pow_add]
    have := Int.mul_le_mul_of_nonneg_left (show 1 ≤ (2 : Int) ^ r from Za5 _) (Int.le_of_lt (Za5 (k - i).toNat))
    omega
  have hb' : (2 : Int) ^ (k - i).toNat ≤ 2147483648 := hb
  have hpp := Za5 (k - i).toNat
  have e : p = 2 ^ (k - i).toNat := by rw [hp]; omega
  have hl : ((bs.drop i.toNat).take (k - i).toNat).length = (k - i).toNat := by simp; omega
  have hbd := bv_bd ((bs.drop i.toNat).take (k - i).toNat)
  rw [hl] at hbd
  refine ⟨e, by rw [hx]; exact hbd.1, by rw [hx, e]; exact hbd.2, by omega, by omega, ?_, ?_⟩
  · rw [e, show (k + 1 - i).toNat = (k - i).toNat + 1 by omega, Int.pow_succ]
  · rw [show k + 1 - i = (k - i) + 1 by omega, take_snocB om (by simp; omega), Zko, hl, ← hx, ← e, ix_dropB h0 hk.1, Int.mul_comm]
theorem of_chunk {bs : List Bool} {i k x : Int} (h0 : 0 ≤ i) (hk : i ≤ k ∧ k ≤ bs.length ∧ k ≤ i + 32) (hx : x = bv ((bs.drop i.toNat).take (k - i).toNat)) (hend : ¬ (k < bs.length ∧ k < i + 32)) : x = bv ((bs.drop i.toNat).take 32) := by
  rw [hx]
  by_cases h : k = i + 32
  · rw [show (k - i).toNat = 32 by omega]
  · have hl : (bs.drop i.toNat).length ≤ (k - i).toNat := by simp; omega
    have hl2 : (bs.drop i.toNat).length ≤ 32 := by simp; omega
    rw [List.take_of_length_le hl, List.take_of_length_le hl2]
theorem of_next {bs : List Bool} {os : List Int} {i x : Int} (hr : Zip bs) (h0 : 0 ≤ i) (hi : i < bs.length) (hx : x = bv ((bs.drop i.toNat).take 32)) (h : nv os + PW os.length * bv (bs.drop i.toNat) = bv bs) :
    (0 ≤ x ∧ x < 4294967296) ∧ nv (os ++ [x]) + PW (os ++ [x]).length * bv (bs.drop (i + 32).toNat) = bv bs ∧ ((i + 32 < bs.length) ∨ Zdb (os ++ [x]) = true) := by
  have hc := bv_chunk (bs.drop i.toNat)
  rw [List.drop_drop, ← hx, show i.toNat + 32 = (i + 32).toNat by omega] at hc
  have hbd := bv_bd ((bs.drop i.toNat).take 32)
  have hpw : (2 : Int) ^ ((bs.drop i.toNat).take 32).length ≤ 4294967296 := by
    obtain ⟨r, hr⟩ : ∃ r, 32 = ((bs.drop i.toNat).take 32).length + r := ⟨32 - ((bs.drop i.toNat).take 32).length, by have := List.length_take_le 32 (bs.drop i.toNat); omega⟩
    have e : (4294967296 : Int) = 2 ^ 32 := rfl
    rw [e]
    conv => rhs; rw [hr]
    rw [Int.pow_add]
    have := Int.mul_le_mul_of_nonneg_left (show 1 ≤ (2 : Int) ^ r from Za5 _) (Int.le_of_lt (Za5 ((bs.drop i.toNat).take 32).length))
    omega
  refine ⟨by rw [hx]; omega, ?_, ?_⟩
  · rw [Zjc, List.length_append, List.length_singleton, Zij, ← h, hc]; grind
  · by_cases hl : i + 32 < bs.length
    · exact .inl hl
    · refine .inr ?_
      rw [Zc9]
      have hz : x ≠ 0 := fun e => by
        rw [List.drop_of_length_le (i := (i + 32).toNat) om, e] at hc
        have h1 := bv_zero_right (right_drop hr (i := i.toNat) om) (by simpa [bv] using hc)
        have h2 := congrArg List.length h1
        simp at h2; omega
      simpa using hz
theorem of_end {bs : List Bool} {os : List Int} {i : Int} (hL : Lim os) (hi : (bs.length : Int) ≤ i) (h : nv os + PW os.length * bv (bs.drop i.toNat) = bv bs) (hr : (i < bs.length) ∨ Zdb os = true) : tl (bv bs) = os := by
  rw [List.drop_of_length_le om] at h
  rw [← h, show nv os + PW os.length * bv [] = nv os by simp [bv], tl_nv hL (hr.resolve_left om)]
theorem tb_le {b : List Bool} {m : Int} (h : (b.length : Int) ≤ m) : ((tb (bv b)).length : Int) ≤ m := by
  have hb := bv_bd b
  rcases Int.lt_or_le m (tb (bv b)).length with h1 | h1
  · exfalso
    rw [Zgp] at h1
    have h0 : 0 < bv b := by
      rcases Int.lt_or_le 0 (bv b) with h | h
      · exact h
      · rw [Zhv h] at h1; omega
    obtain ⟨k, e, k1, k2⟩ := Zhu h0
    have hle : (2 : Int) ^ b.length ≤ 2 ^ k := by
      rw [show k = b.length + (k - b.length) by omega, Int.pow_add]
      have := Int.mul_le_mul_of_nonneg_left (show 1 ≤ (2 : Int) ^ (k - b.length) from Za5 _) (Int.le_of_lt (Za5 b.length))
      omega
    omega
  · exact h1
theorem Ze5 {xs : List Int} (h : Lim xs) : (tb (nv xs)).length ≤ 32 * xs.length := by
  have h0 := Zap h
  have h1 := Zj2 h
  rcases Nat.lt_or_ge (32 * xs.length) (tb (nv xs)).length with h2 | h2
  · exfalso
    have hl := Zgp (n := nv xs)
    have hp : 0 < nv xs := by
      rcases Int.lt_or_le 0 (nv xs) with h | h
      · exact h
      · rw [Zgg h] at h2; simp at h2
    obtain ⟨k, e, k1, k2⟩ := Zhu hp
    rw [Zlf] at h1
    have hle : (2 : Int) ^ (32 * xs.length) ≤ 2 ^ k := by
      rw [show k = 32 * xs.length + (k - 32 * xs.length) by omega, Int.pow_add]
      have := Int.mul_le_mul_of_nonneg_left (show 1 ≤ (2 : Int) ^ (k - 32 * xs.length) from Za5 _) (Int.le_of_lt (Za5 (32 * xs.length)))
      omega
    omega
  · exact h2
theorem Zh0 {n i : Int} (hi : 0 ≤ i) : n / 2 ^ i.toNat = 2 * (n / 2 ^ (i + 1).toNat) + bn (Zex n i) := by
  unfold Zex
  rw [decide_eq_true hi, Bool.true_and, bn_odd, show (i + 1).toNat = i.toNat + 1 by omega, Int.pow_succ, ← Int.ediv_ediv_of_nonneg (Int.le_of_lt (Za5 _))]
  omega
theorem div_top {n : Int} (h0 : 0 ≤ n) {i : Int} (hi : Zeb n ≤ i) : n / 2 ^ i.toNat = 0 := by
  have h := Zjt h0 hi
  refine Int.ediv_eq_zero_of_lt h0 ?_
  rw [← h]; exact Int.emod_lt_of_pos _ (Za5 _)
theorem bcmp_next {m n i : Int} (hi : 0 ≤ i) (h : m / 2 ^ (i + 1).toNat = n / 2 ^ (i + 1).toNat) (hb : Zex m i = Zex n i) : m / 2 ^ (i - 1 + 1).toNat = n / 2 ^ (i - 1 + 1).toNat := by
  rw [show i - 1 + 1 = i by omega, Zh0 hi, Zh0 hi, h, hb]
theorem bcmp_gt {m n i : Int} (hi : 0 ≤ i) (h : m / 2 ^ (i + 1).toNat = n / 2 ^ (i + 1).toNat) (h1 : Zex m i = true) (h2 : Zex n i = false) : Zbt m n = 1 := by
  refine cmpI_gt ?_
  rcases Int.lt_or_le n m with h3 | h3
  · exact h3
  · have h4 := Int.ediv_le_ediv (Za5 i.toNat) h3
    rw [Zh0 hi, Zh0 (n := n) hi, h, h1, h2] at h4
    simp [bn] at h4; omega
theorem bcmp_lt {m n i : Int} (hi : 0 ≤ i) (h : m / 2 ^ (i + 1).toNat = n / 2 ^ (i + 1).toNat) (h1 : Zex m i = false) (h2 : Zex n i = true) : Zbt m n = -1 := by
  refine cmpI_lt ?_
  rcases Int.lt_or_le m n with h3 | h3
  · exact h3
  · have h4 := Int.ediv_le_ediv (Za5 i.toNat) h3
    rw [Zh0 hi, Zh0 (n := m) hi, h, h1, h2] at h4
    simp [bn] at h4; omega
theorem bcmp_end {m n i : Int} (hi : i = -1) (h : m / 2 ^ (i + 1).toNat = n / 2 ^ (i + 1).toNat) : Zbt m n = 0 := by
  subst hi
  exact cmpI_eq (by simpa using h)
theorem Ze6 {os : List Bool} {a b i n : Int} {c : Bool} (ha : 0 ≤ a) (hb : 0 ≤ b) (hi : 0 ≤ i) (hl : (os.length : Int) = i) (h : bv os + 2 ^ i.toNat * bn c = a % 2 ^ i.toNat + b % 2 ^ i.toNat) (hn : n = bn (Zex a i) + bn (Zex b i) + bn c) :
    bv (os ++ [decide (n % 2 = 1)]) + 2 ^ (i + 1).toNat * bn (decide (1 < n)) = a % 2 ^ (i + 1).toNat + b % 2 ^ (i + 1).toNat := by
  rw [Zko, bn_odd, Zkz ha hi, Zkz hb hi, show os.length = i.toNat by omega, show (i + 1).toNat = i.toNat + 1 by omega, Int.pow_succ]
  have e : n = n % 2 + 2 * bn (decide (1 < n)) := by
    have h1 := bn_bd (Zex a i)
    have h2 := bn_bd (Zex b i)
    have h3 := bn_bd c
    unfold bn
    by_cases h4 : 1 < n <;> simp [h4] <;> omega
  generalize bn (decide (1 < n)) = u at e ⊢
  have e2 : 2 ^ i.toNat * (n % 2 + 2 * u) = 2 ^ i.toNat * (bn (Zex a i) + bn (Zex b i) + bn c) := by rw [← e, hn]
  grind
theorem badd_end {os : List Bool} {a b i : Int} {c : Bool} (ha : 0 ≤ a) (hb : 0 ≤ b) (hi : 0 ≤ i) (hl : (os.length : Int) = i) (h : bv os + 2 ^ i.toNat * bn c = a % 2 ^ i.toNat + b % 2 ^ i.toNat) (h1 : Zeb a < i) (h2 : Zeb b < i) : bv os = a + b := by
  rw [Zjt ha om, Zjt hb om] at h
  have a1 := Zjt ha (i := i - 1) om
  have b1 := Zjt hb (i := i - 1) om
  have a2 := Int.emod_lt_of_pos a (Za5 (i - 1).toNat)
  have b2 := Int.emod_lt_of_pos b (Za5 (i - 1).toNat)
  have e : (2 : Int) ^ i.toNat = 2 ^ (i - 1).toNat * 2 := by rw [← Int.pow_succ]; congr 1; have : 0 ≤ Zeb a := by (unfold Zeb; split <;> omega)
                                                             omega
  have := (bv_bd os).1
  cases c with
  | false => simpa [bn] using h
  | true => simp [bn] at h; omega
theorem Zfb {os : List Bool} {a b i n u u' : Int} (ha : 0 ≤ a) (hb : 0 ≤ b) (hi : 0 ≤ i) (hl : (os.length : Int) = i) (h : bv os = a % 2 ^ i.toNat - b % 2 ^ i.toNat + 2 ^ i.toNat * u) (hn : n = bn (Zex a i) - bn (Zex b i) - u + 2 * u') (hnb : 0 ≤ n ∧ n ≤ 1) :
    bv (os ++ [decide (n = 1)]) = a % 2 ^ (i + 1).toNat - b % 2 ^ (i + 1).toNat + 2 ^ (i + 1).toNat * u' := by
  have e : bn (decide (n = 1)) = n := by
    unfold bn
    by_cases h4 : n = 1 <;> simp [h4] <;> omega
  rw [Zko, e, Zkz ha hi, Zkz hb hi, show os.length = i.toNat by omega, show (i + 1).toNat = i.toNat + 1 by omega, Int.pow_succ, h, hn]
  grind
theorem bsub_end {os : List Bool} {a b i u : Int} (ha : 0 ≤ a) (hb : 0 ≤ b) (hle : b ≤ a) (hl : (os.length : Int) = i) (h : bv os = a % 2 ^ i.toNat - b % 2 ^ i.toNat + 2 ^ i.toNat * u) (hu : 0 ≤ u ∧ u ≤ 1) (h1 : i = Zeb a) : bv os = a - b := by
  have a1 := Zjt ha (i := i) om
  have a2 := Int.emod_lt_of_pos a (Za5 i.toNat)
  rw [a1] at a2
  rw [a1, Int.emod_eq_of_lt hb om] at h
  have h3 := bv_bd os
  rw [show os.length = i.toNat by omega] at h3
  have : u = 0 := by
    rcases Int.lt_or_eq_of_le hu.1 with h4 | h4
    · obtain rfl : u = 1 := by omega
      omega
    · exact h4.symm
  subst this
  simpa using h
end Go.Gw
namespace Go.Gw
open Go.RowKit
section
variable {P : Program} {ops : Array Oper} {Q : Exit → Act → World → Prop} {Zao : List Oper} {n : Nat} {D : List Deferred} {ρ : Env} {w : World}
variable {d ty xt yt : Nat} {pos : String} {after : Array Edge} {gd : Option (Nat × Bool)} {C : Value → World → Prop} {x y : Operand} {k j : IntKind} {a b M : Int}
theorem s_negk (hk : k.signed = false) (hM : (2 : Int) ^ k.bits = M) (hx : opv ρ x = some (.int k a)) (h : C (.int k ((-a) % M)) w) : OpW P ⟨some d, .unOp .neg xt x, ty, pos, after, gd⟩ n D ρ w C :=
  Za3 (v := .int k ((-a) % M)) (fun e he => by
    have h1 : Op.unary .neg (.int k a) = pure (.int k ((-a) % M)) := by
      show Op.intArith .sub k 0 a = _
      simp [Op.intArith, Zin hk, hM]
    simp [execOp, he x _ hx, h1]) h
end
section
variable {P : Program} {n : Nat} {ρ : Env} {w : World}
theorem Zcx {Q : Exit → Act → World → Prop} {fn : Func} {R : Ending → World → Prop} {t ty m g : Nat} {cs : List Value} (hr : fn.results = #[.cell t ty]) (ht : RowF P ty m) (hl : look ρ t = some (.pointer (some ⟨g, 0, none⟩)))
    (hc : w.rangeAt g 0 cs) (hm : cs.length = m) (h : R (.returned (.agg cs.toArray)) w)
    (hQ : ∀ a w, Q .ret a w = bodyPost P fn R .ret a w := by exact fun _ _ => rfl) : W P .ret Q n [] ρ w := by
  intro a ha
  refine wp_ret ?_
  rw [hQ]
  refine bodyPost_ret (v := .agg cs.toArray) ?_ ha.defers h
  obtain ⟨dd, hu, hrow, hs⟩ := ht.out
  have h1 : a.tmps[t]?.getD undef = .pointer (some ⟨g, 0, none⟩) := by rw [ha.slot t _ hl]; rfl
  have h3 := run_loadVar_mid (P := P) w g 0 ty cs dd hc hu hrow (by rw [hs, hm])
  simp [results, hr, h1, asAddr, h3]
theorem w_unroll {D : List Deferred} {Q : Exit → Act → World → Prop} {c : Code} (m : Nat) (h : W P c (Exit.then (Code.rounds P c Q m) Q) n D ρ w) : W P (.loop c) Q n D ρ w := fun a ha => wp_loop_rounds (m + 1) (h a ha)
theorem Zjy {D : List Deferred} {Q : Exit → Act → World → Prop} {c : Code} {m : Nat} (h : W P c (Exit.then (Code.rounds P c Q m) Q) n D ρ w) : Nx n D ρ w (Exit.then (Code.rounds P c Q (m + 1)) Q .normal) := h
end
section
variable {P : Program} {ops : Array Oper} {Q : Exit → Act → World → Prop} {Zao : List Oper} {n : Nat} {D : List Deferred} {ρ : Env} {w : World}
variable {d ty xt yt : Nat} {pos : String} {after : Array Edge} {gd : Option (Nat × Bool)} {C : Value → World → Prop} {x y : Operand} {a b c : Int}
theorem Zln (hx : opv ρ x = some (.int .i64 a)) (hy : opv ρ y = some (.int .i64 b)) (e : a + b = c) (hb : -9223372036854775808 ≤ c ∧ c ≤ 9223372036854775807)
    (h : C (.int .i64 c) w) : OpW P ⟨some d, .binOp .add xt x y yt, ty, pos, after, gd⟩ n D ρ w C :=
  Zah hx hy om (e ▸ h)
end
end Go.Gw
