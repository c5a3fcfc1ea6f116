/- Part of the proof: a library for walks, plain laws, and functions' walks. -/
import Derived.Test.YtfljelnfjbbknaaM4
import Derived.Test.YtfljelnfjbbknaaM2
import Derived.Test.YtfljelnfjbbknaaRows
import Derived.Test.YtfljelnfjbbknaaM3
import Derived.ChangeMaps5
import Derived.OpenShut
set_option linter.unusedSimpArgs false
set_option linter.unusedVariables false
set_option maxRecDepth 20000
set_option maxRecDepth 100000
namespace Go.Gw
open Go.RowKit
theorem Zkc : ∀ (t : Tr) (x y : Int), cat (pru t) x y = cat t x y
  | .no, _, _ => rfl
  | .leaf a b c d, x, y => by
    by_cases h : emp (.leaf a b c d) = true
    · rw [Zib h, Zdi _ _ _ h]; rfl
    · simp only [pru, if_neg h]
  | .nd u a b c d, x, y => by
    by_cases h : emp (.nd u a b c d) = true
    · rw [Zib h, Zdi _ _ _ h]; rfl
    · simp only [pru, if_neg h, cat, Zkc a, Zkc b, Zkc c, Zkc d]
def Zcy (q : List Nd) (X Y : Int) : Int := mid (Zag q) (tr q q.length) X Y
theorem celQ_nil (X Y : Int) : Zcy [] X Y = 0 := rfl
def Can (q : List Nd) : Prop := ∃ t v, wf v t ∧ q = canT (Zhl t)
theorem can_of {t : Tr} {v : Int} (h : wf v t) : Can (canT (Zhl t)) := ⟨t, v, h, rfl⟩
theorem Zkr {t : Tr} {v : Int} (h : wf v t) (X Y : Int) : Zcy (canT (Zhl t)) X Y = mid v t X Y := by
  obtain ⟨u, h1, h2, h3⟩ := Zhw h
  rw [← h3]
  generalize Zhl t = s at *
  unfold Zcy canT
  by_cases he : emp s = true
  · rw [Zds s [] he]
    unfold mid
    rw [Zdi s _ _ he]; rfl
  · have he : emp s = false := by simpa using he
    obtain ⟨r1, r2⟩ := vis_root h1 he
    obtain ⟨c1, c2⟩ := Zc2 s h1 Zg5
    have hlv : Zag (vis s []).1 = u := by
      unfold Zag; rw [if_neg om, ← r1]; exact c2 om
    rw [hlv, ← r1, Zlt c1 s h1 (List.prefix_refl _)]
    unfold mid; rw [Zkc]
theorem can_eq {p q : List Nd} (hp : Can p) (hq : Can q) (h : ∀ X Y : Int, Zcy p X Y = Zcy q X Y) : p = q := by
  obtain ⟨s, v, hs, rfl⟩ := hp
  obtain ⟨t, w, ht, rfl⟩ := hq
  exact can_mid hs ht fun X Y => by rw [← Zkr hs, ← Zkr ht, h]
theorem Ze3 : Can [] := ⟨.no, 1, trivial, rfl⟩
theorem Can.ok {q : List Nd} (h : Can q) : Zaf q = true := by
  obtain ⟨t, v, ht, rfl⟩ := h
  obtain ⟨u, h1, h2, h3⟩ := Zhw ht
  exact rightB_loose h1
theorem Can.canL {q : List Nd} (h : Can q) : CanL q := by
  obtain ⟨t, v, ht, rfl⟩ := h
  obtain ⟨u, h1, h2, h3⟩ := Zhw ht
  exact (Zc2 (Zhl t) h1 Zg5).1
theorem Can.right {q : List Nd} (h : Can q) : Zfr q = true := by
  obtain ⟨t, v, ht, rfl⟩ := h
  obtain ⟨u, h1, h2, h3⟩ := Zhw ht
  exact right_can h1 h2
theorem Can.full {q : List Nd} (h : Can q) : Full q := fun n h0 h1 => by
  have hf := (Zkl q).1 (full_can h.canL) (n - 1) om om
  rw [show n - 1 + 1 = n by omega, has_tr h.ok n om h1] at hf
  simpa using hf
theorem Can.wf {q : List Nd} (h : Can q) : wf (Zag q) (tr q q.length) := Zi2 h.ok _ om (Int.le_refl _) _ fun h0 => by unfold Zag; rw [if_neg om]
theorem celQ_out {q : List Nd} (h : Can q) {X Y : Int} (ho : ¬ (-(hf (Zag q)) ≤ X ∧ X < hf (Zag q) ∧ -(hf (Zag q)) ≤ Y ∧ Y < hf (Zag q))) : Zcy q X Y = 0 := by
  have := Zc0 (Zag q)
  exact Zcc _ h.wf om
theorem celQ_zero {q : List Nd} (h : Can q) (hz : ∀ X Y : Int, Zcy q X Y = 0) : q = [] := can_eq h Ze3 fun X Y => by rw [hz, celQ_nil]
theorem Zmh : Zaf [] = true := Zg5.ok
theorem Zl9 {cs : List Cl} (hb : StB cs) : (Can (Zd2 cs).1) ∧ ((Zd2 cs).2 = 0 → Zbz (Zbc cs) ≤ 1329 ∧ ∀ X Y : Int, Zcy (Zd2 cs).1 X Y = stL cs X Y) ∧ ((Zd2 cs).2 ≠ 0 → 1329 < Zbz (Zbc cs) ∧ (Zd2 cs).1 = []) := by
  unfold Zd2
  by_cases hl : 1329 < Zbz (Zbc cs)
  · simp only [if_pos hl]; exact ⟨Ze3, fun h => absurd h dc, fun _ => ⟨hl, trivial⟩⟩
  · simp only [if_neg hl]
    obtain ⟨⟨g1, g2⟩, g3⟩ := levelC_in (Zbc cs)
    have hin := g3 om
    revert hin
    generalize hv : Zbz (Zbc cs) = v at *
    intro hin
    obtain ⟨n, rfl⟩ : ∃ n : Nat, v = (n : Int) := ⟨v.toNat, by omega⟩
    have L := Zmu n (x := -(hf n)) (y := -(hf n)) (o := []) om om (lastL_stB hb) Zmh
    rw [show ((n : Int)).toNat = n from by omega]
    revert L
    generalize Zcr n (-(hf n)) (-(hf n)) (Zbc cs) [] = r
    intro L
    rw [Zi6 L.ok L.num.r.1 L.num.r.2]
    have hw : wf (n : Int) (tr r.1 r.2) := Zi2 L.ok r.2 L.num.r.1 L.num.r.2 _ (fun h0 => (L.num.lv h0).symm)
    refine ⟨can_of hw, fun _ => ⟨by omega, fun X Y => ?_⟩, fun h => absurd rfl h⟩
    obtain ⟨s1, s2, s3⟩ := Zl2 cs
    rw [Zkr hw, ← s3]
    unfold mid
    by_cases hr : (0 ≤ X + hf n ∧ X + hf n < 2 * hf n) ∧ 0 ≤ Y + hf n ∧ Y + hf n < 2 * hf n
    · rw [L.cel _ _ hr.1 hr.2]; congr 1 <;> omega
    · rw [Zcc _ hw om]
      exact (stA_out fun c hc e => by
        have := hin c hc
        unfold inC at this; rw [decide_eq_true_eq] at this
        omega).symm
end Go.Gw
namespace Go.Gw
open Go.RowKit
structure Least (P : Int → Prop) (o : Option Int) : Prop where
  le : ∀ x, P x → ∃ e, o = some e ∧ e ≤ x
  hit : ∀ e, o = some e → P e
structure Most (P : Int → Prop) (o : Option Int) : Prop where
  ge : ∀ x, P x → ∃ e, o = some e ∧ x + 1 ≤ e
  hit : ∀ e, o = some e → P (e - 1)
structure Around (g : Int → Int → Int) (b : Bx) : Prop where
  rng : ∀ X Y : Int, g X Y ≠ 0 → (b.x ≤ X ∧ X < b.x + b.w) ∧ b.y ≤ Y ∧ Y < b.y + b.h
  west : ∃ Y, g b.x Y ≠ 0
  east : ∃ Y, g (b.x + b.w - 1) Y ≠ 0
  north : ∃ X, g X b.y ≠ 0
  south : ∃ X, g X (b.y + b.h - 1) ≠ 0
theorem box_no {q : List Nd} (h : Can q) (hs : (bxs q).some = false) : q = [] := Classical.byContradiction fun hn => by
  rw [rbx_some h.full hn] at hs; cases hs
end Go.Gw
namespace Go.Gw
open Go.RowKit
def kq (v x y : Int) : Int := (if hf v ≤ x then 1 else 0) + (if hf v ≤ y then 2 else 0)
def Zao (v x : Int) : Int := if hf v ≤ x then x - hf v else x
theorem Zey (v x y : Int) : 0 ≤ kq v x y ∧ kq v x y < 4 := by unfold kq; split <;> split <;> omega
theorem Zh1 {v x : Int} (h2 : 2 ≤ v) (h : 0 ≤ x ∧ x < 2 * hf v) : 0 ≤ Zao v x ∧ Zao v x < 2 * hf (v - 1) := by
  have := Zen h2
  unfold Zao; split <;> omega
theorem get_nd {l : List Nd} (hl : Zaf l = true) {n x y : Int} (h0 : 1 ≤ n) (h1 : n ≤ l.length) (hv : (ix l (n - 1)).lv ≠ 1) :
    cat (tr l n) x y = cat (tr l ((ix l (n - 1)).kid (kq (ix l (n - 1)).lv x y))) (Zao (ix l (n - 1)).lv x) (Zao (ix l (n - 1)).lv y) := by
  rw [Zfx hl h0 h1 hv]
  unfold kq Zao
  by_cases hx : x < hf (ix l (n - 1)).lv
  · by_cases hy : y < hf (ix l (n - 1)).lv
    · rw [cat_a hx hy, if_neg om, if_neg om, if_neg om, if_neg om]; rfl
    · rw [cat_c hx om, if_neg om, if_pos om, if_neg om, if_pos om]; rfl
  · by_cases hy : y < hf (ix l (n - 1)).lv
    · rw [cat_b om hy, if_pos om, if_neg om, if_pos om, if_neg om]; rfl
    · rw [cat_d om om, if_pos om, if_pos om, if_pos om, if_pos om]; rfl
theorem get_leaf {l : List Nd} (hl : Zaf l = true) {n x y : Int} (h0 : 1 ≤ n) (h1 : n ≤ l.length) (hv : (ix l (n - 1)).lv = 1) (hx : 0 ≤ x ∧ x < 2) (hy : 0 ≤ y ∧ y < 2) :
    cat (tr l n) x y = (ix l (n - 1)).kid (kq 1 x y) := by
  rw [Zel hl h0 h1 hv]
  unfold kq
  rw [Zhm]
  have q1 : x = 0 ∨ x = 1 := by omega
  have q2 : y = 0 ∨ y = 1 := by omega
  rcases q1 with rfl | rfl <;> rcases q2 with rfl | rfl <;> simp [cat, Nd.kid, Zae]
theorem mod_two (a h : Int) (p : 0 ≤ h) : a % (2 * h) = a % h + h * (a / h % 2) := by
  rw [Int.mul_comm 2, Int.emod_def, Int.emod_def a h, Int.emod_def (a / h) 2, ← Int.ediv_ediv_of_nonneg p, Int.mul_sub, Int.mul_assoc]; omega
theorem nd_eta {x : Nd} {v : Int} (h : x.lv = v) : (⟨v, x.kid 0, x.kid 1, x.kid 2, x.kid 3⟩ : Nd) = x := by subst h; rfl
theorem bit_half {a v : Int} (h : 1 ≤ v) (ha : 0 ≤ a) : Zex a (v - 1) = decide (hf v ≤ a % (2 * hf v)) := by
  have p := Zc0 v
  have e : a % (2 * hf v) = a % hf v + hf v * (a / hf v % 2) := mod_two a _ om
  have h1 := Int.emod_nonneg a (show hf v ≠ 0 by omega)
  have h2 := Int.emod_lt_of_pos a p
  unfold Zex
  rw [decide_eq_true (show 0 ≤ v - 1 by omega), Bool.true_and]
  refine decide_eq_decide.2 ?_
  rw [show (2 : Int) ^ (v - 1).toNat = hf v from rfl, e]
  have h3 : a / hf v % 2 = 0 ∨ a / hf v % 2 = 1 := by omega
  rcases h3 with h3 | h3 <;> rw [h3] <;> simp <;> omega
theorem Zke {a v : Int} (h : 2 ≤ v) : Zao v (a % (2 * hf v)) = a % (2 * hf (v - 1)) := by
  have p := Zc0 v
  have e : a % (2 * hf v) = a % hf v + hf v * (a / hf v % 2) := mod_two a _ om
  have h1 := Int.emod_nonneg a (show hf v ≠ 0 by omega)
  have h2 := Int.emod_lt_of_pos a p
  rw [Zen h]
  unfold Zao
  have h3 : a / hf v % 2 = 0 ∨ a / hf v % 2 = 1 := by omega
  rcases h3 with h3 | h3 <;> rw [h3] at e <;> rw [e] <;> split <;> omega
theorem mod_rng {a v : Int} : 0 ≤ a % (2 * hf v) ∧ a % (2 * hf v) < 2 * hf v := by
  have p := Zc0 v
  exact ⟨Int.emod_nonneg a om, Int.emod_lt_of_pos a om⟩
theorem Zjo {a v : Int} (h : 0 ≤ a ∧ a < 2 * hf v) : a % (2 * hf v) = a := Int.emod_eq_of_lt h.1 h.2
theorem len_in {n v : Int} (h : 1 ≤ v) (hn : 0 ≤ n) : Zeb n ≤ v ↔ n < 2 * hf v := by
  have e : 2 * hf v = 2 ^ v.toNat := by unfold hf; rw [show v.toNat = (v - 1).toNat + 1 by omega, Int.pow_succ]; omega
  rw [e]
  by_cases h0 : n = 0
  · subst h0; rw [Zhv (Int.le_refl _)]
    exact ⟨fun _ => Za5 _, fun _ => by omega⟩
  · obtain ⟨k, hk, h1, h2⟩ := Zhu (show 0 < n by omega)
    rw [hk]
    constructor
    · intro hle
      have m : (2 : Int) ^ (k + 1) ≤ 2 ^ v.toNat := by
        have e2 : (2 : Int) ^ v.toNat = 2 ^ (k + 1) * 2 ^ (v.toNat - (k + 1)) := by rw [← Int.pow_add]; congr 1; omega
        have := Int.mul_le_mul_of_nonneg_left (show 1 ≤ (2 : Int) ^ (v.toNat - (k + 1)) by have := Za5 (v.toNat - (k + 1)); omega) (Int.le_of_lt (Za5 (k + 1)))
        omega
      omega
    · intro hlt
      refine Classical.byContradiction fun hc => ?_
      have m : (2 : Int) ^ v.toNat ≤ 2 ^ k := by
        have e2 : (2 : Int) ^ k = 2 ^ v.toNat * 2 ^ (k - v.toNat) := by rw [← Int.pow_add]; congr 1; omega
        have := Int.mul_le_mul_of_nonneg_left (show 1 ≤ (2 : Int) ^ (k - v.toNat) by have := Za5 (k - v.toNat); omega) (Int.le_of_lt (Za5 v.toNat))
        omega
      omega
def Nd.setK (x : Nd) (k c : Int) : Nd := ⟨x.lv, if k = 0 then c else x.k0, if k = 1 then c else x.k1, if k = 2 then c else x.k2, if k = 3 then c else x.k3⟩
def Zl (l : List Nd) (n v : Int) : Nd := if 0 < n then ix l (n - 1) else ⟨v, 0, 0, 0, 0⟩
def Zbk : Nat → List Nd → Int → Int → Int → Int → List Nd × Int
  | 0, l, n, _, _, _ => (l, n)
  | v + 1, l, n, x, y, s =>
    let k := kq ((v : Int) + 1) x y
    let r : List Nd × Int := if v = 0 then (l, s) else Zbk v l ((Zl l n ((v : Int) + 1)).kid k) (Zao ((v : Int) + 1) x) (Zao ((v : Int) + 1) y) s
    (r.1 ++ [(Zl l n ((v : Int) + 1)).setK k r.2], (r.1.length : Int) + 1)
theorem Zk3 {l : List Nd} {n x y s : Int} : Zbk 1 l n x y s = (l ++ [(Zl l n 1).setK (kq 1 x y) s], (l.length : Int) + 1) := rfl
theorem put_nd {v : Nat} {l : List Nd} {n x y s : Int} (h : v ≠ 0) : Zbk (v + 1) l n x y s = ((Zbk v l ((Zl l n ((v : Int) + 1)).kid (kq ((v : Int) + 1) x y)) (Zao ((v : Int) + 1) x) (Zao ((v : Int) + 1) y) s).1 ++ [(Zl l n ((v : Int) + 1)).setK (kq ((v : Int) + 1) x y) (Zbk v l ((Zl l n ((v : Int) + 1)).kid (kq ((v : Int) + 1) x y)) (Zao ((v : Int) + 1) x) (Zao ((v : Int) + 1) y) s).2],
    ((Zbk v l ((Zl l n ((v : Int) + 1)).kid (kq ((v : Int) + 1) x y)) (Zao ((v : Int) + 1) x) (Zao ((v : Int) + 1) y) s).1.length : Int) + 1) := by
  simp only [Zbk, if_neg h]
theorem Zjr : ∀ (v : Nat) (l : List Nd) (n x y s : Int), (Zbk v l n x y s).1.length = l.length + v
  | 0, _, _, _, _, _ => rfl
  | v + 1, l, n, x, y, s => by
    by_cases h : v = 0
    · subst h; rw [Zk3]; simp
    · rw [put_nd h]; simp only [List.length_append, List.length_singleton]; rw [Zjr v]; omega
theorem here_lv {l : List Nd} {n v : Int} (h : NumIn l n v) : (Zl l n v).lv = v := by
  unfold Zl
  split
  · exact h.lv om
  · rfl
theorem Zks {l : List Nd} (hl : Zaf l = true) {n v k : Int} (h : NumIn l n v) (hv : v ≠ 1) (k0 : 0 ≤ k) (k1 : k < 4) : NumIn l ((Zl l n v).kid k) (v - 1) := by
  unfold Zl
  split
  · rename_i hn
    have e := h.lv om
    have r := Zc1 hl (i := n - 1) om (by have := h.r; omega) om k k0 k1
    refine ⟨⟨r.1, by have := h.r; omega⟩, fun hc => ?_⟩
    have := Zdm hl (i := n - 1) om (by have := h.r; omega) k0 k1 om hc
    omega
  · have : (⟨v, 0, 0, 0, 0⟩ : Nd).kid k = 0 := by unfold Nd.kid Zae; simp
    rw [this]; exact NumIn.zero _ _
theorem here_st {l : List Nd} (hl : Zaf l = true) {n k : Int} (h : NumIn l n 1) (k0 : 0 ≤ k) (k1 : k < 4) : 0 ≤ (Zl l n 1).kid k ∧ (Zl l n 1).kid k ≤ 255 := by
  unfold Zl
  split
  · rename_i hn
    have e := h.lv om
    have q := ((Zck l (n - 1)).1 ((Zcz l).1 hl (n - 1) om (by have := h.r; omega))).2 k k0 k1
    unfold Zf6 at q
    rw [if_pos e, Bool.or_eq_true, decide_eq_true_eq, beq_iff_eq] at q
    omega
  · have : (⟨1, 0, 0, 0, 0⟩ : Nd).kid k = 0 := by unfold Nd.kid Zae; simp
    rw [this]; omega
theorem Zep (x : Nd) (k c j : Int) (j0 : 0 ≤ j) (j1 : j < 4) : (x.setK k c).kid j = if j = k then c else x.kid j := by
  have : j = 0 ∨ j = 1 ∨ j = 2 ∨ j = 3 := by omega
  rcases this with rfl | rfl | rfl | rfl <;> simp [Nd.setK, Nd.kid, Zae, eq_comm]
structure PutOk (v : Int) (l : List Nd) (n x y s : Int) (r : List Nd × Int) : Prop where
  pre : l <+: r.1
  ok : Zaf r.1 = true
  num : NumIn r.1 r.2 v
  cel : ∀ X Y : Int, cat (tr r.1 r.2) X Y = if X = x ∧ Y = y then s else cat (tr l n) X Y
theorem here_tr {l : List Nd} (hl : Zaf l = true) {n v X Y : Int} (hv : 1 ≤ v) (h : NumIn l n v) : cat (tr l n) X Y = if v = 1 then cat (.leaf ((Zl l n v).kid 0) ((Zl l n v).kid 1) ((Zl l n v).kid 2) ((Zl l n v).kid 3)) X Y else cat (.nd v (tr l ((Zl l n v).kid 0)) (tr l ((Zl l n v).kid 1)) (tr l ((Zl l n v).kid 2)) (tr l ((Zl l n v).kid 3))) X Y := by
  unfold Zl
  by_cases hn : 0 < n
  · rw [if_pos hn]
    have e := h.lv om
    rw [tr_at hl om h.r.2, e]
    split <;> rfl
  · rw [if_neg hn, show n = 0 by have := h.r; omega, Zc8]
    split
    · simp [cat, Nd.kid, Zae]
    · simp [cat, Nd.kid, Zae, Zc8]
theorem put_ok : ∀ (v : Nat) {l : List Nd} {n x y s : Int}, 1 ≤ v → v ≤ 1329 → Zaf l = true → NumIn l n v → (0 ≤ s ∧ s ≤ 255) → (0 ≤ x ∧ x < 2 * hf v) → (0 ≤ y ∧ y < 2 * hf v) → PutOk v l n x y s (Zbk v l n x y s)
  | 0, _, _, _, _, _, h, _, _, _, _, _, _ => by omega
  | v + 1, l, n, x, y, s, _, hv, hl, hn, hs, hx, hy => by
    by_cases h0 : v = 0
    · subst h0
      have hn : NumIn l n 1 := hn
      rw [show ((0 + 1 : Nat) : Int) = 1 from rfl, Zhm] at hx hy
      rw [Zk3]
      have hst := fun k k0 k1 => here_st hl (k := k) hn k0 k1
      have hk := Zey 1 x y
      have hset : ∀ j, 0 ≤ j → j < 4 → 0 ≤ ((Zl l n 1).setK (kq 1 x y) s).kid j ∧ ((Zl l n 1).setK (kq 1 x y) s).kid j ≤ 255 := fun j j0 j1 => by
        rw [Zep _ _ _ _ j0 j1]; split
        · exact hs
        · exact hst j j0 j1
      have elv : ((Zl l n 1).setK (kq 1 x y) s).lv = 1 := here_lv hn
      obtain ⟨l1, l2⟩ := Zlp hl (hset 0 dc dc) (hset 1 dc dc) (hset 2 dc dc) (hset 3 dc dc)
      have eN : (⟨1, ((Zl l n 1).setK (kq 1 x y) s).kid 0, ((Zl l n 1).setK (kq 1 x y) s).kid 1, ((Zl l n 1).setK (kq 1 x y) s).kid 2, ((Zl l n 1).setK (kq 1 x y) s).kid 3⟩ : Nd) = (Zl l n 1).setK (kq 1 x y) s := nd_eta elv
      rw [eN] at l1 l2
      refine ⟨List.prefix_append _ _, l1, by have := Zho l ((Zl l n 1).setK (kq 1 x y) s); rwa [elv] at this, fun X Y => ?_⟩
      show cat (tr (l ++ [(Zl l n 1).setK (kq 1 x y) s]) ((l.length : Int) + 1)) X Y = _
      rw [l2, here_tr hl dc hn, if_pos (show (1 : Int) = 1 from rfl)]
      simp only [Zep _ _ _ 0 dc dc, Zep _ _ _ 1 dc dc, Zep _ _ _ 2 dc dc, Zep _ _ _ 3 dc dc]
      have hx' : x = 0 ∨ x = 1 := by omega
      have hy' : y = 0 ∨ y = 1 := by omega
      have ek : kq 1 x y = x + 2 * y := by unfold kq; rw [Zhm]; split <;> split <;> omega
      rw [ek]
      simp only [cat]
      rcases hx' with rfl | rfl <;> rcases hy' with rfl | rfl <;> by_cases a : X = 0 <;> by_cases b : X = 1 <;> by_cases c : Y = 0 <;> by_cases d : Y = 1 <;> simp [a, b, c, d] <;> omega
    · rw [put_nd h0]
      have hv2 : (2 : Int) ≤ ((v + 1 : Nat) : Int) := by omega
      have evv : (((v + 1 : Nat) : Int)) = (v : Int) + 1 := by omega
      rw [evv] at hn hx hy hv2 ⊢
      have hk := Zey ((v : Int) + 1) x y
      have hkid := fun k k0 k1 => Zks hl (k := k) hn om k0 k1
      rw [show (v : Int) + 1 - 1 = v by omega] at hkid
      have rx := Zh1 hv2 hx; have ry := Zh1 hv2 hy
      rw [show (v : Int) + 1 - 1 = v by omega] at rx ry
      have P := put_ok v om om hl (hkid _ hk.1 hk.2) hs rx ry
      revert P
      generalize Zbk v l ((Zl l n ((v : Int) + 1)).kid (kq ((v : Int) + 1) x y)) (Zao ((v : Int) + 1) x) (Zao ((v : Int) + 1) y) s = r
      intro P
      have hset : ∀ j, 0 ≤ j → j < 4 → NumIn r.1 (((Zl l n ((v : Int) + 1)).setK (kq ((v : Int) + 1) x y) r.2).kid j) v := fun j j0 j1 => by
        rw [Zep _ _ _ _ j0 j1]; split
        · exact P.num
        · exact (hkid j j0 j1).pre P.pre
      have elv : ((Zl l n ((v : Int) + 1)).setK (kq ((v : Int) + 1) x y) r.2).lv = (v : Int) + 1 := here_lv hn
      have ev : ((v : Int) + 1 - 1) = v := by omega
      obtain ⟨l1, l2⟩ := Zjb (v := (v : Int) + 1) P.ok om (by rw [ev]; exact hset 0 dc dc) (by rw [ev]; exact hset 1 dc dc) (by rw [ev]; exact hset 2 dc dc) (by rw [ev]; exact hset 3 dc dc)
      have eN : (⟨(v : Int) + 1, ((Zl l n ((v : Int) + 1)).setK (kq ((v : Int) + 1) x y) r.2).kid 0, ((Zl l n ((v : Int) + 1)).setK (kq ((v : Int) + 1) x y) r.2).kid 1, ((Zl l n ((v : Int) + 1)).setK (kq ((v : Int) + 1) x y) r.2).kid 2, ((Zl l n ((v : Int) + 1)).setK (kq ((v : Int) + 1) x y) r.2).kid 3⟩ : Nd) = (Zl l n ((v : Int) + 1)).setK (kq ((v : Int) + 1) x y) r.2 := nd_eta elv
      rw [eN] at l1 l2
      refine ⟨P.pre.trans (List.prefix_append _ _), l1, by have := Zho r.1 ((Zl l n ((v : Int) + 1)).setK (kq ((v : Int) + 1) x y) r.2); rwa [elv] at this, fun X Y => ?_⟩
      show cat (tr (r.1 ++ [(Zl l n ((v : Int) + 1)).setK (kq ((v : Int) + 1) x y) r.2]) ((r.1.length : Int) + 1)) X Y = _
      rw [l2, here_tr hl om hn, if_neg (show ¬ (v : Int) + 1 = 1 by omega)]
      simp only [Zep _ _ _ 0 dc dc, Zep _ _ _ 1 dc dc, Zep _ _ _ 2 dc dc, Zep _ _ _ 3 dc dc]
      have K : ∀ j, 0 ≤ j → j < 4 → tr r.1 ((Zl l n ((v : Int) + 1)).kid j) = tr l ((Zl l n ((v : Int) + 1)).kid j) := fun j j0 j1 => Zg1 hl P.ok P.pre _ (hkid j j0 j1).r.1 (hkid j j0 j1).r.2
      have C := P.cel
      have p := Zc0 ((v : Int) + 1)
      simp only [cat]
      by_cases qx : hf ((v : Int) + 1) ≤ x <;> by_cases qy : hf ((v : Int) + 1) ≤ y
      · have ek : kq ((v : Int) + 1) x y = 3 := by unfold kq; rw [if_pos qx, if_pos qy]; rfl
        have ex : Zao ((v : Int) + 1) x = x - hf ((v : Int) + 1) := by unfold Zao; rw [if_pos qx]
        have ey : Zao ((v : Int) + 1) y = y - hf ((v : Int) + 1) := by unfold Zao; rw [if_pos qy]
        rw [ek, ex, ey] at C
        rw [ek]; simp only [if_neg (show ¬ (0 : Int) = 3 by decide), if_neg (show ¬ (1 : Int) = 3 by decide), if_neg (show ¬ (2 : Int) = 3 by decide), if_pos, K 0 dc dc, K 1 dc dc, K 2 dc dc]
        by_cases hX : X < hf ((v : Int) + 1)
        · rw [if_pos hX, if_pos hX, if_neg (show ¬ (X = x ∧ Y = y) by omega)]
        · by_cases hY : Y < hf ((v : Int) + 1)
          · rw [if_neg hX, if_neg hX, if_pos hY, if_pos hY, if_neg (show ¬ (X = x ∧ Y = y) by omega)]
          · rw [if_neg hX, if_neg hX, if_neg hY, if_neg hY, C]
            by_cases hE : X = x ∧ Y = y
            · rw [if_pos hE, if_pos om]
            · rw [if_neg hE, if_neg om]
      · have ek : kq ((v : Int) + 1) x y = 1 := by unfold kq; rw [if_pos qx, if_neg qy]; rfl
        have ex : Zao ((v : Int) + 1) x = x - hf ((v : Int) + 1) := by unfold Zao; rw [if_pos qx]
        have ey : Zao ((v : Int) + 1) y = y := by unfold Zao; rw [if_neg qy]
        rw [ek, ex, ey] at C
        rw [ek]; simp only [if_neg (show ¬ (0 : Int) = 1 by decide), if_neg (show ¬ (2 : Int) = 1 by decide), if_neg (show ¬ (3 : Int) = 1 by decide), if_pos, K 0 dc dc, K 2 dc dc, K 3 dc dc]
        by_cases hX : X < hf ((v : Int) + 1)
        · rw [if_pos hX, if_pos hX, if_neg (show ¬ (X = x ∧ Y = y) by omega)]
        · by_cases hY : Y < hf ((v : Int) + 1)
          · rw [if_neg hX, if_neg hX, if_pos hY, if_pos hY, C]
            by_cases hE : X = x ∧ Y = y
            · rw [if_pos hE, if_pos om]
            · rw [if_neg hE, if_neg om]
          · rw [if_neg hX, if_neg hX, if_neg hY, if_neg hY, if_neg (show ¬ (X = x ∧ Y = y) by omega)]
      · have ek : kq ((v : Int) + 1) x y = 2 := by unfold kq; rw [if_neg qx, if_pos qy]; rfl
        have ex : Zao ((v : Int) + 1) x = x := by unfold Zao; rw [if_neg qx]
        have ey : Zao ((v : Int) + 1) y = y - hf ((v : Int) + 1) := by unfold Zao; rw [if_pos qy]
        rw [ek, ex, ey] at C
        rw [ek]; simp only [if_neg (show ¬ (0 : Int) = 2 by decide), if_neg (show ¬ (1 : Int) = 2 by decide), if_neg (show ¬ (3 : Int) = 2 by decide), if_pos, K 0 dc dc, K 1 dc dc, K 3 dc dc]
        by_cases hX : X < hf ((v : Int) + 1)
        · by_cases hY : Y < hf ((v : Int) + 1)
          · rw [if_pos hX, if_pos hX, if_pos hY, if_pos hY, if_neg (show ¬ (X = x ∧ Y = y) by omega)]
          · rw [if_pos hX, if_pos hX, if_neg hY, if_neg hY, C]
            by_cases hE : X = x ∧ Y = y
            · rw [if_pos hE, if_pos om]
            · rw [if_neg hE, if_neg om]
        · rw [if_neg hX, if_neg hX, if_neg (show ¬ (X = x ∧ Y = y) by omega)]
      · have ek : kq ((v : Int) + 1) x y = 0 := by unfold kq; rw [if_neg qx, if_neg qy]; rfl
        have ex : Zao ((v : Int) + 1) x = x := by unfold Zao; rw [if_neg qx]
        have ey : Zao ((v : Int) + 1) y = y := by unfold Zao; rw [if_neg qy]
        rw [ek, ex, ey] at C
        rw [ek]; simp only [if_neg (show ¬ (1 : Int) = 0 by decide), if_neg (show ¬ (2 : Int) = 0 by decide), if_neg (show ¬ (3 : Int) = 0 by decide), if_pos, K 1 dc dc, K 2 dc dc, K 3 dc dc]
        by_cases hX : X < hf ((v : Int) + 1)
        · by_cases hY : Y < hf ((v : Int) + 1)
          · rw [if_pos hX, if_pos hX, if_pos hY, if_pos hY, C]
          · rw [if_pos hX, if_pos hX, if_neg hY, if_neg hY, if_neg (show ¬ (X = x ∧ Y = y) by omega)]
        · rw [if_neg hX, if_neg hX, if_neg (show ¬ (X = x ∧ Y = y) by omega)]
end Go.Gw
namespace Go.Gw
open Go.RowKit
def Zgc (v j c : Int) (t : Tr) : Tr := if c = 0 then .no else if v = 1 then .leaf (if 3 - j = 0 then c else 0) (if 3 - j = 1 then c else 0) (if 3 - j = 2 then c else 0) (if 3 - j = 3 then c else 0)
  else .nd v (if 3 - j = 0 then t else .no) (if 3 - j = 1 then t else .no) (if 3 - j = 2 then t else .no) (if 3 - j = 3 then t else .no)
theorem wrap_hol {v k0 k1 k2 k3 : Int} {a b c d : Tr} (hv : 1 ≤ v) : hol (.nd (v + 1) (Zgc v 0 k0 a) (Zgc v 1 k1 b) (Zgc v 2 k2 c) (Zgc v 3 k3 d)) = true := by
  unfold Zgc
  by_cases h1 : v = 1 <;> by_cases e0 : k0 = 0 <;> by_cases e1 : k1 = 0 <;> by_cases e2 : k2 = 0 <;> by_cases e3 : k3 = 0 <;> simp [hol, qe, emp, Zae, h1, e0, e1, e2, e3]
theorem wrap_inn {v k0 k1 k2 k3 : Int} {a b c d : Tr} (hv : 1 ≤ v) (ha : k0 = 0 → a = .no) (hb : k1 = 0 → b = .no) (hc : k2 = 0 → c = .no) (hd : k3 = 0 → d = .no) :
    inn (.nd (v + 1) (Zgc v 0 k0 a) (Zgc v 1 k1 b) (Zgc v 2 k2 c) (Zgc v 3 k3 d)) = if v = 1 then .leaf k0 k1 k2 k3 else .nd v a b c d := by
  unfold Zgc inn
  by_cases h1 : v = 1
  · subst h1
    simp only [if_pos, show (1 : Int) + 1 = 2 from rfl]
    by_cases e0 : k0 = 0 <;> by_cases e1 : k1 = 0 <;> by_cases e2 : k2 = 0 <;> by_cases e3 : k3 = 0 <;> simp [Tr.s, Zae, e0, e1, e2, e3]
  · simp only [if_neg h1, if_neg (show ¬ v + 1 = 2 by omega), show v + 1 - 1 = v by omega]
    congr 1
    · by_cases e : k0 = 0
      · simp [e, Tr.q, ha e]
      · simp [e, Tr.q]
    · by_cases e : k1 = 0
      · simp [e, Tr.q, hb e]
      · simp [e, Tr.q]
    · by_cases e : k2 = 0
      · simp [e, Tr.q, hc e]
      · simp [e, Tr.q]
    · by_cases e : k3 = 0
      · simp [e, Tr.q, hd e]
      · simp [e, Tr.q]
def comp (s : GrT) (j : Int) : Int := Zae s.2.1 s.2.2.1 s.2.2.2.1 s.2.2.2.2 j
structure GrI (old : Nd) (o : List Nd) (v : Int) (k : Int) (s : GrT) : Prop where
  pre : o <+: s.1
  ok : Zaf s.1 = true
  done : ∀ j : Int, 0 ≤ j → j < k → NumIn s.1 (comp s j) v ∧ tr s.1 (comp s j) = Zgc v j (old.kid j) (tr o (old.kid j))
  zero : ∀ j : Int, k ≤ j → j < 4 → comp s j = 0
theorem y_laid {p : List Nd} {v j c : Int} (hp : Zaf p = true) (hv : 1 ≤ v ∧ v ≤ 1329) (j0 : 0 ≤ j) (j1 : j < 4) (hc : c ≠ 0) (h1 : v = 1 → 0 ≤ c ∧ c ≤ 255) (h2 : v ≠ 1 → NumIn p c (v - 1)) :
    Zaf (p ++ [yN v j c]) = true ∧ tr (p ++ [yN v j c]) ((p.length : Int) + 1) = Zgc v j c (tr p c) := by
  have hj : j = 0 ∨ j = 1 ∨ j = 2 ∨ j = 3 := by omega
  by_cases e : v = 1
  · have hs := h1 e
    subst e
    have z : (0 : Int) ≤ 0 ∧ (0 : Int) ≤ 255 := by omega
    unfold yN Zgc
    rw [if_neg hc, if_pos rfl]
    exact Zlp hp (by split; exact hs; exact z) (by split; exact hs; exact z) (by split; exact hs; exact z) (by split; exact hs; exact z)
  · have hs := h2 e
    unfold yN Zgc
    rw [if_neg hc, if_neg e]
    obtain ⟨l1, l2⟩ := Zjb (v := v) (a := if 3 - j = 0 then c else 0) (b := if 3 - j = 1 then c else 0) (c := if 3 - j = 2 then c else 0) (d := if 3 - j = 3 then c else 0) hp om
      (by split; exact hs; exact NumIn.zero _ _) (by split; exact hs; exact NumIn.zero _ _) (by split; exact hs; exact NumIn.zero _ _) (by split; exact hs; exact NumIn.zero _ _)
    refine ⟨l1, l2.trans ?_⟩
    rcases hj with rfl | rfl | rfl | rfl <;> simp [Zc8]
theorem gr_step {old : Nd} {o : List Nd} {v : Int} {k : Int} {s : GrT} (ho : Zaf o = true) (hv : 1 ≤ v ∧ v ≤ 1329) (hlv : old.lv = v) (h : GrI old o v k s) (k0 : 0 ≤ k) (k1 : k < 4)
    (h1 : v = 1 → ∀ j, 0 ≤ j → j < 4 → 0 ≤ old.kid j ∧ old.kid j ≤ 255) (h2 : v ≠ 1 → ∀ j, 0 ≤ j → j < 4 → NumIn o (old.kid j) (v - 1)) : GrI old o v (k + 1) (gr1 old s k) := by
  unfold gr1
  by_cases hc : old.kid k = 0
  · rw [if_pos hc]
    refine ⟨h.pre, h.ok, fun j j0 j1 => ?_, fun j j0 j1 => h.zero j om j1⟩
    by_cases e : j = k
    · subst e; rw [h.zero j (Int.le_refl _) k1, hc]; exact ⟨NumIn.zero _ _, by rw [Zc8]; simp [Zgc]⟩
    · exact h.done j j0 om
  · rw [if_neg hc, hlv]
    obtain ⟨l1, l2⟩ := y_laid (p := s.1) (c := old.kid k) h.ok hv k0 k1 hc (fun e => h1 e k k0 k1) (fun e => (h2 e k k0 k1).pre h.pre)
    have elen : (((s.1 ++ [yN v k (old.kid k)]).length : Nat) : Int) = (s.1.length : Int) + 1 := by simp
    rw [elen]
    have hcomp : ∀ j : Int, 0 ≤ j → j < 4 → comp (s.1 ++ [yN v k (old.kid k)], if k = 0 then (s.1.length : Int) + 1 else s.2.1, if k = 1 then (s.1.length : Int) + 1 else s.2.2.1, if k = 2 then (s.1.length : Int) + 1 else s.2.2.2.1, if k = 3 then (s.1.length : Int) + 1 else s.2.2.2.2) j = if j = k then (s.1.length : Int) + 1 else comp s j := fun j j0 j1 => by
      have : j = 0 ∨ j = 1 ∨ j = 2 ∨ j = 3 := by omega
      rcases this with rfl | rfl | rfl | rfl <;> simp [comp, Zae, eq_comm]
    have hy : (yN v k (old.kid k)).lv = v := rfl
    refine ⟨h.pre.trans (List.prefix_append _ _), l1, fun j j0 j1 => ?_, fun j j0 j1 => ?_⟩
    · rw [hcomp j j0 om]
      by_cases e : j = k
      · subst e
        rw [if_pos rfl]
        refine ⟨by have := Zho s.1 (yN v j (old.kid j)); rwa [hy] at this, l2.trans ?_⟩
        by_cases e1 : v = 1
        · unfold Zgc; rw [if_neg hc, if_neg hc, if_pos e1, if_pos e1]
        · rw [Zg1 ho h.ok h.pre _ (h2 e1 j k0 k1).r.1 (h2 e1 j k0 k1).r.2]
      · rw [if_neg e]
        obtain ⟨d1, d2⟩ := h.done j j0 om
        refine ⟨d1.pre (List.prefix_append _ _), ?_⟩
        rw [Zg1 h.ok l1 (List.prefix_append _ _) _ d1.r.1 d1.r.2, d2]
    · rw [hcomp j om j1, if_neg om]
      exact h.zero j om j1
theorem last_num {o : List Nd} (h : 1 ≤ o.length) : NumIn o o.length (Zm o).lv := ⟨by omega, fun _ => rfl⟩
theorem last_here {o : List Nd} {v : Int} (h : 1 ≤ o.length) : Zl o o.length v = Zm o := by unfold Zl Zm; rw [if_pos om]
theorem grow_one {o : List Nd} {v : Int} (ho : Zaf o = true) (hn : 1 ≤ o.length) (hv : (Zm o).lv = v) (hv2 : v + 1 ≤ 1329) :
    let p := grX (Zm o) (grS (Zm o) o 4)
    o <+: p ∧ Zaf p = true ∧ 1 ≤ p.length ∧ (Zm p).lv = v + 1 ∧ ∀ X Y : Int, mid (v + 1) (tr p p.length) X Y = mid v (tr o o.length) X Y := by
  have hv1 : 1 ≤ v := by have := (Ze9 ho (i := (o.length : Int) - 1) om om).1; unfold Zm at hv; omega
  have hnum := last_num hn
  rw [hv] at hnum
  have h1 : v = 1 → ∀ j, 0 ≤ j → j < 4 → 0 ≤ (Zm o).kid j ∧ (Zm o).kid j ≤ 255 := fun e j j0 j1 => by
    subst e; have := here_st ho hnum j0 j1; rwa [last_here hn] at this
  have h2 : v ≠ 1 → ∀ j, 0 ≤ j → j < 4 → NumIn o ((Zm o).kid j) (v - 1) := fun e j j0 j1 => by
    have := Zks ho hnum e j0 j1; rwa [last_here hn] at this
  have g0 : GrI (Zm o) o v 0 (grS (Zm o) o 0) := ⟨List.prefix_refl _, ho, fun j a b => by omega, fun j a b => by
    have : j = 0 ∨ j = 1 ∨ j = 2 ∨ j = 3 := by omega
    rcases this with rfl | rfl | rfl | rfl <;> rfl⟩
  have g1 := gr_step ho ⟨hv1, by omega⟩ hv g0 dc dc h1 h2
  have g2 := gr_step ho ⟨hv1, by omega⟩ hv g1 dc dc h1 h2
  have g3 := gr_step ho ⟨hv1, by omega⟩ hv g2 dc dc h1 h2
  have g4 := gr_step ho ⟨hv1, by omega⟩ hv g3 dc dc h1 h2
  have e4 : gr1 (Zm o) (gr1 (Zm o) (gr1 (Zm o) (gr1 (Zm o) (grS (Zm o) o 0) 0) (0 + 1)) (0 + 1 + 1)) (0 + 1 + 1 + 1) = grS (Zm o) o 4 := rfl
  rw [e4] at g4
  intro p
  revert p
  generalize grS (Zm o) o 4 = s at g4
  obtain ⟨pre, ok, done, _⟩ := g4
  obtain ⟨n0, t0⟩ := done 0 dc dc
  obtain ⟨n1, t1⟩ := done 1 dc dc
  obtain ⟨n2, t2⟩ := done 2 dc dc
  obtain ⟨n3, t3⟩ := done 3 dc dc
  have ev : v + 1 - 1 = v := by omega
  obtain ⟨l1, l2⟩ := Zjb (v := v + 1) ok om (by rw [ev]; exact n0) (by rw [ev]; exact n1) (by rw [ev]; exact n2) (by rw [ev]; exact n3)
  have e5 : grX (Zm o) s = s.1 ++ [⟨v + 1, comp s 0, comp s 1, comp s 2, comp s 3⟩] := by unfold grX; rw [hv]; rfl
  rw [e5]
  intro p
  have hlen : ((p.length : Nat) : Int) = (s.1.length : Int) + 1 := by simp [p]
  refine ⟨pre.trans (List.prefix_append _ _), l1, by simp [p], by show (Zm p).lv = v + 1; rw [Zlu], fun X Y => ?_⟩
  have hw : wf (v + 1) (tr p p.length) := Zi2 l1 _ om (Int.le_refl _) _ fun _ => by
    have := Zho s.1 (⟨v + 1, comp s 0, comp s 1, comp s 2, comp s 3⟩ : Nd)
    rw [hlen]; exact (this.lv om).symm
  rw [hlen] at hw ⊢
  rw [l2, t0, t1, t2, t3] at hw ⊢
  have hc := cat_inn hw (wrap_hol hv1)
  have z : ∀ {c : Int}, c = 0 → tr o c = .no := fun e => by rw [e, Zc8]
  unfold mid
  rw [hc, wrap_inn hv1 z z z z, ev]
  have et : tr o o.length = if v = 1 then .leaf ((Zm o).kid 0) ((Zm o).kid 1) ((Zm o).kid 2) ((Zm o).kid 3) else .nd v (tr o ((Zm o).kid 0)) (tr o ((Zm o).kid 1)) (tr o ((Zm o).kid 2)) (tr o ((Zm o).kid 3)) := by
    rw [tr_at ho om (Int.le_refl _)]
    show (if (Zm o).lv = 1 then _ else _) = _
    rw [hv]
    split
    · rfl
    · show Tr.nd (Zm o).lv _ _ _ _ = _; rw [hv]; rfl
  rw [← et]
  have e2 := Zen (v := v + 1) om
  rw [ev] at e2
  congr 1 <;> omega
theorem grow_len : ∀ (f : Nat) (o : List Nd), (Zfe f o).length ≤ o.length + 5 * f
  | 0, o => Nat.le_refl _
  | f + 1, o => by
    have h := grow_len f (grX (Zm o) (grS (Zm o) o 4))
    have st : ∀ (s : GrT) (k : Int), (gr1 (Zm o) s k).1.length ≤ s.1.length + 1 := fun s k => by
      unfold gr1; split
      · omega
      · simp
    have h4 : (grS (Zm o) o 4).1.length ≤ o.length + 4 := by
      have a1 := st (o, 0, 0, 0, 0) (0 : Nat)
      have a2 := st (gr1 (Zm o) (o, 0, 0, 0, 0) (0 : Nat)) (1 : Nat)
      have a3 := st (gr1 (Zm o) (gr1 (Zm o) (o, 0, 0, 0, 0) (0 : Nat)) (1 : Nat)) (2 : Nat)
      have a4 := st (gr1 (Zm o) (gr1 (Zm o) (gr1 (Zm o) (o, 0, 0, 0, 0) (0 : Nat)) (1 : Nat)) (2 : Nat)) (3 : Nat)
      show (gr1 (Zm o) (gr1 (Zm o) (gr1 (Zm o) (gr1 (Zm o) (o, 0, 0, 0, 0) (0 : Nat)) (1 : Nat)) (2 : Nat)) (3 : Nat)).1.length ≤ _
      simp only at a1
      omega
    have h5 : (grX (Zm o) (grS (Zm o) o 4)).length = (grS (Zm o) o 4).1.length + 1 := by unfold grX; simp
    show (Zfe f (grX (Zm o) (grS (Zm o) o 4))).length ≤ _
    omega
theorem grow_ok : ∀ (f : Nat) {o : List Nd} {v : Int}, Zaf o = true → 1 ≤ o.length → (Zm o).lv = v → v + f ≤ 1329 →
    Zaf (Zfe f o) = true ∧ 1 ≤ (Zfe f o).length ∧ (Zm (Zfe f o)).lv = v + f ∧ ∀ X Y : Int, mid (v + f) (tr (Zfe f o) (Zfe f o).length) X Y = mid v (tr o o.length) X Y
  | 0, o, v, ho, hn, hv, _ => ⟨ho, hn, by show (Zm o).lv = v + 0; omega, fun X Y => by rw [show v + ((0 : Nat) : Int) = v by omega]; rfl⟩
  | f + 1, o, v, ho, hn, hv, hf => by
    obtain ⟨_, a, b, c, d⟩ := grow_one ho hn hv om
    obtain ⟨a', b', c', d'⟩ := grow_ok f a b c om
    have e : v + 1 + (f : Int) = v + ((f + 1 : Nat) : Int) := by omega
    rw [e] at c' d'
    exact ⟨a', b', c', fun X Y => (d' X Y).trans (d X Y)⟩
def Zeo (q : List Nd) (x y : Int) : Int := upL ⟨x, y, 0⟩ 1331 (max (Zag q) 1)
def Zbb (q : List Nd) (v : Int) : List Nd := if q = [] then [] else Zfe (v - (Zm q).lv).toNat q
def putQ (q : List Nd) (x y s v : Int) : List Nd × Int := Zbk v.toNat (Zbb q v) (Zbb q v).length (x + hf v) (y + hf v) s
def Zc6 (q : List Nd) (x y s : Int) : List Nd × Int :=
  if 1329 < Zeo q x y then (if s = 0 then (q, 0) else ([], 4)) else ofL (putQ q x y s (Zeo q x y)).1 (putQ q x y s (Zeo q x y)).2
theorem Zfo {q : List Nd} (h : Can q) : 0 ≤ Zag q ∧ Zag q ≤ 1329 := by
  by_cases e : q = []
  · subst e; simp [Zag]
  · have := Zhq h.ok e; omega
theorem Zky {q : List Nd} (h : Can q) (x y : Int) : (max (Zag q) 1 ≤ Zeo q x y ∧ Zeo q x y ≤ 1330) ∧ (Zeo q x y ≤ 1329 → inC ⟨x, y, 0⟩ (Zeo q x y) = true) := by
  have r := Zfo h
  have := upL_ge ⟨x, y, 0⟩ 1331 (max (Zag q) 1)
  have := upL_le ⟨x, y, 0⟩ 1331 (max (Zag q) 1) om
  have := upL_in ⟨x, y, 0⟩ 1331 (max (Zag q) 1) om
  unfold Zeo
  refine ⟨by omega, fun h => ?_⟩
  rcases this with h2 | h2
  · omega
  · exact h2
theorem lastN_lv {q : List Nd} (h : q ≠ []) : (Zm q).lv = Zag q := by
  unfold Zag Zm; rw [if_neg (fun e => h (List.eq_nil_of_length_eq_zero e))]
theorem Zly {q : List Nd} (h : Can q) {v : Int} (hv : Zag q ≤ v) (hv1 : 1 ≤ v) (hv2 : v ≤ 1329) :
    Zaf (Zbb q v) = true ∧ NumIn (Zbb q v) (Zbb q v).length v ∧ (∀ X Y : Int, mid v (tr (Zbb q v) (Zbb q v).length) X Y = Zcy q X Y) ∧ (Zbb q v).length ≤ q.length + 6645 := by
  unfold Zbb
  by_cases e : q = []
  · subst e; rw [if_pos rfl]
    exact ⟨Zmh, NumIn.zero _ _, fun X Y => rfl, by simp⟩
  · rw [if_neg e]
    have hl : 1 ≤ q.length := by have : q.length ≠ 0 := fun h => e (List.eq_nil_of_length_eq_zero h); omega
    have hlv := lastN_lv e
    have h0 := (Zhq h.ok e).1
    obtain ⟨a, b, c, d⟩ := grow_ok (v - (Zm q).lv).toNat h.ok hl rfl om
    have ev : (Zm q).lv + (((v - (Zm q).lv).toNat : Nat) : Int) = v := by omega
    rw [ev] at c d
    have hn := last_num b
    rw [c] at hn
    refine ⟨a, hn, fun X Y => ?_, ?_⟩
    · rw [d, hlv]; rfl
    · have := grow_len (v - (Zm q).lv).toNat q; omega
theorem putQ_sem {q : List Nd} (h : Can q) {x y s v : Int} (hs : 0 ≤ s ∧ s ≤ 255) (hv : Zag q ≤ v) (hv1 : 1 ≤ v) (hv2 : v ≤ 1329) (hin : inC ⟨x, y, 0⟩ v = true) :
    Zaf (putQ q x y s v).1 = true ∧ NumIn (putQ q x y s v).1 (putQ q x y s v).2 v ∧ (∀ X Y : Int, mid v (tr (putQ q x y s v).1 (putQ q x y s v).2) X Y = if X = x ∧ Y = y then s else Zcy q X Y) ∧ (putQ q x y s v).1.length ≤ q.length + 7974 := by
  obtain ⟨a, b, c, d⟩ := Zly h hv hv1 hv2
  obtain ⟨n, rfl⟩ : ∃ n : Nat, v = (n : Int) := ⟨v.toNat, by omega⟩
  unfold inC at hin; rw [decide_eq_true_eq] at hin
  have P := put_ok n (l := Zbb q n) (x := x + hf n) (y := y + hf n) (s := s) om om a b hs (by simp only at hin; omega) (by simp only at hin; omega)
  unfold putQ
  rw [show ((n : Int)).toNat = n from by omega]
  refine ⟨P.ok, P.num, fun X Y => ?_, by rw [Zjr]; omega⟩
  unfold mid
  rw [P.cel]
  have := c X Y
  unfold mid at this
  rw [this]
  by_cases e : X = x ∧ Y = y
  · rw [if_pos e, if_pos om]
  · rw [if_neg e, if_neg om]
theorem set_ok {q : List Nd} (h : Can q) {x y s : Int} (hs : 0 ≤ s ∧ s ≤ 255) (h0 : (Zc6 q x y s).2 = 0) : Can (Zc6 q x y s).1 ∧ ∀ X Y : Int, Zcy (Zc6 q x y s).1 X Y = if X = x ∧ Y = y then s else Zcy q X Y := by
  obtain ⟨⟨r1, r2⟩, r3⟩ := Zky h x y
  unfold Zc6 at *
  by_cases hl : 1329 < Zeo q x y
  · simp only [if_pos hl] at *
    by_cases e : s = 0
    · rw [if_pos e]
      refine ⟨h, fun X Y => ?_⟩
      split
      · rename_i hq
        obtain ⟨rfl, rfl⟩ := hq
        have rl := Zfo h
        rw [e]
        refine celQ_out h fun hin => ?_
        have h1 : inC ⟨X, Y, 0⟩ (max (Zag q) 1) = true := by
          by_cases hz : Zag q = 0
          · unfold inC; rw [decide_eq_true_eq]; rw [hz] at hin ⊢
            rw [show hf 0 = hf (max 0 1) from rfl] at hin; exact hin
          · rw [show max (Zag q) 1 = Zag q by omega]; unfold inC; rw [decide_eq_true_eq]; exact hin
        have : Zeo q X Y = max (Zag q) 1 := by
          unfold Zeo
          show upL _ (1330 + 1) _ = _
          unfold upL; rw [if_neg (by rw [h1]; simp)]
        omega
      · rfl
    · rw [if_neg e] at h0; cases h0
  · simp only [if_neg hl] at *
    obtain ⟨a, b, c, d⟩ := putQ_sem h hs (v := Zeo q x y) om om om (r3 om)
    rw [Zi6 a b.r.1 b.r.2] at *
    have hw : wf (Zeo q x y) (tr (putQ q x y s (Zeo q x y)).1 (putQ q x y s (Zeo q x y)).2) := Zi2 a _ b.r.1 b.r.2 _ (fun h0 => (b.lv h0).symm)
    exact ⟨can_of hw, fun X Y => by rw [Zkr hw, c]⟩
theorem set_no {q : List Nd} (h : Can q) {x y s : Int} (hs : 0 ≤ s ∧ s ≤ 255) (h0 : (Zc6 q x y s).2 ≠ 0) : Zc6 q x y s = ([], 4) ∧ s ≠ 0 ∧ 1329 < Zeo q x y := by
  obtain ⟨⟨r1, r2⟩, r3⟩ := Zky h x y
  unfold Zc6 at *
  by_cases hl : 1329 < Zeo q x y
  · simp only [if_pos hl] at *
    by_cases e : s = 0
    · rw [if_pos e] at h0; exact absurd rfl h0
    · rw [if_neg e]; exact ⟨rfl, e, hl⟩
  · simp only [if_neg hl] at *
    obtain ⟨a, b, c, d⟩ := putQ_sem h hs (v := Zeo q x y) om om om (r3 om)
    rw [Zi6 a b.r.1 b.r.2] at h0
    exact absurd rfl h0
theorem set_same {q : List Nd} (h : Can q) {x y s : Int} (hs : 0 ≤ s ∧ s ≤ 255) (e : s = Zcy q x y) : Zc6 q x y s = (q, 0) := by
  by_cases h0 : (Zc6 q x y s).2 = 0
  · obtain ⟨a, b⟩ := set_ok h hs h0
    have : (Zc6 q x y s).1 = q := can_eq a h fun X Y => by
      rw [b]; split
      · rename_i hq; rw [hq.1, hq.2]; exact e
      · rfl
    exact Prod.ext this h0
  · obtain ⟨_, b, c⟩ := set_no h hs h0
    exfalso
    rw [e] at b
    refine b (celQ_out h fun hin => ?_)
    have rl := Zfo h
    have h1 : inC ⟨x, y, 0⟩ (max (Zag q) 1) = true := by
      by_cases hz : Zag q = 0
      · unfold inC; rw [decide_eq_true_eq]; rw [hz] at hin ⊢
        rw [show hf 0 = hf (max 0 1) from rfl] at hin; exact hin
      · rw [show max (Zag q) 1 = Zag q by omega]; unfold inC; rw [decide_eq_true_eq]; exact hin
    have : Zeo q x y = max (Zag q) 1 := by
      unfold Zeo
      show upL _ (1330 + 1) _ = _
      unfold upL; rw [if_neg (by rw [h1]; simp)]
    omega
def Zer (l : List Nd) : Int := l.foldl (fun m n => if n.lv = 1 then max (max (max (max m n.k0) n.k1) n.k2) n.k3 else m) 0
end Go.Gw
namespace Go.Gw
open Go.RowKit
def Zk1 (P : Program) (ops : Array Oper) (n : Nat) (D : List Deferred) (ρ0 : Env) (w0 : World) (R : World → World → Prop) (sp : Zcf) (td : Nat) (ψ : Value → World → Prop) : List Oper → List (List Nat) → List Bool → List Bool → Zcf → Prop
  | o :: os, d :: ds, b :: bs, c :: cs, (_, φ) :: r => (∀ w, R w0 w → Zd3 sp d ρ0 w (fun ρ => Op1 P ops o n D ρ w (fun v w' => φ v w' ∧ R w w' ∧ (b = true → NewV v w) ∧ (c = true → ∃ u, look ρ td = some u ∧ ψ u w')))) ∧ Zk1 P ops n D ρ0 w0 R sp td ψ os ds bs cs r
  | _, _, _, _, [] => True
  | _, _, _, _, _ => False
section
variable {P : Program} {l : List Oper} {Q : Exit → Act → World → Prop} {n m : Nat} {D : List Deferred} {ρ0 : Env} {w0 : World} {R : World → World → Prop} {sp : Zcf} {ds : List (List Nat)} {bs cs : List Bool} {td dd : Nat} {ψ : Value → World → Prop}
theorem Zk1.at_ {ops : Array Oper} : ∀ {l' : List Oper} {ds' : List (List Nat)} {bs' cs' : List Bool} {sp' : Zcf}, Zk1 P ops n D ρ0 w0 R sp td ψ l' ds' bs' cs' sp' → ∀ {i : Nat} {dst : Option Nat} {φ : Value → World → Prop} {o : Oper}, sp'[i]? = some (dst, φ) → l'[i]? = some o →
    ∀ w, R w0 w → Zd3 sp (ds'.getD i []) ρ0 w (fun ρ => Op1 P ops o n D ρ w (fun v w' => φ v w' ∧ R w w' ∧ (bs'.getD i false = true → NewV v w) ∧ (cs'.getD i false = true → ∃ u, look ρ td = some u ∧ ψ u w'))) := by
  intro l' ds' bs' cs' sp' h
  induction sp' generalizing l' ds' bs' cs' with
  | nil => intro i dst φ o hs; simp at hs
  | cons p r ih =>
    intro i dst φ o hs hl
    obtain ⟨pd, pφ⟩ := p
    match l', ds', bs', cs', h with
    | o' :: os, d :: dd_, b :: bb, c :: cc, h =>
      obtain ⟨h1, h2⟩ := h
      cases i with
      | zero => simp at hs hl; obtain ⟨rfl, rfl⟩ := hs; subst hl; simpa using h1
      | succ i => simp at hs hl; simpa using ih h2 hs hl
structure MidS (l : List Oper) (bs : List Bool) (n : Nat) (D : List Deferred) (ρ0 : Env) (w0 : World) (R : World → World → Prop) (sp : Zcf) (cs : List Bool) (dd : Nat) (ψ : Value → World → Prop) (m N : Nat) (listed : Array Bool) (vals : Nat → Value) (a : Act) (w : World) : Prop where
  fr : Fr n D ρ0 a
  wr : R w0 w
  size : listed.size = N
  tail : ∀ i, m ≤ i → listed.getD i false = false
  cl : ∀ i o j, l[i]? = some o → listed.getD i false = true → Zb4 o j = true → listed.getD j false = true
  fre : ∀ i j, bs.getD i false = true → bs.getD j false = true → i < m → j < m → i ≠ j → listed.getD i false = true → listed.getD j false = true → vals i ≠ vals j
  sto : ∀ i, cs.getD i false = true → i < m → listed.getD i false = true → listed.getD dd false = true ∧ ψ (vals dd) w
  got : ∀ i dst φ, sp[i]? = some (dst, φ) → listed.getD i false = true → φ (vals i) w ∧ ∀ d, dst = some d → a.tmps[d]? = some (vals i)
theorem Zj9 {listed : Array Bool} {vals : Nat → Value} {a : Act} {w : World} {N : Nat} (hM : MidS l bs n D ρ0 w0 R sp cs dd ψ m N listed vals a w) : ∀ (d : List Nat) (ρ : Env) (K : Env → Prop), Fr n D ρ a → (∀ j ∈ d, listed.getD j false = true) →
    Zd3 sp d ρ w K → ∃ ρ', Fr n D ρ' a ∧ K ρ'
  | [], ρ, K, hF, _, h => ⟨ρ, hF, h⟩
  | j :: r, ρ, K, hF, hl, h => by
    unfold Zd3 at h
    split at h
    · rename_i d φ hs
      obtain ⟨h1, h2⟩ := hM.got j _ _ hs (hl j (by simp))
      refine Zj9 hM r _ K ⟨hF.defers, hF.size, fun t v hlk => ?_⟩ (fun i hi => hl i (by simp [hi])) (h _ h1)
      rw [Zb1] at hlk
      split at hlk
      · rename_i e; subst e; cases hlk; exact h2 _ rfl
      · exact hF.slot _ _ hlk
    · exact Zj9 hM r _ K hF (fun i hi => hl i (by simp [hi])) h
theorem mid_anyS {keys : List Nat} (hF : DrawFactsT l m n keys sp ds) (hkeys : ∀ t v, look ρ0 t = some v → t ∈ keys) (hRt : ∀ a b c, R a b → R b c → R a c) (hst : Zhs R sp) (hold : Zi3 sp bs) {φd : Value → World → Prop} (hsd : sp[dd]? = some (some td, φd)) (hdep : ∀ i, cs.getD i false = true → i < m → dd ∈ ds.getD i []) (hψ : ∀ v a b, ψ v a → R a b → ψ v b) (hex : ∃ i, cs.getD i false = true ∧ i < m) (hobs : Zk1 P l.toArray n D ρ0 w0 R sp td ψ l ds bs cs sp)
    (hend : ∀ w, R w0 w → Zh9 sp bs [] ρ0 w (fun ρ => (∀ u, look ρ td = some u → ψ u w) → Reg P l.toArray Q (l.drop m) n D ρ w)) :
    ∀ (fuel : Nat) (listed : Array Bool) (vals : Nat → Value) (a : Act) (w : World), MidS l bs n D ρ0 w0 R sp cs dd ψ m l.length listed vals a w → cnt l.length listed ≤ fuel → wpAny P .any l.toArray Q fuel listed a w := by
  have hfin : ∀ (fuel : Nat) (listed : Array Bool) (vals : Nat → Value) (a : Act) (w : World), MidS l bs n D ρ0 w0 R sp cs dd ψ m l.length listed vals a w → (∀ i, i < m → listed.getD i false = true) → l.length - m ≤ fuel → wpAny P .any l.toArray Q fuel listed a w := by
    intro fuel listed vals a w hM hall hf
    obtain ⟨ρ', hFr, hReg⟩ := Zgo (w := w) vals sp bs 0 [] ρ0 _ hM.fr (fun i dst φ hs => by
      have hi : i < m := by rw [← hF.spl]; exact (List.getElem?_eq_some_iff.1 hs).1
      rw [Nat.zero_add]; exact hM.got i dst φ hs (hall i hi)) (fun _ _ _ _ h => by cases h) (fun i j h1 h2 h3 h4 h5 => by
      rw [hF.spl] at h3 h4
      rw [Nat.zero_add, Nat.zero_add]; exact hM.fre i j h1 h2 h3 h4 h5 (hall i h3) (hall j h4)) (hend w hM.wr)
    exact Zjk hF fuel m listed a w (Nat.le_refl _) hF.le hf hM.size hall hM.tail (hReg (fun u hu => by
      obtain ⟨i, hi, him⟩ := hex
      obtain ⟨h1, h2⟩ := hM.sto i hi him (hall i him)
      have h3 := hFr.slot _ _ hu
      have h4 := (hM.got dd _ _ hsd h1).2 _ rfl
      rw [h3] at h4; injection h4 with h4; rw [h4]; exact h2) a hFr)
  have hcnt : ∀ listed : Array Bool, (∀ i, m ≤ i → listed.getD i false = false) → ∀ k, m ≤ k → k - m ≤ cnt k listed := by
    intro listed ht k
    induction k with
    | zero => intro _; omega
    | succ k ih =>
      intro hk
      unfold cnt
      rcases Nat.lt_or_ge k m with h | h
      · omega
      · rw [ht k h]; have := ih h; simp; omega
  intro fuel
  induction fuel with
  | zero =>
    intro listed vals a w hM hc
    have h0 : cnt l.length listed = 0 := by omega
    have hall := Zfc listed _ h0
    refine hfin 0 listed vals a w hM (fun i hi => hall i (by have := hF.le; omega)) ?_
    have := hcnt listed hM.tail l.length hF.le
    omega
  | succ fuel ih =>
    intro listed vals a w hM hc
    by_cases hall : ∀ i, i < m → listed.getD i false = true
    · refine hfin _ listed vals a w hM hall ?_
      have := hcnt listed hM.tail l.length hF.le
      omega
    · 
      refine ⟨fun h0 => absurd ?_ hall, fun i hi => ?_⟩
      · 
        intro i hi
        induction i using Nat.strongRecOn with
        | _ i ihh =>
          by_cases hb : listed.getD i false = true
          · exact hb
          · exfalso
            have hil : i < l.length := by have := hF.le; omega
            have hr : i ∈ Region.ready .any l.toArray listed := by
              refine (Zbm (by simpa using hM.size)).2 ⟨l[i], by simp [hil], by simpa using hb, ?_⟩
              rw [Array.all_eq_true]
              intro j hj
              by_cases hbd : Region.binds .any l[i].after[j] = true
              · have := hF.before i _ (List.getElem?_eq_getElem hil) _ (Array.getElem_mem hj) hbd
                rw [ihh _ this om]; simp
              · simp [hbd]
            rw [h0] at hr; simp at hr
      · obtain ⟨o, ho, hfi, hal⟩ := (Zbm (by simpa using hM.size)).1 hi
        have ho' : l[i]? = some o := by simpa using ho
        have hil : i < l.length := (List.getElem?_eq_some_iff.1 ho').1
        have him : i < m := by
          rcases Nat.lt_or_ge i m with h | h
          · exact h
          · exact absurd (fun j hj => Zff hM.cl 8 o j (fun k hk => Zam hk hal) ((hF.tail i o h ho').2 j hj)) hall
        have hsp : ∃ dst φ, sp[i]? = some (dst, φ) := by
          have : i < sp.length := by rw [hF.spl]; exact him
          exact ⟨_, _, List.getElem?_eq_getElem this⟩
        obtain ⟨dst, φ, hs⟩ := hsp
        have hdst := hF.dst i o dst φ ho' hs
        subst hdst
        have hsz : i < listed.size := by rw [hM.size]; exact hil
        obtain ⟨ρ', hFr, hOp⟩ := Zj9 hM (ds.getD i []) ρ0 _ hM.fr (fun j hj => Zam (hF.deps i o him ho' j hj).2 hal) (hobs.at_ hs ho' w hM.wr)
        have hnew : ∀ (v : Value) (w' : World), φ v w' → R w w' → (bs.getD i false = true → NewV v w) → (cs.getD i false = true → ∃ u, look ρ' td = some u ∧ ψ u w') → MidS l bs n D ρ0 w0 R sp cs dd ψ m l.length (listed.setIfInBounds i true) (fun j => if j = i then v else vals j) (a.put o.dst v) w' := by
          intro v w' hv hR hN hC
          have hput : ∀ t, (∀ d, o.dst = some d → t ≠ d) → (a.put o.dst v).tmps[t]? = a.tmps[t]? := by
            intro t ht
            cases hd : o.dst with
            | none => rfl
            | some d => simp only [Act.put, Array.getElem?_setIfInBounds]; rw [if_neg (fun e => ht d hd e.symm)]
          have hputd : ∀ d, o.dst = some d → (a.put o.dst v).tmps[d]? = some v := by
            intro d hd
            have := (hF.ok i o d him ho' hd).1
            rw [hd]
            simp [Act.put, hM.fr.size, this]
          refine ⟨⟨?_, ?_, ?_⟩, hRt _ _ _ hM.wr hR, by simpa using hM.size, ?_, ?_, ?_, ?_, ?_⟩
          · rw [← hM.fr.defers]; cases o.dst <;> rfl
          · rw [← hM.fr.size]; cases o.dst <;> simp [Act.put]
          · intro t u hl
            rw [hput t (fun d hd e => (hF.ok i o d him ho' hd).2 (by rw [← e]; exact hkeys t u hl))]
            exact hM.fr.slot t u hl
          · intro j hj
            rw [Zar _ _ _ hsz, if_neg om]; exact hM.tail j hj
          · intro j oj j' hoj hl he
            rw [Zar _ _ _ hsz] at hl ⊢
            by_cases e : i = j'
            · rw [if_pos e]
            · rw [if_neg e]
              by_cases e2 : i = j
              · subst e2; rw [ho'] at hoj; injection hoj with hoj; subst hoj; exact Zam he hal
              · rw [if_neg e2] at hl; exact hM.cl j oj j' hoj hl he
          · intro i' j' b1 b2 h1 h2 hne l1 l2
            rw [Zar _ _ _ hsz] at l1 l2
            have hgot : ∀ k, bs.getD k false = true → k < m → k ≠ i → listed.getD k false = true → OldV (vals k) w := by
              intro k hk hkm hki hl
              have hks : k < sp.length := by rw [hF.spl]; exact hkm
              have hsk : sp[k]? = some ((sp[k]).1, (sp[k]).2) := List.getElem?_eq_getElem hks
              exact hold.at_ hsk hk _ _ (hM.got k _ _ hsk hl).1
            by_cases e1 : i' = i
            · by_cases e2 : j' = i
              · exact absurd (e1.trans e2.symm) hne
              · rw [if_neg (fun e => e2 e.symm)] at l2
                rw [if_pos e1, if_neg e2]
                exact fun e => Zir (hN (e1 ▸ b1)) (hgot j' b2 h2 e2 l2) e.symm
            · rw [if_neg (fun e => e1 e.symm)] at l1
              by_cases e2 : j' = i
              · rw [if_neg e1, if_pos e2]
                exact Zir (hN (e2 ▸ b2)) (hgot i' b1 h1 e1 l1)
              · rw [if_neg (fun e => e2 e.symm)] at l2
                rw [if_neg e1, if_neg e2]
                exact hM.fre i' j' b1 b2 h1 h2 hne l1 l2
          · intro i' hc him' hl
            have hne : listed.getD dd false = true → dd ≠ i := fun h e => by rw [e, hfi] at h; cases h
            rw [Zar _ _ _ hsz] at hl ⊢
            by_cases e : i = i'
            · subst e
              have hld := Zam (hF.deps i o him ho' dd (hdep i hc him)).2 hal
              obtain ⟨u, hu, hψu⟩ := hC hc
              have h3 := hFr.slot _ _ hu
              have h4 := (hM.got dd _ _ hsd hld).2 _ rfl
              rw [h3] at h4; injection h4 with h4
              rw [if_neg (fun e => hne hld e.symm), if_neg (hne hld)]
              exact ⟨hld, by rw [← h4]; exact hψu⟩
            · rw [if_neg e] at hl
              obtain ⟨h1, h2⟩ := hM.sto i' hc him' hl
              rw [if_neg (fun e => hne h1 e.symm), if_neg (hne h1)]
              exact ⟨h1, hψ _ _ _ h2 hR⟩
          · intro j dst φ' hs' hl
            rw [Zar _ _ _ hsz] at hl
            by_cases e : j = i
            · subst e
              rw [hs] at hs'
              injection hs' with hs'
              injection hs' with e1 e2
              subst e1; subst e2
              rw [if_pos rfl]
              exact ⟨hv, hputd⟩
            · rw [if_neg (fun e' => e e'.symm)] at hl
              rw [if_neg e]
              obtain ⟨g1, g2⟩ := hM.got j dst φ' hs' hl
              refine ⟨hst.at_ hs' _ _ _ g1 hR, fun d hd => ?_⟩
              have hj : j < m := by rw [← hF.spl]; exact (List.getElem?_eq_some_iff.1 hs').1
              have hjl : j < l.length := by have := hF.le; omega
              have hoj := List.getElem?_eq_getElem hjl
              have hdj := hF.dst j _ dst φ' hoj hs'
              rw [hput d (fun d' hd' e' => by subst e'; exact hF.apart j i _ o d hj him e hoj ho' (by rw [hdj, hd]) hd')]
              exact g2 d hd
        have hcnt' := Zgd listed i hsz hfi l.length hil
        unfold wpOp
        rw [ho]
        dsimp only
        have h1 := hOp a hFr
        split
        · rename_i hw
          rw [if_pos hw] at h1
          refine .inl (Oper.wp_mono ?_ (h1 Q))
          rintro a' w' ⟨v, rfl, hv, hR, hN, hC⟩
          exact ih _ _ _ _ (hnew v w' hv hR hN hC) om
        · rename_i hw
          rw [if_neg hw] at h1
          exact ih _ _ _ _ (hnew undef w h1.1 h1.2.1 h1.2.2.1 h1.2.2.2) om
theorem w_drawS {id : Nat} {w : World} {ρ : Env} (m : Nat) (R : World → World → Prop) (sp : Zcf) (ds : List (List Nat)) (bs : List Bool) (ρ0 : Env) (hsub : Sub ρ0 ρ) (hm : P.follows .mixedOrders = true)
    (hchk : Zjg l m n (Ze0 ρ0) (sp.map (·.1)) ds = true) (hR : ∀ a, R a a) (hRt : ∀ a b c, R a b → R b c → R a c) (hst : Zhs R sp) (hold : Zi3 sp bs) {φd : Value → World → Prop} (hsd : sp[dd]? = some (some td, φd)) (hdep : ∀ i, cs.getD i false = true → i < m → dd ∈ ds.getD i []) (hψ : ∀ v a b, ψ v a → R a b → ψ v b) (hex : ∃ i, cs.getD i false = true ∧ i < m)
    (h : ∀ w0, w.grownBy w0 none → w0.heap.size = w.heap.size → Zk1 P l.toArray n D ρ0 w0 R sp td ψ l ds bs cs sp ∧ (∀ w', R w0 w' → Zh9 sp bs [] ρ0 w' (fun ρ => (∀ u, look ρ td = some u → ψ u w') → Reg P l.toArray Q (l.drop m) n D ρ w'))) :
    W P (.region id l.toArray true) Q n D ρ w := by
  intro a ha
  have hF := Zie hchk
  obtain ⟨h1, h2⟩ := h w.drew (Zef w) rfl
  refine wp_region_any hm ?_
  have := mid_anyS hF (fun t v hl => Zcp hl) hRt hst hold hsd hdep hψ hex h1 h2 l.length (Array.replicate l.length false) (fun _ => undef) a w.drew ⟨ha.sub hsub, hR _, by simp, fun i _ => by simp [Array.getD_eq_getD_getElem?, Array.getElem?_replicate]; split <;> rfl, fun i o j _ hl _ => by
    simp [Array.getD_eq_getD_getElem?, Array.getElem?_replicate] at hl
    split at hl <;> simp at hl, fun i j _ _ _ _ _ hl _ => by
    simp [Array.getD_eq_getD_getElem?, Array.getElem?_replicate] at hl
    split at hl <;> simp at hl, fun i _ _ hl => by
    simp [Array.getD_eq_getD_getElem?, Array.getElem?_replicate] at hl
    split at hl <;> simp at hl, fun i dst φ hs hl => by
    simp [Array.getD_eq_getD_getElem?, Array.getElem?_replicate] at hl
    split at hl <;> simp at hl⟩ (by
      have : ∀ k L, cnt k L ≤ k := by
        intro k L; induction k with
        | zero => exact Nat.le_refl _
        | succ k ih => unfold cnt; split <;> omega
      exact this _ _)
  simpa using this
end
end Go.Gw
namespace Go.Gw
open Go.RowKit
def BlkN (w : World) (g t n : Nat) : Prop := ∃ cs : Array Value, cs.size = n ∧ Blk w g t cs
structure Rx (N t : Nat) (X : Array Value) (a b : World) : Prop where
  os : b.os = a.os
  tape : b.tape = a.tape
  output : b.output = a.output
  size : a.heap.size ≤ b.heap.size
  block : ∀ k, k < a.heap.size → b.heap[k]? = a.heap[k]? ∨ (N ≤ k ∧ (∃ n, n = X.size ∧ BlkN a k t n) ∧ Blk b k t X)
section
variable {N t n : Nat} {X : Array Value} {a b c w w' : World}
theorem Rx.refl (a : World) : Rx N t X a a := ⟨rfl, rfl, rfl, Nat.le_refl _, fun _ _ => .inl rfl⟩
theorem Rx.trans (a b c : World) (h : Rx N t X a b) (k : Rx N t X b c) : Rx N t X a c :=
  ⟨k.os.trans h.os, k.tape.trans h.tape, k.output.trans h.output, Nat.le_trans h.size k.size, fun i hi => by
    rcases h.block i hi with h1 | ⟨h1, h2, h3⟩ <;> rcases k.block i (Nat.lt_of_lt_of_le hi h.size) with k1 | ⟨k1, ⟨m, hm, cs, hc, k2⟩, k3⟩
    · exact .inl (k1.trans h1)
    · exact .inr ⟨k1, ⟨m, hm, cs, hc, h1.symm.trans k2⟩, k3⟩
    · exact .inr ⟨h1, h2, k1.trans h3⟩
    · exact .inr ⟨h1, h2, k3⟩⟩
theorem Rx.of (k : a.grownBy b none) : Rx N t X a b := ⟨k.os, k.tape, k.output, k.size, fun i hi => .inl (k.block i hi (by simp))⟩
theorem Rx.grown (h : Rx N t X a b) (hn : a.heap.size ≤ N) : a.grownBy b none := ⟨h.os, h.tape, h.output, h.size, fun i hi _ => by
  rcases h.block i hi with h1 | ⟨h1, _⟩
  · exact h1
  · omega⟩
theorem Rx.sto {g : Nat} (hB : BlkN a g t X.size) (hB2 : Blk b g t X) (k : a.grownBy b (some g)) (hg : N ≤ g) : Rx N t X a b :=
  ⟨k.os, k.tape, k.output, k.size, fun i hi => by
    by_cases e : i = g
    · subst e; exact .inr ⟨hg, ⟨_, rfl, hB⟩, hB2⟩
    · exact .inl (k.block i hi (by simpa using e))⟩
def Zg2 (N t n : Nat) (v : Value) (w : World) : Prop := ∃ g, v = .pointer (some ⟨g, 0, none⟩) ∧ N ≤ g ∧ BlkN w g t n
def PtrX (N t : Nat) (X : Array Value) (v : Value) (w : World) : Prop := ∃ g, v = .pointer (some ⟨g, 0, none⟩) ∧ N ≤ g ∧ Blk w g t X
theorem Zg2.st (hn : n = X.size) (v : Value) (a b : World) (h : Zg2 N t n v a) (k : Rx N t X a b) : Zg2 N t n v b := by
  obtain ⟨g, rfl, hg, cs, hc, hB⟩ := h
  refine ⟨g, rfl, hg, ?_⟩
  rcases k.block g hB.lt with h1 | ⟨_, _, h3⟩
  · exact ⟨cs, hc, h1.trans hB⟩
  · exact ⟨X, hn.symm, h3⟩
theorem PtrX.st (v : Value) (a b : World) (h : PtrX N t X v a) (k : Rx N t X a b) : PtrX N t X v b := by
  obtain ⟨g, rfl, hg, hB⟩ := h
  refine ⟨g, rfl, hg, ?_⟩
  rcases k.block g hB.lt with h1 | ⟨_, _, h3⟩
  · exact h1.trans hB
  · exact h3
theorem Zg2.old {v : Value} (h : Zg2 N t n v w) : OldV v w := by obtain ⟨g, rfl, _, cs, _, hB⟩ := h; exact ⟨g, rfl, hB.lt⟩
end
end Go.Gw
namespace Go.Gw
open Go.RowKit
theorem Sl.gSmall {α : Type} {K : Kd α} (hK : K.Flat) {w w' : World} {F : Nat → Prop} {v : Value} {xs : List α} {g t : Nat} {cs : Array Value} (h : Sl K w F v xs) (k : w.grownBy w' (some g)) (hB : Blk w g t cs) (hs : cs.size < K.sz) : Sl K w' F v xs := by
  obtain ⟨A, c, e, h1, h2, h3⟩ := h
  refine ⟨A, c, e, h1, h2, fun i x hx => ?_⟩
  obtain ⟨b, o, us, rfl, hb, hF, hr, hc⟩ := h3 i x hx
  have hne : b ≠ g := by
    rintro rfl
    have hl := K.len hr
    have hlt : K.sz - 1 < us.length := by omega
    have h4 := hc (K.sz - 1) _ (List.getElem?_eq_getElem hlt)
    unfold World.cell? at h4
    rw [show w.heap[b]? = some (.cells cs t (0, 0)) from hB] at h4
    simp at h4
    obtain ⟨h5, _⟩ := Array.getElem?_eq_some_iff.1 h4
    generalize i * K.sz = q at h5
    omega
  have hbk := k.block b hb (by simpa using hne)
  exact ⟨b, o, us, rfl, Nat.lt_of_lt_of_le hb k.size, hF, hK _ _ _ _ _ _ hr, Zim hc hbk⟩
end Go.Gw
namespace Go.Gw
open Go.RowKit
section
variable {w : World} {U n0 : Nat}
theorem lit_rcell {g t : Nat} {a b : Value} {c : RCl} (hB : Blk w g t [.bool c.xn, a, .bool c.yn, b, .int .u8 c.st].toArray) (h1 : Sl Kd.u32 w (G U n0 w) a c.xs) (h2 : Sl Kd.u32 w (G U n0 w) b c.ys) (h3 : 0 ≤ c.st ∧ c.st ≤ 255) :
    Sl (Kd.rcell U n0) w (fun _ => False) (.slice (some ⟨g, 0, none⟩) 1 1) [c] := by
  refine sl_lit (us := [[.bool c.xn, a, .bool c.yn, b, .int .u8 c.st]]) (by simpa using hB) rfl (by simp [Kd.rcell]) (fun h => h) rfl dc ?_
  intro i u y hu hy
  cases i with
  | zero =>
    simp at hu hy; subst hu; subst hy
    exact ⟨a, b, rfl, h1.weak fun k _ hk => hk.elim (fun h => h.elim) id, h2.weak fun k _ hk => hk.elim (fun h => h.elim) id, h3⟩
  | succ i => simp at hu
end
end Go.Gw
namespace Go.Gw
open Go.RowKit Go.ChangeShapes Go.WideShapes Go.ChangeAt Go.Deep
section
variable {H : Type} {enc : TypeId × Value → H} {P : Program} {w : World}
structure CellF (P : Program) (t tx tb ts te ti : Nat) : Prop where
  is : Zgj P t = [(true, tx, 0), (true, tx, 2), (true, ti, 4)]
  big : BigF P tx tb ts te
  int : P.underlying ti = some (.int .u8)
  ct : P.cellsOf t = 5
  ci : P.cellsOf ti = 1
theorem wf_u8 {a : Int} (h : (Lit.int .u8 a).wf = true) : 0 ≤ a ∧ a ≤ 255 := by
  unfold Lit.wf at h
  rw [Bool.and_eq_true, decide_eq_true_eq, decide_eq_true_eq] at h
  have h1 : IntKind.u8.min = 0 := by decide
  have h2 : IntKind.u8.max = 255 := by decide
  rw [h1] at h
  rw [h2] at h
  exact h
theorem Zj1 {t tx tb ts te ti : Nat} (h : CellF P t tx tb ts te ti) (n : Nat) (cs : List Value) (x : DataW H × List MemPlace) (hx : DataW.trod enc P w 0 (fun _ => true) true n t cs = some x) :
    ∃ (xn : Bool) (a : Value) (xs : List Int) (yn : Bool) (b : Value) (ys : List Int) (st : Int), cs = [.bool xn, a, .bool yn, b, .int .u8 st] ∧ Sl Kd.u32 w (fun _ => False) a xs ∧ Sl Kd.u32 w (fun _ => False) b ys ∧ 0 ≤ st ∧ st ≤ 255 := by
  obtain ⟨fs, hu, hsz, hfs⟩ := Zj7 h.is (by simp)
  obtain ⟨f0, g0, t0, o0⟩ := hfs 0 _ _ _ rfl
  obtain ⟨f1, g1, t1, o1⟩ := hfs 1 _ _ _ rfl
  obtain ⟨f2, g2, t2, o2⟩ := hfs 2 _ _ _ rfl
  obtain ⟨xs, m, _, _, hlen, hxl, hf⟩ := DataW.trod_struct hu hx
  rw [h.ct] at hlen
  match cs, hlen with
  | [c0, c1, c2, c3, c4], _ =>
    have h0 := hf 0 f0 g0
    have h1 := hf 1 f1 g1
    have h2 := hf 2 f2 g2
    rw [t0, o0, h.big.ct] at h0
    rw [t1, o1, h.big.ct] at h1
    rw [t2, o2, h.ci] at h2
    have hx0 : 0 < xs.length := by rw [hxl, hsz]; simp
    have hx1 : 1 < xs.length := by rw [hxl, hsz]; simp
    have hx2 : 2 < xs.length := by rw [hxl, hsz]; simp
    rw [List.getElem?_eq_getElem hx0] at h0
    rw [List.getElem?_eq_getElem hx1] at h1
    rw [List.getElem?_eq_getElem hx2] at h2
    obtain ⟨xn, a, p, e0, s0⟩ := Zmd h.big _ _ _ h0
    obtain ⟨yn, b, q, e1, s1⟩ := Zmd h.big _ _ _ h1
    obtain ⟨st, e2, _, wf⟩ := DataW.trod_int h.int h2
    simp at e0 e1 e2
    obtain ⟨rfl, rfl⟩ := e0
    obtain ⟨rfl, rfl⟩ := e1
    subst e2
    exact ⟨xn, _, p, yn, _, q, st, rfl, s0, s1, (wf_u8 wf).1, (wf_u8 wf).2⟩
theorem cell_of_trod {U t tx tb ts te ti : Nat} (h : CellF P t tx tb ts te ti) (n : Nat) (cs : List Value) (x : DataW H × List MemPlace) (hx : DataW.trod enc P w 0 (fun _ => true) true n t cs = some x) :
    ∃ c : RCl, (Kd.rcell U w.heap.size).rep w (fun _ => False) cs c := by
  obtain ⟨xn, a, xs, yn, b, ys, st, rfl, h1, h2, h3⟩ := Zj1 h n cs x hx
  exact ⟨⟨xn, xs, yn, ys, st⟩, a, b, rfl, h1.oldG.outN, h2.oldG.outN, h3⟩
theorem cell_arg {r : Reach} {b0 : Nat} {t tx tb ts te ti : Nat} {v : Value} {d : DataW H} {p : List MemPlace} (h : CellF P t tx tb ts te ti) (hv : Value.okWide P w r b0 t v) (ht : DataW.Trod enc P w 0 (fun _ => true) true t v d p) :
    ∃ (xn : Bool) (a : Value) (xs : List Int) (yn : Bool) (b : Value) (ys : List Int) (st : Int), v = .agg [.bool xn, a, .bool yn, b, .int .u8 st].toArray ∧ Sl Kd.u32 w (fun _ => False) a xs ∧ Sl Kd.u32 w (fun _ => False) b ys ∧ 0 ≤ st ∧ st ≤ 255 := by
  obtain ⟨fs, hu, hsz, hfs⟩ := Zj7 h.is (by simp)
  simp only [Value.okWide, hu] at hv
  obtain ⟨cs, rfl, _⟩ := hv
  obtain ⟨fuel, hf⟩ := ht
  obtain ⟨xn, a, xs, yn, b, ys, st, e, h1, h2, h3⟩ := Zj1 h _ _ _ hf
  refine ⟨xn, a, xs, yn, b, ys, st, ?_, h1, h2, h3⟩
  congr 1
  apply Array.toList_inj.1
  simpa [Value.cells] using e
theorem cells_arg {U : Nat} {r : Reach} {b0 : Nat} {t e tx tb ts te ti : Nat} {v : Value} {d : DataW H} {p : List MemPlace} (hs : P.underlying t = some (.slice e)) (h : CellF P e tx tb ts te ti) (hv : Value.okWide P w r b0 t v) (ht : DataW.Trod enc P w 0 (fun _ => true) true t v d p) :
    ∃ l : List RCl, Sl (Kd.rcell U w.heap.size) w (fun _ => False) v l :=
  sl_of_trod (K := Kd.rcell U w.heap.size) hs h.ct (show 0 < 5 by decide) (fun n cs x hx => cell_of_trod h n cs x hx) hv ht
end
end Go.Gw
namespace Go.Proofs.Ytfljelnfjbbknaa.Nd
open Go.RowKit Go.Gw
theorem Zaw : SlF Try.prog 22 101 5 40 (.agg #[.int .i64 0, .int .i64 0, .int .i64 0, .int .i64 0, .int .i64 0]) := ⟨by kernel_rfl, by kernel_rfl, rfl, by decide⟩
theorem Za1 : RowF Try.prog 101 5 := ⟨by kernel_rfl⟩
theorem Zcw : ZeroF Try.prog 101 #[.int .i64 0, .int .i64 0, .int .i64 0, .int .i64 0, .int .i64 0] := ⟨by kernel_rfl⟩
theorem Zaz : FieldF Try.prog 101 0 0 := ⟨by kernel_rfl⟩
theorem Za9 : OneF Try.prog 3 := ⟨by kernel_rfl⟩
theorem Zav : FieldF Try.prog 101 1 1 := ⟨by kernel_rfl⟩
theorem row99 : RowF Try.prog 99 4 := ⟨by kernel_rfl⟩
theorem Zb9 : ArrF Try.prog 99 4 3 1 := ⟨by kernel_rfl, by kernel_rfl⟩
theorem fn107 : FunF Try.prog 107 := ⟨_, _, Try.func107, by decide +kernel, rfl⟩
theorem one68 : OneF Try.prog 68 := ⟨by kernel_rfl⟩
theorem Zcq : SlF Try.prog 68 4 1 1 (.bool false) := ⟨by kernel_rfl, by kernel_rfl, rfl, by decide⟩
theorem Zeg : OneF Try.prog 4 := ⟨by kernel_rfl⟩
theorem sl65 : SlF Try.prog 65 3 1 8 (.int .i64 0) := ⟨by kernel_rfl, by kernel_rfl, rfl, by decide⟩
theorem fn118 : FunF Try.prog 118 := ⟨_, _, Try.func118, by decide +kernel, rfl⟩
theorem zero68 : ZeroF Try.prog 68 #[.slice none 0 0] := ⟨by kernel_rfl⟩
theorem fn117 : FunF Try.prog 117 := ⟨_, _, Try.func117, by decide +kernel, rfl⟩
theorem fn116 : FunF Try.prog 116 := ⟨_, _, Try.func116, by decide +kernel, rfl⟩
theorem fn115 : FunF Try.prog 115 := ⟨_, _, Try.func115, by decide +kernel, rfl⟩
theorem Zcb : FieldF Try.prog 25 0 0 := ⟨by kernel_rfl⟩
theorem Zb8 : OneF Try.prog 22 := ⟨by kernel_rfl⟩
theorem nodeF : NodeF Try.prog 101 99 3 := ⟨by kernel_rfl, by kernel_rfl, by kernel_rfl, by kernel_rfl, by kernel_rfl, by kernel_rfl, by kernel_rfl⟩
theorem eqNode : EqF Try.prog 101 Nd.val := eqF_node nodeF Nd.tup Nd.tup_inj
theorem keyNode : KeyF Try.prog 101 Nd.val := keyF_node nodeF Nd.tup Nd.tup_inj
theorem fn67 : FunF Try.prog 67 := ⟨_, _, Try.func67, by decide +kernel, rfl⟩
theorem fn40 : FunF Try.prog 40 := ⟨_, _, Try.func40, by decide +kernel, rfl⟩
theorem fn69 : FunF Try.prog 69 := ⟨_, _, Try.func69, by decide +kernel, rfl⟩
theorem nz3 : ∃ ie, Try.prog.info? 3 = some ie ∧ 0 < ie.size := nz_of kr
theorem fn37 : FunF Try.prog 37 := ⟨_, _, Try.func37, by decide +kernel, rfl⟩
theorem fn68 : FunF Try.prog 68 := ⟨_, _, Try.func68, by decide +kernel, rfl⟩
theorem fn90 : FunF Try.prog 90 := ⟨_, _, Try.func90, by decide +kernel, rfl⟩
theorem fn108 : FunF Try.prog 108 := ⟨_, _, Try.func108, by decide +kernel, rfl⟩
theorem fn109 : FunF Try.prog 109 := ⟨_, _, Try.func109, by decide +kernel, rfl⟩
theorem fn110 : FunF Try.prog 110 := ⟨_, _, Try.func110, by decide +kernel, rfl⟩
theorem Zgw : ∃ ie, Try.prog.info? 101 = some ie ∧ 0 < ie.size := nz_of kr
theorem fn72 : FunF Try.prog 72 := ⟨_, _, Try.func72, by decide +kernel, rfl⟩
theorem fn73 : FunF Try.prog 73 := ⟨_, _, Try.func73, by decide +kernel, rfl⟩
theorem fn39 : FunF Try.prog 39 := ⟨_, _, Try.func39, by decide +kernel, rfl⟩
theorem fn74 : FunF Try.prog 74 := ⟨_, _, Try.func74, by decide +kernel, rfl⟩
theorem Zez : ZeroF Try.prog 25 #[.slice none 0 0] := ⟨by kernel_rfl⟩
theorem Za6 : RowF Try.prog 25 1 := ⟨by kernel_rfl⟩
theorem fn38 : FunF Try.prog 38 := ⟨_, _, Try.func38, by decide +kernel, rfl⟩
theorem keyI : KeyF Try.prog 3 ekI := keyF_I kr
theorem four99 : Go.Program.underlying Try.prog 99 = some (.array 4 3) := by kernel_rfl
theorem fld126_1 : FieldF Try.prog 126 1 1 := ⟨by kernel_rfl⟩
theorem one124 : OneF Try.prog 124 := ⟨by kernel_rfl⟩
theorem map124 : MapF Try.prog 124 101 3 := ⟨by kernel_rfl⟩
theorem Zi4 : FieldF Try.prog 126 0 0 := ⟨by kernel_rfl⟩
theorem one127 : OneF Try.prog 127 := ⟨by kernel_rfl⟩
theorem map127 : MapF Try.prog 127 3 3 := ⟨by kernel_rfl⟩
theorem one128 : OneF Try.prog 128 := ⟨by kernel_rfl⟩
theorem one123 : OneF Try.prog 123 := ⟨by kernel_rfl⟩
theorem fn94 : FunF Try.prog 94 := ⟨_, _, Try.func94, by decide +kernel, rfl⟩
theorem fn93 : FunF Try.prog 93 := ⟨_, _, Try.func93, by decide +kernel, rfl⟩
theorem fn91 : FunF Try.prog 91 := ⟨_, _, Try.func91, by decide +kernel, rfl⟩
theorem fn92 : FunF Try.prog 92 := ⟨_, _, Try.func92, by decide +kernel, rfl⟩
theorem zero123 : ZeroF Try.prog 123 #[.pointer none] := ⟨by kernel_rfl⟩
theorem zero127 : ZeroF Try.prog 127 #[.map none] := ⟨by kernel_rfl⟩
theorem zero128 : ZeroF Try.prog 128 #[.nilFunc] := ⟨by kernel_rfl⟩
end Go.Proofs.Ytfljelnfjbbknaa.Nd
namespace Go.Proofs.Ytfljelnfjbbknaa.Nd
open Go.RowKit Go.Gw
set_option maxHeartbeats 1000000 in
theorem kid_any {va : Value} {l : List Nd} {F : Nat → Prop} {w : World} (hl : Sl Kd.node w F va l) {i c : Int} (h0 : 0 ≤ i) (hi : i < l.length) (hv : 1 ≤ (ix l i).lv ∧ (ix l i).lv ≤ 1329) :
  Calls Try.prog 107 [va, .int .i64 i, .int .i64 c].toArray w (Zbh w fun v _ => v = .bool (Zf6 l i c)) := by
 have hb0 := Below.refl w.heap.size w
 have hln1 := hl.lenle
 refine enter Try.func107 rfl rfl (Zh (Zb (st (Ze rfl (Zg (Zd (Zh ?_)))))))
 refine Zb (st (Zc rfl (st (Zc rfl (st (Zat Zaw rfl rfl (hl.at0 hb0) om om ?_))))))
 rintro b1 o1 _ ⟨rfl, _⟩ hc1 hF1 hlt1
 have hl_1 := Loc.lt hF1
 refine st (Zp Za1 rfl hc1 rfl (st (Zan Zcw ?_)))
 intro g1 w1 hg1 hB1 k1 hs1
 have hz1 := hb0.size
 have hb1 := Zf hb0 k1
 refine st0 (Zv Za1 rfl rfl hB1 rfl rfl rfl ?_)
 intro w2 hB2 k2 hs2
 have hb2 := belowa hb1 k2
 clear hB1
 refine Zg (Zd (Zh (Zz (Zh (Zb (st (Zc rfl ?_)))))))
 refine st (Zbu rfl rfl (st (Ze rfl (Zg (Zd ?_)))))
 refine Zw rfl (fun h1 => ?_) (fun h1 => ?_)
 ·refine Zh (Zb (st (Ze rfl (Zg (Zd (Zaa rfl rfl ?_))))))
  exact ⟨_, rfl, hb2, by simp [Zf6, h1]⟩
 refine Zh (Zb (st (Zn Zaz rfl (st (Zt Za9 rfl hB2.range (j := 0) rfl (st (Zbu rfl rfl (st (Ze rfl (Zg ?_))))))))))
 refine Zd ?_
 refine Zw rfl (fun h2 => ?_) (fun h2 => ?_)
 ·refine Zh (Zb (st (Zc rfl (st (Zch rfl rfl (st (Zc rfl ?_)))))))
  refine Zax 21 rfl (fun h3 => ?_) (fun h3 => ?_)
  rotate_left
  ·refine Zj rfl rfl (Zj rfl rfl (st (Zr rfl rfl (st (Ze rfl (Zg (Zd (Zaa rfl rfl ?_))))))))
   exact ⟨_, rfl, hb2, by simp [Zf6, h1, h2, h3]⟩
  refine stg (Zc rfl (stg (s_le rfl rfl (st (Zr rfl rfl (st (Ze rfl (Zg (Zd (Zaa rfl rfl ?_))))))))))
  exact ⟨_, rfl, hb2, by simp [Zf6, h1, h2, h3]⟩
 refine Zo (Zab (Zd (Zh ?_)))
 by_cases h4 : 0 < c
 rotate_left
 ·refine Zce 19 GN [xi 25 <| .int .i64 c, xi 26 <| .bool (decide (0 < c)), xi 27 <| .bool false, xu 28, xu 29, xu 30, xi 31 <| .bool false, xi 32 <| .bool false, xu 33, xu 34, xu 35, xu 36, xu 37, xu 38, xu 39, xu 40, xu 41, xu 42, xi 43 <| .bool false] [[], [0], [1], [2], [2], [2, 3, 4], [2, 5], [6], [7], [7], [7, 9], [7, 8, 10], [7, 11], [7, 12], [7], [7, 14], [7, 15], [7, 13, 16], [7, 17]] [(0, va), (1, .int .i64 i), (2, .int .i64 c), (6, .bool false), (7, (pp g1))] sb kr kr Za gnt ⟨kv, kv, kv, kv, kv, kv, kv, kv, kv, kv, kv, kv, kv, kv, kv, kv, kv, kv, kv, trivial⟩ ?_
  intro w45 k45 hs5
  have hb45 := Zf hb2 k45
  refine ⟨⟨?_, ?_, ?_, ?_, ?_, ?_, ?_, ?_, ?_, ?_, ?_, ?_, ?_, ?_, ?_, ?_, ?_, ?_, ?_, trivial⟩, ?_⟩
  ·intro w46 k46
   refine op1 (Zc rfl ?_)
   exact ⟨rfl, Za _⟩
  ·intro w47 k47
   rintro _ rfl
   refine op1 (Zch rfl rfl ?_)
   exact ⟨rfl, Za _⟩
  ·intro w48 k48
   rintro _ rfl
   refine op1 (Zc rfl ?_)
   exact ⟨(by rw [decide_eq_false h4]), Za _⟩
  ·intro w49 k49
   rintro _ rfl
   refine Za0 ⟨rfl, Za _⟩
  ·intro w50 k50
   rintro _ rfl
   refine Za0 ⟨rfl, Za _⟩
  ·intro w51 k51
   rintro _ rfl
   intro v_ hv_; subst v_
   intro v_ hv_; subst v_
   refine Za0 ⟨rfl, Za _⟩
  ·intro w52 k52
   rintro _ rfl
   intro v_ hv_; subst v_
   refine op1 (Zr rfl rfl ?_)
   exact ⟨rfl, Za _⟩
  ·intro w53 k53
   rintro _ rfl
   refine op1 (Zc rfl ?_)
   exact ⟨rfl, Za _⟩
  ·intro w54 k54
   rintro _ rfl
   refine Za0 ⟨rfl, Za _⟩
  ·intro w55 k55
   rintro _ rfl
   refine Za0 ⟨rfl, Za _⟩
  ·intro w56 k56
   rintro _ rfl
   intro v_ hv_; subst v_
   refine Za0 ⟨rfl, Za _⟩
  ·intro w57 k57
   rintro _ rfl
   intro v_ hv_; subst v_
   intro v_ hv_; subst v_
   refine Za0 ⟨rfl, Za _⟩
  ·intro w58 k58
   rintro _ rfl
   intro v_ hv_; subst v_
   refine Za0 ⟨rfl, Za _⟩
  ·intro w59 k59
   rintro _ rfl
   intro v_ hv_; subst v_
   refine Za0 ⟨rfl, Za _⟩
  ·intro w60 k60
   rintro _ rfl
   refine Za0 ⟨rfl, Za _⟩
  ·intro w61 k61
   rintro _ rfl
   intro v_ hv_; subst v_
   refine Za0 ⟨rfl, Za _⟩
  ·intro w62 k62
   rintro _ rfl
   intro v_ hv_; subst v_
   refine Za0 ⟨rfl, Za _⟩
  ·intro w63 k63
   rintro _ rfl
   intro v_ hv_; subst v_
   intro v_ hv_; subst v_
   refine Za0 ⟨rfl, Za _⟩
  ·intro w64 k64
   rintro _ rfl
   intro v_ hv_; subst v_
   refine op1 (Zr rfl rfl ?_)
   exact ⟨rfl, Za _⟩
  intro w65 k65
  have hb65 := Zf hb45 k65
  rintro _ rfl _ rfl _ rfl
  intro v_ hv_; subst v_
  intro v_ hv_; subst v_
  intro v_ hv_; subst v_
  rintro _ rfl _ rfl
  intro v_ hv_; subst v_
  intro v_ hv_; subst v_
  intro v_ hv_; subst v_
  intro v_ hv_; subst v_
  intro v_ hv_; subst v_
  intro v_ hv_; subst v_
  intro v_ hv_; subst v_
  intro v_ hv_; subst v_
  intro v_ hv_; subst v_
  intro v_ hv_; subst v_
  rintro _ rfl
  refine st (Ze rfl (Zg (Zd (Zaa rfl rfl ?_))))
  exact ⟨_, rfl, hb65, by simp [Zf6, h1, h2, h4]⟩
 by_cases h5 : c ≤ i
 rotate_left
 ·refine Zce 19 GN [xi 25 <| .int .i64 c, xi 26 <| .bool (decide (0 < c)), xi 27 <| .bool true, xi 28 <| .int .i64 c, xi 29 <| .int .i64 i, xi 30 <| .bool (decide (c ≤ i)), xi 31 <| .bool (decide (c ≤ i)), xi 32 <| .bool false, xu 33, xu 34, xu 35, xu 36, xu 37, xu 38, xu 39, xu 40, xu 41, xu 42, xi 43 <| .bool false] [[], [0], [1], [2], [2], [2, 3, 4], [2, 5], [6], [7], [7], [7, 9], [7, 8, 10], [7, 11], [7, 12], [7], [7, 14], [7, 15], [7, 13, 16], [7, 17]] [(0, va), (1, .int .i64 i), (2, .int .i64 c), (6, .bool false), (7, (pp g1))] sb kr kr Za gnt ⟨kv, kv, kv, kv, kv, kv, kv, kv, kv, kv, kv, kv, kv, kv, kv, kv, kv, kv, kv, trivial⟩ ?_
  intro w24 k24 hs4
  have hb24 := Zf hb2 k24
  refine ⟨⟨?_, ?_, ?_, ?_, ?_, ?_, ?_, ?_, ?_, ?_, ?_, ?_, ?_, ?_, ?_, ?_, ?_, ?_, ?_, trivial⟩, ?_⟩
  ·intro w25 k25
   refine op1 (Zc rfl ?_)
   exact ⟨rfl, Za _⟩
  ·intro w26 k26
   rintro _ rfl
   refine op1 (Zch rfl rfl ?_)
   exact ⟨rfl, Za _⟩
  ·intro w27 k27
   rintro _ rfl
   refine op1 (Zc rfl ?_)
   exact ⟨(by rw [decide_eq_true h4]), Za _⟩
  ·intro w28 k28
   rintro _ rfl
   refine Zas (Zc rfl ?_)
   exact ⟨rfl, Za _⟩
  ·intro w29 k29
   rintro _ rfl
   refine Zas (Zc rfl ?_)
   exact ⟨rfl, Za _⟩
  ·intro w30 k30
   rintro _ rfl _ rfl _ rfl
   refine Zas (s_le rfl rfl ?_)
   exact ⟨rfl, Za _⟩
  ·intro w31 k31
   rintro _ rfl _ rfl
   refine op1 (Zr rfl rfl ?_)
   exact ⟨rfl, Za _⟩
  ·intro w32 k32
   rintro _ rfl
   refine op1 (Zc rfl ?_)
   exact ⟨(by rw [decide_eq_false h5]), Za _⟩
  ·intro w33 k33
   rintro _ rfl
   refine Za0 ⟨rfl, Za _⟩
  ·intro w34 k34
   rintro _ rfl
   refine Za0 ⟨rfl, Za _⟩
  ·intro w35 k35
   rintro _ rfl
   intro v_ hv_; subst v_
   refine Za0 ⟨rfl, Za _⟩
  ·intro w36 k36
   rintro _ rfl
   intro v_ hv_; subst v_
   intro v_ hv_; subst v_
   refine Za0 ⟨rfl, Za _⟩
  ·intro w37 k37
   rintro _ rfl
   intro v_ hv_; subst v_
   refine Za0 ⟨rfl, Za _⟩
  ·intro w38 k38
   rintro _ rfl
   intro v_ hv_; subst v_
   refine Za0 ⟨rfl, Za _⟩
  ·intro w39 k39
   rintro _ rfl
   refine Za0 ⟨rfl, Za _⟩
  ·intro w40 k40
   rintro _ rfl
   intro v_ hv_; subst v_
   refine Za0 ⟨rfl, Za _⟩
  ·intro w41 k41
   rintro _ rfl
   intro v_ hv_; subst v_
   refine Za0 ⟨rfl, Za _⟩
  ·intro w42 k42
   rintro _ rfl
   intro v_ hv_; subst v_
   intro v_ hv_; subst v_
   refine Za0 ⟨rfl, Za _⟩
  ·intro w43 k43
   rintro _ rfl
   intro v_ hv_; subst v_
   refine op1 (Zr rfl rfl ?_)
   exact ⟨rfl, Za _⟩
  intro w44 k44
  have hb44 := Zf hb24 k44
  rintro _ rfl _ rfl _ rfl _ rfl _ rfl _ rfl _ rfl _ rfl
  intro v_ hv_; subst v_
  intro v_ hv_; subst v_
  intro v_ hv_; subst v_
  intro v_ hv_; subst v_
  intro v_ hv_; subst v_
  intro v_ hv_; subst v_
  intro v_ hv_; subst v_
  intro v_ hv_; subst v_
  intro v_ hv_; subst v_
  intro v_ hv_; subst v_
  rintro _ rfl
  refine st (Ze rfl (Zg (Zd (Zaa rfl rfl ?_))))
  exact ⟨_, rfl, hb44, by simp [Zf6, h1, h2, h4, h5]⟩
 obtain ⟨b2, o2, _, hat1, ⟨rfl, _⟩, hc2, hF2, hlt2⟩ := (hl.at0 hb2).elem (c - 1) om om
 have hl_2 := Loc.lt hF2
 refine Zce 19 GN [xi 25 <| .int .i64 c, xi 26 <| .bool (decide (0 < c)), xi 27 <| .bool true, xi 28 <| .int .i64 c, xi 29 <| .int .i64 i, xi 30 <| .bool (decide (c ≤ i)), xi 31 <| .bool (decide (c ≤ i)), xi 32 <| .bool true, xi 33 <| va, xi 34 <| .int .i64 c, xi 35 <| .int .i64 (c - 1), xi 36 <| .pointer (some ⟨b2, o2, none⟩), xi 37 <| .pointer (some ⟨b2, o2 + 0, none⟩), xi 38 <| .int .i64 ((ix l (c - 1)).lv), xi 39 <| .pointer (some ⟨g1, 0 + 0, none⟩), xi 40 <| .int .i64 ((ix l i).lv), xi 41 <| .int .i64 ((ix l i).lv - 1), xi 42 <| .bool (decide ((ix l (c - 1)).lv = ((ix l i).lv - 1))), xi 43 <| .bool (decide ((ix l (c - 1)).lv = ((ix l i).lv - 1)))] [[], [0], [1], [2], [2], [2, 3, 4], [2, 5], [6], [7], [7], [7, 9], [7, 8, 10], [7, 11], [7, 12], [7], [7, 14], [7, 15], [7, 13, 16], [7, 17]] [(0, va), (1, .int .i64 i), (2, .int .i64 c), (6, .bool false), (7, (pp g1))] sb kr kr Za gnt ⟨kv, kv, kv, kv, kv, kv, kv, kv, kv, kv, kv, kv, kv, kv, kv, kv, kv, kv, kv, trivial⟩ ?_
 intro w3 k3 hs3
 have hb3 := Zf hb2 k3
 refine ⟨⟨?_, ?_, ?_, ?_, ?_, ?_, ?_, ?_, ?_, ?_, ?_, ?_, ?_, ?_, ?_, ?_, ?_, ?_, ?_, trivial⟩, ?_⟩
 ·intro w4 k4
  refine op1 (Zc rfl ?_)
  exact ⟨rfl, Za _⟩
 ·intro w5 k5
  rintro _ rfl
  refine op1 (Zch rfl rfl ?_)
  exact ⟨rfl, Za _⟩
 ·intro w6 k6
  rintro _ rfl
  refine op1 (Zc rfl ?_)
  exact ⟨(by rw [decide_eq_true h4]), Za _⟩
 ·intro w7 k7
  rintro _ rfl
  refine Zas (Zc rfl ?_)
  exact ⟨rfl, Za _⟩
 ·intro w8 k8
  rintro _ rfl
  refine Zas (Zc rfl ?_)
  exact ⟨rfl, Za _⟩
 ·intro w9 k9
  rintro _ rfl _ rfl _ rfl
  refine Zas (s_le rfl rfl ?_)
  exact ⟨rfl, Za _⟩
 ·intro w10 k10
  rintro _ rfl _ rfl
  refine op1 (Zr rfl rfl ?_)
  exact ⟨rfl, Za _⟩
 ·intro w11 k11
  rintro _ rfl
  refine op1 (Zc rfl ?_)
  exact ⟨(by rw [decide_eq_true h5]), Za _⟩
 ·intro w12 k12
  rintro _ rfl
  refine Zas (Zc rfl ?_)
  exact ⟨rfl, Za _⟩
 ·intro w13 k13
  rintro _ rfl
  refine Zas (Zc rfl ?_)
  exact ⟨rfl, Za _⟩
 ·intro w14 k14
  rintro _ rfl _ rfl
  refine Zas (Za7 rfl rfl om ?_)
  exact ⟨rfl, Za _⟩
 ·intro w15 k15
  rintro _ rfl
  intro v_ hv_; subst v_
  rintro _ rfl
  refine Zas (Zbo Zaw rfl rfl hat1 ?_)
  exact ⟨rfl, Za _⟩
 ·intro w16 k16
  rintro _ rfl _ rfl
  refine Zas (Zn Zaz rfl ?_)
  exact ⟨rfl, Za _⟩
 ·intro w17 k17
  rintro _ rfl _ rfl
  refine Zas (Zt Za9 rfl (Zaj (Zaj hc2 k3) k17) (j := 0) rfl ?_)
  exact ⟨rfl, Za _⟩
 ·intro w18 k18
  rintro _ rfl
  refine Zas (Zn Zaz rfl ?_)
  exact ⟨rfl, Za _⟩
 ·intro w19 k19
  rintro _ rfl _ rfl
  refine Zas (Zt Za9 rfl ((hB2.g0 k3).g0 k19).range (j := 0) rfl ?_)
  exact ⟨rfl, Za _⟩
 ·intro w20 k20
  rintro _ rfl _ rfl
  refine Zas (Za7 rfl rfl om ?_)
  exact ⟨rfl, Za _⟩
 ·intro w21 k21
  rintro _ rfl _ rfl _ rfl
  refine Zas (Zbu rfl rfl ?_)
  exact ⟨rfl, Za _⟩
 ·intro w22 k22
  rintro _ rfl _ rfl
  refine op1 (Zr rfl rfl ?_)
  exact ⟨rfl, Za _⟩
 intro w23 k23
 have hb23 := Zf hb3 k23
 rintro _ rfl _ rfl _ rfl _ rfl _ rfl _ rfl _ rfl _ rfl
 intro v_ hv_; subst v_
 rintro _ rfl _ rfl _ rfl _ rfl _ rfl _ rfl _ rfl _ rfl _ rfl _ rfl
 refine st (Ze rfl (Zg (Zd (Zaa rfl rfl ?_))))
 exact ⟨_, rfl, hb23, by simp [Zf6, h1, h2, h4, h5]⟩
set_option maxHeartbeats 1000000 in
theorem loose_any {va : Value} {l : List Nd} {F : Nat → Prop} {w : World} (hl : Sl Kd.node w F va l) :
  Calls Try.prog 91 [va].toArray w (Zbh w fun v _ => v = .bool (Zaf l)) := by
 have hb0 := Below.refl w.heap.size w
 have hln1 := hl.lenle
 refine enter Try.func91 rfl rfl (Zh (Zb (st (Ze rfl (Zg (Zd (Zh ?_)))))))
 refine Zh (Zb (st (Zc rfl (st (Zaq Zaw rfl (hl.at0 hb0) (st (Zc rfl (Zg (Zd ?_)))))))))
 refine Zz (Za2 (α := Int) (fun (i : Int) => [(0, va), (7, va), (8, .int .i64 (l.length : Int)), (9, .int .i64 i)]) (fun (i : Int) W => Below w.heap.size w W ∧ (0 ≤ i ∧ i ≤ l.length) ∧ (∀ j : Int, 0 ≤ j → j < i → okAt l j = true)) (fun (i : Int) => (l.length - i).toNat) (0) ⟨hb0, by omega, fun j _ _ => by omega⟩ sb ?_)
 rintro i w1 ⟨hb1, hi, ha⟩
 have hz1 := hb1.size
 refine Zh (Zb (st (Zbd rfl rfl (Zg (Zd (Zh ?_))))))
 refine Zw rfl (fun h1 => ?_) (fun h1 => ?_)
 rotate_left
 ·refine Zak (Zk (Zk (Zs (Zd (Zh (Zb ?_))))))
  refine st (Ze rfl (Zg (Zd (Zaa rfl rfl ?_))))
  exact ⟨_, rfl, hb1, by rw [(Zcz l).2]; intro j j0 j1; exact ha j j0 om⟩
 refine Zo (Zd (Zh (Zz (Zh (Zb (st (Zc rfl ?_)))))))
 refine st (Zat Zaw rfl rfl (hl.at0 hb1) om om ?_)
 rintro b1 o1 _ ⟨rfl, _⟩ hc1 hF1 hlt1
 have hl_1 := Loc.lt hF1
 refine st (Zp Za1 rfl hc1 rfl (st (Zan Zcw ?_)))
 intro g1 w2 hg1 hB1 k1 hs1
 have hz2 := hb1.size
 have hb2 := Zf hb1 k1
 refine st (Ze rfl (st0 (Zv Za1 rfl rfl hB1 rfl rfl rfl ?_)))
 intro w3 hB2 k2 hs2
 have hb3 := belowa hb2 k2
 clear hB1
 refine Zg (Zd (Zh (Zh (Zb (st (Zn Zaz rfl (st (Zt Za9 rfl hB2.range (j := 0) rfl ?_))))))))
 refine st (Zbd rfl rfl (st (Zc rfl ?_)))
 refine Zax 17 rfl (fun h2 => ?_) (fun h2 => ?_)
 ·refine Zj rfl rfl (Zj rfl rfl (Zj rfl rfl (st (Zr rfl rfl (Zg (Zd (Zb0 rfl ?_)))))))
  refine Zh (Zb (st (Ze rfl (Zg (Zd (Zaa rfl rfl ?_))))))
  refine ⟨_, rfl, hb3, ?_⟩
  rw [Zfi i om om]
  rw [ne_eq, Zck]
  rintro ⟨e1, e2⟩
  first | omega | (have e3 := e2 k om om; unfold Nd.kid at e3; simp [e3] at h2)
 refine stg (Zn Zaz rfl (stg (Zt Za9 rfl hB2.range (j := 0) rfl (stg (Zch rfl rfl (st (Zr rfl rfl (Zg (Zd ?_)))))))))
 refine Zw rfl (fun h3 => ?_) (fun h3 => ?_)
 ·refine Zh (Zb (st (Ze rfl (Zg (Zd (Zaa rfl rfl ?_))))))
  refine ⟨_, rfl, hb3, ?_⟩
  rw [Zfi i om om]
  rw [ne_eq, Zck]
  rintro ⟨e1, e2⟩
  first | omega | (have e3 := e2 k om om; unfold Nd.kid at e3; simp [e3] at h3)
 refine Zo (Zd (Zh (Zb (st (Zn Zav rfl (st (Zbf (us := [.int .i64 ((ix l i).k0), .int .i64 ((ix l i).k1), .int .i64 ((ix l i).k2), .int .i64 ((ix l i).k3)]) row99 rfl hB2.range (j := 1) rfl rfl (st (Zc rfl ?_)))))))))
 refine Zg (Zd (Zz (Za2 (α := Int) (fun (k : Int) => [(0, va), (3, .int .i64 i), (7, va), (8, .int .i64 (l.length : Int)), (9, .int .i64 i), (23, .agg [.int .i64 ((ix l i).k0), .int .i64 ((ix l i).k1), .int .i64 ((ix l i).k2), .int .i64 ((ix l i).k3)].toArray), (24, .int .i64 k)]) (fun (k : Int) W => Below w.heap.size w W ∧ (0 ≤ k ∧ k ≤ 4) ∧ (∀ j : Int, 0 ≤ j → j < k → Zf6 l i ((ix l i).kid j) = true)) (fun (k : Int) => (4 - k).toNat) (0) ⟨hb3, by omega, fun j _ _ => by omega⟩ sb ?_)))
 rintro k w4 ⟨hb4, hk, hk2⟩
 have hz3 := hb4.size
 refine Zh (Zb (st (Zbd rfl rfl (Zg (Zd (Zh ?_))))))
 refine Zw rfl (fun h4 => ?_) (fun h4 => ?_)
 rotate_left
 ·refine Zak (Zk (Zk (Zs (Zab (Zd (Zb ?_))))))
  refine st (Zah rfl rfl om (st (Zc rfl (Zg ?_))))
  exact Zac ((i + 1)) ⟨hb4, by omega, fun j j0 j1 => if e : j = i then by rw [e, Zck]; exact ⟨by omega, fun k k0 k1 => hk2 k k0 om⟩ else ha j j0 om⟩ om sb
 refine Zo (Zd (Zh (Zz (Zh (Zb (st (Zkj Zb9 Za9 rfl rfl om om ?_)))))))
 refine st (Ze rfl (Zg (Zd (Zh (Zb (st (Zc rfl (st (Zc rfl ?_)))))))))
 refine st (Zc rfl (st (Zq fn107 rfl (kid_any (hl.at0 hb4) om om om) ?_)))
 rintro _ w5 ⟨hq1, rfl⟩
 have k3 := Zi hq1 none
 have hz4 := hq1.size
 have hb5 := Zf hb4 k3
 have hz5 := hb5.size
 refine st (Zdd rfl (Zg (Zd ?_)))
 refine Zba rfl (fun h5 => ?_) (fun h5 => ?_)
 ·refine Zh (Zb (st (Ze rfl (Zg (Zd (Zaa rfl rfl ?_))))))
  refine ⟨_, rfl, hb5, ?_⟩
  rw [Zfi i om om]
  rw [ne_eq, Zck]
  rintro ⟨e1, e2⟩
  first | omega | (have e3 := e2 k om om; unfold Nd.kid at e3; simp [e3] at h5)
 refine Zo (Zab (Zd (Zb (st (Zah rfl rfl om (st (Zc rfl (Zg ?_))))))))
 exact Zac ((k + 1)) ⟨hb5, by omega, fun j j0 j1 => if e : j = k then by rw [e]; simpa [Nd.kid] using h5 else hk2 j j0 om⟩ om sb
set_option maxHeartbeats 1000000 in
theorem full1_any {w : World} {gx go : Nat} {x : Nd} {vo : Value} {out : List Bool} {F : Nat → Prop} {c : Int} (hx : w.rangeAt gx 0 x.cells) (ho : w.rangeAt go 0 [vo]) (hs : Sl Kd.bool w F vo out) (hc : c ≠ 0 → x.lv ≠ 1 → 0 ≤ c ∧ c < out.length) :
  Calls Try.prog 117 [.int .i64 c, (pp gx), (pp go)].toArray w (Zbh w fun v _ => v = .bool (Zes x out c)) := by
 have hb0 := Below.refl w.heap.size w
 refine enter Try.func117 rfl rfl (Zh (Zb (st (Ze rfl (Zg (Zd (Zh ?_)))))))
 refine Zb (st (Zc rfl (st (s_ne rfl rfl (st (Zc rfl ?_))))))
 refine Zax 7 rfl (fun h1 => ?_) (fun h1 => ?_)
 rotate_left
 ·refine Zj rfl rfl (Zj rfl rfl (Zj rfl rfl (Zj rfl rfl (Zal rfl rfl (Zal rfl rfl (Zal rfl rfl ?_))))))
  refine Zal rfl rfl (Zj rfl rfl (st (Zr rfl rfl (st (Ze rfl (Zg (Zd (Zaa rfl rfl ?_))))))))
  exact ⟨_, rfl, hb0, by simp [Zes, h1]⟩
 refine stg (Zn Zaz rfl (stg (Zt Za9 rfl hx (j := 0) rfl (stg (Zbu rfl rfl (stg (Zc rfl ?_)))))))
 refine Zax 11 rfl (fun h2 => ?_) (fun h2 => ?_)
 ·refine Zj rfl rfl (Zj rfl rfl (Zj rfl rfl (Zj rfl rfl (stg (Zr rfl rfl (st (Zr rfl rfl (st (Ze rfl ?_)))))))))
  refine Zg (Zd (Zaa rfl rfl ?_))
  exact ⟨_, rfl, hb0, by simp [Zes, h1, h2]⟩
 refine stg (Zt one68 rfl ho (j := 0) rfl (stg (Zc rfl (stg (Zat Zcq rfl rfl (hs.at0 hb0) om om ?_)))))
 rintro b1 o1 _ ⟨rfl, _⟩ hc1 hF1 hlt1
 have hl_1 := Loc.lt hF1
 refine stg (Zt Zeg rfl hc1 (j := 0) rfl (stg (Zr rfl rfl (st (Zr rfl rfl (st (Ze rfl (Zg (Zd (Zaa rfl rfl ?_))))))))))
 exact ⟨_, rfl, hb0, by simp [Zes, h1, h2]⟩
set_option maxHeartbeats 1000000 in
theorem idxfunc_any {w : World} {va : Value} {xs : List Int} {F : Nat → Prop} {f : Nat} {caps : List Value} {p : Int → Bool} (hl : Sl (Kd.num .i64) w F va xs) (hf : FunF Try.prog f) (hcl : ∀ w', w.grownBy w' none → ∀ i : Int, 0 ≤ i → i < xs.length → Calls Try.prog f ([] ++ [Value.int .i64 (ix xs i)] ++ caps).toArray w' (Zbh w' fun v _ => v = .bool (p (ix xs i)))) :
  Calls Try.prog 118 [va, .func (.func f) [].toArray caps.toArray].toArray w (Zbh w fun v _ => v = .int .i64 (idxF p xs)) := by
 have hb0 := Below.refl w.heap.size w
 have hln1 := hl.lenle
 refine enter Try.func118 rfl rfl (Zh (Zb (st (Ze rfl (Zg (Zd (Zh ?_)))))))
 refine Zh (Zb (st (Zc rfl (st (Zaq sl65 rfl (hl.at0 hb0) (st (Zc rfl (Zg (Zd ?_)))))))))
 refine Zz (Za2 (α := Int) (fun (i : Int) => [(0, va), (1, .func (.func f) [].toArray caps.toArray), (7, .int .i64 (xs.length : Int)), (8, .int .i64 i)]) (fun (i : Int) W => Below w.heap.size w W ∧ (0 ≤ i ∧ i ≤ xs.length) ∧ (∀ j : Int, 0 ≤ j → j < i → p (ix xs j) = false)) (fun (i : Int) => (xs.length - i).toNat) (0) ⟨hb0, by omega, fun j _ _ => by omega⟩ sb ?_)
 rintro i w1 ⟨hb1, hi, ha⟩
 have hz1 := hb1.size
 refine Zh (Zb (st (Zbd rfl rfl (Zg (Zd (Zh ?_))))))
 refine Zw rfl (fun h1 => ?_) (fun h1 => ?_)
 rotate_left
 ·refine Zak (Zk (Zk (Zs (Zd (Zh (Zb ?_))))))
  refine st (Ze rfl (Zg (Zd (Zaa rfl rfl ?_))))
  exact ⟨_, rfl, hb1, by rw [idxF_none p xs (fun j j0 j1 => ha j j0 om)]⟩
 have hlt := h1
 refine Zo (Zd (Zh (Zz (Zh (Zb (st (Zc rfl ?_)))))))
 refine st (Ze rfl (Zg (Zd (Zh (Zb (st (Zc rfl (st (Zc rfl ?_)))))))))
 refine st (Zc rfl (st (Zat sl65 rfl rfl (hl.at0 hb1) om om ?_)))
 rintro b1 o1 _ ⟨rfl, _⟩ hc1 hF1 hlt1
 have hl_1 := Loc.lt hF1
 refine st (Zt Za9 rfl hc1 (j := 0) rfl (st (s_callc hf rfl rfl (hcl _ (Zi hb1 none) _ hi.1 hlt) ?_)))
 rintro _ w2 ⟨hq1, rfl⟩
 have k1 := Zi hq1 none
 have hb2 := Zf hb1 k1
 have hz2 := hb2.size
 refine Zg (Zd ?_)
 refine Zba rfl (fun h2 => ?_) (fun h2 => ?_)
 ·refine Zh (Zb (st (Zc rfl (st (Ze rfl (Zg (Zd (Zaa rfl rfl ?_))))))))
  exact ⟨_, rfl, hb2, by rw [idxF_at p xs i hi.1 hlt ha h2]⟩
 refine Zo (Zab (Zd (Zb (st (Zah rfl rfl om (st (Zc rfl (Zg ?_))))))))
 exact Zac ((i + 1)) ⟨hb2, by omega, fun j j0 j1 => if e : j = i then by rw [e]; exact h2 else ha j j0 om⟩ om sb
set_option maxHeartbeats 1000000 in
theorem confunc_any {w : World} {va : Value} {xs : List Int} {F : Nat → Prop} {f : Nat} {caps : List Value} {p : Int → Bool} (hl : Sl (Kd.num .i64) w F va xs) (hf : FunF Try.prog f) (hcl : ∀ w', w.grownBy w' none → ∀ i : Int, 0 ≤ i → i < xs.length → Calls Try.prog f ([] ++ [Value.int .i64 (ix xs i)] ++ caps).toArray w' (Zbh w' fun v _ => v = .bool (p (ix xs i)))) :
  Calls Try.prog 116 [va, .func (.func f) [].toArray caps.toArray].toArray w (Zbh w fun v _ => v = .bool (xs.any p)) := by
 have hb0 := Below.refl w.heap.size w
 have hln1 := hl.lenle
 refine enter Try.func116 rfl rfl (Zh (Zb (st (Ze rfl (Zg (Zd (Zh ?_)))))))
 refine Zb (st (Zc rfl (st (Zc rfl (st (Zq fn118 rfl (idxfunc_any (hl.at0 hb0) hf hcl) ?_))))))
 rintro _ w1 ⟨hq1, rfl⟩
 have k1 := Zi hq1 none
 have hb1 := Zf hb0 k1
 have hz1 := hb1.size
 refine st (Zg3 rfl rfl (st (Ze rfl (Zg (Zd (Zaa rfl rfl ?_))))))
 exact ⟨_, rfl, hb1, by rw [idxF_ge]⟩
set_option maxHeartbeats 1000000 in
theorem full_any {va : Value} {l : List Nd} {F : Nat → Prop} {w : World} (hl : Sl Kd.node w F va l) (hl_ok : Zaf l = true) (hll : l.length ≤ 1000000) :
  Calls Try.prog 115 [va].toArray w (Zbh w fun v w' => Sl Kd.bool w' (fun _ => False) v (Zca l)) := by
 have hb0 := Below.refl w.heap.size w
 have hln1 := hl.lenle
 refine enter Try.func115 rfl rfl (Zh (Zb (st (Ze rfl (Zg (Zd (Zh ?_)))))))
 refine Zb (st (Zc rfl (st (Zaq Zaw rfl (hl.at0 hb0) (st (Zah rfl rfl om (st (Zi5 (K := Kd.bool) (base := w.heap.size) (F := (fun _ => False)) Zcq rfl om om om (fun _ _ => ⟨rfl, trivial⟩) om (fun _ h => h.elim) ?_))))))))
 intro v1 w1 hO1 k1
 have hb1 := Zf hb0 k1
 have hz1 := hb1.size
 refine st (Zan zero68 ?_)
 intro g1 w2 hg1 hB1 k2 hs1
 have hz2 := hb1.size
 have hb2 := Zf hb1 k2
 have hO2 := hO1.g0 k2
 refine st0 (Zdt one68 rfl rfl (hO2.one) hB1 (of_decide_eq_true rfl) ?_)
 intro w3 hB2 k3 hs2
 have hb3 := belowa hb2 k3
 have hO3 := Own.keptF Zft hO2 k3 (hO2.ne_blk hB1 dc)
 clear hB1
 refine Zg (Zd (Zh (Zh (Zb (st (Zc rfl (st (Zaq Zaw rfl (hl.at0 hb3) ?_))))))))
 refine st (Zc rfl (Zg (Zd (Zz (Za2 (α := Int) (fun (i : Int) => [(2, .slice none 0 0), (3, (pp g1)), (10, va), (11, .int .i64 (l.length : Int)), (12, .int .i64 i)]) (fun (i : Int) W => Below w.heap.size w W ∧ (0 ≤ i ∧ i ≤ l.length) ∧ (Blk W g1 68 #[v1]) ∧ (Gw.Own Kd.bool 4 w.heap.size W (fun _ => False) v1 (Zf5 l i)) ∧ (g1 < W.heap.size)) (fun (i : Int) => (l.length - i).toNat) (0) ⟨hb3, by omega, hB2, by rw [← partL_zero]; exact hO3, hB2.lt⟩ sb ?_)))))
 rintro i w4 ⟨hb4, hi, hB, hO, hgz⟩
 have hz3 := hb4.size
 refine Zh (Zb (st (Zbd rfl rfl (Zg (Zd (Zh ?_))))))
 refine Zw rfl (fun h1 => ?_) (fun h1 => ?_)
 rotate_left
 ·refine Zak (Zk (Zk (Zs (Zd (Zh (Zb ?_))))))
  refine st (Zt one68 rfl hB.range (j := 0) rfl (st (Ze rfl (Zg (Zd (Zaa rfl rfl ?_))))))
  have e : i = (l.length : Int) := by omega
  refine ⟨_, rfl, hb4, ?_⟩
  rw [← partL_end l, ← e]
  exact hO.sl
 have hlt := h1
 refine Zo (Zd (Zh (Zz (Zh (Zb (st (Zc rfl ?_)))))))
 refine st (Zat Zaw rfl rfl (hl.at0 hb4) om om ?_)
 rintro b1 o1 _ ⟨rfl, _⟩ hc1 hF1 hlt1
 have hl_1 := Loc.lt hF1
 refine st (Zp Za1 rfl hc1 rfl (st (Zan Zcw ?_)))
 intro g2 w5 hg2 hB3 k4 hs3
 have hz4 := hb4.size
 have hb5 := Zf hb4 k4
 have hO4 := hO.g0 k4
 refine st (Ze rfl (st0 (Zv Za1 rfl rfl hB3 rfl rfl rfl ?_)))
 intro w6 hB4 k5 hs4
 have hb6 := belowa hb5 k5
 have hO5 := Own.keptF Zft hO4 k5 (hO4.ne_blk hB3 dc)
 clear hB3
 refine Zg (Zd ?_)
 have hS1 : Sl (Kd.num .i64) w6 (fun _ => False) (.slice (some ⟨g2, 0 + 1, none⟩) 4 4) [(ix l i).k0, (ix l i).k1, (ix l i).k2, (ix l i).k3] := Zfw (us := [.int .i64 ((ix l i).k0), .int .i64 ((ix l i).k1), .int .i64 ((ix l i).k2), .int .i64 ((ix l i).k3)]) rfl (Zld 1 hB4.range rfl) rfl rfl (fun h => h) (hB4.lt) om (num_reps (k := .i64) (xs := [(ix l i).k0, (ix l i).k1, (ix l i).k2, (ix l i).k3]))
 refine Zce 7 GN [xi 17 <| v1, xi 18 <| .int .i64 i, xi 19 <| .int .i64 (i + 1), xi 20 <| .pointer (some ⟨g2, 0 + 1, none⟩), xi 21 <| .slice (some ⟨g2, 0 + 1, none⟩) 4 4, xi 22 <| .func (.func 117) [].toArray [(pp g2), (pp g1)].toArray, xi 23 <| .bool ([(ix l i).k0, (ix l i).k1, (ix l i).k2, (ix l i).k3].any (Zes (ix l i) (Zf5 l i)))] [[], [], [1], [], [3], [], [4, 5]] [(2, .slice none 0 0), (3, (pp g1)), (4, .int .i64 i), (5, (pp g2)), (10, va), (11, .int .i64 (l.length : Int)), (12, .int .i64 i)] sb kr kr Za gnt ⟨kv, kv, kv, kv, kv, kv, kv, trivial⟩ ?_
 intro w8 k7 hs5
 have hb7 := Zf hb6 k7
 have hO6 := hO5.g0 k7
 refine ⟨⟨?_, ?_, ?_, ?_, ?_, ?_, ?_, trivial⟩, ?_⟩
 ·intro w9 k8
  refine op1 (Zt one68 rfl ((((hB.g0 k4).gne k5 om).g0 k7).g0 k8).range (j := 0) rfl ?_)
  exact ⟨rfl, Za _⟩
 ·intro w10 k9
  refine op1 (Zc rfl ?_)
  exact ⟨rfl, Za _⟩
 ·intro w11 k10
  rintro _ rfl
  refine op1 (Zah rfl rfl om ?_)
  exact ⟨rfl, Za _⟩
 ·intro w12 k11
  refine op1 (Zn Zav rfl ?_)
  exact ⟨rfl, Za _⟩
 ·intro w13 k12
  rintro _ rfl
  refine op1 (s_arrsl Zb9 rfl ?_)
  exact ⟨rfl, Za _⟩
 ·intro w14 k13
  refine op1 (s_func rfl rfl ?_)
  exact ⟨rfl, Za _⟩
 ·intro w15 k14
  have hb14 := Zf hb7 k14
  have hO13 := hO6.g0 k14
  rintro _ rfl _ rfl
  refine op1 (Zq fn116 rfl (confunc_any (p := Zes (ix l i) (Zf5 l i)) ((hS1.g0 k7).g0 k14) fn117 (fun w' k' j j0 j1 => full1_any (x := (ix l i)) (((hB4.g0 k7).g0 k14).g0 k').range (((((hB.g0 k4).gne k5 om).g0 k7).g0 k14).g0 k').range (hO13.sl.g0 k') (fun e1 e2 => full_use hl_ok hi.1 hlt j0 j1 e1 e2))) ?_)
  rintro _ w16 ⟨hq2, rfl⟩
  have k15 := Zi hq2 none
  have hb15 := Zf hb14 k15
  have hz5 := hb15.size
  exact ⟨rfl, k15⟩
 intro w17 k16
 have hb16 := Zf hb7 k16
 have hO15 := hO6.g0 k16
 intro v_ hv_; subst v_
 rintro _ rfl _ rfl _ rfl _ rfl _ rfl _ rfl
 refine st (Zdv Zcq rfl rfl hO15 om (by rw [Zis l i hi.1 om]; omega) ?_)
 intro g3 hg3 hl_2 hl_3
 refine st0 (Zcl Zeg rfl rfl rfl rfl hO15 hg3 om (by rw [Zis l i hi.1 om]; omega) ⟨rfl, trivial⟩ ?_)
 intro w18 hO16 k17 hs6
 have hb17 := belowa hb16 k17
 refine Zg (Zab (Zd (Zb (st (Zah rfl rfl om (st (Zc rfl (Zg ?_))))))))
 exact Zac ((i + 1)) ⟨hb17, by omega, (((((hB.g0 k4).gne k5 om).g0 k7).g0 k16).gne k17 (hO15.blk_ne ((((hB.g0 k4).gne k5 om).g0 k7).g0 k16) dc hg3)), by rw [← partL_set l i hi.1 hlt (Zh2 hl_ok hi.1 hlt)]; exact hO16, (((((hB.g0 k4).gne k5 om).g0 k7).g0 k16).gne k17 (hO15.blk_ne ((((hB.g0 k4).gne k5 om).g0 k7).g0 k16) dc hg3)).lt⟩ om sb
end Go.Proofs.Ytfljelnfjbbknaa.Nd
namespace Go.Proofs.Ytfljelnfjbbknaa.Nd
open Go.RowKit Go.Gw
set_option maxHeartbeats 1000000 in
theorem empty_any {va : Value} {l : List Nd} {F : Nat → Prop} {w : World} (hl : Sl Kd.node w F va l) {n : Int} (hl_ok : Zaf l = true) (hll : l.length ≤ 1000000) (h0 : 0 ≤ n) (h1 : n ≤ l.length) :
  Calls Try.prog 108 [va, .int .i64 n].toArray w (Zbh w fun v _ => v = .bool (!(ix (Zca l) n))) := by
 have hb0 := Below.refl w.heap.size w
 have hln1 := hl.lenle
 have hlen := Zbg l
 refine enter Try.func108 rfl rfl (Zh (Zb (st (Ze rfl (Zg (Zd (Zh ?_)))))))
 refine Zb (st (Zc rfl (st (Zq fn115 rfl (full_any (hl.at0 hb0) hl_ok hll) ?_))))
 rintro v1 w1 ⟨hq1, hS1⟩
 have k1 := Zi hq1 none
 have hz1 := hq1.size
 have hb1 := Zf hb0 k1
 have hz2 := hb1.size
 refine st (Zc rfl (st (Zat Zcq rfl rfl hS1 om om ?_)))
 rintro b1 o1 _ ⟨rfl, _⟩ hc1 hF1 hlt1
 refine st (Zt Zeg rfl hc1 (j := 0) rfl (st (Zdd rfl (st (Ze rfl (Zg (Zd (Zaa rfl rfl ?_))))))))
 exact ⟨_, rfl, hb1, rfl⟩
set_option maxHeartbeats 1000000 in
theorem level_any {va : Value} {l : List Nd} {F : Nat → Prop} {w : World} (hl : Sl Kd.node w F va l) :
  Calls Try.prog 43 [.agg [va].toArray].toArray w (Zbh w fun v _ => v = .int .i64 (Zag l)) := by
 have hb0 := Below.refl w.heap.size w
 have hln0 := hl.lenle
 refine enter Try.func43 rfl rfl (Zh (Zb (st (Zbs rfl ?_))))
 intro g1 w1 hg1 hB1 k1 hs1
 change Blk w1 g1 25 [va].toArray at hB1
 have hb1 := Zf hb0 k1
 refine st (Ze rfl (Zg (Zd (Zh (Zh (Zb (st (Zn Zcb rfl ?_))))))))
 refine st (Zt Zb8 rfl hB1.range (j := 0) rfl (st (Zaq Zaw rfl (hl.at0 hb1) (st (Zbu rfl rfl (Zg (Zd ?_)))))))
 refine Zw rfl (fun h1 => ?_) (fun h1 => ?_)
 ·refine Zh (Zb (st (Ze rfl (Zg (Zd (Zaa rfl rfl ?_))))))
  exact ⟨_, rfl, hb1, by simp only [Zag]; split <;> first | rfl | omega⟩
 refine Zo (Zd (Zh (Zb (st (Zn Zcb rfl (st (Zt Zb8 rfl hB1.range (j := 0) rfl (st (Zn Zcb rfl ?_)))))))))
 refine st (Zt Zb8 rfl hB1.range (j := 0) rfl (st (Zaq Zaw rfl (hl.at0 hb1) (st (Za7 rfl rfl om (st (Zat Zaw rfl rfl (hl.at0 hb1) om om ?_)))))))
 rintro b1 o1 _ ⟨rfl, _⟩ hc1 hF1 hlt1
 have hl_1 := Loc.lt hF1
 refine st (Zn Zaz rfl (st (Zt Za9 rfl hc1 (j := 0) rfl (st (Ze rfl (Zg (Zd (Zaa rfl rfl ?_))))))))
 exact ⟨_, rfl, hb1, by simp only [Zag]; split <;> first | rfl | omega⟩
set_option maxHeartbeats 1000000 in
theorem Zmv {va : Value} {l : List Nd} {F : Nat → Prop} {w : World} (hl : Sl Kd.node w F va l) :
  Calls Try.prog 37 [va].toArray w (Zbh w fun v _ => v = .bool (Zaf l)) := by
 have hb0 := Below.refl w.heap.size w
 have hln1 := hl.lenle
 refine enter Try.func37 rfl rfl (Zh (Zb (st (Ze rfl (Zg (Zd (Zh ?_)))))))
 refine Zh (Zb (st (Ze rfl (Zg (Zd (Zz (Za2 (α := Int) (fun (i : Int) => [(0, va), (3, .int .i64 i)]) (fun (i : Int) W => Below w.heap.size w W ∧ (0 ≤ i ∧ i ≤ l.length) ∧ (∀ j : Int, 0 ≤ j → j < i → okAt l j = true)) (fun (i : Int) => (l.length - i).toNat) (0) ⟨hb0, by omega, fun j _ _ => by omega⟩ sb ?_)))))))
 rintro i w1 ⟨hb1, hi, ha⟩
 have hz1 := hb1.size
 refine Zh (Zh (Zb (st (Zc rfl (st (Zc rfl (st (Zaq Zaw rfl (hl.at0 hb1) (st (Zbd rfl rfl ?_))))))))))
 refine Zg (Zd ?_)
 refine Zw rfl (fun h1 => ?_) (fun h1 => ?_)
 rotate_left
 ·refine Zak (Zk (Zk (Zs (Zd (Zh (Zb ?_))))))
  refine st (Ze rfl (Zg (Zd (Zaa rfl rfl ?_))))
  exact ⟨_, rfl, hb1, by rw [(Zcz l).2]; intro j j0 j1; exact ha j j0 om⟩
 refine Zo (Zd (Zh (Zz (Zh (Zh (Zb ?_))))))
 refine st (Zc rfl (st (Zc rfl (st (Zat Zaw rfl rfl (hl.at0 hb1) om om ?_)))))
 rintro b1 o1 _ ⟨rfl, _⟩ hc1 hF1 hlt1
 have hl_1 := Loc.lt hF1
 refine st (Zn Zaz rfl (st (Zt Za9 rfl hc1 (j := 0) rfl (st (Zbd rfl rfl (st (Zc rfl ?_)))))))
 refine Zax 18 rfl (fun h2 => ?_) (fun h2 => ?_)
 ·refine Zj rfl rfl (Zj rfl rfl (Zj rfl rfl (Zj rfl rfl (Zj rfl rfl (Zj rfl rfl (st (Zr rfl rfl ?_)))))))
  refine Zg (Zd (Zb0 rfl (Zh (Zb (st (Ze rfl (Zg ?_)))))))
  refine Zd (Zaa rfl rfl ?_)
  refine ⟨_, rfl, hb1, ?_⟩
  rw [Zfi i hi.1 om]
  rw [ne_eq, Zck]
  rintro ⟨e1, e2⟩
  first | omega | (have e3 := e2 k om om; unfold Nd.kid at e3; exact Zjx e3 om)
 refine stg (Zc rfl (stg (Zc rfl (stg (Zat Zaw rfl rfl (hl.at0 hb1) om om ?_)))))
 rintro b2 o2 _ ⟨rfl, _⟩ hc2 hF2 hlt2
 have hl_2 := Loc.lt hF2
 refine stg (Zn Zaz rfl (stg (Zt Za9 rfl hc2 (j := 0) rfl (stg (Zch rfl rfl (st (Zr rfl rfl (Zg (Zd ?_)))))))))
 refine Zw rfl (fun h3 => ?_) (fun h3 => ?_)
 ·refine Zh (Zb (st (Ze rfl (Zg (Zd (Zaa rfl rfl ?_))))))
  refine ⟨_, rfl, hb1, ?_⟩
  rw [Zfi i hi.1 om]
  rw [ne_eq, Zck]
  rintro ⟨e1, e2⟩
  first | omega | (have e3 := e2 k om om; unfold Nd.kid at e3; exact Zjx e3 om)
 refine Zo (Zd (Zh (Zb (st (Ze rfl (Zg (Zd ?_)))))))
 refine Zz (Za2 (α := Int) (fun (k : Int) => [(0, va), (3, .int .i64 i), (4, .int .i64 k)]) (fun (k : Int) W => Below w.heap.size w W ∧ (0 ≤ k ∧ k ≤ 4) ∧ (∀ j : Int, 0 ≤ j → j < k → Zf6 l i ((ix l i).kid j) = true)) (fun (k : Int) => (4 - k).toNat) (0) ⟨hb1, by omega, fun j _ _ => by omega⟩ sb ?_)
 rintro k w2 ⟨hb2, hk, hk2⟩
 have hz2 := hb2.size
 refine Zh (Zh (Zb (st (Zc rfl (st (Zbd rfl rfl (Zg (Zd ?_))))))))
 refine Zw rfl (fun h4 => ?_) (fun h4 => ?_)
 rotate_left
 ·refine Zak (Zk (Zk (Zs (Zab (Zd (Zb ?_))))))
  refine st (Zc rfl (st (Zah rfl rfl om (st (Ze rfl (Zg ?_))))))
  exact Zac ((i + 1)) ⟨hb2, by omega, fun j j0 j1 => if e : j = i then by rw [e, Zck]; exact ⟨by omega, fun k k0 k1 => hk2 k k0 om⟩ else ha j j0 om⟩ om sb
 refine Zo (Zd (Zh (Zz (Zh (Zb (st (Zc rfl ?_)))))))
 refine st (Zc rfl (st (Zc rfl (st (Zat Zaw rfl rfl (hl.at0 hb2) om om ?_)))))
 rintro b3 o3 _ ⟨rfl, _⟩ hc3 hF3 hlt3
 have hl_3 := Loc.lt hF3
 refine st (Zn Zav rfl (st (Zbi Zb9 rfl rfl om om (st (Zc3 Za9 rfl hc3 (j := 1) rfl rfl om om (st (Ze rfl (Zg (Zd ?_)))))))))
 refine w_cut (α := Unit) (fun (_ : Unit) => [(0, va), (3, .int .i64 i), (4, .int .i64 k), (5, .int .i64 (Zae ((ix l i).k0) ((ix l i).k1) ((ix l i).k2) ((ix l i).k3) k))]) (fun (_ : Unit) W => Below w.heap.size w W ∧ (0 ≤ (Zae ((ix l i).k0) ((ix l i).k1) ((ix l i).k2) ((ix l i).k3) k) ∧ ((ix l i).lv = 1 → (Zae ((ix l i).k0) ((ix l i).k1) ((ix l i).k2) ((ix l i).k3) k) ≤ 255))) ?_ ?_
 ·refine Zh (Zb (st (Zc rfl (st (Zbd rfl rfl (st (Zc rfl ?_)))))))
  refine Zax 39 rfl (fun h5 => ?_) (fun h5 => ?_)
  ·refine Zj rfl rfl (Zj rfl rfl (Zj rfl rfl (Zj rfl rfl (Zj rfl rfl (Zj rfl rfl (Zj rfl rfl ?_))))))
   refine Zal rfl rfl (Zal rfl rfl (Zj rfl rfl (st (Zr rfl rfl (Zg (Zd (Zb0 rfl ?_)))))))
   refine Zh (Zb (st (Ze rfl (Zg (Zd (Zaa rfl rfl ?_))))))
   refine ⟨_, rfl, hb2, ?_⟩
   rw [Zfi i hi.1 om]
   rw [ne_eq, Zck]
   rintro ⟨e1, e2⟩
   first | omega | (have e3 := e2 k om om; unfold Nd.kid at e3; exact Zjx e3 om)
  refine stg (Zc rfl (stg (Zc rfl (stg (Zat Zaw rfl rfl (hl.at0 hb2) om om ?_)))))
  rintro b4 o4 _ ⟨rfl, _⟩ hc4 hF4 hlt4
  have hl_4 := Loc.lt hF4
  refine stg (Zn Zaz rfl (stg (Zt Za9 rfl hc4 (j := 0) rfl (stg (Zbu rfl rfl (stg (Zc rfl ?_)))))))
  refine Zax 46 rfl (fun h6 => ?_) (fun h6 => ?_)
  rotate_left
  ·refine Zj rfl rfl (Zj rfl rfl (stg (Zr rfl rfl (st (Zr rfl rfl (Zg (Zd (Zbv rfl ?_))))))))
   refine Zo ?_
   exact Ze2 () ⟨hb2, by omega⟩ sb
  refine stg (Zc rfl (stg (Zch rfl rfl (stg (Zr rfl rfl (st (Zr rfl rfl (Zg (Zd ?_)))))))))
  refine Zw rfl (fun h7 => ?_) (fun h7 => ?_)
  rotate_left
  ·refine Zo ?_
   exact Ze2 () ⟨hb2, by omega⟩ sb
  refine Zh (Zb (st (Ze rfl (Zg (Zd (Zaa rfl rfl ?_))))))
  refine ⟨_, rfl, hb2, ?_⟩
  rw [Zfi i hi.1 om]
  rw [ne_eq, Zck]
  rintro ⟨e1, e2⟩
  first | omega | (have e3 := e2 k om om; unfold Nd.kid at e3; exact Zjx e3 om)
 rintro _ w3 ⟨hb3, hc9⟩
 have hz3 := hb3.size
 refine Zh ?_
 by_cases h8 : 1 < (ix l i).lv
 rotate_left
 ·obtain ⟨b10, o10, _, hat6, ⟨rfl, _⟩, hc10, hF10, hlt10⟩ := (hl.at0 hb3).elem i om om
  have hl_10 := Loc.lt hF10
  refine Zce 30 GN [xi 51 <| va, xi 52 <| .int .i64 i, xi 53 <| .pointer (some ⟨b10, o10, none⟩), xi 54 <| .pointer (some ⟨b10, o10 + 0, none⟩), xi 55 <| .int .i64 ((ix l i).lv), xi 56 <| .bool (decide (1 < (ix l i).lv)), xi 57 <| .bool false, xu 58, xu 59, xi 60 <| .bool false, xi 61 <| .bool false, xu 62, xu 63, xu 64, xu 65, xu 66, xu 67, xu 68, xu 69, xu 70, xu 71, xu 72, xu 73, xu 74, xu 75, xu 76, xu 77, xu 78, xu 79, xi 80 <| .bool false] [[], [], [0, 1], [2], [3], [4], [5], [6], [6, 7], [6, 8], [9], [10], [10], [10, 11, 12], [10, 13], [14], [14], [14, 16], [14, 15, 17], [14, 18], [14, 19], [14], [14], [14, 21, 22], [14, 23], [14, 24], [14, 25], [14, 20, 26], [10, 14, 27], [10, 28]] [(0, va), (3, .int .i64 i), (4, .int .i64 k), (5, .int .i64 (Zae ((ix l i).k0) ((ix l i).k1) ((ix l i).k2) ((ix l i).k3) k))] sb kr kr Za gnt ⟨kv, kv, kv, kv, kv, kv, kv, kv, kv, kv, kv, kv, kv, kv, kv, kv, kv, kv, kv, kv, kv, kv, kv, kv, kv, kv, kv, kv, kv, kv, trivial⟩ ?_
  intro w100 k97 hs4
  have hb100 := Zf hb3 k97
  refine ⟨⟨?_, ?_, ?_, ?_, ?_, ?_, ?_, ?_, ?_, ?_, ?_, ?_, ?_, ?_, ?_, ?_, ?_, ?_, ?_, ?_, ?_, ?_, ?_, ?_, ?_, ?_, ?_, ?_, ?_, ?_, trivial⟩, ?_⟩
  ·intro w101 k98
   refine op1 (Zc rfl ?_)
   exact ⟨rfl, Za _⟩
  ·intro w102 k99
   refine op1 (Zc rfl ?_)
   exact ⟨rfl, Za _⟩
  ·intro w103 k100
   intro v_ hv_; subst v_
   rintro _ rfl
   refine op1 (Zbo Zaw rfl rfl hat6 ?_)
   exact ⟨rfl, Za _⟩
  ·intro w104 k101
   rintro _ rfl
   refine op1 (Zn Zaz rfl ?_)
   exact ⟨rfl, Za _⟩
  ·intro w105 k102
   rintro _ rfl
   refine op1 (Zt Za9 rfl (Zaj (Zaj hc10 k97) k102) (j := 0) rfl ?_)
   exact ⟨rfl, Za _⟩
  ·intro w106 k103
   rintro _ rfl
   refine op1 (Zch rfl rfl ?_)
   exact ⟨rfl, Za _⟩
  ·intro w107 k104
   rintro _ rfl
   refine op1 (Zc rfl ?_)
   exact ⟨(by rw [decide_eq_false h8]), Za _⟩
  ·intro w108 k105
   rintro _ rfl
   refine Za0 ⟨rfl, Za _⟩
  ·intro w109 k106
   rintro _ rfl
   intro v_ hv_; subst v_
   refine Za0 ⟨rfl, Za _⟩
  ·intro w110 k107
   rintro _ rfl
   intro v_ hv_; subst v_
   refine op1 (Zr rfl rfl ?_)
   exact ⟨rfl, Za _⟩
  ·intro w111 k108
   rintro _ rfl
   refine op1 (Zc rfl ?_)
   exact ⟨rfl, Za _⟩
  ·intro w112 k109
   rintro _ rfl
   refine Za0 ⟨rfl, Za _⟩
  ·intro w113 k110
   rintro _ rfl
   refine Za0 ⟨rfl, Za _⟩
  ·intro w114 k111
   rintro _ rfl
   intro v_ hv_; subst v_
   intro v_ hv_; subst v_
   refine Za0 ⟨rfl, Za _⟩
  ·intro w115 k112
   rintro _ rfl
   intro v_ hv_; subst v_
   refine Za0 ⟨rfl, Za _⟩
  ·intro w116 k113
   intro v_ hv_; subst v_
   refine Zfy ⟨rfl, Za _⟩
  ·intro w117 k114
   intro v_ hv_; subst v_
   refine Zfy ⟨rfl, Za _⟩
  ·intro w118 k115
   intro v_ hv_; subst v_
   intro v_ hv_; subst v_
   refine Zfy ⟨rfl, Za _⟩
  ·intro w119 k116
   intro v_ hv_; subst v_
   intro v_ hv_; subst v_
   intro v_ hv_; subst v_
   refine Zfy ⟨rfl, Za _⟩
  ·intro w120 k117
   intro v_ hv_; subst v_
   intro v_ hv_; subst v_
   refine Zfy ⟨rfl, Za _⟩
  ·intro w121 k118
   intro v_ hv_; subst v_
   intro v_ hv_; subst v_
   refine Zfy ⟨rfl, Za _⟩
  ·intro w122 k119
   intro v_ hv_; subst v_
   refine Zfy ⟨rfl, Za _⟩
  ·intro w123 k120
   intro v_ hv_; subst v_
   refine Zfy ⟨rfl, Za _⟩
  ·intro w124 k121
   intro v_ hv_; subst v_
   intro v_ hv_; subst v_
   intro v_ hv_; subst v_
   refine Zfy ⟨rfl, Za _⟩
  ·intro w125 k122
   intro v_ hv_; subst v_
   intro v_ hv_; subst v_
   refine Zfy ⟨rfl, Za _⟩
  ·intro w126 k123
   intro v_ hv_; subst v_
   intro v_ hv_; subst v_
   refine Zfy ⟨rfl, Za _⟩
  ·intro w127 k124
   intro v_ hv_; subst v_
   intro v_ hv_; subst v_
   refine Zfy ⟨rfl, Za _⟩
  ·intro w128 k125
   intro v_ hv_; subst v_
   intro v_ hv_; subst v_
   intro v_ hv_; subst v_
   refine Zfy ⟨rfl, Za _⟩
  ·intro w129 k126
   rintro _ rfl
   intro v_ hv_; subst v_
   intro v_ hv_; subst v_
   refine Za0 ⟨rfl, Za _⟩
  ·intro w130 k127
   rintro _ rfl
   intro v_ hv_; subst v_
   refine op1 (Zr rfl rfl ?_)
   exact ⟨rfl, Za _⟩
  intro w131 k128
  have hb131 := Zf hb100 k128
  intro v_ hv_; subst v_
  rintro _ rfl _ rfl _ rfl _ rfl _ rfl _ rfl
  intro v_ hv_; subst v_
  intro v_ hv_; subst v_
  rintro _ rfl _ rfl
  intro v_ hv_; subst v_
  intro v_ hv_; subst v_
  intro v_ hv_; subst v_
  intro v_ hv_; subst v_
  intro v_ hv_; subst v_
  intro v_ hv_; subst v_
  intro v_ hv_; subst v_
  intro v_ hv_; subst v_
  intro v_ hv_; subst v_
  intro v_ hv_; subst v_
  intro v_ hv_; subst v_
  intro v_ hv_; subst v_
  intro v_ hv_; subst v_
  intro v_ hv_; subst v_
  intro v_ hv_; subst v_
  intro v_ hv_; subst v_
  intro v_ hv_; subst v_
  intro v_ hv_; subst v_
  rintro _ rfl
  refine Zg (Zd (Zbv rfl (Zo (Zab (Zd (Zb ?_))))))
  refine st (Zc rfl (st (Zah rfl rfl om (st (Ze rfl (Zg ?_))))))
  exact Zac ((k + 1)) ⟨hb131, by omega, fun j j0 j1 => if e : j = k then by rw [e]; unfold Nd.kid; exact kidB_yes om om om else hk2 j j0 om⟩ om sb
 by_cases h9 : 0 < (Zae ((ix l i).k0) ((ix l i).k1) ((ix l i).k2) ((ix l i).k3) k)
 rotate_left
 ·obtain ⟨b9, o9, _, hat5, ⟨rfl, _⟩, hc9, hF9, hlt9⟩ := (hl.at0 hb3).elem i om om
  have hl_9 := Loc.lt hF9
  refine Zce 30 GN [xi 51 <| va, xi 52 <| .int .i64 i, xi 53 <| .pointer (some ⟨b9, o9, none⟩), xi 54 <| .pointer (some ⟨b9, o9 + 0, none⟩), xi 55 <| .int .i64 ((ix l i).lv), xi 56 <| .bool (decide (1 < (ix l i).lv)), xi 57 <| .bool true, xi 58 <| .int .i64 (Zae ((ix l i).k0) ((ix l i).k1) ((ix l i).k2) ((ix l i).k3) k), xi 59 <| .bool (decide (0 < (Zae ((ix l i).k0) ((ix l i).k1) ((ix l i).k2) ((ix l i).k3) k))), xi 60 <| .bool (decide (0 < (Zae ((ix l i).k0) ((ix l i).k1) ((ix l i).k2) ((ix l i).k3) k))), xi 61 <| .bool false, xu 62, xu 63, xu 64, xu 65, xu 66, xu 67, xu 68, xu 69, xu 70, xu 71, xu 72, xu 73, xu 74, xu 75, xu 76, xu 77, xu 78, xu 79, xi 80 <| .bool false] [[], [], [0, 1], [2], [3], [4], [5], [6], [6, 7], [6, 8], [9], [10], [10], [10, 11, 12], [10, 13], [14], [14], [14, 16], [14, 15, 17], [14, 18], [14, 19], [14], [14], [14, 21, 22], [14, 23], [14, 24], [14, 25], [14, 20, 26], [10, 14, 27], [10, 28]] [(0, va), (3, .int .i64 i), (4, .int .i64 k), (5, .int .i64 (Zae ((ix l i).k0) ((ix l i).k1) ((ix l i).k2) ((ix l i).k3) k))] sb kr kr Za gnt ⟨kv, kv, kv, kv, kv, kv, kv, kv, kv, kv, kv, kv, kv, kv, kv, kv, kv, kv, kv, kv, kv, kv, kv, kv, kv, kv, kv, kv, kv, kv, trivial⟩ ?_
  intro w68 k65 hs3
  have hb68 := Zf hb3 k65
  refine ⟨⟨?_, ?_, ?_, ?_, ?_, ?_, ?_, ?_, ?_, ?_, ?_, ?_, ?_, ?_, ?_, ?_, ?_, ?_, ?_, ?_, ?_, ?_, ?_, ?_, ?_, ?_, ?_, ?_, ?_, ?_, trivial⟩, ?_⟩
  ·intro w69 k66
   refine op1 (Zc rfl ?_)
   exact ⟨rfl, Za _⟩
  ·intro w70 k67
   refine op1 (Zc rfl ?_)
   exact ⟨rfl, Za _⟩
  ·intro w71 k68
   intro v_ hv_; subst v_
   rintro _ rfl
   refine op1 (Zbo Zaw rfl rfl hat5 ?_)
   exact ⟨rfl, Za _⟩
  ·intro w72 k69
   rintro _ rfl
   refine op1 (Zn Zaz rfl ?_)
   exact ⟨rfl, Za _⟩
  ·intro w73 k70
   rintro _ rfl
   refine op1 (Zt Za9 rfl (Zaj (Zaj hc9 k65) k70) (j := 0) rfl ?_)
   exact ⟨rfl, Za _⟩
  ·intro w74 k71
   rintro _ rfl
   refine op1 (Zch rfl rfl ?_)
   exact ⟨rfl, Za _⟩
  ·intro w75 k72
   rintro _ rfl
   refine op1 (Zc rfl ?_)
   exact ⟨(by rw [decide_eq_true h8]), Za _⟩
  ·intro w76 k73
   rintro _ rfl
   refine Zas (Zc rfl ?_)
   exact ⟨rfl, Za _⟩
  ·intro w77 k74
   rintro _ rfl _ rfl
   refine Zas (Zch rfl rfl ?_)
   exact ⟨rfl, Za _⟩
  ·intro w78 k75
   rintro _ rfl _ rfl
   refine op1 (Zr rfl rfl ?_)
   exact ⟨rfl, Za _⟩
  ·intro w79 k76
   rintro _ rfl
   refine op1 (Zc rfl ?_)
   exact ⟨(by rw [decide_eq_false h9]), Za _⟩
  ·intro w80 k77
   rintro _ rfl
   refine Za0 ⟨rfl, Za _⟩
  ·intro w81 k78
   rintro _ rfl
   refine Za0 ⟨rfl, Za _⟩
  ·intro w82 k79
   rintro _ rfl
   intro v_ hv_; subst v_
   intro v_ hv_; subst v_
   refine Za0 ⟨rfl, Za _⟩
  ·intro w83 k80
   rintro _ rfl
   intro v_ hv_; subst v_
   refine Za0 ⟨rfl, Za _⟩
  ·intro w84 k81
   intro v_ hv_; subst v_
   refine Zfy ⟨rfl, Za _⟩
  ·intro w85 k82
   intro v_ hv_; subst v_
   refine Zfy ⟨rfl, Za _⟩
  ·intro w86 k83
   intro v_ hv_; subst v_
   intro v_ hv_; subst v_
   refine Zfy ⟨rfl, Za _⟩
  ·intro w87 k84
   intro v_ hv_; subst v_
   intro v_ hv_; subst v_
   intro v_ hv_; subst v_
   refine Zfy ⟨rfl, Za _⟩
  ·intro w88 k85
   intro v_ hv_; subst v_
   intro v_ hv_; subst v_
   refine Zfy ⟨rfl, Za _⟩
  ·intro w89 k86
   intro v_ hv_; subst v_
   intro v_ hv_; subst v_
   refine Zfy ⟨rfl, Za _⟩
  ·intro w90 k87
   intro v_ hv_; subst v_
   refine Zfy ⟨rfl, Za _⟩
  ·intro w91 k88
   intro v_ hv_; subst v_
   refine Zfy ⟨rfl, Za _⟩
  ·intro w92 k89
   intro v_ hv_; subst v_
   intro v_ hv_; subst v_
   intro v_ hv_; subst v_
   refine Zfy ⟨rfl, Za _⟩
  ·intro w93 k90
   intro v_ hv_; subst v_
   intro v_ hv_; subst v_
   refine Zfy ⟨rfl, Za _⟩
  ·intro w94 k91
   intro v_ hv_; subst v_
   intro v_ hv_; subst v_
   refine Zfy ⟨rfl, Za _⟩
  ·intro w95 k92
   intro v_ hv_; subst v_
   intro v_ hv_; subst v_
   refine Zfy ⟨rfl, Za _⟩
  ·intro w96 k93
   intro v_ hv_; subst v_
   intro v_ hv_; subst v_
   intro v_ hv_; subst v_
   refine Zfy ⟨rfl, Za _⟩
  ·intro w97 k94
   rintro _ rfl
   intro v_ hv_; subst v_
   intro v_ hv_; subst v_
   refine Za0 ⟨rfl, Za _⟩
  ·intro w98 k95
   rintro _ rfl
   intro v_ hv_; subst v_
   refine op1 (Zr rfl rfl ?_)
   exact ⟨rfl, Za _⟩
  intro w99 k96
  have hb99 := Zf hb68 k96
  intro v_ hv_; subst v_
  rintro _ rfl _ rfl _ rfl _ rfl _ rfl _ rfl _ rfl _ rfl _ rfl _ rfl
  intro v_ hv_; subst v_
  intro v_ hv_; subst v_
  intro v_ hv_; subst v_
  intro v_ hv_; subst v_
  intro v_ hv_; subst v_
  intro v_ hv_; subst v_
  intro v_ hv_; subst v_
  intro v_ hv_; subst v_
  intro v_ hv_; subst v_
  intro v_ hv_; subst v_
  intro v_ hv_; subst v_
  intro v_ hv_; subst v_
  intro v_ hv_; subst v_
  intro v_ hv_; subst v_
  intro v_ hv_; subst v_
  intro v_ hv_; subst v_
  intro v_ hv_; subst v_
  intro v_ hv_; subst v_
  rintro _ rfl
  refine Zg (Zd (Zbv rfl (Zo (Zab (Zd (Zb ?_))))))
  refine st (Zc rfl (st (Zah rfl rfl om (st (Ze rfl (Zg ?_))))))
  exact Zac ((k + 1)) ⟨hb99, by omega, fun j j0 j1 => if e : j = k then by rw [e]; unfold Nd.kid; exact kidB_yes om om om else hk2 j j0 om⟩ om sb
 by_cases h10 : i < (Zae ((ix l i).k0) ((ix l i).k1) ((ix l i).k2) ((ix l i).k3) k)
 ·obtain ⟨b5, o5, _, hat1, ⟨rfl, _⟩, hc5, hF5, hlt5⟩ := (hl.at0 hb3).elem i om om
  have hl_5 := Loc.lt hF5
  refine Zce 30 GN [xi 51 <| va, xi 52 <| .int .i64 i, xi 53 <| .pointer (some ⟨b5, o5, none⟩), xi 54 <| .pointer (some ⟨b5, o5 + 0, none⟩), xi 55 <| .int .i64 ((ix l i).lv), xi 56 <| .bool (decide (1 < (ix l i).lv)), xi 57 <| .bool true, xi 58 <| .int .i64 (Zae ((ix l i).k0) ((ix l i).k1) ((ix l i).k2) ((ix l i).k3) k), xi 59 <| .bool (decide (0 < (Zae ((ix l i).k0) ((ix l i).k1) ((ix l i).k2) ((ix l i).k3) k))), xi 60 <| .bool (decide (0 < (Zae ((ix l i).k0) ((ix l i).k1) ((ix l i).k2) ((ix l i).k3) k))), xi 61 <| .bool true, xi 62 <| .int .i64 (Zae ((ix l i).k0) ((ix l i).k1) ((ix l i).k2) ((ix l i).k3) k), xi 63 <| .int .i64 i, xi 64 <| .bool (decide (i < (Zae ((ix l i).k0) ((ix l i).k1) ((ix l i).k2) ((ix l i).k3) k))), xi 65 <| .bool true, xu 66, xu 67, xu 68, xu 69, xu 70, xu 71, xu 72, xu 73, xu 74, xu 75, xu 76, xu 77, xu 78, xi 79 <| .bool true, xi 80 <| .bool true] [[], [], [0, 1], [2], [3], [4], [5], [6], [6, 7], [6, 8], [9], [10], [10], [10, 11, 12], [10, 13], [14], [14], [14, 16], [14, 15, 17], [14, 18], [14, 19], [14], [14], [14, 21, 22], [14, 23], [14, 24], [14, 25], [14, 20, 26], [10, 14, 27], [10, 28]] [(0, va), (3, .int .i64 i), (4, .int .i64 k), (5, .int .i64 (Zae ((ix l i).k0) ((ix l i).k1) ((ix l i).k2) ((ix l i).k3) k))] sb kr kr Za gnt ⟨kv, kv, kv, kv, kv, kv, kv, kv, kv, kv, kv, kv, kv, kv, kv, kv, kv, kv, kv, kv, kv, kv, kv, kv, kv, kv, kv, kv, kv, kv, trivial⟩ ?_
  intro w4 k1 hs1
  have hb4 := Zf hb3 k1
  refine ⟨⟨?_, ?_, ?_, ?_, ?_, ?_, ?_, ?_, ?_, ?_, ?_, ?_, ?_, ?_, ?_, ?_, ?_, ?_, ?_, ?_, ?_, ?_, ?_, ?_, ?_, ?_, ?_, ?_, ?_, ?_, trivial⟩, ?_⟩
  ·intro w5 k2
   refine op1 (Zc rfl ?_)
   exact ⟨rfl, Za _⟩
  ·intro w6 k3
   refine op1 (Zc rfl ?_)
   exact ⟨rfl, Za _⟩
  ·intro w7 k4
   intro v_ hv_; subst v_
   rintro _ rfl
   refine op1 (Zbo Zaw rfl rfl hat1 ?_)
   exact ⟨rfl, Za _⟩
  ·intro w8 k5
   rintro _ rfl
   refine op1 (Zn Zaz rfl ?_)
   exact ⟨rfl, Za _⟩
  ·intro w9 k6
   rintro _ rfl
   refine op1 (Zt Za9 rfl (Zaj (Zaj hc5 k1) k6) (j := 0) rfl ?_)
   exact ⟨rfl, Za _⟩
  ·intro w10 k7
   rintro _ rfl
   refine op1 (Zch rfl rfl ?_)
   exact ⟨rfl, Za _⟩
  ·intro w11 k8
   rintro _ rfl
   refine op1 (Zc rfl ?_)
   exact ⟨(by rw [decide_eq_true h8]), Za _⟩
  ·intro w12 k9
   rintro _ rfl
   refine Zas (Zc rfl ?_)
   exact ⟨rfl, Za _⟩
  ·intro w13 k10
   rintro _ rfl _ rfl
   refine Zas (Zch rfl rfl ?_)
   exact ⟨rfl, Za _⟩
  ·intro w14 k11
   rintro _ rfl _ rfl
   refine op1 (Zr rfl rfl ?_)
   exact ⟨rfl, Za _⟩
  ·intro w15 k12
   rintro _ rfl
   refine op1 (Zc rfl ?_)
   exact ⟨(by rw [decide_eq_true h9]), Za _⟩
  ·intro w16 k13
   rintro _ rfl
   refine Zas (Zc rfl ?_)
   exact ⟨rfl, Za _⟩
  ·intro w17 k14
   rintro _ rfl
   refine Zas (Zc rfl ?_)
   exact ⟨rfl, Za _⟩
  ·intro w18 k15
   rintro _ rfl _ rfl _ rfl
   refine Zas (Zch rfl rfl ?_)
   exact ⟨rfl, Za _⟩
  ·intro w19 k16
   rintro _ rfl _ rfl
   refine Zas (Zc rfl ?_)
   exact ⟨(by rw [decide_eq_true h10]), Za _⟩
  ·intro w20 k17
   rintro _ rfl
   refine Za0 ⟨rfl, Za _⟩
  ·intro w21 k18
   rintro _ rfl
   refine Za0 ⟨rfl, Za _⟩
  ·intro w22 k19
   rintro _ rfl
   intro v_ hv_; subst v_
   refine Za0 ⟨rfl, Za _⟩
  ·intro w23 k20
   rintro _ rfl
   intro v_ hv_; subst v_
   intro v_ hv_; subst v_
   refine Za0 ⟨rfl, Za _⟩
  ·intro w24 k21
   rintro _ rfl
   intro v_ hv_; subst v_
   refine Za0 ⟨rfl, Za _⟩
  ·intro w25 k22
   rintro _ rfl
   intro v_ hv_; subst v_
   refine Za0 ⟨rfl, Za _⟩
  ·intro w26 k23
   rintro _ rfl
   refine Za0 ⟨rfl, Za _⟩
  ·intro w27 k24
   rintro _ rfl
   refine Za0 ⟨rfl, Za _⟩
  ·intro w28 k25
   rintro _ rfl
   intro v_ hv_; subst v_
   intro v_ hv_; subst v_
   refine Za0 ⟨rfl, Za _⟩
  ·intro w29 k26
   rintro _ rfl
   intro v_ hv_; subst v_
   refine Za0 ⟨rfl, Za _⟩
  ·intro w30 k27
   rintro _ rfl
   intro v_ hv_; subst v_
   refine Za0 ⟨rfl, Za _⟩
  ·intro w31 k28
   rintro _ rfl
   intro v_ hv_; subst v_
   refine Za0 ⟨rfl, Za _⟩
  ·intro w32 k29
   rintro _ rfl
   intro v_ hv_; subst v_
   intro v_ hv_; subst v_
   refine Za0 ⟨rfl, Za _⟩
  ·intro w33 k30
   rintro _ rfl _ rfl
   intro v_ hv_; subst v_
   refine Zas (Zr rfl rfl ?_)
   exact ⟨rfl, Za _⟩
  ·intro w34 k31
   rintro _ rfl _ rfl
   refine op1 (Zr rfl rfl ?_)
   exact ⟨rfl, Za _⟩
  intro w35 k32
  have hb35 := Zf hb4 k32
  intro v_ hv_; subst v_
  rintro _ rfl _ rfl _ rfl _ rfl _ rfl _ rfl _ rfl _ rfl _ rfl _ rfl _ rfl _ rfl _ rfl _ rfl
  intro v_ hv_; subst v_
  intro v_ hv_; subst v_
  intro v_ hv_; subst v_
  intro v_ hv_; subst v_
  intro v_ hv_; subst v_
  intro v_ hv_; subst v_
  intro v_ hv_; subst v_
  intro v_ hv_; subst v_
  intro v_ hv_; subst v_
  intro v_ hv_; subst v_
  intro v_ hv_; subst v_
  intro v_ hv_; subst v_
  intro v_ hv_; subst v_
  rintro _ rfl _ rfl
  refine Zg (Zd (Zb0 rfl (Zh (Zb (st (Ze rfl (Zg ?_)))))))
  refine Zd (Zaa rfl rfl ?_)
  refine ⟨_, rfl, hb35, ?_⟩
  rw [Zfi i hi.1 om]
  rw [ne_eq, Zck]
  rintro ⟨e1, e2⟩
  first | omega | (have e3 := e2 k om om; unfold Nd.kid at e3; exact Zjx e3 om)
 obtain ⟨b6, o6, _, hat2, ⟨rfl, _⟩, hc6, hF6, hlt6⟩ := (hl.at0 hb3).elem i om om
 have hl_6 := Loc.lt hF6
 obtain ⟨b7, o7, _, hat3, ⟨rfl, _⟩, hc7, hF7, hlt7⟩ := (hl.at0 hb3).elem ((Zae ((ix l i).k0) ((ix l i).k1) ((ix l i).k2) ((ix l i).k3) k) - 1) om om
 have hl_7 := Loc.lt hF7
 obtain ⟨b8, o8, _, hat4, ⟨rfl, _⟩, hc8, hF8, hlt8⟩ := (hl.at0 hb3).elem i om om
 have hl_8 := Loc.lt hF8
 refine Zce 30 GN [xi 51 <| va, xi 52 <| .int .i64 i, xi 53 <| .pointer (some ⟨b6, o6, none⟩), xi 54 <| .pointer (some ⟨b6, o6 + 0, none⟩), xi 55 <| .int .i64 ((ix l i).lv), xi 56 <| .bool (decide (1 < (ix l i).lv)), xi 57 <| .bool true, xi 58 <| .int .i64 (Zae ((ix l i).k0) ((ix l i).k1) ((ix l i).k2) ((ix l i).k3) k), xi 59 <| .bool (decide (0 < (Zae ((ix l i).k0) ((ix l i).k1) ((ix l i).k2) ((ix l i).k3) k))), xi 60 <| .bool (decide (0 < (Zae ((ix l i).k0) ((ix l i).k1) ((ix l i).k2) ((ix l i).k3) k))), xi 61 <| .bool true, xi 62 <| .int .i64 (Zae ((ix l i).k0) ((ix l i).k1) ((ix l i).k2) ((ix l i).k3) k), xi 63 <| .int .i64 i, xi 64 <| .bool (decide (i < (Zae ((ix l i).k0) ((ix l i).k1) ((ix l i).k2) ((ix l i).k3) k))), xi 65 <| .bool false, xi 66 <| va, xi 67 <| .int .i64 (Zae ((ix l i).k0) ((ix l i).k1) ((ix l i).k2) ((ix l i).k3) k), xi 68 <| .int .i64 ((Zae ((ix l i).k0) ((ix l i).k1) ((ix l i).k2) ((ix l i).k3) k) - 1), xi 69 <| .pointer (some ⟨b7, o7, none⟩), xi 70 <| .pointer (some ⟨b7, o7 + 0, none⟩), xi 71 <| .int .i64 ((ix l ((Zae ((ix l i).k0) ((ix l i).k1) ((ix l i).k2) ((ix l i).k3) k) - 1)).lv), xi 72 <| va, xi 73 <| .int .i64 i, xi 74 <| .pointer (some ⟨b8, o8, none⟩), xi 75 <| .pointer (some ⟨b8, o8 + 0, none⟩), xi 76 <| .int .i64 ((ix l i).lv), xi 77 <| .int .i64 ((ix l i).lv - 1), xi 78 <| .bool (decide ((ix l ((Zae ((ix l i).k0) ((ix l i).k1) ((ix l i).k2) ((ix l i).k3) k) - 1)).lv ≠ ((ix l i).lv - 1))), xi 79 <| .bool (decide ((ix l ((Zae ((ix l i).k0) ((ix l i).k1) ((ix l i).k2) ((ix l i).k3) k) - 1)).lv ≠ ((ix l i).lv - 1))), xi 80 <| .bool (decide ((ix l ((Zae ((ix l i).k0) ((ix l i).k1) ((ix l i).k2) ((ix l i).k3) k) - 1)).lv ≠ ((ix l i).lv - 1)))] [[], [], [0, 1], [2], [3], [4], [5], [6], [6, 7], [6, 8], [9], [10], [10], [10, 11, 12], [10, 13], [14], [14], [14, 16], [14, 15, 17], [14, 18], [14, 19], [14], [14], [14, 21, 22], [14, 23], [14, 24], [14, 25], [14, 20, 26], [10, 14, 27], [10, 28]] [(0, va), (3, .int .i64 i), (4, .int .i64 k), (5, .int .i64 (Zae ((ix l i).k0) ((ix l i).k1) ((ix l i).k2) ((ix l i).k3) k))] sb kr kr Za gnt ⟨kv, kv, kv, kv, kv, kv, kv, kv, kv, kv, kv, kv, kv, kv, kv, kv, kv, kv, kv, kv, kv, kv, kv, kv, kv, kv, kv, kv, kv, kv, trivial⟩ ?_
 intro w36 k33 hs2
 have hb36 := Zf hb3 k33
 refine ⟨⟨?_, ?_, ?_, ?_, ?_, ?_, ?_, ?_, ?_, ?_, ?_, ?_, ?_, ?_, ?_, ?_, ?_, ?_, ?_, ?_, ?_, ?_, ?_, ?_, ?_, ?_, ?_, ?_, ?_, ?_, trivial⟩, ?_⟩
 ·intro w37 k34
  refine op1 (Zc rfl ?_)
  exact ⟨rfl, Za _⟩
 ·intro w38 k35
  refine op1 (Zc rfl ?_)
  exact ⟨rfl, Za _⟩
 ·intro w39 k36
  intro v_ hv_; subst v_
  rintro _ rfl
  refine op1 (Zbo Zaw rfl rfl hat2 ?_)
  exact ⟨rfl, Za _⟩
 ·intro w40 k37
  rintro _ rfl
  refine op1 (Zn Zaz rfl ?_)
  exact ⟨rfl, Za _⟩
 ·intro w41 k38
  rintro _ rfl
  refine op1 (Zt Za9 rfl (Zaj (Zaj hc6 k33) k38) (j := 0) rfl ?_)
  exact ⟨rfl, Za _⟩
 ·intro w42 k39
  rintro _ rfl
  refine op1 (Zch rfl rfl ?_)
  exact ⟨rfl, Za _⟩
 ·intro w43 k40
  rintro _ rfl
  refine op1 (Zc rfl ?_)
  exact ⟨(by rw [decide_eq_true h8]), Za _⟩
 ·intro w44 k41
  rintro _ rfl
  refine Zas (Zc rfl ?_)
  exact ⟨rfl, Za _⟩
 ·intro w45 k42
  rintro _ rfl _ rfl
  refine Zas (Zch rfl rfl ?_)
  exact ⟨rfl, Za _⟩
 ·intro w46 k43
  rintro _ rfl _ rfl
  refine op1 (Zr rfl rfl ?_)
  exact ⟨rfl, Za _⟩
 ·intro w47 k44
  rintro _ rfl
  refine op1 (Zc rfl ?_)
  exact ⟨(by rw [decide_eq_true h9]), Za _⟩
 ·intro w48 k45
  rintro _ rfl
  refine Zas (Zc rfl ?_)
  exact ⟨rfl, Za _⟩
 ·intro w49 k46
  rintro _ rfl
  refine Zas (Zc rfl ?_)
  exact ⟨rfl, Za _⟩
 ·intro w50 k47
  rintro _ rfl _ rfl _ rfl
  refine Zas (Zch rfl rfl ?_)
  exact ⟨rfl, Za _⟩
 ·intro w51 k48
  rintro _ rfl _ rfl
  refine Zas (Zc rfl ?_)
  exact ⟨(by rw [decide_eq_false h10]), Za _⟩
 ·intro w52 k49
  rintro _ rfl
  refine Zas (Zc rfl ?_)
  exact ⟨rfl, Za _⟩
 ·intro w53 k50
  rintro _ rfl
  refine Zas (Zc rfl ?_)
  exact ⟨rfl, Za _⟩
 ·intro w54 k51
  rintro _ rfl _ rfl
  refine Zas (Za7 rfl rfl om ?_)
  exact ⟨rfl, Za _⟩
 ·intro w55 k52
  rintro _ rfl
  intro v_ hv_; subst v_
  rintro _ rfl
  refine Zas (Zbo Zaw rfl rfl hat3 ?_)
  exact ⟨rfl, Za _⟩
 ·intro w56 k53
  rintro _ rfl _ rfl
  refine Zas (Zn Zaz rfl ?_)
  exact ⟨rfl, Za _⟩
 ·intro w57 k54
  rintro _ rfl _ rfl
  refine Zas (Zt Za9 rfl (Zaj (Zaj hc7 k33) k54) (j := 0) rfl ?_)
  exact ⟨rfl, Za _⟩
 ·intro w58 k55
  rintro _ rfl
  refine Zas (Zc rfl ?_)
  exact ⟨rfl, Za _⟩
 ·intro w59 k56
  rintro _ rfl
  refine Zas (Zc rfl ?_)
  exact ⟨rfl, Za _⟩
 ·intro w60 k57
  rintro _ rfl
  intro v_ hv_; subst v_
  rintro _ rfl
  refine Zas (Zbo Zaw rfl rfl hat4 ?_)
  exact ⟨rfl, Za _⟩
 ·intro w61 k58
  rintro _ rfl _ rfl
  refine Zas (Zn Zaz rfl ?_)
  exact ⟨rfl, Za _⟩
 ·intro w62 k59
  rintro _ rfl _ rfl
  refine Zas (Zt Za9 rfl (Zaj (Zaj hc8 k33) k59) (j := 0) rfl ?_)
  exact ⟨rfl, Za _⟩
 ·intro w63 k60
  rintro _ rfl _ rfl
  refine Zas (Za7 rfl rfl om ?_)
  exact ⟨rfl, Za _⟩
 ·intro w64 k61
  rintro _ rfl _ rfl _ rfl
  refine Zas (s_ne rfl rfl ?_)
  exact ⟨rfl, Za _⟩
 ·intro w65 k62
  rintro _ rfl _ rfl _ rfl
  refine Zas (Zr rfl rfl ?_)
  exact ⟨rfl, Za _⟩
 ·intro w66 k63
  rintro _ rfl _ rfl
  refine op1 (Zr rfl rfl ?_)
  exact ⟨rfl, Za _⟩
 intro w67 k64
 have hb67 := Zf hb36 k64
 intro v_ hv_; subst v_
 rintro _ rfl _ rfl _ rfl _ rfl _ rfl _ rfl _ rfl _ rfl _ rfl _ rfl _ rfl _ rfl _ rfl _ rfl
 intro v_ hv_; subst v_
 rintro _ rfl _ rfl _ rfl _ rfl _ rfl
 intro v_ hv_; subst v_
 rintro _ rfl _ rfl _ rfl _ rfl _ rfl _ rfl _ rfl _ rfl
 refine Zg (Zd ?_)
 refine Zw rfl (fun h11 => ?_) (fun h11 => ?_)
 ·refine Zh (Zb (st (Ze rfl (Zg (Zd (Zaa rfl rfl ?_))))))
  refine ⟨_, rfl, hb67, ?_⟩
  rw [Zfi i hi.1 om]
  rw [ne_eq, Zck]
  rintro ⟨e1, e2⟩
  first | omega | (have e3 := e2 k om om; unfold Nd.kid at e3; exact Zjx e3 om)
 refine Zo (Zab (Zd (Zb (st (Zc rfl (st (Zah rfl rfl om (st (Ze rfl ?_)))))))))
 refine Zg ?_
 exact Zac ((k + 1)) ⟨hb67, by omega, fun j j0 j1 => if e : j = k then by rw [e]; unfold Nd.kid; exact kidB_yes om om om else hk2 j j0 om⟩ om sb
end Go.Proofs.Ytfljelnfjbbknaa.Nd
namespace Go.Proofs.Ytfljelnfjbbknaa.Lm
open Go.RowKit Go.Gw
theorem Zcd : OneF Try.prog 29 := ⟨by kernel_rfl⟩
theorem Zbx : SlF Try.prog 29 83 1 4 (.int .u32 0) := ⟨by kernel_rfl, by kernel_rfl, rfl, by decide⟩
theorem Zde : OneF Try.prog 83 := ⟨by kernel_rfl⟩
theorem fn111 : FunF Try.prog 111 := ⟨_, _, Try.func111, by decide +kernel, rfl⟩
theorem fn103 : FunF Try.prog 103 := ⟨_, _, Try.func103, by decide +kernel, rfl⟩
theorem fn99 : FunF Try.prog 99 := ⟨_, _, Try.func99, by decide +kernel, rfl⟩
theorem Za9 : OneF Try.prog 3 := ⟨by kernel_rfl⟩
theorem zero3 : ZeroF Try.prog 3 #[.int .i64 0] := ⟨by kernel_rfl⟩
theorem fn104 : FunF Try.prog 104 := ⟨_, _, Try.func104, by decide +kernel, rfl⟩
theorem fn114 : FunF Try.prog 114 := ⟨_, _, Try.func114, by decide +kernel, rfl⟩
theorem Zdu : Go.Program.underlying Try.prog 83 = some (.int .u32) := by kernel_rfl
theorem Zec : Go.Program.underlying Try.prog 81 = some (.int .u64) := by kernel_rfl
theorem fn112 : FunF Try.prog 112 := ⟨_, _, Try.func112, by decide +kernel, rfl⟩
theorem fn82 : FunF Try.prog 82 := ⟨_, _, Try.func82, by decide +kernel, rfl⟩
theorem fn113 : FunF Try.prog 113 := ⟨_, _, Try.func113, by decide +kernel, rfl⟩
theorem fn98 : FunF Try.prog 98 := ⟨_, _, Try.func98, by decide +kernel, rfl⟩
theorem Zgs : Go.Program.underlying Try.prog 5 = some (.int .u8) := by kernel_rfl
theorem str9 : StrF Try.prog 9 := ⟨by kernel_rfl⟩
theorem Zh5 : Go.Program.underlying Try.prog 3 = some (.int .i64) := by kernel_rfl
theorem fn106 : FunF Try.prog 106 := ⟨_, _, Try.func106, by decide +kernel, rfl⟩
theorem Zcq : SlF Try.prog 68 4 1 1 (.bool false) := ⟨by kernel_rfl, by kernel_rfl, rfl, by decide⟩
theorem Zeg : OneF Try.prog 4 := ⟨by kernel_rfl⟩
theorem nz4 : ∃ ie, Try.prog.info? 4 = some ie ∧ 0 < ie.size := nz_of kr
theorem fn105 : FunF Try.prog 105 := ⟨_, _, Try.func105, by decide +kernel, rfl⟩
theorem nz83 : ∃ ie, Try.prog.info? 83 = some ie ∧ 0 < ie.size := nz_of kr
theorem fn85 : FunF Try.prog 85 := ⟨_, _, Try.func85, by decide +kernel, rfl⟩
theorem fn87 : FunF Try.prog 87 := ⟨_, _, Try.func87, by decide +kernel, rfl⟩
theorem fn86 : FunF Try.prog 86 := ⟨_, _, Try.func86, by decide +kernel, rfl⟩
theorem bool4 : Go.Program.underlying Try.prog 4 = some .bool := by kernel_rfl
theorem fn88 : FunF Try.prog 88 := ⟨_, _, Try.func88, by decide +kernel, rfl⟩
end Go.Proofs.Ytfljelnfjbbknaa.Lm
namespace Go.Proofs.Ytfljelnfjbbknaa.Lm
open Go.RowKit Go.Gw
theorem Zbr : FieldF Try.prog 31 1 1 := ⟨by kernel_rfl⟩
theorem fn57 : FunF Try.prog 57 := ⟨_, _, Try.func57, by decide +kernel, rfl⟩
theorem Zdh : FieldF Try.prog 31 0 0 := ⟨by kernel_rfl⟩
theorem Zb3 : ZeroF Try.prog 31 #[.bool false, .slice none 0 0] := ⟨by kernel_rfl⟩
theorem Zx : RowF Try.prog 31 2 := ⟨by kernel_rfl⟩
theorem fn81 : FunF Try.prog 81 := ⟨_, _, Try.func81, by decide +kernel, rfl⟩
theorem fn76 : FunF Try.prog 76 := ⟨_, _, Try.func76, by decide +kernel, rfl⟩
theorem fn100 : FunF Try.prog 100 := ⟨_, _, Try.func100, by decide +kernel, rfl⟩
theorem fn101 : FunF Try.prog 101 := ⟨_, _, Try.func101, by decide +kernel, rfl⟩
theorem fn78 : FunF Try.prog 78 := ⟨_, _, Try.func78, by decide +kernel, rfl⟩
theorem fn77 : FunF Try.prog 77 := ⟨_, _, Try.func77, by decide +kernel, rfl⟩
theorem fn84 : FunF Try.prog 84 := ⟨_, _, Try.func84, by decide +kernel, rfl⟩
theorem fn53 : FunF Try.prog 53 := ⟨_, _, Try.func53, by decide +kernel, rfl⟩
theorem fn54 : FunF Try.prog 54 := ⟨_, _, Try.func54, by decide +kernel, rfl⟩
theorem fn55 : FunF Try.prog 55 := ⟨_, _, Try.func55, by decide +kernel, rfl⟩
theorem fn48 : FunF Try.prog 48 := ⟨_, _, Try.func48, by decide +kernel, rfl⟩
theorem fn22 : FunF Try.prog 22 := ⟨_, _, Try.func22, by decide +kernel, rfl⟩
theorem fn21 : FunF Try.prog 21 := ⟨_, _, Try.func21, by decide +kernel, rfl⟩
theorem fn102 : FunF Try.prog 102 := ⟨_, _, Try.func102, by decide +kernel, rfl⟩
theorem fn20 : FunF Try.prog 20 := ⟨_, _, Try.func20, by decide +kernel, rfl⟩
theorem fn80 : FunF Try.prog 80 := ⟨_, _, Try.func80, by decide +kernel, rfl⟩
end Go.Proofs.Ytfljelnfjbbknaa.Lm
namespace Go.Proofs.Ytfljelnfjbbknaa.Lm
open Go.RowKit Go.Gw
theorem Zaw : SlF Try.prog 22 101 5 40 (.agg #[.int .i64 0, .int .i64 0, .int .i64 0, .int .i64 0, .int .i64 0]) := ⟨by kernel_rfl, by kernel_rfl, rfl, by decide⟩
theorem Za1 : RowF Try.prog 101 5 := ⟨by kernel_rfl⟩
theorem Zcw : ZeroF Try.prog 101 #[.int .i64 0, .int .i64 0, .int .i64 0, .int .i64 0, .int .i64 0] := ⟨by kernel_rfl⟩
theorem Zaz : FieldF Try.prog 101 0 0 := ⟨by kernel_rfl⟩
theorem fn42 : FunF Try.prog 42 := ⟨_, _, Try.func42, by decide +kernel, rfl⟩
theorem Zav : FieldF Try.prog 101 1 1 := ⟨by kernel_rfl⟩
theorem row99 : RowF Try.prog 99 4 := ⟨by kernel_rfl⟩
theorem Zb9 : ArrF Try.prog 99 4 3 1 := ⟨by kernel_rfl, by kernel_rfl⟩
theorem Zcb : FieldF Try.prog 25 0 0 := ⟨by kernel_rfl⟩
theorem Zb8 : OneF Try.prog 22 := ⟨by kernel_rfl⟩
theorem Za6 : RowF Try.prog 25 1 := ⟨by kernel_rfl⟩
theorem fn43 : FunF Try.prog 43 := ⟨_, _, Try.func43, by decide +kernel, rfl⟩
theorem fn47 : FunF Try.prog 47 := ⟨_, _, Try.func47, by decide +kernel, rfl⟩
theorem Zg4 : FunF Try.prog 23 := ⟨_, _, Try.func23, by decide +kernel, rfl⟩
theorem fn46 : FunF Try.prog 46 := ⟨_, _, Try.func46, by decide +kernel, rfl⟩
theorem Zd0 : FieldF Try.prog 47 1 2 := ⟨by kernel_rfl⟩
theorem Zc4 : FieldF Try.prog 47 0 0 := ⟨by kernel_rfl⟩
theorem Zct : SlF Try.prog 39 47 5 72 (.agg #[.bool false, .slice none 0 0, .bool false, .slice none 0 0, .int .u8 0]) := ⟨by kernel_rfl, by kernel_rfl, rfl, by decide⟩
theorem Zj0 : RowF Try.prog 47 5 := ⟨by kernel_rfl⟩
theorem fn52 : FunF Try.prog 52 := ⟨_, _, Try.func52, by decide +kernel, rfl⟩
theorem nz47 : ∃ ie, Try.prog.info? 47 = some ie ∧ 0 < ie.size := nz_of kr
theorem fld47_2 : FieldF Try.prog 47 2 4 := ⟨by kernel_rfl⟩
theorem one5 : OneF Try.prog 5 := ⟨by kernel_rfl⟩
theorem fn71 : FunF Try.prog 71 := ⟨_, _, Try.func71, by decide +kernel, rfl⟩
theorem Zgw : ∃ ie, Try.prog.info? 101 = some ie ∧ 0 < ie.size := nz_of kr
theorem Zez : ZeroF Try.prog 25 #[.slice none 0 0] := ⟨by kernel_rfl⟩
theorem fn27 : FunF Try.prog 27 := ⟨_, _, Try.func27, by decide +kernel, rfl⟩
theorem fn19 : FunF Try.prog 19 := ⟨_, _, Try.func19, by decide +kernel, rfl⟩
theorem fn70 : FunF Try.prog 70 := ⟨_, _, Try.func70, by decide +kernel, rfl⟩
theorem fn11 : FunF Try.prog 11 := ⟨_, _, Try.func11, by decide +kernel, rfl⟩
theorem fn26 : FunF Try.prog 26 := ⟨_, _, Try.func26, by decide +kernel, rfl⟩
theorem fn36 : FunF Try.prog 36 := ⟨_, _, Try.func36, by decide +kernel, rfl⟩
end Go.Proofs.Ytfljelnfjbbknaa.Lm
namespace Go.Proofs.Ytfljelnfjbbknaa
open Go.ChangeShapes Go.WideShapes Go.ChangeAt Go.RowKit Go.Gw
theorem ownTry : ownKnob Try.prog.godebug = none := by kernel_rfl
theorem laidTry : laidOutB Try.prog = true := by kernel_rfl
theorem cellF : CellF Try.prog 47 31 4 29 83 5 := ⟨by kernel_rfl, ⟨by kernel_rfl, by kernel_rfl, by kernel_rfl, by kernel_rfl, by kernel_rfl, by kernel_rfl, by kernel_rfl, by kernel_rfl⟩, by kernel_rfl, by kernel_rfl, by kernel_rfl⟩
theorem cellsArg {H : Type} {enc : TypeId × Value → H} {w : World} {r : Reach} {b0 : Nat} {v : Value} {d : DataW H} {p : List MemPlace} (hv : Value.okWide Try.prog w r b0 39 v) (h : DataW.Trod enc Try.prog w 0 (fun _ => true) true 39 v d p) :
    ∃ l : List RCl, Sl (Kd.rcell 83 w.heap.size) w (fun _ => False) v l := cells_arg kr cellF hv h
theorem cellArg {H : Type} {enc : TypeId × Value → H} {w : World} {r : Reach} {b0 : Nat} {v : Value} {d : DataW H} {p : List MemPlace} (hv : Value.okWide Try.prog w r b0 47 v) (h : DataW.Trod enc Try.prog w 0 (fun _ => true) true 47 v d p) :
    ∃ (xn : Bool) (a : Value) (xs : List Int) (yn : Bool) (b : Value) (ys : List Int) (st : Int), v = .agg [.bool xn, a, .bool yn, b, .int .u8 st].toArray ∧ Sl Kd.u32 w (fun _ => False) a xs ∧ Sl Kd.u32 w (fun _ => False) b ys ∧ 0 ≤ st ∧ st ≤ 255 := cell_arg cellF hv h
end Go.Proofs.Ytfljelnfjbbknaa
namespace Go.Gw
open Go.RowKit
def Zc5 (l o : List Nd) (i : Int) : Bool := decide ((vis (tr l i) o).1 = o)
theorem settled_up {l o p : List Nd} {i : Int} (h : Zc5 l o i = true) (hp : o <+: p) : Zc5 l p i = true := by
  unfold Zc5 at *
  rw [decide_eq_true_eq] at *
  rw [Zdo (tr l i) (by rw [h]; exact hp)]
def cntS (l o : List Nd) : Nat := (List.range (l.length + 1)).countP fun (i : Nat) => Zc5 l o i
theorem countP_le {α : Type} {p q : α → Bool} : ∀ {xs : List α}, (∀ x, p x = true → q x = true) → xs.countP p ≤ xs.countP q
  | [], _ => Nat.le_refl _
  | x :: r, h => by
    have ih := countP_le (xs := r) h
    rw [List.countP_cons, List.countP_cons]
    by_cases hp : p x = true
    · rw [if_pos hp, if_pos (h x hp)]; omega
    · rw [if_neg hp]; omega
theorem Zls {α : Type} {p q : α → Bool} : ∀ {xs : List α}, (∀ x, p x = true → q x = true) → (∃ x ∈ xs, p x = false ∧ q x = true) → xs.countP p + 1 ≤ xs.countP q
  | [], _, h => by obtain ⟨x, hx, _⟩ := h; cases hx
  | y :: r, h, he => by
    rw [List.countP_cons, List.countP_cons]
    obtain ⟨x, hx, h1, h2⟩ := he
    rcases List.mem_cons.1 hx with rfl | hx
    · have := countP_le (xs := r) h
      rw [if_neg (by rw [h1]; decide), if_pos h2]; omega
    · have ih := Zls (xs := r) h ⟨x, hx, h1, h2⟩
      by_cases hp : p y = true
      · rw [if_pos hp, if_pos (h y hp)]; omega
      · rw [if_neg hp]; omega
theorem cntS_lt {l o p : List Nd} {n : Int} (hp : o <+: p) (h0 : 0 ≤ n) (h1 : n ≤ l.length) (hn : Zc5 l o n = false) (hs : Zc5 l p n = true) : cntS l o + 1 ≤ cntS l p :=
  Zls (fun i h => settled_up h hp) ⟨n.toNat, by rw [List.mem_range]; omega, by rw [show ((n.toNat : Nat) : Int) = n by omega]; exact hn, by rw [show ((n.toNat : Nat) : Int) = n by omega]; exact hs⟩
theorem vis_cnt {l : List Nd} (hl : Zaf l = true) : ∀ n : Int, 0 ≤ n → n ≤ l.length → ∀ o : List Nd, (vis (tr l n) o).1.length + cntS l o ≤ o.length + cntS l (vis (tr l n) o).1 := by
  have self : ∀ (n : Int) (o : List Nd), Zc5 l (vis (tr l n) o).1 n = true := fun n o => by unfold Zc5; rw [Zgx]; exact decide_eq_true rfl
  have stay : ∀ {n : Int} {o : List Nd}, Zc5 l o n = true → (vis (tr l n) o).1.length + cntS l o ≤ o.length + cntS l (vis (tr l n) o).1 := fun {n o} h => by
    unfold Zc5 at h; rw [decide_eq_true_eq] at h; rw [h]; exact Nat.le_refl _
  refine Zju hl _ (fun o => by rw [Zc8]; exact Nat.le_refl _) (fun n h0 h1 hv o => ?_) (fun n h0 h1 hv q0 q1 q2 q3 o => ?_)
  · by_cases hs : Zc5 l o n = true
    · exact stay hs
    · have c := cntS_lt (Zbn (tr l n) o) om h1 (by simpa using hs) (self n o)
      have e : (vis (tr l n) o).1.length ≤ o.length + 1 := by rw [Zel hl h0 h1 hv]; exact Zku _ _
      omega
  · by_cases hs : Zc5 l o n = true
    · exact stay hs
    · have p0 := Zbn (tr l (ix l (n - 1)).k0) o
      have c0 := q0 o
      have p1 := Zbn (tr l (ix l (n - 1)).k1) (vis (tr l (ix l (n - 1)).k0) o).1
      have c1 := q1 (vis (tr l (ix l (n - 1)).k0) o).1
      have p2 := Zbn (tr l (ix l (n - 1)).k2) (vis (tr l (ix l (n - 1)).k1) (vis (tr l (ix l (n - 1)).k0) o).1).1
      have c2 := q2 (vis (tr l (ix l (n - 1)).k1) (vis (tr l (ix l (n - 1)).k0) o).1).1
      have p3 := Zbn (tr l (ix l (n - 1)).k3) (vis (tr l (ix l (n - 1)).k2) (vis (tr l (ix l (n - 1)).k1) (vis (tr l (ix l (n - 1)).k0) o).1).1).1
      have c3 := q3 (vis (tr l (ix l (n - 1)).k2) (vis (tr l (ix l (n - 1)).k1) (vis (tr l (ix l (n - 1)).k0) o).1).1).1
      have sf := self n o
      rw [Zfx hl h0 h1 hv] at sf ⊢
      simp only [vis] at sf ⊢
      revert p3 c3 sf
      generalize hO : (vis (tr l (ix l (n - 1)).k3) (vis (tr l (ix l (n - 1)).k2) (vis (tr l (ix l (n - 1)).k1) (vis (tr l (ix l (n - 1)).k0) o).1).1).1).1 = O4
      intro p3 c3 sf
      by_cases h4 : Zc5 l O4 n = true
      · 
        have pre := p0.trans (p1.trans (p2.trans p3))
        have e4 : (vis (tr l n) O4).1 = O4 := by unfold Zc5 at h4; simpa using h4
        rw [Zfx hl h0 h1 hv] at e4
        simp only [vis] at e4
        have s0 := Zdo (tr l (ix l (n - 1)).k0) (o := o) (p := O4) (p1.trans (p2.trans p3))
        have s1 := Zdo (tr l (ix l (n - 1)).k1) (o := (vis (tr l (ix l (n - 1)).k0) o).1) (p := O4) (p2.trans p3)
        have s2 := Zdo (tr l (ix l (n - 1)).k2) (o := (vis (tr l (ix l (n - 1)).k1) (vis (tr l (ix l (n - 1)).k0) o).1).1) (p := O4) p3
        have s3 := Zdo (tr l (ix l (n - 1)).k3) (o := (vis (tr l (ix l (n - 1)).k2) (vis (tr l (ix l (n - 1)).k1) (vis (tr l (ix l (n - 1)).k0) o).1).1).1) (p := O4) (by rw [hO]; exact List.prefix_refl _)
        rw [s0] at e4; simp only at e4
        rw [s1] at e4; simp only at e4
        rw [s2] at e4; simp only at e4
        rw [s3] at e4; simp only at e4
        rw [e4]
        omega
      · have c := cntS_lt (n := n) (Zfk O4 _) om h1 (by simpa using h4) sf
        have e := Zku O4 (⟨(ix l (n - 1)).lv, (vis (tr l (ix l (n - 1)).k0) o).2, (vis (tr l (ix l (n - 1)).k1) (vis (tr l (ix l (n - 1)).k0) o).1).2, (vis (tr l (ix l (n - 1)).k2) (vis (tr l (ix l (n - 1)).k1) (vis (tr l (ix l (n - 1)).k0) o).1).1).2, (vis (tr l (ix l (n - 1)).k3) (vis (tr l (ix l (n - 1)).k2) (vis (tr l (ix l (n - 1)).k1) (vis (tr l (ix l (n - 1)).k0) o).1).1).1).2⟩ : Nd)
        omega
theorem canT_len {l : List Nd} (hl : Zaf l = true) {n : Int} (h0 : 0 ≤ n) (h1 : n ≤ l.length) : (canT (tr l n)).length ≤ l.length := by
  have h := vis_cnt hl n h0 h1 []
  unfold canT
  have c : cntS l (vis (tr l n) []).1 ≤ l.length + 1 := by unfold cntS; have := List.countP_le_length (p := fun i : Nat => Zc5 l (vis (tr l n) []).1 i) (l := List.range (l.length + 1)); rwa [List.length_range] at this
  have z : 1 ≤ cntS l [] := by
    have := Zls (p := fun _ : Nat => false) (q := fun i : Nat => Zc5 l [] i) (xs := List.range (l.length + 1)) (fun _ h => by cases h) ⟨0, by rw [List.mem_range]; omega, rfl, by
      show Zc5 l [] ((0 : Nat) : Int) = true
      unfold Zc5; rw [show ((0 : Nat) : Int) = 0 from rfl, Zc8]; rfl⟩
    unfold cntS; omega
  simp only [List.length_nil] at h
  omega
theorem shrF_laid : ∀ (f : Nat) {l : List Nd} {n : Int}, Zaf l = true → 0 ≤ n → n ≤ l.length → lvT (tr l n) ≤ f → ∃ (L : List Nd) (m : Int), Zaf L = true ∧ (0 ≤ m ∧ m ≤ L.length) ∧ tr L m = shrF f (tr l n) ∧ L.length ≤ l.length + f
  | 0, l, n, hl, h0, h1, _ => ⟨l, n, hl, ⟨h0, h1⟩, rfl, Nat.le_refl _⟩
  | f + 1, l, n, hl, h0, h1, hf => by
    unfold shrF
    by_cases hh : hol (tr l n) = true
    · rw [if_pos hh]
      have hn : 1 ≤ n := by
        have : n ≠ 0 := fun e => by rw [e, Zc8] at hh; cases hh
        omega
      have hv : (ix l (n - 1)).lv ≠ 1 := fun e => by rw [Zel hl hn h1 e] at hh; cases hh
      have e := inn_tr hl hn h1 hv
      have hlv := Ze9 hl (i := n - 1) om om
      have hl2 : lvT (tr (l ++ [Zei l n]) ((l.length : Int) + 1)) ≤ f := by
        rw [e, Zfx hl hn h1 hv]
        rw [Zfx hl hn h1 hv] at hf
        simp only [lvT] at hf
        by_cases h2 : (ix l (n - 1)).lv = 2
        · simp only [inn, if_pos h2, lvT]; omega
        · simp only [inn, if_neg h2, lvT]; omega
      obtain ⟨L, m, a, b, c, d⟩ := shrF_laid f (Zji hl hn h1 hv) om (by simp) hl2
      exact ⟨L, m, a, b, by rw [c, e], by simp at d; omega⟩
    · rw [if_neg hh]
      exact ⟨l, n, hl, ⟨h0, h1⟩, rfl, by omega⟩
theorem lvT_le {t : Tr} {v : Int} (h : wf v t) : lvT t ≤ 1329 := by
  cases t with
  | no => exact Nat.zero_le _
  | leaf a b c d => show 1 ≤ 1329; omega
  | nd u a b c d => obtain ⟨rfl, _, h3, _⟩ := h; simp only [lvT]; omega
theorem ofL_len (l : List Nd) (n : Int) : (ofL l n).1.length ≤ l.length + 1330 := by
  unfold ofL
  split
  · rename_i hc
    obtain ⟨hl, h0, h1⟩ := hc
    show (canT (Zhl (tr l n))).length ≤ _
    unfold Zhl
    split
    · show ([] : List Nd).length ≤ _; simp
    · have hw := lvT_le (Zi2 hl n h0 h1 _ (fun _ => rfl))
      obtain ⟨L, m, a, b, c, d⟩ := shrF_laid (lvT (tr l n)) hl h0 h1 (Nat.le_refl _)
      unfold shr
      rw [← c]
      have := canT_len a b.1 b.2
      omega
  · simp
theorem ofCells_len (cs : List Cl) : (Zd2 cs).1.length ≤ 1329 * cs.length + 1330 := by
  unfold Zd2
  split
  · simp
  · rename_i h
    have h1 := ofL_len (Zcr (Zbz (Zbc cs)).toNat (-(hf (Zbz (Zbc cs)))) (-(hf (Zbz (Zbc cs)))) (Zbc cs) []).1 (Zcr (Zbz (Zbc cs)).toNat (-(hf (Zbz (Zbc cs)))) (-(hf (Zbz (Zbc cs)))) (Zbc cs) []).2
    have h2 := Zh3 (Zbz (Zbc cs)).toNat (-(hf (Zbz (Zbc cs)))) (-(hf (Zbz (Zbc cs)))) (Zbc cs) []
    have h3 := Nat.mul_le_mul (show (Zbz (Zbc cs)).toNat ≤ 1329 by omega) (lastL_len cs)
    simp only [List.length_nil] at h2
    omega
end Go.Gw
namespace Go.Gw
open Go.RowKit
theorem rcell_st {U n0 : Nat} {w : World} {F : Nat → Prop} {va : Value} {l : List RCl} (h : Sl (Kd.rcell U n0) w F va l) : StB (l.map Za8) := by
  intro c hc
  obtain ⟨r, hr, rfl⟩ := List.mem_map.1 hc
  obtain ⟨i, hi, rfl⟩ := List.getElem_of_mem hr
  obtain ⟨A, m, e, h1, h2, h3⟩ := h
  obtain ⟨g, o, us, _, _, _, ⟨a, b, _, _, _, h4, h5⟩, _⟩ := h3 i _ (List.getElem?_eq_getElem hi)
  exact ⟨h4, h5⟩
structure QuadOk (l : List RCl) (m : Int) : Prop where
  can : Can (Zbp l m).1
  cel : ∀ X Y : Int, Zcy (Zbp l m).1 X Y = stL (l.map Za8) X Y
  all : ∀ c ∈ l, Zfj c = true
  cb : CBd (l.map Za8)
  len : (l.length : Int) ≤ m
  nodes : (Zbp l m).1.length ≤ 1329 * l.length + 1330
  st : StB (l.map Za8)
  fit : Zbz (Zbc (l.map Za8)) ≤ 1329
theorem quad_can {U n0 : Nat} {w : World} {F : Nat → Prop} {va : Value} {l : List RCl} {m : Int} (hl : Sl (Kd.rcell U n0) w F va l) : Can (Zbp l m).1 := by
  unfold Zbp
  split
  · exact Ze3
  · unfold ofR
    split
    · exact (Zl9 (rcell_st hl)).1
    · exact Ze3
theorem quad_ok {U n0 : Nat} {w : World} {F : Nat → Prop} {va : Value} {l : List RCl} {m : Int} (hl : Sl (Kd.rcell U n0) w F va l) (h : (Zbp l m).2 = true) : QuadOk l m := by
  have hst := rcell_st hl
  have hs := Zl9 hst
  have hlen := ofCells_len (l.map Za8)
  have hc := quad_can (m := m) hl
  unfold Zbp at h hc
  by_cases hg : Zf7 l m = true
  · rw [if_pos hg] at h; cases h
  · rw [if_neg hg] at h hc
    obtain ⟨g1, g2⟩ := great_out hl (by simpa using hg)
    have h := of_decide_eq_true h
    have e : (Zbp l m).1 = (ofR l).1 := by unfold Zbp; rw [if_neg hg]
    by_cases ha : l.all Zfj = true
    · have e2 : ofR l = Zd2 (l.map Za8) := by unfold ofR; rw [if_pos ha]
      rw [e2] at h
      refine ⟨by rw [e, e2]; exact hs.1, fun X Y => by rw [e, e2]; exact (hs.2.1 h).2 X Y, List.all_eq_true.1 ha, g2, g1, by rw [e, e2]; rw [List.length_map] at hlen; exact hlen, hst, (hs.2.1 h).1⟩
    · exfalso; unfold ofR at h; rw [if_neg ha] at h; cases h
variable {l : List RCl} {m : Int}
theorem QuadOk.last (h : QuadOk l m) (X Y : Int) : Zcy (Zbp l m).1 X Y = stA (Zbc (l.map Za8)) X Y := by rw [h.cel, (Zl2 (l.map Za8)).2.2]
theorem QuadOk.at (h : QuadOk l m) {c : Cl} (hc : c ∈ Zbc (l.map Za8)) : Zcy (Zbp l m).1 c.x c.y ≠ 0 := by
  obtain ⟨s1, s2, _⟩ := Zl2 (l.map Za8)
  rw [h.last, stA_mem s1 hc]; exact s2 c hc
theorem QuadOk.nil (h : QuadOk l m) (h0 : ((Zbc (l.map Za8)).length : Int) = 0) : (Zbp l m).1 = [] := by
  refine celQ_zero h.can fun X Y => ?_
  rw [h.last, List.eq_nil_of_length_eq_zero (show (Zbc (l.map Za8)).length = 0 by omega)]; rfl
theorem QuadOk.some (h : QuadOk l m) (h0 : ¬ ((Zbc (l.map Za8)).length : Int) = 0) : (bxs (Zbp l m).1).some = true := by
  refine Classical.byContradiction fun hn => ?_
  have hq := box_no h.can (by simpa using hn)
  have := h.at (ix_memC (l := Zbc (l.map Za8)) (i := 0) om om)
  rw [hq, celQ_nil] at this; exact this rfl
theorem QuadOk.rng (h : QuadOk l m) {b : Bx} (ha : Around (Zcy (Zbp l m).1) b) {i : Int} (h0 : 0 ≤ i) (h1 : i < (Zbc (l.map Za8)).length) : (b.x ≤ (ix (Zbc (l.map Za8)) i).x ∧ (ix (Zbc (l.map Za8)) i).x < b.x + b.w) ∧ b.y ≤ (ix (Zbc (l.map Za8)) i).y ∧ (ix (Zbc (l.map Za8)) i).y < b.y + b.h :=
  ha.rng _ _ (h.at (ix_memC h0 h1))
theorem QuadOk.any (h : QuadOk l m) {p : Cl → Bool} (he : ∃ X Y, Zcy (Zbp l m).1 X Y ≠ 0 ∧ ∀ c : Cl, c.x = X → c.y = Y → p c = true) : (Zbc (l.map Za8)).any p = true := by
  obtain ⟨X, Y, hc, hp⟩ := he
  rw [h.last] at hc
  obtain ⟨c, hm, e1, e2⟩ := stA_is hc
  exact List.any_eq_true.2 ⟨c, hm, hp c e1 e2⟩
theorem QuadOk.west (h : QuadOk l m) {b : Bx} (ha : Around (Zcy (Zbp l m).1) b) : (Zbc (l.map Za8)).any (fun c => decide (c.x = b.x)) = true := by
  obtain ⟨Y, hY⟩ := ha.west; exact h.any ⟨_, _, hY, fun c e _ => decide_eq_true e⟩
theorem QuadOk.east (h : QuadOk l m) {b : Bx} (ha : Around (Zcy (Zbp l m).1) b) : (Zbc (l.map Za8)).any (fun c => decide (c.x = b.x + b.w - 1)) = true := by
  obtain ⟨Y, hY⟩ := ha.east; exact h.any ⟨_, _, hY, fun c e _ => decide_eq_true e⟩
theorem QuadOk.north (h : QuadOk l m) {b : Bx} (ha : Around (Zcy (Zbp l m).1) b) : (Zbc (l.map Za8)).any (fun c => decide (c.y = b.y)) = true := by
  obtain ⟨Y, hY⟩ := ha.north; exact h.any ⟨_, _, hY, fun c _ e => decide_eq_true e⟩
theorem QuadOk.south (h : QuadOk l m) {b : Bx} (ha : Around (Zcy (Zbp l m).1) b) : (Zbc (l.map Za8)).any (fun c => decide (c.y = b.y + b.h - 1)) = true := by
  obtain ⟨Y, hY⟩ := ha.south; exact h.any ⟨_, _, hY, fun c _ e => decide_eq_true e⟩
end Go.Gw
