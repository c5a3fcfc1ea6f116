/- Part of the proof: a library for walks, plain laws, and functions' walks. -/
import Derived.Test.YtfljelnfjbbknaaM4
import Derived.Test.YtfljelnfjbbknaaM2
import Derived.Test.YtfljelnfjbbknaaRows
import Derived.Test.YtfljelnfjbbknaaM3
set_option linter.unusedSimpArgs false
set_option linter.unusedVariables false
set_option maxRecDepth 20000
namespace Go.Gw
open Go.RowKit
def lexLt (a b : Cl) : Prop := a.y < b.y ∨ (a.y = b.y ∧ a.x < b.x)
theorem ord_lt {a b : Cl} : Zgn a b < 0 ↔ lexLt a b := by
  unfold Zgn lexLt Zb1
  by_cases h1 : a.y < b.y
  · simp [h1]
  · by_cases h2 : b.y < a.y
    · simp [h1, h2]; omega
    · by_cases h3 : a.x < b.x
      · simp [h1, h2, h3]; omega
      · by_cases h4 : b.x < a.x <;> simp [h1, h2, h3, h4]
theorem ord_eq {a b : Cl} : Zgn a b = 0 ↔ a.x = b.x ∧ a.y = b.y := by
  unfold Zgn Zb1
  by_cases h1 : a.y < b.y
  · simp [h1]; omega
  · by_cases h2 : b.y < a.y
    · simp [h1, h2]; omega
    · by_cases h3 : a.x < b.x
      · simp [h1, h2, h3]; omega
      · by_cases h4 : b.x < a.x <;> simp [h1, h2, h3, h4] <;> omega
def Srt (l : List Cl) : Prop := l.Pairwise lexLt
theorem insC_srt : ∀ {os : List Cl} {c : Cl}, Srt os → Srt (Zel os c)
  | [], c, _ => List.pairwise_singleton _ _
  | a :: r, c, h => by
    obtain ⟨h1, h2⟩ := List.pairwise_cons.1 h
    unfold Zel
    split
    · rename_i hc
      refine List.pairwise_cons.2 ⟨fun b hb => ?_, insC_srt h2⟩
      rcases insC_mem hb with rfl | hb
      · exact ord_lt.1 hc
      · exact h1 b hb
    · rename_i hc
      have hc : ¬ lexLt a c := fun q => hc (ord_lt.2 q)
      split
      · rename_i he
        have he := ord_eq.1 he
        refine List.pairwise_cons.2 ⟨fun b hb => ?_, h2⟩
        have := h1 b hb
        unfold lexLt at *; omega
      · rename_i he
        have he : ¬ (a.x = c.x ∧ a.y = c.y) := fun q => he (ord_eq.2 q)
        refine List.pairwise_cons.2 ⟨fun b hb => ?_, h⟩
        rcases List.mem_cons.1 hb with rfl | hb
        · unfold lexLt at *; omega
        · have := h1 b hb
          unfold lexLt at *; omega
theorem insC_st : ∀ (os : List Cl) (c : Cl) (X Y : Int), stA (Zel os c) X Y = if c.x = X ∧ c.y = Y then c.st else stA os X Y
  | [], c, X, Y => by unfold Zel; rw [Zdt]
  | a :: r, c, X, Y => by
    unfold Zel
    split
    · rename_i hc
      have hc := ord_lt.1 hc
      rw [Zdt, insC_st r c X Y, Zdt]
      by_cases h1 : a.x = X ∧ a.y = Y
      · rw [if_pos h1, if_neg (show ¬ (c.x = X ∧ c.y = Y) by unfold lexLt at hc; omega), if_pos h1]
      · rw [if_neg h1, if_neg h1]
    · split
      · rename_i he
        have he := ord_eq.1 he
        rw [Zdt, Zdt]
        by_cases h1 : c.x = X ∧ c.y = Y
        · rw [if_pos h1, if_pos h1]
        · rw [if_neg h1, if_neg h1, if_neg (show ¬ (a.x = X ∧ a.y = Y) by omega)]
      · rw [Zdt]
def stL (l : List Cl) (X Y : Int) : Int := l.foldl (fun s c => if c.x = X ∧ c.y = Y then c.st else s) 0
theorem lastA_sem (l : List Cl) : Srt (Zf7 l) ∧ ∀ X Y : Int, stA (Zf7 l) X Y = stL l X Y := by
  have : ∀ (l os : List Cl), Srt os → Srt (l.foldl Zel os) ∧ ∀ X Y : Int, stA (l.foldl Zel os) X Y = l.foldl (fun s c => if c.x = X ∧ c.y = Y then c.st else s) (stA os X Y) := by
    intro l
    induction l with
    | nil => intro os h; exact ⟨h, fun _ _ => rfl⟩
    | cons a r ih =>
      intro os h
      obtain ⟨h1, h2⟩ := ih (Zel os a) (insC_srt h)
      exact ⟨h1, fun X Y => by rw [List.foldl_cons, h2, insC_st]; rfl⟩
  exact this l [] List.Pairwise.nil
theorem stA_out {l : List Cl} {X Y : Int} (h : ∀ c ∈ l, ¬ (c.x = X ∧ c.y = Y)) : stA l X Y = 0 := by
  induction l with
  | nil => rfl
  | cons a r ih => rw [Zdt, if_neg (h a (by simp)), ih fun c hc => h c (by simp [hc])]
theorem srt_ne {a : Cl} {r : List Cl} (h : Srt (a :: r)) : ∀ c ∈ r, ¬ (c.x = a.x ∧ c.y = a.y) := fun c hc e => by
  have := (List.pairwise_cons.1 h).1 c hc
  unfold lexLt at this; omega
theorem stA_nz : ∀ {l : List Cl}, Srt l → ∀ X Y : Int, stA (l.filter nzC) X Y = stA l X Y
  | [], _, X, Y => rfl
  | a :: r, h, X, Y => by
    rw [List.filter_cons, Zdt]
    have ih := stA_nz (List.pairwise_cons.1 h).2 X Y
    by_cases hz : nzC a = true
    · rw [if_pos hz, Zdt, ih]
    · rw [if_neg hz, ih]
      by_cases e : a.x = X ∧ a.y = Y
      · rw [if_pos e, stA_out fun c hc q => srt_ne h c hc (by omega)]
        unfold nzC at hz; simp at hz; exact hz.symm
      · rw [if_neg e]
theorem Zk7 (l : List Cl) : Srt (Zbb l) ∧ (∀ c ∈ Zbb l, c.st ≠ 0) ∧ ∀ X Y : Int, stA (Zbb l) X Y = stL l X Y := by
  obtain ⟨h1, h2⟩ := lastA_sem l
  exact ⟨h1.filter _, fun c hc => by have := (List.mem_filter.1 hc).2; unfold nzC at this; simpa using this, fun X Y => by unfold Zbb; rw [stA_nz h1, h2]⟩
theorem stA_mem {l : List Cl} (hs : Srt l) {c : Cl} (hc : c ∈ l) : stA l c.x c.y = c.st := by
  induction l with
  | nil => cases hc
  | cons a r ih =>
    rw [Zdt]
    rcases List.mem_cons.1 hc with rfl | hc
    · rw [if_pos ⟨rfl, rfl⟩]
    · rw [if_neg (fun e => srt_ne hs c hc (by omega)), ih (List.pairwise_cons.1 hs).2 hc]
theorem stA_is {l : List Cl} {X Y : Int} (h : stA l X Y ≠ 0) : ∃ c ∈ l, c.x = X ∧ c.y = Y := by
  exact Classical.byContradiction fun hn => h (stA_out fun c hc e => hn ⟨c, hc, e⟩)
theorem lastL_stB {l : List Cl} (h : StB l) : StB (Zbb l) := fun c hc => h c (Zk5 (List.mem_filter.1 hc).1)
theorem inC_mono {c : Cl} {v w : Int} (h1 : 1 ≤ v) (h : v ≤ w) (hc : inC c v = true) : inC c w = true := by
  have := hf_mono h1 h
  unfold inC at *; rw [decide_eq_true_eq] at *; omega
theorem upL_ge (c : Cl) : ∀ (n : Nat) (v : Int), v ≤ upL c n v
  | 0, v => Int.le_refl _
  | n + 1, v => by
    unfold upL
    split
    · have := upL_ge c n (v + 1); omega
    · exact Int.le_refl _
theorem upL_le (c : Cl) : ∀ (n : Nat) (v : Int), v ≤ 1330 → upL c n v ≤ 1330
  | 0, v, h => h
  | n + 1, v, h => by
    unfold upL
    split
    · rename_i hc; exact upL_le c n (v + 1) (by omega)
    · exact h
theorem upL_in (c : Cl) : ∀ (n : Nat) (v : Int), 1330 - v < n → 1329 < upL c n v ∨ inC c (upL c n v) = true
  | 0, v, h => by unfold upL; left; omega
  | n + 1, v, h => by
    unfold upL
    split
    · exact upL_in c n (v + 1) (by omega)
    · rename_i hc
      by_cases h2 : v ≤ 1329
      · right; cases hb : inC c v with
        | true => rfl
        | false => exact absurd ⟨h2, hb⟩ hc
      · left; omega
theorem levelC_in (l : List Cl) : (1 ≤ Zbw l ∧ Zbw l ≤ 1330) ∧ (Zbw l ≤ 1329 → ∀ c ∈ l, inC c (Zbw l) = true) := by
  have : ∀ (l : List Cl) (v : Int), 1 ≤ v → v ≤ 1330 → (v ≤ l.foldl (fun v c => upL c 1331 v) v ∧ l.foldl (fun v c => upL c 1331 v) v ≤ 1330) ∧ (l.foldl (fun v c => upL c 1331 v) v ≤ 1329 → ∀ c ∈ l, inC c (l.foldl (fun v c => upL c 1331 v) v) = true) := by
    intro l
    induction l with
    | nil => intro v h1 h2; exact ⟨⟨Int.le_refl _, h2⟩, fun _ c hc => by cases hc⟩
    | cons a r ih =>
      intro v h1 h2
      have g1 := upL_ge a 1331 v
      have g2 := upL_le a 1331 v h2
      have g3 := upL_in a 1331 v (by omega)
      obtain ⟨⟨i1, i2⟩, i3⟩ := ih (upL a 1331 v) (by omega) g2
      rw [List.foldl_cons]
      refine ⟨⟨by omega, i2⟩, fun h c hc => ?_⟩
      rcases List.mem_cons.1 hc with rfl | hc
      · rcases g3 with g3 | g3
        · omega
        · exact inC_mono (by omega) i1 g3
      · exact i3 h c hc
  exact this l 1 (by decide) (by decide)
end Go.Gw
namespace Go.Gw
open Go.RowKit
theorem Zkx : ∀ (t : Tr) (x y : Int), cat (pru t) x y = cat t x y
  | .no, _, _ => rfl
  | .leaf a b c d, x, y => by
    by_cases h : emp (.leaf a b c d) = true
    · rw [Zh0 h, Zdb _ _ _ h]; rfl
    · simp only [pru, if_neg h]
  | .nd u a b c d, x, y => by
    by_cases h : emp (.nd u a b c d) = true
    · rw [Zh0 h, Zdb _ _ _ h]; rfl
    · simp only [pru, if_neg h, cat, Zkx a, Zkx b, Zkx c, Zkx d]
def Zbg (q : List Nd) (X Y : Int) : Int := mid (Zaq q) (tr q q.length) X Y
theorem celQ_nil (X Y : Int) : Zbg [] X Y = 0 := rfl
def Can (q : List Nd) : Prop := ∃ t v, wf v t ∧ q = canT (Zg7 t)
theorem can_of {t : Tr} {v : Int} (h : wf v t) : Can (canT (Zg7 t)) := ⟨t, v, h, rfl⟩
theorem Zkh {t : Tr} {v : Int} (h : wf v t) (X Y : Int) : Zbg (canT (Zg7 t)) X Y = mid v t X Y := by
  obtain ⟨u, h1, h2, h3⟩ := Zhj h
  rw [← h3]
  generalize Zg7 t = s at *
  unfold Zbg canT
  by_cases he : emp s = true
  · rw [Zdo s [] he]
    unfold mid
    rw [Zdb s _ _ he]; rfl
  · have he : emp s = false := by simpa using he
    obtain ⟨r1, r2⟩ := vis_root h1 he
    obtain ⟨c1, c2⟩ := Zc1 s h1 Zg4
    have hlv : Zaq (vis s []).1 = u := by
      unfold Zaq; rw [if_neg (by omega), ← r1]; exact c2 (by omega)
    rw [hlv, ← r1, Zlq c1 s h1 (List.prefix_refl _)]
    unfold mid; rw [Zkx]
theorem can_eq {p q : List Nd} (hp : Can p) (hq : Can q) (h : ∀ X Y : Int, Zbg p X Y = Zbg q X Y) : p = q := by
  obtain ⟨s, v, hs, rfl⟩ := hp
  obtain ⟨t, w, ht, rfl⟩ := hq
  exact can_mid hs ht fun X Y => by rw [← Zkh hs, ← Zkh ht, h]
theorem Ze0 : Can [] := ⟨.no, 1, trivial, rfl⟩
theorem Can.ok {q : List Nd} (h : Can q) : Zah q = true := by
  obtain ⟨t, v, ht, rfl⟩ := h
  obtain ⟨u, h1, h2, h3⟩ := Zhj ht
  exact rightB_loose h1
theorem Can.canL {q : List Nd} (h : Can q) : CanL q := by
  obtain ⟨t, v, ht, rfl⟩ := h
  obtain ⟨u, h1, h2, h3⟩ := Zhj ht
  exact (Zc1 (Zg7 t) h1 Zg4).1
theorem Can.right {q : List Nd} (h : Can q) : Zfm q = true := by
  obtain ⟨t, v, ht, rfl⟩ := h
  obtain ⟨u, h1, h2, h3⟩ := Zhj ht
  exact right_can h1 h2
theorem Can.full {q : List Nd} (h : Can q) : Full q := fun n h0 h1 => by
  have hf := (Zkn q).1 (full_can h.canL) (n - 1) (by omega) (by omega)
  rw [show n - 1 + 1 = n by omega, has_tr h.ok n (by omega) h1] at hf
  simpa using hf
theorem Can.wf {q : List Nd} (h : Can q) : wf (Zaq q) (tr q q.length) := Zil h.ok _ (by omega) (Int.le_refl _) _ fun h0 => by unfold Zaq; rw [if_neg (by omega)]
theorem celQ_out {q : List Nd} (h : Can q) {X Y : Int} (ho : ¬ (-(hf (Zaq q)) ≤ X ∧ X < hf (Zaq q) ∧ -(hf (Zaq q)) ≤ Y ∧ Y < hf (Zaq q))) : Zbg q X Y = 0 := by
  have := Zcv (Zaq q)
  exact Zb4 _ h.wf (by omega)
theorem celQ_zero {q : List Nd} (h : Can q) (hz : ∀ X Y : Int, Zbg q X Y = 0) : q = [] := can_eq h Ze0 fun X Y => by rw [hz, celQ_nil]
theorem Zmg : Zah [] = true := Zg4.ok
theorem Zl1 {cs : List Cl} (hb : StB cs) : (Can (Zdx cs).1) ∧ ((Zdx cs).2 = 0 → Zbw (Zbb cs) ≤ 1329 ∧ ∀ X Y : Int, Zbg (Zdx cs).1 X Y = stL cs X Y) ∧ ((Zdx cs).2 ≠ 0 → 1329 < Zbw (Zbb cs) ∧ (Zdx cs).1 = []) := by
  unfold Zdx
  by_cases hl : 1329 < Zbw (Zbb cs)
  · simp only [if_pos hl]; exact ⟨Ze0, fun h => absurd h (by decide), fun _ => ⟨hl, trivial⟩⟩
  · simp only [if_neg hl]
    obtain ⟨⟨g1, g2⟩, g3⟩ := levelC_in (Zbb cs)
    have hin := g3 (by omega)
    revert hin
    generalize hv : Zbw (Zbb cs) = v at *
    intro hin
    obtain ⟨n, rfl⟩ : ∃ n : Nat, v = (n : Int) := ⟨v.toNat, by omega⟩
    have L := Zl5 n (x := -(hf n)) (y := -(hf n)) (o := []) (by omega) (by omega) (lastL_stB hb) Zmg
    rw [show ((n : Int)).toNat = n from by omega]
    revert L
    generalize Zcn n (-(hf n)) (-(hf n)) (Zbb cs) [] = r
    intro L
    rw [Zit L.ok L.num.r.1 L.num.r.2]
    have hw : wf (n : Int) (tr r.1 r.2) := Zil L.ok r.2 L.num.r.1 L.num.r.2 _ (fun h0 => (L.num.lv h0).symm)
    refine ⟨can_of hw, fun _ => ⟨by omega, fun X Y => ?_⟩, fun h => absurd rfl h⟩
    obtain ⟨s1, s2, s3⟩ := Zk7 cs
    rw [Zkh hw, ← s3]
    unfold mid
    by_cases hr : (0 ≤ X + hf n ∧ X + hf n < 2 * hf n) ∧ 0 ≤ Y + hf n ∧ Y + hf n < 2 * hf n
    · rw [L.cel _ _ hr.1 hr.2]; congr 1 <;> omega
    · rw [Zb4 _ hw (by omega)]
      exact (stA_out fun c hc e => by
        have := hin c hc
        unfold inC at this; rw [decide_eq_true_eq] at this
        omega).symm
end Go.Gw
namespace Go.Gw
open Go.RowKit
structure Least (P : Int → Prop) (o : Option Int) : Prop where
  le : ∀ x, P x → ∃ e, o = some e ∧ e ≤ x
  hit : ∀ e, o = some e → P e
structure Most (P : Int → Prop) (o : Option Int) : Prop where
  ge : ∀ x, P x → ∃ e, o = some e ∧ x + 1 ≤ e
  hit : ∀ e, o = some e → P (e - 1)
structure Around (g : Int → Int → Int) (b : Bx) : Prop where
  rng : ∀ X Y : Int, g X Y ≠ 0 → (b.x ≤ X ∧ X < b.x + b.w) ∧ b.y ≤ Y ∧ Y < b.y + b.h
  west : ∃ Y, g b.x Y ≠ 0
  east : ∃ Y, g (b.x + b.w - 1) Y ≠ 0
  north : ∃ X, g X b.y ≠ 0
  south : ∃ X, g X (b.y + b.h - 1) ≠ 0
theorem box_no {q : List Nd} (h : Can q) (hs : (bxs q).some = false) : q = [] := Classical.byContradiction fun hn => by
  rw [rbx_some h.full hn] at hs; cases hs
end Go.Gw
namespace Go.Gw
open Go.RowKit
def kq (v x y : Int) : Int := (if hf v ≤ x then 1 else 0) + (if hf v ≤ y then 2 else 0)
def Zbn (v x : Int) : Int := if hf v ≤ x then x - hf v else x
theorem Zij (v x y : Int) : 0 ≤ kq v x y ∧ kq v x y < 4 := by unfold kq; split <;> split <;> omega
theorem rest_rng {v x : Int} (h2 : 2 ≤ v) (h : 0 ≤ x ∧ x < 2 * hf v) : 0 ≤ Zbn v x ∧ Zbn v x < 2 * hf (v - 1) := by
  have := Zej h2
  unfold Zbn; split <;> omega
theorem get_nd {l : List Nd} (hl : Zah l = true) {n x y : Int} (h0 : 1 ≤ n) (h1 : n ≤ l.length) (hv : (ix l (n - 1)).lv ≠ 1) :
    cat (tr l n) x y = cat (tr l ((ix l (n - 1)).kid (kq (ix l (n - 1)).lv x y))) (Zbn (ix l (n - 1)).lv x) (Zbn (ix l (n - 1)).lv y) := by
  rw [Zfq hl h0 h1 hv]
  unfold kq Zbn
  by_cases hx : x < hf (ix l (n - 1)).lv
  · by_cases hy : y < hf (ix l (n - 1)).lv
    · rw [cat_a hx hy, if_neg (by omega), if_neg (by omega), if_neg (by omega), if_neg (by omega)]; rfl
    · rw [cat_c hx (by omega), if_neg (by omega), if_pos (by omega), if_neg (by omega), if_pos (by omega)]; rfl
  · by_cases hy : y < hf (ix l (n - 1)).lv
    · rw [cat_b (by omega) hy, if_pos (by omega), if_neg (by omega), if_pos (by omega), if_neg (by omega)]; rfl
    · rw [cat_d (by omega) (by omega), if_pos (by omega), if_pos (by omega), if_pos (by omega), if_pos (by omega)]; rfl
theorem get_leaf {l : List Nd} (hl : Zah l = true) {n x y : Int} (h0 : 1 ≤ n) (h1 : n ≤ l.length) (hv : (ix l (n - 1)).lv = 1) (hx : 0 ≤ x ∧ x < 2) (hy : 0 ≤ y ∧ y < 2) :
    cat (tr l n) x y = (ix l (n - 1)).kid (kq 1 x y) := by
  rw [Zei hl h0 h1 hv]
  unfold kq
  rw [Zhy]
  have q1 : x = 0 ∨ x = 1 := by omega
  have q2 : y = 0 ∨ y = 1 := by omega
  rcases q1 with rfl | rfl <;> rcases q2 with rfl | rfl <;> simp [cat, Nd.kid, Zao]
theorem mod_two (a h : Int) (p : 0 ≤ h) : a % (2 * h) = a % h + h * (a / h % 2) := by
  rw [Int.mul_comm 2, Int.emod_def, Int.emod_def a h, Int.emod_def (a / h) 2, ← Int.ediv_ediv_of_nonneg p, Int.mul_sub, Int.mul_assoc]; omega
theorem nd_eta {x : Nd} {v : Int} (h : x.lv = v) : (⟨v, x.kid 0, x.kid 1, x.kid 2, x.kid 3⟩ : Nd) = x := by subst h; rfl
theorem bit_half {a v : Int} (h : 1 ≤ v) (ha : 0 ≤ a) : Zeu a (v - 1) = decide (hf v ≤ a % (2 * hf v)) := by
  have p := Zcv v
  have e : a % (2 * hf v) = a % hf v + hf v * (a / hf v % 2) := mod_two a _ (by omega)
  have h1 := Int.emod_nonneg a (show hf v ≠ 0 by omega)
  have h2 := Int.emod_lt_of_pos a p
  unfold Zeu
  rw [decide_eq_true (show 0 ≤ v - 1 by omega), Bool.true_and]
  refine decide_eq_decide.2 ?_
  rw [show (2 : Int) ^ (v - 1).toNat = hf v from rfl, e]
  have h3 : a / hf v % 2 = 0 ∨ a / hf v % 2 = 1 := by omega
  rcases h3 with h3 | h3 <;> rw [h3] <;> simp <;> omega
theorem Zkr {a v : Int} (h : 2 ≤ v) : Zbn v (a % (2 * hf v)) = a % (2 * hf (v - 1)) := by
  have p := Zcv v
  have e : a % (2 * hf v) = a % hf v + hf v * (a / hf v % 2) := mod_two a _ (by omega)
  have h1 := Int.emod_nonneg a (show hf v ≠ 0 by omega)
  have h2 := Int.emod_lt_of_pos a p
  rw [Zej h]
  unfold Zbn
  have h3 : a / hf v % 2 = 0 ∨ a / hf v % 2 = 1 := by omega
  rcases h3 with h3 | h3 <;> rw [h3] at e <;> rw [e] <;> split <;> omega
theorem mod_rng {a v : Int} : 0 ≤ a % (2 * hf v) ∧ a % (2 * hf v) < 2 * hf v := by
  have p := Zcv v
  exact ⟨Int.emod_nonneg a (by omega), Int.emod_lt_of_pos a (by omega)⟩
theorem Zi8 {a v : Int} (h : 0 ≤ a ∧ a < 2 * hf v) : a % (2 * hf v) = a := Int.emod_eq_of_lt h.1 h.2
theorem len_in {n v : Int} (h : 1 ≤ v) (hn : 0 ≤ n) : Zd4 n ≤ v ↔ n < 2 * hf v := by
  have e : 2 * hf v = 2 ^ v.toNat := by unfold hf; rw [show v.toNat = (v - 1).toNat + 1 by omega, Int.pow_succ]; omega
  rw [e]
  by_cases h0 : n = 0
  · subst h0; rw [Zhb (Int.le_refl _)]
    exact ⟨fun _ => Za2 _, fun _ => by omega⟩
  · obtain ⟨k, hk, h1, h2⟩ := Zhp (show 0 < n by omega)
    rw [hk]
    constructor
    · intro hle
      have m : (2 : Int) ^ (k + 1) ≤ 2 ^ v.toNat := by
        have e2 : (2 : Int) ^ v.toNat = 2 ^ (k + 1) * 2 ^ (v.toNat - (k + 1)) := by rw [← Int.pow_add]; congr 1; omega
        have := Int.mul_le_mul_of_nonneg_left (show 1 ≤ (2 : Int) ^ (v.toNat - (k + 1)) by have := Za2 (v.toNat - (k + 1)); omega) (Int.le_of_lt (Za2 (k + 1)))
        omega
      omega
    · intro hlt
      refine Classical.byContradiction fun hc => ?_
      have m : (2 : Int) ^ v.toNat ≤ 2 ^ k := by
        have e2 : (2 : Int) ^ k = 2 ^ v.toNat * 2 ^ (k - v.toNat) := by rw [← Int.pow_add]; congr 1; omega
        have := Int.mul_le_mul_of_nonneg_left (show 1 ≤ (2 : Int) ^ (k - v.toNat) by have := Za2 (k - v.toNat); omega) (Int.le_of_lt (Za2 v.toNat))
        omega
      omega
def Nd.setK (x : Nd) (k c : Int) : Nd := ⟨x.lv, if k = 0 then c else x.k0, if k = 1 then c else x.k1, if k = 2 then c else x.k2, if k = 3 then c else x.k3⟩
def Zq (l : List Nd) (n v : Int) : Nd := if 0 < n then ix l (n - 1) else ⟨v, 0, 0, 0, 0⟩
def Zcr : Nat → List Nd → Int → Int → Int → Int → List Nd × Int
  | 0, l, n, _, _, _ => (l, n)
  | v + 1, l, n, x, y, s =>
    let k := kq ((v : Int) + 1) x y
    let r : List Nd × Int := if v = 0 then (l, s) else Zcr v l ((Zq l n ((v : Int) + 1)).kid k) (Zbn ((v : Int) + 1) x) (Zbn ((v : Int) + 1) y) s
    (r.1 ++ [(Zq l n ((v : Int) + 1)).setK k r.2], (r.1.length : Int) + 1)
theorem put_leaf {l : List Nd} {n x y s : Int} : Zcr 1 l n x y s = (l ++ [(Zq l n 1).setK (kq 1 x y) s], (l.length : Int) + 1) := rfl
theorem put_nd {v : Nat} {l : List Nd} {n x y s : Int} (h : v ≠ 0) : Zcr (v + 1) l n x y s = ((Zcr v l ((Zq l n ((v : Int) + 1)).kid (kq ((v : Int) + 1) x y)) (Zbn ((v : Int) + 1) x) (Zbn ((v : Int) + 1) y) s).1 ++ [(Zq l n ((v : Int) + 1)).setK (kq ((v : Int) + 1) x y) (Zcr v l ((Zq l n ((v : Int) + 1)).kid (kq ((v : Int) + 1) x y)) (Zbn ((v : Int) + 1) x) (Zbn ((v : Int) + 1) y) s).2],
    ((Zcr v l ((Zq l n ((v : Int) + 1)).kid (kq ((v : Int) + 1) x y)) (Zbn ((v : Int) + 1) x) (Zbn ((v : Int) + 1) y) s).1.length : Int) + 1) := by
  simp only [Zcr, if_neg h]
theorem put_len : ∀ (v : Nat) (l : List Nd) (n x y s : Int), (Zcr v l n x y s).1.length = l.length + v
  | 0, _, _, _, _, _ => rfl
  | v + 1, l, n, x, y, s => by
    by_cases h : v = 0
    · subst h; rw [put_leaf]; simp
    · rw [put_nd h]; simp only [List.length_append, List.length_singleton]; rw [put_len v]; omega
theorem here_lv {l : List Nd} {n v : Int} (h : NumIn l n v) : (Zq l n v).lv = v := by
  unfold Zq
  split
  · exact h.lv (by omega)
  · rfl
theorem here_kid {l : List Nd} (hl : Zah l = true) {n v k : Int} (h : NumIn l n v) (hv : v ≠ 1) (k0 : 0 ≤ k) (k1 : k < 4) : NumIn l ((Zq l n v).kid k) (v - 1) := by
  unfold Zq
  split
  · rename_i hn
    have e := h.lv (by omega)
    have r := Zdg hl (i := n - 1) (by omega) (by have := h.r; omega) (by omega) k k0 k1
    refine ⟨⟨r.1, by have := h.r; omega⟩, fun hc => ?_⟩
    have := Zdl hl (i := n - 1) (by omega) (by have := h.r; omega) k0 k1 (by omega) hc
    omega
  · have : (⟨v, 0, 0, 0, 0⟩ : Nd).kid k = 0 := by unfold Nd.kid Zao; simp
    rw [this]; exact NumIn.zero _ _
theorem here_st {l : List Nd} (hl : Zah l = true) {n k : Int} (h : NumIn l n 1) (k0 : 0 ≤ k) (k1 : k < 4) : 0 ≤ (Zq l n 1).kid k ∧ (Zq l n 1).kid k ≤ 255 := by
  unfold Zq
  split
  · rename_i hn
    have e := h.lv (by omega)
    have q := ((Zcd l (n - 1)).1 ((Zcx l).1 hl (n - 1) (by omega) (by have := h.r; omega))).2 k k0 k1
    unfold Zf3 at q
    rw [if_pos e, Bool.or_eq_true, decide_eq_true_eq, beq_iff_eq] at q
    omega
  · have : (⟨1, 0, 0, 0, 0⟩ : Nd).kid k = 0 := by unfold Nd.kid Zao; simp
    rw [this]; omega
theorem Zem (x : Nd) (k c j : Int) (j0 : 0 ≤ j) (j1 : j < 4) : (x.setK k c).kid j = if j = k then c else x.kid j := by
  have : j = 0 ∨ j = 1 ∨ j = 2 ∨ j = 3 := by omega
  rcases this with rfl | rfl | rfl | rfl <;> simp [Nd.setK, Nd.kid, Zao, eq_comm]
structure PutOk (v : Int) (l : List Nd) (n x y s : Int) (r : List Nd × Int) : Prop where
  pre : l <+: r.1
  ok : Zah r.1 = true
  num : NumIn r.1 r.2 v
  cel : ∀ X Y : Int, cat (tr r.1 r.2) X Y = if X = x ∧ Y = y then s else cat (tr l n) X Y
theorem here_tr {l : List Nd} (hl : Zah l = true) {n v X Y : Int} (hv : 1 ≤ v) (h : NumIn l n v) : cat (tr l n) X Y = if v = 1 then cat (.leaf ((Zq l n v).kid 0) ((Zq l n v).kid 1) ((Zq l n v).kid 2) ((Zq l n v).kid 3)) X Y else cat (.nd v (tr l ((Zq l n v).kid 0)) (tr l ((Zq l n v).kid 1)) (tr l ((Zq l n v).kid 2)) (tr l ((Zq l n v).kid 3))) X Y := by
  unfold Zq
  by_cases hn : 0 < n
  · rw [if_pos hn]
    have e := h.lv (by omega)
    rw [tr_at hl (by omega) h.r.2, e]
    split <;> rfl
  · rw [if_neg hn, show n = 0 by have := h.r; omega, Zdf]
    split
    · simp [cat, Nd.kid, Zao]
    · simp [cat, Nd.kid, Zao, Zdf]
theorem put_ok : ∀ (v : Nat) {l : List Nd} {n x y s : Int}, 1 ≤ v → v ≤ 1329 → Zah l = true → NumIn l n v → (0 ≤ s ∧ s ≤ 255) → (0 ≤ x ∧ x < 2 * hf v) → (0 ≤ y ∧ y < 2 * hf v) → PutOk v l n x y s (Zcr v l n x y s)
  | 0, _, _, _, _, _, h, _, _, _, _, _, _ => by omega
  | v + 1, l, n, x, y, s, _, hv, hl, hn, hs, hx, hy => by
    by_cases h0 : v = 0
    · subst h0
      have hn : NumIn l n 1 := hn
      rw [show ((0 + 1 : Nat) : Int) = 1 from rfl, Zhy] at hx hy
      rw [put_leaf]
      have hst := fun k k0 k1 => here_st hl (k := k) hn k0 k1
      have hk := Zij 1 x y
      have hset : ∀ j, 0 ≤ j → j < 4 → 0 ≤ ((Zq l n 1).setK (kq 1 x y) s).kid j ∧ ((Zq l n 1).setK (kq 1 x y) s).kid j ≤ 255 := fun j j0 j1 => by
        rw [Zem _ _ _ _ j0 j1]; split
        · exact hs
        · exact hst j j0 j1
      have elv : ((Zq l n 1).setK (kq 1 x y) s).lv = 1 := here_lv hn
      obtain ⟨l1, l2⟩ := Zld hl (hset 0 (by decide) (by decide)) (hset 1 (by decide) (by decide)) (hset 2 (by decide) (by decide)) (hset 3 (by decide) (by decide))
      have eN : (⟨1, ((Zq l n 1).setK (kq 1 x y) s).kid 0, ((Zq l n 1).setK (kq 1 x y) s).kid 1, ((Zq l n 1).setK (kq 1 x y) s).kid 2, ((Zq l n 1).setK (kq 1 x y) s).kid 3⟩ : Nd) = (Zq l n 1).setK (kq 1 x y) s := nd_eta elv
      rw [eN] at l1 l2
      refine ⟨List.prefix_append _ _, l1, by have := Zhq l ((Zq l n 1).setK (kq 1 x y) s); rwa [elv] at this, fun X Y => ?_⟩
      show cat (tr (l ++ [(Zq l n 1).setK (kq 1 x y) s]) ((l.length : Int) + 1)) X Y = _
      rw [l2, here_tr hl (by decide) hn, if_pos (show (1 : Int) = 1 from rfl)]
      simp only [Zem _ _ _ 0 (by decide) (by decide), Zem _ _ _ 1 (by decide) (by decide), Zem _ _ _ 2 (by decide) (by decide), Zem _ _ _ 3 (by decide) (by decide)]
      have hx' : x = 0 ∨ x = 1 := by omega
      have hy' : y = 0 ∨ y = 1 := by omega
      have ek : kq 1 x y = x + 2 * y := by unfold kq; rw [Zhy]; split <;> split <;> omega
      rw [ek]
      simp only [cat]
      rcases hx' with rfl | rfl <;> rcases hy' with rfl | rfl <;> by_cases a : X = 0 <;> by_cases b : X = 1 <;> by_cases c : Y = 0 <;> by_cases d : Y = 1 <;> simp [a, b, c, d] <;> omega
    · rw [put_nd h0]
      have hv2 : (2 : Int) ≤ ((v + 1 : Nat) : Int) := by omega
      have evv : (((v + 1 : Nat) : Int)) = (v : Int) + 1 := by omega
      rw [evv] at hn hx hy hv2 ⊢
      have hk := Zij ((v : Int) + 1) x y
      have hkid := fun k k0 k1 => here_kid hl (k := k) hn (by omega) k0 k1
      rw [show (v : Int) + 1 - 1 = v by omega] at hkid
      have rx := rest_rng hv2 hx; have ry := rest_rng hv2 hy
      rw [show (v : Int) + 1 - 1 = v by omega] at rx ry
      have P := put_ok v (by omega) (by omega) hl (hkid _ hk.1 hk.2) hs rx ry
      revert P
      generalize Zcr v l ((Zq l n ((v : Int) + 1)).kid (kq ((v : Int) + 1) x y)) (Zbn ((v : Int) + 1) x) (Zbn ((v : Int) + 1) y) s = r
      intro P
      have hset : ∀ j, 0 ≤ j → j < 4 → NumIn r.1 (((Zq l n ((v : Int) + 1)).setK (kq ((v : Int) + 1) x y) r.2).kid j) v := fun j j0 j1 => by
        rw [Zem _ _ _ _ j0 j1]; split
        · exact P.num
        · exact (hkid j j0 j1).pre P.pre
      have elv : ((Zq l n ((v : Int) + 1)).setK (kq ((v : Int) + 1) x y) r.2).lv = (v : Int) + 1 := here_lv hn
      have ev : ((v : Int) + 1 - 1) = v := by omega
      obtain ⟨l1, l2⟩ := Zi5 (v := (v : Int) + 1) P.ok (by omega) (by rw [ev]; exact hset 0 (by decide) (by decide)) (by rw [ev]; exact hset 1 (by decide) (by decide)) (by rw [ev]; exact hset 2 (by decide) (by decide)) (by rw [ev]; exact hset 3 (by decide) (by decide))
      have eN : (⟨(v : Int) + 1, ((Zq l n ((v : Int) + 1)).setK (kq ((v : Int) + 1) x y) r.2).kid 0, ((Zq l n ((v : Int) + 1)).setK (kq ((v : Int) + 1) x y) r.2).kid 1, ((Zq l n ((v : Int) + 1)).setK (kq ((v : Int) + 1) x y) r.2).kid 2, ((Zq l n ((v : Int) + 1)).setK (kq ((v : Int) + 1) x y) r.2).kid 3⟩ : Nd) = (Zq l n ((v : Int) + 1)).setK (kq ((v : Int) + 1) x y) r.2 := nd_eta elv
      rw [eN] at l1 l2
      refine ⟨P.pre.trans (List.prefix_append _ _), l1, by have := Zhq r.1 ((Zq l n ((v : Int) + 1)).setK (kq ((v : Int) + 1) x y) r.2); rwa [elv] at this, fun X Y => ?_⟩
      show cat (tr (r.1 ++ [(Zq l n ((v : Int) + 1)).setK (kq ((v : Int) + 1) x y) r.2]) ((r.1.length : Int) + 1)) X Y = _
      rw [l2, here_tr hl (by omega) hn, if_neg (show ¬ (v : Int) + 1 = 1 by omega)]
      simp only [Zem _ _ _ 0 (by decide) (by decide), Zem _ _ _ 1 (by decide) (by decide), Zem _ _ _ 2 (by decide) (by decide), Zem _ _ _ 3 (by decide) (by decide)]
      have K : ∀ j, 0 ≤ j → j < 4 → tr r.1 ((Zq l n ((v : Int) + 1)).kid j) = tr l ((Zq l n ((v : Int) + 1)).kid j) := fun j j0 j1 => Zgr hl P.ok P.pre _ (hkid j j0 j1).r.1 (hkid j j0 j1).r.2
      have C := P.cel
      have p := Zcv ((v : Int) + 1)
      simp only [cat]
      by_cases qx : hf ((v : Int) + 1) ≤ x <;> by_cases qy : hf ((v : Int) + 1) ≤ y
      · have ek : kq ((v : Int) + 1) x y = 3 := by unfold kq; rw [if_pos qx, if_pos qy]; rfl
        have ex : Zbn ((v : Int) + 1) x = x - hf ((v : Int) + 1) := by unfold Zbn; rw [if_pos qx]
        have ey : Zbn ((v : Int) + 1) y = y - hf ((v : Int) + 1) := by unfold Zbn; rw [if_pos qy]
        rw [ek, ex, ey] at C
        rw [ek]; simp only [if_neg (show ¬ (0 : Int) = 3 by decide), if_neg (show ¬ (1 : Int) = 3 by decide), if_neg (show ¬ (2 : Int) = 3 by decide), if_pos, K 0 (by decide) (by decide), K 1 (by decide) (by decide), K 2 (by decide) (by decide)]
        by_cases hX : X < hf ((v : Int) + 1)
        · rw [if_pos hX, if_pos hX, if_neg (show ¬ (X = x ∧ Y = y) by omega)]
        · by_cases hY : Y < hf ((v : Int) + 1)
          · rw [if_neg hX, if_neg hX, if_pos hY, if_pos hY, if_neg (show ¬ (X = x ∧ Y = y) by omega)]
          · rw [if_neg hX, if_neg hX, if_neg hY, if_neg hY, C]
            by_cases hE : X = x ∧ Y = y
            · rw [if_pos hE, if_pos (by omega)]
            · rw [if_neg hE, if_neg (by omega)]
      · have ek : kq ((v : Int) + 1) x y = 1 := by unfold kq; rw [if_pos qx, if_neg qy]; rfl
        have ex : Zbn ((v : Int) + 1) x = x - hf ((v : Int) + 1) := by unfold Zbn; rw [if_pos qx]
        have ey : Zbn ((v : Int) + 1) y = y := by unfold Zbn; rw [if_neg qy]
        rw [ek, ex, ey] at C
        rw [ek]; simp only [if_neg (show ¬ (0 : Int) = 1 by decide), if_neg (show ¬ (2 : Int) = 1 by decide), if_neg (show ¬ (3 : Int) = 1 by decide), if_pos, K 0 (by decide) (by decide), K 2 (by decide) (by decide), K 3 (by decide) (by decide)]
        by_cases hX : X < hf ((v : Int) + 1)
        · rw [if_pos hX, if_pos hX, if_neg (show ¬ (X = x ∧ Y = y) by omega)]
        · by_cases hY : Y < hf ((v : Int) + 1)
          · rw [if_neg hX, if_neg hX, if_pos hY, if_pos hY, C]
            by_cases hE : X = x ∧ Y = y
            · rw [if_pos hE, if_pos (by omega)]
            · rw [if_neg hE, if_neg (by omega)]
          · rw [if_neg hX, if_neg hX, if_neg hY, if_neg hY, if_neg (show ¬ (X = x ∧ Y = y) by omega)]
      · have ek : kq ((v : Int) + 1) x y = 2 := by unfold kq; rw [if_neg qx, if_pos qy]; rfl
        have ex : Zbn ((v : Int) + 1) x = x := by unfold Zbn; rw [if_neg qx]
        have ey : Zbn ((v : Int) + 1) y = y - hf ((v : Int) + 1) := by unfold Zbn; rw [if_pos qy]
        rw [ek, ex, ey] at C
        rw [ek]; simp only [if_neg (show ¬ (0 : Int) = 2 by decide), if_neg (show ¬ (1 : Int) = 2 by decide), if_neg (show ¬ (3 : Int) = 2 by decide), if_pos, K 0 (by decide) (by decide), K 1 (by decide) (by decide), K 3 (by decide) (by decide)]
        by_cases hX : X < hf ((v : Int) + 1)
        · by_cases hY : Y < hf ((v : Int) + 1)
          · rw [if_pos hX, if_pos hX, if_pos hY, if_pos hY, if_neg (show ¬ (X = x ∧ Y = y) by omega)]
          · rw [if_pos hX, if_pos hX, if_neg hY, if_neg hY, C]
            by_cases hE : X = x ∧ Y = y
            · rw [if_pos hE, if_pos (by omega)]
            · rw [if_neg hE, if_neg (by omega)]
        · rw [if_neg hX, if_neg hX, if_neg (show ¬ (X = x ∧ Y = y) by omega)]
      · have ek : kq ((v : Int) + 1) x y = 0 := by unfold kq; rw [if_neg qx, if_neg qy]; rfl
        have ex : Zbn ((v : Int) + 1) x = x := by unfold Zbn; rw [if_neg qx]
        have ey : Zbn ((v : Int) + 1) y = y := by unfold Zbn; rw [if_neg qy]
        rw [ek, ex, ey] at C
        rw [ek]; simp only [if_neg (show ¬ (1 : Int) = 0 by decide), if_neg (show ¬ (2 : Int) = 0 by decide), if_neg (show ¬ (3 : Int) = 0 by decide), if_pos, K 1 (by decide) (by decide), K 2 (by decide) (by decide), K 3 (by decide) (by decide)]
        by_cases hX : X < hf ((v : Int) + 1)
        · by_cases hY : Y < hf ((v : Int) + 1)
          · rw [if_pos hX, if_pos hX, if_pos hY, if_pos hY, C]
          · rw [if_pos hX, if_pos hX, if_neg hY, if_neg hY, if_neg (show ¬ (X = x ∧ Y = y) by omega)]
        · rw [if_neg hX, if_neg hX, if_neg (show ¬ (X = x ∧ Y = y) by omega)]
end Go.Gw
namespace Go.Gw
open Go.RowKit
def Zf5 (v j c : Int) (t : Tr) : Tr := if c = 0 then .no else if v = 1 then .leaf (if 3 - j = 0 then c else 0) (if 3 - j = 1 then c else 0) (if 3 - j = 2 then c else 0) (if 3 - j = 3 then c else 0)
  else .nd v (if 3 - j = 0 then t else .no) (if 3 - j = 1 then t else .no) (if 3 - j = 2 then t else .no) (if 3 - j = 3 then t else .no)
theorem wrap_hol {v k0 k1 k2 k3 : Int} {a b c d : Tr} (hv : 1 ≤ v) : hol (.nd (v + 1) (Zf5 v 0 k0 a) (Zf5 v 1 k1 b) (Zf5 v 2 k2 c) (Zf5 v 3 k3 d)) = true := by
  unfold Zf5
  by_cases h1 : v = 1 <;> by_cases e0 : k0 = 0 <;> by_cases e1 : k1 = 0 <;> by_cases e2 : k2 = 0 <;> by_cases e3 : k3 = 0 <;> simp [hol, qe, emp, Zao, h1, e0, e1, e2, e3]
theorem wrap_inn {v k0 k1 k2 k3 : Int} {a b c d : Tr} (hv : 1 ≤ v) (ha : k0 = 0 → a = .no) (hb : k1 = 0 → b = .no) (hc : k2 = 0 → c = .no) (hd : k3 = 0 → d = .no) :
    inn (.nd (v + 1) (Zf5 v 0 k0 a) (Zf5 v 1 k1 b) (Zf5 v 2 k2 c) (Zf5 v 3 k3 d)) = if v = 1 then .leaf k0 k1 k2 k3 else .nd v a b c d := by
  unfold Zf5 inn
  by_cases h1 : v = 1
  · subst h1
    simp only [if_pos, show (1 : Int) + 1 = 2 from rfl]
    by_cases e0 : k0 = 0 <;> by_cases e1 : k1 = 0 <;> by_cases e2 : k2 = 0 <;> by_cases e3 : k3 = 0 <;> simp [Tr.s, Zao, e0, e1, e2, e3]
  · simp only [if_neg h1, if_neg (show ¬ v + 1 = 2 by omega), show v + 1 - 1 = v by omega]
    congr 1
    · by_cases e : k0 = 0
      · simp [e, Tr.q, ha e]
      · simp [e, Tr.q]
    · by_cases e : k1 = 0
      · simp [e, Tr.q, hb e]
      · simp [e, Tr.q]
    · by_cases e : k2 = 0
      · simp [e, Tr.q, hc e]
      · simp [e, Tr.q]
    · by_cases e : k3 = 0
      · simp [e, Tr.q, hd e]
      · simp [e, Tr.q]
def comp (s : GrT) (j : Int) : Int := Zao s.2.1 s.2.2.1 s.2.2.2.1 s.2.2.2.2 j
structure GrI (old : Nd) (o : List Nd) (v : Int) (k : Int) (s : GrT) : Prop where
  pre : o <+: s.1
  ok : Zah s.1 = true
  done : ∀ j : Int, 0 ≤ j → j < k → NumIn s.1 (comp s j) v ∧ tr s.1 (comp s j) = Zf5 v j (old.kid j) (tr o (old.kid j))
  zero : ∀ j : Int, k ≤ j → j < 4 → comp s j = 0
theorem y_laid {p : List Nd} {v j c : Int} (hp : Zah p = true) (hv : 1 ≤ v ∧ v ≤ 1329) (j0 : 0 ≤ j) (j1 : j < 4) (hc : c ≠ 0) (h1 : v = 1 → 0 ≤ c ∧ c ≤ 255) (h2 : v ≠ 1 → NumIn p c (v - 1)) :
    Zah (p ++ [yN v j c]) = true ∧ tr (p ++ [yN v j c]) ((p.length : Int) + 1) = Zf5 v j c (tr p c) := by
  have hj : j = 0 ∨ j = 1 ∨ j = 2 ∨ j = 3 := by omega
  by_cases e : v = 1
  · have hs := h1 e
    subst e
    have z : (0 : Int) ≤ 0 ∧ (0 : Int) ≤ 255 := by omega
    unfold yN Zf5
    rw [if_neg hc, if_pos rfl]
    exact Zld hp (by split; exact hs; exact z) (by split; exact hs; exact z) (by split; exact hs; exact z) (by split; exact hs; exact z)
  · have hs := h2 e
    unfold yN Zf5
    rw [if_neg hc, if_neg e]
    obtain ⟨l1, l2⟩ := Zi5 (v := v) (a := if 3 - j = 0 then c else 0) (b := if 3 - j = 1 then c else 0) (c := if 3 - j = 2 then c else 0) (d := if 3 - j = 3 then c else 0) hp (by omega)
      (by split; exact hs; exact NumIn.zero _ _) (by split; exact hs; exact NumIn.zero _ _) (by split; exact hs; exact NumIn.zero _ _) (by split; exact hs; exact NumIn.zero _ _)
    refine ⟨l1, l2.trans ?_⟩
    rcases hj with rfl | rfl | rfl | rfl <;> simp [Zdf]
theorem gr_step {old : Nd} {o : List Nd} {v : Int} {k : Int} {s : GrT} (ho : Zah o = true) (hv : 1 ≤ v ∧ v ≤ 1329) (hlv : old.lv = v) (h : GrI old o v k s) (k0 : 0 ≤ k) (k1 : k < 4)
    (h1 : v = 1 → ∀ j, 0 ≤ j → j < 4 → 0 ≤ old.kid j ∧ old.kid j ≤ 255) (h2 : v ≠ 1 → ∀ j, 0 ≤ j → j < 4 → NumIn o (old.kid j) (v - 1)) : GrI old o v (k + 1) (gr1 old s k) := by
  unfold gr1
  by_cases hc : old.kid k = 0
  · rw [if_pos hc]
    refine ⟨h.pre, h.ok, fun j j0 j1 => ?_, fun j j0 j1 => h.zero j (by omega) j1⟩
    by_cases e : j = k
    · subst e; rw [h.zero j (Int.le_refl _) k1, hc]; exact ⟨NumIn.zero _ _, by rw [Zdf]; simp [Zf5]⟩
    · exact h.done j j0 (by omega)
  · rw [if_neg hc, hlv]
    obtain ⟨l1, l2⟩ := y_laid (p := s.1) (c := old.kid k) h.ok hv k0 k1 hc (fun e => h1 e k k0 k1) (fun e => (h2 e k k0 k1).pre h.pre)
    have elen : (((s.1 ++ [yN v k (old.kid k)]).length : Nat) : Int) = (s.1.length : Int) + 1 := by simp
    rw [elen]
    have hcomp : ∀ j : Int, 0 ≤ j → j < 4 → comp (s.1 ++ [yN v k (old.kid k)], if k = 0 then (s.1.length : Int) + 1 else s.2.1, if k = 1 then (s.1.length : Int) + 1 else s.2.2.1, if k = 2 then (s.1.length : Int) + 1 else s.2.2.2.1, if k = 3 then (s.1.length : Int) + 1 else s.2.2.2.2) j = if j = k then (s.1.length : Int) + 1 else comp s j := fun j j0 j1 => by
      have : j = 0 ∨ j = 1 ∨ j = 2 ∨ j = 3 := by omega
      rcases this with rfl | rfl | rfl | rfl <;> simp [comp, Zao, eq_comm]
    have hy : (yN v k (old.kid k)).lv = v := rfl
    refine ⟨h.pre.trans (List.prefix_append _ _), l1, fun j j0 j1 => ?_, fun j j0 j1 => ?_⟩
    · rw [hcomp j j0 (by omega)]
      by_cases e : j = k
      · subst e
        rw [if_pos rfl]
        refine ⟨by have := Zhq s.1 (yN v j (old.kid j)); rwa [hy] at this, l2.trans ?_⟩
        by_cases e1 : v = 1
        · unfold Zf5; rw [if_neg hc, if_neg hc, if_pos e1, if_pos e1]
        · rw [Zgr ho h.ok h.pre _ (h2 e1 j k0 k1).r.1 (h2 e1 j k0 k1).r.2]
      · rw [if_neg e]
        obtain ⟨d1, d2⟩ := h.done j j0 (by omega)
        refine ⟨d1.pre (List.prefix_append _ _), ?_⟩
        rw [Zgr h.ok l1 (List.prefix_append _ _) _ d1.r.1 d1.r.2, d2]
    · rw [hcomp j (by omega) j1, if_neg (by omega)]
      exact h.zero j (by omega) j1
theorem last_num {o : List Nd} (h : 1 ≤ o.length) : NumIn o o.length (Zl o).lv := ⟨by omega, fun _ => rfl⟩
theorem last_here {o : List Nd} {v : Int} (h : 1 ≤ o.length) : Zq o o.length v = Zl o := by unfold Zq Zl; rw [if_pos (by omega)]
theorem grow_one {o : List Nd} {v : Int} (ho : Zah o = true) (hn : 1 ≤ o.length) (hv : (Zl o).lv = v) (hv2 : v + 1 ≤ 1329) :
    let p := grX (Zl o) (grS (Zl o) o 4)
    o <+: p ∧ Zah p = true ∧ 1 ≤ p.length ∧ (Zl p).lv = v + 1 ∧ ∀ X Y : Int, mid (v + 1) (tr p p.length) X Y = mid v (tr o o.length) X Y := by
  have hv1 : 1 ≤ v := by have := (Zfd ho (i := (o.length : Int) - 1) (by omega) (by omega)).1; unfold Zl at hv; omega
  have hnum := last_num hn
  rw [hv] at hnum
  have h1 : v = 1 → ∀ j, 0 ≤ j → j < 4 → 0 ≤ (Zl o).kid j ∧ (Zl o).kid j ≤ 255 := fun e j j0 j1 => by
    subst e; have := here_st ho hnum j0 j1; rwa [last_here hn] at this
  have h2 : v ≠ 1 → ∀ j, 0 ≤ j → j < 4 → NumIn o ((Zl o).kid j) (v - 1) := fun e j j0 j1 => by
    have := here_kid ho hnum e j0 j1; rwa [last_here hn] at this
  have g0 : GrI (Zl o) o v 0 (grS (Zl o) o 0) := ⟨List.prefix_refl _, ho, fun j a b => by omega, fun j a b => by
    have : j = 0 ∨ j = 1 ∨ j = 2 ∨ j = 3 := by omega
    rcases this with rfl | rfl | rfl | rfl <;> rfl⟩
  have g1 := gr_step ho ⟨hv1, by omega⟩ hv g0 (by decide) (by decide) h1 h2
  have g2 := gr_step ho ⟨hv1, by omega⟩ hv g1 (by decide) (by decide) h1 h2
  have g3 := gr_step ho ⟨hv1, by omega⟩ hv g2 (by decide) (by decide) h1 h2
  have g4 := gr_step ho ⟨hv1, by omega⟩ hv g3 (by decide) (by decide) h1 h2
  have e4 : gr1 (Zl o) (gr1 (Zl o) (gr1 (Zl o) (gr1 (Zl o) (grS (Zl o) o 0) 0) (0 + 1)) (0 + 1 + 1)) (0 + 1 + 1 + 1) = grS (Zl o) o 4 := rfl
  rw [e4] at g4
  intro p
  revert p
  generalize grS (Zl o) o 4 = s at g4
  obtain ⟨pre, ok, done, _⟩ := g4
  obtain ⟨n0, t0⟩ := done 0 (by decide) (by decide)
  obtain ⟨n1, t1⟩ := done 1 (by decide) (by decide)
  obtain ⟨n2, t2⟩ := done 2 (by decide) (by decide)
  obtain ⟨n3, t3⟩ := done 3 (by decide) (by decide)
  have ev : v + 1 - 1 = v := by omega
  obtain ⟨l1, l2⟩ := Zi5 (v := v + 1) ok (by omega) (by rw [ev]; exact n0) (by rw [ev]; exact n1) (by rw [ev]; exact n2) (by rw [ev]; exact n3)
  have e5 : grX (Zl o) s = s.1 ++ [⟨v + 1, comp s 0, comp s 1, comp s 2, comp s 3⟩] := by unfold grX; rw [hv]; rfl
  rw [e5]
  intro p
  have hlen : ((p.length : Nat) : Int) = (s.1.length : Int) + 1 := by simp [p]
  refine ⟨pre.trans (List.prefix_append _ _), l1, by simp [p], by show (Zl p).lv = v + 1; rw [grow_last], fun X Y => ?_⟩
  have hw : wf (v + 1) (tr p p.length) := Zil l1 _ (by omega) (Int.le_refl _) _ fun _ => by
    have := Zhq s.1 (⟨v + 1, comp s 0, comp s 1, comp s 2, comp s 3⟩ : Nd)
    rw [hlen]; exact (this.lv (by omega)).symm
  rw [hlen] at hw ⊢
  rw [l2, t0, t1, t2, t3] at hw ⊢
  have hc := cat_inn hw (wrap_hol hv1)
  have z : ∀ {c : Int}, c = 0 → tr o c = .no := fun e => by rw [e, Zdf]
  unfold mid
  rw [hc, wrap_inn hv1 z z z z, ev]
  have et : tr o o.length = if v = 1 then .leaf ((Zl o).kid 0) ((Zl o).kid 1) ((Zl o).kid 2) ((Zl o).kid 3) else .nd v (tr o ((Zl o).kid 0)) (tr o ((Zl o).kid 1)) (tr o ((Zl o).kid 2)) (tr o ((Zl o).kid 3)) := by
    rw [tr_at ho (by omega) (Int.le_refl _)]
    show (if (Zl o).lv = 1 then _ else _) = _
    rw [hv]
    split
    · rfl
    · show Tr.nd (Zl o).lv _ _ _ _ = _; rw [hv]; rfl
  rw [← et]
  have e2 := Zej (v := v + 1) (by omega)
  rw [ev] at e2
  congr 1 <;> omega
theorem grow_len : ∀ (f : Nat) (o : List Nd), (Zf4 f o).length ≤ o.length + 5 * f
  | 0, o => Nat.le_refl _
  | f + 1, o => by
    have h := grow_len f (grX (Zl o) (grS (Zl o) o 4))
    have st : ∀ (s : GrT) (k : Int), (gr1 (Zl o) s k).1.length ≤ s.1.length + 1 := fun s k => by
      unfold gr1; split
      · omega
      · simp
    have h4 : (grS (Zl o) o 4).1.length ≤ o.length + 4 := by
      have a1 := st (o, 0, 0, 0, 0) (0 : Nat)
      have a2 := st (gr1 (Zl o) (o, 0, 0, 0, 0) (0 : Nat)) (1 : Nat)
      have a3 := st (gr1 (Zl o) (gr1 (Zl o) (o, 0, 0, 0, 0) (0 : Nat)) (1 : Nat)) (2 : Nat)
      have a4 := st (gr1 (Zl o) (gr1 (Zl o) (gr1 (Zl o) (o, 0, 0, 0, 0) (0 : Nat)) (1 : Nat)) (2 : Nat)) (3 : Nat)
      show (gr1 (Zl o) (gr1 (Zl o) (gr1 (Zl o) (gr1 (Zl o) (o, 0, 0, 0, 0) (0 : Nat)) (1 : Nat)) (2 : Nat)) (3 : Nat)).1.length ≤ _
      simp only at a1
      omega
    have h5 : (grX (Zl o) (grS (Zl o) o 4)).length = (grS (Zl o) o 4).1.length + 1 := by unfold grX; simp
    show (Zf4 f (grX (Zl o) (grS (Zl o) o 4))).length ≤ _
    omega
theorem grow_ok : ∀ (f : Nat) {o : List Nd} {v : Int}, Zah o = true → 1 ≤ o.length → (Zl o).lv = v → v + f ≤ 1329 →
    Zah (Zf4 f o) = true ∧ 1 ≤ (Zf4 f o).length ∧ (Zl (Zf4 f o)).lv = v + f ∧ ∀ X Y : Int, mid (v + f) (tr (Zf4 f o) (Zf4 f o).length) X Y = mid v (tr o o.length) X Y
  | 0, o, v, ho, hn, hv, _ => ⟨ho, hn, by show (Zl o).lv = v + 0; omega, fun X Y => by rw [show v + ((0 : Nat) : Int) = v by omega]; rfl⟩
  | f + 1, o, v, ho, hn, hv, hf => by
    obtain ⟨_, a, b, c, d⟩ := grow_one ho hn hv (by omega)
    obtain ⟨a', b', c', d'⟩ := grow_ok f a b c (by omega)
    have e : v + 1 + (f : Int) = v + ((f + 1 : Nat) : Int) := by omega
    rw [e] at c' d'
    exact ⟨a', b', c', fun X Y => (d' X Y).trans (d X Y)⟩
def Zd5 (q : List Nd) (x y : Int) : Int := upL ⟨x, y, 0⟩ 1331 (max (Zaq q) 1)
def Zc5 (q : List Nd) (v : Int) : List Nd := if q = [] then [] else Zf4 (v - (Zl q).lv).toNat q
def putQ (q : List Nd) (x y s v : Int) : List Nd × Int := Zcr v.toNat (Zc5 q v) (Zc5 q v).length (x + hf v) (y + hf v) s
def Zba (q : List Nd) (x y s : Int) : List Nd × Int :=
  if 1329 < Zd5 q x y then (if s = 0 then (q, 0) else ([], 4)) else ofL (putQ q x y s (Zd5 q x y)).1 (putQ q x y s (Zd5 q x y)).2
theorem Zgj {q : List Nd} (h : Can q) : 0 ≤ Zaq q ∧ Zaq q ≤ 1329 := by
  by_cases e : q = []
  · subst e; simp [Zaq]
  · have := Zke h.ok e; omega
theorem Zhu {q : List Nd} (h : Can q) (x y : Int) : (max (Zaq q) 1 ≤ Zd5 q x y ∧ Zd5 q x y ≤ 1330) ∧ (Zd5 q x y ≤ 1329 → inC ⟨x, y, 0⟩ (Zd5 q x y) = true) := by
  have r := Zgj h
  have := upL_ge ⟨x, y, 0⟩ 1331 (max (Zaq q) 1)
  have := upL_le ⟨x, y, 0⟩ 1331 (max (Zaq q) 1) (by omega)
  have := upL_in ⟨x, y, 0⟩ 1331 (max (Zaq q) 1) (by omega)
  unfold Zd5
  refine ⟨by omega, fun h => ?_⟩
  rcases this with h2 | h2
  · omega
  · exact h2
theorem lastN_lv {q : List Nd} (h : q ≠ []) : (Zl q).lv = Zaq q := by
  unfold Zaq Zl; rw [if_neg (fun e => h (List.eq_nil_of_length_eq_zero e))]
theorem grown_sem {q : List Nd} (h : Can q) {v : Int} (hv : Zaq q ≤ v) (hv1 : 1 ≤ v) (hv2 : v ≤ 1329) :
    Zah (Zc5 q v) = true ∧ NumIn (Zc5 q v) (Zc5 q v).length v ∧ (∀ X Y : Int, mid v (tr (Zc5 q v) (Zc5 q v).length) X Y = Zbg q X Y) ∧ (Zc5 q v).length ≤ q.length + 6645 := by
  unfold Zc5
  by_cases e : q = []
  · subst e; rw [if_pos rfl]
    exact ⟨Zmg, NumIn.zero _ _, fun X Y => rfl, by simp⟩
  · rw [if_neg e]
    have hl : 1 ≤ q.length := by have : q.length ≠ 0 := fun h => e (List.eq_nil_of_length_eq_zero h); omega
    have hlv := lastN_lv e
    have h0 := (Zke h.ok e).1
    obtain ⟨a, b, c, d⟩ := grow_ok (v - (Zl q).lv).toNat h.ok hl rfl (by omega)
    have ev : (Zl q).lv + (((v - (Zl q).lv).toNat : Nat) : Int) = v := by omega
    rw [ev] at c d
    have hn := last_num b
    rw [c] at hn
    refine ⟨a, hn, fun X Y => ?_, ?_⟩
    · rw [d, hlv]; rfl
    · have := grow_len (v - (Zl q).lv).toNat q; omega
theorem putQ_sem {q : List Nd} (h : Can q) {x y s v : Int} (hs : 0 ≤ s ∧ s ≤ 255) (hv : Zaq q ≤ v) (hv1 : 1 ≤ v) (hv2 : v ≤ 1329) (hin : inC ⟨x, y, 0⟩ v = true) :
    Zah (putQ q x y s v).1 = true ∧ NumIn (putQ q x y s v).1 (putQ q x y s v).2 v ∧ (∀ X Y : Int, mid v (tr (putQ q x y s v).1 (putQ q x y s v).2) X Y = if X = x ∧ Y = y then s else Zbg q X Y) ∧ (putQ q x y s v).1.length ≤ q.length + 7974 := by
  obtain ⟨a, b, c, d⟩ := grown_sem h hv hv1 hv2
  obtain ⟨n, rfl⟩ : ∃ n : Nat, v = (n : Int) := ⟨v.toNat, by omega⟩
  unfold inC at hin; rw [decide_eq_true_eq] at hin
  have P := put_ok n (l := Zc5 q n) (x := x + hf n) (y := y + hf n) (s := s) (by omega) (by omega) a b hs (by simp only at hin; omega) (by simp only at hin; omega)
  unfold putQ
  rw [show ((n : Int)).toNat = n from by omega]
  refine ⟨P.ok, P.num, fun X Y => ?_, by rw [put_len]; omega⟩
  unfold mid
  rw [P.cel]
  have := c X Y
  unfold mid at this
  rw [this]
  by_cases e : X = x ∧ Y = y
  · rw [if_pos e, if_pos (by omega)]
  · rw [if_neg e, if_neg (by omega)]
theorem Zlb {q : List Nd} (h : Can q) {x y s : Int} (hs : 0 ≤ s ∧ s ≤ 255) (h0 : (Zba q x y s).2 = 0) : Can (Zba q x y s).1 ∧ ∀ X Y : Int, Zbg (Zba q x y s).1 X Y = if X = x ∧ Y = y then s else Zbg q X Y := by
  obtain ⟨⟨r1, r2⟩, r3⟩ := Zhu h x y
  unfold Zba at *
  by_cases hl : 1329 < Zd5 q x y
  · simp only [if_pos hl] at *
    by_cases e : s = 0
    · rw [if_pos e]
      refine ⟨h, fun X Y => ?_⟩
      split
      · rename_i hq
        obtain ⟨rfl, rfl⟩ := hq
        have rl := Zgj h
        rw [e]
        refine celQ_out h fun hin => ?_
        have h1 : inC ⟨X, Y, 0⟩ (max (Zaq q) 1) = true := by
          by_cases hz : Zaq q = 0
          · unfold inC; rw [decide_eq_true_eq]; rw [hz] at hin ⊢
            rw [show hf 0 = hf (max 0 1) from rfl] at hin; exact hin
          · rw [show max (Zaq q) 1 = Zaq q by omega]; unfold inC; rw [decide_eq_true_eq]; exact hin
        have : Zd5 q X Y = max (Zaq q) 1 := by
          unfold Zd5
          show upL _ (1330 + 1) _ = _
          unfold upL; rw [if_neg (by rw [h1]; simp)]
        omega
      · rfl
    · rw [if_neg e] at h0; cases h0
  · simp only [if_neg hl] at *
    obtain ⟨a, b, c, d⟩ := putQ_sem h hs (v := Zd5 q x y) (by omega) (by omega) (by omega) (r3 (by omega))
    rw [Zit a b.r.1 b.r.2] at *
    have hw : wf (Zd5 q x y) (tr (putQ q x y s (Zd5 q x y)).1 (putQ q x y s (Zd5 q x y)).2) := Zil a _ b.r.1 b.r.2 _ (fun h0 => (b.lv h0).symm)
    exact ⟨can_of hw, fun X Y => by rw [Zkh hw, c]⟩
theorem set_no {q : List Nd} (h : Can q) {x y s : Int} (hs : 0 ≤ s ∧ s ≤ 255) (h0 : (Zba q x y s).2 ≠ 0) : Zba q x y s = ([], 4) ∧ s ≠ 0 ∧ 1329 < Zd5 q x y := by
  obtain ⟨⟨r1, r2⟩, r3⟩ := Zhu h x y
  unfold Zba at *
  by_cases hl : 1329 < Zd5 q x y
  · simp only [if_pos hl] at *
    by_cases e : s = 0
    · rw [if_pos e] at h0; exact absurd rfl h0
    · rw [if_neg e]; exact ⟨rfl, e, hl⟩
  · simp only [if_neg hl] at *
    obtain ⟨a, b, c, d⟩ := putQ_sem h hs (v := Zd5 q x y) (by omega) (by omega) (by omega) (r3 (by omega))
    rw [Zit a b.r.1 b.r.2] at h0
    exact absurd rfl h0
theorem set_same {q : List Nd} (h : Can q) {x y s : Int} (hs : 0 ≤ s ∧ s ≤ 255) (e : s = Zbg q x y) : Zba q x y s = (q, 0) := by
  by_cases h0 : (Zba q x y s).2 = 0
  · obtain ⟨a, b⟩ := Zlb h hs h0
    have : (Zba q x y s).1 = q := can_eq a h fun X Y => by
      rw [b]; split
      · rename_i hq; rw [hq.1, hq.2]; exact e
      · rfl
    exact Prod.ext this h0
  · obtain ⟨_, b, c⟩ := set_no h hs h0
    exfalso
    rw [e] at b
    refine b (celQ_out h fun hin => ?_)
    have rl := Zgj h
    have h1 : inC ⟨x, y, 0⟩ (max (Zaq q) 1) = true := by
      by_cases hz : Zaq q = 0
      · unfold inC; rw [decide_eq_true_eq]; rw [hz] at hin ⊢
        rw [show hf 0 = hf (max 0 1) from rfl] at hin; exact hin
      · rw [show max (Zaq q) 1 = Zaq q by omega]; unfold inC; rw [decide_eq_true_eq]; exact hin
    have : Zd5 q x y = max (Zaq q) 1 := by
      unfold Zd5
      show upL _ (1330 + 1) _ = _
      unfold upL; rw [if_neg (by rw [h1]; simp)]
    omega
theorem upL_fits {c : Cl} (h : inC c 1329 = true) : ∀ (n : Nat) (v : Int), v ≤ 1329 → upL c n v ≤ 1329
  | 0, v, hv => hv
  | n + 1, v, hv => by
    unfold upL
    split
    · rename_i hc
      refine upL_fits h n (v + 1) ?_
      by_cases e : v = 1329
      · subst e; rw [h] at hc; exact absurd hc.2 (by decide)
      · omega
    · exact hv
theorem set_fits {q : List Nd} (h : Can q) {x y s : Int} (hs : 0 ≤ s ∧ s ≤ 255) (hin : inC ⟨x, y, 0⟩ 1329 = true) : (Zba q x y s).2 = 0 := by
  refine Classical.byContradiction fun h0 => ?_
  obtain ⟨_, _, c⟩ := set_no h hs h0
  have rl := Zgj h
  have := upL_fits hin 1331 (max (Zaq q) 1) (by omega)
  unfold Zd5 at c; omega
def Zjp (l : List Nd) : Int := l.foldl (fun m n => if n.lv = 1 then max (max (max (max m n.k0) n.k1) n.k2) n.k3 else m) 0
end Go.Gw
namespace Go.Gw
open Go.RowKit
def Zkz (P : Program) (ops : Array Oper) (n : Nat) (D : List Deferred) (ρ0 : Env) (w0 : World) (R : World → World → Prop) (sp : Zb8) (td : Nat) (ψ : Value → World → Prop) : List Oper → List (List Nat) → List Bool → List Bool → Zb8 → Prop
  | o :: os, d :: ds, b :: bs, c :: cs, (_, φ) :: r => (∀ w, R w0 w → Zd1 sp d ρ0 w (fun ρ => Op1 P ops o n D ρ w (fun v w' => φ v w' ∧ R w w' ∧ (b = true → NewV v w) ∧ (c = true → ∃ u, look ρ td = some u ∧ ψ u w')))) ∧ Zkz P ops n D ρ0 w0 R sp td ψ os ds bs cs r
  | _, _, _, _, [] => True
  | _, _, _, _, _ => False
section
variable {P : Program} {l : List Oper} {Q : Exit → Act → World → Prop} {n m : Nat} {D : List Deferred} {ρ0 : Env} {w0 : World} {R : World → World → Prop} {sp : Zb8} {ds : List (List Nat)} {bs cs : List Bool} {td dd : Nat} {ψ : Value → World → Prop}
theorem Zkz.at_ {ops : Array Oper} : ∀ {l' : List Oper} {ds' : List (List Nat)} {bs' cs' : List Bool} {sp' : Zb8}, Zkz P ops n D ρ0 w0 R sp td ψ l' ds' bs' cs' sp' → ∀ {i : Nat} {dst : Option Nat} {φ : Value → World → Prop} {o : Oper}, sp'[i]? = some (dst, φ) → l'[i]? = some o →
    ∀ w, R w0 w → Zd1 sp (ds'.getD i []) ρ0 w (fun ρ => Op1 P ops o n D ρ w (fun v w' => φ v w' ∧ R w w' ∧ (bs'.getD i false = true → NewV v w) ∧ (cs'.getD i false = true → ∃ u, look ρ td = some u ∧ ψ u w'))) := by
  intro l' ds' bs' cs' sp' h
  induction sp' generalizing l' ds' bs' cs' with
  | nil => intro i dst φ o hs; simp at hs
  | cons p r ih =>
    intro i dst φ o hs hl
    obtain ⟨pd, pφ⟩ := p
    match l', ds', bs', cs', h with
    | o' :: os, d :: dd_, b :: bb, c :: cc, h =>
      obtain ⟨h1, h2⟩ := h
      cases i with
      | zero => simp at hs hl; obtain ⟨rfl, rfl⟩ := hs; subst hl; simpa using h1
      | succ i => simp at hs hl; simpa using ih h2 hs hl
structure MidS (l : List Oper) (bs : List Bool) (n : Nat) (D : List Deferred) (ρ0 : Env) (w0 : World) (R : World → World → Prop) (sp : Zb8) (cs : List Bool) (dd : Nat) (ψ : Value → World → Prop) (m N : Nat) (listed : Array Bool) (vals : Nat → Value) (a : Act) (w : World) : Prop where
  fr : Fr n D ρ0 a
  wr : R w0 w
  size : listed.size = N
  tail : ∀ i, m ≤ i → listed.getD i false = false
  cl : ∀ i o j, l[i]? = some o → listed.getD i false = true → Zb0 o j = true → listed.getD j false = true
  fre : ∀ i j, bs.getD i false = true → bs.getD j false = true → i < m → j < m → i ≠ j → listed.getD i false = true → listed.getD j false = true → vals i ≠ vals j
  sto : ∀ i, cs.getD i false = true → i < m → listed.getD i false = true → listed.getD dd false = true ∧ ψ (vals dd) w
  got : ∀ i dst φ, sp[i]? = some (dst, φ) → listed.getD i false = true → φ (vals i) w ∧ ∀ d, dst = some d → a.tmps[d]? = some (vals i)
theorem Zj0 {listed : Array Bool} {vals : Nat → Value} {a : Act} {w : World} {N : Nat} (hM : MidS l bs n D ρ0 w0 R sp cs dd ψ m N listed vals a w) : ∀ (d : List Nat) (ρ : Env) (K : Env → Prop), Fr n D ρ a → (∀ j ∈ d, listed.getD j false = true) →
    Zd1 sp d ρ w K → ∃ ρ', Fr n D ρ' a ∧ K ρ'
  | [], ρ, K, hF, _, h => ⟨ρ, hF, h⟩
  | j :: r, ρ, K, hF, hl, h => by
    unfold Zd1 at h
    split at h
    · rename_i d φ hs
      obtain ⟨h1, h2⟩ := hM.got j _ _ hs (hl j (by simp))
      refine Zj0 hM r _ K ⟨hF.defers, hF.size, fun t v hlk => ?_⟩ (fun i hi => hl i (by simp [hi])) (h _ h1)
      rw [Zb7] at hlk
      split at hlk
      · rename_i e; subst e; cases hlk; exact h2 _ rfl
      · exact hF.slot _ _ hlk
    · exact Zj0 hM r _ K hF (fun i hi => hl i (by simp [hi])) h
theorem mid_anyS {keys : List Nat} (hF : DrawFactsT l m n keys sp ds) (hkeys : ∀ t v, look ρ0 t = some v → t ∈ keys) (hRt : ∀ a b c, R a b → R b c → R a c) (hst : Zho R sp) (hold : Zig sp bs) {φd : Value → World → Prop} (hsd : sp[dd]? = some (some td, φd)) (hdep : ∀ i, cs.getD i false = true → i < m → dd ∈ ds.getD i []) (hψ : ∀ v a b, ψ v a → R a b → ψ v b) (hex : ∃ i, cs.getD i false = true ∧ i < m) (hobs : Zkz P l.toArray n D ρ0 w0 R sp td ψ l ds bs cs sp)
    (hend : ∀ w, R w0 w → Zhi sp bs [] ρ0 w (fun ρ => (∀ u, look ρ td = some u → ψ u w) → Reg P l.toArray Q (l.drop m) n D ρ w)) :
    ∀ (fuel : Nat) (listed : Array Bool) (vals : Nat → Value) (a : Act) (w : World), MidS l bs n D ρ0 w0 R sp cs dd ψ m l.length listed vals a w → cnt l.length listed ≤ fuel → wpAny P .any l.toArray Q fuel listed a w := by
  have hfin : ∀ (fuel : Nat) (listed : Array Bool) (vals : Nat → Value) (a : Act) (w : World), MidS l bs n D ρ0 w0 R sp cs dd ψ m l.length listed vals a w → (∀ i, i < m → listed.getD i false = true) → l.length - m ≤ fuel → wpAny P .any l.toArray Q fuel listed a w := by
    intro fuel listed vals a w hM hall hf
    obtain ⟨ρ', hFr, hReg⟩ := Zgm (w := w) vals sp bs 0 [] ρ0 _ hM.fr (fun i dst φ hs => by
      have hi : i < m := by rw [← hF.spl]; exact (List.getElem?_eq_some_iff.1 hs).1
      rw [Nat.zero_add]; exact hM.got i dst φ hs (hall i hi)) (fun _ _ _ _ h => by cases h) (fun i j h1 h2 h3 h4 h5 => by
      rw [hF.spl] at h3 h4
      rw [Nat.zero_add, Nat.zero_add]; exact hM.fre i j h1 h2 h3 h4 h5 (hall i h3) (hall j h4)) (hend w hM.wr)
    exact Zli hF fuel m listed a w (Nat.le_refl _) hF.le hf hM.size hall hM.tail (hReg (fun u hu => by
      obtain ⟨i, hi, him⟩ := hex
      obtain ⟨h1, h2⟩ := hM.sto i hi him (hall i him)
      have h3 := hFr.slot _ _ hu
      have h4 := (hM.got dd _ _ hsd h1).2 _ rfl
      rw [h3] at h4; injection h4 with h4; rw [h4]; exact h2) a hFr)
  have hcnt : ∀ listed : Array Bool, (∀ i, m ≤ i → listed.getD i false = false) → ∀ k, m ≤ k → k - m ≤ cnt k listed := by
    intro listed ht k
    induction k with
    | zero => intro _; omega
    | succ k ih =>
      intro hk
      unfold cnt
      rcases Nat.lt_or_ge k m with h | h
      · omega
      · rw [ht k h]; have := ih h; simp; omega
  intro fuel
  induction fuel with
  | zero =>
    intro listed vals a w hM hc
    have h0 : cnt l.length listed = 0 := by omega
    have hall := Zfv listed _ h0
    refine hfin 0 listed vals a w hM (fun i hi => hall i (by have := hF.le; omega)) ?_
    have := hcnt listed hM.tail l.length hF.le
    omega
  | succ fuel ih =>
    intro listed vals a w hM hc
    by_cases hall : ∀ i, i < m → listed.getD i false = true
    · refine hfin _ listed vals a w hM hall ?_
      have := hcnt listed hM.tail l.length hF.le
      omega
    · 
      refine ⟨fun h0 => absurd ?_ hall, fun i hi => ?_⟩
      · 
        intro i hi
        induction i using Nat.strongRecOn with
        | _ i ihh =>
          by_cases hb : listed.getD i false = true
          · exact hb
          · exfalso
            have hil : i < l.length := by have := hF.le; omega
            have hr : i ∈ Region.ready .any l.toArray listed := by
              refine (Zbp (by simpa using hM.size)).2 ⟨l[i], by simp [hil], by simpa using hb, ?_⟩
              rw [Array.all_eq_true]
              intro j hj
              by_cases hbd : Region.binds .any l[i].after[j] = true
              · have := hF.before i _ (List.getElem?_eq_getElem hil) _ (Array.getElem_mem hj) hbd
                rw [ihh _ this (by omega)]; simp
              · simp [hbd]
            rw [h0] at hr; simp at hr
      · obtain ⟨o, ho, hfi, hal⟩ := (Zbp (by simpa using hM.size)).1 hi
        have ho' : l[i]? = some o := by simpa using ho
        have hil : i < l.length := (List.getElem?_eq_some_iff.1 ho').1
        have him : i < m := by
          rcases Nat.lt_or_ge i m with h | h
          · exact h
          · exact absurd (fun j hj => Zgb hM.cl 8 o j (fun k hk => Zas hk hal) ((hF.tail i o h ho').2 j hj)) hall
        have hsp : ∃ dst φ, sp[i]? = some (dst, φ) := by
          have : i < sp.length := by rw [hF.spl]; exact him
          exact ⟨_, _, List.getElem?_eq_getElem this⟩
        obtain ⟨dst, φ, hs⟩ := hsp
        have hdst := hF.dst i o dst φ ho' hs
        subst hdst
        have hsz : i < listed.size := by rw [hM.size]; exact hil
        obtain ⟨ρ', hFr, hOp⟩ := Zj0 hM (ds.getD i []) ρ0 _ hM.fr (fun j hj => Zas (hF.deps i o him ho' j hj).2 hal) (hobs.at_ hs ho' w hM.wr)
        have hnew : ∀ (v : Value) (w' : World), φ v w' → R w w' → (bs.getD i false = true → NewV v w) → (cs.getD i false = true → ∃ u, look ρ' td = some u ∧ ψ u w') → MidS l bs n D ρ0 w0 R sp cs dd ψ m l.length (listed.setIfInBounds i true) (fun j => if j = i then v else vals j) (a.put o.dst v) w' := by
          intro v w' hv hR hN hC
          have hput : ∀ t, (∀ d, o.dst = some d → t ≠ d) → (a.put o.dst v).tmps[t]? = a.tmps[t]? := by
            intro t ht
            cases hd : o.dst with
            | none => rfl
            | some d => simp only [Act.put, Array.getElem?_setIfInBounds]; rw [if_neg (fun e => ht d hd e.symm)]
          have hputd : ∀ d, o.dst = some d → (a.put o.dst v).tmps[d]? = some v := by
            intro d hd
            have := (hF.ok i o d him ho' hd).1
            rw [hd]
            simp [Act.put, hM.fr.size, this]
          refine ⟨⟨?_, ?_, ?_⟩, hRt _ _ _ hM.wr hR, by simpa using hM.size, ?_, ?_, ?_, ?_, ?_⟩
          · rw [← hM.fr.defers]; cases o.dst <;> rfl
          · rw [← hM.fr.size]; cases o.dst <;> simp [Act.put]
          · intro t u hl
            rw [hput t (fun d hd e => (hF.ok i o d him ho' hd).2 (by rw [← e]; exact hkeys t u hl))]
            exact hM.fr.slot t u hl
          · intro j hj
            rw [Za3 _ _ _ hsz, if_neg (by omega)]; exact hM.tail j hj
          · intro j oj j' hoj hl he
            rw [Za3 _ _ _ hsz] at hl ⊢
            by_cases e : i = j'
            · rw [if_pos e]
            · rw [if_neg e]
              by_cases e2 : i = j
              · subst e2; rw [ho'] at hoj; injection hoj with hoj; subst hoj; exact Zas he hal
              · rw [if_neg e2] at hl; exact hM.cl j oj j' hoj hl he
          · intro i' j' b1 b2 h1 h2 hne l1 l2
            rw [Za3 _ _ _ hsz] at l1 l2
            have hgot : ∀ k, bs.getD k false = true → k < m → k ≠ i → listed.getD k false = true → OldV (vals k) w := by
              intro k hk hkm hki hl
              have hks : k < sp.length := by rw [hF.spl]; exact hkm
              have hsk : sp[k]? = some ((sp[k]).1, (sp[k]).2) := List.getElem?_eq_getElem hks
              exact hold.at_ hsk hk _ _ (hM.got k _ _ hsk hl).1
            by_cases e1 : i' = i
            · by_cases e2 : j' = i
              · exact absurd (e1.trans e2.symm) hne
              · rw [if_neg (fun e => e2 e.symm)] at l2
                rw [if_pos e1, if_neg e2]
                exact fun e => Zh5 (hN (e1 ▸ b1)) (hgot j' b2 h2 e2 l2) e.symm
            · rw [if_neg (fun e => e1 e.symm)] at l1
              by_cases e2 : j' = i
              · rw [if_neg e1, if_pos e2]
                exact Zh5 (hN (e2 ▸ b2)) (hgot i' b1 h1 e1 l1)
              · rw [if_neg (fun e => e2 e.symm)] at l2
                rw [if_neg e1, if_neg e2]
                exact hM.fre i' j' b1 b2 h1 h2 hne l1 l2
          · intro i' hc him' hl
            have hne : listed.getD dd false = true → dd ≠ i := fun h e => by rw [e, hfi] at h; cases h
            rw [Za3 _ _ _ hsz] at hl ⊢
            by_cases e : i = i'
            · subst e
              have hld := Zas (hF.deps i o him ho' dd (hdep i hc him)).2 hal
              obtain ⟨u, hu, hψu⟩ := hC hc
              have h3 := hFr.slot _ _ hu
              have h4 := (hM.got dd _ _ hsd hld).2 _ rfl
              rw [h3] at h4; injection h4 with h4
              rw [if_neg (fun e => hne hld e.symm), if_neg (hne hld)]
              exact ⟨hld, by rw [← h4]; exact hψu⟩
            · rw [if_neg e] at hl
              obtain ⟨h1, h2⟩ := hM.sto i' hc him' hl
              rw [if_neg (fun e => hne h1 e.symm), if_neg (hne h1)]
              exact ⟨h1, hψ _ _ _ h2 hR⟩
          · intro j dst φ' hs' hl
            rw [Za3 _ _ _ hsz] at hl
            by_cases e : j = i
            · subst e
              rw [hs] at hs'
              injection hs' with hs'
              injection hs' with e1 e2
              subst e1; subst e2
              rw [if_pos rfl]
              exact ⟨hv, hputd⟩
            · rw [if_neg (fun e' => e e'.symm)] at hl
              rw [if_neg e]
              obtain ⟨g1, g2⟩ := hM.got j dst φ' hs' hl
              refine ⟨hst.at_ hs' _ _ _ g1 hR, fun d hd => ?_⟩
              have hj : j < m := by rw [← hF.spl]; exact (List.getElem?_eq_some_iff.1 hs').1
              have hjl : j < l.length := by have := hF.le; omega
              have hoj := List.getElem?_eq_getElem hjl
              have hdj := hF.dst j _ dst φ' hoj hs'
              rw [hput d (fun d' hd' e' => by subst e'; exact hF.apart j i _ o d hj him e hoj ho' (by rw [hdj, hd]) hd')]
              exact g2 d hd
        have hcnt' := Zgu listed i hsz hfi l.length hil
        unfold wpOp
        rw [ho]
        dsimp only
        have h1 := hOp a hFr
        split
        · rename_i hw
          rw [if_pos hw] at h1
          refine .inl (Oper.wp_mono ?_ (h1 Q))
          rintro a' w' ⟨v, rfl, hv, hR, hN, hC⟩
          exact ih _ _ _ _ (hnew v w' hv hR hN hC) (by omega)
        · rename_i hw
          rw [if_neg hw] at h1
          exact ih _ _ _ _ (hnew undef w h1.1 h1.2.1 h1.2.2.1 h1.2.2.2) (by omega)
theorem w_drawS {id : Nat} {w : World} {ρ : Env} (m : Nat) (R : World → World → Prop) (sp : Zb8) (ds : List (List Nat)) (bs : List Bool) (ρ0 : Env) (hsub : Sub ρ0 ρ) (hm : P.follows .mixedOrders = true)
    (hchk : Zki l m n (Zfz ρ0) (sp.map (·.1)) ds = true) (hR : ∀ a, R a a) (hRt : ∀ a b c, R a b → R b c → R a c) (hst : Zho R sp) (hold : Zig sp bs) {φd : Value → World → Prop} (hsd : sp[dd]? = some (some td, φd)) (hdep : ∀ i, cs.getD i false = true → i < m → dd ∈ ds.getD i []) (hψ : ∀ v a b, ψ v a → R a b → ψ v b) (hex : ∃ i, cs.getD i false = true ∧ i < m)
    (h : ∀ w0, w.grownBy w0 none → w0.heap.size = w.heap.size → Zkz P l.toArray n D ρ0 w0 R sp td ψ l ds bs cs sp ∧ (∀ w', R w0 w' → Zhi sp bs [] ρ0 w' (fun ρ => (∀ u, look ρ td = some u → ψ u w') → Reg P l.toArray Q (l.drop m) n D ρ w'))) :
    W P (.region id l.toArray true) Q n D ρ w := by
  intro a ha
  have hF := Zjw hchk
  obtain ⟨h1, h2⟩ := h w.drew (Zes w) rfl
  refine wp_region_any hm ?_
  have := mid_anyS hF (fun t v hl => Zc7 hl) hRt hst hold hsd hdep hψ hex h1 h2 l.length (Array.replicate l.length false) (fun _ => undef) a w.drew ⟨ha.sub hsub, hR _, by simp, fun i _ => by simp [Array.getD_eq_getD_getElem?, Array.getElem?_replicate]; split <;> rfl, fun i o j _ hl _ => by
    simp [Array.getD_eq_getD_getElem?, Array.getElem?_replicate] at hl
    split at hl <;> simp at hl, fun i j _ _ _ _ _ hl _ => by
    simp [Array.getD_eq_getD_getElem?, Array.getElem?_replicate] at hl
    split at hl <;> simp at hl, fun i _ _ hl => by
    simp [Array.getD_eq_getD_getElem?, Array.getElem?_replicate] at hl
    split at hl <;> simp at hl, fun i dst φ hs hl => by
    simp [Array.getD_eq_getD_getElem?, Array.getElem?_replicate] at hl
    split at hl <;> simp at hl⟩ (by
      have : ∀ k L, cnt k L ≤ k := by
        intro k L; induction k with
        | zero => exact Nat.le_refl _
        | succ k ih => unfold cnt; split <;> omega
      exact this _ _)
  simpa using this
end
end Go.Gw
namespace Go.Gw
open Go.RowKit
def BlkN (w : World) (g t n : Nat) : Prop := ∃ cs : Array Value, cs.size = n ∧ Blk w g t cs
structure Rx (N t : Nat) (X : Array Value) (a b : World) : Prop where
  os : b.os = a.os
  tape : b.tape = a.tape
  output : b.output = a.output
  size : a.heap.size ≤ b.heap.size
  block : ∀ k, k < a.heap.size → b.heap[k]? = a.heap[k]? ∨ (N ≤ k ∧ (∃ n, n = X.size ∧ BlkN a k t n) ∧ Blk b k t X)
section
variable {N t n : Nat} {X : Array Value} {a b c w w' : World}
theorem Rx.refl (a : World) : Rx N t X a a := ⟨rfl, rfl, rfl, Nat.le_refl _, fun _ _ => .inl rfl⟩
theorem Rx.trans (a b c : World) (h : Rx N t X a b) (k : Rx N t X b c) : Rx N t X a c :=
  ⟨k.os.trans h.os, k.tape.trans h.tape, k.output.trans h.output, Nat.le_trans h.size k.size, fun i hi => by
    rcases h.block i hi with h1 | ⟨h1, h2, h3⟩ <;> rcases k.block i (Nat.lt_of_lt_of_le hi h.size) with k1 | ⟨k1, ⟨m, hm, cs, hc, k2⟩, k3⟩
    · exact .inl (k1.trans h1)
    · exact .inr ⟨k1, ⟨m, hm, cs, hc, h1.symm.trans k2⟩, k3⟩
    · exact .inr ⟨h1, h2, k1.trans h3⟩
    · exact .inr ⟨h1, h2, k3⟩⟩
theorem Rx.of (k : a.grownBy b none) : Rx N t X a b := ⟨k.os, k.tape, k.output, k.size, fun i hi => .inl (k.block i hi (by simp))⟩
theorem Rx.grown (h : Rx N t X a b) (hn : a.heap.size ≤ N) : a.grownBy b none := ⟨h.os, h.tape, h.output, h.size, fun i hi _ => by
  rcases h.block i hi with h1 | ⟨h1, _⟩
  · exact h1
  · omega⟩
theorem Rx.sto {g : Nat} (hB : BlkN a g t X.size) (hB2 : Blk b g t X) (k : a.grownBy b (some g)) (hg : N ≤ g) : Rx N t X a b :=
  ⟨k.os, k.tape, k.output, k.size, fun i hi => by
    by_cases e : i = g
    · subst e; exact .inr ⟨hg, ⟨_, rfl, hB⟩, hB2⟩
    · exact .inl (k.block i hi (by simpa using e))⟩
def Zhm (N t n : Nat) (v : Value) (w : World) : Prop := ∃ g, v = .pointer (some ⟨g, 0, none⟩) ∧ N ≤ g ∧ BlkN w g t n
def PtrX (N t : Nat) (X : Array Value) (v : Value) (w : World) : Prop := ∃ g, v = .pointer (some ⟨g, 0, none⟩) ∧ N ≤ g ∧ Blk w g t X
theorem Zhm.st (hn : n = X.size) (v : Value) (a b : World) (h : Zhm N t n v a) (k : Rx N t X a b) : Zhm N t n v b := by
  obtain ⟨g, rfl, hg, cs, hc, hB⟩ := h
  refine ⟨g, rfl, hg, ?_⟩
  rcases k.block g hB.lt with h1 | ⟨_, _, h3⟩
  · exact ⟨cs, hc, h1.trans hB⟩
  · exact ⟨X, hn.symm, h3⟩
theorem PtrX.st (v : Value) (a b : World) (h : PtrX N t X v a) (k : Rx N t X a b) : PtrX N t X v b := by
  obtain ⟨g, rfl, hg, hB⟩ := h
  refine ⟨g, rfl, hg, ?_⟩
  rcases k.block g hB.lt with h1 | ⟨_, _, h3⟩
  · exact h1.trans hB
  · exact h3
theorem Zhm.old {v : Value} (h : Zhm N t n v w) : OldV v w := by obtain ⟨g, rfl, _, cs, _, hB⟩ := h; exact ⟨g, rfl, hB.lt⟩
end
end Go.Gw
namespace Go.Gw
open Go.RowKit
theorem Sl.gSmall {α : Type} {K : Kd α} (hK : K.Flat) {w w' : World} {F : Nat → Prop} {v : Value} {xs : List α} {g t : Nat} {cs : Array Value} (h : Sl K w F v xs) (k : w.grownBy w' (some g)) (hB : Blk w g t cs) (hs : cs.size < K.sz) : Sl K w' F v xs := by
  obtain ⟨A, c, e, h1, h2, h3⟩ := h
  refine ⟨A, c, e, h1, h2, fun i x hx => ?_⟩
  obtain ⟨b, o, us, rfl, hb, hF, hr, hc⟩ := h3 i x hx
  have hne : b ≠ g := by
    rintro rfl
    have hl := K.len hr
    have hlt : K.sz - 1 < us.length := by omega
    have h4 := hc (K.sz - 1) _ (List.getElem?_eq_getElem hlt)
    unfold World.cell? at h4
    rw [show w.heap[b]? = some (.cells cs t (0, 0)) from hB] at h4
    simp at h4
    obtain ⟨h5, _⟩ := Array.getElem?_eq_some_iff.1 h4
    generalize i * K.sz = q at h5
    omega
  have hbk := k.block b hb (by simpa using hne)
  exact ⟨b, o, us, rfl, Nat.lt_of_lt_of_le hb k.size, hF, hK _ _ _ _ _ _ hr, Zh1 hc hbk⟩
end Go.Gw
namespace Go.Gw
open Go.RowKit
section
variable {w : World} {U n0 : Nat}
theorem lit_rcell2 {g t : Nat} {a b a' b' : Value} {c d : RCl} (hB : Blk w g t [.bool c.xn, a, .bool c.yn, b, .int .u8 c.st, .bool d.xn, a', .bool d.yn, b', .int .u8 d.st].toArray) (h1 : Sl Kd.u32 w (G U n0 w) a c.xs) (h2 : Sl Kd.u32 w (G U n0 w) b c.ys)
    (h3 : Sl Kd.u32 w (G U n0 w) a' d.xs) (h4 : Sl Kd.u32 w (G U n0 w) b' d.ys) (hc : 0 ≤ c.st ∧ c.st ≤ 255) (hd : 0 ≤ d.st ∧ d.st ≤ 255) :
    Sl (Kd.rcell U n0) w (fun _ => False) (.slice (some ⟨g, 0, none⟩) 2 2) [c, d] := by
  refine sl_lit (us := [[.bool c.xn, a, .bool c.yn, b, .int .u8 c.st], [.bool d.xn, a', .bool d.yn, b', .int .u8 d.st]]) (by simpa using hB) rfl (by simp [Kd.rcell]) (fun h => h) rfl (by decide) ?_
  intro i u y hu hy
  cases i with
  | zero =>
    simp at hu hy; subst hu; subst hy
    exact ⟨a, b, rfl, h1.weak fun k _ hk => hk.elim (fun h => h.elim) id, h2.weak fun k _ hk => hk.elim (fun h => h.elim) id, hc⟩
  | succ i =>
    cases i with
    | zero =>
      simp at hu hy; subst hu; subst hy
      exact ⟨a', b', rfl, h3.weak fun k _ hk => hk.elim (fun h => h.elim) id, h4.weak fun k _ hk => hk.elim (fun h => h.elim) id, hd⟩
    | succ i => simp at hu
end
end Go.Gw
namespace Go.Gw
open Go.RowKit Go.ChangeShapes Go.WideShapes Go.ChangeAt Go.Deep
section
variable {H : Type} {enc : TypeId × Value → H} {P : Program} {w : World}
structure CellF (P : Program) (t tx tb ts te ti : Nat) : Prop where
  is : Zgi P t = [(true, tx, 0), (true, tx, 2), (true, ti, 4)]
  big : BigF P tx tb ts te
  int : P.underlying ti = some (.int .u8)
  ct : P.cellsOf t = 5
  ci : P.cellsOf ti = 1
theorem wf_u8 {a : Int} (h : (Lit.int .u8 a).wf = true) : 0 ≤ a ∧ a ≤ 255 := by
  unfold Lit.wf at h
  rw [Bool.and_eq_true, decide_eq_true_eq, decide_eq_true_eq] at h
  have h1 : IntKind.u8.min = 0 := by decide
  have h2 : IntKind.u8.max = 255 := by decide
  rw [h1] at h
  rw [h2] at h
  exact h
theorem Zjm {t tx tb ts te ti : Nat} (h : CellF P t tx tb ts te ti) (n : Nat) (cs : List Value) (x : DataW H × List MemPlace) (hx : DataW.trod enc P w 0 (fun _ => true) true n t cs = some x) :
    ∃ (xn : Bool) (a : Value) (xs : List Int) (yn : Bool) (b : Value) (ys : List Int) (st : Int), cs = [.bool xn, a, .bool yn, b, .int .u8 st] ∧ Sl Kd.u32 w (fun _ => False) a xs ∧ Sl Kd.u32 w (fun _ => False) b ys ∧ 0 ≤ st ∧ st ≤ 255 := by
  obtain ⟨fs, hu, hsz, hfs⟩ := Zjx h.is (by simp)
  obtain ⟨f0, g0, t0, o0⟩ := hfs 0 _ _ _ rfl
  obtain ⟨f1, g1, t1, o1⟩ := hfs 1 _ _ _ rfl
  obtain ⟨f2, g2, t2, o2⟩ := hfs 2 _ _ _ rfl
  obtain ⟨xs, m, _, _, hlen, hxl, hf⟩ := DataW.trod_struct hu hx
  rw [h.ct] at hlen
  match cs, hlen with
  | [c0, c1, c2, c3, c4], _ =>
    have h0 := hf 0 f0 g0
    have h1 := hf 1 f1 g1
    have h2 := hf 2 f2 g2
    rw [t0, o0, h.big.ct] at h0
    rw [t1, o1, h.big.ct] at h1
    rw [t2, o2, h.ci] at h2
    have hx0 : 0 < xs.length := by rw [hxl, hsz]; simp
    have hx1 : 1 < xs.length := by rw [hxl, hsz]; simp
    have hx2 : 2 < xs.length := by rw [hxl, hsz]; simp
    rw [List.getElem?_eq_getElem hx0] at h0
    rw [List.getElem?_eq_getElem hx1] at h1
    rw [List.getElem?_eq_getElem hx2] at h2
    obtain ⟨xn, a, p, e0, s0⟩ := Zlw h.big _ _ _ h0
    obtain ⟨yn, b, q, e1, s1⟩ := Zlw h.big _ _ _ h1
    obtain ⟨st, e2, _, wf⟩ := DataW.trod_int h.int h2
    simp at e0 e1 e2
    obtain ⟨rfl, rfl⟩ := e0
    obtain ⟨rfl, rfl⟩ := e1
    subst e2
    exact ⟨xn, _, p, yn, _, q, st, rfl, s0, s1, (wf_u8 wf).1, (wf_u8 wf).2⟩
theorem cell_of_trod {U t tx tb ts te ti : Nat} (h : CellF P t tx tb ts te ti) (n : Nat) (cs : List Value) (x : DataW H × List MemPlace) (hx : DataW.trod enc P w 0 (fun _ => true) true n t cs = some x) :
    ∃ c : RCl, (Kd.rcell U w.heap.size).rep w (fun _ => False) cs c := by
  obtain ⟨xn, a, xs, yn, b, ys, st, rfl, h1, h2, h3⟩ := Zjm h n cs x hx
  exact ⟨⟨xn, xs, yn, ys, st⟩, a, b, rfl, h1.oldG.outN, h2.oldG.outN, h3⟩
theorem cell_arg {r : Reach} {b0 : Nat} {t tx tb ts te ti : Nat} {v : Value} {d : DataW H} {p : List MemPlace} (h : CellF P t tx tb ts te ti) (hv : Value.okWide P w r b0 t v) (ht : DataW.Trod enc P w 0 (fun _ => true) true t v d p) :
    ∃ (xn : Bool) (a : Value) (xs : List Int) (yn : Bool) (b : Value) (ys : List Int) (st : Int), v = .agg [.bool xn, a, .bool yn, b, .int .u8 st].toArray ∧ Sl Kd.u32 w (fun _ => False) a xs ∧ Sl Kd.u32 w (fun _ => False) b ys ∧ 0 ≤ st ∧ st ≤ 255 := by
  obtain ⟨fs, hu, hsz, hfs⟩ := Zjx h.is (by simp)
  simp only [Value.okWide, hu] at hv
  obtain ⟨cs, rfl, _⟩ := hv
  obtain ⟨fuel, hf⟩ := ht
  obtain ⟨xn, a, xs, yn, b, ys, st, e, h1, h2, h3⟩ := Zjm h _ _ _ hf
  refine ⟨xn, a, xs, yn, b, ys, st, ?_, h1, h2, h3⟩
  congr 1
  apply Array.toList_inj.1
  simpa [Value.cells] using e
theorem cells_arg {U : Nat} {r : Reach} {b0 : Nat} {t e tx tb ts te ti : Nat} {v : Value} {d : DataW H} {p : List MemPlace} (hs : P.underlying t = some (.slice e)) (h : CellF P e tx tb ts te ti) (hv : Value.okWide P w r b0 t v) (ht : DataW.Trod enc P w 0 (fun _ => true) true t v d p) :
    ∃ l : List RCl, Sl (Kd.rcell U w.heap.size) w (fun _ => False) v l :=
  sl_of_trod (K := Kd.rcell U w.heap.size) hs h.ct (show 0 < 5 by decide) (fun n cs x hx => cell_of_trod h n cs x hx) hv ht
end
end Go.Gw
namespace Go.Proofs.Ytfljelnfjbbknaa.Nd
open Go.RowKit Go.Gw
theorem Za7 : SlF Try.prog 22 101 5 40 (.agg #[.int .i64 0, .int .i64 0, .int .i64 0, .int .i64 0, .int .i64 0]) := ⟨by kernel_rfl, by kernel_rfl, rfl, by decide⟩
theorem Za9 : RowF Try.prog 101 5 := ⟨by kernel_rfl⟩
theorem Zdd : ZeroF Try.prog 101 #[.int .i64 0, .int .i64 0, .int .i64 0, .int .i64 0, .int .i64 0] := ⟨by kernel_rfl⟩
theorem Za6 : FieldF Try.prog 101 0 0 := ⟨by kernel_rfl⟩
theorem Zbj : OneF Try.prog 3 := ⟨by kernel_rfl⟩
theorem Za5 : FieldF Try.prog 101 1 1 := ⟨by kernel_rfl⟩
theorem row99 : RowF Try.prog 99 4 := ⟨by kernel_rfl⟩
theorem Zcq : ArrF Try.prog 99 4 3 1 := ⟨by kernel_rfl, by kernel_rfl⟩
theorem fn107 : FunF Try.prog 107 := ⟨_, _, Try.func107, by decide +kernel, rfl⟩
theorem one68 : OneF Try.prog 68 := ⟨by kernel_rfl⟩
theorem Zcm : SlF Try.prog 68 4 1 1 (.bool false) := ⟨by kernel_rfl, by kernel_rfl, rfl, by decide⟩
theorem Zdv : OneF Try.prog 4 := ⟨by kernel_rfl⟩
theorem sl65 : SlF Try.prog 65 3 1 8 (.int .i64 0) := ⟨by kernel_rfl, by kernel_rfl, rfl, by decide⟩
theorem fn118 : FunF Try.prog 118 := ⟨_, _, Try.func118, by decide +kernel, rfl⟩
theorem zero68 : ZeroF Try.prog 68 #[.slice none 0 0] := ⟨by kernel_rfl⟩
theorem fn117 : FunF Try.prog 117 := ⟨_, _, Try.func117, by decide +kernel, rfl⟩
theorem fn116 : FunF Try.prog 116 := ⟨_, _, Try.func116, by decide +kernel, rfl⟩
theorem fn115 : FunF Try.prog 115 := ⟨_, _, Try.func115, by decide +kernel, rfl⟩
theorem Zdy : FieldF Try.prog 25 0 0 := ⟨by kernel_rfl⟩
theorem Zcu : OneF Try.prog 22 := ⟨by kernel_rfl⟩
theorem nodeF : NodeF Try.prog 101 99 3 := ⟨by kernel_rfl, by kernel_rfl, by kernel_rfl, by kernel_rfl, by kernel_rfl, by kernel_rfl, by kernel_rfl⟩
theorem eqNode : EqF Try.prog 101 Nd.val := eqF_node nodeF Nd.tup Nd.tup_inj
theorem keyNode : KeyF Try.prog 101 Nd.val := keyF_node nodeF Nd.tup Nd.tup_inj
theorem fn67 : FunF Try.prog 67 := ⟨_, _, Try.func67, by decide +kernel, rfl⟩
theorem fn40 : FunF Try.prog 40 := ⟨_, _, Try.func40, by decide +kernel, rfl⟩
theorem fn69 : FunF Try.prog 69 := ⟨_, _, Try.func69, by decide +kernel, rfl⟩
theorem nz3 : ∃ ie, Try.prog.info? 3 = some ie ∧ 0 < ie.size := nz_of (by kernel_rfl)
theorem fn37 : FunF Try.prog 37 := ⟨_, _, Try.func37, by decide +kernel, rfl⟩
theorem fn68 : FunF Try.prog 68 := ⟨_, _, Try.func68, by decide +kernel, rfl⟩
theorem fn90 : FunF Try.prog 90 := ⟨_, _, Try.func90, by decide +kernel, rfl⟩
theorem fn108 : FunF Try.prog 108 := ⟨_, _, Try.func108, by decide +kernel, rfl⟩
theorem fn109 : FunF Try.prog 109 := ⟨_, _, Try.func109, by decide +kernel, rfl⟩
theorem fn110 : FunF Try.prog 110 := ⟨_, _, Try.func110, by decide +kernel, rfl⟩
theorem Zih : ∃ ie, Try.prog.info? 101 = some ie ∧ 0 < ie.size := nz_of (by kernel_rfl)
theorem fn72 : FunF Try.prog 72 := ⟨_, _, Try.func72, by decide +kernel, rfl⟩
theorem fn73 : FunF Try.prog 73 := ⟨_, _, Try.func73, by decide +kernel, rfl⟩
theorem fn39 : FunF Try.prog 39 := ⟨_, _, Try.func39, by decide +kernel, rfl⟩
theorem fn74 : FunF Try.prog 74 := ⟨_, _, Try.func74, by decide +kernel, rfl⟩
theorem Zfg : ZeroF Try.prog 25 #[.slice none 0 0] := ⟨by kernel_rfl⟩
theorem Za8 : RowF Try.prog 25 1 := ⟨by kernel_rfl⟩
theorem fn38 : FunF Try.prog 38 := ⟨_, _, Try.func38, by decide +kernel, rfl⟩
theorem keyI : KeyF Try.prog 3 ekI := keyF_I (by kernel_rfl)
theorem four99 : Go.Program.underlying Try.prog 99 = some (.array 4 3) := by kernel_rfl
theorem fld126_1 : FieldF Try.prog 126 1 1 := ⟨by kernel_rfl⟩
theorem one124 : OneF Try.prog 124 := ⟨by kernel_rfl⟩
theorem map124 : MapF Try.prog 124 101 3 := ⟨by kernel_rfl⟩
theorem Zin : FieldF Try.prog 126 0 0 := ⟨by kernel_rfl⟩
theorem one127 : OneF Try.prog 127 := ⟨by kernel_rfl⟩
theorem map127 : MapF Try.prog 127 3 3 := ⟨by kernel_rfl⟩
theorem one128 : OneF Try.prog 128 := ⟨by kernel_rfl⟩
theorem one123 : OneF Try.prog 123 := ⟨by kernel_rfl⟩
theorem fn94 : FunF Try.prog 94 := ⟨_, _, Try.func94, by decide +kernel, rfl⟩
theorem fn93 : FunF Try.prog 93 := ⟨_, _, Try.func93, by decide +kernel, rfl⟩
theorem fn91 : FunF Try.prog 91 := ⟨_, _, Try.func91, by decide +kernel, rfl⟩
theorem fn92 : FunF Try.prog 92 := ⟨_, _, Try.func92, by decide +kernel, rfl⟩
theorem zero123 : ZeroF Try.prog 123 #[.pointer none] := ⟨by kernel_rfl⟩
theorem zero127 : ZeroF Try.prog 127 #[.map none] := ⟨by kernel_rfl⟩
theorem zero128 : ZeroF Try.prog 128 #[.nilFunc] := ⟨by kernel_rfl⟩
end Go.Proofs.Ytfljelnfjbbknaa.Nd
namespace Go.Proofs.Ytfljelnfjbbknaa.Nd
open Go.RowKit Go.Gw
set_option maxHeartbeats 1000000 in
theorem kid_any {va : Value} {l : List Nd} {F : Nat → Prop} {w : World} (hl : Sl Kd.node w F va l) {i c : Int} (h0 : 0 ≤ i) (hi : i < l.length) (hv : 1 ≤ (ix l i).lv ∧ (ix l i).lv ≤ 1329) :
    Calls Try.prog 107 [va, .int .i64 i, .int .i64 c].toArray w (Zbi w fun v _ => v = .bool (Zf3 l i c)) := by
  have hb0 := Below.refl w.heap.size w
  have hln1 := hl.lenle
  refine enter Try.func107 rfl rfl (Zh (Zb (st (Ze rfl (Zg (Zd (Zh ?_)))))))
  refine Zb (st (Zc rfl (st (Zc rfl (st (Zaz Za7 rfl rfl (hl.at0 hb0) (by omega) (by omega) ?_))))))
  rintro b1 o1 _ ⟨rfl, _⟩ hc1 hF1 hlt1
  have hl_1 := Loc.lt hF1
  refine st (Zu Za9 rfl hc1 rfl (st (Zat Zdd ?_)))
  intro g1 w1 hg1 hB1 k1 hs1
  have hz1 := hb0.size
  have hb1 := Zf hb0 k1
  refine st0 (Zae Za9 rfl rfl hB1 rfl rfl rfl ?_)
  intro w2 hB2 k2 hs2
  have hb2 := Zv hb1 k2 (by first | omega | (have h9 := (hb1).size; omega))
  clear hB1
  refine Zg (Zd (Zh (Zz (Zh (Zb (st (Zc rfl ?_)))))))
  refine st (Zbr rfl rfl (st (Ze rfl (Zg (Zd ?_)))))
  refine Zw rfl (fun h1 => ?_) (fun h1 => ?_)
  · refine Zh (Zb (st (Ze rfl (Zg (Zd (Zx rfl rfl ?_))))))
    exact ⟨_, rfl, hb2, by simp [Zf3, h1]⟩
  refine Zh (Zb (st (Zm Za6 rfl (st (Zs Zbj rfl hB2.range (j := 0) rfl (st (Zbr rfl rfl (st (Ze rfl (Zg ?_))))))))))
  refine Zd ?_
  refine Zw rfl (fun h2 => ?_) (fun h2 => ?_)
  · refine Zh (Zb (st (Zc rfl (st (Zcj rfl rfl (st (Zc rfl ?_)))))))
    refine Za0 21 rfl (fun h3 => ?_) (fun h3 => ?_)
    rotate_left
    · refine Zj rfl rfl (Zj rfl rfl (st (Zo rfl rfl (st (Ze rfl (Zg (Zd (Zx rfl rfl ?_))))))))
      exact ⟨_, rfl, hb2, by simp [Zf3, h1, h2, h3]⟩
    refine stg (Zc rfl (stg (s_le rfl rfl (st (Zo rfl rfl (st (Ze rfl (Zg (Zd (Zx rfl rfl ?_))))))))))
    exact ⟨_, rfl, hb2, by simp [Zf3, h1, h2, h3]⟩
  refine Zn (Zab (Zd (Zh ?_)))
  by_cases h4 : 0 < c
  rotate_left
  · refine Zby 19 (fun a b => a.grownBy b none) [(some 25, Is <| .int .i64 c), (some 26, Is <| .bool (decide (0 < c))), (some 27, Is <| .bool false), (some 28, Is <| undef), (some 29, Is <| undef), (some 30, Is <| undef), (some 31, Is <| .bool false), (some 32, Is <| .bool false), (some 33, Is <| undef), (some 34, Is <| undef), (some 35, Is <| undef), (some 36, Is <| undef), (some 37, Is <| undef), (some 38, Is <| undef), (some 39, Is <| undef), (some 40, Is <| undef), (some 41, Is <| undef), (some 42, Is <| undef), (some 43, Is <| .bool false)] [[], [0], [1], [2], [2], [2, 3, 4], [2, 5], [6], [7], [7], [7, 9], [7, 8, 10], [7, 11], [7, 12], [7], [7, 14], [7, 15], [7, 13, 16], [7, 17]] [(0, va), (1, .int .i64 i), (2, .int .i64 c), (6, .bool false), (7, .pointer (some ⟨g1, 0, none⟩))] (by exact ⟨rfl, rfl, rfl, rfl, rfl, trivial⟩) (by kernel_rfl) (by kernel_rfl) Za (fun _ _ _ => Zaa) ⟨kv, kv, kv, kv, kv, kv, kv, kv, kv, kv, kv, kv, kv, kv, kv, kv, kv, kv, kv, trivial⟩ ?_
    intro w45 k45 hs5
    have hb45 := Zf hb2 k45
    refine ⟨⟨?_, ?_, ?_, ?_, ?_, ?_, ?_, ?_, ?_, ?_, ?_, ?_, ?_, ?_, ?_, ?_, ?_, ?_, ?_, trivial⟩, ?_⟩
    · intro w46 k46
      refine op1 (Zc rfl ?_)
      exact ⟨rfl, Za _⟩
    · intro w47 k47
      rintro _ rfl
      refine op1 (Zcj rfl rfl ?_)
      exact ⟨rfl, Za _⟩
    · intro w48 k48
      rintro _ rfl
      refine op1 (Zc rfl ?_)
      exact ⟨(by rw [decide_eq_false h4]), Za _⟩
    · intro w49 k49
      rintro _ rfl
      refine Zax ⟨rfl, Za _⟩
    · intro w50 k50
      rintro _ rfl
      refine Zax ⟨rfl, Za _⟩
    · intro w51 k51
      rintro _ rfl
      intro v_ hv_; subst v_
      intro v_ hv_; subst v_
      refine Zax ⟨rfl, Za _⟩
    · intro w52 k52
      rintro _ rfl
      intro v_ hv_; subst v_
      refine op1 (Zo rfl rfl ?_)
      exact ⟨rfl, Za _⟩
    · intro w53 k53
      rintro _ rfl
      refine op1 (Zc rfl ?_)
      exact ⟨rfl, Za _⟩
    · intro w54 k54
      rintro _ rfl
      refine Zax ⟨rfl, Za _⟩
    · intro w55 k55
      rintro _ rfl
      refine Zax ⟨rfl, Za _⟩
    · intro w56 k56
      rintro _ rfl
      intro v_ hv_; subst v_
      refine Zax ⟨rfl, Za _⟩
    · intro w57 k57
      rintro _ rfl
      intro v_ hv_; subst v_
      intro v_ hv_; subst v_
      refine Zax ⟨rfl, Za _⟩
    · intro w58 k58
      rintro _ rfl
      intro v_ hv_; subst v_
      refine Zax ⟨rfl, Za _⟩
    · intro w59 k59
      rintro _ rfl
      intro v_ hv_; subst v_
      refine Zax ⟨rfl, Za _⟩
    · intro w60 k60
      rintro _ rfl
      refine Zax ⟨rfl, Za _⟩
    · intro w61 k61
      rintro _ rfl
      intro v_ hv_; subst v_
      refine Zax ⟨rfl, Za _⟩
    · intro w62 k62
      rintro _ rfl
      intro v_ hv_; subst v_
      refine Zax ⟨rfl, Za _⟩
    · intro w63 k63
      rintro _ rfl
      intro v_ hv_; subst v_
      intro v_ hv_; subst v_
      refine Zax ⟨rfl, Za _⟩
    · intro w64 k64
      rintro _ rfl
      intro v_ hv_; subst v_
      refine op1 (Zo rfl rfl ?_)
      exact ⟨rfl, Za _⟩
    intro w65 k65
    have hb65 := Zf hb45 k65
    rintro _ rfl _ rfl _ rfl
    intro v_ hv_; subst v_
    intro v_ hv_; subst v_
    intro v_ hv_; subst v_
    rintro _ rfl _ rfl
    intro v_ hv_; subst v_
    intro v_ hv_; subst v_
    intro v_ hv_; subst v_
    intro v_ hv_; subst v_
    intro v_ hv_; subst v_
    intro v_ hv_; subst v_
    intro v_ hv_; subst v_
    intro v_ hv_; subst v_
    intro v_ hv_; subst v_
    intro v_ hv_; subst v_
    rintro _ rfl
    refine st (Ze rfl (Zg (Zd (Zx rfl rfl ?_))))
    exact ⟨_, rfl, hb65, by simp [Zf3, h1, h2, h4]⟩
  by_cases h5 : c ≤ i
  rotate_left
  · refine Zby 19 (fun a b => a.grownBy b none) [(some 25, Is <| .int .i64 c), (some 26, Is <| .bool (decide (0 < c))), (some 27, Is <| .bool true), (some 28, Is <| .int .i64 c), (some 29, Is <| .int .i64 i), (some 30, Is <| .bool (decide (c ≤ i))), (some 31, Is <| .bool (decide (c ≤ i))), (some 32, Is <| .bool false), (some 33, Is <| undef), (some 34, Is <| undef), (some 35, Is <| undef), (some 36, Is <| undef), (some 37, Is <| undef), (some 38, Is <| undef), (some 39, Is <| undef), (some 40, Is <| undef), (some 41, Is <| undef), (some 42, Is <| undef), (some 43, Is <| .bool false)] [[], [0], [1], [2], [2], [2, 3, 4], [2, 5], [6], [7], [7], [7, 9], [7, 8, 10], [7, 11], [7, 12], [7], [7, 14], [7, 15], [7, 13, 16], [7, 17]] [(0, va), (1, .int .i64 i), (2, .int .i64 c), (6, .bool false), (7, .pointer (some ⟨g1, 0, none⟩))] (by exact ⟨rfl, rfl, rfl, rfl, rfl, trivial⟩) (by kernel_rfl) (by kernel_rfl) Za (fun _ _ _ => Zaa) ⟨kv, kv, kv, kv, kv, kv, kv, kv, kv, kv, kv, kv, kv, kv, kv, kv, kv, kv, kv, trivial⟩ ?_
    intro w24 k24 hs4
    have hb24 := Zf hb2 k24
    refine ⟨⟨?_, ?_, ?_, ?_, ?_, ?_, ?_, ?_, ?_, ?_, ?_, ?_, ?_, ?_, ?_, ?_, ?_, ?_, ?_, trivial⟩, ?_⟩
    · intro w25 k25
      refine op1 (Zc rfl ?_)
      exact ⟨rfl, Za _⟩
    · intro w26 k26
      rintro _ rfl
      refine op1 (Zcj rfl rfl ?_)
      exact ⟨rfl, Za _⟩
    · intro w27 k27
      rintro _ rfl
      refine op1 (Zc rfl ?_)
      exact ⟨(by rw [decide_eq_true h4]), Za _⟩
    · intro w28 k28
      rintro _ rfl
      refine Zal (Zc rfl ?_)
      exact ⟨rfl, Za _⟩
    · intro w29 k29
      rintro _ rfl
      refine Zal (Zc rfl ?_)
      exact ⟨rfl, Za _⟩
    · intro w30 k30
      rintro _ rfl _ rfl _ rfl
      refine Zal (s_le rfl rfl ?_)
      exact ⟨rfl, Za _⟩
    · intro w31 k31
      rintro _ rfl _ rfl
      refine op1 (Zo rfl rfl ?_)
      exact ⟨rfl, Za _⟩
    · intro w32 k32
      rintro _ rfl
      refine op1 (Zc rfl ?_)
      exact ⟨(by rw [decide_eq_false h5]), Za _⟩
    · intro w33 k33
      rintro _ rfl
      refine Zax ⟨rfl, Za _⟩
    · intro w34 k34
      rintro _ rfl
      refine Zax ⟨rfl, Za _⟩
    · intro w35 k35
      rintro _ rfl
      intro v_ hv_; subst v_
      refine Zax ⟨rfl, Za _⟩
    · intro w36 k36
      rintro _ rfl
      intro v_ hv_; subst v_
      intro v_ hv_; subst v_
      refine Zax ⟨rfl, Za _⟩
    · intro w37 k37
      rintro _ rfl
      intro v_ hv_; subst v_
      refine Zax ⟨rfl, Za _⟩
    · intro w38 k38
      rintro _ rfl
      intro v_ hv_; subst v_
      refine Zax ⟨rfl, Za _⟩
    · intro w39 k39
      rintro _ rfl
      refine Zax ⟨rfl, Za _⟩
    · intro w40 k40
      rintro _ rfl
      intro v_ hv_; subst v_
      refine Zax ⟨rfl, Za _⟩
    · intro w41 k41
      rintro _ rfl
      intro v_ hv_; subst v_
      refine Zax ⟨rfl, Za _⟩
    · intro w42 k42
      rintro _ rfl
      intro v_ hv_; subst v_
      intro v_ hv_; subst v_
      refine Zax ⟨rfl, Za _⟩
    · intro w43 k43
      rintro _ rfl
      intro v_ hv_; subst v_
      refine op1 (Zo rfl rfl ?_)
      exact ⟨rfl, Za _⟩
    intro w44 k44
    have hb44 := Zf hb24 k44
    rintro _ rfl _ rfl _ rfl _ rfl _ rfl _ rfl _ rfl _ rfl
    intro v_ hv_; subst v_
    intro v_ hv_; subst v_
    intro v_ hv_; subst v_
    intro v_ hv_; subst v_
    intro v_ hv_; subst v_
    intro v_ hv_; subst v_
    intro v_ hv_; subst v_
    intro v_ hv_; subst v_
    intro v_ hv_; subst v_
    intro v_ hv_; subst v_
    rintro _ rfl
    refine st (Ze rfl (Zg (Zd (Zx rfl rfl ?_))))
    exact ⟨_, rfl, hb44, by simp [Zf3, h1, h2, h4, h5]⟩
  obtain ⟨b2, o2, _, hat1, ⟨rfl, _⟩, hc2, hF2, hlt2⟩ := (hl.at0 hb2).elem (c - 1) (by omega) (by omega)
  have hl_2 := Loc.lt hF2
  refine Zby 19 (fun a b => a.grownBy b none) [(some 25, Is <| .int .i64 c), (some 26, Is <| .bool (decide (0 < c))), (some 27, Is <| .bool true), (some 28, Is <| .int .i64 c), (some 29, Is <| .int .i64 i), (some 30, Is <| .bool (decide (c ≤ i))), (some 31, Is <| .bool (decide (c ≤ i))), (some 32, Is <| .bool true), (some 33, Is <| va), (some 34, Is <| .int .i64 c), (some 35, Is <| .int .i64 (c - 1)), (some 36, Is <| .pointer (some ⟨b2, o2, none⟩)), (some 37, Is <| .pointer (some ⟨b2, o2 + 0, none⟩)), (some 38, Is <| .int .i64 ((ix l (c - 1)).lv)), (some 39, Is <| .pointer (some ⟨g1, 0 + 0, none⟩)), (some 40, Is <| .int .i64 ((ix l i).lv)), (some 41, Is <| .int .i64 ((ix l i).lv - 1)), (some 42, Is <| .bool (decide ((ix l (c - 1)).lv = ((ix l i).lv - 1)))), (some 43, Is <| .bool (decide ((ix l (c - 1)).lv = ((ix l i).lv - 1))))] [[], [0], [1], [2], [2], [2, 3, 4], [2, 5], [6], [7], [7], [7, 9], [7, 8, 10], [7, 11], [7, 12], [7], [7, 14], [7, 15], [7, 13, 16], [7, 17]] [(0, va), (1, .int .i64 i), (2, .int .i64 c), (6, .bool false), (7, .pointer (some ⟨g1, 0, none⟩))] (by exact ⟨rfl, rfl, rfl, rfl, rfl, trivial⟩) (by kernel_rfl) (by kernel_rfl) Za (fun _ _ _ => Zaa) ⟨kv, kv, kv, kv, kv, kv, kv, kv, kv, kv, kv, kv, kv, kv, kv, kv, kv, kv, kv, trivial⟩ ?_
  intro w3 k3 hs3
  have hb3 := Zf hb2 k3
  refine ⟨⟨?_, ?_, ?_, ?_, ?_, ?_, ?_, ?_, ?_, ?_, ?_, ?_, ?_, ?_, ?_, ?_, ?_, ?_, ?_, trivial⟩, ?_⟩
  · intro w4 k4
    refine op1 (Zc rfl ?_)
    exact ⟨rfl, Za _⟩
  · intro w5 k5
    rintro _ rfl
    refine op1 (Zcj rfl rfl ?_)
    exact ⟨rfl, Za _⟩
  · intro w6 k6
    rintro _ rfl
    refine op1 (Zc rfl ?_)
    exact ⟨(by rw [decide_eq_true h4]), Za _⟩
  · intro w7 k7
    rintro _ rfl
    refine Zal (Zc rfl ?_)
    exact ⟨rfl, Za _⟩
  · intro w8 k8
    rintro _ rfl
    refine Zal (Zc rfl ?_)
    exact ⟨rfl, Za _⟩
  · intro w9 k9
    rintro _ rfl _ rfl _ rfl
    refine Zal (s_le rfl rfl ?_)
    exact ⟨rfl, Za _⟩
  · intro w10 k10
    rintro _ rfl _ rfl
    refine op1 (Zo rfl rfl ?_)
    exact ⟨rfl, Za _⟩
  · intro w11 k11
    rintro _ rfl
    refine op1 (Zc rfl ?_)
    exact ⟨(by rw [decide_eq_true h5]), Za _⟩
  · intro w12 k12
    rintro _ rfl
    refine Zal (Zc rfl ?_)
    exact ⟨rfl, Za _⟩
  · intro w13 k13
    rintro _ rfl
    refine Zal (Zc rfl ?_)
    exact ⟨rfl, Za _⟩
  · intro w14 k14
    rintro _ rfl _ rfl
    refine Zal (Zbh rfl rfl (by omega) ?_)
    exact ⟨rfl, Za _⟩
  · intro w15 k15
    rintro _ rfl
    intro v_ hv_; subst v_
    rintro _ rfl
    refine Zal (Zbm Za7 rfl rfl hat1 ?_)
    exact ⟨rfl, Za _⟩
  · intro w16 k16
    rintro _ rfl _ rfl
    refine Zal (Zm Za6 rfl ?_)
    exact ⟨rfl, Za _⟩
  · intro w17 k17
    rintro _ rfl _ rfl
    refine Zal (Zs Zbj rfl (Zai (Zai hc2 k3) k17) (j := 0) rfl ?_)
    exact ⟨rfl, Za _⟩
  · intro w18 k18
    rintro _ rfl
    refine Zal (Zm Za6 rfl ?_)
    exact ⟨rfl, Za _⟩
  · intro w19 k19
    rintro _ rfl _ rfl
    refine Zal (Zs Zbj rfl ((hB2.g0 k3).g0 k19).range (j := 0) rfl ?_)
    exact ⟨rfl, Za _⟩
  · intro w20 k20
    rintro _ rfl _ rfl
    refine Zal (Zbh rfl rfl (by omega) ?_)
    exact ⟨rfl, Za _⟩
  · intro w21 k21
    rintro _ rfl _ rfl _ rfl
    refine Zal (Zbr rfl rfl ?_)
    exact ⟨rfl, Za _⟩
  · intro w22 k22
    rintro _ rfl _ rfl
    refine op1 (Zo rfl rfl ?_)
    exact ⟨rfl, Za _⟩
  intro w23 k23
  have hb23 := Zf hb3 k23
  rintro _ rfl _ rfl _ rfl _ rfl _ rfl _ rfl _ rfl _ rfl
  intro v_ hv_; subst v_
  rintro _ rfl _ rfl _ rfl _ rfl _ rfl _ rfl _ rfl _ rfl _ rfl _ rfl
  refine st (Ze rfl (Zg (Zd (Zx rfl rfl ?_))))
  exact ⟨_, rfl, hb23, by simp [Zf3, h1, h2, h4, h5]⟩
set_option maxHeartbeats 1000000 in
theorem loose_any {va : Value} {l : List Nd} {F : Nat → Prop} {w : World} (hl : Sl Kd.node w F va l) :
    Calls Try.prog 91 [va].toArray w (Zbi w fun v _ => v = .bool (Zah l)) := by
  have hb0 := Below.refl w.heap.size w
  have hln1 := hl.lenle
  refine enter Try.func91 rfl rfl (Zh (Zb (st (Ze rfl (Zg (Zd (Zh ?_)))))))
  refine Zh (Zb (st (Zc rfl (st (Zar Za7 rfl (hl.at0 hb0) (st (Zc rfl (Zg (Zd ?_)))))))))
  refine Zz (Za4 (α := Int) (fun (i : Int) => [(0, va), (7, va), (8, .int .i64 (l.length : Int)), (9, .int .i64 i)]) (fun (i : Int) W => Below w.heap.size w W ∧ (0 ≤ i ∧ i ≤ l.length) ∧ (∀ j : Int, 0 ≤ j → j < i → okAt l j = true)) (fun (i : Int) => (l.length - i).toNat) (0) ⟨hb0, by omega, fun j _ _ => by omega⟩ (by exact ⟨rfl, rfl, rfl, rfl, trivial⟩) ?_)
  rintro i w1 ⟨hb1, hi, ha⟩
  have hz1 := hb1.size
  refine Zh (Zb (st (Zbf rfl rfl (Zg (Zd (Zh ?_))))))
  refine Zw rfl (fun h1 => ?_) (fun h1 => ?_)
  rotate_left
  · refine Zan (Zk (Zk (Zt (Zd (Zh (Zb ?_))))))
    refine st (Ze rfl (Zg (Zd (Zx rfl rfl ?_))))
    exact ⟨_, rfl, hb1, by rw [(Zcx l).2]; intro j j0 j1; exact ha j j0 (by omega)⟩
  refine Zn (Zd (Zh (Zz (Zh (Zb (st (Zc rfl ?_)))))))
  refine st (Zaz Za7 rfl rfl (hl.at0 hb1) (by omega) (by omega) ?_)
  rintro b1 o1 _ ⟨rfl, _⟩ hc1 hF1 hlt1
  have hl_1 := Loc.lt hF1
  refine st (Zu Za9 rfl hc1 rfl (st (Zat Zdd ?_)))
  intro g1 w2 hg1 hB1 k1 hs1
  have hz2 := hb1.size
  have hb2 := Zf hb1 k1
  refine st (Ze rfl (st0 (Zae Za9 rfl rfl hB1 rfl rfl rfl ?_)))
  intro w3 hB2 k2 hs2
  have hb3 := Zv hb2 k2 (by first | omega | (have h9 := (hb2).size; omega))
  clear hB1
  refine Zg (Zd (Zh (Zh (Zb (st (Zm Za6 rfl (st (Zs Zbj rfl hB2.range (j := 0) rfl ?_))))))))
  refine st (Zbf rfl rfl (st (Zc rfl ?_)))
  refine Za0 17 rfl (fun h2 => ?_) (fun h2 => ?_)
  · refine Zj rfl rfl (Zj rfl rfl (Zj rfl rfl (st (Zo rfl rfl (Zg (Zd (Zb5 rfl ?_)))))))
    refine Zh (Zb (st (Ze rfl (Zg (Zd (Zx rfl rfl ?_))))))
    refine ⟨_, rfl, hb3, ?_⟩
    rw [Ze4 i (by omega) (by omega)]
    rw [ne_eq, Zcd]
    rintro ⟨e1, e2⟩
    first | omega | (have e3 := e2 k (by omega) (by omega); unfold Nd.kid at e3; simp [e3] at h2)
  refine stg (Zm Za6 rfl (stg (Zs Zbj rfl hB2.range (j := 0) rfl (stg (Zcj rfl rfl (st (Zo rfl rfl (Zg (Zd ?_)))))))))
  refine Zw rfl (fun h3 => ?_) (fun h3 => ?_)
  · refine Zh (Zb (st (Ze rfl (Zg (Zd (Zx rfl rfl ?_))))))
    refine ⟨_, rfl, hb3, ?_⟩
    rw [Ze4 i (by omega) (by omega)]
    rw [ne_eq, Zcd]
    rintro ⟨e1, e2⟩
    first | omega | (have e3 := e2 k (by omega) (by omega); unfold Nd.kid at e3; simp [e3] at h3)
  refine Zn (Zd (Zh (Zb (st (Zm Za5 rfl (st (Zau (us := [.int .i64 ((ix l i).k0), .int .i64 ((ix l i).k1), .int .i64 ((ix l i).k2), .int .i64 ((ix l i).k3)]) row99 rfl hB2.range (j := 1) rfl rfl (st (Zc rfl ?_)))))))))
  refine Zg (Zd (Zz (Za4 (α := Int) (fun (k : Int) => [(0, va), (3, .int .i64 i), (7, va), (8, .int .i64 (l.length : Int)), (9, .int .i64 i), (23, .agg [.int .i64 ((ix l i).k0), .int .i64 ((ix l i).k1), .int .i64 ((ix l i).k2), .int .i64 ((ix l i).k3)].toArray), (24, .int .i64 k)]) (fun (k : Int) W => Below w.heap.size w W ∧ (0 ≤ k ∧ k ≤ 4) ∧ (∀ j : Int, 0 ≤ j → j < k → Zf3 l i ((ix l i).kid j) = true)) (fun (k : Int) => (4 - k).toNat) (0) ⟨hb3, by omega, fun j _ _ => by omega⟩ (by exact ⟨rfl, rfl, rfl, rfl, rfl, rfl, rfl, trivial⟩) ?_)))
  rintro k w4 ⟨hb4, hk, hk2⟩
  have hz3 := hb4.size
  refine Zh (Zb (st (Zbf rfl rfl (Zg (Zd (Zh ?_))))))
  refine Zw rfl (fun h4 => ?_) (fun h4 => ?_)
  rotate_left
  · refine Zan (Zk (Zk (Zt (Zab (Zd (Zb ?_))))))
    refine st (Zaj rfl rfl (by omega) (st (Zc rfl (Zg ?_))))
    exact Zad ((i + 1)) ⟨hb4, by omega, fun j j0 j1 => if e : j = i then by rw [e, Zcd]; exact ⟨by omega, fun k k0 k1 => hk2 k k0 (by omega)⟩ else ha j j0 (by omega)⟩ (by omega) (by exact ⟨rfl, rfl, rfl, rfl, trivial⟩)
  refine Zn (Zd (Zh (Zz (Zh (Zb (st (Zkm Zcq Zbj rfl rfl (by omega) (by omega) ?_)))))))
  refine st (Ze rfl (Zg (Zd (Zh (Zb (st (Zc rfl (st (Zc rfl ?_)))))))))
  refine st (Zc rfl (st (Zp fn107 rfl (kid_any (hl.at0 hb4) (by omega) (by omega) (by omega)) ?_)))
  rintro _ w5 ⟨hq1, rfl⟩
  have k3 := Zi hq1 none
  have hz4 := hq1.size
  have hb5 := Zf hb4 k3
  have hz5 := hb5.size
  refine st (Zdk rfl (Zg (Zd ?_)))
  refine Zbd rfl (fun h5 => ?_) (fun h5 => ?_)
  · refine Zh (Zb (st (Ze rfl (Zg (Zd (Zx rfl rfl ?_))))))
    refine ⟨_, rfl, hb5, ?_⟩
    rw [Ze4 i (by omega) (by omega)]
    rw [ne_eq, Zcd]
    rintro ⟨e1, e2⟩
    first | omega | (have e3 := e2 k (by omega) (by omega); unfold Nd.kid at e3; simp [e3] at h5)
  refine Zn (Zab (Zd (Zb (st (Zaj rfl rfl (by omega) (st (Zc rfl (Zg ?_))))))))
  exact Zad ((k + 1)) ⟨hb5, by omega, fun j j0 j1 => if e : j = k then by rw [e]; simpa [Nd.kid] using h5 else hk2 j j0 (by omega)⟩ (by omega) (by exact ⟨rfl, rfl, rfl, rfl, rfl, rfl, rfl, trivial⟩)
set_option maxHeartbeats 1000000 in
theorem full1_any {w : World} {gx go : Nat} {x : Nd} {vo : Value} {out : List Bool} {F : Nat → Prop} {c : Int} (hx : w.rangeAt gx 0 x.cells) (ho : w.rangeAt go 0 [vo]) (hs : Sl Kd.bool w F vo out) (hc : c ≠ 0 → x.lv ≠ 1 → 0 ≤ c ∧ c < out.length) :
    Calls Try.prog 117 [.int .i64 c, .pointer (some ⟨gx, 0, none⟩), .pointer (some ⟨go, 0, none⟩)].toArray w (Zbi w fun v _ => v = .bool (Zep x out c)) := by
  have hb0 := Below.refl w.heap.size w
  refine enter Try.func117 rfl rfl (Zh (Zb (st (Ze rfl (Zg (Zd (Zh ?_)))))))
  refine Zb (st (Zc rfl (st (s_ne rfl rfl (st (Zc rfl ?_))))))
  refine Za0 7 rfl (fun h1 => ?_) (fun h1 => ?_)
  rotate_left
  · refine Zj rfl rfl (Zj rfl rfl (Zj rfl rfl (Zj rfl rfl (Zak rfl rfl (Zak rfl rfl (Zak rfl rfl ?_))))))
    refine Zak rfl rfl (Zj rfl rfl (st (Zo rfl rfl (st (Ze rfl (Zg (Zd (Zx rfl rfl ?_))))))))
    exact ⟨_, rfl, hb0, by simp [Zep, h1]⟩
  refine stg (Zm Za6 rfl (stg (Zs Zbj rfl hx (j := 0) rfl (stg (Zbr rfl rfl (stg (Zc rfl ?_)))))))
  refine Za0 11 rfl (fun h2 => ?_) (fun h2 => ?_)
  · refine Zj rfl rfl (Zj rfl rfl (Zj rfl rfl (Zj rfl rfl (stg (Zo rfl rfl (st (Zo rfl rfl (st (Ze rfl ?_)))))))))
    refine Zg (Zd (Zx rfl rfl ?_))
    exact ⟨_, rfl, hb0, by simp [Zep, h1, h2]⟩
  refine stg (Zs one68 rfl ho (j := 0) rfl (stg (Zc rfl (stg (Zaz Zcm rfl rfl (hs.at0 hb0) (by omega) (by omega) ?_)))))
  rintro b1 o1 _ ⟨rfl, _⟩ hc1 hF1 hlt1
  have hl_1 := Loc.lt hF1
  refine stg (Zs Zdv rfl hc1 (j := 0) rfl (stg (Zo rfl rfl (st (Zo rfl rfl (st (Ze rfl (Zg (Zd (Zx rfl rfl ?_))))))))))
  exact ⟨_, rfl, hb0, by simp [Zep, h1, h2]⟩
set_option maxHeartbeats 1000000 in
theorem idxfunc_any {w : World} {va : Value} {xs : List Int} {F : Nat → Prop} {f : Nat} {caps : List Value} {p : Int → Bool} (hl : Sl (Kd.num .i64) w F va xs) (hf : FunF Try.prog f) (hcl : ∀ w', w.grownBy w' none → ∀ i : Int, 0 ≤ i → i < xs.length → Calls Try.prog f ([] ++ [Value.int .i64 (ix xs i)] ++ caps).toArray w' (Zbi w' fun v _ => v = .bool (p (ix xs i)))) :
    Calls Try.prog 118 [va, .func (.func f) [].toArray caps.toArray].toArray w (Zbi w fun v _ => v = .int .i64 (idxF p xs)) := by
  have hb0 := Below.refl w.heap.size w
  have hln1 := hl.lenle
  refine enter Try.func118 rfl rfl (Zh (Zb (st (Ze rfl (Zg (Zd (Zh ?_)))))))
  refine Zh (Zb (st (Zc rfl (st (Zar sl65 rfl (hl.at0 hb0) (st (Zc rfl (Zg (Zd ?_)))))))))
  refine Zz (Za4 (α := Int) (fun (i : Int) => [(0, va), (1, .func (.func f) [].toArray caps.toArray), (7, .int .i64 (xs.length : Int)), (8, .int .i64 i)]) (fun (i : Int) W => Below w.heap.size w W ∧ (0 ≤ i ∧ i ≤ xs.length) ∧ (∀ j : Int, 0 ≤ j → j < i → p (ix xs j) = false)) (fun (i : Int) => (xs.length - i).toNat) (0) ⟨hb0, by omega, fun j _ _ => by omega⟩ (by exact ⟨rfl, rfl, rfl, rfl, trivial⟩) ?_)
  rintro i w1 ⟨hb1, hi, ha⟩
  have hz1 := hb1.size
  refine Zh (Zb (st (Zbf rfl rfl (Zg (Zd (Zh ?_))))))
  refine Zw rfl (fun h1 => ?_) (fun h1 => ?_)
  rotate_left
  · refine Zan (Zk (Zk (Zt (Zd (Zh (Zb ?_))))))
    refine st (Ze rfl (Zg (Zd (Zx rfl rfl ?_))))
    exact ⟨_, rfl, hb1, by rw [idxF_none p xs (fun j j0 j1 => ha j j0 (by omega))]⟩
  have hlt := h1
  refine Zn (Zd (Zh (Zz (Zh (Zb (st (Zc rfl ?_)))))))
  refine st (Ze rfl (Zg (Zd (Zh (Zb (st (Zc rfl (st (Zc rfl ?_)))))))))
  refine st (Zc rfl (st (Zaz sl65 rfl rfl (hl.at0 hb1) (by omega) (by omega) ?_)))
  rintro b1 o1 _ ⟨rfl, _⟩ hc1 hF1 hlt1
  have hl_1 := Loc.lt hF1
  refine st (Zs Zbj rfl hc1 (j := 0) rfl (st (s_callc hf rfl rfl (hcl _ (Zi hb1 none) _ hi.1 hlt) ?_)))
  rintro _ w2 ⟨hq1, rfl⟩
  have k1 := Zi hq1 none
  have hb2 := Zf hb1 k1
  have hz2 := hb2.size
  refine Zg (Zd ?_)
  refine Zbd rfl (fun h2 => ?_) (fun h2 => ?_)
  · refine Zh (Zb (st (Zc rfl (st (Ze rfl (Zg (Zd (Zx rfl rfl ?_))))))))
    exact ⟨_, rfl, hb2, by rw [idxF_at p xs i hi.1 hlt ha h2]⟩
  refine Zn (Zab (Zd (Zb (st (Zaj rfl rfl (by omega) (st (Zc rfl (Zg ?_))))))))
  exact Zad ((i + 1)) ⟨hb2, by omega, fun j j0 j1 => if e : j = i then by rw [e]; exact h2 else ha j j0 (by omega)⟩ (by omega) (by exact ⟨rfl, rfl, rfl, rfl, trivial⟩)
set_option maxHeartbeats 1000000 in
theorem confunc_any {w : World} {va : Value} {xs : List Int} {F : Nat → Prop} {f : Nat} {caps : List Value} {p : Int → Bool} (hl : Sl (Kd.num .i64) w F va xs) (hf : FunF Try.prog f) (hcl : ∀ w', w.grownBy w' none → ∀ i : Int, 0 ≤ i → i < xs.length → Calls Try.prog f ([] ++ [Value.int .i64 (ix xs i)] ++ caps).toArray w' (Zbi w' fun v _ => v = .bool (p (ix xs i)))) :
    Calls Try.prog 116 [va, .func (.func f) [].toArray caps.toArray].toArray w (Zbi w fun v _ => v = .bool (xs.any p)) := by
  have hb0 := Below.refl w.heap.size w
  have hln1 := hl.lenle
  refine enter Try.func116 rfl rfl (Zh (Zb (st (Ze rfl (Zg (Zd (Zh ?_)))))))
  refine Zb (st (Zc rfl (st (Zc rfl (st (Zp fn118 rfl (idxfunc_any (hl.at0 hb0) hf hcl) ?_))))))
  rintro _ w1 ⟨hq1, rfl⟩
  have k1 := Zi hq1 none
  have hb1 := Zf hb0 k1
  have hz1 := hb1.size
  refine st (s_ge rfl rfl (st (Ze rfl (Zg (Zd (Zx rfl rfl ?_))))))
  exact ⟨_, rfl, hb1, by rw [idxF_ge]⟩
set_option maxHeartbeats 1000000 in
theorem full_any {va : Value} {l : List Nd} {F : Nat → Prop} {w : World} (hl : Sl Kd.node w F va l) (hl_ok : Zah l = true) (hll : l.length ≤ 1000000) :
    Calls Try.prog 115 [va].toArray w (Zbi w fun v w' => Sl Kd.bool w' (fun _ => False) v (Zb3 l)) := by
  have hb0 := Below.refl w.heap.size w
  have hln1 := hl.lenle
  refine enter Try.func115 rfl rfl (Zh (Zb (st (Ze rfl (Zg (Zd (Zh ?_)))))))
  refine Zb (st (Zc rfl (st (Zar Za7 rfl (hl.at0 hb0) (st (Zaj rfl rfl (by omega) (st (Ziv (K := Kd.bool) (base := w.heap.size) (F := (fun _ => False)) Zcm rfl (by omega) (by omega) (by omega) (fun _ _ => ⟨rfl, trivial⟩) (by omega) (fun _ h => h.elim) ?_))))))))
  intro v1 w1 hO1 k1
  have hb1 := Zf hb0 k1
  have hz1 := hb1.size
  refine st (Zat zero68 ?_)
  intro g1 w2 hg1 hB1 k2 hs1
  have hz2 := hb1.size
  have hb2 := Zf hb1 k2
  have hO2 := hO1.g0 k2
  refine st0 (Zdp one68 rfl rfl (hO2.one) hB1 (of_decide_eq_true rfl) ?_)
  intro w3 hB2 k3 hs2
  have hb3 := Zv hb2 k3 (by first | omega | (have h9 := (hb2).size; omega))
  have hO3 := Own.keptF Zff hO2 k3 (hO2.ne_blk hB1 (by decide))
  clear hB1
  refine Zg (Zd (Zh (Zh (Zb (st (Zc rfl (st (Zar Za7 rfl (hl.at0 hb3) ?_))))))))
  refine st (Zc rfl (Zg (Zd (Zz (Za4 (α := Int) (fun (i : Int) => [(2, .slice none 0 0), (3, .pointer (some ⟨g1, 0, none⟩)), (10, va), (11, .int .i64 (l.length : Int)), (12, .int .i64 i)]) (fun (i : Int) W => Below w.heap.size w W ∧ (0 ≤ i ∧ i ≤ l.length) ∧ (Blk W g1 68 #[v1]) ∧ (Gw.Own Kd.bool 4 w.heap.size W (fun _ => False) v1 (Zfs l i)) ∧ (g1 < W.heap.size)) (fun (i : Int) => (l.length - i).toNat) (0) ⟨hb3, by omega, hB2, by rw [← partL_zero]; exact hO3, hB2.lt⟩ (by exact ⟨rfl, rfl, rfl, rfl, rfl, trivial⟩) ?_)))))
  rintro i w4 ⟨hb4, hi, hB, hO, hgz⟩
  have hz3 := hb4.size
  refine Zh (Zb (st (Zbf rfl rfl (Zg (Zd (Zh ?_))))))
  refine Zw rfl (fun h1 => ?_) (fun h1 => ?_)
  rotate_left
  · refine Zan (Zk (Zk (Zt (Zd (Zh (Zb ?_))))))
    refine st (Zs one68 rfl hB.range (j := 0) rfl (st (Ze rfl (Zg (Zd (Zx rfl rfl ?_))))))
    have e : i = (l.length : Int) := by omega
    refine ⟨_, rfl, hb4, ?_⟩
    rw [← partL_end l, ← e]
    exact hO.sl
  have hlt := h1
  refine Zn (Zd (Zh (Zz (Zh (Zb (st (Zc rfl ?_)))))))
  refine st (Zaz Za7 rfl rfl (hl.at0 hb4) (by omega) (by omega) ?_)
  rintro b1 o1 _ ⟨rfl, _⟩ hc1 hF1 hlt1
  have hl_1 := Loc.lt hF1
  refine st (Zu Za9 rfl hc1 rfl (st (Zat Zdd ?_)))
  intro g2 w5 hg2 hB3 k4 hs3
  have hz4 := hb4.size
  have hb5 := Zf hb4 k4
  have hO4 := hO.g0 k4
  refine st (Ze rfl (st0 (Zae Za9 rfl rfl hB3 rfl rfl rfl ?_)))
  intro w6 hB4 k5 hs4
  have hb6 := Zv hb5 k5 (by first | omega | (have h9 := (hb5).size; omega))
  have hO5 := Own.keptF Zff hO4 k5 (hO4.ne_blk hB3 (by decide))
  clear hB3
  refine Zg (Zd ?_)
  have hS1 : Sl (Kd.num .i64) w6 (fun _ => False) (.slice (some ⟨g2, 0 + 1, none⟩) 4 4) [(ix l i).k0, (ix l i).k1, (ix l i).k2, (ix l i).k3] := Zfr (us := [.int .i64 ((ix l i).k0), .int .i64 ((ix l i).k1), .int .i64 ((ix l i).k2), .int .i64 ((ix l i).k3)]) rfl (Zlg 1 hB4.range rfl) rfl rfl (fun h => h) (hB4.lt) (by omega) (num_reps (k := .i64) (xs := [(ix l i).k0, (ix l i).k1, (ix l i).k2, (ix l i).k3]))
  refine Zby 7 (fun a b => a.grownBy b none) [(some 17, Is <| v1), (some 18, Is <| .int .i64 i), (some 19, Is <| .int .i64 (i + 1)), (some 20, Is <| .pointer (some ⟨g2, 0 + 1, none⟩)), (some 21, Is <| .slice (some ⟨g2, 0 + 1, none⟩) 4 4), (some 22, Is <| .func (.func 117) [].toArray [.pointer (some ⟨g2, 0, none⟩), .pointer (some ⟨g1, 0, none⟩)].toArray), (some 23, Is <| .bool ([(ix l i).k0, (ix l i).k1, (ix l i).k2, (ix l i).k3].any (Zep (ix l i) (Zfs l i))))] [[], [], [1], [], [3], [], [4, 5]] [(2, .slice none 0 0), (3, .pointer (some ⟨g1, 0, none⟩)), (4, .int .i64 i), (5, .pointer (some ⟨g2, 0, none⟩)), (10, va), (11, .int .i64 (l.length : Int)), (12, .int .i64 i)] (by exact ⟨rfl, rfl, rfl, rfl, rfl, rfl, rfl, trivial⟩) (by kernel_rfl) (by kernel_rfl) Za (fun _ _ _ => Zaa) ⟨kv, kv, kv, kv, kv, kv, kv, trivial⟩ ?_
  intro w8 k7 hs5
  have hb7 := Zf hb6 k7
  have hO6 := hO5.g0 k7
  refine ⟨⟨?_, ?_, ?_, ?_, ?_, ?_, ?_, trivial⟩, ?_⟩
  · intro w9 k8
    refine op1 (Zs one68 rfl ((((hB.g0 k4).gne k5 (by omega)).g0 k7).g0 k8).range (j := 0) rfl ?_)
    exact ⟨rfl, Za _⟩
  · intro w10 k9
    refine op1 (Zc rfl ?_)
    exact ⟨rfl, Za _⟩
  · intro w11 k10
    rintro _ rfl
    refine op1 (Zaj rfl rfl (by omega) ?_)
    exact ⟨rfl, Za _⟩
  · intro w12 k11
    refine op1 (Zm Za5 rfl ?_)
    exact ⟨rfl, Za _⟩
  · intro w13 k12
    rintro _ rfl
    refine op1 (s_arrsl Zcq rfl ?_)
    exact ⟨rfl, Za _⟩
  · intro w14 k13
    refine op1 (s_func rfl rfl ?_)
    exact ⟨rfl, Za _⟩
  · intro w15 k14
    have hb14 := Zf hb7 k14
    have hO13 := hO6.g0 k14
    rintro _ rfl _ rfl
    refine op1 (Zp fn116 rfl (confunc_any (p := Zep (ix l i) (Zfs l i)) ((hS1.g0 k7).g0 k14) fn117 (fun w' k' j j0 j1 => full1_any (x := (ix l i)) (((hB4.g0 k7).g0 k14).g0 k').range (((((hB.g0 k4).gne k5 (by omega)).g0 k7).g0 k14).g0 k').range (hO13.sl.g0 k') (fun e1 e2 => full_use hl_ok hi.1 hlt j0 j1 e1 e2))) ?_)
    rintro _ w16 ⟨hq2, rfl⟩
    have k15 := Zi hq2 none
    have hb15 := Zf hb14 k15
    have hz5 := hb15.size
    exact ⟨rfl, k15⟩
  intro w17 k16
  have hb16 := Zf hb7 k16
  have hO15 := hO6.g0 k16
  intro v_ hv_; subst v_
  rintro _ rfl _ rfl _ rfl _ rfl _ rfl _ rfl
  refine st (Zdm Zcm rfl rfl hO15 (by omega) (by rw [Zh8 l i hi.1 (by omega)]; omega) ?_)
  intro g3 hg3 hl_2 hl_3
  refine st0 (Zcf Zdv rfl rfl rfl rfl hO15 hg3 (by omega) (by rw [Zh8 l i hi.1 (by omega)]; omega) ⟨rfl, trivial⟩ ?_)
  intro w18 hO16 k17 hs6
  have hb17 := Zv hb16 k17 (by first | omega | (have h9 := (hb16).size; omega))
  refine Zg (Zab (Zd (Zb (st (Zaj rfl rfl (by omega) (st (Zc rfl (Zg ?_))))))))
  exact Zad ((i + 1)) ⟨hb17, by omega, (((((hB.g0 k4).gne k5 (by omega)).g0 k7).g0 k16).gne k17 (hO15.blk_ne ((((hB.g0 k4).gne k5 (by omega)).g0 k7).g0 k16) (by decide) hg3)), by rw [← partL_set l i hi.1 hlt (Zhf hl_ok hi.1 hlt)]; exact hO16, (((((hB.g0 k4).gne k5 (by omega)).g0 k7).g0 k16).gne k17 (hO15.blk_ne ((((hB.g0 k4).gne k5 (by omega)).g0 k7).g0 k16) (by decide) hg3)).lt⟩ (by omega) (by exact ⟨rfl, rfl, rfl, rfl, rfl, trivial⟩)
end Go.Proofs.Ytfljelnfjbbknaa.Nd
namespace Go.Proofs.Ytfljelnfjbbknaa.Nd
open Go.RowKit Go.Gw
set_option maxHeartbeats 1000000 in
theorem empty_any {va : Value} {l : List Nd} {F : Nat → Prop} {w : World} (hl : Sl Kd.node w F va l) {n : Int} (hl_ok : Zah l = true) (hll : l.length ≤ 1000000) (h0 : 0 ≤ n) (h1 : n ≤ l.length) :
    Calls Try.prog 108 [va, .int .i64 n].toArray w (Zbi w fun v _ => v = .bool (!(ix (Zb3 l) n))) := by
  have hb0 := Below.refl w.heap.size w
  have hln1 := hl.lenle
  have hlen := Zbe l
  refine enter Try.func108 rfl rfl (Zh (Zb (st (Ze rfl (Zg (Zd (Zh ?_)))))))
  refine Zb (st (Zc rfl (st (Zp fn115 rfl (full_any (hl.at0 hb0) hl_ok hll) ?_))))
  rintro v1 w1 ⟨hq1, hS1⟩
  have k1 := Zi hq1 none
  have hz1 := hq1.size
  have hb1 := Zf hb0 k1
  have hz2 := hb1.size
  refine st (Zc rfl (st (Zaz Zcm rfl rfl hS1 (by omega) (by omega) ?_)))
  rintro b1 o1 _ ⟨rfl, _⟩ hc1 hF1 hlt1
  refine st (Zs Zdv rfl hc1 (j := 0) rfl (st (Zdk rfl (st (Ze rfl (Zg (Zd (Zx rfl rfl ?_))))))))
  exact ⟨_, rfl, hb1, rfl⟩
set_option maxHeartbeats 1000000 in
theorem level_any {va : Value} {l : List Nd} {F : Nat → Prop} {w : World} (hl : Sl Kd.node w F va l) :
    Calls Try.prog 43 [.agg [va].toArray].toArray w (Zbi w fun v _ => v = .int .i64 (Zaq l)) := by
  have hb0 := Below.refl w.heap.size w
  have hln0 := hl.lenle
  refine enter Try.func43 rfl rfl (Zh (Zb (st (Zcb rfl ?_))))
  intro g1 w1 hg1 hB1 k1 hs1
  change Blk w1 g1 25 [va].toArray at hB1
  have hb1 := Zf hb0 k1
  refine st (Ze rfl (Zg (Zd (Zh (Zh (Zb (st (Zm Zdy rfl ?_))))))))
  refine st (Zs Zcu rfl hB1.range (j := 0) rfl (st (Zar Za7 rfl (hl.at0 hb1) (st (Zbr rfl rfl (Zg (Zd ?_)))))))
  refine Zw rfl (fun h1 => ?_) (fun h1 => ?_)
  · refine Zh (Zb (st (Ze rfl (Zg (Zd (Zx rfl rfl ?_))))))
    exact ⟨_, rfl, hb1, by simp only [Zaq]; split <;> first | rfl | omega⟩
  refine Zn (Zd (Zh (Zb (st (Zm Zdy rfl (st (Zs Zcu rfl hB1.range (j := 0) rfl (st (Zm Zdy rfl ?_)))))))))
  refine st (Zs Zcu rfl hB1.range (j := 0) rfl (st (Zar Za7 rfl (hl.at0 hb1) (st (Zbh rfl rfl (by omega) (st (Zaz Za7 rfl rfl (hl.at0 hb1) (by omega) (by omega) ?_)))))))
  rintro b1 o1 _ ⟨rfl, _⟩ hc1 hF1 hlt1
  have hl_1 := Loc.lt hF1
  refine st (Zm Za6 rfl (st (Zs Zbj rfl hc1 (j := 0) rfl (st (Ze rfl (Zg (Zd (Zx rfl rfl ?_))))))))
  exact ⟨_, rfl, hb1, by simp only [Zaq]; split <;> first | rfl | omega⟩
set_option maxHeartbeats 1000000 in
theorem Zl4 {va : Value} {l : List Nd} {F : Nat → Prop} {w : World} (hl : Sl Kd.node w F va l) :
    Calls Try.prog 37 [va].toArray w (Zbi w fun v _ => v = .bool (Zah l)) := by
  have hb0 := Below.refl w.heap.size w
  have hln1 := hl.lenle
  refine enter Try.func37 rfl rfl (Zh (Zb (st (Ze rfl (Zg (Zd (Zh ?_)))))))
  refine Zh (Zb (st (Ze rfl (Zg (Zd (Zz (Za4 (α := Int) (fun (i : Int) => [(0, va), (3, .int .i64 i)]) (fun (i : Int) W => Below w.heap.size w W ∧ (0 ≤ i ∧ i ≤ l.length) ∧ (∀ j : Int, 0 ≤ j → j < i → okAt l j = true)) (fun (i : Int) => (l.length - i).toNat) (0) ⟨hb0, by omega, fun j _ _ => by omega⟩ (by exact ⟨rfl, rfl, trivial⟩) ?_)))))))
  rintro i w1 ⟨hb1, hi, ha⟩
  have hz1 := hb1.size
  refine Zh (Zh (Zb (st (Zc rfl (st (Zc rfl (st (Zar Za7 rfl (hl.at0 hb1) (st (Zbf rfl rfl ?_))))))))))
  refine Zg (Zd ?_)
  refine Zw rfl (fun h1 => ?_) (fun h1 => ?_)
  rotate_left
  · refine Zan (Zk (Zk (Zt (Zd (Zh (Zb ?_))))))
    refine st (Ze rfl (Zg (Zd (Zx rfl rfl ?_))))
    exact ⟨_, rfl, hb1, by rw [(Zcx l).2]; intro j j0 j1; exact ha j j0 (by omega)⟩
  refine Zn (Zd (Zh (Zz (Zh (Zh (Zb ?_))))))
  refine st (Zc rfl (st (Zc rfl (st (Zaz Za7 rfl rfl (hl.at0 hb1) (by omega) (by omega) ?_)))))
  rintro b1 o1 _ ⟨rfl, _⟩ hc1 hF1 hlt1
  have hl_1 := Loc.lt hF1
  refine st (Zm Za6 rfl (st (Zs Zbj rfl hc1 (j := 0) rfl (st (Zbf rfl rfl (st (Zc rfl ?_)))))))
  refine Za0 18 rfl (fun h2 => ?_) (fun h2 => ?_)
  · refine Zj rfl rfl (Zj rfl rfl (Zj rfl rfl (Zj rfl rfl (Zj rfl rfl (Zj rfl rfl (st (Zo rfl rfl ?_)))))))
    refine Zg (Zd (Zb5 rfl (Zh (Zb (st (Ze rfl (Zg ?_)))))))
    refine Zd (Zx rfl rfl ?_)
    refine ⟨_, rfl, hb1, ?_⟩
    rw [Ze4 i hi.1 (by omega)]
    rw [ne_eq, Zcd]
    rintro ⟨e1, e2⟩
    first | omega | (have e3 := e2 k (by omega) (by omega); unfold Nd.kid at e3; exact Zi7 e3 (by omega))
  refine stg (Zc rfl (stg (Zc rfl (stg (Zaz Za7 rfl rfl (hl.at0 hb1) (by omega) (by omega) ?_)))))
  rintro b2 o2 _ ⟨rfl, _⟩ hc2 hF2 hlt2
  have hl_2 := Loc.lt hF2
  refine stg (Zm Za6 rfl (stg (Zs Zbj rfl hc2 (j := 0) rfl (stg (Zcj rfl rfl (st (Zo rfl rfl (Zg (Zd ?_)))))))))
  refine Zw rfl (fun h3 => ?_) (fun h3 => ?_)
  · refine Zh (Zb (st (Ze rfl (Zg (Zd (Zx rfl rfl ?_))))))
    refine ⟨_, rfl, hb1, ?_⟩
    rw [Ze4 i hi.1 (by omega)]
    rw [ne_eq, Zcd]
    rintro ⟨e1, e2⟩
    first | omega | (have e3 := e2 k (by omega) (by omega); unfold Nd.kid at e3; exact Zi7 e3 (by omega))
  refine Zn (Zd (Zh (Zb (st (Ze rfl (Zg (Zd ?_)))))))
  refine Zz (Za4 (α := Int) (fun (k : Int) => [(0, va), (3, .int .i64 i), (4, .int .i64 k)]) (fun (k : Int) W => Below w.heap.size w W ∧ (0 ≤ k ∧ k ≤ 4) ∧ (∀ j : Int, 0 ≤ j → j < k → Zf3 l i ((ix l i).kid j) = true)) (fun (k : Int) => (4 - k).toNat) (0) ⟨hb1, by omega, fun j _ _ => by omega⟩ (by exact ⟨rfl, rfl, rfl, trivial⟩) ?_)
  rintro k w2 ⟨hb2, hk, hk2⟩
  have hz2 := hb2.size
  refine Zh (Zh (Zb (st (Zc rfl (st (Zbf rfl rfl (Zg (Zd ?_))))))))
  refine Zw rfl (fun h4 => ?_) (fun h4 => ?_)
  rotate_left
  · refine Zan (Zk (Zk (Zt (Zab (Zd (Zb ?_))))))
    refine st (Zc rfl (st (Zaj rfl rfl (by omega) (st (Ze rfl (Zg ?_))))))
    exact Zad ((i + 1)) ⟨hb2, by omega, fun j j0 j1 => if e : j = i then by rw [e, Zcd]; exact ⟨by omega, fun k k0 k1 => hk2 k k0 (by omega)⟩ else ha j j0 (by omega)⟩ (by omega) (by exact ⟨rfl, rfl, trivial⟩)
  refine Zn (Zd (Zh (Zz (Zh (Zb (st (Zc rfl ?_)))))))
  refine st (Zc rfl (st (Zc rfl (st (Zaz Za7 rfl rfl (hl.at0 hb2) (by omega) (by omega) ?_)))))
  rintro b3 o3 _ ⟨rfl, _⟩ hc3 hF3 hlt3
  have hl_3 := Loc.lt hF3
  refine st (Zm Za5 rfl (st (Zbs Zcq rfl rfl (by omega) (by omega) (st (Zdz Zbj rfl hc3 (j := 1) rfl rfl (by omega) (by omega) (st (Ze rfl (Zg (Zd ?_)))))))))
  refine w_cut (α := Unit) (fun (_ : Unit) => [(0, va), (3, .int .i64 i), (4, .int .i64 k), (5, .int .i64 (Zao ((ix l i).k0) ((ix l i).k1) ((ix l i).k2) ((ix l i).k3) k))]) (fun (_ : Unit) W => Below w.heap.size w W ∧ (0 ≤ (Zao ((ix l i).k0) ((ix l i).k1) ((ix l i).k2) ((ix l i).k3) k) ∧ ((ix l i).lv = 1 → (Zao ((ix l i).k0) ((ix l i).k1) ((ix l i).k2) ((ix l i).k3) k) ≤ 255))) ?_ ?_
  · refine Zh (Zb (st (Zc rfl (st (Zbf rfl rfl (st (Zc rfl ?_)))))))
    refine Za0 39 rfl (fun h5 => ?_) (fun h5 => ?_)
    · refine Zj rfl rfl (Zj rfl rfl (Zj rfl rfl (Zj rfl rfl (Zj rfl rfl (Zj rfl rfl (Zj rfl rfl ?_))))))
      refine Zak rfl rfl (Zak rfl rfl (Zj rfl rfl (st (Zo rfl rfl (Zg (Zd (Zb5 rfl ?_)))))))
      refine Zh (Zb (st (Ze rfl (Zg (Zd (Zx rfl rfl ?_))))))
      refine ⟨_, rfl, hb2, ?_⟩
      rw [Ze4 i hi.1 (by omega)]
      rw [ne_eq, Zcd]
      rintro ⟨e1, e2⟩
      first | omega | (have e3 := e2 k (by omega) (by omega); unfold Nd.kid at e3; exact Zi7 e3 (by omega))
    refine stg (Zc rfl (stg (Zc rfl (stg (Zaz Za7 rfl rfl (hl.at0 hb2) (by omega) (by omega) ?_)))))
    rintro b4 o4 _ ⟨rfl, _⟩ hc4 hF4 hlt4
    have hl_4 := Loc.lt hF4
    refine stg (Zm Za6 rfl (stg (Zs Zbj rfl hc4 (j := 0) rfl (stg (Zbr rfl rfl (stg (Zc rfl ?_)))))))
    refine Za0 46 rfl (fun h6 => ?_) (fun h6 => ?_)
    rotate_left
    · refine Zj rfl rfl (Zj rfl rfl (stg (Zo rfl rfl (st (Zo rfl rfl (Zg (Zd (Zbv rfl ?_))))))))
      refine Zn ?_
      exact Zfl () ⟨hb2, by omega⟩ (by exact ⟨rfl, rfl, rfl, rfl, trivial⟩)
    refine stg (Zc rfl (stg (Zcj rfl rfl (stg (Zo rfl rfl (st (Zo rfl rfl (Zg (Zd ?_)))))))))
    refine Zw rfl (fun h7 => ?_) (fun h7 => ?_)
    rotate_left
    · refine Zn ?_
      exact Zfl () ⟨hb2, by omega⟩ (by exact ⟨rfl, rfl, rfl, rfl, trivial⟩)
    refine Zh (Zb (st (Ze rfl (Zg (Zd (Zx rfl rfl ?_))))))
    refine ⟨_, rfl, hb2, ?_⟩
    rw [Ze4 i hi.1 (by omega)]
    rw [ne_eq, Zcd]
    rintro ⟨e1, e2⟩
    first | omega | (have e3 := e2 k (by omega) (by omega); unfold Nd.kid at e3; exact Zi7 e3 (by omega))
  rintro _ w3 ⟨hb3, hc9⟩
  have hz3 := hb3.size
  refine Zh ?_
  by_cases h8 : 1 < (ix l i).lv
  rotate_left
  · obtain ⟨b10, o10, _, hat6, ⟨rfl, _⟩, hc10, hF10, hlt10⟩ := (hl.at0 hb3).elem i (by omega) (by omega)
    have hl_10 := Loc.lt hF10
    refine Zby 30 (fun a b => a.grownBy b none) [(some 51, Is <| va), (some 52, Is <| .int .i64 i), (some 53, Is <| .pointer (some ⟨b10, o10, none⟩)), (some 54, Is <| .pointer (some ⟨b10, o10 + 0, none⟩)), (some 55, Is <| .int .i64 ((ix l i).lv)), (some 56, Is <| .bool (decide (1 < (ix l i).lv))), (some 57, Is <| .bool false), (some 58, Is <| undef), (some 59, Is <| undef), (some 60, Is <| .bool false), (some 61, Is <| .bool false), (some 62, Is <| undef), (some 63, Is <| undef), (some 64, Is <| undef), (some 65, Is <| undef), (some 66, Is <| undef), (some 67, Is <| undef), (some 68, Is <| undef), (some 69, Is <| undef), (some 70, Is <| undef), (some 71, Is <| undef), (some 72, Is <| undef), (some 73, Is <| undef), (some 74, Is <| undef), (some 75, Is <| undef), (some 76, Is <| undef), (some 77, Is <| undef), (some 78, Is <| undef), (some 79, Is <| undef), (some 80, Is <| .bool false)] [[], [], [0, 1], [2], [3], [4], [5], [6], [6, 7], [6, 8], [9], [10], [10], [10, 11, 12], [10, 13], [14], [14], [14, 16], [14, 15, 17], [14, 18], [14, 19], [14], [14], [14, 21, 22], [14, 23], [14, 24], [14, 25], [14, 20, 26], [10, 14, 27], [10, 28]] [(0, va), (3, .int .i64 i), (4, .int .i64 k), (5, .int .i64 (Zao ((ix l i).k0) ((ix l i).k1) ((ix l i).k2) ((ix l i).k3) k))] (by exact ⟨rfl, rfl, rfl, rfl, trivial⟩) (by kernel_rfl) (by kernel_rfl) Za (fun _ _ _ => Zaa) ⟨kv, kv, kv, kv, kv, kv, kv, kv, kv, kv, kv, kv, kv, kv, kv, kv, kv, kv, kv, kv, kv, kv, kv, kv, kv, kv, kv, kv, kv, kv, trivial⟩ ?_
    intro w100 k97 hs4
    have hb100 := Zf hb3 k97
    refine ⟨⟨?_, ?_, ?_, ?_, ?_, ?_, ?_, ?_, ?_, ?_, ?_, ?_, ?_, ?_, ?_, ?_, ?_, ?_, ?_, ?_, ?_, ?_, ?_, ?_, ?_, ?_, ?_, ?_, ?_, ?_, trivial⟩, ?_⟩
    · intro w101 k98
      refine op1 (Zc rfl ?_)
      exact ⟨rfl, Za _⟩
    · intro w102 k99
      refine op1 (Zc rfl ?_)
      exact ⟨rfl, Za _⟩
    · intro w103 k100
      intro v_ hv_; subst v_
      rintro _ rfl
      refine op1 (Zbm Za7 rfl rfl hat6 ?_)
      exact ⟨rfl, Za _⟩
    · intro w104 k101
      rintro _ rfl
      refine op1 (Zm Za6 rfl ?_)
      exact ⟨rfl, Za _⟩
    · intro w105 k102
      rintro _ rfl
      refine op1 (Zs Zbj rfl (Zai (Zai hc10 k97) k102) (j := 0) rfl ?_)
      exact ⟨rfl, Za _⟩
    · intro w106 k103
      rintro _ rfl
      refine op1 (Zcj rfl rfl ?_)
      exact ⟨rfl, Za _⟩
    · intro w107 k104
      rintro _ rfl
      refine op1 (Zc rfl ?_)
      exact ⟨(by rw [decide_eq_false h8]), Za _⟩
    · intro w108 k105
      rintro _ rfl
      refine Zax ⟨rfl, Za _⟩
    · intro w109 k106
      rintro _ rfl
      intro v_ hv_; subst v_
      refine Zax ⟨rfl, Za _⟩
    · intro w110 k107
      rintro _ rfl
      intro v_ hv_; subst v_
      refine op1 (Zo rfl rfl ?_)
      exact ⟨rfl, Za _⟩
    · intro w111 k108
      rintro _ rfl
      refine op1 (Zc rfl ?_)
      exact ⟨rfl, Za _⟩
    · intro w112 k109
      rintro _ rfl
      refine Zax ⟨rfl, Za _⟩
    · intro w113 k110
      rintro _ rfl
      refine Zax ⟨rfl, Za _⟩
    · intro w114 k111
      rintro _ rfl
      intro v_ hv_; subst v_
      intro v_ hv_; subst v_
      refine Zax ⟨rfl, Za _⟩
    · intro w115 k112
      rintro _ rfl
      intro v_ hv_; subst v_
      refine Zax ⟨rfl, Za _⟩
    · intro w116 k113
      intro v_ hv_; subst v_
      refine Zfp ⟨rfl, Za _⟩
    · intro w117 k114
      intro v_ hv_; subst v_
      refine Zfp ⟨rfl, Za _⟩
    · intro w118 k115
      intro v_ hv_; subst v_
      intro v_ hv_; subst v_
      refine Zfp ⟨rfl, Za _⟩
    · intro w119 k116
      intro v_ hv_; subst v_
      intro v_ hv_; subst v_
      intro v_ hv_; subst v_
      refine Zfp ⟨rfl, Za _⟩
    · intro w120 k117
      intro v_ hv_; subst v_
      intro v_ hv_; subst v_
      refine Zfp ⟨rfl, Za _⟩
    · intro w121 k118
      intro v_ hv_; subst v_
      intro v_ hv_; subst v_
      refine Zfp ⟨rfl, Za _⟩
    · intro w122 k119
      intro v_ hv_; subst v_
      refine Zfp ⟨rfl, Za _⟩
    · intro w123 k120
      intro v_ hv_; subst v_
      refine Zfp ⟨rfl, Za _⟩
    · intro w124 k121
      intro v_ hv_; subst v_
      intro v_ hv_; subst v_
      intro v_ hv_; subst v_
      refine Zfp ⟨rfl, Za _⟩
    · intro w125 k122
      intro v_ hv_; subst v_
      intro v_ hv_; subst v_
      refine Zfp ⟨rfl, Za _⟩
    · intro w126 k123
      intro v_ hv_; subst v_
      intro v_ hv_; subst v_
      refine Zfp ⟨rfl, Za _⟩
    · intro w127 k124
      intro v_ hv_; subst v_
      intro v_ hv_; subst v_
      refine Zfp ⟨rfl, Za _⟩
    · intro w128 k125
      intro v_ hv_; subst v_
      intro v_ hv_; subst v_
      intro v_ hv_; subst v_
      refine Zfp ⟨rfl, Za _⟩
    · intro w129 k126
      rintro _ rfl
      intro v_ hv_; subst v_
      intro v_ hv_; subst v_
      refine Zax ⟨rfl, Za _⟩
    · intro w130 k127
      rintro _ rfl
      intro v_ hv_; subst v_
      refine op1 (Zo rfl rfl ?_)
      exact ⟨rfl, Za _⟩
    intro w131 k128
    have hb131 := Zf hb100 k128
    intro v_ hv_; subst v_
    rintro _ rfl _ rfl _ rfl _ rfl _ rfl _ rfl
    intro v_ hv_; subst v_
    intro v_ hv_; subst v_
    rintro _ rfl _ rfl
    intro v_ hv_; subst v_
    intro v_ hv_; subst v_
    intro v_ hv_; subst v_
    intro v_ hv_; subst v_
    intro v_ hv_; subst v_
    intro v_ hv_; subst v_
    intro v_ hv_; subst v_
    intro v_ hv_; subst v_
    intro v_ hv_; subst v_
    intro v_ hv_; subst v_
    intro v_ hv_; subst v_
    intro v_ hv_; subst v_
    intro v_ hv_; subst v_
    intro v_ hv_; subst v_
    intro v_ hv_; subst v_
    intro v_ hv_; subst v_
    intro v_ hv_; subst v_
    intro v_ hv_; subst v_
    rintro _ rfl
    refine Zg (Zd (Zbv rfl (Zn (Zab (Zd (Zb ?_))))))
    refine st (Zc rfl (st (Zaj rfl rfl (by omega) (st (Ze rfl (Zg ?_))))))
    exact Zad ((k + 1)) ⟨hb131, by omega, fun j j0 j1 => if e : j = k then by rw [e]; unfold Nd.kid; exact kidB_yes (by omega) (by omega) (by omega) else hk2 j j0 (by omega)⟩ (by omega) (by exact ⟨rfl, rfl, rfl, trivial⟩)
  by_cases h9 : 0 < (Zao ((ix l i).k0) ((ix l i).k1) ((ix l i).k2) ((ix l i).k3) k)
  rotate_left
  · obtain ⟨b9, o9, _, hat5, ⟨rfl, _⟩, hc9, hF9, hlt9⟩ := (hl.at0 hb3).elem i (by omega) (by omega)
    have hl_9 := Loc.lt hF9
    refine Zby 30 (fun a b => a.grownBy b none) [(some 51, Is <| va), (some 52, Is <| .int .i64 i), (some 53, Is <| .pointer (some ⟨b9, o9, none⟩)), (some 54, Is <| .pointer (some ⟨b9, o9 + 0, none⟩)), (some 55, Is <| .int .i64 ((ix l i).lv)), (some 56, Is <| .bool (decide (1 < (ix l i).lv))), (some 57, Is <| .bool true), (some 58, Is <| .int .i64 (Zao ((ix l i).k0) ((ix l i).k1) ((ix l i).k2) ((ix l i).k3) k)), (some 59, Is <| .bool (decide (0 < (Zao ((ix l i).k0) ((ix l i).k1) ((ix l i).k2) ((ix l i).k3) k)))), (some 60, Is <| .bool (decide (0 < (Zao ((ix l i).k0) ((ix l i).k1) ((ix l i).k2) ((ix l i).k3) k)))), (some 61, Is <| .bool false), (some 62, Is <| undef), (some 63, Is <| undef), (some 64, Is <| undef), (some 65, Is <| undef), (some 66, Is <| undef), (some 67, Is <| undef), (some 68, Is <| undef), (some 69, Is <| undef), (some 70, Is <| undef), (some 71, Is <| undef), (some 72, Is <| undef), (some 73, Is <| undef), (some 74, Is <| undef), (some 75, Is <| undef), (some 76, Is <| undef), (some 77, Is <| undef), (some 78, Is <| undef), (some 79, Is <| undef), (some 80, Is <| .bool false)] [[], [], [0, 1], [2], [3], [4], [5], [6], [6, 7], [6, 8], [9], [10], [10], [10, 11, 12], [10, 13], [14], [14], [14, 16], [14, 15, 17], [14, 18], [14, 19], [14], [14], [14, 21, 22], [14, 23], [14, 24], [14, 25], [14, 20, 26], [10, 14, 27], [10, 28]] [(0, va), (3, .int .i64 i), (4, .int .i64 k), (5, .int .i64 (Zao ((ix l i).k0) ((ix l i).k1) ((ix l i).k2) ((ix l i).k3) k))] (by exact ⟨rfl, rfl, rfl, rfl, trivial⟩) (by kernel_rfl) (by kernel_rfl) Za (fun _ _ _ => Zaa) ⟨kv, kv, kv, kv, kv, kv, kv, kv, kv, kv, kv, kv, kv, kv, kv, kv, kv, kv, kv, kv, kv, kv, kv, kv, kv, kv, kv, kv, kv, kv, trivial⟩ ?_
    intro w68 k65 hs3
    have hb68 := Zf hb3 k65
    refine ⟨⟨?_, ?_, ?_, ?_, ?_, ?_, ?_, ?_, ?_, ?_, ?_, ?_, ?_, ?_, ?_, ?_, ?_, ?_, ?_, ?_, ?_, ?_, ?_, ?_, ?_, ?_, ?_, ?_, ?_, ?_, trivial⟩, ?_⟩
    · intro w69 k66
      refine op1 (Zc rfl ?_)
      exact ⟨rfl, Za _⟩
    · intro w70 k67
      refine op1 (Zc rfl ?_)
      exact ⟨rfl, Za _⟩
    · intro w71 k68
      intro v_ hv_; subst v_
      rintro _ rfl
      refine op1 (Zbm Za7 rfl rfl hat5 ?_)
      exact ⟨rfl, Za _⟩
    · intro w72 k69
      rintro _ rfl
      refine op1 (Zm Za6 rfl ?_)
      exact ⟨rfl, Za _⟩
    · intro w73 k70
      rintro _ rfl
      refine op1 (Zs Zbj rfl (Zai (Zai hc9 k65) k70) (j := 0) rfl ?_)
      exact ⟨rfl, Za _⟩
    · intro w74 k71
      rintro _ rfl
      refine op1 (Zcj rfl rfl ?_)
      exact ⟨rfl, Za _⟩
    · intro w75 k72
      rintro _ rfl
      refine op1 (Zc rfl ?_)
      exact ⟨(by rw [decide_eq_true h8]), Za _⟩
    · intro w76 k73
      rintro _ rfl
      refine Zal (Zc rfl ?_)
      exact ⟨rfl, Za _⟩
    · intro w77 k74
      rintro _ rfl _ rfl
      refine Zal (Zcj rfl rfl ?_)
      exact ⟨rfl, Za _⟩
    · intro w78 k75
      rintro _ rfl _ rfl
      refine op1 (Zo rfl rfl ?_)
      exact ⟨rfl, Za _⟩
    · intro w79 k76
      rintro _ rfl
      refine op1 (Zc rfl ?_)
      exact ⟨(by rw [decide_eq_false h9]), Za _⟩
    · intro w80 k77
      rintro _ rfl
      refine Zax ⟨rfl, Za _⟩
    · intro w81 k78
      rintro _ rfl
      refine Zax ⟨rfl, Za _⟩
    · intro w82 k79
      rintro _ rfl
      intro v_ hv_; subst v_
      intro v_ hv_; subst v_
      refine Zax ⟨rfl, Za _⟩
    · intro w83 k80
      rintro _ rfl
      intro v_ hv_; subst v_
      refine Zax ⟨rfl, Za _⟩
    · intro w84 k81
      intro v_ hv_; subst v_
      refine Zfp ⟨rfl, Za _⟩
    · intro w85 k82
      intro v_ hv_; subst v_
      refine Zfp ⟨rfl, Za _⟩
    · intro w86 k83
      intro v_ hv_; subst v_
      intro v_ hv_; subst v_
      refine Zfp ⟨rfl, Za _⟩
    · intro w87 k84
      intro v_ hv_; subst v_
      intro v_ hv_; subst v_
      intro v_ hv_; subst v_
      refine Zfp ⟨rfl, Za _⟩
    · intro w88 k85
      intro v_ hv_; subst v_
      intro v_ hv_; subst v_
      refine Zfp ⟨rfl, Za _⟩
    · intro w89 k86
      intro v_ hv_; subst v_
      intro v_ hv_; subst v_
      refine Zfp ⟨rfl, Za _⟩
    · intro w90 k87
      intro v_ hv_; subst v_
      refine Zfp ⟨rfl, Za _⟩
    · intro w91 k88
      intro v_ hv_; subst v_
      refine Zfp ⟨rfl, Za _⟩
    · intro w92 k89
      intro v_ hv_; subst v_
      intro v_ hv_; subst v_
      intro v_ hv_; subst v_
      refine Zfp ⟨rfl, Za _⟩
    · intro w93 k90
      intro v_ hv_; subst v_
      intro v_ hv_; subst v_
      refine Zfp ⟨rfl, Za _⟩
    · intro w94 k91
      intro v_ hv_; subst v_
      intro v_ hv_; subst v_
      refine Zfp ⟨rfl, Za _⟩
    · intro w95 k92
      intro v_ hv_; subst v_
      intro v_ hv_; subst v_
      refine Zfp ⟨rfl, Za _⟩
    · intro w96 k93
      intro v_ hv_; subst v_
      intro v_ hv_; subst v_
      intro v_ hv_; subst v_
      refine Zfp ⟨rfl, Za _⟩
    · intro w97 k94
      rintro _ rfl
      intro v_ hv_; subst v_
      intro v_ hv_; subst v_
      refine Zax ⟨rfl, Za _⟩
    · intro w98 k95
      rintro _ rfl
      intro v_ hv_; subst v_
      refine op1 (Zo rfl rfl ?_)
      exact ⟨rfl, Za _⟩
    intro w99 k96
    have hb99 := Zf hb68 k96
    intro v_ hv_; subst v_
    rintro _ rfl _ rfl _ rfl _ rfl _ rfl _ rfl _ rfl _ rfl _ rfl _ rfl
    intro v_ hv_; subst v_
    intro v_ hv_; subst v_
    intro v_ hv_; subst v_
    intro v_ hv_; subst v_
    intro v_ hv_; subst v_
    intro v_ hv_; subst v_
    intro v_ hv_; subst v_
    intro v_ hv_; subst v_
    intro v_ hv_; subst v_
    intro v_ hv_; subst v_
    intro v_ hv_; subst v_
    intro v_ hv_; subst v_
    intro v_ hv_; subst v_
    intro v_ hv_; subst v_
    intro v_ hv_; subst v_
    intro v_ hv_; subst v_
    intro v_ hv_; subst v_
    intro v_ hv_; subst v_
    rintro _ rfl
    refine Zg (Zd (Zbv rfl (Zn (Zab (Zd (Zb ?_))))))
    refine st (Zc rfl (st (Zaj rfl rfl (by omega) (st (Ze rfl (Zg ?_))))))
    exact Zad ((k + 1)) ⟨hb99, by omega, fun j j0 j1 => if e : j = k then by rw [e]; unfold Nd.kid; exact kidB_yes (by omega) (by omega) (by omega) else hk2 j j0 (by omega)⟩ (by omega) (by exact ⟨rfl, rfl, rfl, trivial⟩)
  by_cases h10 : i < (Zao ((ix l i).k0) ((ix l i).k1) ((ix l i).k2) ((ix l i).k3) k)
  · obtain ⟨b5, o5, _, hat1, ⟨rfl, _⟩, hc5, hF5, hlt5⟩ := (hl.at0 hb3).elem i (by omega) (by omega)
    have hl_5 := Loc.lt hF5
    refine Zby 30 (fun a b => a.grownBy b none) [(some 51, Is <| va), (some 52, Is <| .int .i64 i), (some 53, Is <| .pointer (some ⟨b5, o5, none⟩)), (some 54, Is <| .pointer (some ⟨b5, o5 + 0, none⟩)), (some 55, Is <| .int .i64 ((ix l i).lv)), (some 56, Is <| .bool (decide (1 < (ix l i).lv))), (some 57, Is <| .bool true), (some 58, Is <| .int .i64 (Zao ((ix l i).k0) ((ix l i).k1) ((ix l i).k2) ((ix l i).k3) k)), (some 59, Is <| .bool (decide (0 < (Zao ((ix l i).k0) ((ix l i).k1) ((ix l i).k2) ((ix l i).k3) k)))), (some 60, Is <| .bool (decide (0 < (Zao ((ix l i).k0) ((ix l i).k1) ((ix l i).k2) ((ix l i).k3) k)))), (some 61, Is <| .bool true), (some 62, Is <| .int .i64 (Zao ((ix l i).k0) ((ix l i).k1) ((ix l i).k2) ((ix l i).k3) k)), (some 63, Is <| .int .i64 i), (some 64, Is <| .bool (decide (i < (Zao ((ix l i).k0) ((ix l i).k1) ((ix l i).k2) ((ix l i).k3) k)))), (some 65, Is <| .bool true), (some 66, Is <| undef), (some 67, Is <| undef), (some 68, Is <| undef), (some 69, Is <| undef), (some 70, Is <| undef), (some 71, Is <| undef), (some 72, Is <| undef), (some 73, Is <| undef), (some 74, Is <| undef), (some 75, Is <| undef), (some 76, Is <| undef), (some 77, Is <| undef), (some 78, Is <| undef), (some 79, Is <| .bool true), (some 80, Is <| .bool true)] [[], [], [0, 1], [2], [3], [4], [5], [6], [6, 7], [6, 8], [9], [10], [10], [10, 11, 12], [10, 13], [14], [14], [14, 16], [14, 15, 17], [14, 18], [14, 19], [14], [14], [14, 21, 22], [14, 23], [14, 24], [14, 25], [14, 20, 26], [10, 14, 27], [10, 28]] [(0, va), (3, .int .i64 i), (4, .int .i64 k), (5, .int .i64 (Zao ((ix l i).k0) ((ix l i).k1) ((ix l i).k2) ((ix l i).k3) k))] (by exact ⟨rfl, rfl, rfl, rfl, trivial⟩) (by kernel_rfl) (by kernel_rfl) Za (fun _ _ _ => Zaa) ⟨kv, kv, kv, kv, kv, kv, kv, kv, kv, kv, kv, kv, kv, kv, kv, kv, kv, kv, kv, kv, kv, kv, kv, kv, kv, kv, kv, kv, kv, kv, trivial⟩ ?_
    intro w4 k1 hs1
    have hb4 := Zf hb3 k1
    refine ⟨⟨?_, ?_, ?_, ?_, ?_, ?_, ?_, ?_, ?_, ?_, ?_, ?_, ?_, ?_, ?_, ?_, ?_, ?_, ?_, ?_, ?_, ?_, ?_, ?_, ?_, ?_, ?_, ?_, ?_, ?_, trivial⟩, ?_⟩
    · intro w5 k2
      refine op1 (Zc rfl ?_)
      exact ⟨rfl, Za _⟩
    · intro w6 k3
      refine op1 (Zc rfl ?_)
      exact ⟨rfl, Za _⟩
    · intro w7 k4
      intro v_ hv_; subst v_
      rintro _ rfl
      refine op1 (Zbm Za7 rfl rfl hat1 ?_)
      exact ⟨rfl, Za _⟩
    · intro w8 k5
      rintro _ rfl
      refine op1 (Zm Za6 rfl ?_)
      exact ⟨rfl, Za _⟩
    · intro w9 k6
      rintro _ rfl
      refine op1 (Zs Zbj rfl (Zai (Zai hc5 k1) k6) (j := 0) rfl ?_)
      exact ⟨rfl, Za _⟩
    · intro w10 k7
      rintro _ rfl
      refine op1 (Zcj rfl rfl ?_)
      exact ⟨rfl, Za _⟩
    · intro w11 k8
      rintro _ rfl
      refine op1 (Zc rfl ?_)
      exact ⟨(by rw [decide_eq_true h8]), Za _⟩
    · intro w12 k9
      rintro _ rfl
      refine Zal (Zc rfl ?_)
      exact ⟨rfl, Za _⟩
    · intro w13 k10
      rintro _ rfl _ rfl
      refine Zal (Zcj rfl rfl ?_)
      exact ⟨rfl, Za _⟩
    · intro w14 k11
      rintro _ rfl _ rfl
      refine op1 (Zo rfl rfl ?_)
      exact ⟨rfl, Za _⟩
    · intro w15 k12
      rintro _ rfl
      refine op1 (Zc rfl ?_)
      exact ⟨(by rw [decide_eq_true h9]), Za _⟩
    · intro w16 k13
      rintro _ rfl
      refine Zal (Zc rfl ?_)
      exact ⟨rfl, Za _⟩
    · intro w17 k14
      rintro _ rfl
      refine Zal (Zc rfl ?_)
      exact ⟨rfl, Za _⟩
    · intro w18 k15
      rintro _ rfl _ rfl _ rfl
      refine Zal (Zcj rfl rfl ?_)
      exact ⟨rfl, Za _⟩
    · intro w19 k16
      rintro _ rfl _ rfl
      refine Zal (Zc rfl ?_)
      exact ⟨(by rw [decide_eq_true h10]), Za _⟩
    · intro w20 k17
      rintro _ rfl
      refine Zax ⟨rfl, Za _⟩
    · intro w21 k18
      rintro _ rfl
      refine Zax ⟨rfl, Za _⟩
    · intro w22 k19
      rintro _ rfl
      intro v_ hv_; subst v_
      refine Zax ⟨rfl, Za _⟩
    · intro w23 k20
      rintro _ rfl
      intro v_ hv_; subst v_
      intro v_ hv_; subst v_
      refine Zax ⟨rfl, Za _⟩
    · intro w24 k21
      rintro _ rfl
      intro v_ hv_; subst v_
      refine Zax ⟨rfl, Za _⟩
    · intro w25 k22
      rintro _ rfl
      intro v_ hv_; subst v_
      refine Zax ⟨rfl, Za _⟩
    · intro w26 k23
      rintro _ rfl
      refine Zax ⟨rfl, Za _⟩
    · intro w27 k24
      rintro _ rfl
      refine Zax ⟨rfl, Za _⟩
    · intro w28 k25
      rintro _ rfl
      intro v_ hv_; subst v_
      intro v_ hv_; subst v_
      refine Zax ⟨rfl, Za _⟩
    · intro w29 k26
      rintro _ rfl
      intro v_ hv_; subst v_
      refine Zax ⟨rfl, Za _⟩
    · intro w30 k27
      rintro _ rfl
      intro v_ hv_; subst v_
      refine Zax ⟨rfl, Za _⟩
    · intro w31 k28
      rintro _ rfl
      intro v_ hv_; subst v_
      refine Zax ⟨rfl, Za _⟩
    · intro w32 k29
      rintro _ rfl
      intro v_ hv_; subst v_
      intro v_ hv_; subst v_
      refine Zax ⟨rfl, Za _⟩
    · intro w33 k30
      rintro _ rfl _ rfl
      intro v_ hv_; subst v_
      refine Zal (Zo rfl rfl ?_)
      exact ⟨rfl, Za _⟩
    · intro w34 k31
      rintro _ rfl _ rfl
      refine op1 (Zo rfl rfl ?_)
      exact ⟨rfl, Za _⟩
    intro w35 k32
    have hb35 := Zf hb4 k32
    intro v_ hv_; subst v_
    rintro _ rfl _ rfl _ rfl _ rfl _ rfl _ rfl _ rfl _ rfl _ rfl _ rfl _ rfl _ rfl _ rfl _ rfl
    intro v_ hv_; subst v_
    intro v_ hv_; subst v_
    intro v_ hv_; subst v_
    intro v_ hv_; subst v_
    intro v_ hv_; subst v_
    intro v_ hv_; subst v_
    intro v_ hv_; subst v_
    intro v_ hv_; subst v_
    intro v_ hv_; subst v_
    intro v_ hv_; subst v_
    intro v_ hv_; subst v_
    intro v_ hv_; subst v_
    intro v_ hv_; subst v_
    rintro _ rfl _ rfl
    refine Zg (Zd (Zb5 rfl (Zh (Zb (st (Ze rfl (Zg ?_)))))))
    refine Zd (Zx rfl rfl ?_)
    refine ⟨_, rfl, hb35, ?_⟩
    rw [Ze4 i hi.1 (by omega)]
    rw [ne_eq, Zcd]
    rintro ⟨e1, e2⟩
    first | omega | (have e3 := e2 k (by omega) (by omega); unfold Nd.kid at e3; exact Zi7 e3 (by omega))
  obtain ⟨b6, o6, _, hat2, ⟨rfl, _⟩, hc6, hF6, hlt6⟩ := (hl.at0 hb3).elem i (by omega) (by omega)
  have hl_6 := Loc.lt hF6
  obtain ⟨b7, o7, _, hat3, ⟨rfl, _⟩, hc7, hF7, hlt7⟩ := (hl.at0 hb3).elem ((Zao ((ix l i).k0) ((ix l i).k1) ((ix l i).k2) ((ix l i).k3) k) - 1) (by omega) (by omega)
  have hl_7 := Loc.lt hF7
  obtain ⟨b8, o8, _, hat4, ⟨rfl, _⟩, hc8, hF8, hlt8⟩ := (hl.at0 hb3).elem i (by omega) (by omega)
  have hl_8 := Loc.lt hF8
  refine Zby 30 (fun a b => a.grownBy b none) [(some 51, Is <| va), (some 52, Is <| .int .i64 i), (some 53, Is <| .pointer (some ⟨b6, o6, none⟩)), (some 54, Is <| .pointer (some ⟨b6, o6 + 0, none⟩)), (some 55, Is <| .int .i64 ((ix l i).lv)), (some 56, Is <| .bool (decide (1 < (ix l i).lv))), (some 57, Is <| .bool true), (some 58, Is <| .int .i64 (Zao ((ix l i).k0) ((ix l i).k1) ((ix l i).k2) ((ix l i).k3) k)), (some 59, Is <| .bool (decide (0 < (Zao ((ix l i).k0) ((ix l i).k1) ((ix l i).k2) ((ix l i).k3) k)))), (some 60, Is <| .bool (decide (0 < (Zao ((ix l i).k0) ((ix l i).k1) ((ix l i).k2) ((ix l i).k3) k)))), (some 61, Is <| .bool true), (some 62, Is <| .int .i64 (Zao ((ix l i).k0) ((ix l i).k1) ((ix l i).k2) ((ix l i).k3) k)), (some 63, Is <| .int .i64 i), (some 64, Is <| .bool (decide (i < (Zao ((ix l i).k0) ((ix l i).k1) ((ix l i).k2) ((ix l i).k3) k)))), (some 65, Is <| .bool false), (some 66, Is <| va), (some 67, Is <| .int .i64 (Zao ((ix l i).k0) ((ix l i).k1) ((ix l i).k2) ((ix l i).k3) k)), (some 68, Is <| .int .i64 ((Zao ((ix l i).k0) ((ix l i).k1) ((ix l i).k2) ((ix l i).k3) k) - 1)), (some 69, Is <| .pointer (some ⟨b7, o7, none⟩)), (some 70, Is <| .pointer (some ⟨b7, o7 + 0, none⟩)), (some 71, Is <| .int .i64 ((ix l ((Zao ((ix l i).k0) ((ix l i).k1) ((ix l i).k2) ((ix l i).k3) k) - 1)).lv)), (some 72, Is <| va), (some 73, Is <| .int .i64 i), (some 74, Is <| .pointer (some ⟨b8, o8, none⟩)), (some 75, Is <| .pointer (some ⟨b8, o8 + 0, none⟩)), (some 76, Is <| .int .i64 ((ix l i).lv)), (some 77, Is <| .int .i64 ((ix l i).lv - 1)), (some 78, Is <| .bool (decide ((ix l ((Zao ((ix l i).k0) ((ix l i).k1) ((ix l i).k2) ((ix l i).k3) k) - 1)).lv ≠ ((ix l i).lv - 1)))), (some 79, Is <| .bool (decide ((ix l ((Zao ((ix l i).k0) ((ix l i).k1) ((ix l i).k2) ((ix l i).k3) k) - 1)).lv ≠ ((ix l i).lv - 1)))), (some 80, Is <| .bool (decide ((ix l ((Zao ((ix l i).k0) ((ix l i).k1) ((ix l i).k2) ((ix l i).k3) k) - 1)).lv ≠ ((ix l i).lv - 1))))] [[], [], [0, 1], [2], [3], [4], [5], [6], [6, 7], [6, 8], [9], [10], [10], [10, 11, 12], [10, 13], [14], [14], [14, 16], [14, 15, 17], [14, 18], [14, 19], [14], [14], [14, 21, 22], [14, 23], [14, 24], [14, 25], [14, 20, 26], [10, 14, 27], [10, 28]] [(0, va), (3, .int .i64 i), (4, .int .i64 k), (5, .int .i64 (Zao ((ix l i).k0) ((ix l i).k1) ((ix l i).k2) ((ix l i).k3) k))] (by exact ⟨rfl, rfl, rfl, rfl, trivial⟩) (by kernel_rfl) (by kernel_rfl) Za (fun _ _ _ => Zaa) ⟨kv, kv, kv, kv, kv, kv, kv, kv, kv, kv, kv, kv, kv, kv, kv, kv, kv, kv, kv, kv, kv, kv, kv, kv, kv, kv, kv, kv, kv, kv, trivial⟩ ?_
  intro w36 k33 hs2
  have hb36 := Zf hb3 k33
  refine ⟨⟨?_, ?_, ?_, ?_, ?_, ?_, ?_, ?_, ?_, ?_, ?_, ?_, ?_, ?_, ?_, ?_, ?_, ?_, ?_, ?_, ?_, ?_, ?_, ?_, ?_, ?_, ?_, ?_, ?_, ?_, trivial⟩, ?_⟩
  · intro w37 k34
    refine op1 (Zc rfl ?_)
    exact ⟨rfl, Za _⟩
  · intro w38 k35
    refine op1 (Zc rfl ?_)
    exact ⟨rfl, Za _⟩
  · intro w39 k36
    intro v_ hv_; subst v_
    rintro _ rfl
    refine op1 (Zbm Za7 rfl rfl hat2 ?_)
    exact ⟨rfl, Za _⟩
  · intro w40 k37
    rintro _ rfl
    refine op1 (Zm Za6 rfl ?_)
    exact ⟨rfl, Za _⟩
  · intro w41 k38
    rintro _ rfl
    refine op1 (Zs Zbj rfl (Zai (Zai hc6 k33) k38) (j := 0) rfl ?_)
    exact ⟨rfl, Za _⟩
  · intro w42 k39
    rintro _ rfl
    refine op1 (Zcj rfl rfl ?_)
    exact ⟨rfl, Za _⟩
  · intro w43 k40
    rintro _ rfl
    refine op1 (Zc rfl ?_)
    exact ⟨(by rw [decide_eq_true h8]), Za _⟩
  · intro w44 k41
    rintro _ rfl
    refine Zal (Zc rfl ?_)
    exact ⟨rfl, Za _⟩
  · intro w45 k42
    rintro _ rfl _ rfl
    refine Zal (Zcj rfl rfl ?_)
    exact ⟨rfl, Za _⟩
  · intro w46 k43
    rintro _ rfl _ rfl
    refine op1 (Zo rfl rfl ?_)
    exact ⟨rfl, Za _⟩
  · intro w47 k44
    rintro _ rfl
    refine op1 (Zc rfl ?_)
    exact ⟨(by rw [decide_eq_true h9]), Za _⟩
  · intro w48 k45
    rintro _ rfl
    refine Zal (Zc rfl ?_)
    exact ⟨rfl, Za _⟩
  · intro w49 k46
    rintro _ rfl
    refine Zal (Zc rfl ?_)
    exact ⟨rfl, Za _⟩
  · intro w50 k47
    rintro _ rfl _ rfl _ rfl
    refine Zal (Zcj rfl rfl ?_)
    exact ⟨rfl, Za _⟩
  · intro w51 k48
    rintro _ rfl _ rfl
    refine Zal (Zc rfl ?_)
    exact ⟨(by rw [decide_eq_false h10]), Za _⟩
  · intro w52 k49
    rintro _ rfl
    refine Zal (Zc rfl ?_)
    exact ⟨rfl, Za _⟩
  · intro w53 k50
    rintro _ rfl
    refine Zal (Zc rfl ?_)
    exact ⟨rfl, Za _⟩
  · intro w54 k51
    rintro _ rfl _ rfl
    refine Zal (Zbh rfl rfl (by omega) ?_)
    exact ⟨rfl, Za _⟩
  · intro w55 k52
    rintro _ rfl
    intro v_ hv_; subst v_
    rintro _ rfl
    refine Zal (Zbm Za7 rfl rfl hat3 ?_)
    exact ⟨rfl, Za _⟩
  · intro w56 k53
    rintro _ rfl _ rfl
    refine Zal (Zm Za6 rfl ?_)
    exact ⟨rfl, Za _⟩
  · intro w57 k54
    rintro _ rfl _ rfl
    refine Zal (Zs Zbj rfl (Zai (Zai hc7 k33) k54) (j := 0) rfl ?_)
    exact ⟨rfl, Za _⟩
  · intro w58 k55
    rintro _ rfl
    refine Zal (Zc rfl ?_)
    exact ⟨rfl, Za _⟩
  · intro w59 k56
    rintro _ rfl
    refine Zal (Zc rfl ?_)
    exact ⟨rfl, Za _⟩
  · intro w60 k57
    rintro _ rfl
    intro v_ hv_; subst v_
    rintro _ rfl
    refine Zal (Zbm Za7 rfl rfl hat4 ?_)
    exact ⟨rfl, Za _⟩
  · intro w61 k58
    rintro _ rfl _ rfl
    refine Zal (Zm Za6 rfl ?_)
    exact ⟨rfl, Za _⟩
  · intro w62 k59
    rintro _ rfl _ rfl
    refine Zal (Zs Zbj rfl (Zai (Zai hc8 k33) k59) (j := 0) rfl ?_)
    exact ⟨rfl, Za _⟩
  · intro w63 k60
    rintro _ rfl _ rfl
    refine Zal (Zbh rfl rfl (by omega) ?_)
    exact ⟨rfl, Za _⟩
  · intro w64 k61
    rintro _ rfl _ rfl _ rfl
    refine Zal (s_ne rfl rfl ?_)
    exact ⟨rfl, Za _⟩
  · intro w65 k62
    rintro _ rfl _ rfl _ rfl
    refine Zal (Zo rfl rfl ?_)
    exact ⟨rfl, Za _⟩
  · intro w66 k63
    rintro _ rfl _ rfl
    refine op1 (Zo rfl rfl ?_)
    exact ⟨rfl, Za _⟩
  intro w67 k64
  have hb67 := Zf hb36 k64
  intro v_ hv_; subst v_
  rintro _ rfl _ rfl _ rfl _ rfl _ rfl _ rfl _ rfl _ rfl _ rfl _ rfl _ rfl _ rfl _ rfl _ rfl
  intro v_ hv_; subst v_
  rintro _ rfl _ rfl _ rfl _ rfl _ rfl
  intro v_ hv_; subst v_
  rintro _ rfl _ rfl _ rfl _ rfl _ rfl _ rfl _ rfl _ rfl
  refine Zg (Zd ?_)
  refine Zw rfl (fun h11 => ?_) (fun h11 => ?_)
  · refine Zh (Zb (st (Ze rfl (Zg (Zd (Zx rfl rfl ?_))))))
    refine ⟨_, rfl, hb67, ?_⟩
    rw [Ze4 i hi.1 (by omega)]
    rw [ne_eq, Zcd]
    rintro ⟨e1, e2⟩
    first | omega | (have e3 := e2 k (by omega) (by omega); unfold Nd.kid at e3; exact Zi7 e3 (by omega))
  refine Zn (Zab (Zd (Zb (st (Zc rfl (st (Zaj rfl rfl (by omega) (st (Ze rfl ?_)))))))))
  refine Zg ?_
  exact Zad ((k + 1)) ⟨hb67, by omega, fun j j0 j1 => if e : j = k then by rw [e]; unfold Nd.kid; exact kidB_yes (by omega) (by omega) (by omega) else hk2 j j0 (by omega)⟩ (by omega) (by exact ⟨rfl, rfl, rfl, trivial⟩)
end Go.Proofs.Ytfljelnfjbbknaa.Nd
namespace Go.Proofs.Ytfljelnfjbbknaa.Lm
open Go.RowKit Go.Gw
theorem Zbz : OneF Try.prog 29 := ⟨by kernel_rfl⟩
theorem Zbq : SlF Try.prog 29 83 1 4 (.int .u32 0) := ⟨by kernel_rfl, by kernel_rfl, rfl, by decide⟩
theorem Zc4 : OneF Try.prog 83 := ⟨by kernel_rfl⟩
theorem fn111 : FunF Try.prog 111 := ⟨_, _, Try.func111, by decide +kernel, rfl⟩
theorem fn103 : FunF Try.prog 103 := ⟨_, _, Try.func103, by decide +kernel, rfl⟩
theorem fn99 : FunF Try.prog 99 := ⟨_, _, Try.func99, by decide +kernel, rfl⟩
theorem Zbj : OneF Try.prog 3 := ⟨by kernel_rfl⟩
theorem zero3 : ZeroF Try.prog 3 #[.int .i64 0] := ⟨by kernel_rfl⟩
theorem fn104 : FunF Try.prog 104 := ⟨_, _, Try.func104, by decide +kernel, rfl⟩
theorem fn114 : FunF Try.prog 114 := ⟨_, _, Try.func114, by decide +kernel, rfl⟩
theorem Zdn : Go.Program.underlying Try.prog 83 = some (.int .u32) := by kernel_rfl
theorem Zea : Go.Program.underlying Try.prog 81 = some (.int .u64) := by kernel_rfl
theorem fn112 : FunF Try.prog 112 := ⟨_, _, Try.func112, by decide +kernel, rfl⟩
theorem fn82 : FunF Try.prog 82 := ⟨_, _, Try.func82, by decide +kernel, rfl⟩
theorem fn113 : FunF Try.prog 113 := ⟨_, _, Try.func113, by decide +kernel, rfl⟩
theorem fn98 : FunF Try.prog 98 := ⟨_, _, Try.func98, by decide +kernel, rfl⟩
theorem Zif : Go.Program.underlying Try.prog 5 = some (.int .u8) := by kernel_rfl
theorem str9 : StrF Try.prog 9 := ⟨by kernel_rfl⟩
theorem Zjn : Go.Program.underlying Try.prog 3 = some (.int .i64) := by kernel_rfl
theorem fn106 : FunF Try.prog 106 := ⟨_, _, Try.func106, by decide +kernel, rfl⟩
theorem Zcm : SlF Try.prog 68 4 1 1 (.bool false) := ⟨by kernel_rfl, by kernel_rfl, rfl, by decide⟩
theorem Zdv : OneF Try.prog 4 := ⟨by kernel_rfl⟩
theorem nz4 : ∃ ie, Try.prog.info? 4 = some ie ∧ 0 < ie.size := nz_of (by kernel_rfl)
theorem fn105 : FunF Try.prog 105 := ⟨_, _, Try.func105, by decide +kernel, rfl⟩
theorem nz83 : ∃ ie, Try.prog.info? 83 = some ie ∧ 0 < ie.size := nz_of (by kernel_rfl)
theorem fn85 : FunF Try.prog 85 := ⟨_, _, Try.func85, by decide +kernel, rfl⟩
theorem fn87 : FunF Try.prog 87 := ⟨_, _, Try.func87, by decide +kernel, rfl⟩
theorem fn86 : FunF Try.prog 86 := ⟨_, _, Try.func86, by decide +kernel, rfl⟩
theorem bool4 : Go.Program.underlying Try.prog 4 = some .bool := by kernel_rfl
theorem fn88 : FunF Try.prog 88 := ⟨_, _, Try.func88, by decide +kernel, rfl⟩
end Go.Proofs.Ytfljelnfjbbknaa.Lm
namespace Go.Proofs.Ytfljelnfjbbknaa.Lm
open Go.RowKit Go.Gw
theorem Zbl : FieldF Try.prog 31 1 1 := ⟨by kernel_rfl⟩
theorem fn57 : FunF Try.prog 57 := ⟨_, _, Try.func57, by decide +kernel, rfl⟩
theorem Zcy : FieldF Try.prog 31 0 0 := ⟨by kernel_rfl⟩
theorem Zcw : ZeroF Try.prog 31 #[.bool false, .slice none 0 0] := ⟨by kernel_rfl⟩
theorem Zaf : RowF Try.prog 31 2 := ⟨by kernel_rfl⟩
theorem fn81 : FunF Try.prog 81 := ⟨_, _, Try.func81, by decide +kernel, rfl⟩
theorem fn76 : FunF Try.prog 76 := ⟨_, _, Try.func76, by decide +kernel, rfl⟩
theorem fn100 : FunF Try.prog 100 := ⟨_, _, Try.func100, by decide +kernel, rfl⟩
theorem fn101 : FunF Try.prog 101 := ⟨_, _, Try.func101, by decide +kernel, rfl⟩
theorem fn78 : FunF Try.prog 78 := ⟨_, _, Try.func78, by decide +kernel, rfl⟩
theorem fn77 : FunF Try.prog 77 := ⟨_, _, Try.func77, by decide +kernel, rfl⟩
theorem fn56 : FunF Try.prog 56 := ⟨_, _, Try.func56, by decide +kernel, rfl⟩
theorem fn84 : FunF Try.prog 84 := ⟨_, _, Try.func84, by decide +kernel, rfl⟩
theorem fn53 : FunF Try.prog 53 := ⟨_, _, Try.func53, by decide +kernel, rfl⟩
theorem fn54 : FunF Try.prog 54 := ⟨_, _, Try.func54, by decide +kernel, rfl⟩
theorem fn55 : FunF Try.prog 55 := ⟨_, _, Try.func55, by decide +kernel, rfl⟩
theorem fn48 : FunF Try.prog 48 := ⟨_, _, Try.func48, by decide +kernel, rfl⟩
theorem fn22 : FunF Try.prog 22 := ⟨_, _, Try.func22, by decide +kernel, rfl⟩
theorem fn21 : FunF Try.prog 21 := ⟨_, _, Try.func21, by decide +kernel, rfl⟩
theorem fn102 : FunF Try.prog 102 := ⟨_, _, Try.func102, by decide +kernel, rfl⟩
theorem fn20 : FunF Try.prog 20 := ⟨_, _, Try.func20, by decide +kernel, rfl⟩
theorem fn80 : FunF Try.prog 80 := ⟨_, _, Try.func80, by decide +kernel, rfl⟩
end Go.Proofs.Ytfljelnfjbbknaa.Lm
