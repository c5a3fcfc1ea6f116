/- Part of the proof: a library for walks, plain laws, and functions' walks. -/
import Derived.Test.YtfljelnfjbbknaaM4
import Derived.Test.YtfljelnfjbbknaaM2
import Derived.Test.YtfljelnfjbbknaaM3
import Derived.Test.YtfljelnfjbbknaaRows
import Derived.ChangeMaps5
import Derived.OpenShut
set_option linter.unusedSimpArgs false
set_option linter.unusedVariables false
/-! ### Cells into a tree: the plain law of 'place' -/
namespace Go.Gw
open Go.RowKit
def qX (x h k : Int) : Int := if k % 2 = 1 then x + h else x
def qY (y h k : Int) : Int := if 1 < k then y + h else y
def qC (x y h : Int) (c : Cl) : Bool := decide (x ≤ c.x ∧ c.x < x + h ∧ y ≤ c.y ∧ c.y < y + h)
def hdS (l : List Cl) : Int := if l = [] then 0 else (ix l 0).st
def placeN : Nat → Int → Int → List Cl → List Nd → List Nd × Int
  | 0, _, _, _, o => (o, 0)
  | v + 1, x, y, l, o =>
    if l = [] then (o, 0) else
    let h := hf ((v : Int) + 1)
    let kid (k : Int) (o : List Nd) : List Nd × Int := if v = 0 then (o, hdS (l.filter (qC (qX x h k) (qY y h k) h))) else placeN v (qX x h k) (qY y h k) (l.filter (qC (qX x h k) (qY y h k) h)) o
    let r0 := kid 0 o
    let r1 := kid 1 r0.1
    let r2 := kid 2 r1.1
    let r3 := kid 3 r2.1
    (r3.1 ++ [⟨(v : Int) + 1, r0.2, r1.2, r2.2, r3.2⟩], (r3.1.length : Int) + 1)
/-- One quarter. -/
def kidP (v : Nat) (x y : Int) (l : List Cl) (k : Int) (o : List Nd) : List Nd × Int :=
  let h := hf ((v : Int) + 1)
  if v = 0 then (o, hdS (l.filter (qC (qX x h k) (qY y h k) h))) else placeN v (qX x h k) (qY y h k) (l.filter (qC (qX x h k) (qY y h k) h)) o
/-- After k quarters. -/
def pst (v : Nat) (x y : Int) (l : List Cl) (o : List Nd) : Nat → List Nd × (Int → Int)
  | 0 => (o, fun _ => 0)
  | k + 1 => ((kidP v x y l k (pst v x y l o k).1).1, fun j => if j = (k : Int) then (kidP v x y l k (pst v x y l o k).1).2 else (pst v x y l o k).2 j)
theorem place_end {v : Nat} {x y : Int} {l : List Cl} {o : List Nd} (h : l ≠ []) :
    placeN (v + 1) x y l o = ((pst v x y l o 4).1 ++ [⟨(v : Int) + 1, (pst v x y l o 4).2 0, (pst v x y l o 4).2 1, (pst v x y l o 4).2 2, (pst v x y l o 4).2 3⟩], ((pst v x y l o 4).1.length : Int) + 1) := by
  simp only [placeN, if_neg h, pst, kidP]
  simp
theorem place_nil {v : Nat} {x y : Int} {o : List Nd} : placeN v x y [] o = (o, 0) := by cases v <;> simp [placeN]
/-- What is known of a node's cells on the way. -/
structure PSt (v : Nat) (x y : Int) (l : List Cl) (o : List Nd) (k : Int) (ok : List Nd) (a b c e : Int) : Prop where
  q : ok = (pst v x y l o k.toNat).1
  a : a = (pst v x y l o k.toNat).2 0
  b : b = (pst v x y l o k.toNat).2 1
  c : c = (pst v x y l o k.toNat).2 2
  e : e = (pst v x y l o k.toNat).2 3
theorem pst_zero (v : Nat) (x y : Int) (l : List Cl) (o : List Nd) : PSt v x y l o 0 o 0 0 0 0 := ⟨rfl, rfl, rfl, rfl, rfl⟩
theorem pst_next {v : Nat} {x y : Int} {l : List Cl} {o ok : List Nd} {k a b c e : Int} (h : PSt v x y l o k ok a b c e) (hk : 0 ≤ k) {on : List Nd} {r : Int} (hr : kidP v x y l k ok = (on, r)) :
    PSt v x y l o (k + 1) on (if k = 0 then r else a) (if k = 1 then r else b) (if k = 2 then r else c) (if k = 3 then r else e) := by
  obtain ⟨h1, h2, h3, h4, h5⟩ := h
  have e1 : (k + 1).toNat = k.toNat + 1 := by omega
  have e2 : ((k.toNat : Nat) : Int) = k := by omega
  subst h1
  refine ⟨?_, ?_, ?_, ?_, ?_⟩ <;> rw [e1] <;> simp only [pst, e2, hr]
  · by_cases q : k = 0
    · rw [if_pos q, if_pos q.symm]
    · rw [if_neg q, if_neg (fun e => q e.symm)]; exact h2
  · by_cases q : k = 1
    · rw [if_pos q, if_pos q.symm]
    · rw [if_neg q, if_neg (fun e => q e.symm)]; exact h3
  · by_cases q : k = 2
    · rw [if_pos q, if_pos q.symm]
    · rw [if_neg q, if_neg (fun e => q e.symm)]; exact h4
  · by_cases q : k = 3
    · rw [if_pos q, if_pos q.symm]
    · rw [if_neg q, if_neg (fun e => q e.symm)]; exact h5
/-- A leaf's quarter that has no cell leaves the place as it was: nought. -/
theorem pst_high : ∀ (v : Nat) (x y : Int) (l : List Cl) (o : List Nd) (k : Nat) (j : Int), (k : Int) ≤ j → (pst v x y l o k).2 j = 0
  | v, x, y, l, o, 0, j, _ => rfl
  | v, x, y, l, o, k + 1, j, h => by
    simp only [pst]
    rw [if_neg (by omega)]
    exact pst_high v x y l o k j (by omega)
theorem pst_same {v : Nat} {x y : Int} {l : List Cl} {o ok : List Nd} {k a b c e : Int} (h : PSt v x y l o k ok a b c e) (hk : 0 ≤ k) (hk4 : k < 4) (hr : kidP v x y l k ok = (ok, 0)) : PSt v x y l o (k + 1) ok a b c e := by
  have h2 := pst_next h hk hr
  obtain ⟨_, ha, hb, hc, he⟩ := h
  have hz := pst_high v x y l o k.toNat
  have : k = 0 ∨ k = 1 ∨ k = 2 ∨ k = 3 := by omega
  rcases this with rfl | rfl | rfl | rfl <;> simp at h2
  · rw [hz 0 (by omega)] at ha; subst ha; exact h2
  · rw [hz 1 (by omega)] at hb; subst hb; exact h2
  · rw [hz 2 (by omega)] at hc; subst hc; exact h2
  · rw [hz 3 (by omega)] at he; subst he; exact h2
/-- Where a node may lie. -/
def PB (v x : Int) : Prop := -(hf 1330) ≤ x ∧ x + 2 * hf v ≤ hf 1330
theorem pb_bd {v x : Int} (h : PB v x) : Bd 43 x := by
  have h1 := hf_pos v
  have h3 : hf 1330 < PW 42 := by decide +kernel
  have h4 : PW 42 < PW 43 := by decide +kernel
  unfold PB at h; unfold Bd; omega
theorem pb_kid {v x : Int} {k : Int} (hv : 2 ≤ v) (h : PB v x) : PB (v - 1) (qX x (hf v) k) := by
  have h1 := hf_two hv
  have h2 := hf_pos v
  unfold PB at *; unfold qX
  split <;> omega
theorem pb_kidY {v x : Int} {k : Int} (hv : 2 ≤ v) (h : PB v x) : PB (v - 1) (qY x (hf v) k) := by
  have h1 := hf_two hv
  have h2 := hf_pos v
  unfold PB at *; unfold qY
  split <;> omega
theorem kid_leaf {v : Nat} {x y h : Int} {l : List Cl} {k : Int} {o : List Nd} {A B : Int} {ys : List Cl} (hv : v = 0) (hh : h = hf ((v : Int) + 1)) (hA : A = qX x h k) (hB : B = qY y h k) (hy : ys = l.filter (qC A B h)) : kidP v x y l k o = (o, hdS ys) := by
  subst hv hA hB hy hh; rfl
theorem kid_node {v : Nat} {x y h : Int} {l : List Cl} {k : Int} {o : List Nd} {A B : Int} {ys : List Cl} (hv : v ≠ 0) (hh : h = hf ((v : Int) + 1)) (hA : A = qX x h k) (hB : B = qY y h k) (hy : ys = l.filter (qC A B h)) : kidP v x y l k o = placeN v A B ys o := by
  subst hA hB hy hh; unfold kidP; simp only [if_neg hv]
theorem qf_yes {l ys : List Cl} {i x y h : Int} (h0 : 0 ≤ i) (h1 : i < l.length) (e : ys = (l.take i.toNat).filter (qC x y h)) (a : x ≤ (ix l i).x) (b : (ix l i).x < x + h) (c : y ≤ (ix l i).y) (d : (ix l i).y < y + h) : ys ++ [ix l i] = (l.take (i + 1).toNat).filter (qC x y h) := by
  rw [take_snocC h0 h1, List.filter_append, e]; simp [qC, a, b, c, d]
theorem qf_no {l ys : List Cl} {i x y h : Int} (h0 : 0 ≤ i) (h1 : i < l.length) (e : ys = (l.take i.toNat).filter (qC x y h)) (a : ¬ (x ≤ (ix l i).x ∧ (ix l i).x < x + h ∧ y ≤ (ix l i).y ∧ (ix l i).y < y + h)) : ys = (l.take (i + 1).toNat).filter (qC x y h) := by
  rw [take_snocC h0 h1, List.filter_append, e]; simp [qC, a]
theorem qf_len {l ys : List Cl} {i x y h : Int} (e : ys = (l.take i.toNat).filter (qC x y h)) : ys.length ≤ l.length := by
  rw [e]; have := List.length_filter_le (qC x y h) (l.take i.toNat); simp at this ⊢; omega
theorem cbd_filter {l ys : List Cl} {p : Cl → Bool} {i : Int} (h : CBd l) (e : ys = (l.take i.toNat).filter p) : CBd ys := fun c hc => h c (List.mem_of_mem_take (List.mem_filter.1 (e ▸ hc)).1)
section
variable {α : Type} {K : Kd α} {U n0 : Nat} {w w' : World} {v v' s : Value} {xs : List α}
theorem Sl.frmL (h : Sl K w (fun k => v.ownBlock = some k) s xs) (hF : Frm (fun _ => False) w v w' v') : Sl K w' (Loc (fun k => v.ownBlock = some k) w) s xs := h.loc.keep fun i hi hn => (hF.2 i hi (fun h => h) (fun e => hn (.inl e))).1
theorem Sl.ggFrm {β : Type} {L : Kd β} {e base : Nat} {os : List β} {ys : List Int} (h : Sl Kd.u32 w (G U n0 w) s ys) (hF : Frm (fun _ => False) w v w' v') (hO : Gw.Own L e base w (fun _ => False) v os) (ht : e ≠ U) (hn : n0 ≤ base) : Sl Kd.u32 w' (G U n0 w') s ys :=
  h.gkeep (fun k hk hG => (hF.2 k hk (fun h => h) (fun e => hG (hO.isG e ht hn))).1) u32_flat
theorem Frm.rowO {X : Nat → Prop} {w0 : World} {v0 u : Value} (h : Frm X w0 v0 w v) (k : w.grownBy w' u.ownBlock) (hu : ∀ g, u.ownBlock = some g → w0.heap.size ≤ g) : Frm X w0 v0 w' v :=
  ⟨Nat.le_trans h.1 k.size, fun g a b c => ⟨(k.block g (Nat.lt_of_lt_of_le a h.1) (fun e => by have := hu g e.symm; omega)).trans (h.2 g a b c).1, (h.2 g a b c).2⟩⟩
end
theorem cmpI_ge {a b : Int} : 0 ≤ cmpI a b ↔ b ≤ a := by unfold cmpI; split <;> (try split) <;> omega
theorem cmpI_lti {a b : Int} : cmpI a b < 0 ↔ a < b := by unfold cmpI; split <;> (try split) <;> omega
def inC (c : Cl) (v : Int) : Bool := decide (-(hf v) ≤ c.x ∧ c.x < hf v ∧ -(hf v) ≤ c.y ∧ c.y < hf v)
/-! #### how many nodes there may be -/
def qn (x y h : Int) (l : List Cl) (k : Int) : Nat := (l.filter (qC (qX x h k) (qY y h k) h)).length
theorem q4 (x y h : Int) (hh : 0 < h) (l : List Cl) : qn x y h l 0 + qn x y h l 1 + qn x y h l 2 + qn x y h l 3 ≤ l.length := by
  induction l with
  | nil => simp [qn]
  | cons c r ih =>
    have e : ∀ k, qn x y h (c :: r) k = qn x y h r k + if qC (qX x h k) (qY y h k) h c = true then 1 else 0 := by
      intro k; unfold qn; rw [List.filter_cons]; split <;> simp
    rw [e 0, e 1, e 2, e 3, List.length_cons]
    have one : (if qC (qX x h 0) (qY y h 0) h c = true then 1 else 0) + (if qC (qX x h 1) (qY y h 1) h c = true then 1 else 0) + (if qC (qX x h 2) (qY y h 2) h c = true then 1 else 0) + (if qC (qX x h 3) (qY y h 3) h c = true then 1 else 0) ≤ 1 := by
      rw [show qX x h 0 = x from rfl, show qY y h 0 = y from rfl, show qX x h 1 = x + h from rfl, show qY y h 1 = y from rfl, show qX x h 2 = x from rfl, show qY y h 2 = y + h from rfl, show qX x h 3 = x + h from rfl, show qY y h 3 = y + h from rfl]
      simp only [qC, decide_eq_true_eq]
      split <;> split <;> split <;> split <;> omega
    omega
theorem qn_sum {x y h : Int} (hh : 0 < h) (l : List Cl) {k : Nat} (hk : k < 4) : (((List.range k).map fun j : Nat => qn x y h l j).sum) + qn x y h l k ≤ l.length := by
  have := q4 x y h hh l
  have : k = 0 ∨ k = 1 ∨ k = 2 ∨ k = 3 := by omega
  rcases this with rfl | rfl | rfl | rfl <;> simp [List.range_succ] <;> omega
theorem qn_sum4 {x y h : Int} (hh : 0 < h) (l : List Cl) {k : Nat} (hk : k ≤ 4) : (((List.range k).map fun j : Nat => qn x y h l j).sum) ≤ l.length := by
  have := q4 x y h hh l
  have : k = 0 ∨ k = 1 ∨ k = 2 ∨ k = 3 ∨ k = 4 := by omega
  rcases this with rfl | rfl | rfl | rfl | rfl <;> simp [List.range_succ] <;> omega
theorem pst_len' {v : Nat} (ih : ∀ (x y : Int) (l : List Cl) (o : List Nd), (placeN v x y l o).1.length ≤ o.length + v * l.length) (x y : Int) (l : List Cl) (o : List Nd) : ∀ k : Nat, (pst v x y l o k).1.length ≤ o.length + v * (((List.range k).map fun j : Nat => qn x y (hf ((v : Int) + 1)) l j).sum)
  | 0 => by simp [pst]
  | k + 1 => by
    have h := pst_len' ih x y l o k
    simp only [pst]
    rw [List.range_succ, List.map_append, List.sum_append, Nat.mul_add]
    simp only [List.map_cons, List.map_nil, List.sum_cons, List.sum_nil, Nat.add_zero]
    unfold kidP
    simp only
    split
    · rename_i hv; subst hv; simp only; omega
    · have h2 := ih (qX x (hf ((v : Int) + 1)) k) (qY y (hf ((v : Int) + 1)) k) (l.filter (qC (qX x (hf ((v : Int) + 1)) k) (qY y (hf ((v : Int) + 1)) k) (hf ((v : Int) + 1)))) (pst v x y l o k).1
      unfold qn
      unfold qn at h
      omega
theorem place_len : ∀ (v : Nat) (x y : Int) (l : List Cl) (o : List Nd), (placeN v x y l o).1.length ≤ o.length + v * l.length
  | 0, x, y, l, o => by simp [placeN]
  | v + 1, x, y, l, o => by
    by_cases hl : l = []
    · subst hl; rw [place_nil]; simp
    · rw [place_end hl]
      have h1 := pst_len' (place_len v) x y l o 4
      have h2 := qn_sum4 (x := x) (y := y) (hf_pos ((v : Int) + 1)) l (k := 4) (Nat.le_refl _)
      have h3 := Nat.mul_le_mul_left v h2
      have h4 : 0 < l.length := List.length_pos_iff.2 hl
      simp only [List.length_append, List.length_singleton]
      rw [Nat.add_mul]
      omega
theorem pst_len {v : Nat} {x y : Int} {l : List Cl} {o ok : List Nd} {k a b c e : Int} (h : PSt v x y l o k ok a b c e) (h0 : 0 ≤ k) (h1 : k ≤ 4) : ok.length ≤ o.length + v * l.length := by
  have h2 := pst_len' (place_len v) x y l o k.toNat
  rw [← h.q] at h2
  have h3 := Nat.mul_le_mul_left v (qn_sum4 (x := x) (y := y) (hf_pos ((v : Int) + 1)) l (k := k.toNat) (by omega))
  omega
theorem pst_room {v : Nat} {x y A B h : Int} {l ys : List Cl} {o ok : List Nd} {k a b c e : Int} (hs : PSt v x y l o k ok a b c e) (h0 : 0 ≤ k) (h1 : k < 4) (hh : h = hf ((v : Int) + 1)) (hA : A = qX x h k) (hB : B = qY y h k) (hy : ys = l.filter (qC A B h)) : ok.length + v * ys.length ≤ o.length + v * l.length := by
  have h2 := pst_len' (place_len v) x y l o k.toNat
  rw [← hs.q] at h2
  have h3 := Nat.mul_le_mul_left v (qn_sum (x := x) (y := y) (hf_pos ((v : Int) + 1)) l (k := k.toNat) (by omega))
  have e : qn x y (hf ((v : Int) + 1)) l ((k.toNat : Nat) : Int) = ys.length := by
    rw [show ((k.toNat : Nat) : Int) = k by omega, hy, hA, hB, hh]; rfl
  rw [e, Nat.mul_add] at h3
  omega
end Go.Gw

set_option linter.unusedSimpArgs false
set_option linter.unusedVariables false
/-! ### What 'place' lays has the cells -/
namespace Go.Gw
open Go.RowKit
/-- A number in a list of nodes, of a level. -/
structure NumIn (p : List Nd) (c v : Int) : Prop where
  r : 0 ≤ c ∧ c ≤ p.length
  lv : c ≠ 0 → (ix p (c - 1)).lv = v
theorem NumIn.pre {o p : List Nd} {c v : Int} (h : NumIn o c v) (k : o <+: p) : NumIn p c v := ⟨⟨h.r.1, by have := k.length_le; have := h.r; omega⟩, fun hc => by rw [ix_pre k _ (by have := h.r; omega) (by have := h.r; omega)]; exact h.lv hc⟩
theorem NumIn.zero (p : List Nd) (v : Int) : NumIn p 0 v := ⟨⟨Int.le_refl _, by omega⟩, fun h => absurd rfl h⟩
/-! #### places -/
def isAt (X Y : Int) (c : Cl) : Bool := decide (c.x = X ∧ c.y = Y)
/-- The state of a place among cells: the first one's there. -/
def stA (l : List Cl) (X Y : Int) : Int := hdS (l.filter (isAt X Y))
def StB (l : List Cl) : Prop := ∀ c ∈ l, 0 ≤ c.st ∧ c.st ≤ 255
theorem StB.filter {l : List Cl} (h : StB l) (p : Cl → Bool) : StB (l.filter p) := fun c hc => h c (List.mem_filter.1 hc).1
/-- What is laid. -/
structure Laid (v : Nat) (x y : Int) (l : List Cl) (o : List Nd) (r : List Nd × Int) : Prop where
  pre : o <+: r.1
  ok : looseB r.1 = true
  num : NumIn r.1 r.2 v
  cel : ∀ X Y : Int, (0 ≤ X ∧ X < 2 * hf v) → (0 ≤ Y ∧ Y < 2 * hf v) → cat (tr r.1 r.2) X Y = stA l (x + X) (y + Y)
end Go.Gw

set_option linter.unusedSimpArgs false
set_option linter.unusedVariables false
/-! ### Which level cells want: the plain law of the reference's 'Of' -/
namespace Go.Gw
open Go.RowKit
def upL (c : Cl) : Nat → Int → Int
  | 0, v => v
  | n + 1, v => if v ≤ 1329 ∧ inC c v = false then upL c n (v + 1) else v
def levelC (l : List Cl) : Int := l.foldl (fun v c => upL c 1331 v) 1
theorem upL_eq {c : Cl} : ∀ (n : Nat) {u v : Int}, u ≤ v → v ≤ u + n → (∀ j : Int, u ≤ j → j < v → j ≤ 1329 ∧ inC c j = false) → ¬ (v ≤ 1329 ∧ inC c v = false) → upL c n u = v
  | 0, u, v, h1, h2, _, _ => by unfold upL; omega
  | n + 1, u, v, h1, h2, hb, hs => by
    unfold upL
    by_cases e : u = v
    · subst e; rw [if_neg hs]
    · rw [if_pos (hb u (Int.le_refl _) (by omega))]
      exact upL_eq n (by omega) (by omega) (fun j j0 j1 => hb j (by omega) j1) hs
theorem levelC_snoc (l : List Cl) (c : Cl) : levelC (l ++ [c]) = upL c 1331 (levelC l) := by unfold levelC; rw [List.foldl_append]; rfl
theorem levelC_step {l : List Cl} {i u v : Int} (h0 : 0 ≤ i) (h1 : i < l.length) (h : u = levelC (l.take i.toNat)) (hu : 1 ≤ u ∧ u ≤ 1330) (hv : u ≤ v ∧ v ≤ 1330) (hb : ∀ j : Int, u ≤ j → j < v → j ≤ 1329 ∧ inC (ix l i) j = false) (hs : ¬ (v ≤ 1329 ∧ inC (ix l i) v = false)) : v = levelC (l.take (i + 1).toNat) := by
  rw [take_snocC h0 h1, levelC_snoc, ← h, upL_eq 1331 hv.1 (by omega) hb hs]
def toCl (c : RCl) : Cl := ⟨sg c.xn (nv c.xs), sg c.yn (nv c.ys), c.st⟩
def rightR (c : RCl) : Bool := bigR c.xn c.xs && bigR c.yn c.ys
theorem sg_right {ng : Bool} {xs : List Int} (hx : Lim xs) (h : bigR ng xs = true) : ng = decide (sg ng (nv xs) < 0) ∧ xs = ml (sg ng (nv xs)) := by
  obtain ⟨n, h1, h2⟩ := bigR_out hx h
  have e : sg ng (nv xs) = n := by
    rw [h2, nv_ml, h1]; unfold sg
    by_cases h : n < 0
    · simp [h]; omega
    · simp [h]; omega
  rw [e]; exact ⟨h1, h2⟩
theorem rcl_right {c : RCl} (hx : Lim c.xs) (hy : Lim c.ys) (h : rightR c = true) : rcl (toCl c) = c := by
  unfold rightR at h
  rw [Bool.and_eq_true] at h
  obtain ⟨a1, a2⟩ := sg_right hx h.1
  obtain ⟨b1, b2⟩ := sg_right hy h.2
  obtain ⟨xn, xs, yn, ys, st⟩ := c
  exact congr (congr (congr (congr (congrArg RCl.mk a1.symm) a2.symm) b1.symm) b2.symm) rfl
theorem rcell_lim {U n0 : Nat} {w : World} {F : Nat → Prop} {va : Value} {l : List RCl} (h : Sl (Kd.rcell U n0) w F va l) : ∀ c ∈ l, Lim c.xs ∧ Lim c.ys := by
  intro c hc
  obtain ⟨i, hi, rfl⟩ := List.getElem_of_mem hc
  obtain ⟨A, m, e, h1, h2, h3⟩ := h
  obtain ⟨g, o, us, _, _, _, ⟨a, b, _, ha, hb, _⟩, _⟩ := h3 i _ (List.getElem?_eq_getElem hi)
  exact ⟨lim_sl ha, lim_sl hb⟩
theorem cells_right {U n0 : Nat} {w : World} {F : Nat → Prop} {va : Value} {l : List RCl} (h : Sl (Kd.rcell U n0) w F va l) (hr : ∀ c ∈ l, rightR c = true) : Sl (Kd.cell U n0) w F va (l.map toCl) := by
  refine cells_of ?_
  rw [List.map_map, show l.map (rcl ∘ toCl) = l from ?_]
  · exact h
  · have hl := rcell_lim h
    conv => rhs; rw [← List.map_id l]
    exact List.map_congr_left fun c hc => rcl_right (hl c hc).1 (hl c hc).2 (hr c hc)
def ofCells (cs : List Cl) : List Nd × Int :=
  if 1329 < levelC (lastL cs) then ([], 4)
  else ofL (placeN (levelC (lastL cs)).toNat (-(hf (levelC (lastL cs)))) (-(hf (levelC (lastL cs)))) (lastL cs) []).1 (placeN (levelC (lastL cs)).toNat (-(hf (levelC (lastL cs)))) (-(hf (levelC (lastL cs)))) (lastL cs) []).2
def ofR (l : List RCl) : List Nd × Int := if l.all rightR then ofCells (l.map toCl) else ([], 1)
theorem frm_nil {n : Nat} {a w w' : World} {v : Value} (h : Frm (fun _ => False) w (.slice Option.none 0 0) w' v) (hb : Below n a w) (hb' : Below n a w') : w.grownBy w' Option.none :=
  ⟨hb'.os.trans hb.os.symm, hb'.tape.trans hb.tape.symm, hb'.output.trans hb.output.symm, h.1, fun k hk _ => (h.2 k hk (fun h => h) (by simp [Value.ownBlock])).1⟩
theorem all_right {l : List RCl} {i : Int} (hi : i = l.length) (h : ∀ j : Int, 0 ≤ j → j < i → rightR (ix l j) = true) : ∀ c ∈ l, rightR c = true := by
  intro c hc
  obtain ⟨j, hj, rfl⟩ := List.getElem_of_mem hc
  have := h j (by omega) (by omega)
  unfold ix at this
  rw [List.getD_eq_getElem?_getD, Int.toNat_natCast, List.getElem?_eq_getElem hj] at this
  exact this
theorem pb_corner {v : Int} (h : 1 ≤ v ∧ v ≤ 1329) : PB v (-(hf v)) := by
  have h1 := hf_le h.2
  have h2 := hf_pos v
  have h3 := hf_two (v := 1330) (by decide)
  rw [show (1330 : Int) - 1 = 1329 by decide] at h3
  have h4 := hf_pos 1329
  unfold PB; omega
theorem ix_memR {l : List RCl} {i : Int} (h0 : 0 ≤ i) (h1 : i < l.length) : ix l i ∈ l := by
  unfold ix
  rw [List.getD_eq_getElem?_getD, List.getElem?_eq_getElem (by omega)]
  exact List.getElem_mem _
theorem Sl.nil0 {α : Type} {K : Kd α} {w : World} {F : Nat → Prop} : Sl K w F (.slice Option.none 0 0) [] := ⟨Option.none, 0, rfl, by simp, by simp [maxLen], fun i x hx => by simp at hx⟩
end Go.Gw

set_option linter.unusedSimpArgs false
set_option linter.unusedVariables false
/-! ### Great and Quad: the plain law -/
namespace Go.Gw
open Go.RowKit
end Go.Gw

set_option linter.unusedSimpArgs false
set_option linter.unusedVariables false
/-! ### Cells in order, and the quad of cells -/
namespace Go.Gw
open Go.RowKit
/-! #### the level -/
end Go.Gw

set_option linter.unusedSimpArgs false
set_option linter.unusedVariables false
/-! ### A quad and its cells -/
namespace Go.Gw
open Go.RowKit
/-- A quad that is its own. -/
def Can (q : List Nd) : Prop := ∃ t v, wf v t ∧ q = canT (shr0 t)
theorem can_of {t : Tr} {v : Int} (h : wf v t) : Can (canT (shr0 t)) := ⟨t, v, h, rfl⟩
theorem can_nil_q : Can [] := ⟨.no, 1, trivial, rfl⟩
theorem Can.ok {q : List Nd} (h : Can q) : looseB q = true := by
  obtain ⟨t, v, ht, rfl⟩ := h
  obtain ⟨u, h1, h2, h3⟩ := shr0_mid ht
  exact rightB_loose h1
theorem Can.canL {q : List Nd} (h : Can q) : CanL q := by
  obtain ⟨t, v, ht, rfl⟩ := h
  obtain ⟨u, h1, h2, h3⟩ := shr0_mid ht
  exact (vis_can (shr0 t) h1 can_nil).1
theorem Can.full {q : List Nd} (h : Can q) : Full q := fun n h0 h1 => by
  have hf := (full_iff q).1 (full_can h.canL) (n - 1) (by omega) (by omega)
  rw [show n - 1 + 1 = n by omega, has_tr h.ok n (by omega) h1] at hf
  simpa using hf
theorem Can.wf {q : List Nd} (h : Can q) : wf (levelN q) (tr q q.length) := wf_tr h.ok _ (by omega) (Int.le_refl _) _ fun h0 => by unfold levelN; rw [if_neg (by omega)]
theorem ofL_any (l : List Nd) (n : Int) : Can (ofL l n).1 := by
  unfold ofL
  split
  · rename_i hc; exact can_of (wf_tr hc.1 n hc.2.1 hc.2.2 _ (fun _ => rfl))
  · exact can_nil_q
theorem looseB_nil : looseB [] = true := can_nil.ok
end Go.Gw

set_option linter.unusedSimpArgs false
set_option linter.unusedVariables false
/-! ### The box, by its cells -/
namespace Go.Gw
open Go.RowKit
structure Least (P : Int → Prop) (o : Option Int) : Prop where
  le : ∀ x, P x → ∃ e, o = some e ∧ e ≤ x
  hit : ∀ e, o = some e → P e
structure Most (P : Int → Prop) (o : Option Int) : Prop where
  ge : ∀ x, P x → ∃ e, o = some e ∧ x + 1 ≤ e
  hit : ∀ e, o = some e → P (e - 1)
/-- A box is around cells, and touches them on each side. -/
structure Around (g : Int → Int → Int) (b : Bx) : Prop where
  rng : ∀ X Y : Int, g X Y ≠ 0 → (b.x ≤ X ∧ X < b.x + b.w) ∧ b.y ≤ Y ∧ Y < b.y + b.h
  west : ∃ Y, g b.x Y ≠ 0
  east : ∃ Y, g (b.x + b.w - 1) Y ≠ 0
  north : ∃ X, g X b.y ≠ 0
  south : ∃ X, g X (b.y + b.h - 1) ≠ 0
end Go.Gw

set_option linter.unusedSimpArgs false
set_option linter.unusedVariables false
/-! ### Single cells: the plain law -/
namespace Go.Gw
open Go.RowKit
def rest (v x : Int) : Int := if hf v ≤ x then x - hf v else x
/-! #### a node that is another one but for a cell -/
structure PutOk (v : Int) (l : List Nd) (n x y s : Int) (r : List Nd × Int) : Prop where
  pre : l <+: r.1
  ok : looseB r.1 = true
  num : NumIn r.1 r.2 v
  cel : ∀ X Y : Int, cat (tr r.1 r.2) X Y = if X = x ∧ Y = y then s else cat (tr l n) X Y
end Go.Gw

set_option linter.unusedSimpArgs false
set_option linter.unusedVariables false
/-! ### Grow, and Set: the plain law -/
namespace Go.Gw
open Go.RowKit
def wrapT (v j c : Int) (t : Tr) : Tr := if c = 0 then .no else if v = 1 then .leaf (if 3 - j = 0 then c else 0) (if 3 - j = 1 then c else 0) (if 3 - j = 2 then c else 0) (if 3 - j = 3 then c else 0)
  else .nd v (if 3 - j = 0 then t else .no) (if 3 - j = 1 then t else .no) (if 3 - j = 2 then t else .no) (if 3 - j = 3 then t else .no)
def comp (s : GrT) (j : Int) : Int := sel4 s.2.1 s.2.2.1 s.2.2.2.1 s.2.2.2.2 j
structure GrI (old : Nd) (o : List Nd) (v : Int) (k : Int) (s : GrT) : Prop where
  pre : o <+: s.1
  ok : looseB s.1 = true
  done : ∀ j : Int, 0 ≤ j → j < k → NumIn s.1 (comp s j) v ∧ tr s.1 (comp s j) = wrapT v j (old.kid j) (tr o (old.kid j))
  zero : ∀ j : Int, k ≤ j → j < 4 → comp s j = 0
/-! #### set -/
end Go.Gw

set_option linter.unusedSimpArgs false
set_option linter.unusedVariables false
namespace Go.Gw
open Go.RowKit
/-! ### A region that draws its order, makes rows and stores into one of them -/
def ObsAllS (P : Program) (ops : Array Oper) (n : Nat) (D : List Deferred) (ρ0 : Env) (w0 : World) (R : World → World → Prop) (sp : Spec) (td : Nat) (ψ : Value → World → Prop) : List Oper → List (List Nat) → List Bool → List Bool → Spec → Prop
  | o :: os, d :: ds, b :: bs, c :: cs, (_, φ) :: r => (∀ w, R w0 w → depV sp d ρ0 w (fun ρ => Op1 P ops o n D ρ w (fun v w' => φ v w' ∧ R w w' ∧ (b = true → NewV v w) ∧ (c = true → ∃ u, look ρ td = some u ∧ ψ u w')))) ∧ ObsAllS P ops n D ρ0 w0 R sp td ψ os ds bs cs r
  | _, _, _, _, [] => True
  | _, _, _, _, _ => False
section
variable {P : Program} {l : List Oper} {Q : Exit → Act → World → Prop} {n m : Nat} {D : List Deferred} {ρ0 : Env} {w0 : World} {R : World → World → Prop} {sp : Spec} {ds : List (List Nat)} {bs cs : List Bool} {td dd : Nat} {ψ : Value → World → Prop}
theorem ObsAllS.at_ {ops : Array Oper} : ∀ {l' : List Oper} {ds' : List (List Nat)} {bs' cs' : List Bool} {sp' : Spec}, ObsAllS P ops n D ρ0 w0 R sp td ψ l' ds' bs' cs' sp' → ∀ {i : Nat} {dst : Option Nat} {φ : Value → World → Prop} {o : Oper}, sp'[i]? = some (dst, φ) → l'[i]? = some o →
    ∀ w, R w0 w → depV sp (ds'.getD i []) ρ0 w (fun ρ => Op1 P ops o n D ρ w (fun v w' => φ v w' ∧ R w w' ∧ (bs'.getD i false = true → NewV v w) ∧ (cs'.getD i false = true → ∃ u, look ρ td = some u ∧ ψ u w'))) := by
  intro l' ds' bs' cs' sp' h
  induction sp' generalizing l' ds' bs' cs' with
  | nil => intro i dst φ o hs; simp at hs
  | cons p r ih =>
    intro i dst φ o hs hl
    obtain ⟨pd, pφ⟩ := p
    match l', ds', bs', cs', h with
    | o' :: os, d :: dd_, b :: bb, c :: cc, h =>
      obtain ⟨h1, h2⟩ := h
      cases i with
      | zero => simp at hs hl; obtain ⟨rfl, rfl⟩ := hs; subst hl; simpa using h1
      | succ i => simp at hs hl; simpa using ih h2 hs hl
structure MidS (l : List Oper) (bs : List Bool) (n : Nat) (D : List Deferred) (ρ0 : Env) (w0 : World) (R : World → World → Prop) (sp : Spec) (cs : List Bool) (dd : Nat) (ψ : Value → World → Prop) (m N : Nat) (listed : Array Bool) (vals : Nat → Value) (a : Act) (w : World) : Prop where
  fr : Fr n D ρ0 a
  wr : R w0 w
  size : listed.size = N
  tail : ∀ i, m ≤ i → listed.getD i false = false
  cl : ∀ i o j, l[i]? = some o → listed.getD i false = true → hasEdge o j = true → listed.getD j false = true
  fre : ∀ i j, bs.getD i false = true → bs.getD j false = true → i < m → j < m → i ≠ j → listed.getD i false = true → listed.getD j false = true → vals i ≠ vals j
  sto : ∀ i, cs.getD i false = true → i < m → listed.getD i false = true → listed.getD dd false = true ∧ ψ (vals dd) w
  got : ∀ i dst φ, sp[i]? = some (dst, φ) → listed.getD i false = true → φ (vals i) w ∧ ∀ d, dst = some d → a.tmps[d]? = some (vals i)

theorem depV_instS {listed : Array Bool} {vals : Nat → Value} {a : Act} {w : World} {N : Nat} (hM : MidS l bs n D ρ0 w0 R sp cs dd ψ m N listed vals a w) : ∀ (d : List Nat) (ρ : Env) (K : Env → Prop), Fr n D ρ a → (∀ j ∈ d, listed.getD j false = true) →
    depV sp d ρ w K → ∃ ρ', Fr n D ρ' a ∧ K ρ'
  | [], ρ, K, hF, _, h => ⟨ρ, hF, h⟩
  | j :: r, ρ, K, hF, hl, h => by
    unfold depV at h
    split at h
    · rename_i d φ hs
      obtain ⟨h1, h2⟩ := hM.got j _ _ hs (hl j (by simp))
      refine depV_instS hM r _ K ⟨hF.defers, hF.size, fun t v hlk => ?_⟩ (fun i hi => hl i (by simp [hi])) (h _ h1)
      rw [look_cons] at hlk
      split at hlk
      · rename_i e; subst e; cases hlk; exact h2 _ rfl
      · exact hF.slot _ _ hlk
    · exact depV_instS hM r _ K hF (fun i hi => hl i (by simp [hi])) h
theorem mid_anyS {keys : List Nat} (hF : DrawFactsT l m n keys sp ds) (hkeys : ∀ t v, look ρ0 t = some v → t ∈ keys) (hRt : ∀ a b c, R a b → R b c → R a c) (hst : StAll R sp) (hold : OldAll sp bs) {φd : Value → World → Prop} (hsd : sp[dd]? = some (some td, φd)) (hdep : ∀ i, cs.getD i false = true → i < m → dd ∈ ds.getD i []) (hψ : ∀ v a b, ψ v a → R a b → ψ v b) (hex : ∃ i, cs.getD i false = true ∧ i < m) (hobs : ObsAllS P l.toArray n D ρ0 w0 R sp td ψ l ds bs cs sp)
    (hend : ∀ w, R w0 w → AllVF sp bs [] ρ0 w (fun ρ => (∀ u, look ρ td = some u → ψ u w) → Reg P l.toArray Q (l.drop m) n D ρ w)) :
    ∀ (fuel : Nat) (listed : Array Bool) (vals : Nat → Value) (a : Act) (w : World), MidS l bs n D ρ0 w0 R sp cs dd ψ m l.length listed vals a w → cnt l.length listed ≤ fuel → wpAny P .any l.toArray Q fuel listed a w := by
  -- once all heads are listed
  have hfin : ∀ (fuel : Nat) (listed : Array Bool) (vals : Nat → Value) (a : Act) (w : World), MidS l bs n D ρ0 w0 R sp cs dd ψ m l.length listed vals a w → (∀ i, i < m → listed.getD i false = true) → l.length - m ≤ fuel → wpAny P .any l.toArray Q fuel listed a w := by
    intro fuel listed vals a w hM hall hf
    obtain ⟨ρ', hFr, hReg⟩ := allVF_inst (w := w) vals sp bs 0 [] ρ0 _ hM.fr (fun i dst φ hs => by
      have hi : i < m := by rw [← hF.spl]; exact (List.getElem?_eq_some_iff.1 hs).1
      rw [Nat.zero_add]; exact hM.got i dst φ hs (hall i hi)) (fun _ _ _ _ h => by cases h) (fun i j h1 h2 h3 h4 h5 => by
      rw [hF.spl] at h3 h4
      rw [Nat.zero_add, Nat.zero_add]; exact hM.fre i j h1 h2 h3 h4 h5 (hall i h3) (hall j h4)) (hend w hM.wr)
    exact tail_anyT hF fuel m listed a w (Nat.le_refl _) hF.le hf hM.size hall hM.tail (hReg (fun u hu => by
      obtain ⟨i, hi, him⟩ := hex
      obtain ⟨h1, h2⟩ := hM.sto i hi him (hall i him)
      have h3 := hFr.slot _ _ hu
      have h4 := (hM.got dd _ _ hsd h1).2 _ rfl
      rw [h3] at h4; injection h4 with h4; rw [h4]; exact h2) a hFr)
  have hcnt : ∀ listed : Array Bool, (∀ i, m ≤ i → listed.getD i false = false) → ∀ k, m ≤ k → k - m ≤ cnt k listed := by
    intro listed ht k
    induction k with
    | zero => intro _; omega
    | succ k ih =>
      intro hk
      unfold cnt
      rcases Nat.lt_or_ge k m with h | h
      · omega
      · rw [ht k h]; have := ih h; simp; omega
  intro fuel
  induction fuel with
  | zero =>
    intro listed vals a w hM hc
    have h0 : cnt l.length listed = 0 := by omega
    have hall := cnt_zero listed _ h0
    refine hfin 0 listed vals a w hM (fun i hi => hall i (by have := hF.le; omega)) ?_
    have := hcnt listed hM.tail l.length hF.le
    omega
  | succ fuel ih =>
    intro listed vals a w hM hc
    by_cases hall : ∀ i, i < m → listed.getD i false = true
    · refine hfin _ listed vals a w hM hall ?_
      have := hcnt listed hM.tail l.length hF.le
      omega
    · -- some head is not listed: it's not the end, and no tail is ready
      refine ⟨fun h0 => absurd ?_ hall, fun i hi => ?_⟩
      · -- the least one that isn't listed is ready
        intro i hi
        induction i using Nat.strongRecOn with
        | _ i ihh =>
          by_cases hb : listed.getD i false = true
          · exact hb
          · exfalso
            have hil : i < l.length := by have := hF.le; omega
            have hr : i ∈ Region.ready .any l.toArray listed := by
              refine (mem_ready (by simpa using hM.size)).2 ⟨l[i], by simp [hil], by simpa using hb, ?_⟩
              rw [Array.all_eq_true]
              intro j hj
              by_cases hbd : Region.binds .any l[i].after[j] = true
              · have := hF.before i _ (List.getElem?_eq_getElem hil) _ (Array.getElem_mem hj) hbd
                rw [ihh _ this (by omega)]; simp
              · simp [hbd]
            rw [h0] at hr; simp at hr
      · obtain ⟨o, ho, hfi, hal⟩ := (mem_ready (by simpa using hM.size)).1 hi
        have ho' : l[i]? = some o := by simpa using ho
        have hil : i < l.length := (List.getElem?_eq_some_iff.1 ho').1
        have him : i < m := by
          rcases Nat.lt_or_ge i m with h | h
          · exact h
          · exact absurd (fun j hj => reach_listed hM.cl 8 o j (fun k hk => hasEdge_listed hk hal) ((hF.tail i o h ho').2 j hj)) hall
        have hsp : ∃ dst φ, sp[i]? = some (dst, φ) := by
          have : i < sp.length := by rw [hF.spl]; exact him
          exact ⟨_, _, List.getElem?_eq_getElem this⟩
        obtain ⟨dst, φ, hs⟩ := hsp
        have hdst := hF.dst i o dst φ ho' hs
        subst hdst
        have hsz : i < listed.size := by rw [hM.size]; exact hil
        obtain ⟨ρ', hFr, hOp⟩ := depV_instS hM (ds.getD i []) ρ0 _ hM.fr (fun j hj => hasEdge_listed (hF.deps i o him ho' j hj).2 hal) (hobs.at_ hs ho' w hM.wr)
        have hnew : ∀ (v : Value) (w' : World), φ v w' → R w w' → (bs.getD i false = true → NewV v w) → (cs.getD i false = true → ∃ u, look ρ' td = some u ∧ ψ u w') → MidS l bs n D ρ0 w0 R sp cs dd ψ m l.length (listed.setIfInBounds i true) (fun j => if j = i then v else vals j) (a.put o.dst v) w' := by
          intro v w' hv hR hN hC
          have hput : ∀ t, (∀ d, o.dst = some d → t ≠ d) → (a.put o.dst v).tmps[t]? = a.tmps[t]? := by
            intro t ht
            cases hd : o.dst with
            | none => rfl
            | some d => simp only [Act.put, Array.getElem?_setIfInBounds]; rw [if_neg (fun e => ht d hd e.symm)]
          have hputd : ∀ d, o.dst = some d → (a.put o.dst v).tmps[d]? = some v := by
            intro d hd
            have := (hF.ok i o d him ho' hd).1
            rw [hd]
            simp [Act.put, hM.fr.size, this]
          refine ⟨⟨?_, ?_, ?_⟩, hRt _ _ _ hM.wr hR, by simpa using hM.size, ?_, ?_, ?_, ?_, ?_⟩
          · rw [← hM.fr.defers]; cases o.dst <;> rfl
          · rw [← hM.fr.size]; cases o.dst <;> simp [Act.put]
          · intro t u hl
            rw [hput t (fun d hd e => (hF.ok i o d him ho' hd).2 (by rw [← e]; exact hkeys t u hl))]
            exact hM.fr.slot t u hl
          · intro j hj
            rw [getD_set _ _ _ hsz, if_neg (by omega)]; exact hM.tail j hj
          · intro j oj j' hoj hl he
            rw [getD_set _ _ _ hsz] at hl ⊢
            by_cases e : i = j'
            · rw [if_pos e]
            · rw [if_neg e]
              by_cases e2 : i = j
              · subst e2; rw [ho'] at hoj; injection hoj with hoj; subst hoj; exact hasEdge_listed he hal
              · rw [if_neg e2] at hl; exact hM.cl j oj j' hoj hl he
          · intro i' j' b1 b2 h1 h2 hne l1 l2
            rw [getD_set _ _ _ hsz] at l1 l2
            have hgot : ∀ k, bs.getD k false = true → k < m → k ≠ i → listed.getD k false = true → OldV (vals k) w := by
              intro k hk hkm hki hl
              have hks : k < sp.length := by rw [hF.spl]; exact hkm
              have hsk : sp[k]? = some ((sp[k]).1, (sp[k]).2) := List.getElem?_eq_getElem hks
              exact hold.at_ hsk hk _ _ (hM.got k _ _ hsk hl).1
            by_cases e1 : i' = i
            · by_cases e2 : j' = i
              · exact absurd (e1.trans e2.symm) hne
              · rw [if_neg (fun e => e2 e.symm)] at l2
                rw [if_pos e1, if_neg e2]
                exact fun e => new_ne_old (hN (e1 ▸ b1)) (hgot j' b2 h2 e2 l2) e.symm
            · rw [if_neg (fun e => e1 e.symm)] at l1
              by_cases e2 : j' = i
              · rw [if_neg e1, if_pos e2]
                exact new_ne_old (hN (e2 ▸ b2)) (hgot i' b1 h1 e1 l1)
              · rw [if_neg (fun e => e2 e.symm)] at l2
                rw [if_neg e1, if_neg e2]
                exact hM.fre i' j' b1 b2 h1 h2 hne l1 l2
          · intro i' hc him' hl
            have hne : listed.getD dd false = true → dd ≠ i := fun h e => by rw [e, hfi] at h; cases h
            rw [getD_set _ _ _ hsz] at hl ⊢
            by_cases e : i = i'
            · subst e
              have hld := hasEdge_listed (hF.deps i o him ho' dd (hdep i hc him)).2 hal
              obtain ⟨u, hu, hψu⟩ := hC hc
              have h3 := hFr.slot _ _ hu
              have h4 := (hM.got dd _ _ hsd hld).2 _ rfl
              rw [h3] at h4; injection h4 with h4
              rw [if_neg (fun e => hne hld e.symm), if_neg (hne hld)]
              exact ⟨hld, by rw [← h4]; exact hψu⟩
            · rw [if_neg e] at hl
              obtain ⟨h1, h2⟩ := hM.sto i' hc him' hl
              rw [if_neg (fun e => hne h1 e.symm), if_neg (hne h1)]
              exact ⟨h1, hψ _ _ _ h2 hR⟩
          · intro j dst φ' hs' hl
            rw [getD_set _ _ _ hsz] at hl
            by_cases e : j = i
            · subst e
              rw [hs] at hs'
              injection hs' with hs'
              injection hs' with e1 e2
              subst e1; subst e2
              rw [if_pos rfl]
              exact ⟨hv, hputd⟩
            · rw [if_neg (fun e' => e e'.symm)] at hl
              rw [if_neg e]
              obtain ⟨g1, g2⟩ := hM.got j dst φ' hs' hl
              refine ⟨hst.at_ hs' _ _ _ g1 hR, fun d hd => ?_⟩
              have hj : j < m := by rw [← hF.spl]; exact (List.getElem?_eq_some_iff.1 hs').1
              have hjl : j < l.length := by have := hF.le; omega
              have hoj := List.getElem?_eq_getElem hjl
              have hdj := hF.dst j _ dst φ' hoj hs'
              rw [hput d (fun d' hd' e' => by subst e'; exact hF.apart j i _ o d hj him e hoj ho' (by rw [hdj, hd]) hd')]
              exact g2 d hd
        have hcnt' := cnt_set listed i hsz hfi l.length hil
        unfold wpOp
        rw [ho]
        dsimp only
        have h1 := hOp a hFr
        split
        · rename_i hw
          rw [if_pos hw] at h1
          refine .inl (Oper.wp_mono ?_ (h1 Q))
          rintro a' w' ⟨v, rfl, hv, hR, hN, hC⟩
          exact ih _ _ _ _ (hnew v w' hv hR hN hC) (by omega)
        · rename_i hw
          rw [if_neg hw] at h1
          exact ih _ _ _ _ (hnew undef w h1.1 h1.2.1 h1.2.2.1 h1.2.2.2) (by omega)

theorem w_drawS {id : Nat} {w : World} {ρ : Env} (m : Nat) (R : World → World → Prop) (sp : Spec) (ds : List (List Nat)) (bs : List Bool) (ρ0 : Env) (hsub : Sub ρ0 ρ) (hm : P.follows .mixedOrders = true)
    (hchk : drawOkT l m n (keysOf ρ0) (sp.map (·.1)) ds = true) (hR : ∀ a, R a a) (hRt : ∀ a b c, R a b → R b c → R a c) (hst : StAll R sp) (hold : OldAll sp bs) {φd : Value → World → Prop} (hsd : sp[dd]? = some (some td, φd)) (hdep : ∀ i, cs.getD i false = true → i < m → dd ∈ ds.getD i []) (hψ : ∀ v a b, ψ v a → R a b → ψ v b) (hex : ∃ i, cs.getD i false = true ∧ i < m)
    (h : ∀ w0, w.grownBy w0 none → w0.heap.size = w.heap.size → ObsAllS P l.toArray n D ρ0 w0 R sp td ψ l ds bs cs sp ∧ (∀ w', R w0 w' → AllVF sp bs [] ρ0 w' (fun ρ => (∀ u, look ρ td = some u → ψ u w') → Reg P l.toArray Q (l.drop m) n D ρ w'))) :
    W P (.region id l.toArray true) Q n D ρ w := by
  intro a ha
  have hF := drawFactsT hchk
  obtain ⟨h1, h2⟩ := h w.drew (grown_drew w) rfl
  refine wp_region_any hm ?_
  have := mid_anyS hF (fun t v hl => look_of_keys hl) hRt hst hold hsd hdep hψ hex h1 h2 l.length (Array.replicate l.length false) (fun _ => undef) a w.drew ⟨ha.sub hsub, hR _, by simp, fun i _ => by simp [Array.getD_eq_getD_getElem?, Array.getElem?_replicate]; split <;> rfl, fun i o j _ hl _ => by
    simp [Array.getD_eq_getD_getElem?, Array.getElem?_replicate] at hl
    split at hl <;> simp at hl, fun i j _ _ _ _ _ hl _ => by
    simp [Array.getD_eq_getD_getElem?, Array.getElem?_replicate] at hl
    split at hl <;> simp at hl, fun i _ _ hl => by
    simp [Array.getD_eq_getD_getElem?, Array.getElem?_replicate] at hl
    split at hl <;> simp at hl, fun i dst φ hs hl => by
    simp [Array.getD_eq_getD_getElem?, Array.getElem?_replicate] at hl
    split at hl <;> simp at hl⟩ (by
      have : ∀ k L, cnt k L ≤ k := by
        intro k L; induction k with
        | zero => exact Nat.le_refl _
        | succ k ih => unfold cnt; split <;> omega
      exact this _ _)
  simpa using this
end
end Go.Gw

set_option linter.unusedSimpArgs false
set_option linter.unusedVariables false
namespace Go.Gw
open Go.RowKit
/-! ### Two copies into new places, in a region that draws -/
def BlkN (w : World) (g t n : Nat) : Prop := ∃ cs : Array Value, cs.size = n ∧ Blk w g t cs
/-- Old blocks are as they were, or one of the new ones, of the type t, became X. -/
structure Rx (N t : Nat) (X : Array Value) (a b : World) : Prop where
  os : b.os = a.os
  tape : b.tape = a.tape
  output : b.output = a.output
  size : a.heap.size ≤ b.heap.size
  block : ∀ k, k < a.heap.size → b.heap[k]? = a.heap[k]? ∨ (N ≤ k ∧ (∃ n, n = X.size ∧ BlkN a k t n) ∧ Blk b k t X)
section
variable {N t n : Nat} {X : Array Value} {a b c w w' : World}
theorem Rx.refl (a : World) : Rx N t X a a := ⟨rfl, rfl, rfl, Nat.le_refl _, fun _ _ => .inl rfl⟩
theorem Rx.trans (a b c : World) (h : Rx N t X a b) (k : Rx N t X b c) : Rx N t X a c :=
  ⟨k.os.trans h.os, k.tape.trans h.tape, k.output.trans h.output, Nat.le_trans h.size k.size, fun i hi => by
    rcases h.block i hi with h1 | ⟨h1, h2, h3⟩ <;> rcases k.block i (Nat.lt_of_lt_of_le hi h.size) with k1 | ⟨k1, ⟨m, hm, cs, hc, k2⟩, k3⟩
    · exact .inl (k1.trans h1)
    · exact .inr ⟨k1, ⟨m, hm, cs, hc, h1.symm.trans k2⟩, k3⟩
    · exact .inr ⟨h1, h2, k1.trans h3⟩
    · exact .inr ⟨h1, h2, k3⟩⟩
theorem Rx.of (k : a.grownBy b none) : Rx N t X a b := ⟨k.os, k.tape, k.output, k.size, fun i hi => .inl (k.block i hi (by simp))⟩
theorem Rx.grown (h : Rx N t X a b) (hn : a.heap.size ≤ N) : a.grownBy b none := ⟨h.os, h.tape, h.output, h.size, fun i hi _ => by
  rcases h.block i hi with h1 | ⟨h1, _⟩
  · exact h1
  · omega⟩
theorem Rx.sto {g : Nat} (hB : BlkN a g t X.size) (hB2 : Blk b g t X) (k : a.grownBy b (some g)) (hg : N ≤ g) : Rx N t X a b :=
  ⟨k.os, k.tape, k.output, k.size, fun i hi => by
    by_cases e : i = g
    · subst e; exact .inr ⟨hg, ⟨_, rfl, hB⟩, hB2⟩
    · exact .inl (k.block i hi (by simpa using e))⟩
def PtrN (N t n : Nat) (v : Value) (w : World) : Prop := ∃ g, v = .pointer (some ⟨g, 0, none⟩) ∧ N ≤ g ∧ BlkN w g t n
def PtrX (N t : Nat) (X : Array Value) (v : Value) (w : World) : Prop := ∃ g, v = .pointer (some ⟨g, 0, none⟩) ∧ N ≤ g ∧ Blk w g t X
theorem PtrN.st (hn : n = X.size) (v : Value) (a b : World) (h : PtrN N t n v a) (k : Rx N t X a b) : PtrN N t n v b := by
  obtain ⟨g, rfl, hg, cs, hc, hB⟩ := h
  refine ⟨g, rfl, hg, ?_⟩
  rcases k.block g hB.lt with h1 | ⟨_, _, h3⟩
  · exact ⟨cs, hc, h1.trans hB⟩
  · exact ⟨X, hn.symm, h3⟩
theorem PtrX.st (v : Value) (a b : World) (h : PtrX N t X v a) (k : Rx N t X a b) : PtrX N t X v b := by
  obtain ⟨g, rfl, hg, hB⟩ := h
  refine ⟨g, rfl, hg, ?_⟩
  rcases k.block g hB.lt with h1 | ⟨_, _, h3⟩
  · exact h1.trans hB
  · exact h3
theorem PtrN.old {v : Value} (h : PtrN N t n v w) : OldV v w := by obtain ⟨g, rfl, _, cs, _, hB⟩ := h; exact ⟨g, rfl, hB.lt⟩
end
end Go.Gw

set_option linter.unusedSimpArgs false
set_option linter.unusedVariables false
namespace Go.Gw
open Go.RowKit
/-- A slice of great elements does not lie in a small block. -/
theorem Sl.gSmall {α : Type} {K : Kd α} (hK : K.Flat) {w w' : World} {F : Nat → Prop} {v : Value} {xs : List α} {g t : Nat} {cs : Array Value} (h : Sl K w F v xs) (k : w.grownBy w' (some g)) (hB : Blk w g t cs) (hs : cs.size < K.sz) : Sl K w' F v xs := by
  obtain ⟨A, c, e, h1, h2, h3⟩ := h
  refine ⟨A, c, e, h1, h2, fun i x hx => ?_⟩
  obtain ⟨b, o, us, rfl, hb, hF, hr, hc⟩ := h3 i x hx
  have hne : b ≠ g := by
    rintro rfl
    have hl := K.len hr
    have hlt : K.sz - 1 < us.length := by omega
    have h4 := hc (K.sz - 1) _ (List.getElem?_eq_getElem hlt)
    unfold World.cell? at h4
    rw [show w.heap[b]? = some (.cells cs t (0, 0)) from hB] at h4
    simp at h4
    obtain ⟨h5, _⟩ := Array.getElem?_eq_some_iff.1 h4
    generalize i * K.sz = q at h5
    omega
  have hbk := k.block b hb (by simpa using hne)
  exact ⟨b, o, us, rfl, Nat.lt_of_lt_of_le hb k.size, hF, hK _ _ _ _ _ _ hr, range_keep hc hbk⟩
end Go.Gw

set_option linter.unusedSimpArgs false
set_option linter.unusedVariables false
/-! ### What the laws themselves ask: cells as they come, and the fixed facts -/
namespace Go.Gw
open Go.RowKit
theorem sg_same (n : Int) : sg (decide (n < 0)) (nv (ml n)) = n := by
  rw [nv_ml]; unfold sg
  by_cases h : n < 0
  · simp [h]; omega
  · simp [h]; omega
theorem toCl_rcl (c : Cl) : toCl (rcl c) = c := by
  unfold toCl rcl
  simp only [sg_same]
theorem rightR_rcl (c : Cl) : rightR (rcl c) = true := by
  unfold rightR rcl; simp only [bigR_ml, Bool.and_self]
theorem map_rcl (L : List Cl) : (L.map rcl).map toCl = L := by
  rw [List.map_map]
  conv => rhs; rw [← List.map_id L]
  exact List.map_congr_left fun c _ => toCl_rcl c
theorem ofR_rcl (L : List Cl) : ofR (L.map rcl) = ofCells L := by
  unfold ofR
  rw [if_pos (by rw [List.all_eq_true]; intro c hc; obtain ⟨d, _, rfl⟩ := List.mem_map.1 hc; exact rightR_rcl d), map_rcl]
section
variable {w : World} {U n0 : Nat}
theorem lit_rcell2 {g t : Nat} {a b a' b' : Value} {c d : RCl} (hB : Blk w g t [.bool c.xn, a, .bool c.yn, b, .int .u8 c.st, .bool d.xn, a', .bool d.yn, b', .int .u8 d.st].toArray) (h1 : Sl Kd.u32 w (G U n0 w) a c.xs) (h2 : Sl Kd.u32 w (G U n0 w) b c.ys)
    (h3 : Sl Kd.u32 w (G U n0 w) a' d.xs) (h4 : Sl Kd.u32 w (G U n0 w) b' d.ys) (hc : 0 ≤ c.st ∧ c.st ≤ 255) (hd : 0 ≤ d.st ∧ d.st ≤ 255) :
    Sl (Kd.rcell U n0) w (fun _ => False) (.slice (some ⟨g, 0, none⟩) 2 2) [c, d] := by
  refine sl_lit (us := [[.bool c.xn, a, .bool c.yn, b, .int .u8 c.st], [.bool d.xn, a', .bool d.yn, b', .int .u8 d.st]]) (by simpa using hB) rfl (by simp [Kd.rcell]) (fun h => h) rfl (by decide) ?_
  intro i u y hu hy
  cases i with
  | zero =>
    simp at hu hy; subst hu; subst hy
    exact ⟨a, b, rfl, h1.weak fun k _ hk => hk.elim (fun h => h.elim) id, h2.weak fun k _ hk => hk.elim (fun h => h.elim) id, hc⟩
  | succ i =>
    cases i with
    | zero =>
      simp at hu hy; subst hu; subst hy
      exact ⟨a', b', rfl, h3.weak fun k _ hk => hk.elim (fun h => h.elim) id, h4.weak fun k _ hk => hk.elim (fun h => h.elim) id, hd⟩
    | succ i => simp at hu
end
def L9 : List Cl := [⟨2, 3, 1⟩, ⟨5, 3, 9⟩]
def Q9 : List Nd := [⟨1, 0, 0, 1, 0⟩, ⟨2, 0, 0, 0, 1⟩, ⟨1, 0, 0, 0, 9⟩, ⟨2, 0, 0, 3, 0⟩, ⟨3, 2, 4, 0, 0⟩, ⟨4, 0, 0, 0, 5⟩]
theorem q9_of : ofCells L9 = (Q9, 0) := by decide +kernel
theorem q9_ofR : ofR [rcl ⟨2, 3, 1⟩, rcl ⟨5, 3, 9⟩] = (Q9, 0) := (ofR_rcl L9).trans q9_of
theorem q9_ok : looseB Q9 = true := by decide +kernel
theorem q9_some : (bxs Q9).some = true := by decide +kernel
theorem cbd9 : CBd ([rcl ⟨2, 3, 1⟩, rcl ⟨5, 3, 9⟩].map toCl) := by
  rw [show [rcl ⟨2, 3, 1⟩, rcl ⟨5, 3, 9⟩] = L9.map rcl from rfl, map_rcl]
  intro c hc
  have h3 : 5 < PW 50 := by decide +kernel
  simp [L9] at hc
  rcases hc with rfl | rfl <;> exact ⟨by unfold Bd; simp only; omega, by unfold Bd; simp only; omega⟩
end Go.Gw

set_option linter.unusedSimpArgs false
set_option linter.unusedVariables false
/-! ### Cells as arguments -/
namespace Go.Gw
open Go.RowKit Go.ChangeShapes Go.WideShapes Go.ChangeAt Go.Deep
section
variable {H : Type} {enc : TypeId × Value → H} {P : Program} {w : World}
structure CellF (P : Program) (t tx tb ts te ti : Nat) : Prop where
  is : fieldsAre P t = [(true, tx, 0), (true, tx, 2), (true, ti, 4)]
  big : BigF P tx tb ts te
  int : P.underlying ti = some (.int .u8)
  ct : P.cellsOf t = 5
  ci : P.cellsOf ti = 1
end
end Go.Gw

set_option maxRecDepth 20000
set_option linter.unusedSimpArgs false
set_option linter.unusedVariables false
namespace Go.Proofs.Ytfljelnfjbbknaa.Nd
open Go.RowKit Go.Gw
theorem sl22 : SlF Try.prog 22 101 5 40 (.agg #[.int .i64 0, .int .i64 0, .int .i64 0, .int .i64 0, .int .i64 0]) := ⟨by kernel_rfl, by kernel_rfl, rfl, by decide⟩
theorem row101 : RowF Try.prog 101 5 := ⟨by kernel_rfl⟩
theorem zero101 : ZeroF Try.prog 101 #[.int .i64 0, .int .i64 0, .int .i64 0, .int .i64 0, .int .i64 0] := ⟨by kernel_rfl⟩
theorem fld101_0 : FieldF Try.prog 101 0 0 := ⟨by kernel_rfl⟩
theorem one3 : OneF Try.prog 3 := ⟨by kernel_rfl⟩
theorem fld101_1 : FieldF Try.prog 101 1 1 := ⟨by kernel_rfl⟩
theorem row99 : RowF Try.prog 99 4 := ⟨by kernel_rfl⟩
theorem arr99 : ArrF Try.prog 99 4 3 1 := ⟨by kernel_rfl, by kernel_rfl⟩
theorem sl68 : SlF Try.prog 68 4 1 1 (.bool false) := ⟨by kernel_rfl, by kernel_rfl, rfl, by decide⟩
theorem one4 : OneF Try.prog 4 := ⟨by kernel_rfl⟩
theorem sl65 : SlF Try.prog 65 3 1 8 (.int .i64 0) := ⟨by kernel_rfl, by kernel_rfl, rfl, by decide⟩
theorem fld25_0 : FieldF Try.prog 25 0 0 := ⟨by kernel_rfl⟩
theorem one22 : OneF Try.prog 22 := ⟨by kernel_rfl⟩
theorem nodeF : NodeF Try.prog 101 99 3 := ⟨by kernel_rfl, by kernel_rfl, by kernel_rfl, by kernel_rfl, by kernel_rfl, by kernel_rfl, by kernel_rfl⟩
theorem eqNode : EqF Try.prog 101 Nd.val := eqF_node nodeF Nd.tup Nd.tup_inj
theorem fn40 : FunF Try.prog 40 := ⟨_, _, Try.func40, by decide +kernel, rfl⟩
theorem fn69 : FunF Try.prog 69 := ⟨_, _, Try.func69, by decide +kernel, rfl⟩
theorem nz3 : ∃ ie, Try.prog.info? 3 = some ie ∧ 0 < ie.size := nz_of (by kernel_rfl)
theorem fn37 : FunF Try.prog 37 := ⟨_, _, Try.func37, by decide +kernel, rfl⟩
theorem fn68 : FunF Try.prog 68 := ⟨_, _, Try.func68, by decide +kernel, rfl⟩
theorem nz101 : ∃ ie, Try.prog.info? 101 = some ie ∧ 0 < ie.size := nz_of (by kernel_rfl)
theorem fn72 : FunF Try.prog 72 := ⟨_, _, Try.func72, by decide +kernel, rfl⟩
theorem fn73 : FunF Try.prog 73 := ⟨_, _, Try.func73, by decide +kernel, rfl⟩
theorem fn39 : FunF Try.prog 39 := ⟨_, _, Try.func39, by decide +kernel, rfl⟩
theorem fn74 : FunF Try.prog 74 := ⟨_, _, Try.func74, by decide +kernel, rfl⟩
theorem zero25 : ZeroF Try.prog 25 #[.slice none 0 0] := ⟨by kernel_rfl⟩
theorem row25 : RowF Try.prog 25 1 := ⟨by kernel_rfl⟩
theorem fn38 : FunF Try.prog 38 := ⟨_, _, Try.func38, by decide +kernel, rfl⟩
end Go.Proofs.Ytfljelnfjbbknaa.Nd

set_option maxRecDepth 20000
set_option linter.unusedSimpArgs false
set_option linter.unusedVariables false
namespace Go.Proofs.Ytfljelnfjbbknaa.Nd
open Go.RowKit Go.Gw
end Go.Proofs.Ytfljelnfjbbknaa.Nd

set_option maxRecDepth 20000
set_option linter.unusedSimpArgs false
set_option linter.unusedVariables false
namespace Go.Proofs.Ytfljelnfjbbknaa.Nd
open Go.RowKit Go.Gw
set_option maxHeartbeats 1000000 in
theorem level_any {va : Value} {l : List Nd} {F : Nat → Prop} {w : World} (hl : Sl Kd.node w F va l) :
    Calls Try.prog 43 [.agg [va].toArray].toArray w (Pure w fun v _ => v = .int .i64 (levelN l)) := by
  have hb0 := Below.refl w.heap.size w
  have hln0 := hl.lenle
  refine enter Try.func43 rfl rfl (w_seq (w_region (st (s_box rfl ?_))))
  intro g1 w1 hg1 hB1 k1 hs1
  change Blk w1 g1 25 [va].toArray at hB1
  have hb1 := below_g0 hb0 k1
  refine st (s_assign rfl (r_end (n_then (w_seq (w_seq (w_region (st (s_faddr fld25_0 rfl ?_))))))))
  refine st (s_load one22 rfl hB1.range (j := 0) rfl (st (s_len sl22 rfl (hl.at0 hb1) (st (s_eq rfl rfl (r_end (n_then ?_)))))))
  refine w_condP rfl (fun h1 => ?_) (fun h1 => ?_)
  · refine w_seq (w_region (st (s_assign rfl (r_end (n_then (w_ret1 rfl rfl ?_))))))
    exact ⟨_, rfl, hb1, by simp only [levelN]; split <;> first | rfl | omega⟩
  refine w_skip' (n_then (w_seq (w_region (st (s_faddr fld25_0 rfl (st (s_load one22 rfl hB1.range (j := 0) rfl (st (s_faddr fld25_0 rfl ?_)))))))))
  refine st (s_load one22 rfl hB1.range (j := 0) rfl (st (s_len sl22 rfl (hl.at0 hb1) (st (s_sub rfl rfl (by omega) (st (s_idx sl22 rfl rfl (hl.at0 hb1) (by omega) (by omega) ?_)))))))
  rintro b1 o1 _ ⟨rfl, _⟩ hc1 hF1 hlt1
  have hl_1 := Loc.lt hF1
  refine st (s_faddr fld101_0 rfl (st (s_load one3 rfl hc1 (j := 0) rfl (st (s_assign rfl (r_end (n_then (w_ret1 rfl rfl ?_))))))))
  exact ⟨_, rfl, hb1, by simp only [levelN]; split <;> first | rfl | omega⟩

set_option maxHeartbeats 1000000 in
theorem rloose_any {va : Value} {l : List Nd} {F : Nat → Prop} {w : World} (hl : Sl Kd.node w F va l) :
    Calls Try.prog 37 [va].toArray w (Pure w fun v _ => v = .bool (looseB l)) := by
  have hb0 := Below.refl w.heap.size w
  have hln1 := hl.lenle
  refine enter Try.func37 rfl rfl (w_seq (w_region (st (s_assign rfl (r_end (n_then (w_seq ?_)))))))
  refine w_seq (w_region (st (s_assign rfl (r_end (n_then (w_block (w_loop (α := Int) (fun (i : Int) => [(0, va), (3, .int .i64 i)]) (fun (i : Int) W => Below w.heap.size w W ∧ (0 ≤ i ∧ i ≤ l.length) ∧ (∀ j : Int, 0 ≤ j → j < i → okAt l j = true)) (fun (i : Int) => (l.length - i).toNat) (0) ⟨hb0, by omega, fun j _ _ => by omega⟩ (by exact ⟨rfl, rfl, trivial⟩) ?_)))))))
  rintro i w1 ⟨hb1, hi, ha⟩
  have hz1 := hb1.size
  refine w_seq (w_seq (w_region (st (s_move rfl (st (s_move rfl (st (s_len sl22 rfl (hl.at0 hb1) (st (s_lt rfl rfl ?_))))))))))
  refine r_end (n_then ?_)
  refine w_condP rfl (fun h1 => ?_) (fun h1 => ?_)
  rotate_left
  · refine w_exit' (n_then_exit (n_then_exit (n_block_exit (n_then (w_seq (w_region ?_))))))
    refine st (s_assign rfl (r_end (n_then (w_ret1 rfl rfl ?_))))
    exact ⟨_, rfl, hb1, by rw [(looseB_iff l).2]; intro j j0 j1; exact ha j j0 (by omega)⟩
  refine w_skip' (n_then (w_seq (w_block (w_seq (w_seq (w_region ?_))))))
  refine st (s_move rfl (st (s_move rfl (st (s_idx sl22 rfl rfl (hl.at0 hb1) (by omega) (by omega) ?_)))))
  rintro b1 o1 _ ⟨rfl, _⟩ hc1 hF1 hlt1
  have hl_1 := Loc.lt hF1
  refine st (s_faddr fld101_0 rfl (st (s_load one3 rfl hc1 (j := 0) rfl (st (s_lt rfl rfl (st (s_move rfl ?_)))))))
  refine r_caseP 18 rfl (fun h2 => ?_) (fun h2 => ?_)
  · refine s_pass rfl rfl (s_pass rfl rfl (s_pass rfl rfl (s_pass rfl rfl (s_pass rfl rfl (s_pass rfl rfl (st (s_pick rfl rfl ?_)))))))
    refine r_end (n_then (w_condT rfl (w_seq (w_region (st (s_assign rfl (r_end ?_)))))))
    refine n_then (w_ret1 rfl rfl ?_)
    refine ⟨_, rfl, hb1, ?_⟩
    rw [loose_no i hi.1 (by omega)]
    rw [ne_eq, okAt_iff]
    rintro ⟨e1, e2⟩
    first | omega | (have e3 := e2 k (by omega) (by omega); unfold Nd.kid at e3; exact kidB_no e3 (by omega))
  refine stg (s_move rfl (stg (s_move rfl (stg (s_idx sl22 rfl rfl (hl.at0 hb1) (by omega) (by omega) ?_)))))
  rintro b2 o2 _ ⟨rfl, _⟩ hc2 hF2 hlt2
  have hl_2 := Loc.lt hF2
  refine stg (s_faddr fld101_0 rfl (stg (s_load one3 rfl hc2 (j := 0) rfl (stg (s_gt rfl rfl (st (s_pick rfl rfl (r_end (n_then ?_)))))))))
  refine w_condP rfl (fun h3 => ?_) (fun h3 => ?_)
  · refine w_seq (w_region (st (s_assign rfl (r_end (n_then (w_ret1 rfl rfl ?_))))))
    refine ⟨_, rfl, hb1, ?_⟩
    rw [loose_no i hi.1 (by omega)]
    rw [ne_eq, okAt_iff]
    rintro ⟨e1, e2⟩
    first | omega | (have e3 := e2 k (by omega) (by omega); unfold Nd.kid at e3; exact kidB_no e3 (by omega))
  refine w_skip' (n_then (w_seq (w_region (st (s_assign rfl (r_end (n_then ?_)))))))
  refine w_block (w_loop (α := Int) (fun (k : Int) => [(0, va), (3, .int .i64 i), (4, .int .i64 k)]) (fun (k : Int) W => Below w.heap.size w W ∧ (0 ≤ k ∧ k ≤ 4) ∧ (∀ j : Int, 0 ≤ j → j < k → kidB l i ((ix l i).kid j) = true)) (fun (k : Int) => (4 - k).toNat) (0) ⟨hb1, by omega, fun j _ _ => by omega⟩ (by exact ⟨rfl, rfl, rfl, trivial⟩) ?_)
  rintro k w2 ⟨hb2, hk, hk2⟩
  have hz2 := hb2.size
  refine w_seq (w_seq (w_region (st (s_move rfl (st (s_lt rfl rfl (r_end (n_then ?_))))))))
  refine w_condP rfl (fun h4 => ?_) (fun h4 => ?_)
  rotate_left
  · refine w_exit' (n_then_exit (n_then_exit (n_block_exit (n_block (n_then (w_region ?_))))))
    refine st (s_move rfl (st (s_add rfl rfl (by omega) (st (s_assign rfl (r_end ?_))))))
    exact n_round ((i + 1)) ⟨hb2, by omega, fun j j0 j1 => if e : j = i then by rw [e, okAt_iff]; exact ⟨by omega, fun k k0 k1 => hk2 k k0 (by omega)⟩ else ha j j0 (by omega)⟩ (by omega) (by exact ⟨rfl, rfl, trivial⟩)
  refine w_skip' (n_then (w_seq (w_block (w_seq (w_region (st (s_move rfl ?_)))))))
  refine st (s_move rfl (st (s_move rfl (st (s_idx sl22 rfl rfl (hl.at0 hb2) (by omega) (by omega) ?_)))))
  rintro b3 o3 _ ⟨rfl, _⟩ hc3 hF3 hlt3
  have hl_3 := Loc.lt hF3
  refine st (s_faddr fld101_1 rfl (st (s_iaddr arr99 rfl rfl (by omega) (by omega) (st (s_load4 one3 rfl hc3 (j := 1) rfl rfl (by omega) (by omega) (st (s_assign rfl (r_end (n_then ?_)))))))))
  refine w_cut (α := Unit) (fun (_ : Unit) => [(0, va), (3, .int .i64 i), (4, .int .i64 k), (5, .int .i64 (sel4 ((ix l i).k0) ((ix l i).k1) ((ix l i).k2) ((ix l i).k3) k))]) (fun (_ : Unit) W => Below w.heap.size w W ∧ (0 ≤ (sel4 ((ix l i).k0) ((ix l i).k1) ((ix l i).k2) ((ix l i).k3) k) ∧ ((ix l i).lv = 1 → (sel4 ((ix l i).k0) ((ix l i).k1) ((ix l i).k2) ((ix l i).k3) k) ≤ 255))) ?_ ?_
  · refine w_seq (w_region (st (s_move rfl (st (s_lt rfl rfl (st (s_move rfl ?_)))))))
    refine r_caseP 39 rfl (fun h5 => ?_) (fun h5 => ?_)
    · refine s_pass rfl rfl (s_pass rfl rfl (s_pass rfl rfl (s_pass rfl rfl (s_pass rfl rfl (s_pass rfl rfl (s_pass rfl rfl ?_))))))
      refine s_passU rfl rfl (s_passU rfl rfl (s_pass rfl rfl (st (s_pick rfl rfl (r_end (n_then (w_condT rfl ?_)))))))
      refine w_seq (w_region (st (s_assign rfl (r_end (n_then (w_ret1 rfl rfl ?_))))))
      refine ⟨_, rfl, hb2, ?_⟩
      rw [loose_no i hi.1 (by omega)]
      rw [ne_eq, okAt_iff]
      rintro ⟨e1, e2⟩
      first | omega | (have e3 := e2 k (by omega) (by omega); unfold Nd.kid at e3; exact kidB_no e3 (by omega))
    refine stg (s_move rfl (stg (s_move rfl (stg (s_idx sl22 rfl rfl (hl.at0 hb2) (by omega) (by omega) ?_)))))
    rintro b4 o4 _ ⟨rfl, _⟩ hc4 hF4 hlt4
    have hl_4 := Loc.lt hF4
    refine stg (s_faddr fld101_0 rfl (stg (s_load one3 rfl hc4 (j := 0) rfl (stg (s_eq rfl rfl (stg (s_move rfl ?_)))))))
    refine r_caseP 46 rfl (fun h6 => ?_) (fun h6 => ?_)
    rotate_left
    · refine s_pass rfl rfl (s_pass rfl rfl (stg (s_pick rfl rfl (st (s_pick rfl rfl (r_end (n_then (w_condF rfl ?_))))))))
      refine w_skip' ?_
      exact n_meet () ⟨hb2, by omega⟩ (by exact ⟨rfl, rfl, rfl, rfl, trivial⟩)
    refine stg (s_move rfl (stg (s_gt rfl rfl (stg (s_pick rfl rfl (st (s_pick rfl rfl (r_end (n_then ?_)))))))))
    refine w_condP rfl (fun h7 => ?_) (fun h7 => ?_)
    rotate_left
    · refine w_skip' ?_
      exact n_meet () ⟨hb2, by omega⟩ (by exact ⟨rfl, rfl, rfl, rfl, trivial⟩)
    refine w_seq (w_region (st (s_assign rfl (r_end (n_then (w_ret1 rfl rfl ?_))))))
    refine ⟨_, rfl, hb2, ?_⟩
    rw [loose_no i hi.1 (by omega)]
    rw [ne_eq, okAt_iff]
    rintro ⟨e1, e2⟩
    first | omega | (have e3 := e2 k (by omega) (by omega); unfold Nd.kid at e3; exact kidB_no e3 (by omega))
  rintro _ w3 ⟨hb3, hc9⟩
  have hz3 := hb3.size
  refine w_seq ?_
  by_cases h8 : 1 < (ix l i).lv
  rotate_left
  · obtain ⟨b10, o10, _, hat6, ⟨rfl, _⟩, hc10, hF10, hlt10⟩ := (hl.at0 hb3).elem i (by omega) (by omega)
    have hl_10 := Loc.lt hF10
    refine w_draw 30 (fun a b => a.grownBy b none) [(some 51, Is <| va), (some 52, Is <| .int .i64 i), (some 53, Is <| .pointer (some ⟨b10, o10, none⟩)), (some 54, Is <| .pointer (some ⟨b10, o10 + 0, none⟩)), (some 55, Is <| .int .i64 ((ix l i).lv)), (some 56, Is <| .bool (decide (1 < (ix l i).lv))), (some 57, Is <| .bool false), (some 58, Is <| undef), (some 59, Is <| undef), (some 60, Is <| .bool false), (some 61, Is <| .bool false), (some 62, Is <| undef), (some 63, Is <| undef), (some 64, Is <| undef), (some 65, Is <| undef), (some 66, Is <| undef), (some 67, Is <| undef), (some 68, Is <| undef), (some 69, Is <| undef), (some 70, Is <| undef), (some 71, Is <| undef), (some 72, Is <| undef), (some 73, Is <| undef), (some 74, Is <| undef), (some 75, Is <| undef), (some 76, Is <| undef), (some 77, Is <| undef), (some 78, Is <| undef), (some 79, Is <| undef), (some 80, Is <| .bool false)] [[], [], [0, 1], [2], [3], [4], [5], [6], [6, 7], [6, 8], [9], [10], [10], [10, 11, 12], [10, 13], [14], [14], [14, 16], [14, 15, 17], [14, 18], [14, 19], [14], [14], [14, 21, 22], [14, 23], [14, 24], [14, 25], [14, 20, 26], [10, 14, 27], [10, 28]] [(0, va), (3, .int .i64 i), (4, .int .i64 k), (5, .int .i64 (sel4 ((ix l i).k0) ((ix l i).k1) ((ix l i).k2) ((ix l i).k3) k))] (by exact ⟨rfl, rfl, rfl, rfl, trivial⟩) (by kernel_rfl) (by kernel_rfl) grown_none_refl (fun _ _ _ => grown_none_trans) ⟨kv, kv, kv, kv, kv, kv, kv, kv, kv, kv, kv, kv, kv, kv, kv, kv, kv, kv, kv, kv, kv, kv, kv, kv, kv, kv, kv, kv, kv, kv, trivial⟩ ?_
    intro w100 k97 hs4
    have hb100 := below_g0 hb3 k97
    refine ⟨⟨?_, ?_, ?_, ?_, ?_, ?_, ?_, ?_, ?_, ?_, ?_, ?_, ?_, ?_, ?_, ?_, ?_, ?_, ?_, ?_, ?_, ?_, ?_, ?_, ?_, ?_, ?_, ?_, ?_, ?_, trivial⟩, ?_⟩
    · intro w101 k98
      refine op1 (s_move rfl ?_)
      exact ⟨rfl, grown_none_refl _⟩
    · intro w102 k99
      refine op1 (s_move rfl ?_)
      exact ⟨rfl, grown_none_refl _⟩
    · intro w103 k100
      intro v_ hv_; subst v_
      rintro _ rfl
      refine op1 (s_idxat sl22 rfl rfl hat6 ?_)
      exact ⟨rfl, grown_none_refl _⟩
    · intro w104 k101
      rintro _ rfl
      refine op1 (s_faddr fld101_0 rfl ?_)
      exact ⟨rfl, grown_none_refl _⟩
    · intro w105 k102
      rintro _ rfl
      refine op1 (s_load one3 rfl (range_g0 (range_g0 hc10 k97) k102) (j := 0) rfl ?_)
      exact ⟨rfl, grown_none_refl _⟩
    · intro w106 k103
      rintro _ rfl
      refine op1 (s_gt rfl rfl ?_)
      exact ⟨rfl, grown_none_refl _⟩
    · intro w107 k104
      rintro _ rfl
      refine op1 (s_move rfl ?_)
      exact ⟨(by rw [decide_eq_false h8]), grown_none_refl _⟩
    · intro w108 k105
      rintro _ rfl
      refine op1p ⟨rfl, grown_none_refl _⟩
    · intro w109 k106
      rintro _ rfl
      intro v_ hv_; subst v_
      refine op1p ⟨rfl, grown_none_refl _⟩
    · intro w110 k107
      rintro _ rfl
      intro v_ hv_; subst v_
      refine op1 (s_pick rfl rfl ?_)
      exact ⟨rfl, grown_none_refl _⟩
    · intro w111 k108
      rintro _ rfl
      refine op1 (s_move rfl ?_)
      exact ⟨rfl, grown_none_refl _⟩
    · intro w112 k109
      rintro _ rfl
      refine op1p ⟨rfl, grown_none_refl _⟩
    · intro w113 k110
      rintro _ rfl
      refine op1p ⟨rfl, grown_none_refl _⟩
    · intro w114 k111
      rintro _ rfl
      intro v_ hv_; subst v_
      intro v_ hv_; subst v_
      refine op1p ⟨rfl, grown_none_refl _⟩
    · intro w115 k112
      rintro _ rfl
      intro v_ hv_; subst v_
      refine op1p ⟨rfl, grown_none_refl _⟩
    · intro w116 k113
      intro v_ hv_; subst v_
      refine op1u ⟨rfl, grown_none_refl _⟩
    · intro w117 k114
      intro v_ hv_; subst v_
      refine op1u ⟨rfl, grown_none_refl _⟩
    · intro w118 k115
      intro v_ hv_; subst v_
      intro v_ hv_; subst v_
      refine op1u ⟨rfl, grown_none_refl _⟩
    · intro w119 k116
      intro v_ hv_; subst v_
      intro v_ hv_; subst v_
      intro v_ hv_; subst v_
      refine op1u ⟨rfl, grown_none_refl _⟩
    · intro w120 k117
      intro v_ hv_; subst v_
      intro v_ hv_; subst v_
      refine op1u ⟨rfl, grown_none_refl _⟩
    · intro w121 k118
      intro v_ hv_; subst v_
      intro v_ hv_; subst v_
      refine op1u ⟨rfl, grown_none_refl _⟩
    · intro w122 k119
      intro v_ hv_; subst v_
      refine op1u ⟨rfl, grown_none_refl _⟩
    · intro w123 k120
      intro v_ hv_; subst v_
      refine op1u ⟨rfl, grown_none_refl _⟩
    · intro w124 k121
      intro v_ hv_; subst v_
      intro v_ hv_; subst v_
      intro v_ hv_; subst v_
      refine op1u ⟨rfl, grown_none_refl _⟩
    · intro w125 k122
      intro v_ hv_; subst v_
      intro v_ hv_; subst v_
      refine op1u ⟨rfl, grown_none_refl _⟩
    · intro w126 k123
      intro v_ hv_; subst v_
      intro v_ hv_; subst v_
      refine op1u ⟨rfl, grown_none_refl _⟩
    · intro w127 k124
      intro v_ hv_; subst v_
      intro v_ hv_; subst v_
      refine op1u ⟨rfl, grown_none_refl _⟩
    · intro w128 k125
      intro v_ hv_; subst v_
      intro v_ hv_; subst v_
      intro v_ hv_; subst v_
      refine op1u ⟨rfl, grown_none_refl _⟩
    · intro w129 k126
      rintro _ rfl
      intro v_ hv_; subst v_
      intro v_ hv_; subst v_
      refine op1p ⟨rfl, grown_none_refl _⟩
    · intro w130 k127
      rintro _ rfl
      intro v_ hv_; subst v_
      refine op1 (s_pick rfl rfl ?_)
      exact ⟨rfl, grown_none_refl _⟩
    intro w131 k128
    have hb131 := below_g0 hb100 k128
    intro v_ hv_; subst v_
    rintro _ rfl _ rfl _ rfl _ rfl _ rfl _ rfl
    intro v_ hv_; subst v_
    intro v_ hv_; subst v_
    rintro _ rfl _ rfl
    intro v_ hv_; subst v_
    intro v_ hv_; subst v_
    intro v_ hv_; subst v_
    intro v_ hv_; subst v_
    intro v_ hv_; subst v_
    intro v_ hv_; subst v_
    intro v_ hv_; subst v_
    intro v_ hv_; subst v_
    intro v_ hv_; subst v_
    intro v_ hv_; subst v_
    intro v_ hv_; subst v_
    intro v_ hv_; subst v_
    intro v_ hv_; subst v_
    intro v_ hv_; subst v_
    intro v_ hv_; subst v_
    intro v_ hv_; subst v_
    intro v_ hv_; subst v_
    intro v_ hv_; subst v_
    rintro _ rfl
    refine r_end (n_then (w_condF rfl (w_skip' (n_block (n_then (w_region ?_))))))
    refine st (s_move rfl (st (s_add rfl rfl (by omega) (st (s_assign rfl (r_end ?_))))))
    exact n_round ((k + 1)) ⟨hb131, by omega, fun j j0 j1 => if e : j = k then by rw [e]; unfold Nd.kid; exact kidB_yes (by omega) (by omega) (by omega) else hk2 j j0 (by omega)⟩ (by omega) (by exact ⟨rfl, rfl, rfl, trivial⟩)
  by_cases h9 : 0 < (sel4 ((ix l i).k0) ((ix l i).k1) ((ix l i).k2) ((ix l i).k3) k)
  rotate_left
  · obtain ⟨b9, o9, _, hat5, ⟨rfl, _⟩, hc9, hF9, hlt9⟩ := (hl.at0 hb3).elem i (by omega) (by omega)
    have hl_9 := Loc.lt hF9
    refine w_draw 30 (fun a b => a.grownBy b none) [(some 51, Is <| va), (some 52, Is <| .int .i64 i), (some 53, Is <| .pointer (some ⟨b9, o9, none⟩)), (some 54, Is <| .pointer (some ⟨b9, o9 + 0, none⟩)), (some 55, Is <| .int .i64 ((ix l i).lv)), (some 56, Is <| .bool (decide (1 < (ix l i).lv))), (some 57, Is <| .bool true), (some 58, Is <| .int .i64 (sel4 ((ix l i).k0) ((ix l i).k1) ((ix l i).k2) ((ix l i).k3) k)), (some 59, Is <| .bool (decide (0 < (sel4 ((ix l i).k0) ((ix l i).k1) ((ix l i).k2) ((ix l i).k3) k)))), (some 60, Is <| .bool (decide (0 < (sel4 ((ix l i).k0) ((ix l i).k1) ((ix l i).k2) ((ix l i).k3) k)))), (some 61, Is <| .bool false), (some 62, Is <| undef), (some 63, Is <| undef), (some 64, Is <| undef), (some 65, Is <| undef), (some 66, Is <| undef), (some 67, Is <| undef), (some 68, Is <| undef), (some 69, Is <| undef), (some 70, Is <| undef), (some 71, Is <| undef), (some 72, Is <| undef), (some 73, Is <| undef), (some 74, Is <| undef), (some 75, Is <| undef), (some 76, Is <| undef), (some 77, Is <| undef), (some 78, Is <| undef), (some 79, Is <| undef), (some 80, Is <| .bool false)] [[], [], [0, 1], [2], [3], [4], [5], [6], [6, 7], [6, 8], [9], [10], [10], [10, 11, 12], [10, 13], [14], [14], [14, 16], [14, 15, 17], [14, 18], [14, 19], [14], [14], [14, 21, 22], [14, 23], [14, 24], [14, 25], [14, 20, 26], [10, 14, 27], [10, 28]] [(0, va), (3, .int .i64 i), (4, .int .i64 k), (5, .int .i64 (sel4 ((ix l i).k0) ((ix l i).k1) ((ix l i).k2) ((ix l i).k3) k))] (by exact ⟨rfl, rfl, rfl, rfl, trivial⟩) (by kernel_rfl) (by kernel_rfl) grown_none_refl (fun _ _ _ => grown_none_trans) ⟨kv, kv, kv, kv, kv, kv, kv, kv, kv, kv, kv, kv, kv, kv, kv, kv, kv, kv, kv, kv, kv, kv, kv, kv, kv, kv, kv, kv, kv, kv, trivial⟩ ?_
    intro w68 k65 hs3
    have hb68 := below_g0 hb3 k65
    refine ⟨⟨?_, ?_, ?_, ?_, ?_, ?_, ?_, ?_, ?_, ?_, ?_, ?_, ?_, ?_, ?_, ?_, ?_, ?_, ?_, ?_, ?_, ?_, ?_, ?_, ?_, ?_, ?_, ?_, ?_, ?_, trivial⟩, ?_⟩
    · intro w69 k66
      refine op1 (s_move rfl ?_)
      exact ⟨rfl, grown_none_refl _⟩
    · intro w70 k67
      refine op1 (s_move rfl ?_)
      exact ⟨rfl, grown_none_refl _⟩
    · intro w71 k68
      intro v_ hv_; subst v_
      rintro _ rfl
      refine op1 (s_idxat sl22 rfl rfl hat5 ?_)
      exact ⟨rfl, grown_none_refl _⟩
    · intro w72 k69
      rintro _ rfl
      refine op1 (s_faddr fld101_0 rfl ?_)
      exact ⟨rfl, grown_none_refl _⟩
    · intro w73 k70
      rintro _ rfl
      refine op1 (s_load one3 rfl (range_g0 (range_g0 hc9 k65) k70) (j := 0) rfl ?_)
      exact ⟨rfl, grown_none_refl _⟩
    · intro w74 k71
      rintro _ rfl
      refine op1 (s_gt rfl rfl ?_)
      exact ⟨rfl, grown_none_refl _⟩
    · intro w75 k72
      rintro _ rfl
      refine op1 (s_move rfl ?_)
      exact ⟨(by rw [decide_eq_true h8]), grown_none_refl _⟩
    · intro w76 k73
      rintro _ rfl
      refine op1g (s_move rfl ?_)
      exact ⟨rfl, grown_none_refl _⟩
    · intro w77 k74
      rintro _ rfl _ rfl
      refine op1g (s_gt rfl rfl ?_)
      exact ⟨rfl, grown_none_refl _⟩
    · intro w78 k75
      rintro _ rfl _ rfl
      refine op1 (s_pick rfl rfl ?_)
      exact ⟨rfl, grown_none_refl _⟩
    · intro w79 k76
      rintro _ rfl
      refine op1 (s_move rfl ?_)
      exact ⟨(by rw [decide_eq_false h9]), grown_none_refl _⟩
    · intro w80 k77
      rintro _ rfl
      refine op1p ⟨rfl, grown_none_refl _⟩
    · intro w81 k78
      rintro _ rfl
      refine op1p ⟨rfl, grown_none_refl _⟩
    · intro w82 k79
      rintro _ rfl
      intro v_ hv_; subst v_
      intro v_ hv_; subst v_
      refine op1p ⟨rfl, grown_none_refl _⟩
    · intro w83 k80
      rintro _ rfl
      intro v_ hv_; subst v_
      refine op1p ⟨rfl, grown_none_refl _⟩
    · intro w84 k81
      intro v_ hv_; subst v_
      refine op1u ⟨rfl, grown_none_refl _⟩
    · intro w85 k82
      intro v_ hv_; subst v_
      refine op1u ⟨rfl, grown_none_refl _⟩
    · intro w86 k83
      intro v_ hv_; subst v_
      intro v_ hv_; subst v_
      refine op1u ⟨rfl, grown_none_refl _⟩
    · intro w87 k84
      intro v_ hv_; subst v_
      intro v_ hv_; subst v_
      intro v_ hv_; subst v_
      refine op1u ⟨rfl, grown_none_refl _⟩
    · intro w88 k85
      intro v_ hv_; subst v_
      intro v_ hv_; subst v_
      refine op1u ⟨rfl, grown_none_refl _⟩
    · intro w89 k86
      intro v_ hv_; subst v_
      intro v_ hv_; subst v_
      refine op1u ⟨rfl, grown_none_refl _⟩
    · intro w90 k87
      intro v_ hv_; subst v_
      refine op1u ⟨rfl, grown_none_refl _⟩
    · intro w91 k88
      intro v_ hv_; subst v_
      refine op1u ⟨rfl, grown_none_refl _⟩
    · intro w92 k89
      intro v_ hv_; subst v_
      intro v_ hv_; subst v_
      intro v_ hv_; subst v_
      refine op1u ⟨rfl, grown_none_refl _⟩
    · intro w93 k90
      intro v_ hv_; subst v_
      intro v_ hv_; subst v_
      refine op1u ⟨rfl, grown_none_refl _⟩
    · intro w94 k91
      intro v_ hv_; subst v_
      intro v_ hv_; subst v_
      refine op1u ⟨rfl, grown_none_refl _⟩
    · intro w95 k92
      intro v_ hv_; subst v_
      intro v_ hv_; subst v_
      refine op1u ⟨rfl, grown_none_refl _⟩
    · intro w96 k93
      intro v_ hv_; subst v_
      intro v_ hv_; subst v_
      intro v_ hv_; subst v_
      refine op1u ⟨rfl, grown_none_refl _⟩
    · intro w97 k94
      rintro _ rfl
      intro v_ hv_; subst v_
      intro v_ hv_; subst v_
      refine op1p ⟨rfl, grown_none_refl _⟩
    · intro w98 k95
      rintro _ rfl
      intro v_ hv_; subst v_
      refine op1 (s_pick rfl rfl ?_)
      exact ⟨rfl, grown_none_refl _⟩
    intro w99 k96
    have hb99 := below_g0 hb68 k96
    intro v_ hv_; subst v_
    rintro _ rfl _ rfl _ rfl _ rfl _ rfl _ rfl _ rfl _ rfl _ rfl _ rfl
    intro v_ hv_; subst v_
    intro v_ hv_; subst v_
    intro v_ hv_; subst v_
    intro v_ hv_; subst v_
    intro v_ hv_; subst v_
    intro v_ hv_; subst v_
    intro v_ hv_; subst v_
    intro v_ hv_; subst v_
    intro v_ hv_; subst v_
    intro v_ hv_; subst v_
    intro v_ hv_; subst v_
    intro v_ hv_; subst v_
    intro v_ hv_; subst v_
    intro v_ hv_; subst v_
    intro v_ hv_; subst v_
    intro v_ hv_; subst v_
    intro v_ hv_; subst v_
    intro v_ hv_; subst v_
    rintro _ rfl
    refine r_end (n_then (w_condF rfl (w_skip' (n_block (n_then (w_region ?_))))))
    refine st (s_move rfl (st (s_add rfl rfl (by omega) (st (s_assign rfl (r_end ?_))))))
    exact n_round ((k + 1)) ⟨hb99, by omega, fun j j0 j1 => if e : j = k then by rw [e]; unfold Nd.kid; exact kidB_yes (by omega) (by omega) (by omega) else hk2 j j0 (by omega)⟩ (by omega) (by exact ⟨rfl, rfl, rfl, trivial⟩)
  by_cases h10 : i < (sel4 ((ix l i).k0) ((ix l i).k1) ((ix l i).k2) ((ix l i).k3) k)
  · obtain ⟨b5, o5, _, hat1, ⟨rfl, _⟩, hc5, hF5, hlt5⟩ := (hl.at0 hb3).elem i (by omega) (by omega)
    have hl_5 := Loc.lt hF5
    refine w_draw 30 (fun a b => a.grownBy b none) [(some 51, Is <| va), (some 52, Is <| .int .i64 i), (some 53, Is <| .pointer (some ⟨b5, o5, none⟩)), (some 54, Is <| .pointer (some ⟨b5, o5 + 0, none⟩)), (some 55, Is <| .int .i64 ((ix l i).lv)), (some 56, Is <| .bool (decide (1 < (ix l i).lv))), (some 57, Is <| .bool true), (some 58, Is <| .int .i64 (sel4 ((ix l i).k0) ((ix l i).k1) ((ix l i).k2) ((ix l i).k3) k)), (some 59, Is <| .bool (decide (0 < (sel4 ((ix l i).k0) ((ix l i).k1) ((ix l i).k2) ((ix l i).k3) k)))), (some 60, Is <| .bool (decide (0 < (sel4 ((ix l i).k0) ((ix l i).k1) ((ix l i).k2) ((ix l i).k3) k)))), (some 61, Is <| .bool true), (some 62, Is <| .int .i64 (sel4 ((ix l i).k0) ((ix l i).k1) ((ix l i).k2) ((ix l i).k3) k)), (some 63, Is <| .int .i64 i), (some 64, Is <| .bool (decide (i < (sel4 ((ix l i).k0) ((ix l i).k1) ((ix l i).k2) ((ix l i).k3) k)))), (some 65, Is <| .bool true), (some 66, Is <| undef), (some 67, Is <| undef), (some 68, Is <| undef), (some 69, Is <| undef), (some 70, Is <| undef), (some 71, Is <| undef), (some 72, Is <| undef), (some 73, Is <| undef), (some 74, Is <| undef), (some 75, Is <| undef), (some 76, Is <| undef), (some 77, Is <| undef), (some 78, Is <| undef), (some 79, Is <| .bool true), (some 80, Is <| .bool true)] [[], [], [0, 1], [2], [3], [4], [5], [6], [6, 7], [6, 8], [9], [10], [10], [10, 11, 12], [10, 13], [14], [14], [14, 16], [14, 15, 17], [14, 18], [14, 19], [14], [14], [14, 21, 22], [14, 23], [14, 24], [14, 25], [14, 20, 26], [10, 14, 27], [10, 28]] [(0, va), (3, .int .i64 i), (4, .int .i64 k), (5, .int .i64 (sel4 ((ix l i).k0) ((ix l i).k1) ((ix l i).k2) ((ix l i).k3) k))] (by exact ⟨rfl, rfl, rfl, rfl, trivial⟩) (by kernel_rfl) (by kernel_rfl) grown_none_refl (fun _ _ _ => grown_none_trans) ⟨kv, kv, kv, kv, kv, kv, kv, kv, kv, kv, kv, kv, kv, kv, kv, kv, kv, kv, kv, kv, kv, kv, kv, kv, kv, kv, kv, kv, kv, kv, trivial⟩ ?_
    intro w4 k1 hs1
    have hb4 := below_g0 hb3 k1
    refine ⟨⟨?_, ?_, ?_, ?_, ?_, ?_, ?_, ?_, ?_, ?_, ?_, ?_, ?_, ?_, ?_, ?_, ?_, ?_, ?_, ?_, ?_, ?_, ?_, ?_, ?_, ?_, ?_, ?_, ?_, ?_, trivial⟩, ?_⟩
    · intro w5 k2
      refine op1 (s_move rfl ?_)
      exact ⟨rfl, grown_none_refl _⟩
    · intro w6 k3
      refine op1 (s_move rfl ?_)
      exact ⟨rfl, grown_none_refl _⟩
    · intro w7 k4
      intro v_ hv_; subst v_
      rintro _ rfl
      refine op1 (s_idxat sl22 rfl rfl hat1 ?_)
      exact ⟨rfl, grown_none_refl _⟩
    · intro w8 k5
      rintro _ rfl
      refine op1 (s_faddr fld101_0 rfl ?_)
      exact ⟨rfl, grown_none_refl _⟩
    · intro w9 k6
      rintro _ rfl
      refine op1 (s_load one3 rfl (range_g0 (range_g0 hc5 k1) k6) (j := 0) rfl ?_)
      exact ⟨rfl, grown_none_refl _⟩
    · intro w10 k7
      rintro _ rfl
      refine op1 (s_gt rfl rfl ?_)
      exact ⟨rfl, grown_none_refl _⟩
    · intro w11 k8
      rintro _ rfl
      refine op1 (s_move rfl ?_)
      exact ⟨(by rw [decide_eq_true h8]), grown_none_refl _⟩
    · intro w12 k9
      rintro _ rfl
      refine op1g (s_move rfl ?_)
      exact ⟨rfl, grown_none_refl _⟩
    · intro w13 k10
      rintro _ rfl _ rfl
      refine op1g (s_gt rfl rfl ?_)
      exact ⟨rfl, grown_none_refl _⟩
    · intro w14 k11
      rintro _ rfl _ rfl
      refine op1 (s_pick rfl rfl ?_)
      exact ⟨rfl, grown_none_refl _⟩
    · intro w15 k12
      rintro _ rfl
      refine op1 (s_move rfl ?_)
      exact ⟨(by rw [decide_eq_true h9]), grown_none_refl _⟩
    · intro w16 k13
      rintro _ rfl
      refine op1g (s_move rfl ?_)
      exact ⟨rfl, grown_none_refl _⟩
    · intro w17 k14
      rintro _ rfl
      refine op1g (s_move rfl ?_)
      exact ⟨rfl, grown_none_refl _⟩
    · intro w18 k15
      rintro _ rfl _ rfl _ rfl
      refine op1g (s_gt rfl rfl ?_)
      exact ⟨rfl, grown_none_refl _⟩
    · intro w19 k16
      rintro _ rfl _ rfl
      refine op1g (s_move rfl ?_)
      exact ⟨(by rw [decide_eq_true h10]), grown_none_refl _⟩
    · intro w20 k17
      rintro _ rfl
      refine op1p ⟨rfl, grown_none_refl _⟩
    · intro w21 k18
      rintro _ rfl
      refine op1p ⟨rfl, grown_none_refl _⟩
    · intro w22 k19
      rintro _ rfl
      intro v_ hv_; subst v_
      refine op1p ⟨rfl, grown_none_refl _⟩
    · intro w23 k20
      rintro _ rfl
      intro v_ hv_; subst v_
      intro v_ hv_; subst v_
      refine op1p ⟨rfl, grown_none_refl _⟩
    · intro w24 k21
      rintro _ rfl
      intro v_ hv_; subst v_
      refine op1p ⟨rfl, grown_none_refl _⟩
    · intro w25 k22
      rintro _ rfl
      intro v_ hv_; subst v_
      refine op1p ⟨rfl, grown_none_refl _⟩
    · intro w26 k23
      rintro _ rfl
      refine op1p ⟨rfl, grown_none_refl _⟩
    · intro w27 k24
      rintro _ rfl
      refine op1p ⟨rfl, grown_none_refl _⟩
    · intro w28 k25
      rintro _ rfl
      intro v_ hv_; subst v_
      intro v_ hv_; subst v_
      refine op1p ⟨rfl, grown_none_refl _⟩
    · intro w29 k26
      rintro _ rfl
      intro v_ hv_; subst v_
      refine op1p ⟨rfl, grown_none_refl _⟩
    · intro w30 k27
      rintro _ rfl
      intro v_ hv_; subst v_
      refine op1p ⟨rfl, grown_none_refl _⟩
    · intro w31 k28
      rintro _ rfl
      intro v_ hv_; subst v_
      refine op1p ⟨rfl, grown_none_refl _⟩
    · intro w32 k29
      rintro _ rfl
      intro v_ hv_; subst v_
      intro v_ hv_; subst v_
      refine op1p ⟨rfl, grown_none_refl _⟩
    · intro w33 k30
      rintro _ rfl _ rfl
      intro v_ hv_; subst v_
      refine op1g (s_pick rfl rfl ?_)
      exact ⟨rfl, grown_none_refl _⟩
    · intro w34 k31
      rintro _ rfl _ rfl
      refine op1 (s_pick rfl rfl ?_)
      exact ⟨rfl, grown_none_refl _⟩
    intro w35 k32
    have hb35 := below_g0 hb4 k32
    intro v_ hv_; subst v_
    rintro _ rfl _ rfl _ rfl _ rfl _ rfl _ rfl _ rfl _ rfl _ rfl _ rfl _ rfl _ rfl _ rfl _ rfl
    intro v_ hv_; subst v_
    intro v_ hv_; subst v_
    intro v_ hv_; subst v_
    intro v_ hv_; subst v_
    intro v_ hv_; subst v_
    intro v_ hv_; subst v_
    intro v_ hv_; subst v_
    intro v_ hv_; subst v_
    intro v_ hv_; subst v_
    intro v_ hv_; subst v_
    intro v_ hv_; subst v_
    intro v_ hv_; subst v_
    intro v_ hv_; subst v_
    rintro _ rfl _ rfl
    refine r_end (n_then (w_condT rfl (w_seq (w_region (st (s_assign rfl (r_end ?_)))))))
    refine n_then (w_ret1 rfl rfl ?_)
    refine ⟨_, rfl, hb35, ?_⟩
    rw [loose_no i hi.1 (by omega)]
    rw [ne_eq, okAt_iff]
    rintro ⟨e1, e2⟩
    first | omega | (have e3 := e2 k (by omega) (by omega); unfold Nd.kid at e3; exact kidB_no e3 (by omega))
  obtain ⟨b6, o6, _, hat2, ⟨rfl, _⟩, hc6, hF6, hlt6⟩ := (hl.at0 hb3).elem i (by omega) (by omega)
  have hl_6 := Loc.lt hF6
  obtain ⟨b7, o7, _, hat3, ⟨rfl, _⟩, hc7, hF7, hlt7⟩ := (hl.at0 hb3).elem ((sel4 ((ix l i).k0) ((ix l i).k1) ((ix l i).k2) ((ix l i).k3) k) - 1) (by omega) (by omega)
  have hl_7 := Loc.lt hF7
  obtain ⟨b8, o8, _, hat4, ⟨rfl, _⟩, hc8, hF8, hlt8⟩ := (hl.at0 hb3).elem i (by omega) (by omega)
  have hl_8 := Loc.lt hF8
  refine w_draw 30 (fun a b => a.grownBy b none) [(some 51, Is <| va), (some 52, Is <| .int .i64 i), (some 53, Is <| .pointer (some ⟨b6, o6, none⟩)), (some 54, Is <| .pointer (some ⟨b6, o6 + 0, none⟩)), (some 55, Is <| .int .i64 ((ix l i).lv)), (some 56, Is <| .bool (decide (1 < (ix l i).lv))), (some 57, Is <| .bool true), (some 58, Is <| .int .i64 (sel4 ((ix l i).k0) ((ix l i).k1) ((ix l i).k2) ((ix l i).k3) k)), (some 59, Is <| .bool (decide (0 < (sel4 ((ix l i).k0) ((ix l i).k1) ((ix l i).k2) ((ix l i).k3) k)))), (some 60, Is <| .bool (decide (0 < (sel4 ((ix l i).k0) ((ix l i).k1) ((ix l i).k2) ((ix l i).k3) k)))), (some 61, Is <| .bool true), (some 62, Is <| .int .i64 (sel4 ((ix l i).k0) ((ix l i).k1) ((ix l i).k2) ((ix l i).k3) k)), (some 63, Is <| .int .i64 i), (some 64, Is <| .bool (decide (i < (sel4 ((ix l i).k0) ((ix l i).k1) ((ix l i).k2) ((ix l i).k3) k)))), (some 65, Is <| .bool false), (some 66, Is <| va), (some 67, Is <| .int .i64 (sel4 ((ix l i).k0) ((ix l i).k1) ((ix l i).k2) ((ix l i).k3) k)), (some 68, Is <| .int .i64 ((sel4 ((ix l i).k0) ((ix l i).k1) ((ix l i).k2) ((ix l i).k3) k) - 1)), (some 69, Is <| .pointer (some ⟨b7, o7, none⟩)), (some 70, Is <| .pointer (some ⟨b7, o7 + 0, none⟩)), (some 71, Is <| .int .i64 ((ix l ((sel4 ((ix l i).k0) ((ix l i).k1) ((ix l i).k2) ((ix l i).k3) k) - 1)).lv)), (some 72, Is <| va), (some 73, Is <| .int .i64 i), (some 74, Is <| .pointer (some ⟨b8, o8, none⟩)), (some 75, Is <| .pointer (some ⟨b8, o8 + 0, none⟩)), (some 76, Is <| .int .i64 ((ix l i).lv)), (some 77, Is <| .int .i64 ((ix l i).lv - 1)), (some 78, Is <| .bool (decide ((ix l ((sel4 ((ix l i).k0) ((ix l i).k1) ((ix l i).k2) ((ix l i).k3) k) - 1)).lv ≠ ((ix l i).lv - 1)))), (some 79, Is <| .bool (decide ((ix l ((sel4 ((ix l i).k0) ((ix l i).k1) ((ix l i).k2) ((ix l i).k3) k) - 1)).lv ≠ ((ix l i).lv - 1)))), (some 80, Is <| .bool (decide ((ix l ((sel4 ((ix l i).k0) ((ix l i).k1) ((ix l i).k2) ((ix l i).k3) k) - 1)).lv ≠ ((ix l i).lv - 1))))] [[], [], [0, 1], [2], [3], [4], [5], [6], [6, 7], [6, 8], [9], [10], [10], [10, 11, 12], [10, 13], [14], [14], [14, 16], [14, 15, 17], [14, 18], [14, 19], [14], [14], [14, 21, 22], [14, 23], [14, 24], [14, 25], [14, 20, 26], [10, 14, 27], [10, 28]] [(0, va), (3, .int .i64 i), (4, .int .i64 k), (5, .int .i64 (sel4 ((ix l i).k0) ((ix l i).k1) ((ix l i).k2) ((ix l i).k3) k))] (by exact ⟨rfl, rfl, rfl, rfl, trivial⟩) (by kernel_rfl) (by kernel_rfl) grown_none_refl (fun _ _ _ => grown_none_trans) ⟨kv, kv, kv, kv, kv, kv, kv, kv, kv, kv, kv, kv, kv, kv, kv, kv, kv, kv, kv, kv, kv, kv, kv, kv, kv, kv, kv, kv, kv, kv, trivial⟩ ?_
  intro w36 k33 hs2
  have hb36 := below_g0 hb3 k33
  refine ⟨⟨?_, ?_, ?_, ?_, ?_, ?_, ?_, ?_, ?_, ?_, ?_, ?_, ?_, ?_, ?_, ?_, ?_, ?_, ?_, ?_, ?_, ?_, ?_, ?_, ?_, ?_, ?_, ?_, ?_, ?_, trivial⟩, ?_⟩
  · intro w37 k34
    refine op1 (s_move rfl ?_)
    exact ⟨rfl, grown_none_refl _⟩
  · intro w38 k35
    refine op1 (s_move rfl ?_)
    exact ⟨rfl, grown_none_refl _⟩
  · intro w39 k36
    intro v_ hv_; subst v_
    rintro _ rfl
    refine op1 (s_idxat sl22 rfl rfl hat2 ?_)
    exact ⟨rfl, grown_none_refl _⟩
  · intro w40 k37
    rintro _ rfl
    refine op1 (s_faddr fld101_0 rfl ?_)
    exact ⟨rfl, grown_none_refl _⟩
  · intro w41 k38
    rintro _ rfl
    refine op1 (s_load one3 rfl (range_g0 (range_g0 hc6 k33) k38) (j := 0) rfl ?_)
    exact ⟨rfl, grown_none_refl _⟩
  · intro w42 k39
    rintro _ rfl
    refine op1 (s_gt rfl rfl ?_)
    exact ⟨rfl, grown_none_refl _⟩
  · intro w43 k40
    rintro _ rfl
    refine op1 (s_move rfl ?_)
    exact ⟨(by rw [decide_eq_true h8]), grown_none_refl _⟩
  · intro w44 k41
    rintro _ rfl
    refine op1g (s_move rfl ?_)
    exact ⟨rfl, grown_none_refl _⟩
  · intro w45 k42
    rintro _ rfl _ rfl
    refine op1g (s_gt rfl rfl ?_)
    exact ⟨rfl, grown_none_refl _⟩
  · intro w46 k43
    rintro _ rfl _ rfl
    refine op1 (s_pick rfl rfl ?_)
    exact ⟨rfl, grown_none_refl _⟩
  · intro w47 k44
    rintro _ rfl
    refine op1 (s_move rfl ?_)
    exact ⟨(by rw [decide_eq_true h9]), grown_none_refl _⟩
  · intro w48 k45
    rintro _ rfl
    refine op1g (s_move rfl ?_)
    exact ⟨rfl, grown_none_refl _⟩
  · intro w49 k46
    rintro _ rfl
    refine op1g (s_move rfl ?_)
    exact ⟨rfl, grown_none_refl _⟩
  · intro w50 k47
    rintro _ rfl _ rfl _ rfl
    refine op1g (s_gt rfl rfl ?_)
    exact ⟨rfl, grown_none_refl _⟩
  · intro w51 k48
    rintro _ rfl _ rfl
    refine op1g (s_move rfl ?_)
    exact ⟨(by rw [decide_eq_false h10]), grown_none_refl _⟩
  · intro w52 k49
    rintro _ rfl
    refine op1g (s_move rfl ?_)
    exact ⟨rfl, grown_none_refl _⟩
  · intro w53 k50
    rintro _ rfl
    refine op1g (s_move rfl ?_)
    exact ⟨rfl, grown_none_refl _⟩
  · intro w54 k51
    rintro _ rfl _ rfl
    refine op1g (s_sub rfl rfl (by omega) ?_)
    exact ⟨rfl, grown_none_refl _⟩
  · intro w55 k52
    rintro _ rfl
    intro v_ hv_; subst v_
    rintro _ rfl
    refine op1g (s_idxat sl22 rfl rfl hat3 ?_)
    exact ⟨rfl, grown_none_refl _⟩
  · intro w56 k53
    rintro _ rfl _ rfl
    refine op1g (s_faddr fld101_0 rfl ?_)
    exact ⟨rfl, grown_none_refl _⟩
  · intro w57 k54
    rintro _ rfl _ rfl
    refine op1g (s_load one3 rfl (range_g0 (range_g0 hc7 k33) k54) (j := 0) rfl ?_)
    exact ⟨rfl, grown_none_refl _⟩
  · intro w58 k55
    rintro _ rfl
    refine op1g (s_move rfl ?_)
    exact ⟨rfl, grown_none_refl _⟩
  · intro w59 k56
    rintro _ rfl
    refine op1g (s_move rfl ?_)
    exact ⟨rfl, grown_none_refl _⟩
  · intro w60 k57
    rintro _ rfl
    intro v_ hv_; subst v_
    rintro _ rfl
    refine op1g (s_idxat sl22 rfl rfl hat4 ?_)
    exact ⟨rfl, grown_none_refl _⟩
  · intro w61 k58
    rintro _ rfl _ rfl
    refine op1g (s_faddr fld101_0 rfl ?_)
    exact ⟨rfl, grown_none_refl _⟩
  · intro w62 k59
    rintro _ rfl _ rfl
    refine op1g (s_load one3 rfl (range_g0 (range_g0 hc8 k33) k59) (j := 0) rfl ?_)
    exact ⟨rfl, grown_none_refl _⟩
  · intro w63 k60
    rintro _ rfl _ rfl
    refine op1g (s_sub rfl rfl (by omega) ?_)
    exact ⟨rfl, grown_none_refl _⟩
  · intro w64 k61
    rintro _ rfl _ rfl _ rfl
    refine op1g (s_ne rfl rfl ?_)
    exact ⟨rfl, grown_none_refl _⟩
  · intro w65 k62
    rintro _ rfl _ rfl _ rfl
    refine op1g (s_pick rfl rfl ?_)
    exact ⟨rfl, grown_none_refl _⟩
  · intro w66 k63
    rintro _ rfl _ rfl
    refine op1 (s_pick rfl rfl ?_)
    exact ⟨rfl, grown_none_refl _⟩
  intro w67 k64
  have hb67 := below_g0 hb36 k64
  intro v_ hv_; subst v_
  rintro _ rfl _ rfl _ rfl _ rfl _ rfl _ rfl _ rfl _ rfl _ rfl _ rfl _ rfl _ rfl _ rfl _ rfl
  intro v_ hv_; subst v_
  rintro _ rfl _ rfl _ rfl _ rfl _ rfl
  intro v_ hv_; subst v_
  rintro _ rfl _ rfl _ rfl _ rfl _ rfl _ rfl _ rfl _ rfl
  refine r_end (n_then ?_)
  refine w_condP rfl (fun h11 => ?_) (fun h11 => ?_)
  · refine w_seq (w_region (st (s_assign rfl (r_end (n_then (w_ret1 rfl rfl ?_))))))
    refine ⟨_, rfl, hb67, ?_⟩
    rw [loose_no i hi.1 (by omega)]
    rw [ne_eq, okAt_iff]
    rintro ⟨e1, e2⟩
    first | omega | (have e3 := e2 k (by omega) (by omega); unfold Nd.kid at e3; exact kidB_no e3 (by omega))
  refine w_skip' (n_block (n_then (w_region (st (s_move rfl (st (s_add rfl rfl (by omega) (st (s_assign rfl ?_)))))))))
  refine r_end ?_
  exact n_round ((k + 1)) ⟨hb67, by omega, fun j j0 j1 => if e : j = k then by rw [e]; unfold Nd.kid; exact kidB_yes (by omega) (by omega) (by omega) else hk2 j j0 (by omega)⟩ (by omega) (by exact ⟨rfl, rfl, rfl, trivial⟩)
end Go.Proofs.Ytfljelnfjbbknaa.Nd

set_option maxRecDepth 20000
set_option linter.unusedSimpArgs false
set_option linter.unusedVariables false
namespace Go.Proofs.Ytfljelnfjbbknaa.Lm
open Go.RowKit Go.Gw
theorem one29 : OneF Try.prog 29 := ⟨by kernel_rfl⟩
theorem sl29 : SlF Try.prog 29 83 1 4 (.int .u32 0) := ⟨by kernel_rfl, by kernel_rfl, rfl, by decide⟩
theorem one83 : OneF Try.prog 83 := ⟨by kernel_rfl⟩
theorem fn111 : FunF Try.prog 111 := ⟨_, _, Try.func111, by decide +kernel, rfl⟩
theorem fn103 : FunF Try.prog 103 := ⟨_, _, Try.func103, by decide +kernel, rfl⟩
theorem fn99 : FunF Try.prog 99 := ⟨_, _, Try.func99, by decide +kernel, rfl⟩
theorem one3 : OneF Try.prog 3 := ⟨by kernel_rfl⟩
theorem zero3 : ZeroF Try.prog 3 #[.int .i64 0] := ⟨by kernel_rfl⟩
theorem fn104 : FunF Try.prog 104 := ⟨_, _, Try.func104, by decide +kernel, rfl⟩
theorem fn114 : FunF Try.prog 114 := ⟨_, _, Try.func114, by decide +kernel, rfl⟩
theorem intk83 : Go.Program.underlying Try.prog 83 = some (.int .u32) := by kernel_rfl
theorem intk81 : Go.Program.underlying Try.prog 81 = some (.int .u64) := by kernel_rfl
theorem fn112 : FunF Try.prog 112 := ⟨_, _, Try.func112, by decide +kernel, rfl⟩
theorem fn82 : FunF Try.prog 82 := ⟨_, _, Try.func82, by decide +kernel, rfl⟩
theorem fn113 : FunF Try.prog 113 := ⟨_, _, Try.func113, by decide +kernel, rfl⟩
theorem fn98 : FunF Try.prog 98 := ⟨_, _, Try.func98, by decide +kernel, rfl⟩
theorem intk5 : Go.Program.underlying Try.prog 5 = some (.int .u8) := by kernel_rfl
theorem intk3 : Go.Program.underlying Try.prog 3 = some (.int .i64) := by kernel_rfl
theorem sl68 : SlF Try.prog 68 4 1 1 (.bool false) := ⟨by kernel_rfl, by kernel_rfl, rfl, by decide⟩
theorem one4 : OneF Try.prog 4 := ⟨by kernel_rfl⟩
theorem nz4 : ∃ ie, Try.prog.info? 4 = some ie ∧ 0 < ie.size := nz_of (by kernel_rfl)
theorem fn105 : FunF Try.prog 105 := ⟨_, _, Try.func105, by decide +kernel, rfl⟩
theorem nz83 : ∃ ie, Try.prog.info? 83 = some ie ∧ 0 < ie.size := nz_of (by kernel_rfl)
theorem fn85 : FunF Try.prog 85 := ⟨_, _, Try.func85, by decide +kernel, rfl⟩
theorem fn87 : FunF Try.prog 87 := ⟨_, _, Try.func87, by decide +kernel, rfl⟩
theorem fn86 : FunF Try.prog 86 := ⟨_, _, Try.func86, by decide +kernel, rfl⟩
theorem bool4 : Go.Program.underlying Try.prog 4 = some .bool := by kernel_rfl
theorem fn88 : FunF Try.prog 88 := ⟨_, _, Try.func88, by decide +kernel, rfl⟩
end Go.Proofs.Ytfljelnfjbbknaa.Lm

set_option maxRecDepth 20000
set_option linter.unusedSimpArgs false
set_option linter.unusedVariables false
namespace Go.Proofs.Ytfljelnfjbbknaa.Lm
open Go.RowKit Go.Gw
theorem fld31_1 : FieldF Try.prog 31 1 1 := ⟨by kernel_rfl⟩
theorem fn57 : FunF Try.prog 57 := ⟨_, _, Try.func57, by decide +kernel, rfl⟩
theorem fld31_0 : FieldF Try.prog 31 0 0 := ⟨by kernel_rfl⟩
theorem zero31 : ZeroF Try.prog 31 #[.bool false, .slice none 0 0] := ⟨by kernel_rfl⟩
theorem row31 : RowF Try.prog 31 2 := ⟨by kernel_rfl⟩
theorem fn81 : FunF Try.prog 81 := ⟨_, _, Try.func81, by decide +kernel, rfl⟩
theorem fn76 : FunF Try.prog 76 := ⟨_, _, Try.func76, by decide +kernel, rfl⟩
theorem fn100 : FunF Try.prog 100 := ⟨_, _, Try.func100, by decide +kernel, rfl⟩
theorem fn101 : FunF Try.prog 101 := ⟨_, _, Try.func101, by decide +kernel, rfl⟩
theorem fn79 : FunF Try.prog 79 := ⟨_, _, Try.func79, by decide +kernel, rfl⟩
theorem fn78 : FunF Try.prog 78 := ⟨_, _, Try.func78, by decide +kernel, rfl⟩
theorem fn77 : FunF Try.prog 77 := ⟨_, _, Try.func77, by decide +kernel, rfl⟩
theorem fn83 : FunF Try.prog 83 := ⟨_, _, Try.func83, by decide +kernel, rfl⟩
theorem fn56 : FunF Try.prog 56 := ⟨_, _, Try.func56, by decide +kernel, rfl⟩
theorem fn84 : FunF Try.prog 84 := ⟨_, _, Try.func84, by decide +kernel, rfl⟩
theorem fn53 : FunF Try.prog 53 := ⟨_, _, Try.func53, by decide +kernel, rfl⟩
theorem fn54 : FunF Try.prog 54 := ⟨_, _, Try.func54, by decide +kernel, rfl⟩
theorem fn55 : FunF Try.prog 55 := ⟨_, _, Try.func55, by decide +kernel, rfl⟩
theorem fn48 : FunF Try.prog 48 := ⟨_, _, Try.func48, by decide +kernel, rfl⟩
theorem fn22 : FunF Try.prog 22 := ⟨_, _, Try.func22, by decide +kernel, rfl⟩
theorem fn21 : FunF Try.prog 21 := ⟨_, _, Try.func21, by decide +kernel, rfl⟩
theorem fn102 : FunF Try.prog 102 := ⟨_, _, Try.func102, by decide +kernel, rfl⟩
theorem fn20 : FunF Try.prog 20 := ⟨_, _, Try.func20, by decide +kernel, rfl⟩
theorem fn80 : FunF Try.prog 80 := ⟨_, _, Try.func80, by decide +kernel, rfl⟩
end Go.Proofs.Ytfljelnfjbbknaa.Lm

set_option maxRecDepth 20000
set_option linter.unusedSimpArgs false
set_option linter.unusedVariables false
namespace Go.Proofs.Ytfljelnfjbbknaa.Lm
open Go.RowKit Go.Gw
theorem fn50 : FunF Try.prog 50 := ⟨_, _, Try.func50, by decide +kernel, rfl⟩
theorem fld72_0 : FieldF Try.prog 72 0 0 := ⟨by kernel_rfl⟩
theorem fld72_1 : FieldF Try.prog 72 1 1 := ⟨by kernel_rfl⟩
theorem arr70 : ArrF Try.prog 70 2 31 2 := ⟨by kernel_rfl, by kernel_rfl⟩
theorem fld72_2 : FieldF Try.prog 72 2 5 := ⟨by kernel_rfl⟩
theorem fn96 : FunF Try.prog 96 := ⟨_, _, Try.func96, by decide +kernel, rfl⟩
theorem fn97 : FunF Try.prog 97 := ⟨_, _, Try.func97, by decide +kernel, rfl⟩
theorem fn49 : FunF Try.prog 49 := ⟨_, _, Try.func49, by decide +kernel, rfl⟩
theorem zero72 : ZeroF Try.prog 72 #[.bool false, .bool false, .slice none 0 0, .bool false, .slice none 0 0, .bool false, .slice none 0 0, .bool false, .slice none 0 0] := ⟨by kernel_rfl⟩
theorem row72 : RowF Try.prog 72 9 := ⟨by kernel_rfl⟩
theorem sl22 : SlF Try.prog 22 101 5 40 (.agg #[.int .i64 0, .int .i64 0, .int .i64 0, .int .i64 0, .int .i64 0]) := ⟨by kernel_rfl, by kernel_rfl, rfl, by decide⟩
theorem sl73 : SlF Try.prog 73 72 9 136 (.agg #[.bool false, .bool false, .slice none 0 0, .bool false, .slice none 0 0, .bool false, .slice none 0 0, .bool false, .slice none 0 0]) := ⟨by kernel_rfl, by kernel_rfl, rfl, by decide⟩
theorem row101 : RowF Try.prog 101 5 := ⟨by kernel_rfl⟩
theorem zero101 : ZeroF Try.prog 101 #[.int .i64 0, .int .i64 0, .int .i64 0, .int .i64 0, .int .i64 0] := ⟨by kernel_rfl⟩
theorem fld101_0 : FieldF Try.prog 101 0 0 := ⟨by kernel_rfl⟩
theorem fn42 : FunF Try.prog 42 := ⟨_, _, Try.func42, by decide +kernel, rfl⟩
theorem fld101_1 : FieldF Try.prog 101 1 1 := ⟨by kernel_rfl⟩
theorem row99 : RowF Try.prog 99 4 := ⟨by kernel_rfl⟩
theorem arr99 : ArrF Try.prog 99 4 3 1 := ⟨by kernel_rfl, by kernel_rfl⟩
theorem zero70 : ZeroF Try.prog 70 #[.bool false, .slice none 0 0, .bool false, .slice none 0 0] := ⟨by kernel_rfl⟩
theorem row70 : RowF Try.prog 70 4 := ⟨by kernel_rfl⟩
theorem fn75 : FunF Try.prog 75 := ⟨_, _, Try.func75, by decide +kernel, rfl⟩
theorem nz72 : ∃ ie, Try.prog.info? 72 = some ie ∧ 0 < ie.size := nz_of (by kernel_rfl)
theorem zero33 : ZeroF Try.prog 33 #[.bool false, .slice none 0 0, .bool false, .slice none 0 0, .bool false, .slice none 0 0, .bool false, .slice none 0 0] := ⟨by kernel_rfl⟩
theorem fld25_0 : FieldF Try.prog 25 0 0 := ⟨by kernel_rfl⟩
theorem one22 : OneF Try.prog 22 := ⟨by kernel_rfl⟩
theorem fn41 : FunF Try.prog 41 := ⟨_, _, Try.func41, by decide +kernel, rfl⟩
theorem row33 : RowF Try.prog 33 8 := ⟨by kernel_rfl⟩
theorem row25 : RowF Try.prog 25 1 := ⟨by kernel_rfl⟩
theorem fn43 : FunF Try.prog 43 := ⟨_, _, Try.func43, by decide +kernel, rfl⟩
theorem fn44 : FunF Try.prog 44 := ⟨_, _, Try.func44, by decide +kernel, rfl⟩
theorem fn12 : FunF Try.prog 12 := ⟨_, _, Try.func12, by decide +kernel, rfl⟩
theorem fld33_2 : FieldF Try.prog 33 2 4 := ⟨by kernel_rfl⟩
theorem fld33_3 : FieldF Try.prog 33 3 6 := ⟨by kernel_rfl⟩
theorem fld33_0 : FieldF Try.prog 33 0 0 := ⟨by kernel_rfl⟩
theorem fn51 : FunF Try.prog 51 := ⟨_, _, Try.func51, by decide +kernel, rfl⟩
theorem fld33_1 : FieldF Try.prog 33 1 2 := ⟨by kernel_rfl⟩
theorem fn24 : FunF Try.prog 24 := ⟨_, _, Try.func24, by decide +kernel, rfl⟩
theorem sl76 : SlF Try.prog 76 31 2 32 (.agg #[.bool false, .slice none 0 0]) := ⟨by kernel_rfl, by kernel_rfl, rfl, by decide⟩
theorem fn47 : FunF Try.prog 47 := ⟨_, _, Try.func47, by decide +kernel, rfl⟩
theorem arr78 : ArrF Try.prog 78 2 3 1 := ⟨by kernel_rfl, by kernel_rfl⟩
theorem fn23 : FunF Try.prog 23 := ⟨_, _, Try.func23, by decide +kernel, rfl⟩
theorem fn45 : FunF Try.prog 45 := ⟨_, _, Try.func45, by decide +kernel, rfl⟩
theorem fn46 : FunF Try.prog 46 := ⟨_, _, Try.func46, by decide +kernel, rfl⟩
theorem fn13 : FunF Try.prog 13 := ⟨_, _, Try.func13, by decide +kernel, rfl⟩
theorem fld47_1 : FieldF Try.prog 47 1 2 := ⟨by kernel_rfl⟩
theorem fld47_0 : FieldF Try.prog 47 0 0 := ⟨by kernel_rfl⟩
theorem sl39 : SlF Try.prog 39 47 5 72 (.agg #[.bool false, .slice none 0 0, .bool false, .slice none 0 0, .int .u8 0]) := ⟨by kernel_rfl, by kernel_rfl, rfl, by decide⟩
theorem row47 : RowF Try.prog 47 5 := ⟨by kernel_rfl⟩
theorem fn52 : FunF Try.prog 52 := ⟨_, _, Try.func52, by decide +kernel, rfl⟩
theorem nz47 : ∃ ie, Try.prog.info? 47 = some ie ∧ 0 < ie.size := nz_of (by kernel_rfl)
theorem fld47_2 : FieldF Try.prog 47 2 4 := ⟨by kernel_rfl⟩
theorem one5 : OneF Try.prog 5 := ⟨by kernel_rfl⟩
theorem fn71 : FunF Try.prog 71 := ⟨_, _, Try.func71, by decide +kernel, rfl⟩
theorem nz101 : ∃ ie, Try.prog.info? 101 = some ie ∧ 0 < ie.size := nz_of (by kernel_rfl)
theorem zero25 : ZeroF Try.prog 25 #[.slice none 0 0] := ⟨by kernel_rfl⟩
theorem fn27 : FunF Try.prog 27 := ⟨_, _, Try.func27, by decide +kernel, rfl⟩
theorem fn19 : FunF Try.prog 19 := ⟨_, _, Try.func19, by decide +kernel, rfl⟩
theorem fn70 : FunF Try.prog 70 := ⟨_, _, Try.func70, by decide +kernel, rfl⟩
theorem fn11 : FunF Try.prog 11 := ⟨_, _, Try.func11, by decide +kernel, rfl⟩
theorem fn36 : FunF Try.prog 36 := ⟨_, _, Try.func36, by decide +kernel, rfl⟩
end Go.Proofs.Ytfljelnfjbbknaa.Lm

set_option maxRecDepth 100000
namespace Go.Proofs.Ytfljelnfjbbknaa
open Go.ChangeShapes Go.WideShapes Go.ChangeAt Go.RowKit Go.Gw
theorem ownTry : ownKnob Try.prog.godebug = none := by kernel_rfl
theorem laidTry : laidOutB Try.prog = true := by kernel_rfl
theorem nodesArg {H : Type} {enc : TypeId × Value → H} {w : World} {r : Reach} {b0 : Nat} {v : Value} {d : DataW H} {p : List MemPlace} (hv : Value.okWide Try.prog w r b0 22 v) (h : DataW.Trod enc Try.prog w 0 (fun _ => true) true 22 v d p) :
    ∃ xs : List Nd, Sl Kd.node w (fun _ => False) v xs :=
  sl_of_trod (K := Kd.node) (e := 101) (by kernel_rfl) (by kernel_rfl) (by decide) (fun n cs x h => node_of_trod Nd.nodeF (by kernel_rfl) (by kernel_rfl) (by kernel_rfl) n cs x h) hv h
theorem i64_wf {a : Int} (h : (Lit.int .i64 a).wf = true) : -9223372036854775808 ≤ a ∧ a ≤ 9223372036854775807 := by
  unfold Lit.wf at h
  rw [Bool.and_eq_true, decide_eq_true_eq, decide_eq_true_eq] at h
  have h1 : IntKind.i64.min = -9223372036854775808 := by decide
  have h2 : IntKind.i64.max = 9223372036854775807 := by decide
  rw [h1] at h
  rw [h2] at h
  exact h
end Go.Proofs.Ytfljelnfjbbknaa

set_option maxRecDepth 20000
set_option linter.unusedSimpArgs false
set_option linter.unusedVariables false
namespace Go.Proofs.Ytfljelnfjbbknaa.Lm
open Go.RowKit Go.Gw
theorem fn14 : FunF Try.prog 14 := ⟨_, _, Try.func14, by decide +kernel, rfl⟩
theorem fn15 : FunF Try.prog 15 := ⟨_, _, Try.func15, by decide +kernel, rfl⟩
theorem fn17 : FunF Try.prog 17 := ⟨_, _, Try.func17, by decide +kernel, rfl⟩
theorem fn10 : FunF Try.prog 10 := ⟨_, _, Try.func10, by decide +kernel, rfl⟩
theorem fn16 : FunF Try.prog 16 := ⟨_, _, Try.func16, by decide +kernel, rfl⟩
end Go.Proofs.Ytfljelnfjbbknaa.Lm

set_option maxRecDepth 20000
set_option linter.unusedSimpArgs false
set_option linter.unusedVariables false
namespace Go.Proofs.Ytfljelnfjbbknaa.Lm
open Go.RowKit Go.Gw
theorem back_stops {w00 w0 : World} {F : Nat → Prop} {v : Value} {xs : List Int} {gb : Nat} (hS : Sl Kd.u32 w00 F v xs) (hB0 : Below w00.heap.size w00 w0) (hbk0 : Blk w0 gb 29 #[v]) :
    SeqStopsK Fence.wide 9 Try.prog 114 #[.pointer (some ⟨gb, 0, none⟩)] (encL (xs := xs)) (KpL gb w00.heap.size) (fun ys => ys.map (·.1) = bkt xs xs.length) (fun pre => ∃ k, k ≤ xs.length ∧ pre.map (·.1) = bkt xs k) xs.length w0 := by
  intro l J Jx w hW hJa hJxa hY h0
  have hln1 := hS.lenle
  have hb0 := hB0.trans (hW.mono hB0.size)
  have hbk : Blk w gb 29 [v].toArray := (hW.block gb hbk0.lt).trans hbk0
  rw [show (#[Value.func (.yield l) #[] #[]] ++ #[Value.pointer (some ⟨gb, 0, none⟩)] : Array Value) = [.func (.yield l) #[] #[], .pointer (some ⟨gb, 0, none⟩)].toArray from rfl]
  have hz0 := hb0.size
  refine ienter Try.func114 rfl rfl (i_seq (i_region (ist (s_load one29 rfl hbk.range (j := 0) rfl (ist (s_len sl29 rfl (hS.at0 hb0) (ist (s_sub rfl rfl (by omega) (ist (s_assign rfl ?_))))))))))
  refine i_end (in_then (i_block (i_loop (α := Int) (fun (i : Int) => [(0, .func (.yield l) #[] #[]), (1, .pointer (some ⟨gb, 0, none⟩)), (3, .int .i64 i)]) (fun (i : Int) W => Below w00.heap.size w00 W ∧ (-1 ≤ i ∧ i < xs.length) ∧ (∃ pre : List (LX xs), J pre W ∧ pre.map (·.1) = bkt xs ((xs.length : Int) - 1 - i).toNat) ∧ (Blk W gb 29 [v].toArray)) (fun (i : Int) => (i + 1).toNat) ((xs.length : Int) - 1) ⟨hb0, by omega, ⟨[], h0, by rw [show ((xs.length : Int) - 1 - ((xs.length : Int) - 1)).toNat = 0 by omega]; rfl⟩, hbk⟩ (by exact ⟨rfl, rfl, rfl, trivial⟩) ?_)))
  rintro i w1 ⟨hb1, hi, hJ, hBl1⟩
  have hz1 := hb1.size
  refine i_seq (i_seq (i_region (ist (s_move rfl (ist (s_ge rfl rfl (i_end (in_then ?_))))))))
  refine i_condP rfl (fun h1 => ?_) (fun h1 => ?_)
  rotate_left
  · refine i_exit' (n_then_exit (n_then_exit (n_block_exit (n_end0 (fn := Try.f114) rfl ?_))))
    obtain ⟨pre, hJp, hpm⟩ := hJ
    exact ⟨⟨_, rfl⟩, .inl ⟨pre, by show List.map _ _ = _; rw [hpm, show ((xs.length : Int) - 1 - i).toNat = xs.length by omega], hJp⟩⟩
  refine i_skip' (in_then (i_seq (i_block (i_seq (i_region (ist (s_move rfl ?_)))))))
  refine ist (s_move rfl (ist (s_load one29 rfl hBl1.range (j := 0) rfl (ist (s_move rfl (ist (s_idx sl29 rfl rfl (hS.at0 hb1) (by omega) (by omega) ?_)))))))
  rintro b1 o1 _ ⟨rfl, hr1⟩ hc1 hF1 hlt1
  have hl_1 := Loc.lt hF1
  refine ist (s_load one83 rfl hc1 (j := 0) rfl ?_)
  obtain ⟨pre, hJp, hpm⟩ := hJ
  have hpl := congrArg List.length hpm
  rw [List.length_map, bkt_len] at hpl
  have hY1 := hY pre ⟨(i, ix xs i), by show 0 ≤ i; omega, by show i < _; omega, rfl⟩ w1 hJp (by rw [hpl]; omega)
  refine i_yield rfl rfl hY1 ?_
  rintro _ W3 (⟨rfl, hJ3, hk3⟩ | ⟨rfl, hJ3⟩)
  · refine ⟨_, rfl, ?_⟩
    have hb2 := hb1.trans hk3.2
    have hbk1 := hBl1.kpl hk3
    have hz9 := hb2.size
    refine ist (s_not rfl (i_end (in_then (i_condF rfl (i_skip' (n_block (in_then ?_)))))))
    refine i_region (ist (s_move rfl (ist (s_sub rfl rfl (by omega) (ist (s_assign rfl (i_end ?_)))))))
    exact n_round ((i - 1)) ⟨hb2, by omega, ⟨pre ++ [_], hJ3, by rw [List.map_append, hpm, show ((xs.length : Int) - 1 - (i - 1)).toNat = ((xs.length : Int) - 1 - i).toNat + 1 by omega, bkt_succ, show (xs.length : Int) - 1 - (((xs.length : Int) - 1 - i).toNat : Nat) = i by omega]; rfl⟩, hbk1⟩ (by omega) (by exact ⟨rfl, rfl, rfl, trivial⟩)
  · refine ⟨_, rfl, ?_⟩
    refine ist (s_not rfl (i_end (in_then (i_condT rfl (i_ret (n_block_ret (n_then_ret ?_)))))))
    refine n_then_ret (n_block_ret (n_ret0 rfl ?_))
    exact ⟨⟨_, rfl⟩, .inr ⟨pre ++ [_], ⟨((xs.length : Int) - 1 - i).toNat + 1, by omega, by rw [List.map_append, hpm, bkt_succ, show (xs.length : Int) - 1 - (((xs.length : Int) - 1 - i).toNat : Nat) = i by omega]; rfl⟩, hJ3⟩⟩

set_option maxHeartbeats 1000000 in
theorem right_any {w : World} {a : Value} {xs : List Int} (ha : Sl Kd.u32 w (fun _ => False) a xs) :
    Calls Try.prog 111 [a].toArray w (Pure w fun v _ => v = .bool (rightL xs)) := by
  have hb0 := Below.refl w.heap.size w
  have hln1 := ha.lenle
  refine enter Try.func111 rfl rfl (w_seq (w_region (st (s_assign rfl (r_end (n_then (w_seq ?_)))))))
  refine w_region (st (s_move rfl (st (s_len sl29 rfl (ha.at0 hb0) (st (s_eq rfl rfl (st (s_move rfl ?_))))))))
  refine r_caseP 6 rfl (fun h1 => ?_) (fun h1 => ?_)
  · refine s_pass rfl rfl (s_pass rfl rfl (s_pass rfl rfl (s_pass rfl rfl (s_pass rfl rfl (s_pass rfl rfl (s_pass rfl rfl ?_))))))
    refine st (s_pick rfl rfl (st (s_assign rfl (r_end (n_then (w_ret1 rfl rfl ?_))))))
    exact ⟨_, rfl, hb0, by rw [right_nil h1]⟩
  refine stg (s_move rfl (stg (s_move rfl (stg (s_len sl29 rfl (ha.at0 hb0) (stg (s_sub rfl rfl (by omega) (stg (s_idx sl29 rfl rfl (ha.at0 hb0) (by omega) (by omega) ?_)))))))))
  rintro b1 o1 _ ⟨rfl, hr1⟩ hc1 hF1 hlt1
  have hl_1 := Loc.lt hF1
  refine stg (s_load one83 rfl hc1 (j := 0) rfl (stg (s_ne rfl rfl (st (s_pick rfl rfl (st (s_assign rfl (r_end (n_then (w_ret1 rfl rfl ?_))))))))))
  exact ⟨_, rfl, hb0, by rw [right_ne h1]⟩

set_option maxHeartbeats 1000000 in
theorem rright_any {w : World} {a : Value} {xs : List Int} (ha : Sl Kd.u32 w (fun _ => False) a xs) :
    Calls Try.prog 57 [a].toArray w (Pure w fun v _ => v = .bool (rightL xs)) := by
  have hb0 := Below.refl w.heap.size w
  have hln1 := ha.lenle
  refine enter Try.func57 rfl rfl (w_seq (w_region (st (s_assign rfl (r_end (n_then (w_seq ?_)))))))
  refine w_region (st (s_move rfl (st (s_len sl29 rfl (ha.at0 hb0) (st (s_eq rfl rfl (st (s_move rfl ?_))))))))
  refine r_caseP 6 rfl (fun h1 => ?_) (fun h1 => ?_)
  · refine s_pass rfl rfl (s_pass rfl rfl (s_pass rfl rfl (s_pass rfl rfl (s_pass rfl rfl (s_pass rfl rfl (s_pass rfl rfl ?_))))))
    refine st (s_pick rfl rfl (st (s_assign rfl (r_end (n_then (w_ret1 rfl rfl ?_))))))
    exact ⟨_, rfl, hb0, by rw [right_nil h1]⟩
  refine stg (s_move rfl (stg (s_move rfl (stg (s_len sl29 rfl (ha.at0 hb0) (stg (s_sub rfl rfl (by omega) (stg (s_idx sl29 rfl rfl (ha.at0 hb0) (by omega) (by omega) ?_)))))))))
  rintro b1 o1 _ ⟨rfl, hr1⟩ hc1 hF1 hlt1
  have hl_1 := Loc.lt hF1
  refine stg (s_load one83 rfl hc1 (j := 0) rfl (stg (s_ne rfl rfl (st (s_pick rfl rfl (st (s_assign rfl (r_end (n_then (w_ret1 rfl rfl ?_))))))))))
  exact ⟨_, rfl, hb0, by rw [right_ne h1]⟩

set_option maxHeartbeats 1000000 in
theorem cut_any {w : World} {F : Nat → Prop} {a : Value} {xs : List Int} (ha : Sl Kd.u32 w F a xs) :
    Calls Try.prog 99 [a].toArray w (Pure w fun v _ => Sl Kd.u32 w F v (tl (nv xs))) := by
  have hb0 := Below.refl w.heap.size w
  have hln1 := ha.lenle
  refine enter Try.func99 rfl rfl (w_seq (w_region (st (s_assign rfl (r_end (n_then (w_seq ?_)))))))
  refine w_block (w_loop (α := Value × List Int) (fun ((v, ys) : Value × List Int) => [(0, v), (2, .slice none 0 0)]) (fun ((v, ys) : Value × List Int) W => Below w.heap.size w W ∧ (Sl Kd.u32 w F v ys) ∧ (nv ys = nv xs)) (fun ((v, ys) : Value × List Int) => ys.length) ((a), (xs)) ⟨hb0, ha, rfl⟩ (by exact ⟨rfl, rfl, trivial⟩) ?_)
  rintro ⟨v, ys⟩ w1 ⟨hb1, hv, hn⟩
  dsimp only at *
  have hz1 := hb1.size
  have hln9 := hv.lenle
  refine w_seq (w_seq (w_region (st (s_move rfl (st (s_call fn111 rfl (right_any ((hv.at0 hb1)).none) ?_))))))
  rintro _ w2 ⟨hq1, rfl⟩
  have k1 := grown_of_below hq1 none
  have hz2 := hq1.size
  have hb2 := below_g0 hb1 k1
  have hz3 := hb2.size
  refine st (s_not rfl (r_end (n_then ?_)))
  refine w_cond rfl (fun h1 => ?_) (fun h1 => ?_)
  rotate_left
  · have hc3 : rightL ys = true := by simpa using h1
    refine w_exit' (n_then_exit (n_then_exit (n_block_exit (n_then (w_seq (w_region ?_))))))
    refine st (s_move rfl (st (s_assign rfl (r_end (n_then (w_ret1 rfl rfl ?_))))))
    exact ⟨_, rfl, hb2, by rw [← hn, tl_nv (lim_sl hv) hc3]; exact hv⟩
  have hc2 := nv_cut (by simpa using h1)
  refine w_skip' (n_then (w_block (w_region (st (s_move rfl (st (s_move rfl (st (s_len sl29 rfl (hv.at0 hb2) ?_)))))))))
  refine st (s_sub rfl rfl (by omega) (st (s_slhi sl29 rfl rfl (hv.at0 hb2) (by first | omega | (simp; omega)) (by first | omega | (simp; omega)) ?_)))
  intro v1 hS1
  refine st (s_assign rfl (r_end (n_block ?_)))
  exact n_round ((v1), (ys.take (((ys.length : Int) - 1)).toNat)) ⟨hb2, (hS1).orig u32_flat hb2, by rw [show ((ys.length : Int) - 1).toNat = ys.length - 1 by omega]; exact hc2.2.trans hn⟩ (by simp; omega) (by exact ⟨rfl, rfl, trivial⟩)

set_option maxHeartbeats 1000000 in
theorem clone_any {w : World} {a : Value} {xs : List Int} (ha : Sl Kd.u32 w (fun _ => False) a xs) (hlen : xs.length ≤ 1000000000) :
    Calls Try.prog 103 [a].toArray w (Pure w fun v W => Gw.Own Kd.u32 83 w.heap.size W (fun _ => False) v xs) := by
  have hb0 := Below.refl w.heap.size w
  have hln1 := ha.lenle
  refine enter Try.func103 rfl rfl (w_seq (w_region (st (s_assign rfl (r_end (n_then (w_seq ?_)))))))
  refine w_seq (w_region (st (s_move rfl (st (s_slnil sl29 rfl rfl (ha.at0 hb0) (r_end (n_then ?_)))))))
  refine w_cond rfl (fun h1 => ?_) (fun h1 => ?_)
  · refine w_seq (w_region (st (s_assign rfl (r_end (n_then (w_ret1 rfl rfl ?_))))))
    have e := nil_of_nilS (ha.at0 hb0) h1
    subst e
    exact ⟨_, rfl, hb0, Own.nil _ _ _ _ _⟩
  refine w_skip' (n_then (w_seq (w_region (st (s_bslice0 (K := Kd.u32) (base := w.heap.size) (F := (fun _ => False)) sl29 (by omega) (fun _ h => h.elim) ?_)))))
  intro v1 w1 hO1 k1
  have hb1 := below_g0 hb0 k1
  have hz1 := hb1.size
  refine st (s_move rfl (st (s_append (K := Kd.u32) sl29 rfl rfl hO1 ((ha.at0 hb1).weak (fun k hk h => h.elim (fun h => by first | exact h.elim | exact h | exact Or.inl h) (fun h => by have h9 := (hO1.lt k h).1; first | exact Or.inr h9 | (simp [Loc]; omega)))) u32_ones (by simp; omega) (by simp; omega) (by first | exact Nat.le_refl _ | omega) (fun _ h => h.elim) ?_)))
  intro v2 w2 hO2 k2 hr1
  rw [List.nil_append] at hO2
  have hb2 := hb1.grown k2 hb1.size (fun k_ hk_ => (hO1.lt k_ hk_).1)
  have hz2 := hb2.size
  refine st (s_assign rfl (r_end (n_then (w_ret1 rfl rfl ?_))))
  exact ⟨_, rfl, hb2, hO2⟩

set_option maxHeartbeats 1000000 in
theorem norm_any {w : World} {n0 : Nat} (hn0 : n0 ≤ w.heap.size) {a : Value} {xs : List Int} (ha : Sl Kd.u32 w (G 83 n0 w) a xs) (hlen : xs.length ≤ 1000000000) :
    Calls Try.prog 81 [a].toArray w (Pure w fun v W => Sl Kd.u32 W (G 83 n0 W) v (tl (nv xs))) := by
  have hb0 := Below.refl w.heap.size w
  have hln1 := ha.lenle
  refine enter Try.func81 rfl rfl (w_seq (w_region (st (s_assign rfl (r_end (n_then (w_seq ?_)))))))
  refine w_region (st (s_move rfl (st (s_call fn103 rfl (clone_any ((ha.at0 hb0)).none (by first | omega | (simp; done) | (simp; omega))) ?_))))
  rintro v1 w1 ⟨hq1, hO2⟩
  have k1 := grown_of_below hq1 none
  have hz1 := hq1.size
  have hb1 := below_g0 hb0 k1
  have hz2 := hb1.size
  have hO1 := hO2.rebase (b' := w.heap.size) (by omega)
  refine st (s_call fn99 rfl (cut_any (hO1.slG (n0 := n0))) ?_)
  rintro v2 w2 ⟨hq2, hS1⟩
  have k2 := grown_of_below hq2 none
  have hz3 := hq2.size
  have hb2 := below_g0 hb1 k2
  have hz4 := hb2.size
  have hS2 := hS1.gg0 k2
  refine st (s_assign rfl (r_end (n_then (w_ret1 rfl rfl ?_))))
  exact ⟨_, rfl, hb2, hS2⟩

set_option maxHeartbeats 1000000 in
theorem back_any {w : World} {a : Value} {xs : List Int} (ha : Sl Kd.u32 w (fun _ => False) a xs) :
    Calls Try.prog 104 [a].toArray w (Pure w fun r W => ∃ gb, r = .func (.func 114) #[] #[.pointer (some ⟨gb, 0, none⟩)] ∧ w.heap.size ≤ gb ∧ Blk W gb 29 #[a]) := by
  have hb0 := Below.refl w.heap.size w
  have hln1 := ha.lenle
  refine enter Try.func104 rfl rfl (w_seq (w_region (st (s_box1 rfl ha.cells1 ?_))))
  intro g1 w1 hg1 hB1 k1 hs1
  have hb1 := below_g0 hb0 k1
  refine st (s_assign rfl (r_end (n_then (w_seq (w_region (st (s_func rfl rfl (st (s_assign rfl ?_)))))))))
  refine r_end (n_then (w_ret1 rfl rfl ?_))
  exact ⟨_, rfl, hb1, _, rfl, by omega, hB1⟩

set_option maxHeartbeats 1000000 in
theorem cmp_any {w : World} {a b : Value} {xs ys : List Int} (ha : Sl Kd.u32 w (fun _ => False) a xs) (hb : Sl Kd.u32 w (fun _ => False) b ys) :
    Calls Try.prog 82 [a, b].toArray w (Pure w fun v _ => v = .int .i64 (cmpI (nv xs) (nv ys))) := by
  have hb0 := Below.refl w.heap.size w
  have hln1 := ha.lenle
  have hln2 := hb.lenle
  refine menter 10 Try.func82 rfl rfl (w_seq (w_region (st (s_box1 rfl hb.cells1 ?_))))
  intro g1 w1 hg1 hB1 k1 hs1
  have hb1 := below_g0 hb0 k1
  refine st (s_alloc zero3 ?_)
  intro g2 w2 hg2 hB2 k2 hs2
  have hz1 := hb1.size
  have hb2 := below_g0 hb1 k2
  refine r_end (n_then (w_seq ?_))
  refine w_drawE 5 (fun a b => a.grownBy b none) [(some 7, Is <| a), (some 8, fun v _ => Sl Kd.u32 w (fun _ => False) v (tl (nv xs))), (some 9, fun v _ => Sl Kd.u32 w (fun _ => False) v ys), (some 10, fun v _ => Sl Kd.u32 w (fun _ => False) v (tl (nv ys))), (some 0, fun v _ => Sl Kd.u32 w (fun _ => False) v (tl (nv xs)))] [[], [0], [], [2], [1]] [(3, .pointer (some ⟨g1, 0, none⟩)), (4, .pointer (some ⟨g2, 0, none⟩))] [(0, a)] [true, false, false, false, false] (by exact ⟨rfl, rfl, trivial⟩) (by exact ⟨rfl, trivial⟩) (by kernel_rfl) (by kernel_rfl) (by kernel_rfl) (by kernel_rfl) grown_none_refl (fun _ _ _ => grown_none_trans) ⟨kv, fun _ _ _ h _ => h, fun _ _ _ h _ => h, fun _ _ _ h _ => h, fun _ _ _ h _ => h, trivial⟩ ?_
  intro w5 k5 hs3
  have hb3 := below_g0 hb2 k5
  refine ⟨⟨?_, ?_, ?_, ?_, ?_, trivial⟩, ?_⟩
  · intro w6 k6
    refine op1 (s_move rfl ?_)
    exact ⟨rfl, grown_none_refl _⟩
  · intro w7 k7
    have hb5 := below_g0 hb3 k7
    intro v_ hv_; subst v_
    refine op1 (s_call fn99 rfl (cut_any (ha.at0 hb5)) ?_)
    rintro v3 w8 ⟨hq3, hS5⟩
    have hS6 := hS5.orig u32_flat hb5
    have k8 := grown_of_below hq3 none
    have hz2 := hq3.size
    have hb6 := below_g0 hb5 k8
    have hz3 := hb6.size
    exact ⟨hS6, k8⟩
  · intro w9 k9
    refine op1 (s_load one29 rfl (((hB1.g0 k2).g0 k5).g0 k9).range (j := 0) rfl ?_)
    exact ⟨hb, grown_none_refl _⟩
  · intro w10 k10
    have hb8 := below_g0 hb3 k10
    intro v4 hS7
    refine op1 (s_call fn99 rfl (cut_any (hS7.at0 hb8)) ?_)
    rintro v5 w11 ⟨hq4, hS8⟩
    have hS9 := hS8.orig u32_flat hb8
    have k11 := grown_of_below hq4 none
    have hz4 := hq4.size
    have hb9 := below_g0 hb8 k11
    have hz5 := hb9.size
    exact ⟨hS9, k11⟩
  · intro w12 k12
    intro v6 hS10
    refine op1 (s_assign rfl ?_)
    exact ⟨hS10, grown_none_refl _⟩
  intro w13 k13
  have hb11 := below_g0 hb3 k13
  intro v_ hv_; subst v_
  rintro v7 hS11 v8 hS12 v9 hS13 v10 hS14
  refine st0 (s_store one29 rfl rfl (hS13.one) (((hB1.g0 k2).g0 k5).g0 k13) (of_decide_eq_true rfl) ?_)
  intro w14 hB3 k14 hs4
  have hb12 := below_g hb11 k14 (by first | omega | (have h9 := (hb11).size; omega))
  refine r_end (n_then (w_seq (w_seq (w_region (st (s_move rfl (st (s_len sl29 rfl (hS14.at0 hb12) ?_))))))))
  refine st (s_load one29 rfl hB3.range (j := 0) rfl (st (s_len sl29 rfl (hS13.at0 hb12) (st (s_ne rfl rfl (r_end (n_then ?_)))))))
  refine w_condP rfl (fun h1 => ?_) (fun h1 => ?_)
  · refine w_seq (w_seq (w_region (st (s_move rfl (st (s_len sl29 rfl (hS14.at0 hb12) (st (s_load one29 rfl hB3.range (j := 0) rfl (st (s_len sl29 rfl (hS13.at0 hb12) ?_))))))))))
    refine st (s_lt rfl rfl (r_end (n_then ?_)))
    refine w_condP rfl (fun h2 => ?_) (fun h2 => ?_)
    · refine w_seq (w_region (st0 (s_store one3 rfl rfl rfl (((hB2.g0 k5).g0 k13).gne k14 (by omega)) (of_decide_eq_true rfl) ?_)))
      intro w15 hB4 k15 hs5
      have hb13 := below_g hb12 k15 (by first | omega | (have h9 := (hb12).size; omega))
      refine r_end (n_then (w_ret' (n_then_ret (n_then_ret ?_))))
      exact m_retc rfl one3 rfl hB4 rfl ⟨_, rfl, hb13, by rw [cmpI_lt (cmp_len (nv_nonneg (lim_sl ha)) (nv_nonneg (lim_sl hb)) (by omega))]; rfl⟩
    refine w_skip' (n_then (w_seq (w_region (st0 (s_store one3 rfl rfl rfl (((hB2.g0 k5).g0 k13).gne k14 (by omega)) (of_decide_eq_true rfl) ?_)))))
    intro w16 hB5 k16 hs6
    have hb14 := below_g hb12 k16 (by first | omega | (have h9 := (hb12).size; omega))
    refine r_end (n_then (w_ret' (n_then_ret ?_)))
    exact m_retc rfl one3 rfl hB5 rfl ⟨_, rfl, hb14, by rw [cmpI_gt (cmp_len (nv_nonneg (lim_sl hb)) (nv_nonneg (lim_sl ha)) (by omega))]; rfl⟩
  refine w_skip' (n_then (w_seq (w_seq (w_region (st (s_move rfl (st (s_call fn104 rfl (back_any ((hS14.at0 hb12)).none) ?_))))))))
  rintro _ w17 ⟨hq5, gb1, rfl, hg3, hB6⟩
  have k17 := grown_of_below hq5 none
  have hz6 := hq5.size
  have hb15 := below_g0 hb12 k17
  have hz7 := hb15.size
  refine r_end (n_then (w_block ?_))
  have hzz1 := k1.size
  have hzz2 := k2.size
  have hzz3 := k5.size
  have hzz4 := k13.size
  have hzz5 := k14.size
  have hzz6 := k17.size
  refine i_range (xs := (tl (nv xs))) (n0 := w.heap.size) rfl fn114 (back_stops hS14 hb15 hB6) (hB6.lt) (by omega) (fun pre W => (∀ p ∈ pre, p.1.2 = ix (tl (nv ys)) p.1.1) ∧ Below w.heap.size w W ∧ Blk W g2 3 #[.int .i64 0] ∧ Blk W g1 29 #[v9]) (fun c pre W => c = .ret ∧ ∃ (pre0 : List (LX (tl (nv xs)))) (x : LX (tl (nv xs))) (r : Int), pre = pre0 ++ [x] ∧ (∀ p ∈ pre0, p.1.2 = ix (tl (nv ys)) p.1.1) ∧ ((r = -1 ∧ x.1.2 < ix (tl (nv ys)) x.1.1) ∨ (r = 1 ∧ ix (tl (nv ys)) x.1.1 < x.1.2)) ∧ Below w.heap.size w W ∧ Blk W g2 3 #[.int .i64 r]) (fun s A B row h hg hr => ⟨h.1, Below.ownK h.2.1 (Nat.le_refl _) (by omega) hg hr, h.2.2.1.ownK hg hr, h.2.2.2.ownK hg hr⟩) (fun c s A B row h hg hr => by
      obtain ⟨rfl, pre0, x, r, e, h1, h2, h3, h4⟩ := h
      exact ⟨rfl, pre0, x, r, e, h1, h2, Below.ownK h3 (Nat.le_refl _) (by omega) hg hr, h4.ownK hg hr⟩) (⟨fun p hp => by (cases hp), hb15, ((((hB2.g0 k5).g0 k13).gne k14 (by omega)).g0 k17), (hB3.g0 k17)⟩) (fun x => [(3, .pointer (some ⟨g1, 0, none⟩)), (4, .pointer (some ⟨g2, 0, none⟩)), (5, .int .i64 x.1.1), (6, .int .u32 x.1.2), (22, .func (.func 114) #[] #[.pointer (some ⟨gb1, 0, none⟩)])]) (fun l x W => ?_) (fun l pre x W hl hi hlen => ?_) (fun Dk zs W hD hS hi hK => ?_) (fun Dk c pre W hD hS hi hK => ?_)
  · refine i_seq (i_region (ist (s_assign rfl (i_end (in_then (i_region (ist (s_assign rfl ?_))))))))
    refine i_end ?_
    exact n_set (by exact ⟨rfl, rfl, rfl, rfl, rfl, trivial⟩)
  · obtain ⟨hpe, hbW, hrW, hgW⟩ := hi
    have hzW := hbW.size
    obtain ⟨hx0, hx1, hx2⟩ := x.2
    refine i_block (i_block (i_seq (i_region (ist (s_move rfl (ist (s_load one29 rfl hgW.range (j := 0) rfl (ist (s_move rfl ?_)))))))))
    refine ist (s_idx sl29 rfl rfl (hS13.at0 hbW) (by omega) (by omega) ?_)
    rintro b1 o1 _ ⟨rfl, hr1⟩ hc1 hF1 hlt1
    have hl_1 := Loc.lt hF1
    refine ist (s_load one83 rfl hc1 (j := 0) rfl (ist (s_lt rfl rfl (ist (s_assign rfl (i_end (in_then ?_)))))))
    refine i_condP rfl (fun h3 => ?_) (fun h3 => ?_)
    · refine i_seq (i_region (ist0 (s_store one3 rfl rfl rfl hrW (of_decide_eq_true rfl) ?_)))
      intro w18 hB7 k18 hs7
      have hb16 := below_g hbW k18 (by first | omega | (have h9 := (hbW).size; omega))
      clear hrW
      refine i_end (in_then (i_ret (n_block_ret (n_block_ret ?_))))
      exact n_own_ret ⟨KeepsFrom.of_grownBy k18 (fun j e => by cases e; omega), rfl, pre, x, _, rfl, hpe, .inl ⟨rfl, by omega⟩, hb16, hB7⟩
    refine i_seq (i_region (ist (s_move rfl (ist (s_load one29 rfl hgW.range (j := 0) rfl (ist (s_move rfl (ist (s_idx sl29 rfl rfl (hS13.at0 hbW) (by omega) (by omega) ?_)))))))))
    rintro b2 o2 _ ⟨rfl, hr2⟩ hc2 hF2 hlt2
    have hl_2 := Loc.lt hF2
    refine ist (s_load one83 rfl hc2 (j := 0) rfl (ist (s_gt rfl rfl (ist (s_assign rfl (i_end (in_then ?_)))))))
    refine i_condP rfl (fun h4 => ?_) (fun h4 => ?_)
    rotate_left
    · refine i_skip' (n_block (n_block ?_))
      exact n_own ⟨KeepsFrom.refl _ _, ⟨rfl, Below.refl _ _⟩, fun p hp => by
        rcases List.mem_append.1 hp with hp | hp
        · exact hpe p hp
        · rw [List.mem_singleton.1 hp]; omega, hbW, hrW, hgW⟩
    refine i_seq (i_region (ist0 (s_store one3 rfl rfl rfl hrW (of_decide_eq_true rfl) ?_)))
    intro w19 hB8 k19 hs8
    have hb17 := below_g hbW k19 (by first | omega | (have h9 := (hbW).size; omega))
    clear hrW
    refine i_end (in_then (i_ret (n_block_ret (n_block_ret ?_))))
    exact n_own_ret ⟨KeepsFrom.of_grownBy k19 (fun j e => by cases e; omega), rfl, pre, x, _, rfl, hpe, .inr ⟨rfl, by omega⟩, hb17, hB8⟩
  · obtain ⟨hpe, hbW, hrW, hgW⟩ := hi
    have hzW := hbW.size
    have hneD : g2 ≠ Dk := by
      rintro rfl
      rw [show W.heap[_]? = _ from hrW] at hK
      cases hK
    refine n_block (n_then (w_seq (w_region (st0 (s_store one3 rfl rfl rfl hrW (of_decide_eq_true rfl) ?_)))))
    intro w20 hB9 k20 hs9
    have hb18 := below_g hbW k20 (by first | omega | (have h9 := (hbW).size; omega))
    clear hrW
    refine r_end (n_then (w_ret' ?_))
    have hK2 := (k20.block Dk (Array.getElem?_eq_some_iff.1 hK).1 (fun e => hneD (by cases e; rfl))).trans hK
    exact m_retc' rfl one3 rfl hB9 rfl hK2 ⟨_, rfl, Below.mark hb18 (Nat.le_refl _) (by omega) hK2, by rw [cmp_full (nv_nonneg (lim_sl ha)) (nv_nonneg (lim_sl hb)) (by omega) hS hpe]; rfl⟩
  · obtain ⟨rfl, pre0, x, r, rfl, hpe, hr, hbW, hrW⟩ := hi
    obtain ⟨k, hk, hpk⟩ := hS
    refine w_ret' (n_block_ret (n_then_ret ?_))
    have hst := cmp_stop (nv_nonneg (lim_sl ha)) (nv_nonneg (lim_sl hb)) (by omega) hpk hpe
    have hv : r = cmpI (nv xs) (nv ys) := hr.elim (fun h => by rw [h.1, hst.1 h.2]) (fun h => by rw [h.1, hst.2 h.2])
    exact m_retc' rfl one3 rfl hrW rfl hK ⟨_, rfl, Below.mark hbW (Nat.le_refl _) (by omega) hK, by rw [hv]; rfl⟩
end Go.Proofs.Ytfljelnfjbbknaa.Lm

set_option maxRecDepth 20000
set_option linter.unusedSimpArgs false
set_option linter.unusedVariables false
namespace Go.Proofs.Ytfljelnfjbbknaa.Lm
open Go.RowKit Go.Gw
set_option maxHeartbeats 1000000 in
theorem add32_any {w : World} {x y c : Int} (hx : 0 ≤ x ∧ x < 4294967296) (hy : 0 ≤ y ∧ y < 4294967296) (hc : 0 ≤ c ∧ c ≤ 1) :
    Calls Try.prog 112 [.int .u32 x, .int .u32 y, .int .u32 c].toArray w (Pure w fun v _ => v = .tuple #[.int .u32 ((x + y + c) % 4294967296), .int .u32 ((x + y + c) / 4294967296)]) := by
  have hb0 := Below.refl w.heap.size w
  refine enter Try.func112 rfl rfl (w_seq (w_region (st (s_assign rfl (st (s_assign rfl (r_end (n_then ?_))))))))
  refine w_seq (w_region (st (s_move rfl (st (s_convk (M := 18446744073709551616) rfl rfl intk83 intk81 rfl (by omega) (st (s_move rfl (st (s_convk (M := 18446744073709551616) rfl rfl intk83 intk81 rfl (by omega) (st (s_addk (M := 18446744073709551616) rfl rfl rfl rfl (by omega) ?_)))))))))))
  refine st (s_move rfl (st (s_convk (M := 18446744073709551616) rfl rfl intk83 intk81 rfl (by omega) (st (s_addk (M := 18446744073709551616) rfl rfl rfl rfl (by omega) (st (s_assign rfl (r_end (n_then (w_seq ?_))))))))))
  refine w_region (st (s_move rfl (st (s_convm (M := 4294967296) rfl rfl intk81 intk83 rfl (st (s_assign rfl (r_end (n_then (w_seq ?_)))))))))
  refine w_region (st (s_move rfl (st (s_shrk (p := 4294967296) rfl rfl (by decide) (by decide) (st (s_convm (M := 4294967296) rfl rfl intk81 intk83 rfl (st (s_assign rfl (r_end (n_then ?_))))))))))
  refine w_ret2 rfl rfl rfl ?_
  exact ⟨_, rfl, hb0, by rw [show (x + y + c) / 4294967296 % 4294967296 = (x + y + c) / 4294967296 by omega]⟩

set_option maxHeartbeats 1000000 in
theorem sub32_any {w : World} {x y c : Int} (hx : 0 ≤ x ∧ x < 4294967296) (hy : 0 ≤ y ∧ y < 4294967296) (hc : 0 ≤ c ∧ c ≤ 1) :
    Calls Try.prog 113 [.int .u32 x, .int .u32 y, .int .u32 c].toArray w (Pure w fun v _ => v = .tuple #[.int .u32 ((x - y - c) % 4294967296), .int .u32 (if x < y + c then 1 else 0)]) := by
  have hb0 := Below.refl w.heap.size w
  refine enter Try.func113 rfl rfl (w_seq (w_region (st (s_assign rfl (st (s_assign rfl (r_end (n_then ?_))))))))
  refine w_seq (w_region (st (s_move rfl (st (s_move rfl (st (s_subk (M := 4294967296) rfl rfl rfl rfl (st (s_move rfl (st (s_subk (M := 4294967296) rfl rfl rfl rfl ?_)))))))))))
  refine st (s_assign rfl (r_end (n_then (w_seq (w_region (st (s_move rfl (st (s_com32 rfl (by first | omega | exact ixor_lt (by omega) (by omega) | exact iand_lt (by omega) | exact iand_lt (ixor_lt (by omega) (by omega)) | exact ixor_lt (by omega) (ixor_lt (by omega) (by omega))) ?_)))))))))
  refine st (s_move rfl (st (s_and (M := 4294967296) rfl rfl rfl rfl (by first | omega | exact ixor_lt (by omega) (by omega) | exact iand_lt (by omega) | exact iand_lt (ixor_lt (by omega) (by omega)) | exact ixor_lt (by omega) (ixor_lt (by omega) (by omega))) (by first | omega | exact ixor_lt (by omega) (by omega) | exact iand_lt (by omega) | exact iand_lt' (by omega)) (st (s_move rfl (st (s_move rfl ?_)))))))
  refine st (s_xor (M := 4294967296) rfl rfl rfl rfl (by first | omega | exact ixor_lt (by omega) (by omega) | exact iand_lt (by omega) | exact iand_lt (ixor_lt (by omega) (by omega)) | exact ixor_lt (by omega) (ixor_lt (by omega) (by omega))) (by first | omega | exact ixor_lt (by omega) (by omega) | exact iand_lt (by omega) | exact iand_lt' (by omega)) (st (s_com32 rfl (by first | omega | exact ixor_lt (by omega) (by omega) | exact iand_lt (by omega) | exact iand_lt (ixor_lt (by omega) (by omega)) | exact ixor_lt (by omega) (ixor_lt (by omega) (by omega))) (st (s_move rfl ?_)))))
  refine st (s_and (M := 4294967296) rfl rfl rfl rfl (by first | omega | exact ixor_lt (by omega) (by omega) | exact iand_lt (by omega) | exact iand_lt (ixor_lt (by omega) (by omega)) | exact ixor_lt (by omega) (ixor_lt (by omega) (by omega))) (by first | omega | exact ixor_lt (by omega) (by omega) | exact iand_lt (by omega) | exact iand_lt' (by omega)) ?_)
  refine st (s_or (M := 4294967296) rfl rfl rfl rfl (by first | omega | exact ixor_lt (by omega) (by omega) | exact iand_lt (by omega) | exact iand_lt (ixor_lt (by omega) (by omega)) | exact ixor_lt (by omega) (ixor_lt (by omega) (by omega))) (by first | omega | exact ixor_lt (by omega) (by omega) | exact iand_lt (by omega) | exact iand_lt' (by omega)) (st (s_shrk (p := 2147483648) rfl rfl (by decide) (by decide) (st (s_assign rfl (r_end (n_then (w_ret2 rfl rfl rfl ?_))))))))
  exact ⟨_, rfl, hb0, by rw [borrow_bit hx hy hc, show ((x - y) % 4294967296 - c) % 4294967296 = (x - y - c) % 4294967296 by omega]⟩

set_option maxHeartbeats 1000000 in
theorem add_any {w : World} {n0 : Nat} (hn0 : n0 ≤ w.heap.size) {a b : Value} {xs ys : List Int} (ha : Sl Kd.u32 w (G 83 n0 w) a xs) (hb : Sl Kd.u32 w (G 83 n0 w) b ys) (hla : xs.length ≤ 100000) (hlb : ys.length ≤ 100000) :
    Calls Try.prog 100 [a, b].toArray w (Pure w fun v W => Sl Kd.u32 W (G 83 n0 W) v (tl (nv xs + nv ys))) := by
  have hb0 := Below.refl w.heap.size w
  have hln1 := ha.lenle
  have hln2 := hb.lenle
  refine enter Try.func100 rfl rfl (w_seq (w_region (st (s_assign rfl (r_end (n_then (w_seq ?_)))))))
  refine w_seq (w_region (st (s_move rfl (st (s_len sl29 rfl (ha.at0 hb0) (st (s_move rfl (st (s_len sl29 rfl (hb.at0 hb0) (st (s_lt rfl rfl ?_)))))))))))
  refine r_end (n_then ?_)
  refine w_condP rfl (fun h1 => ?_) (fun h1 => ?_)
  rotate_left
  · refine w_skip' (n_then (w_seq (w_region (st (s_move rfl (st (s_len sl29 rfl (ha.at0 hb0) (st (s_add rfl rfl (by omega) ?_)))))))))
    refine st (s_make (K := Kd.u32) (base := w.heap.size) (F := (fun _ => False)) sl29 rfl (by omega) (by omega) (by omega) (fun _ _ => ⟨rfl, by decide⟩) (by omega) (fun _ h => h.elim) ?_)
    intro v3 w9 hO8 k8
    have hb9 := below_g0 hb0 k8
    have hz9 := hb9.size
    refine st (s_assign rfl (r_end (n_then (w_seq (w_region (st (s_assign rfl (r_end ?_))))))))
    refine n_then (w_seq (w_seq (w_region (st (s_move rfl (st (s_len sl29 rfl (ha.at0 hb9) (st (s_move rfl ?_)))))))))
    refine r_end (n_then (w_block ?_))
    refine w_loop (α := Int × List Int × Int) (fun ((i, os, c) : Int × List Int × Int) => [(0, a), (1, b), (4, .slice none 0 0), (5, v3), (6, .int .u32 c), (21, a), (22, .int .i64 (xs.length : Int)), (23, .int .i64 i)]) (fun ((i, os, c) : Int × List Int × Int) W => Below w.heap.size w W ∧ (0 ≤ i ∧ i ≤ (xs).length) ∧ ((os.length : Int) = (xs).length + 1) ∧ (0 ≤ c ∧ c ≤ 1) ∧ (Gw.Own Kd.u32 83 w.heap.size W (fun _ => False) v3 os) ∧ (nv (os.take i.toNat) + PW i.toNat * c = nv ((xs).take i.toNat) + nv ((ys).take i.toNat))) (fun ((i, os, c) : Int × List Int × Int) => ((xs).length - i).toNat) ((0), (List.replicate (((xs.length : Int) + 1)).toNat 0), (0)) ⟨hb9, by omega, by first | (simp; done) | (simp; omega), by omega, hO8, by simp [nv]⟩ (by exact ⟨rfl, rfl, rfl, rfl, rfl, rfl, rfl, rfl, trivial⟩) ?_
    rintro ⟨i, os, c⟩ w10 ⟨hb10, hi, hol, hc, hO, hn⟩
    dsimp only at *
    have hz10 := hb10.size
    have hxa := (lim_sl ha).ix i
    have hxb := (lim_sl hb).ix i
    refine w_seq (w_region (st (s_lt rfl rfl (r_end (n_then (w_seq ?_))))))
    refine w_condP rfl (fun h4 => ?_) (fun h4 => ?_)
    rotate_left
    · refine w_exit' (n_then_exit (n_then_exit (n_block_exit (n_then (w_seq (w_region ?_))))))
      refine st (s_move rfl (st (s_move rfl (st (s_len sl29 rfl (ha.at0 hb10) (st (s_move rfl (st (s_oidx sl29 rfl rfl hO (by omega) (by first | omega | (simp; done) | (simp; omega)) ?_)))))))))
      intro g6 hg6 hl_15 hl_16
      refine st0 (s_ostore one83 rfl rfl rfl rfl hO hg6 (by omega) (by first | omega | (simp; done) | (simp; omega)) ⟨rfl, by omega⟩ ?_)
      intro w15 hO13 k13 hs6
      have hb15 := below_g hb10 k13 (by first | omega | (have h9 := (hb10).size; omega))
      refine r_end (n_then (w_seq (w_region (st (s_move rfl (st (s_call fn99 rfl (cut_any (hO13.slG (n0 := n0))) ?_)))))))
      rintro v4 w16 ⟨hq6, hS3⟩
      have k14 := grown_of_below hq6 none
      have hz15 := hq6.size
      have hb16 := below_g0 hb15 k14
      have hz16 := hb16.size
      have hS4 := hS3.gg0 k14
      refine st (s_assign rfl (r_end (n_then (w_ret1 rfl rfl ?_))))
      have hend := add_end hn hi.1 (by omega) (by omega) (by omega)
      refine ⟨_, rfl, hb16, ?_⟩
      rw [← hend]
      exact hS4
    refine w_skip' (n_then (w_seq (w_block (w_seq (w_region (st (s_move rfl ?_)))))))
    refine st (s_idx sl29 rfl rfl (ha.at0 hb10) (by omega) (by omega) ?_)
    rintro b3 o3 _ ⟨rfl, hr3⟩ hc3 hF3 hlt3
    have hl_9 := Loc.lt hF3
    refine st (s_load one83 rfl hc3 (j := 0) rfl (st (s_assign rfl (st (s_assign rfl (r_end (n_then (w_seq (w_region ?_)))))))))
    refine st (s_assign rfl (r_end (n_then (w_seq (w_seq (w_region (st (s_move rfl ?_))))))))
    refine st (s_move rfl (st (s_len sl29 rfl (hb.at0 hb10) (st (s_lt rfl rfl (r_end (n_then ?_)))))))
    refine w_condP rfl (fun h5 => ?_) (fun h5 => ?_)
    rotate_left
    · refine w_skip' (n_then (w_region (st (s_move rfl (st (s_move rfl (st (s_move rfl (st (s_move rfl ?_))))))))))
      refine st (s_move rfl (st (s_call fn112 rfl (add32_any (by omega) (by omega) (by omega)) ?_)))
      rintro _ w13 ⟨hq5, rfl⟩
      have k11 := grown_of_below hq5 none
      have hz13 := hq5.size
      have hb13 := below_g0 hb10 k11
      have hz14 := hb13.size
      have hO11 := hO.g0 k11
      refine st (s_move rfl (st (s_extract rfl rfl (st (s_extract rfl rfl (st (s_oidx sl29 rfl rfl hO11 (by omega) (by first | omega | (simp; done) | (simp; omega)) ?_)))))))
      intro g5 hg5 hl_13 hl_14
      refine st0 (s_ostore one83 rfl rfl rfl rfl hO11 hg5 (by omega) (by first | omega | (simp; done) | (simp; omega)) ⟨rfl, by omega⟩ ?_)
      intro w14 hO12 k12 hs5
      have hb14 := below_g hb13 k12 (by first | omega | (have h9 := (hb13).size; omega))
      refine st (s_assign rfl (r_end (n_block (n_then (w_region (st (s_add rfl rfl (by omega) (st (s_move rfl ?_)))))))))
      refine r_end ?_
      exact n_round (((i + 1)), (os.set (i).toNat (((ix xs i) + (0 : Int) + c) % 4294967296)), ((((ix xs i) + (0 : Int) + c) / 4294967296))) ⟨hb14, by omega, by simp; omega, by dsimp only; exact ⟨by omega, by omega⟩, hO12, add_step hn hi.1 (by omega) rfl (ix_over (by omega)).symm⟩ (by omega) (by exact ⟨rfl, rfl, rfl, rfl, rfl, rfl, rfl, rfl, trivial⟩)
    refine w_region (st (s_move rfl (st (s_move rfl (st (s_idx sl29 rfl rfl (hb.at0 hb10) (by omega) (by omega) ?_))))))
    rintro b4 o4 _ ⟨rfl, hr4⟩ hc4 hF4 hlt4
    have hl_10 := Loc.lt hF4
    refine st (s_load one83 rfl hc4 (j := 0) rfl (st (s_assign rfl (r_end (n_then (w_region (st (s_move rfl (st (s_move rfl ?_))))))))))
    refine st (s_move rfl (st (s_move rfl (st (s_move rfl (st (s_call fn112 rfl (add32_any (by omega) (by omega) (by omega)) ?_)))))))
    rintro _ w11 ⟨hq4, rfl⟩
    have k9 := grown_of_below hq4 none
    have hz11 := hq4.size
    have hb11 := below_g0 hb10 k9
    have hz12 := hb11.size
    have hO9 := hO.g0 k9
    refine st (s_move rfl (st (s_extract rfl rfl (st (s_extract rfl rfl (st (s_oidx sl29 rfl rfl hO9 (by omega) (by first | omega | (simp; done) | (simp; omega)) ?_)))))))
    intro g4 hg4 hl_11 hl_12
    refine st0 (s_ostore one83 rfl rfl rfl rfl hO9 hg4 (by omega) (by first | omega | (simp; done) | (simp; omega)) ⟨rfl, by omega⟩ ?_)
    intro w12 hO10 k10 hs4
    have hb12 := below_g hb11 k10 (by first | omega | (have h9 := (hb11).size; omega))
    refine st (s_assign rfl (r_end (n_block (n_then (w_region (st (s_add rfl rfl (by omega) (st (s_move rfl ?_)))))))))
    refine r_end ?_
    exact n_round (((i + 1)), (os.set (i).toNat (((ix xs i) + (ix ys i) + c) % 4294967296)), ((((ix xs i) + (ix ys i) + c) / 4294967296))) ⟨hb12, by omega, by simp; omega, by dsimp only; exact ⟨by omega, by omega⟩, hO10, add_step hn hi.1 (by omega) rfl rfl⟩ (by omega) (by exact ⟨rfl, rfl, rfl, rfl, rfl, rfl, rfl, rfl, trivial⟩)
  refine w_region (st (s_move rfl (st (s_move rfl (st (s_assign rfl (st (s_assign rfl (r_end (n_then ?_))))))))))
  refine w_seq (w_region (st (s_move rfl (st (s_len sl29 rfl (hb.at0 hb0) (st (s_add rfl rfl (by omega) (st (s_make (K := Kd.u32) (base := w.heap.size) (F := (fun _ => False)) sl29 rfl (by omega) (by omega) (by omega) (fun _ _ => ⟨rfl, by decide⟩) (by omega) (fun _ h => h.elim) ?_)))))))))
  intro v1 w1 hO1 k1
  have hb1 := below_g0 hb0 k1
  have hz1 := hb1.size
  refine st (s_assign rfl (r_end (n_then (w_seq (w_region (st (s_assign rfl (r_end ?_))))))))
  refine n_then (w_seq (w_seq (w_region (st (s_move rfl (st (s_len sl29 rfl (hb.at0 hb1) (st (s_move rfl ?_)))))))))
  refine r_end (n_then (w_block ?_))
  refine w_loop (α := Int × List Int × Int) (fun ((i, os, c) : Int × List Int × Int) => [(0, b), (1, a), (4, .slice none 0 0), (5, v1), (6, .int .u32 c), (21, b), (22, .int .i64 (ys.length : Int)), (23, .int .i64 i)]) (fun ((i, os, c) : Int × List Int × Int) W => Below w.heap.size w W ∧ (0 ≤ i ∧ i ≤ (ys).length) ∧ ((os.length : Int) = (ys).length + 1) ∧ (0 ≤ c ∧ c ≤ 1) ∧ (Gw.Own Kd.u32 83 w.heap.size W (fun _ => False) v1 os) ∧ (nv (os.take i.toNat) + PW i.toNat * c = nv ((ys).take i.toNat) + nv ((xs).take i.toNat))) (fun ((i, os, c) : Int × List Int × Int) => ((ys).length - i).toNat) ((0), (List.replicate (((ys.length : Int) + 1)).toNat 0), (0)) ⟨hb1, by omega, by first | (simp; done) | (simp; omega), by omega, hO1, by simp [nv]⟩ (by exact ⟨rfl, rfl, rfl, rfl, rfl, rfl, rfl, rfl, trivial⟩) ?_
  rintro ⟨i, os, c⟩ w2 ⟨hb2, hi, hol, hc, hO, hn⟩
  dsimp only at *
  have hz2 := hb2.size
  have hxa := (lim_sl hb).ix i
  have hxb := (lim_sl ha).ix i
  refine w_seq (w_region (st (s_lt rfl rfl (r_end (n_then (w_seq ?_))))))
  refine w_condP rfl (fun h2 => ?_) (fun h2 => ?_)
  rotate_left
  · refine w_exit' (n_then_exit (n_then_exit (n_block_exit (n_then (w_seq (w_region ?_))))))
    refine st (s_move rfl (st (s_move rfl (st (s_len sl29 rfl (hb.at0 hb2) (st (s_move rfl (st (s_oidx sl29 rfl rfl hO (by omega) (by first | omega | (simp; done) | (simp; omega)) ?_)))))))))
    intro g3 hg3 hl_7 hl_8
    refine st0 (s_ostore one83 rfl rfl rfl rfl hO hg3 (by omega) (by first | omega | (simp; done) | (simp; omega)) ⟨rfl, by omega⟩ ?_)
    intro w7 hO6 k6 hs3
    have hb7 := below_g hb2 k6 (by first | omega | (have h9 := (hb2).size; omega))
    refine r_end (n_then (w_seq (w_region (st (s_move rfl (st (s_call fn99 rfl (cut_any (hO6.slG (n0 := n0))) ?_)))))))
    rintro v2 w8 ⟨hq3, hS1⟩
    have k7 := grown_of_below hq3 none
    have hz7 := hq3.size
    have hb8 := below_g0 hb7 k7
    have hz8 := hb8.size
    have hS2 := hS1.gg0 k7
    refine st (s_assign rfl (r_end (n_then (w_ret1 rfl rfl ?_))))
    have hend := add_end hn hi.1 (by omega) (by omega) (by omega)
    refine ⟨_, rfl, hb8, ?_⟩
    rw [Int.add_comm (nv xs), ← hend]
    exact hS2
  refine w_skip' (n_then (w_seq (w_block (w_seq (w_region (st (s_move rfl ?_)))))))
  refine st (s_idx sl29 rfl rfl (hb.at0 hb2) (by omega) (by omega) ?_)
  rintro b1 o1 _ ⟨rfl, hr1⟩ hc1 hF1 hlt1
  have hl_1 := Loc.lt hF1
  refine st (s_load one83 rfl hc1 (j := 0) rfl (st (s_assign rfl (st (s_assign rfl (r_end (n_then (w_seq (w_region ?_)))))))))
  refine st (s_assign rfl (r_end (n_then (w_seq (w_seq (w_region (st (s_move rfl ?_))))))))
  refine st (s_move rfl (st (s_len sl29 rfl (ha.at0 hb2) (st (s_lt rfl rfl (r_end (n_then ?_)))))))
  refine w_condP rfl (fun h3 => ?_) (fun h3 => ?_)
  rotate_left
  · refine w_skip' (n_then (w_region (st (s_move rfl (st (s_move rfl (st (s_move rfl (st (s_move rfl ?_))))))))))
    refine st (s_move rfl (st (s_call fn112 rfl (add32_any (by omega) (by omega) (by omega)) ?_)))
    rintro _ w5 ⟨hq2, rfl⟩
    have k4 := grown_of_below hq2 none
    have hz5 := hq2.size
    have hb5 := below_g0 hb2 k4
    have hz6 := hb5.size
    have hO4 := hO.g0 k4
    refine st (s_move rfl (st (s_extract rfl rfl (st (s_extract rfl rfl (st (s_oidx sl29 rfl rfl hO4 (by omega) (by first | omega | (simp; done) | (simp; omega)) ?_)))))))
    intro g2 hg2 hl_5 hl_6
    refine st0 (s_ostore one83 rfl rfl rfl rfl hO4 hg2 (by omega) (by first | omega | (simp; done) | (simp; omega)) ⟨rfl, by omega⟩ ?_)
    intro w6 hO5 k5 hs2
    have hb6 := below_g hb5 k5 (by first | omega | (have h9 := (hb5).size; omega))
    refine st (s_assign rfl (r_end (n_block (n_then (w_region (st (s_add rfl rfl (by omega) (st (s_move rfl ?_)))))))))
    refine r_end ?_
    exact n_round (((i + 1)), (os.set (i).toNat (((ix ys i) + (0 : Int) + c) % 4294967296)), ((((ix ys i) + (0 : Int) + c) / 4294967296))) ⟨hb6, by omega, by simp; omega, by dsimp only; exact ⟨by omega, by omega⟩, hO5, add_step hn hi.1 (by omega) rfl (ix_over (by omega)).symm⟩ (by omega) (by exact ⟨rfl, rfl, rfl, rfl, rfl, rfl, rfl, rfl, trivial⟩)
  refine w_region (st (s_move rfl (st (s_move rfl (st (s_idx sl29 rfl rfl (ha.at0 hb2) (by omega) (by omega) ?_))))))
  rintro b2 o2 _ ⟨rfl, hr2⟩ hc2 hF2 hlt2
  have hl_2 := Loc.lt hF2
  refine st (s_load one83 rfl hc2 (j := 0) rfl (st (s_assign rfl (r_end (n_then (w_region (st (s_move rfl (st (s_move rfl ?_))))))))))
  refine st (s_move rfl (st (s_move rfl (st (s_move rfl (st (s_call fn112 rfl (add32_any (by omega) (by omega) (by omega)) ?_)))))))
  rintro _ w3 ⟨hq1, rfl⟩
  have k2 := grown_of_below hq1 none
  have hz3 := hq1.size
  have hb3 := below_g0 hb2 k2
  have hz4 := hb3.size
  have hO2 := hO.g0 k2
  refine st (s_move rfl (st (s_extract rfl rfl (st (s_extract rfl rfl (st (s_oidx sl29 rfl rfl hO2 (by omega) (by first | omega | (simp; done) | (simp; omega)) ?_)))))))
  intro g1 hg1 hl_3 hl_4
  refine st0 (s_ostore one83 rfl rfl rfl rfl hO2 hg1 (by omega) (by first | omega | (simp; done) | (simp; omega)) ⟨rfl, by omega⟩ ?_)
  intro w4 hO3 k3 hs1
  have hb4 := below_g hb3 k3 (by first | omega | (have h9 := (hb3).size; omega))
  refine st (s_assign rfl (r_end (n_block (n_then (w_region (st (s_add rfl rfl (by omega) (st (s_move rfl ?_)))))))))
  refine r_end ?_
  exact n_round (((i + 1)), (os.set (i).toNat (((ix ys i) + (ix xs i) + c) % 4294967296)), ((((ix ys i) + (ix xs i) + c) / 4294967296))) ⟨hb4, by omega, by simp; omega, by dsimp only; exact ⟨by omega, by omega⟩, hO3, add_step hn hi.1 (by omega) rfl rfl⟩ (by omega) (by exact ⟨rfl, rfl, rfl, rfl, rfl, rfl, rfl, rfl, trivial⟩)
end Go.Proofs.Ytfljelnfjbbknaa.Lm

set_option maxRecDepth 20000
set_option linter.unusedSimpArgs false
set_option linter.unusedVariables false
namespace Go.Proofs.Ytfljelnfjbbknaa.Lm
open Go.RowKit Go.Gw
set_option maxHeartbeats 1000000 in
theorem sub_any {w : World} {n0 : Nat} (hn0 : n0 ≤ w.heap.size) {a b : Value} {xs ys : List Int} (ha : Sl Kd.u32 w (G 83 n0 w) a xs) (hb : Sl Kd.u32 w (G 83 n0 w) b ys) (hla : xs.length ≤ 100000) (hlb : ys.length ≤ 100000) :
    Calls Try.prog 101 [a, b].toArray w (Pure w fun r W => ∃ v, r = .tuple #[v, .bool (decide (nv ys ≤ nv xs))] ∧ Sl Kd.u32 W (G 83 n0 W) v (tl (nv xs - nv ys))) := by
  have hb0 := Below.refl w.heap.size w
  have hln1 := ha.lenle
  have hln2 := hb.lenle
  refine enter Try.func101 rfl rfl (w_seq (w_region (st (s_assign rfl (st (s_assign rfl (r_end (n_then ?_))))))))
  refine w_seq (w_seq (w_region (st (s_move rfl (st (s_move rfl (st (s_call fn82 rfl (cmp_any ((ha.at0 hb0)).none ((hb.at0 hb0)).none) ?_))))))))
  rintro _ w1 ⟨hq1, rfl⟩
  have k1 := grown_of_below hq1 none
  have hz1 := hq1.size
  have hb1 := below_g0 hb0 k1
  have hz2 := hb1.size
  refine st (s_lt rfl rfl (r_end (n_then ?_)))
  refine w_condP rfl (fun h1 => ?_) (fun h1 => ?_)
  · refine w_seq (w_region (st (s_assign rfl (st (s_assign rfl (r_end (n_then (w_ret2 rfl rfl rfl ?_))))))))
    have hlt : nv xs < nv ys := by have := h1; unfold cmpI at this; split at this <;> (try split at this) <;> omega
    exact ⟨_, rfl, hb1, _, by rw [decide_eq_false (by omega)], by rw [tl_zero (by omega)]; exact nilG⟩
  refine w_skip' (n_then (w_seq (w_region (st (s_move rfl (st (s_call fn103 rfl (clone_any ((ha.at0 hb1)).none (by first | omega | (simp; done) | (simp; omega))) ?_)))))))
  rintro v1 w2 ⟨hq2, hO2⟩
  have k2 := grown_of_below hq2 none
  have hz3 := hq2.size
  have hb2 := below_g0 hb1 k2
  have hz4 := hb2.size
  have hO1 := hO2.rebase (b' := w.heap.size) (by omega)
  refine st (s_assign rfl (r_end (n_then (w_seq (w_region (st (s_assign rfl (r_end ?_))))))))
  refine n_then (w_seq (w_seq (w_region (st (s_move rfl (st (s_len sl29 rfl hO1.sl (st (s_move rfl ?_)))))))))
  refine r_end (n_then (w_block ?_))
  refine w_loop (α := Int × List Int × Int) (fun ((i, os, c) : Int × List Int × Int) => [(1, b), (4, .slice none 0 0), (5, .bool false), (6, v1), (7, .int .u32 c), (17, .int .i64 (xs.length : Int)), (18, .int .i64 i)]) (fun ((i, os, c) : Int × List Int × Int) W => Below w.heap.size w W ∧ (0 ≤ i ∧ i ≤ xs.length) ∧ (os.length = xs.length) ∧ (0 ≤ c ∧ c ≤ 1) ∧ (Gw.Own Kd.u32 83 w.heap.size W (fun _ => False) v1 os) ∧ (nv (os.take i.toNat) = nv (xs.take i.toNat) - nv (ys.take i.toNat) + PW i.toNat * c) ∧ (∀ j : Int, i ≤ j → ix os j = ix xs j)) (fun ((i, os, c) : Int × List Int × Int) => (xs.length - i).toNat) ((0), (xs), (0)) ⟨hb2, by omega, rfl, by omega, hO1, by simp [nv], fun _ _ => rfl⟩ (by exact ⟨rfl, rfl, rfl, rfl, rfl, rfl, rfl, trivial⟩) ?_
  rintro ⟨i, os, c⟩ w3 ⟨hb3, hi, hol, hc, hO, hn, hd⟩
  dsimp only at *
  have hz5 := hb3.size
  have hxo := (lim_sl hO.sl).ix i
  have hxb := (lim_sl hb).ix i
  refine w_seq (w_region (st (s_lt rfl rfl (r_end (n_then (w_seq ?_))))))
  refine w_condP rfl (fun h2 => ?_) (fun h2 => ?_)
  rotate_left
  · refine w_exit' (n_then_exit (n_then_exit (n_block_exit (n_then (w_seq (w_region ?_))))))
    refine st (s_move rfl (st (s_call fn99 rfl (cut_any (hO.slG (n0 := n0))) ?_)))
    rintro v2 w8 ⟨hq5, hS1⟩
    have k7 := grown_of_below hq5 none
    have hz10 := hq5.size
    have hb8 := below_g0 hb3 k7
    have hz11 := hb8.size
    have hS2 := hS1.gg0 k7
    refine st (s_assign rfl (st (s_assign rfl (r_end (n_then (w_ret2 rfl rfl rfl ?_))))))
    have hle : nv ys ≤ nv xs := by have := h1; unfold cmpI at this; split at this <;> (try split at this) <;> omega
    have hend := sub_end hn (by omega) hol hc (lim_sl hO.sl) (lim_sl ha) (lim_sl hb) hle
    exact ⟨_, rfl, hb8, _, by rw [decide_eq_true hle], by rw [← hend]; exact hS2⟩
  refine w_skip' (n_then (w_seq (w_block (w_seq (w_region (st (s_move rfl ?_)))))))
  refine st (s_assign rfl (r_end (n_then (w_seq (w_region (st (s_assign rfl (r_end ?_))))))))
  refine n_then (w_seq (w_seq (w_region (st (s_move rfl (st (s_move rfl (st (s_len sl29 rfl (hb.at0 hb3) ?_)))))))))
  refine st (s_lt rfl rfl (r_end (n_then ?_)))
  refine w_condP rfl (fun h3 => ?_) (fun h3 => ?_)
  rotate_left
  · refine w_skip' (n_then (w_region (st (s_move rfl (st (s_move rfl (st (s_move rfl (st (s_move rfl ?_))))))))))
    refine st (s_idx sl29 rfl rfl hO.sl (by omega) (by omega) ?_)
    rintro b3 o3 _ ⟨rfl, hr3⟩ hc3 hF3 hlt3
    refine st (s_load one83 rfl hc3 (j := 0) rfl (st (s_move rfl (st (s_move rfl (st (s_call fn113 rfl (sub32_any (by omega) (by omega) (by omega)) ?_)))))))
    rintro _ w6 ⟨hq4, rfl⟩
    have k5 := grown_of_below hq4 none
    have hz8 := hq4.size
    have hb6 := below_g0 hb3 k5
    have hz9 := hb6.size
    have hO5 := hO.g0 k5
    refine st (s_move rfl (st (s_extract rfl rfl (st (s_extract rfl rfl (st (s_oidx sl29 rfl rfl hO5 (by omega) (by first | omega | (simp; done) | (simp; omega)) ?_)))))))
    intro g2 hg2 hl_4 hl_5
    refine st0 (s_ostore one83 rfl rfl rfl rfl hO5 hg2 (by omega) (by first | omega | (simp; done) | (simp; omega)) ⟨rfl, by omega⟩ ?_)
    intro w7 hO6 k6 hs2
    have hb7 := below_g hb6 k6 (by first | omega | (have h9 := (hb6).size; omega))
    refine st (s_assign rfl (r_end (n_block (n_then (w_region (st (s_add rfl rfl (by omega) (st (s_move rfl ?_)))))))))
    refine r_end ?_
    exact n_round (((i + 1)), (os.set (i).toNat (((ix os i) - (0 : Int) - c) % 4294967296)), ((if (ix os i) < (0 : Int) + c then 1 else 0))) ⟨hb7, by omega, by simp; omega, by dsimp only; split <;> omega, hO6, sub_step hn hi.1 (by omega) (hd i (by omega)) (ix_over (by omega)).symm hxo (by decide) hc, fun j hj => by rw [ix_set_ne hi.1 (by omega) (by omega)]; exact hd j (by omega)⟩ (by omega) (by exact ⟨rfl, rfl, rfl, rfl, rfl, rfl, rfl, trivial⟩)
  refine w_region (st (s_move rfl (st (s_move rfl (st (s_idx sl29 rfl rfl (hb.at0 hb3) (by omega) (by omega) ?_))))))
  rintro b1 o1 _ ⟨rfl, hr1⟩ hc1 hF1 hlt1
  have hl_1 := Loc.lt hF1
  refine st (s_load one83 rfl hc1 (j := 0) rfl (st (s_assign rfl (r_end (n_then (w_region (st (s_move rfl (st (s_move rfl ?_))))))))))
  refine st (s_move rfl (st (s_move rfl (st (s_idx sl29 rfl rfl hO.sl (by omega) (by omega) ?_)))))
  rintro b2 o2 _ ⟨rfl, hr2⟩ hc2 hF2 hlt2
  refine st (s_load one83 rfl hc2 (j := 0) rfl (st (s_move rfl (st (s_move rfl (st (s_call fn113 rfl (sub32_any (by omega) (by omega) (by omega)) ?_)))))))
  rintro _ w4 ⟨hq3, rfl⟩
  have k3 := grown_of_below hq3 none
  have hz6 := hq3.size
  have hb4 := below_g0 hb3 k3
  have hz7 := hb4.size
  have hO3 := hO.g0 k3
  refine st (s_move rfl (st (s_extract rfl rfl (st (s_extract rfl rfl (st (s_oidx sl29 rfl rfl hO3 (by omega) (by first | omega | (simp; done) | (simp; omega)) ?_)))))))
  intro g1 hg1 hl_2 hl_3
  refine st0 (s_ostore one83 rfl rfl rfl rfl hO3 hg1 (by omega) (by first | omega | (simp; done) | (simp; omega)) ⟨rfl, by omega⟩ ?_)
  intro w5 hO4 k4 hs1
  have hb5 := below_g hb4 k4 (by first | omega | (have h9 := (hb4).size; omega))
  refine st (s_assign rfl (r_end (n_block (n_then (w_region (st (s_add rfl rfl (by omega) (st (s_move rfl ?_)))))))))
  refine r_end ?_
  exact n_round (((i + 1)), (os.set (i).toNat (((ix os i) - (ix ys i) - c) % 4294967296)), ((if (ix os i) < (ix ys i) + c then 1 else 0))) ⟨hb5, by omega, by simp; omega, by dsimp only; split <;> omega, hO4, sub_step hn hi.1 (by omega) (hd i (by omega)) rfl hxo hxb hc, fun j hj => by rw [ix_set_ne hi.1 (by omega) (by omega)]; exact hd j (by omega)⟩ (by omega) (by exact ⟨rfl, rfl, rfl, rfl, rfl, rfl, rfl, trivial⟩)

set_option maxHeartbeats 1000000 in
theorem fits_any {w : World} {n : Int} :
    Calls Try.prog 98 [.int .i64 n].toArray w (Pure w fun v _ => v = .bool (fitB n)) := by
  have hb0 := Below.refl w.heap.size w
  refine enter Try.func98 rfl rfl (w_seq (w_region (st (s_assign rfl (r_end (n_then (w_seq ?_)))))))
  refine w_region (st (s_move rfl (st (s_ge rfl rfl (st (s_move rfl ?_))))))
  refine r_caseP 5 rfl (fun h1 => ?_) (fun h1 => ?_)
  rotate_left
  · refine s_pass rfl rfl (s_pass rfl rfl (st (s_pick rfl rfl (st (s_assign rfl (r_end (n_then (w_ret1 rfl rfl ?_))))))))
    exact ⟨_, rfl, hb0, by unfold fitB; rw [decide_eq_false h1]; rfl⟩
  refine stg (s_move rfl (stg (s_le rfl rfl (st (s_pick rfl rfl (st (s_assign rfl (r_end (n_then (w_ret1 rfl rfl ?_))))))))))
  exact ⟨_, rfl, hb0, by unfold fitB; rw [decide_eq_true h1]; rfl⟩
end Go.Proofs.Ytfljelnfjbbknaa.Lm
