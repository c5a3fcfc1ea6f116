/- Part of the proof that is named in YtencmmhfiepojaaLRowBack: a library for walks, or a function's walk. -/
import Derived.Test.YtencmmhfiepojaaGw16
set_option linter.unusedSimpArgs false
set_option linter.unusedVariables false
/-! ### Frames; nil slices; arrays of four, written at a place; results in cells -/
namespace Go.Gw
open Go.RowKit
section
variable {α : Type} {K : Kd α} {e base : Nat} {w w' : World} {F : Nat → Prop} {v v' : Value} {xs : List α}
theorem Own.rebase {b' : Nat} (h : Own K e base w F v xs) (hb : b' ≤ base) : Own K e b' w F v xs := by
  obtain ⟨us, hl, hr, h1, h2⟩ := h.out
  refine ⟨⟨us, hl, hr, h1, ?_⟩, h.no⟩
  rcases h2 with h2 | ⟨g, cap, cur, q1, q2, q3⟩
  · exact .inl h2
  · exact .inr ⟨g, cap, cur, q1, Nat.le_trans hb q2, q3⟩
theorem own_new {g : Nat} (h : Own K e base w F v xs) (hg : w.heap.size = g) : v.ownBlock ≠ some g := fun he => by
  have := (h.lt g he).2; omega
theorem own_app {g s : Nat} (hn : v.ownBlock ≠ some g) (hr : v'.ownBlock = v.ownBlock ∨ v'.ownBlock = some s) (hlt : g < s) : v'.ownBlock ≠ some g := by
  rcases hr with h | h
  · rw [h]; exact hn
  · rw [h]; intro e; cases e; omega
theorem Own.keptN {g : Nat} (hK : K.Flat) (h : Own K e base w F v xs) (hg : w.grownBy w' (some g)) (hn : v.ownBlock ≠ some g) : Own K e base w' F v xs := h.keptF hK hg (.inr hn)
end
/-- What stands between two worlds but for some blocks and a row: the frame. -/
def Frm (X : Nat → Prop) (w0 : World) (v0 : Value) (w : World) (v : Value) : Prop :=
  w0.heap.size ≤ w.heap.size ∧ ∀ g, g < w0.heap.size → ¬ X g → v0.ownBlock ≠ some g → w.heap[g]? = w0.heap[g]? ∧ v.ownBlock ≠ some g
section
variable {X : Nat → Prop} {w0 w w' : World} {v0 v v' : Value}
theorem Frm.refl (X : Nat → Prop) (w : World) (v : Value) : Frm X w v w v := ⟨Nat.le_refl _, fun g _ _ h => ⟨rfl, h⟩⟩
theorem Frm.none (h : Frm X w0 v0 w v) (k : w.grownBy w' none) : Frm X w0 v0 w' v :=
  ⟨Nat.le_trans h.1 k.size, fun g a b c => ⟨(k.block g (Nat.lt_of_lt_of_le a h.1) (by simp)).trans (h.2 g a b c).1, (h.2 g a b c).2⟩⟩
theorem Frm.put {r : Nat} (h : Frm X w0 v0 w v) (k : w.grownBy w' (some r)) (hr : X r ∨ w0.heap.size ≤ r) : Frm X w0 v0 w' v :=
  ⟨Nat.le_trans h.1 k.size, fun g a b c => ⟨(k.block g (Nat.lt_of_lt_of_le a h.1) (fun e => by
    cases e; rcases hr with h | h
    · exact b h
    · omega)).trans (h.2 g a b c).1, (h.2 g a b c).2⟩⟩
theorem Frm.row (h : Frm X w0 v0 w v) (k : w.grownBy w' v.ownBlock) (hr : v'.ownBlock = v.ownBlock ∨ v'.ownBlock = some w.heap.size) : Frm X w0 v0 w' v' :=
  ⟨Nat.le_trans h.1 k.size, fun g a b c => ⟨(k.block g (Nat.lt_of_lt_of_le a h.1) (fun e => (h.2 g a b c).2 e.symm)).trans (h.2 g a b c).1, own_app (h.2 g a b c).2 hr (Nat.lt_of_lt_of_le a h.1)⟩⟩
theorem own_app2 {g s : Nat} (hn : v.ownBlock ≠ some g) (hr : v'.ownBlock = v.ownBlock ∨ ∃ q, v'.ownBlock = some q ∧ s ≤ q) (hlt : g < s) : v'.ownBlock ≠ some g := by
  rcases hr with h | ⟨q, h, hq⟩
  · rw [h]; exact hn
  · rw [h]; intro e; cases e; omega
theorem Frm.row2 (h : Frm X w0 v0 w v) (k : w.grownBy w' v.ownBlock) (hr : v'.ownBlock = v.ownBlock ∨ ∃ q, v'.ownBlock = some q ∧ w.heap.size ≤ q) : Frm X w0 v0 w' v' :=
  ⟨Nat.le_trans h.1 k.size, fun g a b c => ⟨(k.block g (Nat.lt_of_lt_of_le a h.1) (fun e => (h.2 g a b c).2 e.symm)).trans (h.2 g a b c).1, own_app2 (h.2 g a b c).2 hr (Nat.lt_of_lt_of_le a h.1)⟩⟩
theorem Frm.trans {w1 : World} {v1 : Value} (h : Frm X w0 v0 w1 v1) (k : Frm X w1 v1 w v) : Frm X w0 v0 w v :=
  ⟨Nat.le_trans h.1 k.1, fun g a b c => by
    have q := h.2 g a b c
    have r := k.2 g (Nat.lt_of_lt_of_le a h.1) b q.2
    exact ⟨r.1.trans q.1, r.2⟩⟩
theorem Frm.mono {Y : Nat → Prop} (h : Frm X w0 v0 w v) (hY : ∀ g, X g → Y g) : Frm Y w0 v0 w v :=
  ⟨h.1, fun g a b c => h.2 g a (fun e => b (hY g e)) c⟩
theorem Frm.below {n : Nat} {a : World} (h : Frm X w v w' v') (hb : Below n a w) (hn : n ≤ w.heap.size) (hX : ∀ g, g < n → ¬ X g) (hv : ∀ g, v.ownBlock = some g → n ≤ g) (ho : w'.os = w.os ∧ w'.tape = w.tape ∧ w'.output = w.output) : Below n a w' :=
  ⟨ho.1.trans hb.os, ho.2.1.trans hb.tape, ho.2.2.trans hb.output, Nat.le_trans hb.size h.1, fun i hi => (h.2 i (Nat.lt_of_lt_of_le hi hn) (hX i hi) (fun e => by have := hv i e; omega)).1.trans (hb.block i hi)⟩
theorem Blk.frm {g t : Nat} {cs : Array Value} (hb : Blk w g t cs) (h : Frm X w v w' v') (hX : ¬ X g) (hv : v.ownBlock ≠ some g) : Blk w' g t cs := ((h.2 g hb.lt hX hv).1).trans hb
theorem IsMap.frm {κ ν : Type} {ek : κ → Value} {ev : ν → Value} {g : Nat} {m : List (κ × ν)} (hb : IsMap ek ev w g m) (h : Frm X w v w' v') (hX : ¬ X g) (hv : v.ownBlock ≠ some g) : IsMap ek ev w' g m := by
  obtain ⟨es, c, q, r⟩ := id hb
  exact ⟨es, c, ((h.2 g hb.lt hX hv).1).trans q, r⟩
end
section
variable {P : Program} {n : Nat} {D : List Deferred} {ρ : Env} {w : World}
variable {d ty : Nat} {pos : String} {after : Array Edge} {gd : Option (Nat × Bool)} {C : Value → World → Prop} {x y z : Operand}
def nilS : Value → Bool
  | .slice none _ _ => true
  | _ => false
theorem s_slnil {α : Type} {K : Kd α} {F : Nat → Prop} {v : Value} {xs : List α} {t e by_ yt : Nat} {zv : Value} (hs : SlF P t e K.sz by_ zv) (hx : opv ρ x = some v) (hy : opv ρ y = some (.slice none 0 0)) (hl : Sl K w F v xs) (k : C (.bool (nilS v)) w) :
    OpW P ⟨some d, .binOp .eql t x y yt, ty, pos, after, gd⟩ n D ρ w C := by
  obtain ⟨A, c, rfl, _⟩ := hl
  refine s_bin hx hy (fun w => by unfold eqGuard; split <;> simp) ?_ k
  have hu := run_underlying hs.und w
  have h : (Op.equal t (.slice A xs.length c) (.slice none 0 0)).run P w = .ok (nilS (.slice A xs.length c)) w := by
    rw [Op.equal, show Op.maxDepth = 9999 + 1 from rfl]
    unfold Op.equalIn
    cases A with
    | none => simp [hu, nilS]
    | some a => simp [hu, nilS]
  simp [binOp, h]
theorem nil_of_nilS {α : Type} {K : Kd α} {F : Nat → Prop} {v : Value} {xs : List α} (hl : Sl K w F v xs) (h : nilS v = true) : xs = [] := by
  obtain ⟨A, c, rfl, _, _, h4⟩ := hl
  cases A with
  | some a => cases h
  | none =>
    cases xs with
    | nil => rfl
    | cons x r => obtain ⟨g, o, us, e, _⟩ := h4 0 x rfl; cases e
theorem s_eq4 {ta ti yt : Nat} {a b c e a' b' c' e' : Int} (arr : P.underlying ta = some (.array 4 ti)) (int : P.underlying ti = some (.int .i64)) (si : (P.info? ti).map (·.size) = some 1) (hg : P.eqGuardType P.depth ta = false)
    (hx : opv ρ x = some (.agg [.int .i64 a, .int .i64 b, .int .i64 c, .int .i64 e].toArray)) (hy : opv ρ y = some (.agg [.int .i64 a', .int .i64 b', .int .i64 c', .int .i64 e'].toArray))
    (k : C (.bool (decide (a = a' ∧ b = b' ∧ c = c' ∧ e = e'))) w) : OpW P ⟨some d, .binOp .eql ta x y yt, ty, pos, after, gd⟩ n D ρ w C := by
  refine s_bin hx hy (fun w => run_eqGuard_agg w _ _ _ _ _ _ hg) ?_ k
  have h := run_eq_four arr int si 9998 a b c e a' b' c' e' w
  simp only [binOp, Op.equal, show Op.maxDepth = 9998 + 2 from rfl]
  simp only [four] at h
  simp [h]
/-- A number into a place of an array of four that lies behind one cell of a block of five. -/
def set4 (x0 a b c e v : Int) (k : Int) : Array Value := #[.int .i64 x0, .int .i64 (if k = 0 then v else a), .int .i64 (if k = 1 then v else b), .int .i64 (if k = 2 then v else c), .int .i64 (if k = 3 then v else e)]
theorem s_storeK {t g tb o0 : Nat} {i v x0 a b c e : Int} (ht : OneF P t) (hx : opv ρ x = some (.pointer (some ⟨g, o0 + i.toNat * 1, none⟩))) (hy : opv ρ y = some (.int .i64 v))
    (hb : Blk w g tb #[.int .i64 x0, .int .i64 a, .int .i64 b, .int .i64 c, .int .i64 e]) (h0 : 0 ≤ i) (h1 : i < 4)
    (k : ∀ w', Blk w' g tb (set4 x0 a b c e v i) → w.grownBy w' (some g) → w'.heap.size = w.heap.size → C undef w') (ho : o0 = 1 := by rfl) : OpW P ⟨none, .store t x y, ty, pos, after, gd⟩ n D ρ w C := by
  subst ho
  have : i = 0 ∨ i = 1 ∨ i = 2 ∨ i = 3 := by omega
  rcases this with rfl | rfl | rfl | rfl <;> exact s_store ht hx hy rfl hb (by simp) (fun w' hB hg hs => k w' (by simpa [set4] using hB) hg hs)
theorem w_retc2 {Q : Exit → Act → World → Prop} {fn : Func} {R : Ending → World → Prop} {t u ty m g : Nat} {cs : List Value} {x : Value} (hr : fn.results = #[.cell t ty, .tmp u]) (ht : RowF P ty m) (hl : look ρ t = some (.pointer (some ⟨g, 0, none⟩))) (hl2 : look ρ u = some x)
    (hc : w.rangeAt g 0 cs) (hm : cs.length = m) (h : R (.returned (.tuple #[.agg cs.toArray, x])) w)
    (hQ : ∀ a w, Q .ret a w = bodyPost P fn R .ret a w := by exact fun _ _ => rfl) : W P .ret Q n [] ρ w := by
  intro a ha
  refine wp_ret ?_
  rw [hQ]
  refine bodyPost_ret (v := .tuple #[.agg cs.toArray, x]) ?_ ha.defers h
  obtain ⟨dd, hu, hrow, hs⟩ := ht.out
  have h1 : a.tmps[t]?.getD undef = .pointer (some ⟨g, 0, none⟩) := by rw [ha.slot t _ hl]; rfl
  have h2 : a.tmps[u]?.getD undef = x := by rw [ha.slot u _ hl2]; rfl
  have h3 := run_loadVar_mid (P := P) w g 0 ty cs dd hc hu hrow (by rw [hs, hm])
  simp [results, hr, h1, h2, asAddr, h3]
end
theorem Sl.frm {α : Type} {K : Kd α} (hK : K.Flat) {X : Nat → Prop} {a w : World} {v u : Value} {xs : List α} (h : Sl K a X v xs) (hf : Frm X a (.slice Option.none 0 0) w u) : Sl K w (fun _ => False) v xs := by
  obtain ⟨A, c, e, h2, h3, h4⟩ := h
  refine ⟨A, c, e, h2, h3, fun i x hx => ?_⟩
  obtain ⟨g, o, us, q1, q2, q3, q4, q5⟩ := h4 i x hx
  have hb := (hf.2 g q2 q3 (by simp [Value.ownBlock])).1
  refine ⟨g, o, us, q1, Nat.lt_of_lt_of_le q2 hf.1, fun h => h, hK _ _ _ _ _ _ q4, fun j u_ hu => ?_⟩
  have := q5 j u_ hu
  unfold World.cell? at this ⊢
  simp only [hb]
  exact this
theorem Own.sl_ne {α : Type} {K : Kd α} {e base : Nat} {w : World} {v u : Value} {xs : List α} (hK : K.Flat) (h : Own K e base w (fun _ => False) v xs) (hne : v.ownBlock = none ∨ v.ownBlock ≠ u.ownBlock) : Sl K w (fun g => u.ownBlock = some g) v xs := by
  obtain ⟨A, c, rfl, h2, h3, h4⟩ := h.sl
  refine ⟨A, c, rfl, h2, h3, fun i x hx => ?_⟩
  obtain ⟨g, o, us, rfl, q2, q3, q4, q5⟩ := h4 i x hx
  refine ⟨g, o, us, rfl, q2, fun hu => ?_, hK _ _ _ _ _ _ q4, q5⟩
  rcases hne with hn | hn
  · simp [Value.ownBlock] at hn
  · exact hn (by rw [hu]; simp [Value.ownBlock])
section
variable {P : Program} {n : Nat} {ρ : Env} {w : World}
theorem w_ret3 {Q : Exit → Act → World → Prop} {fn : Func} {R : Ending → World → Prop} {t u s : Nat} {v x y : Value} (hr : fn.results = #[.tmp t, .tmp u, .tmp s]) (hl : look ρ t = some v) (hl2 : look ρ u = some x) (hl3 : look ρ s = some y) (h : R (.returned (.tuple #[v, x, y])) w)
    (hQ : ∀ a w, Q .ret a w = bodyPost P fn R .ret a w := by exact fun _ _ => rfl) : W P .ret Q n [] ρ w := by
  intro a ha
  refine wp_ret ?_
  rw [hQ]
  refine bodyPost_ret (v := .tuple #[v, x, y]) ?_ ha.defers h
  have h1 : a.tmps[t]?.getD undef = v := by rw [ha.slot t _ hl]; rfl
  have h2 : a.tmps[u]?.getD undef = x := by rw [ha.slot u _ hl2]; rfl
  have h3 : a.tmps[s]?.getD undef = y := by rw [ha.slot s _ hl3]; rfl
  simp [results, hr, h1, h2, h3]
end
/-! ### maps that are asked and filled -/
section
variable {κ ν : Type} [DecidableEq κ]
theorem fnd_shift (a : κ) : ∀ (m : List (κ × ν)) (i : Nat), fnd a m (i + 1) = (fnd a m i).map fun p => (p.1 + 1, p.2)
  | [], i => rfl
  | (k, v) :: r, i => by
    unfold fnd
    split
    · rfl
    · exact fnd_shift a r (i + 1)
theorem mget_cons (m : List (κ × ν)) (k a : κ) (v : ν) : mget ((k, v) :: m) a = if a = k then some v else mget m a := by
  unfold mget
  rw [fnd]
  by_cases h : a = k
  · rw [if_pos h, if_pos h]; rfl
  · rw [if_neg h, if_neg h, fnd_shift]
    cases fnd a m 0 <;> rfl
theorem mput_cons (m : List (κ × ν)) (k a : κ) (u v : ν) : mput ((k, u) :: m) a v = if a = k then (a, v) :: m else (k, u) :: mput m a v := by
  unfold mput
  rw [fnd]
  by_cases h : a = k
  · rw [if_pos h, if_pos h]; rfl
  · rw [if_neg h, if_neg h, fnd_shift]
    cases fnd a m 0 with
    | none => rfl
    | some p => rfl
theorem mget_mput (a b : κ) (v : ν) : ∀ m : List (κ × ν), mget (mput m a v) b = if b = a then some v else mget m b
  | [] => by
    have : mput ([] : List (κ × ν)) a v = [(a, v)] := rfl
    rw [this, mget_cons]
  | (k, u) :: m => by
    rw [mput_cons, mget_cons]
    by_cases h : a = k
    · rw [if_pos h, mget_cons]
      subst h
      by_cases e : b = a
      · rw [if_pos e, if_pos e]
      · rw [if_neg e, if_neg e, if_neg e]
    · rw [if_neg h, mget_cons, mget_mput a b v m]
      by_cases e : b = k
      · rw [if_pos e, if_pos e, if_neg (fun e2 => h (by rw [← e2, e]))]
      · rw [if_neg e, if_neg e]
end
end Go.Gw
