/- Part of the proof that is named in YtencmmhfiepojaaLRowBack: a library for walks, or a function's walk. -/
import Derived.Test.YtencmmhfiepojaaGw24
set_option linter.unusedSimpArgs false
set_option linter.unusedVariables false
/-! ### A drawn region in a round -/
namespace Go.Gw
open Go.RowKit
section
variable {P : Program} {l : List Oper} {Q : Exit → Act → World → Prop} {n m : Nat} {D : List Deferred} {ρ0 : Env} {w0 : World} {R R0 R1 : World → World → Prop} {sp : Spec} {ds anc con : List (List Nat)} {big st1 cls : List Bool}
theorem any_in {ro : Option Nat} {mm : Nat} (hL : ¬ LetsOut Q) (hnd : l.all (fun o => notDefer o.op) = true) : ∀ (fuel : Nat) (listed : Array Bool) (a : Act) (w : World), wpAny P .any l.toArray Q fuel listed a w → wpAnyIn (FI ro) mm P .any l.toArray Q fuel listed a w := by
  intro fuel
  induction fuel with
  | zero => intro listed a w h; exact h
  | succ fuel ih =>
    intro listed a w h
    refine ⟨h.1, fun i hi => ?_⟩
    have h1 := h.2 i hi
    unfold wpOp at h1
    unfold wpOpIn
    cases ho : l.toArray[i]? with
    | none => rw [ho] at h1; exact ih _ _ _ h1
    | some o =>
      rw [ho] at h1
      dsimp only at h1 ⊢
      have hnd' : notDefer o.op = true := by
        rw [List.all_eq_true] at hnd
        exact hnd o (List.mem_of_getElem? (by simpa using ho))
      split
      · rename_i hw
        rw [if_pos hw] at h1
        rcases h1 with h1 | ⟨_, h1⟩
        · exact oper_in hnd' (Oper.wp_mono (fun a w => ih _ a w) h1)
        · exact absurd h1 hL
      · rename_i hw
        rw [if_neg hw] at h1
        exact ⟨fun _ _ => trivial, ih _ _ _ h1⟩
theorem i_drawD {ro : Option Nat} {mm : Nat} (hL : ¬ LetsOut Q) (hnd : l.all (fun o => notDefer o.op) = true) {id : Nat} {w : World} {ρ : Env} (m : Nat) (R R0 R1 : World → World → Prop) (sp : Spec) (ds anc con : List (List Nat)) (big st1 cls : List Bool) (ρ0 : Env) (hsub : Sub ρ0 ρ) (hm : P.follows .mixedOrders = true)
    (hchk : drawOk l m n (keysOf ρ0) (sp.map (·.1)) ds = true) (hA : ancOk l anc = true) (hC : conOk m ds anc con big st1 = true) (hR : ∀ a, R a a) (hRt : ∀ a b c, R a b → R b c → R a c) (hR0 : ∀ a b, R0 a b → R a b) (hR1 : ∀ a b, R1 a b → R a b) (hst : StAllC R0 R1 sp st1) (hR00 : ∀ a, R0 a a) (hR0t : ∀ a b c, R0 a b → R0 b c → R0 a c) (hcl : cleanOk m anc big cls = true)
    (h : ∀ w0, w.grownBy w0 none → w0.heap.size = w.heap.size → ObsAllD P l.toArray n D ρ0 w0 R R0 R1 sp l ds big cls sp ∧ (∀ w', R w0 w' → AllV2 (finS sp con) ρ0 w' (fun ρ => Reg P l.toArray Q (l.drop m) n D ρ w'))) :
    IW ro mm P (.region id l.toArray true) Q n D ρ w := by
  intro a ha
  have hF := drawFacts hchk
  obtain ⟨h1, h2⟩ := h w.drew (grown_drew w) rfl
  refine wpIn_region_any hm (any_in hL hnd _ _ _ _ ?_)
  have hno : ∀ i, (Array.replicate l.length false).getD i false = false := fun i => by
    simp [Array.getD_eq_getD_getElem?, Array.getElem?_replicate]; split <;> rfl
  have hM : MidD l con n D ρ0 w.drew R R0 big sp m l.length (Array.replicate l.length false) (fun _ => undef) a w.drew :=
    { fr := ha.sub hsub, wr := hR _, cln := fun _ => hR00 _, size := by simp, tail := fun i _ => hno i,
      cl := fun i o _ hl j _ => (by rw [hno] at hl; cases hl),
      got := fun i dst φ hs hl => (by rw [hno] at hl; cases hl) }
  have := mid_anyD hA hC hR0 hR1 hF (fun t v hl => look_of_keys hl) hRt hst hR00 hR0t hcl h1 h2 l.length (Array.replicate l.length false) (fun _ => undef) a w.drew hM (by
      have : ∀ k L, cnt k L ≤ k := by
        intro k L; induction k with
        | zero => exact Nat.le_refl _
        | succ k ih => unfold cnt; split <;> omega
      exact this _ _)
  simpa using this
end
theorem own_block {α : Type} {K : Kd α} {e base : Nat} {w : World} {F : Nat → Prop} {v : Value} {xs : List α} (h : Gw.Own K e base w F v xs) (hne : xs.length ≠ 0) : ∃ g, v.ownBlock = some g ∧ base ≤ g ∧ g < w.heap.size := by
  obtain ⟨us, hl, hr, ho⟩ := h.out
  rcases ho.2 with ⟨rfl, h0⟩ | ⟨g, cap, cur, rfl, hb, hg, _⟩
  · exact absurd h0 hne
  · exact ⟨g, by simp [Value.ownBlock], hb, (Array.getElem?_eq_some_iff.1 hg).1⟩
theorem grown_some_refl (g : Nat) (a : World) : a.grownBy a (some g) := grown_row_refl _ a
theorem grown_some_trans {g : Nat} (a b c : World) (h : a.grownBy b (some g)) (k : b.grownBy c (some g)) : a.grownBy c (some g) := grown_row_trans h k
theorem ne_own_of {v : Value} {g g' : Nat} (h : v.ownBlock ≠ some g') (hg : v.ownBlock = some g) : g' ≠ g := by
  rintro rfl
  exact h hg
theorem own_fresh {α : Type} {K : Kd α} {e base : Nat} {w : World} {F : Nat → Prop} {v : Value} {xs : List α} (h : Gw.Own K e base w F v xs) {g : Nat} (hg : g < base) : v.ownBlock ≠ some g :=
  fun e => by have := (h.lt g e).1; omega
end Go.Gw
