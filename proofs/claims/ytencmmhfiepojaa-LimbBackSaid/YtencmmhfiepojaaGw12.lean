/- Part of the proof that is named in YtencmmhfiepojaaLRowBack: a library for walks, or a function's walk. -/
import Derived.Test.YtencmmhfiepojaaGw11
set_option linter.unusedSimpArgs false
/-! ### Parts of slices; maps of Booleans -/
namespace Go.Gw
open Go.RowKit
section
variable {P : Program} {n : Nat} {D : List Deferred} {ρ : Env} {w : World}
variable {d ty : Nat} {pos : String} {after : Array Edge} {gd : Option (Nat × Bool)} {C : Value → World → Prop} {x y z : Operand}
variable {α : Type} {K : Kd α} {F : Nat → Prop} {v : Value} {xs : List α}
theorem Sl.none (h : Sl K w F v xs) : Sl K w (fun _ => False) v xs := h.weak fun _ _ h => h.elim
theorem sl_part {A : Option Addr} {c l h m : Nat} (hl : Sl K w F (.slice A xs.length c) xs) (h0 : l ≤ h) (h1 : h ≤ xs.length) (h2 : h ≤ m) (h3 : m ≤ c) :
    Sl K w F (.slice (if m = l then A else A.map (·.add (l * K.sz))) (h - l) (m - l)) ((xs.take h).drop l) := by
  obtain ⟨A', c', e, a1, a2, a3⟩ := hl
  cases e
  have hlen : ((xs.take h).drop l).length = h - l := by simp; omega
  rw [← hlen]
  refine ⟨_, m - l, rfl, by omega, by omega, fun i y hy => ?_⟩
  have hi : i < h - l := by rw [← hlen]; exact (List.getElem?_eq_some_iff.1 hy).1
  rw [List.getElem?_drop, List.getElem?_take, if_pos (by omega)] at hy
  obtain ⟨g, o, us, rfl, hg, hF, hr, hc⟩ := a3 (l + i) y hy
  rw [if_neg (by omega)]
  refine ⟨g, o + l * K.sz, us, by simp [Addr.add_mid], hg, hF, hr, ?_⟩
  rw [show o + l * K.sz + i * K.sz = o + (l + i) * K.sz by rw [Nat.add_mul]; omega]
  exact hc
theorem s_sllo {t e by_ : Nat} {zv : Value} {kd : IntKind} {i : Int} (hs : SlF P t e K.sz by_ zv) (hx : opv ρ x = some v) (hy : opv ρ y = some (.int kd i)) (hl : Sl K w F v xs) (h0 : 0 ≤ i) (h1 : i ≤ xs.length)
    (k : ∀ v', Sl K w F v' (xs.drop i.toNat) → C v' w) : OpW P ⟨some d, .slice t x (some y) none none, ty, pos, after, gd⟩ n D ρ w C := by
  obtain ⟨A, c, rfl, a1, a2, a3⟩ := id hl
  obtain ⟨inf, hinf, hzero, hsz, hby⟩ := hs.inf
  have hp := sl_part (l := i.toNat) (h := xs.length) (m := c) hl (by omega) (Nat.le_refl _) a1 (Nat.le_refl _)
  rw [List.take_length] at hp
  refine opw_val (fun ev he => ?_) (k _ hp)
  have hb : (Instr.sliceBound (.int kd i) xs.length .sliceB).run P w = .ok i.toNat w := by simp [Instr.sliceBound, asIntOf, h0, h1]
  simp [execOp, he x _ hx, he y _ hy, Instr.sliceAt, Instr.slice, run_underlying hs.und, Instr.sliceBounds, hb, sizeOf, typeInfo, hinf, hsz]
theorem s_slhi {t e by_ : Nat} {zv : Value} {kd : IntKind} {i : Int} (hs : SlF P t e K.sz by_ zv) (hx : opv ρ x = some v) (hy : opv ρ y = some (.int kd i)) (hl : Sl K w F v xs) (h0 : 0 ≤ i) (h1 : i ≤ xs.length)
    (k : ∀ v', Sl K w F v' (xs.take i.toNat) → C v' w) : OpW P ⟨some d, .slice t x none (some y) none, ty, pos, after, gd⟩ n D ρ w C := by
  obtain ⟨A, c, rfl, a1, a2, a3⟩ := id hl
  obtain ⟨inf, hinf, hzero, hsz, hby⟩ := hs.inf
  have hp := sl_part (l := 0) (h := i.toNat) (m := c) hl (by omega) (by omega) (by omega) (Nat.le_refl _)
  rw [List.drop_zero] at hp
  refine opw_val (fun ev he => ?_) (k _ hp)
  have hb : (Instr.sliceBound (.int kd i) c .sliceAcap).run P w = .ok i.toNat w := by
    have : i ≤ c := by omega
    simp [Instr.sliceBound, asIntOf, h0, this]
  simp [execOp, he x _ hx, he y _ hy, Instr.sliceAt, Instr.slice, run_underlying hs.und, Instr.sliceBounds, hb, sizeOf, typeInfo, hinf, hsz]
theorem s_sllohi {t e by_ : Nat} {zv : Value} {kd kd' : IntKind} {i j : Int} (hs : SlF P t e K.sz by_ zv) (hx : opv ρ x = some v) (hy : opv ρ y = some (.int kd i)) (hz : opv ρ z = some (.int kd' j)) (hl : Sl K w F v xs) (h0 : 0 ≤ i) (h1 : i ≤ j) (h2 : j ≤ xs.length)
    (k : ∀ v', Sl K w F v' ((xs.take j.toNat).drop i.toNat) → C v' w) : OpW P ⟨some d, .slice t x (some y) (some z) none, ty, pos, after, gd⟩ n D ρ w C := by
  obtain ⟨A, c, rfl, a1, a2, a3⟩ := id hl
  obtain ⟨inf, hinf, hzero, hsz, hby⟩ := hs.inf
  have hp := sl_part (l := i.toNat) (h := j.toNat) (m := c) hl (by omega) (by omega) (by omega) (Nat.le_refl _)
  refine opw_val (fun ev he => ?_) (k _ hp)
  have hb : (Instr.sliceBound (.int kd' j) c .sliceAcap).run P w = .ok j.toNat w := by
    have : j ≤ c := by omega
    have : 0 ≤ j := by omega
    simp [Instr.sliceBound, asIntOf, *]
  have hb2 : (Instr.sliceBound (.int kd i) j.toNat .sliceB).run P w = .ok i.toNat w := by
    have : i ≤ (j.toNat : Int) := by omega
    simp only [Instr.sliceBound, asIntOf, Sem.run_bind, Sem.run_pure, Result.andThen_ok, if_pos (And.intro h0 this)]
  simp [execOp, he x _ hx, he y _ hy, he z _ hz, Instr.sliceAt, Instr.slice, run_underlying hs.und, Instr.sliceBounds, hb, hb2, sizeOf, typeInfo, hinf, hsz]
theorem s_lookupB {κ : Type} [DecidableEq κ] {ek : κ → Value} {t kt et g : Nat} {a : κ} {m : List (κ × Bool)} (ht : MapF P t kt et) (hk : KeyF P kt ek) (hx : opv ρ x = some (.map (some g))) (hy : opv ρ y = some (ek a)) (hm : IsMap ek Value.bool w g m) (hz : ((P.info? et).bind (·.zero)) = some (.bool false))
    (k : C (.bool ((mget m a).getD false)) w) : OpW P ⟨some d, .lookup t x y false, ty, pos, after, gd⟩ n D ρ w C :=
  s_lookup ht hk hx hy hm hz (by cases h : mget m a <;> simpa [h] using k)

/-- A literal slice of no elements: a row of the call's own. -/
theorem s_bslice0 {t e by_ base : Nat} {zv : Value} (hs : SlF P t e K.sz by_ zv) (hbase : base ≤ w.heap.size) (hF : ∀ k, F k → k < w.heap.size)
    (k : ∀ v w', Own K e base w' F v [] → w.grownBy w' none → C v w') : OpW P ⟨some d, .buildSlice t 0 #[], ty, pos, after, gd⟩ n D ρ w C := by
  obtain ⟨inf, hinf, hzero, hsz, hby⟩ := hs.inf
  refine opw_val (v := .slice (some ⟨w.heap.size, 0, none⟩) 0 0) (w' := w.alloc (.cells #[] e)) (fun ev he => ?_) (k _ _ ⟨⟨[], rfl, fun i u x hu => by simp at hu, ⟨by simp, .inr ⟨_, 0, #[], rfl, hbase, heap_alloc_new w _, Nat.le_refl _, by simp [maxLen], by simp, by simp⟩⟩⟩, ?_⟩ (grown_alloc _ _))
  · simp [execOp, Instr.buildSlice, run_underlying hs.und, sizeOf, typeInfo, hinf, Instr.fill, newRow]
    rw [show (Array.map (fun _ => (default : Value)) (Array.range 0)) = #[] from Array.eq_empty_of_size_eq_zero (by simp)]
  · intro g hg'
    simp [Value.ownBlock] at hg'
    subst hg'
    intro hf
    exact absurd (hF _ hf) (by omega)
theorem flatten_cut {sz : Nat} (us : List (List Value)) (hl : ∀ u ∈ us, u.length = sz) (i : Nat) (u : List Value) (h : us[i]? = some u) : (us.flatten.drop (i * sz)).take u.length = u := by
  have hu := hl u (List.mem_of_getElem? h)
  apply List.ext_getElem?
  intro j
  rw [List.getElem?_take]
  split
  · rename_i hj
    rw [List.getElem?_drop]
    exact flatten_get us hl i j u h (by omega)
  · rename_i hj
    rw [List.getElem?_eq_none (by omega)]
/-- A literal slice, as one that is read. -/
theorem sl_lit {g t m : Nat} {us : List (List Value)} (h : Blk w g t us.flatten.toArray) (hl : us.length = xs.length) (hsz : ∀ u ∈ us, u.length = K.sz) (hF : ¬ F g) (hm : m = xs.length) (h63 : m ≤ 9223372036854775807)
    (hr : ∀ (i : Nat) (u : List Value) (x : α), us[i]? = some u → xs[i]? = some x → K.rep w F u x) : Sl K w F (.slice (some ⟨g, 0, none⟩) m m) xs := by
  subst hm
  refine ⟨_, xs.length, rfl, Nat.le_refl _, by simp only [maxLen]; omega, fun i x hi => ?_⟩
  have hil : i < us.length := by rw [hl]; exact (List.getElem?_eq_some_iff.1 hi).1
  have hu : us[i]? = some us[i] := by rw [List.getElem?_eq_getElem hil]
  exact ⟨g, 0, us[i], rfl, h.lt, hF, hr i _ x hu hi, range_sub (i * K.sz) h.range (flatten_cut us hsz i _ hu)⟩
end
end Go.Gw
