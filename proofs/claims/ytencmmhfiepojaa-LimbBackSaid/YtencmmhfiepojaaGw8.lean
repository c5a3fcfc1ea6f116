/- Part of the proof that is named in YtencmmhfiepojaaLRowBack: a library for walks, or a function's walk. -/
import Derived.Test.YtencmmhfiepojaaGw7
import Derived.Laws.StructEq
set_option linter.unusedSimpArgs false
set_option linter.unusedVariables false
namespace Go.Gw
open Go.RowKit

section
variable {P : Program} {ops : Array Oper} {Q : Exit → Act → World → Prop} {rest : List Oper} {n : Nat} {D : List Deferred} {ρ : Env} {w : World}
variable {d ty : Nat} {pos : String} {after : Array Edge} {gd : Option (Nat × Bool)} {C : Value → World → Prop} {x y : Operand}

theorem s_nilp {a : Addr} (hx : opv ρ x = some (.pointer (some a))) (k : C (.pointer (some a)) w) : OpW P ⟨some d, .nilCheck x, ty, pos, after, gd⟩ n D ρ w C :=
  opw_val (fun e he => by simp [execOp, he x _ hx]) k
theorem s_func {fn : Fn} {fs cs : List Operand} {vs us : List Value} (hf : opvs ρ fs = some vs) (hc : opvs ρ cs = some us) (k : C (.func fn vs.toArray us.toArray) w) :
    OpW P ⟨some d, .makeFunc fn fs.toArray cs.toArray, ty, pos, after, gd⟩ n D ρ w C := by
  intro a hF Q
  unfold Oper.wp
  have h1 := hF.evals hf
  have h2 := hF.evals hc
  have : (execOp a.eval ⟨some d, .makeFunc fn fs.toArray cs.toArray, ty, pos, after, gd⟩).run P w = .ok (.value (.func fn vs.toArray us.toArray)) w := by
    simp [execOp, Instr.makeFunc, h1, h2]
  rw [this, Oper.upon_value]
  exact ⟨_, rfl, k⟩
/-- A call of a function value: what it captured stands behind the arguments. -/
theorem s_callc {f t : Nat} {args : List Operand} {ats : Array TypeId} {vs first caps : List Value} {R : Value → World → Prop} (hf : FunF P f) (hfv : look ρ t = some (.func (.func f) first.toArray caps.toArray)) (ha : opvs ρ args = some vs)
    (hc : Calls P f (first ++ vs ++ caps).toArray w (fun e w' => ∃ v, e = .returned v ∧ R v w')) (k : ∀ v w', R v w' → C v w') :
    OpW P ⟨some d, .call { callee := .value (.tmp t), args := args.toArray, argTypes := ats }, ty, pos, after, gd⟩ n D ρ w C := by
  intro a hF Q
  unfold Oper.wp
  have hev : a.eval (.tmp t) = .func (.func f) first.toArray caps.toArray := hF.eval (x := .tmp t) hfv
  have he : (execOp a.eval ⟨some d, .call { callee := .value (.tmp t), args := args.toArray, argTypes := ats }, ty, pos, after, gd⟩).run P w = .ok (.enter f (first ++ vs ++ caps).toArray) w := by
    have hv : args.map a.eval = vs := hF.evals ha
    simp [execOp, resolve, hev, Deferred.ofValue, invoke, hv, run_callFunc_go hf]
  rw [he, Oper.upon_enter]
  refine hc.mono ?_
  rintro e w' ⟨v, rfl, hR⟩
  exact ⟨v, rfl, k v w' hR⟩
/-- arr[:] of an array that lies in memory: a slice of its cells. -/
theorem s_arrsl {t m e sz b o : Nat} (ht : ArrF P t m e sz) (hx : opv ρ x = some (.pointer (some ⟨b, o, none⟩))) (k : C (.slice (some ⟨b, o, none⟩) m m) w) :
    OpW P ⟨some d, .slice t x none none none, ty, pos, after, gd⟩ n D ρ w C := by
  obtain ⟨j, hj, hs⟩ : ∃ j, P.info? e = some j ∧ j.size = sz := by
    have := ht.is
    cases hi : P.info? e with
    | none => simp [hi] at this
    | some j => exact ⟨j, rfl, by simpa [hi] using this⟩
  refine opw_val (fun ev he => ?_) k
  simp [execOp, he x _ hx, Instr.sliceAt, run_underlying ht.und, Instr.sureAddr, Instr.sliceBounds, sizeOf, typeInfo, hj]
  intro _; rfl
theorem s_iaddr {t m e sz b o : Nat} {kd : IntKind} {i : Int} (ht : ArrF P t m e sz) (hx : opv ρ x = some (.pointer (some ⟨b, o, none⟩))) (hy : opv ρ y = some (.int kd i)) (h0 : 0 ≤ i) (h1 : i < m)
    (k : C (.pointer (some ⟨b, o + i.toNat * sz, none⟩)) w) : OpW P ⟨some d, .indexAddr t x y, ty, pos, after, gd⟩ n D ρ w C := by
  obtain ⟨j, hj, hs⟩ : ∃ j, P.info? e = some j ∧ j.size = sz := by
    have := ht.is
    cases hi : P.info? e with
    | none => simp [hi] at this
    | some j => exact ⟨j, rfl, by simpa [hi] using this⟩
  refine opw_val (fun ev he => ?_) k
  simp [execOp, he x _ hx, he y _ hy, Instr.indexAt, asIntOf, run_underlying ht.und, Instr.sureAddr, h0, h1, sizeOf, typeInfo, hj, hs, Addr.add_mid]
/-- The cells of a block, as a slice that is read. -/
theorem sl_of_range {α : Type} {K : Kd α} {w : World} {F : Nat → Prop} {b o m : Nat} {us : List Value} (hk : K.sz = 1) {xs : List α} (hr : w.rangeAt b o us) (hl : us.length = xs.length) (hm : m = xs.length) (hF : ¬ F b) (hb : b < w.heap.size) (h63 : m ≤ 9223372036854775807)
    (hx : ∀ (i : Nat) (u : Value) (x : α), us[i]? = some u → xs[i]? = some x → K.rep w F [u] x) : Sl K w F (.slice (some ⟨b, o, none⟩) m m) xs := by
  subst hm
  refine ⟨_, xs.length, rfl, Nat.le_refl _, by simp only [maxLen]; omega, fun i x hi => ?_⟩
  have hil : i < us.length := by rw [hl]; exact (List.getElem?_eq_some_iff.1 hi).1
  refine ⟨b, o, [us[i]], rfl, hb, hF, hx i _ x (List.getElem?_eq_getElem hil) hi, ?_⟩
  intro j v hv
  have hj : j = 0 := by
    have := (List.getElem?_eq_some_iff.1 hv).1
    simp at this; exact this
  subst hj
  simp at hv
  subst hv
  have := hr i us[i] (List.getElem?_eq_getElem hil)
  rw [hk, Nat.mul_one]; exact this
/-- A place in a row of the call's own. -/
theorem s_oidx {α : Type} {K : Kd α} {t e by_ base : Nat} {z v : Value} {F : Nat → Prop} {xs : List α} {kd : IntKind} {i : Int} (hs : SlF P t e K.sz by_ z) (hx : opv ρ x = some v) (hy : opv ρ y = some (.int kd i)) (ho : Own K e base w F v xs) (h0 : 0 ≤ i) (h1 : i < xs.length)
    (k : ∀ g, v.ownBlock = some g → base ≤ g → g < w.heap.size → C (.pointer (some ⟨g, i.toNat * K.sz, none⟩)) w) : OpW P ⟨some d, .indexAddr t x y, ty, pos, after, gd⟩ n D ρ w C := by
  obtain ⟨us, hl, hr, hown⟩ := ho.out
  rcases hown.2 with ⟨rfl, hz⟩ | ⟨g, cap, cur, rfl, hb, hg, _⟩
  · omega
  · obtain ⟨inf, hinf, _, hsz, _⟩ := hs.inf
    refine opw_val (fun ev he => ?_) (k g rfl hb (Array.getElem?_eq_some_iff.1 hg).1)
    simp [execOp, Instr.indexAt, asIntOf, run_underlying hs.und, he x _ hx, he y _ hy, h0, h1, sizeOf, typeInfo, hinf, hsz, Addr.add_mid]
theorem set_flatten {us : List (List Value)} (h : ∀ u ∈ us, u.length = 1) : ∀ (i : Nat) (u : Value), us.flatten.set i u = (us.set i [u]).flatten := by
  induction us with
  | nil => intro i u; simp
  | cons a r ih =>
    intro i u
    obtain ⟨c, rfl⟩ : ∃ c, a = [c] := List.length_eq_one_iff.1 (h a (by simp))
    cases i with
    | zero => simp
    | succ i => simp [ih (fun u hu => h u (by simp [hu])) i u]
/-- A store into such a place, elements of one cell. -/
theorem s_ostore {α : Type} {K : Kd α} {t e base g : Nat} {v u₀ : Value} {F : Nat → Prop} {xs : List α} {x0 : α} {i : Int} (ht : OneF P t) (hk : K.sz = 1) (hx : opv ρ x = some (.pointer (some ⟨g, i.toNat * K.sz, none⟩))) (hy : opv ρ y = some u₀) (h1 : u₀.oneCell' = true)
    (ho : Own K e base w F v xs) (hg : v.ownBlock = some g) (h0 : 0 ≤ i) (hlt : i < xs.length) (hrep : K.rep w (Out F v) [u₀] x0)
    (k : ∀ w', Own K e base w' F v (xs.set i.toNat x0) → w.grownBy w' (some g) → w'.heap.size = w.heap.size → C undef w') : OpW P ⟨none, .store t x y, ty, pos, after, gd⟩ n D ρ w C := by
  obtain ⟨us, hl, hr, hown⟩ := ho.out
  have hall : ∀ u ∈ us, u.length = 1 := by
    intro u hu
    obtain ⟨j, hj, rfl⟩ := List.getElem_of_mem hu
    rw [K.len (hr j _ (xs[j]'(by omega)) (List.getElem?_eq_getElem hj) (List.getElem?_eq_getElem (by omega))), hk]
  rw [hk, Nat.mul_one] at hx
  obtain ⟨dd, hu, _, hs⟩ := ht.out
  obtain ⟨cap, hv⟩ : ∃ cap, v = .slice (some ⟨g, 0, none⟩) xs.length cap := by
    rcases hown.2 with ⟨rfl, hz⟩ | ⟨g', cap, cur, rfl, _⟩
    · simp [Value.ownBlock] at hg
    · simp [Value.ownBlock] at hg; subst hg; exact ⟨cap, rfl⟩
  subst hv
  obtain ⟨hst, hgr⟩ := hown.stored i.toNat u₀
  have hfl := flatten_len us hall
  have hc : w.cell? ⟨g, i.toNat, none⟩ = some (us.flatten[i.toNat]'(by omega)) := by
    rw [hown.cellAt i.toNat (by rw [hk]; omega)]
    exact List.getElem?_eq_getElem (by omega)
  have hfr := hown.frozenAt i.toNat
  refine opw_unit (w' := w.setCell ⟨g, i.toNat, none⟩ u₀) (fun ev he => ?_) (k _ ⟨⟨us.set i.toNat [u₀], by simp [hl], fun j u' x' hu' hx' => ?_, ?_⟩, ho.no⟩ hgr (by simp [World.setCell]))
  · have hcells : u₀.cells = #[u₀] := by cases u₀ <;> simp [Value.oneCell'] at h1 <;> rfl
    cases hq : P.info? t with
    | none => simp [hq] at hs
    | some j =>
      have hsz : j.size = 1 := by simpa [hq] using hs
      have hst' : (store ⟨g, i.toNat, none⟩ u₀).run P w = .ok () (w.setCell ⟨g, i.toNat, none⟩ u₀) := by
        rw [run_store P w _ u₀ _ (by cases u₀ <;> simp [Value.oneCell'] at h1 <;> rfl)]
        simp [stored, hc, hfr]
      have h2 : (storeVar t ⟨g, i.toNat, none⟩ u₀).run P w = .ok () (w.setCell ⟨g, i.toNat, none⟩ u₀) := by
        simp [storeVar, sizeOf, typeInfo, hq, hsz, hcells, storeCells, Addr.add_mid, hst']
      simp [execOp, Instr.storeAt, Instr.sureAddr, he x _ hx, he y _ hy, h2]
  · have hkeep : ∀ (u : List Value) (x : α), K.rep w (Out F (.slice (some ⟨g, 0, none⟩) xs.length cap)) u x → K.rep (w.setCell ⟨g, i.toNat, none⟩ u₀) (Out F (.slice (some ⟨g, 0, none⟩) xs.length cap)) u x := fun u x h => K.keep h fun k hk hn => hgr.block k hk fun e => hn (.inr (by injection e with e; rw [e]; rfl))
    rw [List.getElem?_set] at hu' hx'
    by_cases e : i.toNat = j
    · subst e
      rw [if_pos rfl] at hu' hx'
      rw [if_pos (by omega)] at hu' hx'
      cases hu'; cases hx'
      exact hkeep _ _ hrep
    · rw [if_neg e] at hu' hx'
      exact hkeep _ _ (hr j u' x' hu' hx')
  · rw [← set_flatten hall, List.length_set]
    have := hst
    exact this
end
end Go.Gw
namespace Go.Gw
open Go.RowKit
theorem range_sub {w : World} {b o : Nat} {cs us : List Value} (j : Nat) (h : w.rangeAt b o cs) (hj : (cs.drop j).take us.length = us) : w.rangeAt b (o + j) us := by
  intro i v hv
  rw [Nat.add_assoc]
  refine h (j + i) v ?_
  rw [← hj, List.getElem?_take] at hv
  split at hv
  · rw [List.getElem?_drop] at hv; exact hv
  · cases hv
/-- Numbers, whatever their range. -/
def Kd.num (k : IntKind) : Kd Int := Kd.flat 1 (fun x => [.int k x]) (fun _ => True) (fun _ => rfl)
theorem num_flat (k : IntKind) : (Kd.num k).Flat := Kd.flat_flat _ _ _ _
theorem bool_flat : Kd.bool.Flat := Kd.flat_flat _ _ _ _
theorem num_ones (k : IntKind) : (Kd.num k).Ones := by rintro _ _ _ _ ⟨rfl, _⟩ c hc; simp at hc; subst hc; rfl
theorem bool_ones : Kd.bool.Ones := by rintro _ _ _ _ ⟨rfl, _⟩ c hc; simp at hc; subst hc; rfl
theorem num_reps {k : IntKind} {w : World} {F : Nat → Prop} {xs : List Int} : ∀ (i : Nat) (u : Value) (x : Int), (xs.map fun x => Value.int k x)[i]? = some u → xs[i]? = some x → (Kd.num k).rep w F [u] x := by
  intro i u x hu hx
  rw [List.getElem?_map, hx] at hu
  simp at hu
  exact ⟨by rw [← hu], trivial⟩
end Go.Gw
namespace Go.Gw
section
variable {P : Program} {ops : Array Oper} {Q : Exit → Act → World → Prop} {rest : List Oper} {n : Nat} {D : List Deferred} {ρ : Env} {w : World}
theorem s_passU {o : Op} {d : Nat} {ty : Nat} {pos : String} {after : Array Edge} {j t : Nat} {c : Bool} (hj : (ops[j]?).bind (·.dst) = some t) (hb : look ρ t = some undef)
    (k : Reg P ops Q rest n D ((d, undef) :: ρ) w) (hd : Nat.blt d n = true := by rfl) : Reg P ops Q (⟨some d, o, ty, pos, after, some (j, c)⟩ :: rest) n D ρ w := by
  intro a ha
  have h1 := k _ (ha.put undef hd)
  unfold wpList
  have hw : Region.wanted ⟨some d, o, ty, pos, after, some (j, c)⟩ (yielded ops a.tmps) = false := by
    simp [Region.wanted, yielded, hj, ha.slot _ _ hb, undef]
  rw [if_neg (by rw [hw]; simp)]
  exact h1
theorem op1u {C : Value → World → Prop} {op : Op} {dst : Option Nat} {ty : Nat} {pos : String} {after : Array Edge} {j t : Nat} {c : Bool} (h : C undef w) (hj : (ops[j]?).bind (·.dst) = some t := by rfl) (hb : look ρ t = some undef := by rfl) : Op1 P ops ⟨dst, op, ty, pos, after, some (j, c)⟩ n D ρ w C := by
  intro a ha
  have hw : Region.wanted ⟨dst, op, ty, pos, after, some (j, c)⟩ (yielded ops a.tmps) = false := by
    simp [Region.wanted, yielded, hj, ha.slot _ _ hb, undef]
  rw [if_neg (by rw [hw]; simp)]
  exact h
end
end Go.Gw
namespace Go.Gw
open Go.RowKit
theorem Own.blk_ne {α : Type} {K : Kd α} {e base : Nat} {w : World} {F : Nat → Prop} {v : Value} {xs : List α} {t g g' : Nat} {cs : Array Value} (h : Own K e base w F v xs) (hb : Blk w g' t cs) (hne : e ≠ t) (hg : v.ownBlock = some g) : g' ≠ g := by
  rintro rfl
  rcases h.ne_blk hb hne with h1 | h1
  · rw [h1] at hg; cases hg
  · exact h1 hg
theorem Own.ge {α : Type} {K : Kd α} {e base : Nat} {w : World} {F : Nat → Prop} {v : Value} {xs : List α} (h : Own K e base w F v xs) {g : Nat} (hg : v.ownBlock = some g) : base ≤ g := (h.lt g hg).1
end Go.Gw
namespace Go.Gw
open Go.RowKit
theorem s_load4 {P : Program} {n : Nat} {D : List Deferred} {ρ : Env} {w : World} {d ty : Nat} {pos : String} {after : Array Edge} {gd : Option (Nat × Bool)} {C : Value → World → Prop} {x : Operand}
    {t b o o0 j : Nat} {cs : List Value} {k : IntKind} {a b' c d' i : Int} (ht : OneF P t) (hx : opv ρ x = some (.pointer (some ⟨b, o0 + i.toNat * 1, none⟩))) (hc : w.rangeAt b o cs) (j' : j = j)
    (hj : (cs.drop j).take 4 = [.int k a, .int k b', .int k c, .int k d']) (h0 : 0 ≤ i) (h1 : i < 4)
    (h : C (.int k (sel4 a b' c d' i)) w) (ho : o0 = o + j := by rfl) : OpW P ⟨some d, .load t x, ty, pos, after, gd⟩ n D ρ w C := by
  subst ho
  have hr := range_sub (us := [Value.int k a, Value.int k b', Value.int k c, Value.int k d']) j hc hj
  have hcell : w.cell? ⟨b, o + j + i.toNat * 1, none⟩ = some (.int k (sel4 a b' c d' i)) := by
    have : i = 0 ∨ i = 1 ∨ i = 2 ∨ i = 3 := by omega
    rcases this with rfl | rfl | rfl | rfl
    · exact hr 0 _ rfl
    · exact hr 1 _ rfl
    · exact hr 2 _ rfl
    · exact hr 3 _ rfl
  have hcell' := hcell
  rw [Nat.mul_one] at hcell'
  obtain ⟨dd, hu, hrow, hs⟩ := ht.out
  exact opw_val (fun e he => by
    have hagg : (isAgg t).run P w = .ok false w := by
      unfold isAgg; rw [Sem.run_bind, run_underlying hu w]; cases dd <;> simp_all
    simp [execOp, Instr.loadAt, Instr.sureAddr, he x _ hx, loadVar, Sem.run_bind, hagg, hcell', run_load]) h
end Go.Gw
