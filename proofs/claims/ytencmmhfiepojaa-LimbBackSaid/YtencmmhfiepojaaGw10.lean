/- Part of the proof that is named in YtencmmhfiepojaaLRowBack: a library for walks, or a function's walk. -/
import Derived.Test.YtencmmhfiepojaaGw9
set_option linter.unusedSimpArgs false
set_option linter.unusedVariables false
namespace Go.Gw
open Go.RowKit
def fnd {κ ν : Type} [DecidableEq κ] (a : κ) : List (κ × ν) → Nat → Option (Nat × ν)
  | [], _ => none
  | (k, v) :: r, i => if a = k then some (i, v) else fnd a r (i + 1)
/-- What a map answers. -/
def mget {κ ν : Type} [DecidableEq κ] (m : List (κ × ν)) (a : κ) : Option ν := (fnd a m 0).map (·.2)
def mput {κ ν : Type} [DecidableEq κ] (m : List (κ × ν)) (a : κ) (v : ν) : List (κ × ν) := match fnd a m 0 with
  | some (i, _) => m.set i (a, v)
  | none => m ++ [(a, v)]
def IsMap {κ ν : Type} (ek : κ → Value) (ev : ν → Value) (w : World) (g : Nat) (m : List (κ × ν)) : Prop :=
  ∃ es clock, w.heap[g]? = some (.map es clock) ∧ es.toList.map (fun e => (e.key, e.val)) = m.map fun p => (ek p.1, ev p.2)
structure KeyF {κ : Type} [DecidableEq κ] (P : Program) (kt : Nat) (ek : κ → Value) : Prop where
  chk : ∀ em a w, (Instr.checkKey em 10000 kt (ek a)).run P w = .ok () w
  stays : ∀ a w, (Instr.keyThatStays (ek a) (ek a)).run P w = .ok (ek a) w
  find : ∀ {ν : Type} (ev : ν → Value) (m : List (κ × ν)) (es : List MapEntry), es.map (fun e => (e.key, e.val)) = m.map (fun p => (ek p.1, ev p.2)) → ∀ a w, (Instr.findKey kt (ek a) es).run P w = .ok ((fnd a m 0).map fun p => (p.1, ev p.2)) w
structure MapF (P : Program) (t kt et : Nat) : Prop where
  und : P.underlying t = some (.map kt et)
section
variable {κ ν : Type} {ek : κ → Value} {ev : ν → Value} {w w' : World} {g : Nat} {m : List (κ × ν)}
theorem IsMap.lt (h : IsMap ek ev w g m) : g < w.heap.size := by
  obtain ⟨es, clock, hg, _⟩ := h
  exact (Array.getElem?_eq_some_iff.1 hg).1
theorem IsMap.kept {row : Option Nat} (h : IsMap ek ev w g m) (hg : w.grownBy w' row) (hne : some g ≠ row) : IsMap ek ev w' g m := by
  obtain ⟨es, clock, hh, he⟩ := h
  exact ⟨es, clock, (hg.block g (Array.getElem?_eq_some_iff.1 hh).1 hne).trans hh, he⟩
theorem IsMap.g0 (h : IsMap ek ev w g m) (hg : w.grownBy w' none) : IsMap ek ev w' g m := h.kept hg (by simp)
theorem IsMap.ne_blk {g' t : Nat} {cs : Array Value} (h : IsMap ek ev w g m) (hb : Blk w g' t cs) : g ≠ g' := by
  rintro rfl
  obtain ⟨es, clock, hh, _⟩ := h
  unfold Blk at hb
  rw [hh] at hb; cases hb
theorem IsMap.ne_own {α : Type} {K : Kd α} {e base : Nat} {F : Nat → Prop} {v : Value} {xs : List α} (h : IsMap ek ev w g m) (ho : Own K e base w F v xs) : v.ownBlock = none ∨ v.ownBlock ≠ some g := by
  obtain ⟨us, hl, hr, hown⟩ := ho.out
  obtain ⟨es, clock, hh, _⟩ := h
  rcases hown.2 with ⟨rfl, h0⟩ | ⟨g', cap, cur, rfl, _, hg, _⟩
  · exact .inl rfl
  · refine .inr fun he => ?_
    have : g' = g := by simpa [Value.ownBlock] using he
    subst this
    rw [hh] at hg; cases hg
end
section
variable {P : Program} {ops : Array Oper} {Q : Exit → Act → World → Prop} {rest : List Oper} {n : Nat} {D : List Deferred} {ρ : Env} {w : World}
variable {d ty : Nat} {pos : String} {after : Array Edge} {gd : Option (Nat × Bool)} {C : Value → World → Prop} {x y z : Operand}
variable {κ ν : Type} {ek : κ → Value} {ev : ν → Value} {g : Nat} {m : List (κ × ν)}
theorem s_makemap {t : Nat} (ek : κ → Value) (ev : ν → Value) (k : ∀ g w', w.heap.size = g → IsMap ek ev w' g [] → w.grownBy w' none → w'.heap.size = g + 1 → C (.map (some g)) w') : OpW P ⟨some d, .makeMap t none, ty, pos, after, gd⟩ n D ρ w C := by
  refine opw_val (v := .map (some w.heap.size)) (w' := w.alloc (.map #[] 0)) (fun e he => ?_) (k _ _ rfl ⟨#[], 0, heap_alloc_new w _, rfl⟩ (grown_alloc _ _) (by simp))
  simp [execOp, Instr.makeMap]
variable [DecidableEq κ]
theorem run_getMap {es : Array MapEntry} {clock : Nat} (h : w.heap[g]? = some (.map es clock)) : (getObj g).run P w = .ok (.map es clock) w := by
  simp [getObj, Sem.run, h]
theorem s_lookup {t kt et : Nat} {a : κ} {v0 : Value} (ht : MapF P t kt et) (hk : KeyF P kt ek) (hx : opv ρ x = some (.map (some g))) (hy : opv ρ y = some (ek a)) (hm : IsMap ek ev w g m) (hz : ((P.info? et).bind (·.zero)) = some v0)
    (k : C (((mget m a).map ev).getD v0) w) : OpW P ⟨some d, .lookup t x y false, ty, pos, after, gd⟩ n D ρ w C := by
  obtain ⟨es, clock, hg, he⟩ := hm
  have hf := hk.find ev m es.toList he a w
  have hzv : (zeroValue et).run P w = .ok v0 w := by
    cases hi : P.info? et with
    | none => simp [hi] at hz
    | some i => simp [hi] at hz; simp [zeroValue, typeInfo, hi, hz]
  refine opw_val (fun e hee => ?_) k
  unfold mget
  cases hfd : fnd a m 0 with
  | none => rw [hfd] at hf; simp at hf; simp [execOp, Instr.lookup, hee x _ hx, hee y _ hy, run_underlying ht.und, run_getMap hg, hk.chk, hf, hzv]
  | some p => rw [hfd] at hf; simp at hf; simp [execOp, Instr.lookup, hee x _ hx, hee y _ hy, run_underlying ht.und, run_getMap hg, hk.chk, hf]
theorem s_lookup2 {t kt et : Nat} {a : κ} {v0 : Value} (ht : MapF P t kt et) (hk : KeyF P kt ek) (hx : opv ρ x = some (.map (some g))) (hy : opv ρ y = some (ek a)) (hm : IsMap ek ev w g m) (hz : ((P.info? et).bind (·.zero)) = some v0)
    (k : C (.tuple #[((mget m a).map ev).getD v0, .bool (mget m a).isSome]) w) : OpW P ⟨some d, .lookup t x y true, ty, pos, after, gd⟩ n D ρ w C := by
  obtain ⟨es, clock, hg, he⟩ := hm
  have hf := hk.find ev m es.toList he a w
  have hzv : (zeroValue et).run P w = .ok v0 w := by
    cases hi : P.info? et with
    | none => simp [hi] at hz
    | some i => simp [hi] at hz; simp [zeroValue, typeInfo, hi, hz]
  refine opw_val (fun e hee => ?_) k
  unfold mget
  cases hfd : fnd a m 0 with
  | none => rw [hfd] at hf; simp at hf; simp [execOp, Instr.lookup, hee x _ hx, hee y _ hy, run_underlying ht.und, run_getMap hg, hk.chk, hf, hzv]
  | some p => rw [hfd] at hf; simp at hf; simp [execOp, Instr.lookup, hee x _ hx, hee y _ hy, run_underlying ht.und, run_getMap hg, hk.chk, hf]
theorem fnd_spec (a : κ) : ∀ (m : List (κ × ν)) (i j : Nat) (v : ν), fnd a m i = some (j, v) → i ≤ j ∧ m[j - i]? = some (a, v)
  | [], i, j, v, h => by simp [fnd] at h
  | (k, u) :: r, i, j, v, h => by
    unfold fnd at h
    split at h
    · rename_i e; subst e; simp at h; obtain ⟨rfl, rfl⟩ := h; simp
    · obtain ⟨h1, h2⟩ := fnd_spec a r (i + 1) j v h
      refine ⟨by omega, ?_⟩
      rw [show j - i = (j - (i + 1)) + 1 by omega]; simpa using h2
theorem s_mapput {t kt et : Nat} {a : κ} {v : ν} (ht : MapF P t kt et) (hk : KeyF P kt ek) (hx : opv ρ x = some (.map (some g))) (hy : opv ρ y = some (ek a)) (hz : opv ρ z = some (ev v)) (hm : IsMap ek ev w g m)
    (k : ∀ w', IsMap ek ev w' g (mput m a v) → w.grownBy w' (some g) → w'.heap.size = w.heap.size → C undef w') : OpW P ⟨none, .mapUpdate t x y z, ty, pos, after, gd⟩ n D ρ w C := by
  obtain ⟨es, clock, hg, he⟩ := hm
  have hf := hk.find ev m es.toList he a w
  have hset : ∀ o, (setObj g o).run P w = .ok () { w with heap := w.heap.setIfInBounds g o } := fun o => by simp [setObj, Sem.run, hg]
  have hlt := (Array.getElem?_eq_some_iff.1 hg).1
  have hgr : ∀ o, w.grownBy { w with heap := w.heap.setIfInBounds g o } (some g) := fun o => ⟨rfl, rfl, rfl, by simp, fun i hi hne => by
    simp only [Array.getElem?_setIfInBounds]; rw [if_neg (by intro e; subst e; exact hne rfl)]⟩
  cases hfd : fnd a m 0 with
  | none =>
    rw [hfd] at hf; simp at hf
    refine opw_unit (w' := { w with heap := w.heap.setIfInBounds g (.map (es.push { key := ek a, val := ev v, born := clock }) (clock + 1)) }) (fun e hee => ?_) (k _ ⟨es.push { key := ek a, val := ev v, born := clock }, clock + 1, by simp [hlt], ?_⟩ (hgr _) (by simp))
    · simp [execOp, Instr.mapUpdate, hee x _ hx, hee y _ hy, hee z _ hz, run_underlying ht.und, run_getMap hg, hk.chk, hf, hset]
    · unfold mput; rw [hfd]; simp [he]
  | some p =>
    obtain ⟨i, u⟩ := p
    rw [hfd] at hf; simp at hf
    obtain ⟨_, hi⟩ := fnd_spec a m 0 i u hfd
    simp only [Nat.sub_zero] at hi
    have hil : i < m.length := (List.getElem?_eq_some_iff.1 hi).1
    have hle : es.size = m.length := by have := congrArg List.length he; simpa using this
    have hie : i < es.size := by omega
    have hkey : es[i].key = ek a := by
      have h1 : (es.toList.map (fun e => (e.key, e.val)))[i]? = some (ek a, ev u) := by rw [he, List.getElem?_map, hi]; rfl
      rw [List.getElem?_map] at h1
      simp [hie] at h1
      exact h1.1
    refine opw_unit (w' := { w with heap := w.heap.setIfInBounds g (.map (es.modify i fun e => { e with key := ek a, val := ev v }) clock) }) (fun e hee => ?_) (k _ ⟨es.modify i fun e => { e with key := ek a, val := ev v }, clock, by simp [hlt], ?_⟩ (hgr _) (by simp))
    · simp [execOp, Instr.mapUpdate, hee x _ hx, hee y _ hy, hee z _ hz, run_underlying ht.und, run_getMap hg, hk.chk, hf, hie, hkey, hk.stays, hset]
    · unfold mput; rw [hfd]
      apply List.ext_getElem?
      intro j
      have hj : (es.toList.map (fun e => (e.key, e.val)))[j]? = (m.map fun p => (ek p.1, ev p.2))[j]? := by rw [he]
      simp only [List.getElem?_map, Array.getElem?_toList] at hj ⊢
      rw [Array.getElem?_modify, List.getElem?_set]
      by_cases e : i = j
      · subst e; simp [hie, hil]
      · simp only [if_neg e]; exact hj
end
/-- Keys that are structs or arrays, compared one by one. -/
theorem find_asking {κ : Type} [DecidableEq κ] {P : Program} {kt : Nat} {ek : κ → Value} (heq : ∀ a b w, (Op.equal kt (ek a) (ek b)).run P w = .ok (decide (a = b)) w) {ν : Type} (ev : ν → Value) : ∀ (m : List (κ × ν)) (es : List MapEntry), es.map (fun e => (e.key, e.val)) = m.map (fun p => (ek p.1, ev p.2)) → ∀ a w i, (Instr.findAsking kt (ek a) es i).run P w = .ok ((fnd a m i).map fun p => (p.1, ev p.2)) w
  | [], es, h, a, w, i => by
    have : es = [] := by simpa using h
    subst this; simp [Instr.findAsking, fnd]
  | (k, v) :: r, es, h, a, w, i => by
    cases es with
    | nil => simp at h
    | cons e es =>
      simp at h
      obtain ⟨⟨hk, hv⟩, hr⟩ := h
      simp only [Instr.findAsking, Sem.run_bind, hk, heq, Result.andThen_ok, fnd]
      by_cases e' : a = k
      · simp [e', hv]
      · simp only [e', decide_false, Bool.false_eq_true, if_false]
        exact find_asking heq ev r es hr a w (i + 1)
theorem keyF_node {P : Program} {t ta ti : Nat} (h : NodeF P t ta ti) {κ : Type} [DecidableEq κ] (f : κ → Int × Int × Int × Int × Int) (hf : ∀ a b, f a = f b → a = b) : KeyF P t (fun a : κ => .agg (nodeA (f a).1 (f a).2.1 (f a).2.2.1 (f a).2.2.2.1 (f a).2.2.2.2)) := by
  have heq : ∀ a b w, (Op.equal t (.agg (nodeA (f a).1 (f a).2.1 (f a).2.2.1 (f a).2.2.2.1 (f a).2.2.2.2)) (.agg (nodeA (f b).1 (f b).2.1 (f b).2.2.1 (f b).2.2.2.1 (f b).2.2.2.2))).run P w = .ok (decide (a = b)) w := fun a b w => by
    rw [Op.equal, show Op.maxDepth = 9997 + 3 from rfl, run_eq_node h]
    congr 1
    rw [decide_eq_decide]
    constructor
    · rintro ⟨h1, h2, h3, h4, h5⟩
      exact hf a b (Prod.ext h1 (Prod.ext h2 (Prod.ext h3 (Prod.ext h4 h5))))
    · rintro rfl; exact ⟨rfl, rfl, rfl, rfl, rfl⟩
  obtain ⟨f0, f1, hu, _⟩ := h.fs
  refine ⟨fun em a w => run_check_node h em 9997 _ _ _ _ _ w, fun a w => ?_, fun ev m es he a w => ?_⟩
  · simp [Instr.keyThatStays, Instr.sameBits, nodeA]
  · have hfa := find_asking heq ev m es he a w 0
    simp only [Instr.findKey, Sem.run_bind, run_underlying hu, Result.andThen_ok]
    cases es with
    | nil =>
      have : m = [] := by simpa using he.symm
      subst this; simp [Instr.findNow, fnd]
    | cons e es =>
      have : Instr.findNow (.struct #[f0, f1]) (.agg (nodeA (f a).1 (f a).2.1 (f a).2.2.1 (f a).2.2.2.1 (f a).2.2.2.2)) (e :: es) 0 = none := by
        simp [Instr.findNow, Instr.sameNow]
      rw [this]
      exact hfa
theorem keyF_int {P : Program} {t : Nat} (h : P.underlying t = some (.int .i64)) : KeyF P t (fun a : Int => .int .i64 a) := by
  refine ⟨fun em a w => run_check_int h em 9999 a w, fun a w => by simp [Instr.keyThatStays, Instr.sameBits], fun ev m es he a w => ?_⟩
  have : ∀ (m : List (Int × _)) (es : List MapEntry) (i : Nat), es.map (fun e => (e.key, e.val)) = m.map (fun p => (Value.int .i64 p.1, ev p.2)) → Instr.findNow (.int .i64) (.int .i64 a) es i = some ((fnd a m i).map fun p => (p.1, ev p.2)) := by
    intro m
    induction m with
    | nil => intro es i he; have : es = [] := by simpa using he
             subst this; simp [Instr.findNow, fnd]
    | cons p r ih =>
      intro es i he
      cases es with
      | nil => simp at he
      | cons e es =>
        obtain ⟨k, v⟩ := p
        simp at he
        obtain ⟨⟨hk, hv⟩, hr⟩ := he
        unfold Instr.findNow fnd
        rw [hk]
        by_cases e' : a = k
        · simp [Instr.sameNow, e', hv]
        · have e2 : (a == k) = false := by simpa using e'
          simp [Instr.sameNow, e', e2, ih es (i + 1) hr]
  simp only [Instr.findKey, Sem.run_bind, run_underlying h, Result.andThen_ok, this m es 0 he]
  simp
end Go.Gw
