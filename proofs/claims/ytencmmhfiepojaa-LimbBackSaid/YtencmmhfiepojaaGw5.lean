/- Part of the proof that is named in YtencmmhfiepojaaLRowBack: a library for walks, or a function's walk. -/
import Derived.Test.YtencmmhfiepojaaGw4
set_option linter.unusedSimpArgs false
set_option linter.unusedVariables false
namespace Go.Gw
open Go.RowKit

/-! ### A region that draws its order: each operation once, whatever ran before it -/
abbrev Spec := List (Option Nat × (Value → World → Prop))
def depV (sp : Spec) : List Nat → Env → World → (Env → Prop) → Prop
  | [], ρ, _, K => K ρ
  | j :: r, ρ, w, K => match sp[j]? with
    | some (some d, φ) => ∀ v, φ v w → depV sp r ((d, v) :: ρ) w K
    | _ => depV sp r ρ w K
def AllV : Spec → Env → World → (Env → Prop) → Prop
  | [], ρ, _, K => K ρ
  | (some d, φ) :: r, ρ, w, K => ∀ v, φ v w → AllV r ((d, v) :: ρ) w K
  | (none, _) :: r, ρ, w, K => AllV r ρ w K
def Op1 (P : Program) (ops : Array Oper) (o : Oper) (n : Nat) (D : List Deferred) (ρ : Env) (w : World) (C : Value → World → Prop) : Prop :=
  ∀ a, Fr n D ρ a → if Region.wanted o (yielded ops a.tmps) = true then ∀ Q, o.wp P a w (fun a' w' => ∃ v, a' = a.put o.dst v ∧ C v w') Q else C undef w
section
variable {P : Program} {ops : Array Oper} {o : Oper} {n : Nat} {D : List Deferred} {ρ : Env} {w : World} {C : Value → World → Prop}
theorem op1 {op : Op} {dst : Option Nat} {ty : Nat} {pos : String} {after : Array Edge} (h : OpW P ⟨dst, op, ty, pos, after, none⟩ n D ρ w C) : Op1 P ops ⟨dst, op, ty, pos, after, none⟩ n D ρ w C := by
  intro a ha
  rw [if_pos (by simp [Region.wanted])]
  exact h a ha
theorem op1g {op : Op} {dst : Option Nat} {ty : Nat} {pos : String} {after : Array Edge} {j t : Nat} {b : Bool} (h : OpW P ⟨dst, op, ty, pos, after, some (j, b)⟩ n D ρ w C) (hj : (ops[j]?).bind (·.dst) = some t := by rfl) (hb : look ρ t = some (.bool b) := by rfl) : Op1 P ops ⟨dst, op, ty, pos, after, some (j, b)⟩ n D ρ w C := by
  intro a ha
  rw [if_pos (by simp [Region.wanted, yielded, hj, ha.slot _ _ hb])]
  exact h a ha
theorem op1p {op : Op} {dst : Option Nat} {ty : Nat} {pos : String} {after : Array Edge} {j t : Nat} {b c : Bool} (h : C undef w) (hj : (ops[j]?).bind (·.dst) = some t := by rfl) (hb : look ρ t = some (.bool b) := by rfl) (hbc : Bool.xor b c = true := by rfl) : Op1 P ops ⟨dst, op, ty, pos, after, some (j, c)⟩ n D ρ w C := by
  intro a ha
  have hw : Region.wanted ⟨dst, op, ty, pos, after, some (j, c)⟩ (yielded ops a.tmps) = false := by
    simp [Region.wanted, yielded, hj, ha.slot _ _ hb]
    cases b <;> cases c <;> simp at hbc ⊢
  rw [if_neg (by rw [hw]; simp)]
  exact h
end
def StAll (R : World → World → Prop) : Spec → Prop
  | [] => True
  | (_, φ) :: r => (∀ v w w', φ v w → R w w' → φ v w') ∧ StAll R r
def ObsAll (P : Program) (ops : Array Oper) (n : Nat) (D : List Deferred) (ρ0 : Env) (w0 : World) (R : World → World → Prop) (sp : Spec) : List Oper → List (List Nat) → Spec → Prop
  | o :: os, d :: ds, (_, φ) :: r => (∀ w, R w0 w → depV sp d ρ0 w (fun ρ => Op1 P ops o n D ρ w (fun v w' => φ v w' ∧ R w w'))) ∧ ObsAll P ops n D ρ0 w0 R sp os ds r
  | _, _, [] => True
  | _, _, _ => False
def hasEdge (o : Oper) (j : Nat) : Bool := o.after.any fun e => Region.binds .any e && e.on == j
/-- What is asked of the region's shape. -/
def drawOk (l : List Oper) (m n : Nat) (keys : List Nat) (sd : List (Option Nat)) (ds : List (List Nat)) : Bool :=
  decide (m ≤ l.length) && decide (sd.length = m) && decide (ds.length = m) &&
  (List.range l.length).all (fun i => match l[i]? with
    | some o => o.after.all (fun e => !Region.binds .any e || decide (e.on < i)) &&
      (if i < m then (ds.getD i []).all (fun j => decide (j < m) && hasEdge o j) && (decide (sd.getD i none = o.dst)) && (match o.dst with | some d => decide (d < n) && !keys.contains d | none => true)
       else (List.range i).all (fun j => hasEdge o j))
    | none => false) &&
  (List.range m).all (fun i => (List.range m).all fun j => i == j || (match sd.getD i none, sd.getD j none with | some d, some e => d != e | _, _ => true))
def keysOf : Env → List Nat
  | [] => []
  | (t, _) :: r => t :: keysOf r
theorem look_of_keys {ρ : Env} {t : Nat} {v : Value} (h : look ρ t = some v) : t ∈ keysOf ρ := by
  induction ρ with
  | nil => simp [look] at h
  | cons p r ih =>
    obtain ⟨s, u⟩ := p
    rw [look_cons] at h
    unfold keysOf
    split at h
    · rename_i e; subst e; simp
    · exact List.mem_cons_of_mem _ (ih h)

section
variable {P : Program} {l : List Oper} {Q : Exit → Act → World → Prop} {n m : Nat} {D : List Deferred} {ρ0 : Env} {w0 : World} {R : World → World → Prop} {sp : Spec} {ds : List (List Nat)}

theorem ObsAll.at_ {ops : Array Oper} : ∀ {l' : List Oper} {ds' : List (List Nat)} {sp' : Spec}, ObsAll P ops n D ρ0 w0 R sp l' ds' sp' → ∀ {i : Nat} {dst : Option Nat} {φ : Value → World → Prop} {o : Oper}, sp'[i]? = some (dst, φ) → l'[i]? = some o →
    ∀ w, R w0 w → depV sp (ds'.getD i []) ρ0 w (fun ρ => Op1 P ops o n D ρ w (fun v w' => φ v w' ∧ R w w')) := by
  intro l' ds' sp' h
  induction sp' generalizing l' ds' with
  | nil => intro i dst φ o hs; simp at hs
  | cons p r ih =>
    intro i dst φ o hs hl
    obtain ⟨pd, pφ⟩ := p
    match l', ds', h with
    | o' :: os, d :: dd, h =>
      obtain ⟨h1, h2⟩ := h
      cases i with
      | zero => simp at hs hl; obtain ⟨rfl, rfl⟩ := hs; subst hl; exact h1
      | succ i => simp at hs hl; simpa using ih h2 hs hl
theorem StAll.at_ : ∀ {sp : Spec}, StAll R sp → ∀ {i : Nat} {dst : Option Nat} {φ : Value → World → Prop}, sp[i]? = some (dst, φ) → ∀ v w w', φ v w → R w w' → φ v w' := by
  intro sp h
  induction sp with
  | nil => intro i dst φ hs; simp at hs
  | cons p r ih =>
    intro i dst φ hs
    cases i with
    | zero => simp at hs; subst hs; exact h.1
    | succ i => simp at hs; exact ih h.2 hs

/-- The state in the middle of a drawn region: what has run holds its value. -/
structure Mid (n : Nat) (D : List Deferred) (ρ0 : Env) (w0 : World) (R : World → World → Prop) (sp : Spec) (m N : Nat) (listed : Array Bool) (vals : Nat → Value) (a : Act) (w : World) : Prop where
  fr : Fr n D ρ0 a
  wr : R w0 w
  size : listed.size = N
  tail : ∀ i, m ≤ i → listed.getD i false = false
  got : ∀ i dst φ, sp[i]? = some (dst, φ) → listed.getD i false = true → φ (vals i) w ∧ ∀ d, dst = some d → a.tmps[d]? = some (vals i)

theorem depV_inst {listed : Array Bool} {vals : Nat → Value} {a : Act} {w : World} {N : Nat} (hM : Mid n D ρ0 w0 R sp m N listed vals a w) : ∀ (d : List Nat) (ρ : Env) (K : Env → Prop), Fr n D ρ a → (∀ j ∈ d, listed.getD j false = true) →
    depV sp d ρ w K → ∃ ρ', Fr n D ρ' a ∧ K ρ'
  | [], ρ, K, hF, _, h => ⟨ρ, hF, h⟩
  | j :: r, ρ, K, hF, hl, h => by
    unfold depV at h
    split at h
    · rename_i d φ hs
      obtain ⟨h1, h2⟩ := hM.got j _ _ hs (hl j (by simp))
      refine depV_inst hM r _ K ⟨hF.defers, hF.size, fun t v hlk => ?_⟩ (fun i hi => hl i (by simp [hi])) (h _ h1)
      rw [look_cons] at hlk
      split at hlk
      · rename_i e; subst e; cases hlk; exact h2 _ rfl
      · exact hF.slot _ _ hlk
    · exact depV_inst hM r _ K hF (fun i hi => hl i (by simp [hi])) h
theorem allV_inst {w : World} (vals : Nat → Value) {a : Act} : ∀ (r : Spec) (k : Nat) (ρ : Env) (K : Env → Prop), Fr n D ρ a → (∀ i dst φ, r[i]? = some (dst, φ) → φ (vals (k + i)) w ∧ ∀ d, dst = some d → a.tmps[d]? = some (vals (k + i))) →
    AllV r ρ w K → ∃ ρ', Fr n D ρ' a ∧ K ρ'
  | [], k, ρ, K, hF, _, h => ⟨ρ, hF, h⟩
  | (some d, φ) :: r, k, ρ, K, hF, hg, h => by
    obtain ⟨h1, h2⟩ := hg 0 _ _ rfl
    refine allV_inst vals r (k + 1) _ K ⟨hF.defers, hF.size, fun t v hlk => ?_⟩ (fun i dst φ hs => by have := hg (i + 1) dst φ (by simpa using hs); rwa [show k + 1 + i = k + (i + 1) by omega]) (h _ h1)
    rw [look_cons] at hlk
    split at hlk
    · rename_i e; subst e; cases hlk; exact h2 _ rfl
    · exact hF.slot _ _ hlk
  | (none, φ) :: r, k, ρ, K, hF, hg, h => allV_inst vals r (k + 1) _ K hF (fun i dst φ hs => by have := hg (i + 1) dst φ (by simpa using hs); rwa [show k + 1 + i = k + (i + 1) by omega]) h

theorem hasEdge_listed {o : Oper} {j : Nat} {listed : Array Bool} (h : hasEdge o j = true) (hl : (o.after.all fun e => !Region.binds .any e || listed.getD e.on false) = true) : listed.getD j false = true := by
  unfold hasEdge at h
  rw [Array.any_eq_true] at h
  obtain ⟨k, hk, he⟩ := h
  simp only [Bool.and_eq_true, beq_iff_eq] at he
  have := (Array.all_eq_true.1 hl) k hk
  simp only [he.1, Bool.not_true, Bool.false_or] at this
  rwa [he.2] at this
theorem mem_ready {ops : Array Oper} {listed : Array Bool} {i : Nat} (hs : listed.size = ops.size) : i ∈ Region.ready .any ops listed ↔ ∃ o, ops[i]? = some o ∧ listed.getD i false = false ∧ (o.after.all fun e => !Region.binds .any e || listed.getD e.on false) = true := by
  unfold Region.ready
  rw [List.mem_filter, List.mem_range]
  constructor
  · rintro ⟨hi, h⟩
    simp only [Bool.and_eq_true, Bool.not_eq_true'] at h
    have hi' : i < listed.size := by omega
    refine ⟨ops[i], by simp [hi], ?_, ?_⟩
    · have := h.1; simp [Array.getD, hi'] at this ⊢; exact this
    · simpa [hi] using h.2
  · rintro ⟨o, ho, h1, h2⟩
    have hi : i < ops.size := (Array.getElem?_eq_some_iff.1 ho).1
    have hi' : i < listed.size := by omega
    refine ⟨hi, ?_⟩
    simp only [Bool.and_eq_true, Bool.not_eq_true']
    refine ⟨?_, by simpa [ho] using h2⟩
    simp [Array.getD, hi'] at h1 ⊢; exact h1
def cnt : Nat → Array Bool → Nat
  | 0, _ => 0
  | k + 1, L => cnt k L + (if L.getD k false = true then 0 else 1)
theorem getD_set (L : Array Bool) (i j : Nat) (hi : i < L.size) : (L.setIfInBounds i true).getD j false = if i = j then true else L.getD j false := by
  simp only [Array.getD_eq_getD_getElem?, Array.getElem?_setIfInBounds]
  split
  · rename_i e; subst e; simp [hi]
  · rfl
theorem cnt_ge (L : Array Bool) (i : Nat) (hi : i < L.size) : ∀ k, k ≤ i → cnt k (L.setIfInBounds i true) = cnt k L
  | 0, _ => rfl
  | k + 1, h => by
    unfold cnt
    rw [cnt_ge L i hi k (by omega), getD_set L i k hi, if_neg (show ¬ i = k by omega)]
theorem cnt_set (L : Array Bool) (i : Nat) (hi : i < L.size) (hf : L.getD i false = false) : ∀ k, i < k → cnt k (L.setIfInBounds i true) + 1 = cnt k L
  | 0, h => by omega
  | k + 1, h => by
    unfold cnt
    rw [getD_set L i k hi]
    by_cases e : i = k
    · subst e
      rw [cnt_ge L i hi i (Nat.le_refl _), hf]; simp
    · rw [if_neg e]
      have := cnt_set L i hi hf k (by omega)
      omega
theorem cnt_zero (L : Array Bool) : ∀ k, cnt k L = 0 → ∀ i, i < k → L.getD i false = true
  | 0, _, i, h => by omega
  | k + 1, h, i, hi => by
    unfold cnt at h
    by_cases e : i = k
    · subst e; by_cases hb : L.getD i false = true
      · exact hb
      · rw [if_neg hb] at h; omega
    · exact cnt_zero L k (by omega) i (by omega)

structure DrawFacts (l : List Oper) (m n : Nat) (keys : List Nat) (sp : Spec) (ds : List (List Nat)) : Prop where
  le : m ≤ l.length
  spl : sp.length = m
  before : ∀ (i : Nat) (o : Oper), l[i]? = some o → ∀ e, e ∈ o.after → Region.binds .any e = true → e.on < i
  deps : ∀ (i : Nat) (o : Oper), i < m → l[i]? = some o → ∀ j, j ∈ ds.getD i [] → j < m ∧ hasEdge o j = true
  dst : ∀ (i : Nat) (o : Oper) (dst : Option Nat) (φ : Value → World → Prop), l[i]? = some o → sp[i]? = some (dst, φ) → o.dst = dst
  ok : ∀ (i : Nat) (o : Oper) (d : Nat), i < m → l[i]? = some o → o.dst = some d → d < n ∧ d ∉ keys
  tail : ∀ (i : Nat) (o : Oper), m ≤ i → l[i]? = some o → ∀ j, j < i → hasEdge o j = true
  apart : ∀ (i j : Nat) (o o' : Oper) (d : Nat), i < m → j < m → i ≠ j → l[i]? = some o → l[j]? = some o' → o.dst = some d → o'.dst ≠ some d
theorem drawFacts {keys : List Nat} (h : drawOk l m n keys (sp.map (·.1)) ds = true) : DrawFacts l m n keys sp ds := by
  unfold drawOk at h
  simp only [Bool.and_eq_true, decide_eq_true_eq, List.all_eq_true, List.mem_range, List.length_map] at h
  obtain ⟨⟨⟨⟨h1, h2⟩, h3⟩, h4⟩, h5⟩ := h
  have hat : ∀ i o, l[i]? = some o → i < l.length := fun i o ho => (List.getElem?_eq_some_iff.1 ho).1
  have hsd : ∀ i, (List.map (·.1) sp).getD i none = ((sp[i]?).map (·.1)).getD none := fun i => by simp [List.getD_eq_getElem?_getD]
  refine ⟨h1, h2, ?_, ?_, ?_, ?_, ?_, ?_⟩
  · intro i o ho e he hb
    have := h4 i (hat i o ho)
    rw [ho] at this
    simp only [Bool.and_eq_true] at this
    obtain ⟨k, hk, rfl⟩ := Array.getElem_of_mem he
    have := (Array.all_eq_true.1 this.1) k hk
    simpa [hb] using this
  · intro i o hi ho j hj
    have := h4 i (hat i o ho)
    rw [ho] at this
    simp only [Bool.and_eq_true, if_pos hi, List.all_eq_true, decide_eq_true_eq] at this
    exact this.2.1.1 j hj
  · intro i o dst φ ho hs
    have hi : i < m := by rw [← h2]; exact (List.getElem?_eq_some_iff.1 hs).1
    have := h4 i (hat i o ho)
    rw [ho] at this
    simp only [Bool.and_eq_true, if_pos hi, List.all_eq_true, decide_eq_true_eq] at this
    have h6 := this.2.1.2
    rw [hsd, hs] at h6
    simpa using h6.symm
  · intro i o d hi ho hd
    have := h4 i (hat i o ho)
    rw [ho] at this
    simp only [Bool.and_eq_true, if_pos hi, List.all_eq_true, decide_eq_true_eq] at this
    have h6 := this.2.2
    rw [hd] at h6
    simpa using h6
  · intro i o hi ho j hj
    have := h4 i (hat i o ho)
    rw [ho] at this
    simp only [Bool.and_eq_true, if_neg (show ¬ i < m by omega), List.all_eq_true, List.mem_range] at this
    exact this.2 j hj
  · intro i j o o' d hi hj hne ho ho' hd hd'
    have h6 := h5 i hi j hj
    have a1 : (List.map (·.1) sp).getD i none = some d := by
      have := h4 i (hat i o ho)
      rw [ho] at this
      simp only [Bool.and_eq_true, if_pos hi, decide_eq_true_eq] at this
      rw [this.2.1.2, hd]
    have a2 : (List.map (·.1) sp).getD j none = some d := by
      have := h4 j (hat j o' ho')
      rw [ho'] at this
      simp only [Bool.and_eq_true, if_pos hj, decide_eq_true_eq] at this
      rw [this.2.1.2, hd']
    rw [a1, a2] at h6
    simp [hne] at h6

theorem tail_any {keys : List Nat} (hF : DrawFacts l m n keys sp ds) : ∀ (fuel k : Nat) (listed : Array Bool) (a : Act) (w : World), m ≤ k → k ≤ l.length → l.length - k ≤ fuel → listed.size = l.length →
    (∀ i, i < k → listed.getD i false = true) → (∀ i, k ≤ i → listed.getD i false = false) → wpList P l.toArray Q (l.drop k) a w → wpAny P .any l.toArray Q fuel listed a w := by
  intro fuel
  induction fuel with
  | zero =>
    intro k listed a w hm hk hf hs h1 h2 h
    have hk' : k = l.length := by omega
    subst hk'
    rw [List.drop_length] at h
    refine ⟨?_, h⟩
    rw [List.eq_nil_iff_forall_not_mem]
    intro i hi
    obtain ⟨o, ho, hf', _⟩ := (mem_ready (by simpa using hs)).1 hi
    have : i < l.length := by simpa using (Array.getElem?_eq_some_iff.1 ho).1
    rw [h1 i this] at hf'; cases hf'
  | succ fuel ih =>
    intro k listed a w hm hk hf hs h1 h2 h
    rcases Nat.lt_or_ge k l.length with hlt | hge
    · have hget : l[k]? = some l[k] := List.getElem?_eq_getElem hlt
      have hr : k ∈ Region.ready .any l.toArray listed := by
        refine (mem_ready (by simpa using hs)).2 ⟨l[k], by simp, h2 k (Nat.le_refl _), ?_⟩
        rw [Array.all_eq_true]
        intro j hj
        by_cases hb : Region.binds .any l[k].after[j] = true
        · rw [h1 _ (hF.before k _ hget _ (Array.getElem_mem hj) hb)]; simp
        · simp [hb]
      refine ⟨fun h0 => by rw [h0] at hr; simp at hr, fun i hi => ?_⟩
      obtain ⟨o, ho, hfi, hall⟩ := (mem_ready (by simpa using hs)).1 hi
      have ho' : l[i]? = some o := by simpa using ho
      have hik : i = k := by
        rcases Nat.lt_trichotomy i k with h3 | h3 | h3
        · rw [h1 i h3] at hfi; cases hfi
        · exact h3
        · have := hasEdge_listed (hF.tail i o (by omega) ho' k h3) hall
          rw [h2 k (Nat.le_refl _)] at this; cases this
      subst hik
      have hsz : i < listed.size := by omega
      have hnext : ∀ a w, wpList P l.toArray Q (l.drop (i + 1)) a w → wpAny P .any l.toArray Q fuel (listed.setIfInBounds i true) a w := fun a w hh =>
        ih (i + 1) _ a w (by omega) (by omega) (by omega) (by simpa using hs) (fun j hj => by
          rw [getD_set _ _ _ hsz]
          by_cases e : i = j
          · rw [if_pos e]
          · rw [if_neg e]; exact h1 j (by omega))
          (fun j hj => by rw [getD_set _ _ _ hsz, if_neg (by omega)]; exact h2 j (by omega)) hh
      rw [List.drop_eq_getElem_cons hlt] at h
      unfold wpList at h
      unfold wpOp
      rw [ho]
      have hoe : o = l[i] := by rw [hget] at ho'; injection ho' with e; exact e.symm
      subst hoe
      dsimp only
      split
      · rename_i hw
        rw [if_pos hw] at h
        rcases h with h | h
        · exact .inl (Oper.wp_mono hnext h)
        · exact .inr h
      · rename_i hw
        rw [if_neg hw] at h
        exact hnext _ _ h
    · have hk' : k = l.length := by omega
      subst hk'
      rw [List.drop_length] at h
      refine ⟨fun _ => h, fun i hi => ?_⟩
      obtain ⟨o, ho, hf', _⟩ := (mem_ready (by simpa using hs)).1 hi
      have : i < l.length := by simpa using (Array.getElem?_eq_some_iff.1 ho).1
      rw [h1 i this] at hf'; cases hf'

theorem mid_any {keys : List Nat} (hF : DrawFacts l m n keys sp ds) (hkeys : ∀ t v, look ρ0 t = some v → t ∈ keys) (hRt : ∀ a b c, R a b → R b c → R a c) (hst : StAll R sp) (hobs : ObsAll P l.toArray n D ρ0 w0 R sp l ds sp)
    (hend : ∀ w, R w0 w → AllV sp ρ0 w (fun ρ => Reg P l.toArray Q (l.drop m) n D ρ w)) :
    ∀ (fuel : Nat) (listed : Array Bool) (vals : Nat → Value) (a : Act) (w : World), Mid n D ρ0 w0 R sp m l.length listed vals a w → cnt l.length listed ≤ fuel → wpAny P .any l.toArray Q fuel listed a w := by
  -- once all heads are listed
  have hfin : ∀ (fuel : Nat) (listed : Array Bool) (vals : Nat → Value) (a : Act) (w : World), Mid n D ρ0 w0 R sp m l.length listed vals a w → (∀ i, i < m → listed.getD i false = true) → l.length - m ≤ fuel → wpAny P .any l.toArray Q fuel listed a w := by
    intro fuel listed vals a w hM hall hf
    obtain ⟨ρ', hFr, hReg⟩ := allV_inst (w := w) vals sp 0 ρ0 _ hM.fr (fun i dst φ hs => by
      have hi : i < m := by rw [← hF.spl]; exact (List.getElem?_eq_some_iff.1 hs).1
      rw [Nat.zero_add]; exact hM.got i dst φ hs (hall i hi)) (hend w hM.wr)
    exact tail_any hF fuel m listed a w (Nat.le_refl _) hF.le hf hM.size hall hM.tail (hReg a hFr)
  have hcnt : ∀ listed : Array Bool, (∀ i, m ≤ i → listed.getD i false = false) → ∀ k, m ≤ k → k - m ≤ cnt k listed := by
    intro listed ht k
    induction k with
    | zero => intro _; omega
    | succ k ih =>
      intro hk
      unfold cnt
      rcases Nat.lt_or_ge k m with h | h
      · omega
      · rw [ht k h]; have := ih h; simp; omega
  intro fuel
  induction fuel with
  | zero =>
    intro listed vals a w hM hc
    have h0 : cnt l.length listed = 0 := by omega
    have hall := cnt_zero listed _ h0
    refine hfin 0 listed vals a w hM (fun i hi => hall i (by have := hF.le; omega)) ?_
    have := hcnt listed hM.tail l.length hF.le
    omega
  | succ fuel ih =>
    intro listed vals a w hM hc
    by_cases hall : ∀ i, i < m → listed.getD i false = true
    · refine hfin _ listed vals a w hM hall ?_
      have := hcnt listed hM.tail l.length hF.le
      omega
    · -- some head is not listed: it's not the end, and no tail is ready
      refine ⟨fun h0 => absurd ?_ hall, fun i hi => ?_⟩
      · -- the least one that isn't listed is ready
        intro i hi
        induction i using Nat.strongRecOn with
        | _ i ihh =>
          by_cases hb : listed.getD i false = true
          · exact hb
          · exfalso
            have hil : i < l.length := by have := hF.le; omega
            have hr : i ∈ Region.ready .any l.toArray listed := by
              refine (mem_ready (by simpa using hM.size)).2 ⟨l[i], by simp [hil], by simpa using hb, ?_⟩
              rw [Array.all_eq_true]
              intro j hj
              by_cases hbd : Region.binds .any l[i].after[j] = true
              · have := hF.before i _ (List.getElem?_eq_getElem hil) _ (Array.getElem_mem hj) hbd
                rw [ihh _ this (by omega)]; simp
              · simp [hbd]
            rw [h0] at hr; simp at hr
      · obtain ⟨o, ho, hfi, hal⟩ := (mem_ready (by simpa using hM.size)).1 hi
        have ho' : l[i]? = some o := by simpa using ho
        have hil : i < l.length := (List.getElem?_eq_some_iff.1 ho').1
        have him : i < m := by
          rcases Nat.lt_or_ge i m with h | h
          · exact h
          · exact absurd (fun j hj => hasEdge_listed (hF.tail i o h ho' j (by omega)) hal) hall
        have hsp : ∃ dst φ, sp[i]? = some (dst, φ) := by
          have : i < sp.length := by rw [hF.spl]; exact him
          exact ⟨_, _, List.getElem?_eq_getElem this⟩
        obtain ⟨dst, φ, hs⟩ := hsp
        have hdst := hF.dst i o dst φ ho' hs
        subst hdst
        have hsz : i < listed.size := by rw [hM.size]; exact hil
        obtain ⟨ρ', hFr, hOp⟩ := depV_inst hM (ds.getD i []) ρ0 _ hM.fr (fun j hj => hasEdge_listed (hF.deps i o him ho' j hj).2 hal) (hobs.at_ hs ho' w hM.wr)
        have hnew : ∀ (v : Value) (w' : World), φ v w' → R w w' → Mid n D ρ0 w0 R sp m l.length (listed.setIfInBounds i true) (fun j => if j = i then v else vals j) (a.put o.dst v) w' := by
          intro v w' hv hR
          have hput : ∀ t, (∀ d, o.dst = some d → t ≠ d) → (a.put o.dst v).tmps[t]? = a.tmps[t]? := by
            intro t ht
            cases hd : o.dst with
            | none => rfl
            | some d => simp only [Act.put, Array.getElem?_setIfInBounds]; rw [if_neg (fun e => ht d hd e.symm)]
          have hputd : ∀ d, o.dst = some d → (a.put o.dst v).tmps[d]? = some v := by
            intro d hd
            have := (hF.ok i o d him ho' hd).1
            rw [hd]
            simp [Act.put, hM.fr.size, this]
          refine ⟨⟨?_, ?_, ?_⟩, hRt _ _ _ hM.wr hR, by simpa using hM.size, ?_, ?_⟩
          · rw [← hM.fr.defers]; cases o.dst <;> rfl
          · rw [← hM.fr.size]; cases o.dst <;> simp [Act.put]
          · intro t u hl
            rw [hput t (fun d hd e => (hF.ok i o d him ho' hd).2 (by rw [← e]; exact hkeys t u hl))]
            exact hM.fr.slot t u hl
          · intro j hj
            rw [getD_set _ _ _ hsz, if_neg (by omega)]; exact hM.tail j hj
          · intro j dst φ' hs' hl
            rw [getD_set _ _ _ hsz] at hl
            by_cases e : j = i
            · subst e
              rw [hs] at hs'
              injection hs' with hs'
              injection hs' with e1 e2
              subst e1; subst e2
              rw [if_pos rfl]
              exact ⟨hv, hputd⟩
            · rw [if_neg (fun e' => e e'.symm)] at hl
              rw [if_neg e]
              obtain ⟨g1, g2⟩ := hM.got j dst φ' hs' hl
              refine ⟨hst.at_ hs' _ _ _ g1 hR, fun d hd => ?_⟩
              have hj : j < m := by rw [← hF.spl]; exact (List.getElem?_eq_some_iff.1 hs').1
              have hjl : j < l.length := by have := hF.le; omega
              have hoj := List.getElem?_eq_getElem hjl
              have hdj := hF.dst j _ dst φ' hoj hs'
              rw [hput d (fun d' hd' e' => by subst e'; exact hF.apart j i _ o d hj him e hoj ho' (by rw [hdj, hd]) hd')]
              exact g2 d hd
        have hcnt' := cnt_set listed i hsz hfi l.length hil
        unfold wpOp
        rw [ho]
        dsimp only
        have h1 := hOp a hFr
        split
        · rename_i hw
          rw [if_pos hw] at h1
          refine .inl (Oper.wp_mono ?_ (h1 Q))
          rintro a' w' ⟨v, rfl, hv, hR⟩
          exact ih _ _ _ _ (hnew v w' hv hR) (by omega)
        · rename_i hw
          rw [if_neg hw] at h1
          exact ih _ _ _ _ (hnew undef w h1.1 h1.2) (by omega)

theorem w_draw {id : Nat} {w : World} {ρ : Env} (m : Nat) (R : World → World → Prop) (sp : Spec) (ds : List (List Nat)) (ρ0 : Env) (hsub : Sub ρ0 ρ) (hm : P.follows .mixedOrders = true)
    (hchk : drawOk l m n (keysOf ρ0) (sp.map (·.1)) ds = true) (hR : ∀ a, R a a) (hRt : ∀ a b c, R a b → R b c → R a c) (hst : StAll R sp)
    (h : ∀ w0, w.grownBy w0 none → w0.heap.size = w.heap.size → ObsAll P l.toArray n D ρ0 w0 R sp l ds sp ∧ (∀ w', R w0 w' → AllV sp ρ0 w' (fun ρ => Reg P l.toArray Q (l.drop m) n D ρ w'))) :
    W P (.region id l.toArray true) Q n D ρ w := by
  intro a ha
  have hF := drawFacts hchk
  obtain ⟨h1, h2⟩ := h w.drew (grown_drew w) rfl
  refine wp_region_any hm ?_
  have := mid_any hF (fun t v hl => look_of_keys hl) hRt hst h1 h2 l.length (Array.replicate l.length false) (fun _ => undef) a w.drew ⟨ha.sub hsub, hR _, by simp, fun i _ => by simp [Array.getD_eq_getD_getElem?, Array.getElem?_replicate]; split <;> rfl, fun i dst φ hs hl => by
    simp [Array.getD_eq_getD_getElem?, Array.getElem?_replicate] at hl
    split at hl <;> simp at hl⟩ (by
      have : ∀ k L, cnt k L ≤ k := by
        intro k L; induction k with
        | zero => exact Nat.le_refl _
        | succ k ih => unfold cnt; split <;> omega
      exact this _ _)
  simpa using this
end
end Go.Gw
