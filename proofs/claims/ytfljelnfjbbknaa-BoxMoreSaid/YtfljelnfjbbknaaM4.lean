/- Part of the proof: a library for walks, plain laws, and functions' walks. -/
import Derived.Test.YtfljelnfjbbknaaM3
import Derived.Test.YtfljelnfjbbknaaM2
import Derived.Laws.CopyRow
set_option linter.unusedSimpArgs false
set_option linter.unusedVariables false
namespace Go.Gw
open Go.RowKit
/-! ### A region that draws its order: what ends it may wait for the rest by way of others -/
section
variable {P : Program} {l : List Oper} {Q : Exit → Act → World → Prop} {n m : Nat} {D : List Deferred} {ρ0 : Env} {w0 : World} {R : World → World → Prop} {sp : Spec} {ds : List (List Nat)}
structure MidT (l : List Oper) (n : Nat) (D : List Deferred) (ρ0 : Env) (w0 : World) (R : World → World → Prop) (sp : Spec) (m N : Nat) (listed : Array Bool) (vals : Nat → Value) (a : Act) (w : World) : Prop where
  fr : Fr n D ρ0 a
  wr : R w0 w
  size : listed.size = N
  tail : ∀ i, m ≤ i → listed.getD i false = false
  cl : ∀ i o j, l[i]? = some o → listed.getD i false = true → hasEdge o j = true → listed.getD j false = true
  got : ∀ i dst φ, sp[i]? = some (dst, φ) → listed.getD i false = true → φ (vals i) w ∧ ∀ d, dst = some d → a.tmps[d]? = some (vals i)

theorem depV_instT {listed : Array Bool} {vals : Nat → Value} {a : Act} {w : World} {N : Nat} (hM : MidT l n D ρ0 w0 R sp m N listed vals a w) : ∀ (d : List Nat) (ρ : Env) (K : Env → Prop), Fr n D ρ a → (∀ j ∈ d, listed.getD j false = true) →
    depV sp d ρ w K → ∃ ρ', Fr n D ρ' a ∧ K ρ'
  | [], ρ, K, hF, _, h => ⟨ρ, hF, h⟩
  | j :: r, ρ, K, hF, hl, h => by
    unfold depV at h
    split at h
    · rename_i d φ hs
      obtain ⟨h1, h2⟩ := hM.got j _ _ hs (hl j (by simp))
      refine depV_instT hM r _ K ⟨hF.defers, hF.size, fun t v hlk => ?_⟩ (fun i hi => hl i (by simp [hi])) (h _ h1)
      rw [look_cons] at hlk
      split at hlk
      · rename_i e; subst e; cases hlk; exact h2 _ rfl
      · exact hF.slot _ _ hlk
    · exact depV_instT hM r _ K hF (fun i hi => hl i (by simp [hi])) h
def reachN (l : List Oper) : Nat → Oper → Nat → Bool
  | 0, o, j => hasEdge o j
  | f + 1, o, j => hasEdge o j || (List.range l.length).any fun k => hasEdge o k && (match l[k]? with | some o' => reachN l f o' j | none => false)
theorem reach_listed {l : List Oper} {L : Array Bool} (cl : ∀ i o j, l[i]? = some o → L.getD i false = true → hasEdge o j = true → L.getD j false = true) : ∀ (f : Nat) (o : Oper) (j : Nat), (∀ k, hasEdge o k = true → L.getD k false = true) → reachN l f o j = true → L.getD j false = true
  | 0, o, j, h, hr => h j hr
  | f + 1, o, j, h, hr => by
    unfold reachN at hr
    rw [Bool.or_eq_true] at hr
    rcases hr with hr | hr
    · exact h j hr
    · rw [List.any_eq_true] at hr
      obtain ⟨k, _, hk⟩ := hr
      rw [Bool.and_eq_true] at hk
      obtain ⟨h1, h2⟩ := hk
      split at h2
      · rename_i o' ho'
        exact reach_listed cl f o' j (fun k' hk' => cl k o' k' ho' (h k h1) hk') h2
      · cases h2
def drawOkT (l : List Oper) (m n : Nat) (keys : List Nat) (sd : List (Option Nat)) (ds : List (List Nat)) : Bool :=
  decide (m ≤ l.length) && decide (sd.length = m) && decide (ds.length = m) &&
  (List.range l.length).all (fun i => match l[i]? with
    | some o => o.after.all (fun e => !Region.binds .any e || decide (e.on < i)) &&
      (if i < m then (ds.getD i []).all (fun j => decide (j < m) && hasEdge o j) && (decide (sd.getD i none = o.dst)) && (match o.dst with | some d => decide (d < n) && !keys.contains d | none => true)
       else (i == m || hasEdge o (i - 1)) && (List.range m).all (fun j => reachN l 8 o j))
    | none => false) &&
  (List.range m).all (fun i => (List.range m).all fun j => i == j || (match sd.getD i none, sd.getD j none with | some d, some e => d != e | _, _ => true))
structure DrawFactsT (l : List Oper) (m n : Nat) (keys : List Nat) (sp : Spec) (ds : List (List Nat)) : Prop where
  le : m ≤ l.length
  spl : sp.length = m
  before : ∀ (i : Nat) (o : Oper), l[i]? = some o → ∀ e, e ∈ o.after → Region.binds .any e = true → e.on < i
  deps : ∀ (i : Nat) (o : Oper), i < m → l[i]? = some o → ∀ j, j ∈ ds.getD i [] → j < m ∧ hasEdge o j = true
  dst : ∀ (i : Nat) (o : Oper) (dst : Option Nat) (φ : Value → World → Prop), l[i]? = some o → sp[i]? = some (dst, φ) → o.dst = dst
  ok : ∀ (i : Nat) (o : Oper) (d : Nat), i < m → l[i]? = some o → o.dst = some d → d < n ∧ d ∉ keys
  tail : ∀ (i : Nat) (o : Oper), m ≤ i → l[i]? = some o → (i = m ∨ hasEdge o (i - 1) = true) ∧ ∀ j, j < m → reachN l 8 o j = true
  apart : ∀ (i j : Nat) (o o' : Oper) (d : Nat), i < m → j < m → i ≠ j → l[i]? = some o → l[j]? = some o' → o.dst = some d → o'.dst ≠ some d
theorem drawFactsT {keys : List Nat} (h : drawOkT l m n keys (sp.map (·.1)) ds = true) : DrawFactsT l m n keys sp ds := by
  unfold drawOkT at h
  simp only [Bool.and_eq_true, decide_eq_true_eq, List.all_eq_true, List.mem_range, List.length_map] at h
  obtain ⟨⟨⟨⟨h1, h2⟩, h3⟩, h4⟩, h5⟩ := h
  have hat : ∀ i o, l[i]? = some o → i < l.length := fun i o ho => (List.getElem?_eq_some_iff.1 ho).1
  have hsd : ∀ i, (List.map (·.1) sp).getD i none = ((sp[i]?).map (·.1)).getD none := fun i => by simp [List.getD_eq_getElem?_getD]
  refine ⟨h1, h2, ?_, ?_, ?_, ?_, ?_, ?_⟩
  · intro i o ho e he hb
    have := h4 i (hat i o ho)
    rw [ho] at this
    simp only [Bool.and_eq_true] at this
    obtain ⟨k, hk, rfl⟩ := Array.getElem_of_mem he
    have := (Array.all_eq_true.1 this.1) k hk
    simpa [hb] using this
  · intro i o hi ho j hj
    have := h4 i (hat i o ho)
    rw [ho] at this
    simp only [Bool.and_eq_true, if_pos hi, List.all_eq_true, decide_eq_true_eq] at this
    exact this.2.1.1 j hj
  · intro i o dst φ ho hs
    have hi : i < m := by rw [← h2]; exact (List.getElem?_eq_some_iff.1 hs).1
    have := h4 i (hat i o ho)
    rw [ho] at this
    simp only [Bool.and_eq_true, if_pos hi, List.all_eq_true, decide_eq_true_eq] at this
    have h6 := this.2.1.2
    rw [hsd, hs] at h6
    simpa using h6.symm
  · intro i o d hi ho hd
    have := h4 i (hat i o ho)
    rw [ho] at this
    simp only [Bool.and_eq_true, if_pos hi, List.all_eq_true, decide_eq_true_eq] at this
    have h6 := this.2.2
    rw [hd] at h6
    simpa using h6
  · intro i o hi ho
    have := h4 i (hat i o ho)
    rw [ho] at this
    simp only [Bool.and_eq_true, if_neg (show ¬ i < m by omega), List.all_eq_true, List.mem_range, Bool.or_eq_true, beq_iff_eq] at this
    exact this.2
  · intro i j o o' d hi hj hne ho ho' hd hd'
    have h6 := h5 i hi j hj
    have a1 : (List.map (·.1) sp).getD i none = some d := by
      have := h4 i (hat i o ho)
      rw [ho] at this
      simp only [Bool.and_eq_true, if_pos hi, decide_eq_true_eq] at this
      rw [this.2.1.2, hd]
    have a2 : (List.map (·.1) sp).getD j none = some d := by
      have := h4 j (hat j o' ho')
      rw [ho'] at this
      simp only [Bool.and_eq_true, if_pos hj, decide_eq_true_eq] at this
      rw [this.2.1.2, hd']
    rw [a1, a2] at h6
    simp [hne] at h6

theorem tail_anyT {keys : List Nat} (hF : DrawFactsT l m n keys sp ds) : ∀ (fuel k : Nat) (listed : Array Bool) (a : Act) (w : World), m ≤ k → k ≤ l.length → l.length - k ≤ fuel → listed.size = l.length →
    (∀ i, i < k → listed.getD i false = true) → (∀ i, k ≤ i → listed.getD i false = false) → wpList P l.toArray Q (l.drop k) a w → wpAny P .any l.toArray Q fuel listed a w := by
  intro fuel
  induction fuel with
  | zero =>
    intro k listed a w hm hk hf hs h1 h2 h
    have hk' : k = l.length := by omega
    subst hk'
    rw [List.drop_length] at h
    refine ⟨?_, h⟩
    rw [List.eq_nil_iff_forall_not_mem]
    intro i hi
    obtain ⟨o, ho, hf', _⟩ := (mem_ready (by simpa using hs)).1 hi
    have : i < l.length := by simpa using (Array.getElem?_eq_some_iff.1 ho).1
    rw [h1 i this] at hf'; cases hf'
  | succ fuel ih =>
    intro k listed a w hm hk hf hs h1 h2 h
    rcases Nat.lt_or_ge k l.length with hlt | hge
    · have hget : l[k]? = some l[k] := List.getElem?_eq_getElem hlt
      have hr : k ∈ Region.ready .any l.toArray listed := by
        refine (mem_ready (by simpa using hs)).2 ⟨l[k], by simp, h2 k (Nat.le_refl _), ?_⟩
        rw [Array.all_eq_true]
        intro j hj
        by_cases hb : Region.binds .any l[k].after[j] = true
        · rw [h1 _ (hF.before k _ hget _ (Array.getElem_mem hj) hb)]; simp
        · simp [hb]
      refine ⟨fun h0 => by rw [h0] at hr; simp at hr, fun i hi => ?_⟩
      obtain ⟨o, ho, hfi, hall⟩ := (mem_ready (by simpa using hs)).1 hi
      have ho' : l[i]? = some o := by simpa using ho
      have hik : i = k := by
        rcases Nat.lt_trichotomy i k with h3 | h3 | h3
        · rw [h1 i h3] at hfi; cases hfi
        · exact h3
        · have := hasEdge_listed ((hF.tail i o (by omega) ho').1.resolve_left (by omega)) hall
          rw [h2 (i - 1) (by omega)] at this; cases this
      subst hik
      have hsz : i < listed.size := by omega
      have hnext : ∀ a w, wpList P l.toArray Q (l.drop (i + 1)) a w → wpAny P .any l.toArray Q fuel (listed.setIfInBounds i true) a w := fun a w hh =>
        ih (i + 1) _ a w (by omega) (by omega) (by omega) (by simpa using hs) (fun j hj => by
          rw [getD_set _ _ _ hsz]
          by_cases e : i = j
          · rw [if_pos e]
          · rw [if_neg e]; exact h1 j (by omega))
          (fun j hj => by rw [getD_set _ _ _ hsz, if_neg (by omega)]; exact h2 j (by omega)) hh
      rw [List.drop_eq_getElem_cons hlt] at h
      unfold wpList at h
      unfold wpOp
      rw [ho]
      have hoe : o = l[i] := by rw [hget] at ho'; injection ho' with e; exact e.symm
      subst hoe
      dsimp only
      split
      · rename_i hw
        rw [if_pos hw] at h
        rcases h with h | h
        · exact .inl (Oper.wp_mono hnext h)
        · exact .inr h
      · rename_i hw
        rw [if_neg hw] at h
        exact hnext _ _ h
    · have hk' : k = l.length := by omega
      subst hk'
      rw [List.drop_length] at h
      refine ⟨fun _ => h, fun i hi => ?_⟩
      obtain ⟨o, ho, hf', _⟩ := (mem_ready (by simpa using hs)).1 hi
      have : i < l.length := by simpa using (Array.getElem?_eq_some_iff.1 ho).1
      rw [h1 i this] at hf'; cases hf'

theorem mid_anyT {keys : List Nat} (hF : DrawFactsT l m n keys sp ds) (hkeys : ∀ t v, look ρ0 t = some v → t ∈ keys) (hRt : ∀ a b c, R a b → R b c → R a c) (hst : StAll R sp) (hobs : ObsAll P l.toArray n D ρ0 w0 R sp l ds sp)
    (hend : ∀ w, R w0 w → AllV sp ρ0 w (fun ρ => Reg P l.toArray Q (l.drop m) n D ρ w)) :
    ∀ (fuel : Nat) (listed : Array Bool) (vals : Nat → Value) (a : Act) (w : World), MidT l n D ρ0 w0 R sp m l.length listed vals a w → cnt l.length listed ≤ fuel → wpAny P .any l.toArray Q fuel listed a w := by
  -- once all heads are listed
  have hfin : ∀ (fuel : Nat) (listed : Array Bool) (vals : Nat → Value) (a : Act) (w : World), MidT l n D ρ0 w0 R sp m l.length listed vals a w → (∀ i, i < m → listed.getD i false = true) → l.length - m ≤ fuel → wpAny P .any l.toArray Q fuel listed a w := by
    intro fuel listed vals a w hM hall hf
    obtain ⟨ρ', hFr, hReg⟩ := allV_inst (w := w) vals sp 0 ρ0 _ hM.fr (fun i dst φ hs => by
      have hi : i < m := by rw [← hF.spl]; exact (List.getElem?_eq_some_iff.1 hs).1
      rw [Nat.zero_add]; exact hM.got i dst φ hs (hall i hi)) (hend w hM.wr)
    exact tail_anyT hF fuel m listed a w (Nat.le_refl _) hF.le hf hM.size hall hM.tail (hReg a hFr)
  have hcnt : ∀ listed : Array Bool, (∀ i, m ≤ i → listed.getD i false = false) → ∀ k, m ≤ k → k - m ≤ cnt k listed := by
    intro listed ht k
    induction k with
    | zero => intro _; omega
    | succ k ih =>
      intro hk
      unfold cnt
      rcases Nat.lt_or_ge k m with h | h
      · omega
      · rw [ht k h]; have := ih h; simp; omega
  intro fuel
  induction fuel with
  | zero =>
    intro listed vals a w hM hc
    have h0 : cnt l.length listed = 0 := by omega
    have hall := cnt_zero listed _ h0
    refine hfin 0 listed vals a w hM (fun i hi => hall i (by have := hF.le; omega)) ?_
    have := hcnt listed hM.tail l.length hF.le
    omega
  | succ fuel ih =>
    intro listed vals a w hM hc
    by_cases hall : ∀ i, i < m → listed.getD i false = true
    · refine hfin _ listed vals a w hM hall ?_
      have := hcnt listed hM.tail l.length hF.le
      omega
    · -- some head is not listed: it's not the end, and no tail is ready
      refine ⟨fun h0 => absurd ?_ hall, fun i hi => ?_⟩
      · -- the least one that isn't listed is ready
        intro i hi
        induction i using Nat.strongRecOn with
        | _ i ihh =>
          by_cases hb : listed.getD i false = true
          · exact hb
          · exfalso
            have hil : i < l.length := by have := hF.le; omega
            have hr : i ∈ Region.ready .any l.toArray listed := by
              refine (mem_ready (by simpa using hM.size)).2 ⟨l[i], by simp [hil], by simpa using hb, ?_⟩
              rw [Array.all_eq_true]
              intro j hj
              by_cases hbd : Region.binds .any l[i].after[j] = true
              · have := hF.before i _ (List.getElem?_eq_getElem hil) _ (Array.getElem_mem hj) hbd
                rw [ihh _ this (by omega)]; simp
              · simp [hbd]
            rw [h0] at hr; simp at hr
      · obtain ⟨o, ho, hfi, hal⟩ := (mem_ready (by simpa using hM.size)).1 hi
        have ho' : l[i]? = some o := by simpa using ho
        have hil : i < l.length := (List.getElem?_eq_some_iff.1 ho').1
        have him : i < m := by
          rcases Nat.lt_or_ge i m with h | h
          · exact h
          · exact absurd (fun j hj => reach_listed hM.cl 8 o j (fun k hk => hasEdge_listed hk hal) ((hF.tail i o h ho').2 j hj)) hall
        have hsp : ∃ dst φ, sp[i]? = some (dst, φ) := by
          have : i < sp.length := by rw [hF.spl]; exact him
          exact ⟨_, _, List.getElem?_eq_getElem this⟩
        obtain ⟨dst, φ, hs⟩ := hsp
        have hdst := hF.dst i o dst φ ho' hs
        subst hdst
        have hsz : i < listed.size := by rw [hM.size]; exact hil
        obtain ⟨ρ', hFr, hOp⟩ := depV_instT hM (ds.getD i []) ρ0 _ hM.fr (fun j hj => hasEdge_listed (hF.deps i o him ho' j hj).2 hal) (hobs.at_ hs ho' w hM.wr)
        have hnew : ∀ (v : Value) (w' : World), φ v w' → R w w' → MidT l n D ρ0 w0 R sp m l.length (listed.setIfInBounds i true) (fun j => if j = i then v else vals j) (a.put o.dst v) w' := by
          intro v w' hv hR
          have hput : ∀ t, (∀ d, o.dst = some d → t ≠ d) → (a.put o.dst v).tmps[t]? = a.tmps[t]? := by
            intro t ht
            cases hd : o.dst with
            | none => rfl
            | some d => simp only [Act.put, Array.getElem?_setIfInBounds]; rw [if_neg (fun e => ht d hd e.symm)]
          have hputd : ∀ d, o.dst = some d → (a.put o.dst v).tmps[d]? = some v := by
            intro d hd
            have := (hF.ok i o d him ho' hd).1
            rw [hd]
            simp [Act.put, hM.fr.size, this]
          refine ⟨⟨?_, ?_, ?_⟩, hRt _ _ _ hM.wr hR, by simpa using hM.size, ?_, ?_, ?_⟩
          · rw [← hM.fr.defers]; cases o.dst <;> rfl
          · rw [← hM.fr.size]; cases o.dst <;> simp [Act.put]
          · intro t u hl
            rw [hput t (fun d hd e => (hF.ok i o d him ho' hd).2 (by rw [← e]; exact hkeys t u hl))]
            exact hM.fr.slot t u hl
          · intro j hj
            rw [getD_set _ _ _ hsz, if_neg (by omega)]; exact hM.tail j hj
          · intro j oj j' hoj hl he
            rw [getD_set _ _ _ hsz] at hl ⊢
            by_cases e : i = j'
            · rw [if_pos e]
            · rw [if_neg e]
              by_cases e2 : i = j
              · subst e2; rw [ho'] at hoj; injection hoj with hoj; subst hoj; exact hasEdge_listed he hal
              · rw [if_neg e2] at hl; exact hM.cl j oj j' hoj hl he
          · intro j dst φ' hs' hl
            rw [getD_set _ _ _ hsz] at hl
            by_cases e : j = i
            · subst e
              rw [hs] at hs'
              injection hs' with hs'
              injection hs' with e1 e2
              subst e1; subst e2
              rw [if_pos rfl]
              exact ⟨hv, hputd⟩
            · rw [if_neg (fun e' => e e'.symm)] at hl
              rw [if_neg e]
              obtain ⟨g1, g2⟩ := hM.got j dst φ' hs' hl
              refine ⟨hst.at_ hs' _ _ _ g1 hR, fun d hd => ?_⟩
              have hj : j < m := by rw [← hF.spl]; exact (List.getElem?_eq_some_iff.1 hs').1
              have hjl : j < l.length := by have := hF.le; omega
              have hoj := List.getElem?_eq_getElem hjl
              have hdj := hF.dst j _ dst φ' hoj hs'
              rw [hput d (fun d' hd' e' => by subst e'; exact hF.apart j i _ o d hj him e hoj ho' (by rw [hdj, hd]) hd')]
              exact g2 d hd
        have hcnt' := cnt_set listed i hsz hfi l.length hil
        unfold wpOp
        rw [ho]
        dsimp only
        have h1 := hOp a hFr
        split
        · rename_i hw
          rw [if_pos hw] at h1
          refine .inl (Oper.wp_mono ?_ (h1 Q))
          rintro a' w' ⟨v, rfl, hv, hR⟩
          exact ih _ _ _ _ (hnew v w' hv hR) (by omega)
        · rename_i hw
          rw [if_neg hw] at h1
          exact ih _ _ _ _ (hnew undef w h1.1 h1.2) (by omega)

theorem w_drawT {id : Nat} {w : World} {ρ : Env} (m : Nat) (R : World → World → Prop) (sp : Spec) (ds : List (List Nat)) (ρ0 : Env) (hsub : Sub ρ0 ρ) (hm : P.follows .mixedOrders = true)
    (hchk : drawOkT l m n (keysOf ρ0) (sp.map (·.1)) ds = true) (hR : ∀ a, R a a) (hRt : ∀ a b c, R a b → R b c → R a c) (hst : StAll R sp)
    (h : ∀ w0, w.grownBy w0 none → w0.heap.size = w.heap.size → ObsAll P l.toArray n D ρ0 w0 R sp l ds sp ∧ (∀ w', R w0 w' → AllV sp ρ0 w' (fun ρ => Reg P l.toArray Q (l.drop m) n D ρ w'))) :
    W P (.region id l.toArray true) Q n D ρ w := by
  intro a ha
  have hF := drawFactsT hchk
  obtain ⟨h1, h2⟩ := h w.drew (grown_drew w) rfl
  refine wp_region_any hm ?_
  have := mid_anyT hF (fun t v hl => look_of_keys hl) hRt hst h1 h2 l.length (Array.replicate l.length false) (fun _ => undef) a w.drew ⟨ha.sub hsub, hR _, by simp, fun i _ => by simp [Array.getD_eq_getD_getElem?, Array.getElem?_replicate]; split <;> rfl, fun i o j _ hl _ => by
    simp [Array.getD_eq_getD_getElem?, Array.getElem?_replicate] at hl
    split at hl <;> simp at hl, fun i dst φ hs hl => by
    simp [Array.getD_eq_getD_getElem?, Array.getElem?_replicate] at hl
    split at hl <;> simp at hl⟩ (by
      have : ∀ k L, cnt k L ≤ k := by
        intro k L; induction k with
        | zero => exact Nat.le_refl _
        | succ k ih => unfold cnt; split <;> omega
      exact this _ _)
  simpa using this
end
end Go.Gw

set_option linter.unusedSimpArgs false
set_option linter.unusedVariables false
namespace Go.Gw
open Go.RowKit
/-! ### A region that draws its order and makes several new rows -/
def NewV (v : Value) (w : World) : Prop := ∃ g, v = .pointer (some ⟨g, 0, none⟩) ∧ w.heap.size ≤ g
def OldV (v : Value) (w : World) : Prop := ∃ g, v = .pointer (some ⟨g, 0, none⟩) ∧ g < w.heap.size
theorem new_ne_old {u v : Value} {w : World} (h : NewV v w) (k : OldV u w) : u ≠ v := by
  obtain ⟨g, rfl, hg⟩ := h
  obtain ⟨g', rfl, hg'⟩ := k
  intro e; injection e with e; injection e with e; injection e with e; omega
def AllVF : Spec → List Bool → List Value → Env → World → (Env → Prop) → Prop
  | [], _, _, ρ, _, K => K ρ
  | (some d, φ) :: r, true :: bs, acc, ρ, w, K => ∀ v, φ v w → (∀ u ∈ acc, u ≠ v) → AllVF r bs (v :: acc) ((d, v) :: ρ) w K
  | (some d, φ) :: r, _ :: bs, acc, ρ, w, K => ∀ v, φ v w → AllVF r bs acc ((d, v) :: ρ) w K
  | (none, _) :: r, _ :: bs, acc, ρ, w, K => AllVF r bs acc ρ w K
  | _ :: _, [], _, _, _, _ => False
def ObsAllF (P : Program) (ops : Array Oper) (n : Nat) (D : List Deferred) (ρ0 : Env) (w0 : World) (R : World → World → Prop) (sp : Spec) : List Oper → List (List Nat) → List Bool → Spec → Prop
  | o :: os, d :: ds, b :: bs, (_, φ) :: r => (∀ w, R w0 w → depV sp d ρ0 w (fun ρ => Op1 P ops o n D ρ w (fun v w' => φ v w' ∧ R w w' ∧ (b = true → NewV v w)))) ∧ ObsAllF P ops n D ρ0 w0 R sp os ds bs r
  | _, _, _, [] => True
  | _, _, _, _ => False
def OldAll : Spec → List Bool → Prop
  | (_, φ) :: r, b :: bs => (b = true → ∀ v w, φ v w → OldV v w) ∧ OldAll r bs
  | _, _ => True
theorem OldAll.at_ : ∀ {sp : Spec} {bs : List Bool}, OldAll sp bs → ∀ {i : Nat} {dst : Option Nat} {φ : Value → World → Prop}, sp[i]? = some (dst, φ) → bs.getD i false = true → ∀ v w, φ v w → OldV v w
  | [], _, _, i, dst, φ, hs, _, _, _, _ => by simp at hs
  | p :: r, [], _, i, dst, φ, _, hb, _, _, _ => by simp at hb
  | p :: r, b :: bs, h, i, dst, φ, hs, hb, v, w, hv => by
    obtain ⟨pd, pφ⟩ := p
    obtain ⟨h1, h2⟩ := h
    cases i with
    | zero => simp at hs hb; obtain ⟨rfl, rfl⟩ := hs; exact h1 hb v w hv
    | succ i => simp at hs hb; exact OldAll.at_ h2 hs (by simpa using hb) v w hv
section
variable {P : Program} {l : List Oper} {Q : Exit → Act → World → Prop} {n m : Nat} {D : List Deferred} {ρ0 : Env} {w0 : World} {R : World → World → Prop} {sp : Spec} {ds : List (List Nat)} {bs : List Bool}
theorem ObsAllF.at_ {ops : Array Oper} : ∀ {l' : List Oper} {ds' : List (List Nat)} {bs' : List Bool} {sp' : Spec}, ObsAllF P ops n D ρ0 w0 R sp l' ds' bs' sp' → ∀ {i : Nat} {dst : Option Nat} {φ : Value → World → Prop} {o : Oper}, sp'[i]? = some (dst, φ) → l'[i]? = some o →
    ∀ w, R w0 w → depV sp (ds'.getD i []) ρ0 w (fun ρ => Op1 P ops o n D ρ w (fun v w' => φ v w' ∧ R w w' ∧ (bs'.getD i false = true → NewV v w))) := by
  intro l' ds' bs' sp' h
  induction sp' generalizing l' ds' bs' with
  | nil => intro i dst φ o hs; simp at hs
  | cons p r ih =>
    intro i dst φ o hs hl
    obtain ⟨pd, pφ⟩ := p
    match l', ds', bs', h with
    | o' :: os, d :: dd, b :: bb, h =>
      obtain ⟨h1, h2⟩ := h
      cases i with
      | zero => simp at hs hl; obtain ⟨rfl, rfl⟩ := hs; subst hl; simpa using h1
      | succ i => simp at hs hl; simpa using ih h2 hs hl
theorem allVF_inst {w : World} (vals : Nat → Value) {a : Act} : ∀ (r : Spec) (bs : List Bool) (k : Nat) (acc : List Value) (ρ : Env) (K : Env → Prop), Fr n D ρ a → (∀ i dst φ, r[i]? = some (dst, φ) → φ (vals (k + i)) w ∧ ∀ d, dst = some d → a.tmps[d]? = some (vals (k + i))) →
    (∀ i u, bs.getD i false = true → i < r.length → u ∈ acc → u ≠ vals (k + i)) → (∀ i j, bs.getD i false = true → bs.getD j false = true → i < r.length → j < r.length → i ≠ j → vals (k + i) ≠ vals (k + j)) →
    AllVF r bs acc ρ w K → ∃ ρ', Fr n D ρ' a ∧ K ρ'
  | [], bs, k, acc, ρ, K, hF, _, _, _, h => by unfold AllVF at h; exact ⟨ρ, hF, h⟩
  | p :: r, [], k, acc, ρ, K, hF, hg, ha, hb, h => by obtain ⟨pd, pφ⟩ := p; cases pd <;> exact (show False from h).elim
  | (some d, φ) :: r, true :: bs, k, acc, ρ, K, hF, hg, ha, hb, h => by
    obtain ⟨h1, h2⟩ := hg 0 _ _ rfl
    unfold AllVF at h
    refine allVF_inst vals r bs (k + 1) _ _ K ⟨hF.defers, hF.size, fun t v hlk => ?_⟩ (fun i dst φ hs => by have := hg (i + 1) dst φ (by simpa using hs); rwa [show k + 1 + i = k + (i + 1) by omega])
      (fun i u h3 h4 h5 => ?_) (fun i j h3 h4 h5 h6 h7 => ?_) (h _ h1 (fun u hu => by have := ha 0 u rfl (by simp) hu; simpa using this))
    · rw [look_cons] at hlk
      split at hlk
      · rename_i e; subst e; cases hlk; exact h2 _ rfl
      · exact hF.slot _ _ hlk
    · rcases List.mem_cons.1 h5 with rfl | h5
      · have := hb 0 (i + 1) rfl (by simpa using h3) (by simp) (by simpa using h4) (by omega)
        rwa [show k + 1 + i = k + (i + 1) by omega]
      · have := ha (i + 1) u (by simpa using h3) (by simpa using h4) h5
        rwa [show k + 1 + i = k + (i + 1) by omega]
    · have := hb (i + 1) (j + 1) (by simpa using h3) (by simpa using h4) (by simpa using h5) (by simpa using h6) (by omega)
      rwa [show k + 1 + i = k + (i + 1) by omega, show k + 1 + j = k + (j + 1) by omega]
  | (some d, φ) :: r, false :: bs, k, acc, ρ, K, hF, hg, ha, hb, h => by
    obtain ⟨h1, h2⟩ := hg 0 _ _ rfl
    unfold AllVF at h
    refine allVF_inst vals r bs (k + 1) _ _ K ⟨hF.defers, hF.size, fun t v hlk => ?_⟩ (fun i dst φ hs => by have := hg (i + 1) dst φ (by simpa using hs); rwa [show k + 1 + i = k + (i + 1) by omega])
      (fun i u h3 h4 h5 => ?_) (fun i j h3 h4 h5 h6 h7 => ?_) (h _ h1)
    · rw [look_cons] at hlk
      split at hlk
      · rename_i e; subst e; cases hlk; exact h2 _ rfl
      · exact hF.slot _ _ hlk
    · have := ha (i + 1) u (by simpa using h3) (by simpa using h4) h5
      rwa [show k + 1 + i = k + (i + 1) by omega]
    · have := hb (i + 1) (j + 1) (by simpa using h3) (by simpa using h4) (by simpa using h5) (by simpa using h6) (by omega)
      rwa [show k + 1 + i = k + (i + 1) by omega, show k + 1 + j = k + (j + 1) by omega]
  | (none, φ) :: r, b :: bs, k, acc, ρ, K, hF, hg, ha, hb, h => by
    have h' : AllVF r bs acc ρ w K := by cases b <;> (unfold AllVF at h; exact h)
    refine allVF_inst vals r bs (k + 1) _ _ K hF (fun i dst φ hs => by have := hg (i + 1) dst φ (by simpa using hs); rwa [show k + 1 + i = k + (i + 1) by omega])
      (fun i u h3 h4 h5 => ?_) (fun i j h3 h4 h5 h6 h7 => ?_) h'
    · have := ha (i + 1) u (by simpa using h3) (by simpa using h4) h5
      rwa [show k + 1 + i = k + (i + 1) by omega]
    · have := hb (i + 1) (j + 1) (by simpa using h3) (by simpa using h4) (by simpa using h5) (by simpa using h6) (by omega)
      rwa [show k + 1 + i = k + (i + 1) by omega, show k + 1 + j = k + (j + 1) by omega]
structure MidF (l : List Oper) (bs : List Bool) (n : Nat) (D : List Deferred) (ρ0 : Env) (w0 : World) (R : World → World → Prop) (sp : Spec) (m N : Nat) (listed : Array Bool) (vals : Nat → Value) (a : Act) (w : World) : Prop where
  fr : Fr n D ρ0 a
  wr : R w0 w
  size : listed.size = N
  tail : ∀ i, m ≤ i → listed.getD i false = false
  cl : ∀ i o j, l[i]? = some o → listed.getD i false = true → hasEdge o j = true → listed.getD j false = true
  fre : ∀ i j, bs.getD i false = true → bs.getD j false = true → i < m → j < m → i ≠ j → listed.getD i false = true → listed.getD j false = true → vals i ≠ vals j
  got : ∀ i dst φ, sp[i]? = some (dst, φ) → listed.getD i false = true → φ (vals i) w ∧ ∀ d, dst = some d → a.tmps[d]? = some (vals i)

theorem depV_instF {listed : Array Bool} {vals : Nat → Value} {a : Act} {w : World} {N : Nat} (hM : MidF l bs n D ρ0 w0 R sp m N listed vals a w) : ∀ (d : List Nat) (ρ : Env) (K : Env → Prop), Fr n D ρ a → (∀ j ∈ d, listed.getD j false = true) →
    depV sp d ρ w K → ∃ ρ', Fr n D ρ' a ∧ K ρ'
  | [], ρ, K, hF, _, h => ⟨ρ, hF, h⟩
  | j :: r, ρ, K, hF, hl, h => by
    unfold depV at h
    split at h
    · rename_i d φ hs
      obtain ⟨h1, h2⟩ := hM.got j _ _ hs (hl j (by simp))
      refine depV_instF hM r _ K ⟨hF.defers, hF.size, fun t v hlk => ?_⟩ (fun i hi => hl i (by simp [hi])) (h _ h1)
      rw [look_cons] at hlk
      split at hlk
      · rename_i e; subst e; cases hlk; exact h2 _ rfl
      · exact hF.slot _ _ hlk
    · exact depV_instF hM r _ K hF (fun i hi => hl i (by simp [hi])) h
theorem mid_anyF {keys : List Nat} (hF : DrawFactsT l m n keys sp ds) (hkeys : ∀ t v, look ρ0 t = some v → t ∈ keys) (hRt : ∀ a b c, R a b → R b c → R a c) (hst : StAll R sp) (hold : OldAll sp bs) (hobs : ObsAllF P l.toArray n D ρ0 w0 R sp l ds bs sp)
    (hend : ∀ w, R w0 w → AllVF sp bs [] ρ0 w (fun ρ => Reg P l.toArray Q (l.drop m) n D ρ w)) :
    ∀ (fuel : Nat) (listed : Array Bool) (vals : Nat → Value) (a : Act) (w : World), MidF l bs n D ρ0 w0 R sp m l.length listed vals a w → cnt l.length listed ≤ fuel → wpAny P .any l.toArray Q fuel listed a w := by
  -- once all heads are listed
  have hfin : ∀ (fuel : Nat) (listed : Array Bool) (vals : Nat → Value) (a : Act) (w : World), MidF l bs n D ρ0 w0 R sp m l.length listed vals a w → (∀ i, i < m → listed.getD i false = true) → l.length - m ≤ fuel → wpAny P .any l.toArray Q fuel listed a w := by
    intro fuel listed vals a w hM hall hf
    obtain ⟨ρ', hFr, hReg⟩ := allVF_inst (w := w) vals sp bs 0 [] ρ0 _ hM.fr (fun i dst φ hs => by
      have hi : i < m := by rw [← hF.spl]; exact (List.getElem?_eq_some_iff.1 hs).1
      rw [Nat.zero_add]; exact hM.got i dst φ hs (hall i hi)) (fun _ _ _ _ h => by cases h) (fun i j h1 h2 h3 h4 h5 => by
      rw [hF.spl] at h3 h4
      rw [Nat.zero_add, Nat.zero_add]; exact hM.fre i j h1 h2 h3 h4 h5 (hall i h3) (hall j h4)) (hend w hM.wr)
    exact tail_anyT hF fuel m listed a w (Nat.le_refl _) hF.le hf hM.size hall hM.tail (hReg a hFr)
  have hcnt : ∀ listed : Array Bool, (∀ i, m ≤ i → listed.getD i false = false) → ∀ k, m ≤ k → k - m ≤ cnt k listed := by
    intro listed ht k
    induction k with
    | zero => intro _; omega
    | succ k ih =>
      intro hk
      unfold cnt
      rcases Nat.lt_or_ge k m with h | h
      · omega
      · rw [ht k h]; have := ih h; simp; omega
  intro fuel
  induction fuel with
  | zero =>
    intro listed vals a w hM hc
    have h0 : cnt l.length listed = 0 := by omega
    have hall := cnt_zero listed _ h0
    refine hfin 0 listed vals a w hM (fun i hi => hall i (by have := hF.le; omega)) ?_
    have := hcnt listed hM.tail l.length hF.le
    omega
  | succ fuel ih =>
    intro listed vals a w hM hc
    by_cases hall : ∀ i, i < m → listed.getD i false = true
    · refine hfin _ listed vals a w hM hall ?_
      have := hcnt listed hM.tail l.length hF.le
      omega
    · -- some head is not listed: it's not the end, and no tail is ready
      refine ⟨fun h0 => absurd ?_ hall, fun i hi => ?_⟩
      · -- the least one that isn't listed is ready
        intro i hi
        induction i using Nat.strongRecOn with
        | _ i ihh =>
          by_cases hb : listed.getD i false = true
          · exact hb
          · exfalso
            have hil : i < l.length := by have := hF.le; omega
            have hr : i ∈ Region.ready .any l.toArray listed := by
              refine (mem_ready (by simpa using hM.size)).2 ⟨l[i], by simp [hil], by simpa using hb, ?_⟩
              rw [Array.all_eq_true]
              intro j hj
              by_cases hbd : Region.binds .any l[i].after[j] = true
              · have := hF.before i _ (List.getElem?_eq_getElem hil) _ (Array.getElem_mem hj) hbd
                rw [ihh _ this (by omega)]; simp
              · simp [hbd]
            rw [h0] at hr; simp at hr
      · obtain ⟨o, ho, hfi, hal⟩ := (mem_ready (by simpa using hM.size)).1 hi
        have ho' : l[i]? = some o := by simpa using ho
        have hil : i < l.length := (List.getElem?_eq_some_iff.1 ho').1
        have him : i < m := by
          rcases Nat.lt_or_ge i m with h | h
          · exact h
          · exact absurd (fun j hj => reach_listed hM.cl 8 o j (fun k hk => hasEdge_listed hk hal) ((hF.tail i o h ho').2 j hj)) hall
        have hsp : ∃ dst φ, sp[i]? = some (dst, φ) := by
          have : i < sp.length := by rw [hF.spl]; exact him
          exact ⟨_, _, List.getElem?_eq_getElem this⟩
        obtain ⟨dst, φ, hs⟩ := hsp
        have hdst := hF.dst i o dst φ ho' hs
        subst hdst
        have hsz : i < listed.size := by rw [hM.size]; exact hil
        obtain ⟨ρ', hFr, hOp⟩ := depV_instF hM (ds.getD i []) ρ0 _ hM.fr (fun j hj => hasEdge_listed (hF.deps i o him ho' j hj).2 hal) (hobs.at_ hs ho' w hM.wr)
        have hnew : ∀ (v : Value) (w' : World), φ v w' → R w w' → (bs.getD i false = true → NewV v w) → MidF l bs n D ρ0 w0 R sp m l.length (listed.setIfInBounds i true) (fun j => if j = i then v else vals j) (a.put o.dst v) w' := by
          intro v w' hv hR hN
          have hput : ∀ t, (∀ d, o.dst = some d → t ≠ d) → (a.put o.dst v).tmps[t]? = a.tmps[t]? := by
            intro t ht
            cases hd : o.dst with
            | none => rfl
            | some d => simp only [Act.put, Array.getElem?_setIfInBounds]; rw [if_neg (fun e => ht d hd e.symm)]
          have hputd : ∀ d, o.dst = some d → (a.put o.dst v).tmps[d]? = some v := by
            intro d hd
            have := (hF.ok i o d him ho' hd).1
            rw [hd]
            simp [Act.put, hM.fr.size, this]
          refine ⟨⟨?_, ?_, ?_⟩, hRt _ _ _ hM.wr hR, by simpa using hM.size, ?_, ?_, ?_, ?_⟩
          · rw [← hM.fr.defers]; cases o.dst <;> rfl
          · rw [← hM.fr.size]; cases o.dst <;> simp [Act.put]
          · intro t u hl
            rw [hput t (fun d hd e => (hF.ok i o d him ho' hd).2 (by rw [← e]; exact hkeys t u hl))]
            exact hM.fr.slot t u hl
          · intro j hj
            rw [getD_set _ _ _ hsz, if_neg (by omega)]; exact hM.tail j hj
          · intro j oj j' hoj hl he
            rw [getD_set _ _ _ hsz] at hl ⊢
            by_cases e : i = j'
            · rw [if_pos e]
            · rw [if_neg e]
              by_cases e2 : i = j
              · subst e2; rw [ho'] at hoj; injection hoj with hoj; subst hoj; exact hasEdge_listed he hal
              · rw [if_neg e2] at hl; exact hM.cl j oj j' hoj hl he
          · intro i' j' b1 b2 h1 h2 hne l1 l2
            rw [getD_set _ _ _ hsz] at l1 l2
            have hgot : ∀ k, bs.getD k false = true → k < m → k ≠ i → listed.getD k false = true → OldV (vals k) w := by
              intro k hk hkm hki hl
              have hks : k < sp.length := by rw [hF.spl]; exact hkm
              have hsk : sp[k]? = some ((sp[k]).1, (sp[k]).2) := List.getElem?_eq_getElem hks
              exact hold.at_ hsk hk _ _ (hM.got k _ _ hsk hl).1
            by_cases e1 : i' = i
            · by_cases e2 : j' = i
              · exact absurd (e1.trans e2.symm) hne
              · rw [if_neg (fun e => e2 e.symm)] at l2
                rw [if_pos e1, if_neg e2]
                exact fun e => new_ne_old (hN (e1 ▸ b1)) (hgot j' b2 h2 e2 l2) e.symm
            · rw [if_neg (fun e => e1 e.symm)] at l1
              by_cases e2 : j' = i
              · rw [if_neg e1, if_pos e2]
                exact new_ne_old (hN (e2 ▸ b2)) (hgot i' b1 h1 e1 l1)
              · rw [if_neg (fun e => e2 e.symm)] at l2
                rw [if_neg e1, if_neg e2]
                exact hM.fre i' j' b1 b2 h1 h2 hne l1 l2
          · intro j dst φ' hs' hl
            rw [getD_set _ _ _ hsz] at hl
            by_cases e : j = i
            · subst e
              rw [hs] at hs'
              injection hs' with hs'
              injection hs' with e1 e2
              subst e1; subst e2
              rw [if_pos rfl]
              exact ⟨hv, hputd⟩
            · rw [if_neg (fun e' => e e'.symm)] at hl
              rw [if_neg e]
              obtain ⟨g1, g2⟩ := hM.got j dst φ' hs' hl
              refine ⟨hst.at_ hs' _ _ _ g1 hR, fun d hd => ?_⟩
              have hj : j < m := by rw [← hF.spl]; exact (List.getElem?_eq_some_iff.1 hs').1
              have hjl : j < l.length := by have := hF.le; omega
              have hoj := List.getElem?_eq_getElem hjl
              have hdj := hF.dst j _ dst φ' hoj hs'
              rw [hput d (fun d' hd' e' => by subst e'; exact hF.apart j i _ o d hj him e hoj ho' (by rw [hdj, hd]) hd')]
              exact g2 d hd
        have hcnt' := cnt_set listed i hsz hfi l.length hil
        unfold wpOp
        rw [ho]
        dsimp only
        have h1 := hOp a hFr
        split
        · rename_i hw
          rw [if_pos hw] at h1
          refine .inl (Oper.wp_mono ?_ (h1 Q))
          rintro a' w' ⟨v, rfl, hv, hR, hN⟩
          exact ih _ _ _ _ (hnew v w' hv hR hN) (by omega)
        · rename_i hw
          rw [if_neg hw] at h1
          exact ih _ _ _ _ (hnew undef w h1.1 h1.2.1 h1.2.2) (by omega)

theorem w_drawF {id : Nat} {w : World} {ρ : Env} (m : Nat) (R : World → World → Prop) (sp : Spec) (ds : List (List Nat)) (bs : List Bool) (ρ0 : Env) (hsub : Sub ρ0 ρ) (hm : P.follows .mixedOrders = true)
    (hchk : drawOkT l m n (keysOf ρ0) (sp.map (·.1)) ds = true) (hR : ∀ a, R a a) (hRt : ∀ a b c, R a b → R b c → R a c) (hst : StAll R sp) (hold : OldAll sp bs)
    (h : ∀ w0, w.grownBy w0 none → w0.heap.size = w.heap.size → ObsAllF P l.toArray n D ρ0 w0 R sp l ds bs sp ∧ (∀ w', R w0 w' → AllVF sp bs [] ρ0 w' (fun ρ => Reg P l.toArray Q (l.drop m) n D ρ w'))) :
    W P (.region id l.toArray true) Q n D ρ w := by
  intro a ha
  have hF := drawFactsT hchk
  obtain ⟨h1, h2⟩ := h w.drew (grown_drew w) rfl
  refine wp_region_any hm ?_
  have := mid_anyF hF (fun t v hl => look_of_keys hl) hRt hst hold h1 h2 l.length (Array.replicate l.length false) (fun _ => undef) a w.drew ⟨ha.sub hsub, hR _, by simp, fun i _ => by simp [Array.getD_eq_getD_getElem?, Array.getElem?_replicate]; split <;> rfl, fun i o j _ hl _ => by
    simp [Array.getD_eq_getD_getElem?, Array.getElem?_replicate] at hl
    split at hl <;> simp at hl, fun i j _ _ _ _ _ hl _ => by
    simp [Array.getD_eq_getD_getElem?, Array.getElem?_replicate] at hl
    split at hl <;> simp at hl, fun i dst φ hs hl => by
    simp [Array.getD_eq_getD_getElem?, Array.getElem?_replicate] at hl
    split at hl <;> simp at hl⟩ (by
      have : ∀ k L, cnt k L ≤ k := by
        intro k L; induction k with
        | zero => exact Nat.le_refl _
        | succ k ih => unfold cnt; split <;> omega
      exact this _ _)
  simpa using this
end
theorem fresh_ne {g g' : Nat} (h : (Value.pointer (some ⟨g, 0, none⟩)) ≠ .pointer (some ⟨g', 0, none⟩)) : g ≠ g' := fun e => h (by rw [e])
end Go.Gw

set_option linter.unusedSimpArgs false
set_option linter.unusedVariables false
namespace Go.Gw
open Go.RowKit
/-! ### Slices of numbers that lie in rows of numbers, or are older than a base -/
def URow (U : Nat) (w : World) (k : Nat) : Prop := ∃ cs p, w.heap[k]? = some (.cells cs U p)
def G (U n0 : Nat) (w : World) (k : Nat) : Prop := n0 ≤ k ∧ ¬ URow U w k
section
variable {α : Type} {K : Kd α} {U n0 : Nat} {w w' : World} {F : Nat → Prop} {v : Value} {xs : List α}
theorem URow.of {k : Nat} (e : w'.heap[k]? = w.heap[k]?) (h : URow U w k) : URow U w' k := by obtain ⟨cs, p, h⟩ := h; exact ⟨cs, p, e.trans h⟩
theorem G.of {k : Nat} (e : w'.heap[k]? = w.heap[k]?) (h : G U n0 w' k) : G U n0 w k := ⟨h.1, fun hu => h.2 (hu.of e)⟩
/-- What is kept of a slice's blocks is kept of what they are. -/
theorem Sl.gkeep (h : Sl K w (G U n0 w) v xs) (hk : ∀ k, k < w.heap.size → ¬ G U n0 w k → w'.heap[k]? = w.heap[k]?) (hKF : K.Flat) : Sl K w' (G U n0 w') v xs := by
  obtain ⟨A, c, e, h1, h2, h3⟩ := h
  refine ⟨A, c, e, h1, h2, fun i x hx => ?_⟩
  obtain ⟨g, o, us, ea, hg, hF, hr, hc⟩ := h3 i x hx
  have hb := hk g hg hF
  refine ⟨g, o, us, ea, ?_, fun hG => hF (hG.of hb), hKF _ _ _ _ _ _ hr, range_keep hc hb⟩
  rcases Nat.lt_or_ge g w'.heap.size with h | h
  · exact h
  · rw [Array.getElem?_eq_none h, Array.getElem?_eq_getElem hg] at hb; cases hb
end
section
variable {U n0 : Nat} {w w' : World} {v : Value} {xs : List Int}
theorem Sl.gg0 (h : Sl Kd.u32 w (G U n0 w) v xs) (k : w.grownBy w' Option.none) : Sl Kd.u32 w' (G U n0 w') v xs := h.gkeep (fun i hi _ => k.block i hi (by simp)) u32_flat
theorem Sl.ggB {g t : Nat} {cs : Array Value} (h : Sl Kd.u32 w (G U n0 w) v xs) (k : w.grownBy w' (some g)) (hB : Blk w g t cs) (ht : t ≠ U) (hn : n0 ≤ g) : Sl Kd.u32 w' (G U n0 w') v xs :=
  h.gkeep (fun i hi hG => k.block i hi (by
    rintro ⟨⟩
    refine hG ⟨hn, ?_⟩
    rintro ⟨cs', p, hu⟩
    unfold Blk at hB; rw [hB] at hu; injection hu with hu; injection hu with _ hu; exact ht hu)) u32_flat
theorem Sl.ggO {α : Type} {K : Kd α} {e base : Nat} {F : Nat → Prop} {v' : Value} {ys : List α} (h : Sl Kd.u32 w (G U n0 w) v xs) (k : w.grownBy w' v'.ownBlock) (hO : Gw.Own K e base w F v' ys) (ht : e ≠ U) (hn : n0 ≤ base) : Sl Kd.u32 w' (G U n0 w') v xs :=
  h.gkeep (fun i hi hG => k.block i hi (by
    intro hi'
    have hlt := hO.lt i hi'.symm
    refine hG ⟨by omega, ?_⟩
    rintro ⟨cs', p, hu⟩
    obtain ⟨us, hl, hr, ho⟩ := hO.out
    rcases ho.2 with ⟨rfl, h0⟩ | ⟨g', cap, cur, rfl, hb, hg, _⟩
    · cases hi'
    · have : g' = i := by simpa [Value.ownBlock] using hi'.symm
      subst this
      rw [hg] at hu; injection hu with hu; injection hu with _ hu; exact ht hu)) u32_flat
theorem Sl.unlocG {w0 : World} (h : Sl Kd.u32 w (Loc (G U n0 w0) w0) v xs) (hb : Below w0.heap.size w0 w) : Sl Kd.u32 w (G U n0 w) v xs := by
  refine h.weak fun k hk hG => ?_
  rcases Nat.lt_or_ge k w0.heap.size with h1 | h1
  · exact .inl (hG.of (hb.block k h1))
  · exact .inr h1
theorem Own.slG {base : Nat} {F : Nat → Prop} (h : Gw.Own Kd.u32 U base w F v xs) : Sl Kd.u32 w (G U n0 w) v xs := by
  have hs := h.sl
  obtain ⟨us, hl, hr, ho⟩ := h.out
  rcases ho.2 with ⟨rfl, h0⟩ | ⟨g', cap, cur, rfl, hb, hg, _⟩
  · have : xs = [] := List.eq_nil_of_length_eq_zero h0
    subst this
    exact ⟨Option.none, 0, rfl, by simp, by simp [maxLen], fun i x hx => by simp at hx⟩
  · obtain ⟨A, c, e, h1, h2, h3⟩ := hs
    injection e with e1 e2 e3
    subst e1; subst e3
    refine ⟨_, _, rfl, h1, h2, fun i x hx => ?_⟩
    obtain ⟨g, o, us', ea, hg', hF, hr', hc⟩ := h3 i x hx
    injection ea with ea; injection ea with ea1 ea2; subst ea1
    exact ⟨_, _, us', by rw [ea2], hg', fun hG => hG.2 ⟨_, _, hg⟩, hr', hc⟩
/-- A literal's row. -/
theorem Sl.litG {g : Nat} {cs : Array Value} {m c : Nat} (hB : Blk w g U cs) (h : Sl Kd.u32 w (fun _ => False) (.slice (some ⟨g, 0, Option.none⟩) m c) xs) : Sl Kd.u32 w (G U n0 w) (.slice (some ⟨g, 0, Option.none⟩) m c) xs := by
  obtain ⟨A, c', e, h1, h2, h3⟩ := h
  injection e with e1 e2 e3
  subst e1
  refine ⟨_, c', by rw [e2, e3], h1, h2, fun i x hx => ?_⟩
  obtain ⟨g', o, us', ea, hg', hF, hr', hc⟩ := h3 i x hx
  injection ea with ea; injection ea with ea1 ea2; subst ea1
  exact ⟨_, _, us', by rw [ea2], hg', fun hG => hG.2 ⟨_, _, hB⟩, hr', hc⟩
theorem nilG : Sl Kd.u32 w (G U n0 w) (.slice Option.none 0 0) [] := ⟨Option.none, 0, rfl, by simp, by simp [maxLen], fun i x hx => by simp at hx⟩
/-- An argument of the law's: it is older. -/
theorem Sl.oldG (h : Sl Kd.u32 w (fun _ => False) v xs) : Sl Kd.u32 w (G U w.heap.size w) v xs := by
  refine ?_
  obtain ⟨A, c, e, h1, h2, h3⟩ := h
  refine ⟨A, c, e, h1, h2, fun i x hx => ?_⟩
  obtain ⟨g, o, us, ea, hg, hF, hr, hc⟩ := h3 i x hx
  exact ⟨g, o, us, ea, hg, fun hG => by have := hG.1; omega, hr, hc⟩
theorem below_n0 {a : World} {n0 : Nat} (hn : n0 ≤ a.heap.size) (h : Below a.heap.size a w) : n0 ≤ w.heap.size := Nat.le_trans hn h.size
end
end Go.Gw

set_option linter.unusedSimpArgs false
set_option linter.unusedVariables false
namespace Go.Gw
open Go.RowKit
theorem bv_rep : ∀ k : Nat, bv (List.replicate k false) = 0
  | 0 => rfl
  | k + 1 => by rw [List.replicate_succ]; simp only [bv]; rw [bv_rep k]; rfl
theorem shl_bits {m : Int} (h : 0 ≤ m) (k : Nat) : bv (List.replicate k false ++ tb m) = m * 2 ^ k := by
  rw [bv_append, bv_rep, bv_tb h, List.length_replicate, Int.mul_comm]; omega
theorem fit_no {n : Int} (h : n < 0 ∨ 10000 < n) : fitB n = false := by
  unfold fitB
  rcases h with h | h
  · rw [decide_eq_false (by omega)]; rfl
  · rw [decide_eq_false (p := n ≤ 10000) (by omega)]; simp
theorem fit_yes {n : Int} (h0 : 0 ≤ n) (h1 : n ≤ 10000) : fitB n = true := by unfold fitB; rw [decide_eq_true h0, decide_eq_true h1]; rfl
/-! #### quotients from the last limb on -/
end Go.Gw

set_option linter.unusedSimpArgs false
set_option linter.unusedVariables false
namespace Go.Gw
open Go.RowKit
end Go.Gw

set_option linter.unusedSimpArgs false
set_option linter.unusedVariables false
/-! ### Whole numbers of any size: the plain law -/
namespace Go.Gw
open Go.RowKit
/-- The limbs of a whole number. -/
def ml (n : Int) : List Int := tl (n.natAbs : Int)
def sg (neg : Bool) (m : Int) : Int := if neg then -m else m
def Bd (k : Nat) (n : Int) : Prop := -PW k < n ∧ n < PW k
def shlN (x n : Int) : Int := if fitB n then x * 2 ^ n.toNat else 0
def shrN (x n : Int) : Int := if fitB n then x / 2 ^ n.toNat else 0
def IsBig (U n0 : Nat) (w : World) (v : Value) (n : Int) : Prop := ∃ s, v = .agg [.bool (decide (n < 0)), s].toArray ∧ Sl Kd.u32 w (G U n0 w) s (ml n)
theorem IsBig.g0 {U n0 : Nat} {w w' : World} {v : Value} {n : Int} (h : IsBig U n0 w v n) (k : w.grownBy w' none) : IsBig U n0 w' v n := by obtain ⟨s, e, hs⟩ := h; exact ⟨s, e, hs.gg0 k⟩
theorem nv_ml (n : Int) : nv (ml n) = n.natAbs := nv_tl (by omega)
theorem right_ml (n : Int) : rightL (ml n) = true := right_tl _
theorem big_of {U n0 : Nat} {w : World} {s : Value} {m n : Int} (e : m = n) (h : Sl Kd.u32 w (G U n0 w) s (ml m)) : IsBig U n0 w (.agg [.bool (decide (m < 0)), s].toArray) n := by subst e; exact ⟨s, rfl, h⟩
theorem sg_ml (ng : Bool) {m : Int} (h : 0 ≤ m) : tl m = ml (sg ng m) := by
  unfold ml; congr 1; unfold sg; split <;> omega
theorem tl_nil_iff {m : Int} (h : 0 ≤ m) : (0 < ((tl m).length : Int)) ↔ 0 < m := by
  by_cases h0 : m ≤ 0
  · rw [tl_zero h0]; simp; omega
  · rw [tl_pos (by omega)]; simp; omega
theorem sg_neg {ng : Bool} {m : Int} (h : 0 ≤ m) (hg : ng = true) : decide (0 < ((tl m).length : Int)) = decide (sg ng m < 0) := by
  rw [decide_eq_decide, tl_nil_iff h]; unfold sg; rw [if_pos hg]; omega
theorem sg_pos {ng : Bool} {m : Int} (h : 0 ≤ m) (hg : ng = false) : false = decide (sg ng m < 0) := by
  unfold sg; rw [if_neg (by simp [hg])]; simp; omega
theorem shlL_tl (xs : List Int) (n : Int) : shlL xs n = tl (shlN (nv xs) n) := by
  unfold shlL shlN; split
  · rfl
  · rw [tl_zero (Int.le_refl _)]
theorem shlN_nn {x n : Int} (h : 0 ≤ x) : 0 ≤ shlN x n := by
  unfold shlN; split
  · exact Int.mul_nonneg h (Int.le_of_lt (two_pos _))
  · exact Int.le_refl _
theorem shrN_nn {x n : Int} (h : 0 ≤ x) : 0 ≤ shrN x n := by
  unfold shrN; split
  · exact Int.ediv_nonneg h (Int.le_of_lt (two_pos _))
  · exact Int.le_refl _
/-! #### how large -/
theorem Bd.le {j k : Nat} {n : Int} (h : Bd j n) (hjk : j ≤ k) : Bd k n := by have := PW_le hjk; unfold Bd at *; omega
theorem bd_len {k : Nat} {n : Int} (h : Bd k n) : (ml n).length ≤ k := tl_len (by omega) (by unfold Bd at h; omega)
theorem bd_small {n : Int} (h : -9223372036854775808 ≤ n ∧ n ≤ 9223372036854775807) : Bd 2 n := by
  have h2 : PW 2 = 18446744073709551616 := by decide
  unfold Bd; omega
theorem bd_add {j k i : Nat} {a b : Int} (ha : Bd j a) (hb : Bd k b) (h1 : j < i) (h2 : k < i) : Bd i (a + b) := by
  have ha := ha.le (show j ≤ i - 1 by omega)
  have hb := hb.le (show k ≤ i - 1 by omega)
  have := PW_pos (i - 1)
  have := PW_succ (i - 1)
  rw [show i - 1 + 1 = i by omega] at this
  unfold Bd at *; omega
theorem bd_neg {k : Nat} {a : Int} (h : Bd k a) : Bd k (-a) := by unfold Bd at *; omega
theorem bd_sub {j k i : Nat} {a b : Int} (ha : Bd j a) (hb : Bd k b) (h1 : j < i) (h2 : k < i) : Bd i (a - b) := by rw [Int.sub_eq_add_neg]; exact bd_add ha (bd_neg hb) h1 h2
theorem bd_shl {j k : Nat} {a n : Int} (ha : Bd j a) (h : j + 313 ≤ k) : Bd k (shlN a n) := by
  refine Bd.le ?_ h
  unfold shlN
  split
  · rename_i hf
    unfold fitB at hf
    rw [Bool.and_eq_true, decide_eq_true_eq, decide_eq_true_eq] at hf
    have h0 := two_pos n.toNat
    have h1 : (2 : Int) ^ n.toNat ≤ PW 313 := by
      rw [PW_two]
      have e : (2 : Int) ^ (32 * 313) = 2 ^ n.toNat * 2 ^ (32 * 313 - n.toNat) := by rw [← Int.pow_add, show n.toNat + (32 * 313 - n.toNat) = 32 * 313 by omega]
      have := Int.mul_le_mul_of_nonneg_left (show 1 ≤ (2 : Int) ^ (32 * 313 - n.toNat) by have := two_pos (32 * 313 - n.toNat); omega) (Int.le_of_lt h0)
      omega
    have h2 := PW_pos j
    unfold Bd at *
    rw [PW_add]
    have h3 : PW j * 2 ^ n.toNat ≤ PW j * PW 313 := Int.mul_le_mul_of_nonneg_left h1 (Int.le_of_lt h2)
    have h4 : a * 2 ^ n.toNat < PW j * 2 ^ n.toNat := Int.mul_lt_mul_of_pos_right ha.2 h0
    have h5 : (-PW j) * 2 ^ n.toNat < a * 2 ^ n.toNat := Int.mul_lt_mul_of_pos_right ha.1 h0
    rw [Int.neg_mul] at h5
    omega
  · have := PW_pos (j + 313); unfold Bd; omega
/-! #### the functions -/
theorem sg_add {n m : Int} (h : decide (n < 0) = decide (m < 0)) : sg (decide (n < 0)) (nv (ml n) + nv (ml m)) = n + m := by
  rw [nv_ml, nv_ml]; rw [decide_eq_decide] at h; unfold sg; simp only [decide_eq_true_eq]; split <;> omega
theorem sg_sub {n m : Int} (h : ¬ decide (n < 0) = decide (m < 0)) (hle : nv (ml m) ≤ nv (ml n)) : sg (decide (n < 0)) (nv (ml n) - nv (ml m)) = n + m := by
  rw [nv_ml, nv_ml] at hle; rw [nv_ml, nv_ml]; rw [decide_eq_decide] at h; unfold sg; simp only [decide_eq_true_eq]; split <;> omega
theorem sg_shl (x n : Int) : sg (decide (x < 0)) (shlN (nv (ml x)) n) = shlN x n := by
  rw [nv_ml]; unfold sg shlN; simp only [decide_eq_true_eq]
  by_cases h : x < 0
  · rw [if_pos h]; split
    · rw [show ((x.natAbs : Nat) : Int) = -x by omega, Int.neg_mul, Int.neg_neg]
    · rfl
  · rw [if_neg h]; split
    · rw [show ((x.natAbs : Nat) : Int) = x by omega]
    · rfl
theorem same_big {n m : Int} : (decide (n < 0) = decide (m < 0) ∧ ml n = ml m) ↔ n = m := by
  constructor
  · rintro ⟨h1, h2⟩
    have h3 := tl_inj (m := n.natAbs) (n := m.natAbs) (by omega) (by omega) h2
    rw [decide_eq_decide] at h1; omega
  · rintro rfl; exact ⟨rfl, rfl⟩
def bigR (ng : Bool) (xs : List Int) : Bool := rightL xs && (!ng || decide (0 < (xs.length : Int)))
theorem bigR_ml (n : Int) : bigR (decide (n < 0)) (ml n) = true := by
  unfold bigR; rw [right_ml, Bool.true_and]
  by_cases h : n < 0
  · rw [show decide (0 < ((ml n).length : Int)) = true from decide_eq_true ((tl_nil_iff (by omega)).2 (by omega)), Bool.or_true]
  · rw [decide_eq_false h]; rfl
theorem bigR_out {ng : Bool} {xs : List Int} (hx : Lim xs) (h : bigR ng xs = true) : ∃ n, ng = decide (n < 0) ∧ xs = ml n := by
  unfold bigR at h
  rw [Bool.and_eq_true] at h
  have e := tl_nv hx h.1
  have h0 := nv_nonneg hx
  refine ⟨sg ng (nv xs), ?_, by rw [← sg_ml ng h0, e]⟩
  cases ng with
  | true =>
    have h2 := h.2
    rw [Bool.not_true, Bool.false_or, decide_eq_true_eq, ← e, tl_nil_iff h0] at h2
    symm; rw [decide_eq_true_eq]; unfold sg; rw [if_pos rfl]; omega
  | false => exact (sg_pos h0 rfl)
theorem of_pos {n : Int} (hn : -9223372036854775808 ≤ n ∧ n ≤ 9223372036854775807) (h : ¬ n < 0) : sg (decide (n < 0)) (nv [n % 18446744073709551616 % 4294967296, n % 18446744073709551616 / 4294967296 % 4294967296]) = n := by
  unfold sg; simp only [decide_eq_true_eq, nv]; rw [if_neg h]; omega
theorem of_neg {n : Int} (hn : -9223372036854775808 ≤ n ∧ n ≤ 9223372036854775807) (h : n < 0) : sg (decide (n < 0)) (nv [(-(n % 18446744073709551616)) % 18446744073709551616 % 4294967296, (-(n % 18446744073709551616)) % 18446744073709551616 / 4294967296 % 4294967296]) = n := by
  unfold sg; simp only [decide_eq_true_eq, nv]; rw [if_pos h]; omega
theorem cmpI_neg {x y : Int} (h : cmpI x y < 0) : x < y := by unfold cmpI at h; split at h <;> (try split at h) <;> omega
theorem cmpI_nneg {x y : Int} (h : ¬ cmpI x y < 0) : y ≤ x := by unfold cmpI at h; split at h <;> (try split at h) <;> omega
theorem cmpI_swap {a b x y : Int} (h : (x < y ↔ a < b) ∧ (y < x ↔ b < a)) : cmpI x y = cmpI a b := by
  unfold cmpI; simp only [h.1, h.2]
theorem pow_val (n : Int) : sg false (shlN (nv [1]) n) = shlN 1 n := by rw [show nv [1] = 1 from rfl]; rfl
theorem bd_one : Bd 1 1 := by unfold Bd; decide
theorem bd_zero (k : Nat) : Bd k 0 := by have := PW_pos k; unfold Bd; omega
theorem sg_minv (n : Int) : sg (decide (¬ n < 0)) ((n.natAbs : Nat) : Int) = -n := by unfold sg; simp only [decide_eq_true_eq]; split <;> omega
/-! #### the reference -/
theorem rcmp_big {n m : Int} : (0 < n - m → cmpI n m = 1) ∧ (n - m < 0 → cmpI n m = -1) ∧ (n - m = 0 → cmpI n m = 0) :=
  ⟨fun h => cmpI_gt (by omega), fun h => cmpI_lt (by omega), fun h => cmpI_eq (by omega)⟩
theorem ml_nil {n : Int} : ((ml n).length : Int) = 0 ↔ n = 0 := by
  have := tl_nil_iff (m := n.natAbs) (by omega)
  unfold ml; omega
theorem rof_pos {n : Int} (hn : -9223372036854775808 ≤ n ∧ n ≤ 9223372036854775807) (h : ¬ n < 0) : sg (decide (n < 0)) (nv [n % 18446744073709551616 % 4294967296 % 4294967296, n % 18446744073709551616 / 4294967296 % 4294967296]) = n := by
  unfold sg; simp only [decide_eq_true_eq, nv]; rw [if_neg h]; omega
theorem rof_neg {n : Int} (hn : -9223372036854775808 ≤ n ∧ n ≤ 9223372036854775807) (h : n < 0) : sg (decide (n < 0)) (nv [(-(n % 18446744073709551616)) % 18446744073709551616 % 4294967296 % 4294967296, (-(n % 18446744073709551616)) % 18446744073709551616 / 4294967296 % 4294967296]) = n := by
  unfold sg; simp only [decide_eq_true_eq, nv]; rw [if_pos h]; omega
theorem nv_shlL (xs : List Int) (n : Int) (h : 0 ≤ nv xs) : nv (shlL xs n) = shlN (nv xs) n := by rw [shlL_tl, nv_tl (shlN_nn h)]
theorem shlL_len {n k : Int} (h : Bd 90000 n) : (shlL (ml n) k).length ≤ 90313 := by
  rw [shlL_tl, nv_ml]
  have h1 : Bd 90000 (n.natAbs : Int) := by unfold Bd at *; omega
  exact tl_len (shlN_nn (by omega)) (bd_shl (n := k) h1 (show 90000 + 313 ≤ 90313 by decide)).2
/-! #### the laws -/
end Go.Gw

set_option linter.unusedSimpArgs false
set_option linter.unusedVariables false
namespace Go.Gw
open Go.RowKit
/-! ### Stores of a part; rows of structs that hold slices of numbers -/
section
variable {P : Program} {n : Nat} {D : List Deferred} {ρ : Env} {w : World}
variable {d ty : Nat} {pos : String} {after : Array Edge} {gd : Option (Nat × Bool)} {C : Value → World → Prop} {x y z : Operand}
theorem all_one {us : List Value} (h : us.all (·.oneCell') = true) : ∀ v ∈ us, v.oneCell' = true := fun v hv => List.all_eq_true.1 h v hv
/-- Some cells of a row. -/
theorem run_storePart {t m g o tb : Nat} {cs : Array Value} {us : List Value} (ht : RowF P t m) (hb : Blk w g tb cs) (h1 : us.all (·.oneCell') = true) (hl : us.length = m) (ho : o + m ≤ cs.size) :
    (storeVar t ⟨g, o, none⟩ (.agg us.toArray)).run P w = .ok () (w.setRow g (cs.toList.take o ++ us ++ cs.toList.drop (o + m)).toArray) := by
  obtain ⟨dd, hu, hr, hs⟩ := ht.out
  have h := run_storeCells_at (P := P) g o tb us 0 cs w hb (by omega) (all_one h1)
  rw [Nat.add_zero, hl] at h
  cases hq : P.info? t with
  | none => simp [hq] at hs
  | some i =>
    have hsz : i.size = us.length := by simpa [hq, hl] using hs
    simp [storeVar, sizeOf, typeInfo, hq, hsz, Value.cells, h]
theorem s_storeP {t m b o o0 tb : Nat} {cs : Array Value} {us : List Value} (ht : RowF P t m) (hx : opv ρ x = some (.pointer (some ⟨b, o0, none⟩))) (hy : opv ρ y = some (.agg us.toArray)) (hb : Blk w b tb cs) (h1 : us.all (·.oneCell') = true) (hl : us.length = m) (ho : o0 = o) (hle : o + m ≤ cs.size)
    (k : ∀ w', Blk w' b tb (cs.toList.take o ++ us ++ cs.toList.drop (o + m)).toArray → w.grownBy w' (some b) → w'.heap.size = w.heap.size → C undef w') :
    OpW P ⟨none, .store t x y, ty, pos, after, gd⟩ n D ρ w C := by
  subst ho
  have hrun := run_storePart (w := w) ht hb h1 hl hle
  refine opw_unit (w' := w.setRow b (cs.toList.take o0 ++ us ++ cs.toList.drop (o0 + m)).toArray) (fun e he => ?_) (k _ (setRow_heap w b cs _ tb _ hb) ?_ (by simp))
  · simp [execOp, Instr.storeAt, Instr.sureAddr, he x _ hx, he y _ hy, hrun]
  · exact ⟨rfl, rfl, rfl, by simp, fun k _ hne => setRow_other w b k _ (by simpa using hne)⟩
/-- 'make' with a capacity. -/
theorem s_makeC {α : Type} {K : Kd α} {t e by_ base : Nat} {F : Nat → Prop} {z : Value} {z0 : α} {kl kc : IntKind} {l c : Int} (hs : SlF P t e K.sz by_ z) (hx : opv ρ x = some (.int kl l)) (hy : opv ρ y = some (.int kc c)) (h0 : 0 ≤ l) (hlc : l ≤ c) (hm : (by_ : Int) * c ≤ 281474976710656) (h63 : c ≤ 9223372036854775807)
    (hz : ∀ w F, K.rep w F z.cells.toList z0) (hbase : base ≤ w.heap.size) (hF : ∀ k, F k → k < w.heap.size)
    (k : ∀ v w', Own K e base w' F v (List.replicate l.toNat z0) → w.grownBy w' none → C v w') : OpW P ⟨some d, .makeSlice t x y, ty, pos, after, gd⟩ n D ρ w C := by
  obtain ⟨inf, hinf, hzero, hsz, hby⟩ := hs.inf
  have hrun := run_make (P := P) w t e inf z hs.und hinf hzero kl kc l c h0 hlc (by rw [hby]; exact hm) h63
  refine opw_val (v := .slice (some ⟨w.heap.size, 0, none⟩) l.toNat c.toNat) (w' := w.alloc (.cells (madeCells z.cells (c.toNat * inf.size)) e)) (fun ev he => by simp [execOp, he x _ hx, he y _ hy, hrun]) (k _ _ ⟨⟨List.replicate l.toNat z.cells.toList, by simp, fun j u x hu hx => ?_, ?_⟩, ?_⟩ (World.grownBy_alloc w _ none))
  · have h1 := List.eq_of_mem_replicate (List.mem_of_getElem? hu)
    have h2 := List.eq_of_mem_replicate (List.mem_of_getElem? hx)
    rw [h1, h2]; exact hz _ _
  · have hzl : z.cells.toList.length = K.sz := by rw [Array.length_toList, hs.zsz]
    have hfl : (madeCells z.cells (c.toNat * inf.size)).toList.take (l.toNat * K.sz) = (List.replicate l.toNat z.cells.toList).flatten := by
      rw [hsz]
      have hcl : l.toNat * K.sz ≤ c.toNat * K.sz := Nat.mul_le_mul_right _ (by omega)
      apply List.ext_getElem?
      intro j
      rw [List.getElem?_take]
      by_cases hj : j < l.toNat * K.sz
      · rw [if_pos hj]
        have hpos := hs.pos
        have hdiv : j / K.sz < l.toNat := Nat.div_lt_of_lt_mul (by rw [Nat.mul_comm]; exact hj)
        have hmod : j % K.sz < K.sz := Nat.mod_lt _ hpos
        have hu : (List.replicate l.toNat z.cells.toList)[j / K.sz]? = some z.cells.toList := by simp [hdiv]
        have h2 := flatten_get (sz := K.sz) (List.replicate l.toNat z.cells.toList) (fun u hu => by rw [List.eq_of_mem_replicate hu, hzl]) (j / K.sz) (j % K.sz) _ hu hmod
        rw [show j / K.sz * K.sz + j % K.sz = j by rw [Nat.mul_comm]; exact Nat.div_add_mod j K.sz] at h2
        rw [h2]
        have hjc : j < c.toNat * K.sz := by omega
        simp [madeCells, hjc, hs.zsz]
        rw [Array.getElem!_eq_getD, Array.getD_eq_getD_getElem?]
        have : j % K.sz < z.cells.size := by rw [hs.zsz]; exact hmod
        simp [this]
      · rw [if_neg hj, List.getElem?_eq_none (by simp [hzl]; omega)]
    rw [List.length_replicate]
    refine ⟨?_, .inr ⟨_, _, _, rfl, hbase, heap_alloc_new w _, by omega, by simp only [maxLen]; omega, ?_, hfl⟩⟩
    · rw [← hfl, List.length_take, Array.length_toList, size_madeCells, hsz]
      have hcl : l.toNat * K.sz ≤ c.toNat * K.sz := Nat.mul_le_mul_right _ (by omega)
      omega
    · rw [size_madeCells, hsz]
  · intro g hg'
    simp [Value.ownBlock] at hg'
    subst hg'
    intro hf
    have := hF _ hf
    omega
end
/-! #### worlds apart by one block -/
section
variable {w0 w w' : World} {g g' : Nat}
theorem kj_refl (g : Nat) (w : World) : w.grownBy w (some g) := grown_row_refl _ w
theorem kj_none (h : w0.grownBy w (some g)) (k : w.grownBy w' none) : w0.grownBy w' (some g) := grown_row_trans h (grown_none_row k)
theorem kj_own (h : w0.grownBy w (some g)) (k : w.grownBy w' (some g)) : w0.grownBy w' (some g) := grown_row_trans h k
theorem kj_new (h : w0.grownBy w (some g)) (k : w.grownBy w' (some g')) (hg : w0.heap.size ≤ g') : w0.grownBy w' (some g) :=
  ⟨k.os.trans h.os, k.tape.trans h.tape, k.output.trans h.output, Nat.le_trans h.size k.size, fun i hi hne => (k.block i (Nat.lt_of_lt_of_le hi h.size) (fun e => by injection e with e; omega)).trans (h.block i hi hne)⟩
end
/-! #### kinds that hold slices of numbers -/
section
variable {α : Type} {K : Kd α} {U n0 : Nat} {w w' : World} {F : Nat → Prop} {v : Value} {xs : List α}
def GF (U n0 : Nat) (F : Nat → Prop) (w : World) (k : Nat) : Prop := F k ∨ G U n0 w k
theorem sl_gkeepF {s : Value} {ys : List Int} (h : Sl Kd.u32 w (GF U n0 F w) s ys) (hk : ∀ k, k < w.heap.size → ¬ F k → ¬ G U n0 w k → w'.heap[k]? = w.heap[k]?) : Sl Kd.u32 w' (GF U n0 F w') s ys := by
  obtain ⟨A, c, e, h1, h2, h3⟩ := h
  refine ⟨A, c, e, h1, h2, fun i x hx => ?_⟩
  obtain ⟨g, o, us, ea, hg, hF, hr, hc⟩ := h3 i x hx
  have hF1 : ¬ F g := fun h => hF (.inl h)
  have hG1 : ¬ G U n0 w g := fun h => hF (.inr h)
  have hb := hk g hg hF1 hG1
  refine ⟨g, o, us, ea, ?_, fun hG => hG.elim hF1 fun hG => hG1 (hG.of hb), hr, range_keep hc hb⟩
  rcases Nat.lt_or_ge g w'.heap.size with h | h
  · exact h
  · rw [Array.getElem?_eq_none h, Array.getElem?_eq_getElem hg] at hb; cases hb
theorem Sl.ofGF {s : Value} {ys : List Int} (h : Sl Kd.u32 w (GF U n0 F w) s ys) : Sl Kd.u32 w (G U n0 w) s ys := h.weak fun k _ hk => .inr hk
/-- What an own row of another kind leaves alone. -/
theorem Sl.outG {β : Type} {L : Kd β} {e base : Nat} {s v : Value} {ys : List Int} {zs : List β} (h : Sl Kd.u32 w (G U n0 w) s ys) (hO : Gw.Own L e base w (fun _ => False) v zs) (ht : e ≠ U) (hn : n0 ≤ base) : Sl Kd.u32 w (GF U n0 (Out (fun _ => False) v) w) s ys := by
  refine h.weak fun k hk hF => ?_
  rcases hF with hF | hG
  · rcases hF with hF | hF
    · exact hF.elim
    · have hlt := hO.lt k hF
      refine ⟨by omega, ?_⟩
      rintro ⟨cs', p, hu⟩
      obtain ⟨us, hl, hr, ho⟩ := hO.out
      rcases ho.2 with ⟨rfl, h0⟩ | ⟨g', cap, cur, rfl, hb, hg, _⟩
      · cases hF
      · have : g' = k := by simpa [Value.ownBlock] using hF
        subst this
        rw [hg] at hu; injection hu with hu; injection hu with _ hu; exact ht hu
  · exact hG
theorem Sl.outN {s : Value} {ys : List Int} (h : Sl Kd.u32 w (G U n0 w) s ys) : Sl Kd.u32 w (GF U n0 (fun _ => False) w) s ys := h.weak fun k hk hF => hF.elim (fun h => h.elim) id
/-- A kind whose data lie in one place and in slices of numbers. -/
structure Kd.GK (U n0 : Nat) (K : Kd α) : Prop where
  put : ∀ (w w' : World) (F : Nat → Prop) (u : List Value) (x : α) (g : Nat), K.rep w F u x → w.grownBy w' (some g) → G U n0 w g → K.rep w' F u x
  ones : K.Ones
theorem Own.keptG {e base g : Nat} (hK : K.GK U n0) (h : Gw.Own K e base w F v xs) (hg : w.grownBy w' (some g)) (hG : G U n0 w g) (hne : v.ownBlock ≠ some g) : Gw.Own K e base w' F v xs := by
  obtain ⟨us, hl, hr, ho⟩ := h.out
  exact ⟨⟨us, hl, fun i u x hu hx => hK.put _ _ _ _ _ _ (hr i u x hu hx) hg hG, ho.kept hg (.inr hne)⟩, h.no⟩
theorem Blk.isG {g t : Nat} {cs : Array Value} (hB : Blk w g t cs) (ht : t ≠ U) (hn : n0 ≤ g) : G U n0 w g := ⟨hn, by
  rintro ⟨cs', p, hu⟩
  unfold Blk at hB; rw [hB] at hu; injection hu with hu; injection hu with _ hu; exact ht hu⟩
theorem Own.isG {e base g : Nat} (hO : Gw.Own K e base w F v xs) (hv : v.ownBlock = some g) (ht : e ≠ U) (hn : n0 ≤ base) : G U n0 w g := by
  have hlt := hO.lt g hv
  refine ⟨by omega, ?_⟩
  rintro ⟨cs', p, hu⟩
  obtain ⟨us, hl, hr, ho⟩ := hO.out
  rcases ho.2 with ⟨rfl, h0⟩ | ⟨g', cap, cur, rfl, hb, hg, _⟩
  · cases hv
  · have : g' = g := by simpa [Value.ownBlock] using hv
    subst this
    rw [hg] at hu; injection hu with hu; injection hu with _ hu; exact ht hu
theorem Own.neB {e base t g : Nat} {cs : Array Value} (h : Gw.Own K e base w F v xs) (hb : Blk w g t cs) (hne : e ≠ t) : v.ownBlock ≠ some g := fun he => by
  rcases h.ne_blk hb hne with h' | h'
  · rw [h'] at he; cases he
  · exact h' he
end
/-- A whole number as a kind. -/
def Kd.big (U n0 : Nat) : Kd Int where
  sz := 2
  rep := fun w F us n => ∃ s, us = [.bool (decide (n < 0)), s] ∧ Sl Kd.u32 w (GF U n0 F w) s (ml n)
  len := by rintro _ _ _ _ ⟨s, rfl, _⟩; rfl
  keep := by
    rintro w w' F _ x ⟨s, rfl, h⟩ hk
    exact ⟨s, rfl, sl_gkeepF h fun k hk1 hk2 _ => hk k hk1 hk2⟩
  weak := by
    rintro w F F' _ x ⟨s, rfl, h⟩ hf
    exact ⟨s, rfl, h.weak fun k hk hF => hF.elim (fun h => .inl (hf k hk h)) .inr⟩
theorem ml_zero : ml 0 = [] := tl_zero (Int.le_refl _)
/-- Of a node: where its cells are. -/
structure Spn where
  some : Bool
  fx : Int
  fy : Int
  tx : Int
  ty : Int
deriving DecidableEq
instance : Inhabited Spn := ⟨⟨false, 0, 0, 0, 0⟩⟩
def Kd.span (U n0 : Nat) : Kd Spn where
  sz := 9
  rep := fun w F us x => ∃ a b c d, us = [.bool x.some, .bool (decide (x.fx < 0)), a, .bool (decide (x.fy < 0)), b, .bool (decide (x.tx < 0)), c, .bool (decide (x.ty < 0)), d] ∧ Sl Kd.u32 w (GF U n0 F w) a (ml x.fx) ∧ Sl Kd.u32 w (GF U n0 F w) b (ml x.fy) ∧ Sl Kd.u32 w (GF U n0 F w) c (ml x.tx) ∧ Sl Kd.u32 w (GF U n0 F w) d (ml x.ty)
  len := by rintro _ _ _ _ ⟨a, b, c, d, rfl, _⟩; rfl
  keep := by
    rintro w w' F _ x ⟨a, b, c, d, rfl, h1, h2, h3, h4⟩ hk
    have f := fun {s : Value} {ys : List Int} (h : Sl Kd.u32 w (GF U n0 F w) s ys) => sl_gkeepF (w' := w') h fun k hk1 hk2 _ => hk k hk1 hk2
    exact ⟨a, b, c, d, rfl, f h1, f h2, f h3, f h4⟩
  weak := by
    rintro w F F' _ x ⟨a, b, c, d, rfl, h1, h2, h3, h4⟩ hf
    have f := fun {s : Value} {ys : List Int} (h : Sl Kd.u32 w (GF U n0 F w) s ys) => h.weak (F' := GF U n0 F' w) fun k hk hF => hF.elim (fun h => .inl (hf k hk h)) .inr
    exact ⟨a, b, c, d, rfl, f h1, f h2, f h3, f h4⟩
theorem span_gk (U n0 : Nat) : (Kd.span U n0).GK U n0 where
  put := by
    rintro w w' F _ x g ⟨a, b, c, d, rfl, h1, h2, h3, h4⟩ hg hG
    have f := fun {s : Value} {ys : List Int} (h : Sl Kd.u32 w (GF U n0 F w) s ys) => sl_gkeepF (w' := w') h fun k hk _ hk2 => hg.block k hk (by rintro ⟨⟩; exact hk2 hG)
    exact ⟨a, b, c, d, rfl, f h1, f h2, f h3, f h4⟩
  ones := by
    rintro w F _ x ⟨a, b, c, d, rfl, h1, h2, h3, h4⟩ q hq
    simp at hq
    rcases hq with rfl | rfl | rfl | rfl | rfl | rfl | rfl | rfl | rfl
    · rfl
    · rfl
    · exact h1.one
    · rfl
    · exact h2.one
    · rfl
    · exact h3.one
    · rfl
    · exact h4.one
end Go.Gw

set_option linter.unusedSimpArgs false
set_option linter.unusedVariables false
/-! ### Where the cells of a tree are: edges -/
namespace Go.Gw
open Go.RowKit
/-- The lesser, the greater of what there is; the first stays among equals. -/
def mo : Option Int → Option Int → Option Int
  | none, y => y
  | some a, none => some a
  | some a, some b => some (if b < a then b else a)
def mx : Option Int → Option Int → Option Int
  | none, y => y
  | some a, none => some a
  | some a, some b => some (if a < b then b else a)
theorem mo_none (x : Option Int) : mo x none = x := by cases x <;> rfl
theorem mx_none (x : Option Int) : mx x none = x := by cases x <;> rfl
def hf (v : Int) : Int := 2 ^ (v - 1).toNat
def shE (f : Int → Bool) (v k : Int) (o : Option Int) : Option Int := o.map fun e => e + if f k then hf v else 0
def cellE (c a : Int) : Option Int := if a = 0 then none else some c
def fold4 (m : Option Int → Option Int → Option Int) (g : Int → Option Int) : Option Int := m (m (m (g 0) (g 1)) (g 2)) (g 3)
/-- The edge of a tree: 'm' chooses, 'c' is what a cell itself adds, 'f' tells the far quarters. -/
def eg (m : Option Int → Option Int → Option Int) (c : Int) (f : Int → Bool) : Tr → Option Int
  | .no => none
  | .leaf a b d e => m (m (m (shE f 1 0 (cellE c a)) (shE f 1 1 (cellE c b))) (shE f 1 2 (cellE c d))) (shE f 1 3 (cellE c e))
  | .nd v a b d e => m (m (m (shE f v 0 (eg m c f a)) (shE f v 1 (eg m c f b))) (shE f v 2 (eg m c f d))) (shE f v 3 (eg m c f e))
abbrev ea := eg mo 0
abbrev ta := eg mx 1
/-- What a node's k-th quarter adds. -/
def egK (m : Option Int → Option Int → Option Int) (c : Int) (f : Int → Bool) (l : List Nd) (x : Nd) (k : Int) : Option Int :=
  shE f x.lv k (if x.lv = 1 then cellE c (x.kid k) else eg m c f (tr l (x.kid k)))
theorem eg_at {m : Option Int → Option Int → Option Int} {c : Int} {f : Int → Bool} {l : List Nd} (hl : looseB l = true) {n : Int} (h0 : 1 ≤ n) (h1 : n ≤ l.length) :
    eg m c f (tr l n) = fold4 m (egK m c f l (ix l (n - 1))) := by
  rw [tr_at hl h0 h1]
  by_cases hv : (ix l (n - 1)).lv = 1
  · rw [if_pos hv]; simp only [eg, fold4, egK, hv, if_pos, Nd.kid]; rfl
  · rw [if_neg hv]; simp only [eg, fold4, egK, hv, if_false, Nd.kid]; rfl
theorem mo_isSome (x y : Option Int) : (mo x y).isSome = (x.isSome || y.isSome) := by cases x <;> cases y <;> rfl
theorem mx_isSome (x y : Option Int) : (mx x y).isSome = (x.isSome || y.isSome) := by cases x <;> cases y <;> rfl
theorem shE_isSome (f : Int → Bool) (v k : Int) (o : Option Int) : (shE f v k o).isSome = o.isSome := by cases o <;> rfl
theorem cellE_isSome (c a : Int) : (cellE c a).isSome = !decide (a = 0) := by unfold cellE; split <;> simp [*]
theorem eg_isSome {m : Option Int → Option Int → Option Int} (hm : ∀ x y, (m x y).isSome = (x.isSome || y.isSome)) (c : Int) (f : Int → Bool) : ∀ t : Tr, (eg m c f t).isSome = !emp t
  | .no => rfl
  | .leaf a b d e => by simp only [eg, hm, shE_isSome, cellE_isSome, emp]; cases decide (a = 0) <;> cases decide (b = 0) <;> cases decide (d = 0) <;> cases decide (e = 0) <;> rfl
  | .nd v a b d e => by
    simp only [eg, hm, shE_isSome, eg_isSome hm c f a, eg_isSome hm c f b, eg_isSome hm c f d, eg_isSome hm c f e, emp]
    cases emp a <;> cases emp b <;> cases emp d <;> cases emp e <;> rfl
theorem hf_one : hf 1 = 1 := rfl
theorem hf_pos (v : Int) : 0 < hf v := two_pos _
theorem hf_two {v : Int} (h : 2 ≤ v) : 2 * hf (v - 1) = hf v := by
  unfold hf; rw [show (v - 1).toNat = (v - 1 - 1).toNat + 1 by omega, Int.pow_succ]; omega
/-- Between nought and the width of the tree. -/
def Btw (lo hi : Int) (o : Option Int) : Prop := ∀ e, o = some e → lo ≤ e ∧ e ≤ hi
theorem btw_mo {lo hi : Int} {x y : Option Int} (hx : Btw lo hi x) (hy : Btw lo hi y) : Btw lo hi (mo x y) := by
  cases x <;> cases y <;> intro e h <;> simp [mo] at h
  · exact hy _ (by rw [h])
  · exact hx _ (by rw [h])
  · have := hx _ rfl; have := hy _ rfl; split at h <;> omega
theorem btw_mx {lo hi : Int} {x y : Option Int} (hx : Btw lo hi x) (hy : Btw lo hi y) : Btw lo hi (mx x y) := by
  cases x <;> cases y <;> intro e h <;> simp [mx] at h
  · exact hy _ (by rw [h])
  · exact hx _ (by rw [h])
  · have := hx _ rfl; have := hy _ rfl; split at h <;> omega
theorem btw_sh {f : Int → Bool} {v k lo hi : Int} {o : Option Int} (h : Btw lo hi o) : Btw lo (hi + hf v) (shE f v k o) := by
  intro e he
  cases o with
  | none => cases he
  | some a =>
    have h1 := h a rfl
    have h2 := hf_pos v
    simp [shE] at he
    split at he <;> omega
theorem btw_cell (c a : Int) : Btw c c (cellE c a) := by intro e h; unfold cellE at h; split at h <;> simp at h; omega
theorem btw_mono {lo hi lo' hi' : Int} {o : Option Int} (h : Btw lo hi o) (h1 : lo' ≤ lo) (h2 : hi ≤ hi') : Btw lo' hi' o := fun e he => by have := h e he; omega
/-- The edges lie in the tree; 'c' is 0 for the near ones and 1 for the far ones. -/
theorem eg_btw {m : Option Int → Option Int → Option Int} (hm : ∀ {lo hi : Int} {x y : Option Int}, Btw lo hi x → Btw lo hi y → Btw lo hi (m x y)) {c : Int} (hc : 0 ≤ c ∧ c ≤ 1) (f : Int → Bool) : ∀ (t : Tr) {v : Int}, wf v t → Btw c (2 * hf v - 1 + c) (eg m c f t)
  | .no, v, _ => fun e h => by cases h
  | .leaf a b d e, v, h => by
    obtain ⟨rfl, _⟩ := h
    have q := fun (k a : Int) => btw_mono (btw_sh (f := f) (v := 1) (k := k) (btw_cell c a)) (Int.le_refl _) (show c + hf 1 ≤ 2 * hf 1 - 1 + c by rw [hf_one]; omega)
    exact hm (hm (hm (q _ _) (q _ _)) (q _ _)) (q _ _)
  | .nd u a b d e, v, h => by
    obtain ⟨rfl, h2, _, ha, hb, hd, he⟩ := h
    have q := fun (k : Int) (t : Tr) (ht : wf (u - 1) t) (ih : Btw c (2 * hf (u - 1) - 1 + c) (eg m c f t)) => btw_mono (btw_sh (f := f) (v := u) (k := k) ih) (Int.le_refl _) (show 2 * hf (u - 1) - 1 + c + hf u ≤ 2 * hf u - 1 + c by rw [hf_two h2]; omega)
    exact hm (hm (hm (q 0 _ ha (eg_btw hm hc f a ha)) (q 1 _ hb (eg_btw hm hc f b hb))) (q 2 _ hd (eg_btw hm hc f d hd))) (q 3 _ he (eg_btw hm hc f e he))
/-! #### what the program keeps of each node -/
def fX (k : Int) : Bool := decide (k % 2 = 1)
def fY (k : Int) : Bool := decide (2 ≤ k)
/-- With another one. -/
def joinS (s t : Spn) (a b : Int) : Spn :=
  if t.some then ⟨true, if s.some then (if t.fx + a < s.fx then t.fx + a else s.fx) else t.fx + a, if s.some then (if t.fy + b < s.fy then t.fy + b else s.fy) else t.fy + b,
    if s.some then (if s.tx < t.tx + a then t.tx + a else s.tx) else t.tx + a, if s.some then (if s.ty < t.ty + b then t.ty + b else s.ty) else t.ty + b⟩ else s
/-- Four edges as a span: nothing, or all of them. -/
def spO (a b c d : Option Int) : Spn := ⟨a.isSome, a.getD 0, b.getD 0, c.getD 0, d.getD 0⟩
def spn (t : Tr) : Spn := spO (ea fX t) (ea fY t) (ta fX t) (ta fY t)
def Al (a b c d : Option Int) : Prop := b.isSome = a.isSome ∧ c.isSome = a.isSome ∧ d.isSome = a.isSome
theorem spO_join {a b c d a' b' c' d' : Option Int} {p q : Int} (h : Al a b c d) (h' : Al a' b' c' d') :
    joinS (spO a b c d) (spO a' b' c' d') p q = spO (mo a (a'.map (· + p))) (mo b (b'.map (· + q))) (mx c (c'.map (· + p))) (mx d (d'.map (· + q))) := by
  obtain ⟨h1, h2, h3⟩ := h
  obtain ⟨k1, k2, k3⟩ := h'
  cases a <;> cases b <;> cases c <;> cases d <;> simp at h1 h2 h3 <;> cases a' <;> cases b' <;> cases c' <;> cases d' <;> simp at k1 k2 k3 <;> simp [joinS, spO, mo, mx] <;> exact ⟨rfl, rfl, rfl, rfl⟩
theorem al_mo {a b c d a' b' c' d' : Option Int} (h : Al a b c d) (h' : Al a' b' c' d') : Al (mo a a') (mo b b') (mx c c') (mx d d') := by
  obtain ⟨h1, h2, h3⟩ := h
  obtain ⟨k1, k2, k3⟩ := h'
  unfold Al; rw [mo_isSome, mo_isSome, mx_isSome, mx_isSome, h1, h2, h3, k1, k2, k3]; simp
theorem al_eg (t : Tr) : Al (ea fX t) (ea fY t) (ta fX t) (ta fY t) := by
  unfold Al ea ta; simp [eg_isSome mo_isSome, eg_isSome mx_isSome]
/-- After k quarters. -/
def egN (m : Option Int → Option Int → Option Int) (g : Int → Option Int) : Nat → Option Int
  | 0 => none
  | k + 1 => m (egN m g k) (g k)
theorem egN4 {m : Option Int → Option Int → Option Int} (h0 : ∀ y, m none y = y) (g : Int → Option Int) : egN m g 4 = fold4 m g := by
  simp [egN, fold4, h0]
theorem mo_0 (y : Option Int) : mo none y = y := by cases y <;> rfl
theorem mx_0 (y : Option Int) : mx none y = y := by cases y <;> rfl
def spK (l : List Nd) (x : Nd) (k : Nat) : Spn := spO (egN mo (egK mo 0 fX l x) k) (egN mo (egK mo 0 fY l x) k) (egN mx (egK mx 1 fX l x) k) (egN mx (egK mx 1 fY l x) k)
theorem spK_zero (l : List Nd) (x : Nd) : spK l x 0 = ⟨false, 0, 0, 0, 0⟩ := rfl
theorem spK_four {l : List Nd} (hl : looseB l = true) {n : Int} (h0 : 1 ≤ n) (h1 : n ≤ l.length) : spK l (ix l (n - 1)) 4 = spn (tr l n) := by
  unfold spK spn ea ta; rw [egN4 mo_0, egN4 mo_0, egN4 mx_0, egN4 mx_0, eg_at hl h0 h1, eg_at hl h0 h1, eg_at hl h0 h1, eg_at hl h0 h1]
theorem al_egN {g1 g2 g3 g4 : Int → Option Int} (h : ∀ k : Int, Al (g1 k) (g2 k) (g3 k) (g4 k)) : ∀ k : Nat, Al (egN mo g1 k) (egN mo g2 k) (egN mx g3 k) (egN mx g4 k)
  | 0 => ⟨rfl, rfl, rfl⟩
  | k + 1 => al_mo (al_egN h k) (h k)
theorem al_egK (l : List Nd) (x : Nd) (k : Int) : Al (egK mo 0 fX l x k) (egK mo 0 fY l x k) (egK mx 1 fX l x k) (egK mx 1 fY l x k) := by
  unfold Al egK
  simp only [shE_isSome]
  by_cases h : x.lv = 1
  · simp only [h, if_true, cellE_isSome]; simp
  · simp only [h, if_false, eg_isSome mo_isSome, eg_isSome mx_isSome]; simp
/-- One quarter more. -/
theorem spK_nd {l : List Nd} {x : Nd} {k : Nat} (hv : x.lv ≠ 1) : joinS (spK l x k) (spn (tr l (x.kid k))) (if fX k then hf x.lv else 0) (if fY k then hf x.lv else 0) = spK l x (k + 1) := by
  unfold spK spn
  rw [spO_join (al_egN (al_egK l x) k) (al_eg _)]
  simp only [egN, egK, shE, hv, if_false]
theorem spK_leaf {l : List Nd} {x : Nd} {k : Nat} (hv : x.lv = 1) (hc : x.kid k ≠ 0) : joinS (spK l x k) ⟨true, 0, 0, 1, 1⟩ (if fX k then hf x.lv else 0) (if fY k then hf x.lv else 0) = spK l x (k + 1) := by
  have h := spO_join (p := if fX k then hf x.lv else 0) (q := if fY k then hf x.lv else 0) (al_egN (al_egK l x) k) (a' := some 0) (b' := some 0) (c' := some 1) (d' := some 1) ⟨rfl, rfl, rfl⟩
  unfold spK
  rw [show (⟨true, 0, 0, 1, 1⟩ : Spn) = spO (some 0) (some 0) (some 1) (some 1) from rfl, h]
  simp only [egN, egK, shE, hv, if_true, cellE, hc, if_false]
theorem spK_none {l : List Nd} {x : Nd} {k : Nat} (hv : x.lv = 1) (hc : x.kid k = 0) : spK l x k = spK l x (k + 1) := by
  unfold spK
  simp only [egN, egK, shE, hv, if_true, cellE, hc, Option.map_none, mo_none, mx_none]
/-! #### how large -/
theorem bd_if {k : Nat} {p : Prop} [Decidable p] {a b : Int} (ha : Bd k a) (hb : Bd k b) : Bd k (if p then b else a) := by split <;> assumption
theorem cmpI_gt0 {x y : Int} (h : 0 < cmpI x y) : y < x := by unfold cmpI at h; split at h <;> (try split at h) <;> omega
theorem cmpI_le0 {x y : Int} (h : ¬ 0 < cmpI x y) : x ≤ y := by unfold cmpI at h; split at h <;> (try split at h) <;> omega
structure SpBd (k : Nat) (s : Spn) : Prop where
  fx : Bd k s.fx
  fy : Bd k s.fy
  tx : Bd k s.tx
  ty : Bd k s.ty
structure Sm (s : Spn) : Prop where
  fx : 0 ≤ s.fx ∧ s.fx < 2 ^ 1330
  fy : 0 ≤ s.fy ∧ s.fy < 2 ^ 1330
  tx : 0 ≤ s.tx ∧ s.tx < 2 ^ 1330
  ty : 0 ≤ s.ty ∧ s.ty < 2 ^ 1330
theorem shl_hf {v : Int} (h : 1 ≤ v ∧ v ≤ 1329) : shlN 1 (v - 1) = hf v := by
  unfold shlN hf; rw [if_pos (fit_yes (by omega) (by omega)), Int.one_mul]
theorem hf_le {v : Int} (h : v ≤ 1329) : hf v ≤ hf 1329 := by
  unfold hf
  have e : (2 : Int) ^ ((1329 : Int) - 1).toNat = 2 ^ (v - 1).toNat * 2 ^ (((1329 : Int) - 1).toNat - (v - 1).toNat) := by rw [← Int.pow_add]; congr 1; omega
  have h1 := two_pos (v - 1).toNat
  have h2 := two_pos (((1329 : Int) - 1).toNat - (v - 1).toNat)
  have := Int.mul_le_mul_of_nonneg_left (show 1 ≤ (2 : Int) ^ (((1329 : Int) - 1).toNat - (v - 1).toNat) by omega) (Int.le_of_lt h1)
  omega
theorem bd_hf {v : Int} (h : v ≤ 1329) : Bd 42 (hf v) := by
  have h1 := hf_le h
  have h2 := hf_pos v
  have h3 : hf 1329 < PW 42 := by decide +kernel
  unfold Bd; omega
theorem bd_between {v e c : Int} (h : v ≤ 1329) (hc : 0 ≤ c ∧ c ≤ 1) (he : c ≤ e ∧ e ≤ 2 * hf v - 1 + c) : Bd 42 e := by
  have h1 := hf_le h
  have h3 : 2 * hf 1329 < PW 42 := by decide +kernel
  unfold Bd; omega
theorem btw_egN {m : Option Int → Option Int → Option Int} (hm : ∀ {lo hi : Int} {x y : Option Int}, Btw lo hi x → Btw lo hi y → Btw lo hi (m x y)) {g : Int → Option Int} {lo hi : Int} (h : ∀ k : Int, 0 ≤ k → k < 4 → Btw lo hi (g k)) : ∀ k : Nat, k ≤ 4 → Btw lo hi (egN m g k)
  | 0, _ => fun e h => by cases h
  | k + 1, hk => hm (btw_egN hm h k (by omega)) (h k (by omega) (by omega))
theorem btw_egK {m : Option Int → Option Int → Option Int} (hm : ∀ {lo hi : Int} {x y : Option Int}, Btw lo hi x → Btw lo hi y → Btw lo hi (m x y)) {c : Int} (hc : 0 ≤ c ∧ c ≤ 1) (f : Int → Bool) {l : List Nd} (hl : looseB l = true) {i : Int} (h0 : 0 ≤ i) (h1 : i < l.length) (k : Int) (k0 : 0 ≤ k) (k1 : k < 4) :
    Btw c (2 * hf (ix l i).lv - 1 + c) (egK m c f l (ix l i) k) := by
  unfold egK
  have hlv := lv_in hl h0 h1
  by_cases hv : (ix l i).lv = 1
  · rw [if_pos hv, hv]
    exact btw_mono (btw_sh (btw_cell c _)) (Int.le_refl _) (by rw [hf_one]; omega)
  · rw [if_neg hv]
    have r := kid_rng hl h0 h1 hv k k0 k1
    have hw := wf_tr hl ((ix l i).kid k) r.1 (by omega) ((ix l i).lv - 1) (fun hk => by have := kid_in hl h0 h1 k0 k1 hv hk; omega)
    exact btw_mono (btw_sh (eg_btw hm hc f _ hw)) (Int.le_refl _) (by rw [← hf_two (v := (ix l i).lv) (by omega)]; omega)
theorem bd_getD {o : Option Int} {k : Nat} (h : ∀ e, o = some e → Bd k e) : Bd k (o.getD 0) := by
  cases o with
  | none => exact bd_zero k
  | some e => exact h e rfl
theorem spK_bd {l : List Nd} (hl : looseB l = true) {i : Int} (h0 : 0 ≤ i) (h1 : i < l.length) (k : Nat) (hk : k ≤ 4) : SpBd 43 (spK l (ix l i) k) := by
  have hlv := lv_in hl h0 h1
  have q0 := fun f => btw_egN btw_mo (fun k k0 k1 => btw_egK btw_mo (c := 0) (by omega) f hl h0 h1 k k0 k1) k hk
  have q1 := fun f => btw_egN btw_mx (fun k k0 k1 => btw_egK btw_mx (c := 1) (by omega) f hl h0 h1 k k0 k1) k hk
  refine ⟨?_, ?_, ?_, ?_⟩
  · exact (bd_getD fun e he => bd_between hlv.2 (by omega) (q0 _ e he)).le (by decide)
  · exact (bd_getD fun e he => bd_between hlv.2 (by omega) (q0 _ e he)).le (by decide)
  · exact (bd_getD fun e he => bd_between hlv.2 (by omega) (q1 _ e he)).le (by decide)
  · exact (bd_getD fun e he => bd_between hlv.2 (by omega) (q1 _ e he)).le (by decide)
theorem spn_bd {l : List Nd} (hl : looseB l = true) {n : Int} (h0 : 0 ≤ n) (h1 : n ≤ l.length) : SpBd 43 (spn (tr l n)) := by
  by_cases hn : n = 0
  · subst hn; rw [tr_zero]; exact ⟨bd_zero 43, bd_zero 43, bd_zero 43, bd_zero 43⟩
  · rw [← spK_four hl (by omega) h1]; exact spK_bd hl (by omega) (by omega) 4 (by decide)
theorem one_bd : SpBd 43 ⟨true, 0, 0, 1, 1⟩ := ⟨bd_zero 43, bd_zero 43, bd_one.le (by decide), bd_one.le (by decide)⟩
theorem iand_pos1 {k : Int} (h0 : 0 ≤ k) (h1 : k < 4) : (iand k 1 ≠ 0) ↔ fX k = true := by
  have : k = 0 ∨ k = 1 ∨ k = 2 ∨ k = 3 := by omega
  rcases this with rfl | rfl | rfl | rfl <;> decide
theorem iand_pos2 {k : Int} (h0 : 0 ≤ k) (h1 : k < 4) : (iand k 2 ≠ 0) ↔ fY k = true := by
  have : k = 0 ∨ k = 1 ∨ k = 2 ∨ k = 3 := by omega
  rcases this with rfl | rfl | rfl | rfl <;> decide
/-- A list of one span, that lies in a row of its own. -/
theorem lit_span {U n0 t g e base : Nat} {w : World} {v a b c d : Value} {x : Spn} {ys : List Spn} (hB : Blk w g t [.bool x.some, .bool (decide (x.fx < 0)), a, .bool (decide (x.fy < 0)), b, .bool (decide (x.tx < 0)), c, .bool (decide (x.ty < 0)), d].toArray)
    (h1 : Sl Kd.u32 w (G U n0 w) a (ml x.fx)) (h2 : Sl Kd.u32 w (G U n0 w) b (ml x.fy)) (h3 : Sl Kd.u32 w (G U n0 w) c (ml x.tx)) (h4 : Sl Kd.u32 w (G U n0 w) d (ml x.ty))
    (hO : Gw.Own (Kd.span U n0) e base w (fun _ => False) v ys) (hg : v.ownBlock ≠ some g) (ht : e ≠ U) (hn : n0 ≤ base) : Sl (Kd.span U n0) w (Out (fun _ => False) v) (.slice (some ⟨g, 0, none⟩) 1 1) [x] := by
  refine sl_lit (us := [[.bool x.some, .bool (decide (x.fx < 0)), a, .bool (decide (x.fy < 0)), b, .bool (decide (x.tx < 0)), c, .bool (decide (x.ty < 0)), d]]) (by simpa using hB) rfl (by simp [Kd.span]) (fun h => h.elim id hg) rfl (by decide) ?_
  intro i u y hu hy
  cases i with
  | zero =>
    simp at hu hy; subst hu; subst hy
    exact ⟨a, b, c, d, rfl, h1.outG hO ht hn, h2.outG hO ht hn, h3.outG hO ht hn, h4.outG hO ht hn⟩
  | succ i => simp at hu
theorem span_zero (U n0 : Nat) (w : World) (F : Nat → Prop) : (Kd.span U n0).rep w F [.bool false, .bool false, .slice none 0 0, .bool false, .slice none 0 0, .bool false, .slice none 0 0, .bool false, .slice none 0 0] ⟨false, 0, 0, 0, 0⟩ := by
  have h : ∀ F : Nat → Prop, Sl Kd.u32 w F (.slice none 0 0) (ml 0) := fun F => by rw [ml_zero]; exact ⟨none, 0, rfl, by simp, by simp [maxLen], fun i x hx => by simp at hx⟩
  exact ⟨_, _, _, _, rfl, h _, h _, h _, h _⟩
theorem spK_ndI {l : List Nd} {x : Nd} {k A B : Int} {t : Spn} (h0 : 0 ≤ k) (hv : x.lv ≠ 1) (hA : A = if fX k then hf x.lv else 0) (hB : B = if fY k then hf x.lv else 0) (ht : t = spn (tr l (x.kid k))) : joinS (spK l x k.toNat) t A B = spK l x (k + 1).toNat := by
  have h := spK_nd (l := l) (x := x) (k := k.toNat) hv
  rw [show ((k.toNat : Nat) : Int) = k by omega] at h
  rw [hA, hB, ht, h, show (k + 1).toNat = k.toNat + 1 by omega]
theorem spK_leafI {l : List Nd} {x : Nd} {k A B : Int} (h0 : 0 ≤ k) (hv : x.lv = 1) (hc : x.kid k ≠ 0) (hA : A = if fX k then hf x.lv else 0) (hB : B = if fY k then hf x.lv else 0) : joinS (spK l x k.toNat) ⟨true, 0, 0, 1, 1⟩ A B = spK l x (k + 1).toNat := by
  have h := spK_leaf (l := l) (x := x) (k := k.toNat) hv (by rw [show ((k.toNat : Nat) : Int) = k by omega]; exact hc)
  rw [show ((k.toNat : Nat) : Int) = k by omega] at h
  rw [hA, hB, h, show (k + 1).toNat = k.toNat + 1 by omega]
theorem spK_noneI {l : List Nd} {x : Nd} {k : Int} (h0 : 0 ≤ k) (hv : x.lv = 1) (hc : x.kid k = 0) : spK l x k.toNat = spK l x (k + 1).toNat := by
  rw [show (k + 1).toNat = k.toNat + 1 by omega]; exact spK_none hv (by rw [show ((k.toNat : Nat) : Int) = k by omega]; exact hc)
theorem fX_yes {k A : Int} (h0 : 0 ≤ k) (h1 : k < 4) (h : iand k 1 ≠ 0) : A = if fX k then A else 0 := by rw [if_pos ((iand_pos1 h0 h1).1 h)]
theorem fX_no {k A : Int} (h0 : 0 ≤ k) (h1 : k < 4) (h : ¬ iand k 1 ≠ 0) : (0 : Int) = if fX k then A else 0 := by rw [if_neg fun e => h ((iand_pos1 h0 h1).2 e)]
theorem fY_yes {k A : Int} (h0 : 0 ≤ k) (h1 : k < 4) (h : iand k 2 ≠ 0) : A = if fY k then A else 0 := by rw [if_pos ((iand_pos2 h0 h1).1 h)]
theorem fY_no {k A : Int} (h0 : 0 ≤ k) (h1 : k < 4) (h : ¬ iand k 2 ≠ 0) : (0 : Int) = if fY k then A else 0 := by rw [if_neg fun e => h ((iand_pos2 h0 h1).2 e)]
theorem spans_snoc {os : List Spn} {l : List Nd} {i : Int} (h0 : 0 ≤ i) (hl : (os.length : Int) = i + 1) (h : ∀ j : Int, 0 ≤ j → j ≤ i → ix os j = spn (tr l j)) {x : Spn} (hx : x = spn (tr l (i + 1))) : ∀ j : Int, 0 ≤ j → j ≤ i + 1 → ix (os ++ [x]) j = spn (tr l j) := by
  intro j j0 j1
  by_cases hj : j = i + 1
  · subst hj; unfold ix; rw [List.getD_eq_getElem?_getD, List.getElem?_append_right (by omega), show (i + 1).toNat - os.length = 0 by omega]; simpa using hx
  · rw [ix_append_left os [x] j j0 (by omega)]; exact h j j0 (by omega)
/-! #### the box -/
structure Bx where
  x : Int
  y : Int
  w : Int
  h : Int
deriving DecidableEq
def bxs (l : List Nd) : Spn := spn (tr l l.length)
def bxOf (l : List Nd) : Bx := if (bxs l).some then ⟨(bxs l).fx - hf (levelN l), (bxs l).fy - hf (levelN l), (bxs l).tx - (bxs l).fx, (bxs l).ty - (bxs l).fy⟩ else ⟨0, 0, 0, 0⟩
theorem bxOf_no {l : List Nd} (h : (bxs l).some = false) : bxOf l = ⟨0, 0, 0, 0⟩ := by unfold bxOf; rw [h]; rfl
theorem bxOf_yes {l : List Nd} (h : (bxs l).some = true) : bxOf l = ⟨(bxs l).fx - hf (levelN l), (bxs l).fy - hf (levelN l), (bxs l).tx - (bxs l).fx, (bxs l).ty - (bxs l).fy⟩ := by unfold bxOf; rw [h]; rfl
def IsBox (U n0 : Nat) (w : World) (v : Value) (b : Bx) : Prop := ∃ p q r s, v = .agg [.bool (decide (b.x < 0)), p, .bool (decide (b.y < 0)), q, .bool (decide (b.w < 0)), r, .bool (decide (b.h < 0)), s].toArray ∧ Sl Kd.u32 w (G U n0 w) p (ml b.x) ∧ Sl Kd.u32 w (G U n0 w) q (ml b.y) ∧ Sl Kd.u32 w (G U n0 w) r (ml b.w) ∧ Sl Kd.u32 w (G U n0 w) s (ml b.h)
theorem bxs_bd {l : List Nd} (hl : looseB l = true) : SpBd 43 (bxs l) := spn_bd hl (by omega) (Int.le_refl _)
theorem bxs_some {l : List Nd} (h : (bxs l).some = true) : l ≠ [] := by rintro rfl; cases h
theorem level_of {l : List Nd} (hl : looseB l = true) (hne : l ≠ []) : 1 ≤ levelN l ∧ levelN l ≤ 1329 := by
  have : l.length ≠ 0 := fun e => hne (List.eq_nil_of_length_eq_zero e)
  unfold levelN; rw [if_neg this]; exact lv_in hl (by omega) (by omega)
structure BxBd (k : Nat) (b : Bx) : Prop where
  x : Bd k b.x
  y : Bd k b.y
  w : Bd k b.w
  h : Bd k b.h
theorem bxOf_bd {l : List Nd} (hl : looseB l = true) : BxBd 44 (bxOf l) := by
  unfold bxOf
  split
  · rename_i h
    have hb := bxs_bd hl
    have hv := bd_hf (level_of hl (bxs_some h)).2
    exact ⟨bd_sub hb.fx hv (by decide) (by decide), bd_sub hb.fy hv (by decide) (by decide), bd_sub hb.tx hb.fx (by decide) (by decide), bd_sub hb.ty hb.fy (by decide) (by decide)⟩
  · exact ⟨bd_zero 44, bd_zero 44, bd_zero 44, bd_zero 44⟩
def withinB (b : Bx) (most : Int) : Bool := decide (b.w ≤ most) && decide (b.h ≤ most)
theorem cmpI_le {x y : Int} : cmpI x y ≤ 0 ↔ x ≤ y := by unfold cmpI; constructor <;> intro h <;> split at * <;> (try split at *) <;> omega
theorem bx_eq {a b : Bx} : (a.x = b.x ∧ a.y = b.y ∧ a.w = b.w ∧ a.h = b.h) ↔ a = b := by cases a; cases b; simp
def spansL (l : List Nd) : List Spn := (List.range (l.length + 1)).map fun j : Nat => spn (tr l j)
theorem spansL_len (l : List Nd) : ((spansL l).length : Int) = l.length + 1 := by unfold spansL; simp
theorem spansL_ix {l : List Nd} {j : Int} (h0 : 0 ≤ j) (h1 : j ≤ l.length) : ix (spansL l) j = spn (tr l j) := by
  unfold spansL ix
  rw [List.getD_eq_getElem?_getD, List.getElem?_map, List.getElem?_range (by omega)]
  simp; congr 2; omega
theorem spans_eq {os : List Spn} {l : List Nd} (hl : (os.length : Int) = l.length + 1) (h : ∀ j : Int, 0 ≤ j → j ≤ l.length → ix os j = spn (tr l j)) : os = spansL l := by
  have hl2 := spansL_len l
  apply List.ext_getElem (by omega)
  intro j h1 h2
  have a := h j (by omega) (by omega)
  have b := spansL_ix (l := l) (j := j) (by omega) (by omega)
  unfold ix at a b
  simp [List.getD_eq_getElem?_getD, h1, h2] at a b
  rw [a, b]
theorem spansL_last (l : List Nd) : ix (spansL l) (l.length : Int) = bxs l := spansL_ix (by omega) (Int.le_refl _)
end Go.Gw

set_option linter.unusedSimpArgs false
set_option linter.unusedVariables false
/-! ### The cells of a tree, one by one -/
namespace Go.Gw
open Go.RowKit
/-- A cell's state; its place is counted from the tree's corner. -/
def cat : Tr → Int → Int → Int
  | .no, _, _ => 0
  | .leaf a b c d, x, y => if x = 0 then (if y = 0 then a else if y = 1 then c else 0) else if x = 1 then (if y = 0 then b else if y = 1 then d else 0) else 0
  | .nd v a b c d, x, y => if x < hf v then (if y < hf v then cat a x y else cat c x (y - hf v)) else (if y < hf v then cat b (x - hf v) y else cat d (x - hf v) (y - hf v))
/-- Outside of the tree there is nothing. -/
theorem cat_out : ∀ (t : Tr) {v x y : Int}, wf v t → (x < 0 ∨ 2 * hf v ≤ x ∨ y < 0 ∨ 2 * hf v ≤ y) → cat t x y = 0
  | .no, v, x, y, _, _ => rfl
  | .leaf a b c d, v, x, y, h, ho => by
    obtain ⟨rfl, _⟩ := h
    rw [hf_one] at ho
    simp only [cat]
    split
    · split
      · omega
      · split
        · omega
        · rfl
    · split
      · split
        · omega
        · split
          · omega
          · rfl
      · rfl
  | .nd u a b c d, v, x, y, h, ho => by
    obtain ⟨rfl, h2, _, ha, hb, hc, hd⟩ := h
    have e := hf_two h2
    have p := hf_pos u
    simp only [cat]
    split
    · split
      · exact cat_out a ha (by omega)
      · exact cat_out c hc (by omega)
    · split
      · exact cat_out b hb (by omega)
      · exact cat_out d hd (by omega)
theorem cat_emp : ∀ (t : Tr) (x y : Int), emp t = true → cat t x y = 0
  | .no, _, _, _ => rfl
  | .leaf a b c d, x, y, h => by
    simp only [emp, Bool.and_eq_true, decide_eq_true_eq] at h
    obtain ⟨⟨⟨rfl, rfl⟩, rfl⟩, rfl⟩ := h
    simp [cat]
  | .nd u a b c d, x, y, h => by
    simp only [emp, Bool.and_eq_true] at h
    obtain ⟨⟨⟨ha, hb⟩, hc⟩, hd⟩ := h
    simp only [cat, cat_emp a _ _ ha, cat_emp b _ _ hb, cat_emp c _ _ hc, cat_emp d _ _ hd]
    simp
/-- The cells of the quarters. -/
theorem cat_a {u x y : Int} {a b c d : Tr} (hx : x < hf u) (hy : y < hf u) : cat (.nd u a b c d) x y = cat a x y := by simp only [cat, if_pos hx, if_pos hy]
theorem cat_b {u x y : Int} {a b c d : Tr} (hx : hf u ≤ x) (hy : y < hf u) : cat (.nd u a b c d) x y = cat b (x - hf u) y := by simp only [cat, if_neg (show ¬ x < hf u by omega), if_pos hy]
theorem cat_c {u x y : Int} {a b c d : Tr} (hx : x < hf u) (hy : hf u ≤ y) : cat (.nd u a b c d) x y = cat c x (y - hf u) := by simp only [cat, if_pos hx, if_neg (show ¬ y < hf u by omega)]
theorem cat_d {u x y : Int} {a b c d : Tr} (hx : hf u ≤ x) (hy : hf u ≤ y) : cat (.nd u a b c d) x y = cat d (x - hf u) (y - hf u) := by simp only [cat, if_neg (show ¬ x < hf u by omega), if_neg (show ¬ y < hf u by omega)]
/-- A tree without cells is empty. -/
theorem emp_cat : ∀ (t : Tr) {v : Int}, wf v t → (∀ x y : Int, cat t x y = 0) → emp t = true
  | .no, v, _, _ => rfl
  | .leaf a b c d, v, h, hz => by
    have h1 := hz 0 0; have h2 := hz 1 0; have h3 := hz 0 1; have h4 := hz 1 1
    simp [cat] at h1 h2 h3 h4
    simp [emp, h1, h2, h3, h4]
  | .nd u a b c d, v, h, hz => by
    obtain ⟨rfl, h2, _, ha, hb, hc, hd⟩ := h
    have e := hf_two h2
    have p := hf_pos u
    have qa : emp a = true := emp_cat a ha fun x y => by
      by_cases hr : x < hf u ∧ y < hf u
      · rw [← cat_a (b := b) (c := c) (d := d) hr.1 hr.2]; exact hz x y
      · exact cat_out a ha (by omega)
    have qb : emp b = true := emp_cat b hb fun x y => by
      by_cases hr : 0 ≤ x ∧ y < hf u
      · have := cat_b (u := u) (x := x + hf u) (y := y) (a := a) (b := b) (c := c) (d := d) (by omega) hr.2
        rw [show x + hf u - hf u = x by omega] at this; rw [← this]; exact hz _ _
      · exact cat_out b hb (by omega)
    have qc : emp c = true := emp_cat c hc fun x y => by
      by_cases hr : x < hf u ∧ 0 ≤ y
      · have := cat_c (u := u) (x := x) (y := y + hf u) (a := a) (b := b) (c := c) (d := d) hr.1 (by omega)
        rw [show y + hf u - hf u = y by omega] at this; rw [← this]; exact hz _ _
      · exact cat_out c hc (by omega)
    have qd : emp d = true := emp_cat d hd fun x y => by
      by_cases hr : 0 ≤ x ∧ 0 ≤ y
      · have := cat_d (u := u) (x := x + hf u) (y := y + hf u) (a := a) (b := b) (c := c) (d := d) (by omega) (by omega)
        rw [show x + hf u - hf u = x by omega, show y + hf u - hf u = y by omega] at this; rw [← this]; exact hz _ _
      · exact cat_out d hd (by omega)
    simp [emp, qa, qb, qc, qd]
theorem cat_ne {t : Tr} {v : Int} (h : wf v t) (he : emp t = false) : ∃ x y : Int, cat t x y ≠ 0 ∧ (0 ≤ x ∧ x < 2 * hf v) ∧ 0 ≤ y ∧ y < 2 * hf v := by
  have : ∃ x y : Int, cat t x y ≠ 0 := Classical.byContradiction fun hn => by
    have := emp_cat t h fun x y => Classical.byContradiction fun hc => hn ⟨x, y, hc⟩
    rw [he] at this; cases this
  obtain ⟨x, y, hc⟩ := this
  have hr : ¬ (x < 0 ∨ 2 * hf v ≤ x ∨ y < 0 ∨ 2 * hf v ≤ y) := fun ho => hc (cat_out t h ho)
  exact ⟨x, y, hc, by omega, by omega⟩
/-- Trees of one level with the same cells are visited alike. -/
theorem vis_same : ∀ (s : Tr) {v : Int} {t : Tr}, wf v s → wf v t → (∀ x y : Int, cat s x y = cat t x y) → ∀ o : List Nd, vis s o = vis t o
  | s, v, t, hs, ht, hc => by
    intro o
    by_cases es : emp s = true
    · have et : emp t = true := emp_cat t ht fun x y => by rw [← hc]; exact cat_emp s x y es
      rw [vis_emp s o es, vis_emp t o et]
    · have et : ¬ emp t = true := fun et => es (emp_cat s hs fun x y => by rw [hc]; exact cat_emp t x y et)
      match s, t, hs, ht, hc, es, et with
      | .no, _, _, _, _, es, _ => exact absurd rfl es
      | .leaf _ _ _ _, .no, _, _, _, _, et => exact absurd rfl et
      | .nd _ _ _ _ _, .no, _, _, _, _, et => exact absurd rfl et
      | .leaf a b c d, .leaf a' b' c' d', hs, ht, hc, _, _ =>
        have h1 := hc 0 0; have h2 := hc 1 0; have h3 := hc 0 1; have h4 := hc 1 1
        simp [cat] at h1 h2 h3 h4
        rw [h1, h2, h3, h4]
      | .leaf _ _ _ _, .nd _ _ _ _ _, hs, ht, _, _, _ => obtain ⟨h1, _⟩ := hs; obtain ⟨_, h2, _⟩ := ht; omega
      | .nd _ _ _ _ _, .leaf _ _ _ _, hs, ht, _, _, _ => obtain ⟨h1, _⟩ := ht; obtain ⟨_, h2, _⟩ := hs; omega
      | .nd u a b c d, .nd u' a' b' c' d', hs, ht, hc, _, _ =>
        obtain ⟨rfl, h2, _, ha, hb, hcc, hd⟩ := hs
        obtain ⟨rfl, _, _, ha', hb', hcc', hd'⟩ := ht
        have e := hf_two h2
        have p := hf_pos u'
        have qa := vis_same a ha ha' fun x y => by
          by_cases hr : x < hf u' ∧ y < hf u'
          · have := hc x y; rwa [cat_a hr.1 hr.2, cat_a hr.1 hr.2] at this
          · rw [cat_out a ha (by omega), cat_out a' ha' (by omega)]
        have qb := vis_same b hb hb' fun x y => by
          by_cases hr : 0 ≤ x ∧ y < hf u'
          · have := hc (x + hf u') y; rwa [cat_b (by omega) hr.2, cat_b (by omega) hr.2, show x + hf u' - hf u' = x by omega] at this
          · rw [cat_out b hb (by omega), cat_out b' hb' (by omega)]
        have qc := vis_same c hcc hcc' fun x y => by
          by_cases hr : x < hf u' ∧ 0 ≤ y
          · have := hc x (y + hf u'); rwa [cat_c hr.1 (by omega), cat_c hr.1 (by omega), show y + hf u' - hf u' = y by omega] at this
          · rw [cat_out c hcc (by omega), cat_out c' hcc' (by omega)]
        have qd := vis_same d hd hd' fun x y => by
          by_cases hr : 0 ≤ x ∧ 0 ≤ y
          · have := hc (x + hf u') (y + hf u'); rwa [cat_d (by omega) (by omega), cat_d (by omega) (by omega), show x + hf u' - hf u' = x by omega, show y + hf u' - hf u' = y by omega] at this
          · rw [cat_out d hd (by omega), cat_out d' hd' (by omega)]
        simp only [vis, qa, qb, qc, qd]
/-! #### quarters of quarters -/
theorem cat_q {u : Int} {a : Tr} (h : wf u a) (h2 : 2 ≤ u) (x y : Int) : cat a x y = if x < hf u then (if y < hf u then cat (a.q 0) x y else cat (a.q 2) x (y - hf u)) else (if y < hf u then cat (a.q 1) (x - hf u) y else cat (a.q 3) (x - hf u) (y - hf u)) := by
  cases a with
  | no => simp [cat, Tr.q]
  | leaf a b c d => obtain ⟨h1, _⟩ := h; omega
  | nd w a b c d => obtain ⟨rfl, _⟩ := h; simp [cat, Tr.q]
theorem qe_q {u : Int} {a : Tr} (h : wf u a) (h2 : 2 ≤ u) (j : Int) : qe a j = emp (a.q j) := by
  cases a with
  | no => rfl
  | leaf a b c d => obtain ⟨h1, _⟩ := h; omega
  | nd w a b c d => rfl
theorem cat_s {a : Tr} (h : wf 1 a) (x y : Int) : cat a x y = if x = 0 then (if y = 0 then a.s 0 else if y = 1 then a.s 2 else 0) else if x = 1 then (if y = 0 then a.s 1 else if y = 1 then a.s 3 else 0) else 0 := by
  cases a with
  | no => simp [cat, Tr.s]
  | leaf a b c d => simp [cat, Tr.s, sel4]
  | nd w a b c d => obtain ⟨_, h2, _⟩ := h; omega
theorem qe_s {a : Tr} (h : wf 1 a) (j : Int) : qe a j = decide (a.s j = 0) := by
  cases a with
  | no => rfl
  | leaf a b c d => rfl
  | nd w a b c d => obtain ⟨_, h2, _⟩ := h; omega
/-- Offsets of a quarter. -/
def oX (j h : Int) : Int := if j = 1 ∨ j = 3 then h else 0
def oY (j h : Int) : Int := if j = 2 ∨ j = 3 then h else 0
/-- Where the k-th quarter lies. -/
def inQ (j h x y : Int) : Prop := (oX j h ≤ x ∧ x < oX j h + h) ∧ oY j h ≤ y ∧ y < oY j h + h
theorem qe_zero {u : Int} {a : Tr} (h : wf u a) (h1 : 1 ≤ u) {j : Int} (j0 : 0 ≤ j) (j1 : j < 4) (hq : qe a j = true) {x y : Int} (hi : inQ j (hf u) x y) : cat a x y = 0 := by
  have p := hf_pos u
  by_cases hu : u = 1
  · subst hu
    rw [qe_s h, decide_eq_true_eq] at hq
    rw [cat_s h]
    rw [hf_one] at hi
    have : j = 0 ∨ j = 1 ∨ j = 2 ∨ j = 3 := by omega
    rcases this with rfl | rfl | rfl | rfl <;> simp [inQ, oX, oY] at hi
    · rw [if_pos (by omega), if_pos (by omega), hq]
    · rw [if_neg (by omega), if_pos (by omega), if_pos (by omega), hq]
    · rw [if_pos (by omega), if_neg (by omega), if_pos (by omega), hq]
    · rw [if_neg (by omega), if_pos (by omega), if_neg (by omega), if_pos (by omega), hq]
  · rw [qe_q h (by omega)] at hq
    rw [cat_q h (by omega)]
    have : j = 0 ∨ j = 1 ∨ j = 2 ∨ j = 3 := by omega
    rcases this with rfl | rfl | rfl | rfl <;> simp [inQ, oX, oY] at hi
    · rw [if_pos (by omega), if_pos (by omega)]; exact cat_emp _ _ _ hq
    · rw [if_neg (by omega), if_pos (by omega)]; exact cat_emp _ _ _ hq
    · rw [if_pos (by omega), if_neg (by omega)]; exact cat_emp _ _ _ hq
    · rw [if_neg (by omega), if_neg (by omega)]; exact cat_emp _ _ _ hq
theorem qe_one {u : Int} {a : Tr} (h : wf u a) (h1 : 1 ≤ u) {j : Int} (j0 : 0 ≤ j) (j1 : j < 4) (hq : qe a j = false) : ∃ x y : Int, cat a x y ≠ 0 ∧ inQ j (hf u) x y := by
  have p := hf_pos u
  by_cases hu : u = 1
  · subst hu
    rw [qe_s h, decide_eq_false_iff_not] at hq
    refine ⟨oX j 1, oY j 1, ?_, by rw [hf_one]; unfold inQ; omega⟩
    rw [cat_s h]
    have : j = 0 ∨ j = 1 ∨ j = 2 ∨ j = 3 := by omega
    rcases this with rfl | rfl | rfl | rfl <;> simpa [oX, oY] using hq
  · rw [qe_q h (by omega)] at hq
    obtain ⟨x, y, hc, hx, hy⟩ := cat_ne (q_wf h j) hq
    rw [hf_two (by omega)] at hx hy
    refine ⟨x + oX j (hf u), y + oY j (hf u), ?_, by unfold inQ; omega⟩
    rw [cat_q h (by omega)]
    have : j = 0 ∨ j = 1 ∨ j = 2 ∨ j = 3 := by omega
    rcases this with rfl | rfl | rfl | rfl <;> simp [oX, oY]
    · rw [if_pos (by omega), if_pos (by omega)]; exact hc
    · rw [if_neg (by omega), if_pos (by omega)]; exact hc
    · rw [if_pos (by omega), if_neg (by omega)]; exact hc
    · rw [if_neg (by omega), if_neg (by omega)]; exact hc
/-- A hollow node's cells are those of the node in its middle. -/
theorem cat_inn {v u : Int} {a b c d : Tr} (h : wf v (.nd u a b c d)) (hh : hol (.nd u a b c d) = true) (x y : Int) : cat (.nd u a b c d) x y = cat (inn (.nd u a b c d)) (x - hf (v - 1)) (y - hf (v - 1)) := by
  have hi := wf_inn h
  obtain ⟨rfl, h2, h3, ha, hb, hc, hd⟩ := h
  have e := hf_two h2
  have p := hf_pos (u - 1)
  simp only [hol, Bool.and_eq_true] at hh
  obtain ⟨⟨⟨⟨⟨a0, a1⟩, a2⟩, ⟨b0, b1⟩, b3⟩, ⟨c0, c2⟩, c3⟩, ⟨d1, d2⟩, d3⟩ := hh
  have za : ∀ {x y : Int}, ¬ (hf (u - 1) ≤ x ∧ hf (u - 1) ≤ y) → cat a x y = 0 := fun {x y} hn => by
    by_cases ho : x < 0 ∨ 2 * hf (u - 1) ≤ x ∨ y < 0 ∨ 2 * hf (u - 1) ≤ y
    · exact cat_out a ha ho
    · by_cases hx : x < hf (u - 1)
      · by_cases hy : y < hf (u - 1)
        · exact qe_zero ha (by omega) (by decide) (by decide) a0 (by simp [inQ, oX, oY]; omega)
        · exact qe_zero ha (by omega) (by decide) (by decide) a2 (by simp [inQ, oX, oY]; omega)
      · exact qe_zero ha (by omega) (by decide) (by decide) a1 (by simp [inQ, oX, oY]; omega)
  have zb : ∀ {x y : Int}, ¬ (x < hf (u - 1) ∧ hf (u - 1) ≤ y) → cat b x y = 0 := fun {x y} hn => by
    by_cases ho : x < 0 ∨ 2 * hf (u - 1) ≤ x ∨ y < 0 ∨ 2 * hf (u - 1) ≤ y
    · exact cat_out b hb ho
    · by_cases hx : x < hf (u - 1)
      · exact qe_zero hb (by omega) (by decide) (by decide) b0 (by simp [inQ, oX, oY]; omega)
      · by_cases hy : y < hf (u - 1)
        · exact qe_zero hb (by omega) (by decide) (by decide) b1 (by simp [inQ, oX, oY]; omega)
        · exact qe_zero hb (by omega) (by decide) (by decide) b3 (by simp [inQ, oX, oY]; omega)
  have zc : ∀ {x y : Int}, ¬ (hf (u - 1) ≤ x ∧ y < hf (u - 1)) → cat c x y = 0 := fun {x y} hn => by
    by_cases ho : x < 0 ∨ 2 * hf (u - 1) ≤ x ∨ y < 0 ∨ 2 * hf (u - 1) ≤ y
    · exact cat_out c hc ho
    · by_cases hx : x < hf (u - 1)
      · by_cases hy : y < hf (u - 1)
        · exact qe_zero hc (by omega) (by decide) (by decide) c0 (by simp [inQ, oX, oY]; omega)
        · exact qe_zero hc (by omega) (by decide) (by decide) c2 (by simp [inQ, oX, oY]; omega)
      · exact qe_zero hc (by omega) (by decide) (by decide) c3 (by simp [inQ, oX, oY]; omega)
  have zd : ∀ {x y : Int}, ¬ (x < hf (u - 1) ∧ y < hf (u - 1)) → cat d x y = 0 := fun {x y} hn => by
    by_cases ho : x < 0 ∨ 2 * hf (u - 1) ≤ x ∨ y < 0 ∨ 2 * hf (u - 1) ≤ y
    · exact cat_out d hd ho
    · by_cases hx : x < hf (u - 1)
      · exact qe_zero hd (by omega) (by decide) (by decide) d2 (by simp [inQ, oX, oY]; omega)
      · by_cases hy : y < hf (u - 1)
        · exact qe_zero hd (by omega) (by decide) (by decide) d1 (by simp [inQ, oX, oY]; omega)
        · exact qe_zero hd (by omega) (by decide) (by decide) d3 (by simp [inQ, oX, oY]; omega)
  by_cases hin : hf (u - 1) ≤ x ∧ x < 3 * hf (u - 1) ∧ hf (u - 1) ≤ y ∧ y < 3 * hf (u - 1)
  · by_cases hu : u = 2
    · subst hu
      rw [show (2 : Int) - 1 = 1 from rfl, hf_one] at *
      have e2 : hf 2 = 2 := by rw [← hf_two (v := 2) (by decide)]; rfl
      simp only [inn, if_true, cat, e2]
      rw [cat_s ha, cat_s hb, cat_s hc, cat_s hd]
      have hx : x = 1 ∨ x = 2 := by omega
      have hy : y = 1 ∨ y = 2 := by omega
      rcases hx with rfl | rfl <;> rcases hy with rfl | rfl <;> rfl
    · simp only [inn, if_neg hu, cat]
      rw [cat_q ha (by omega), cat_q hb (by omega), cat_q hc (by omega), cat_q hd (by omega)]
      by_cases hx : x < hf u
      · by_cases hy : y < hf u
        · rw [if_pos hx, if_pos hy, if_neg (by omega), if_neg (by omega), if_pos (by omega), if_pos (by omega)]
        · rw [if_pos hx, if_neg hy, if_neg (by omega), if_pos (by omega), if_pos (by omega), if_neg (by omega)]; congr 1; omega
      · by_cases hy : y < hf u
        · rw [if_neg hx, if_pos hy, if_pos (by omega), if_neg (by omega), if_neg (by omega), if_pos (by omega)]; congr 1; omega
        · rw [if_neg hx, if_neg hy, if_pos (by omega), if_pos (by omega), if_neg (by omega), if_neg (by omega)]; congr 1 <;> omega
  · rw [cat_out _ hi (by omega)]
    simp only [cat]
    split
    · split
      · exact za (by omega)
      · exact zc (by omega)
    · split
      · exact zb (by omega)
      · exact zd (by omega)
/-- The cells, counted from the middle. -/
def mid (v : Int) (t : Tr) (X Y : Int) : Int := cat t (X + hf v) (Y + hf v)
theorem shrF_mid : ∀ (f : Nat) (t : Tr) (v : Int), wf v t → lvT t ≤ f → ∃ u, wf u (shrF f t) ∧ hol (shrF f t) = false ∧ ∀ X Y : Int, mid u (shrF f t) X Y = mid v t X Y
  | 0, t, v, h, hl => by
    cases t with
    | no => exact ⟨v, trivial, rfl, fun _ _ => rfl⟩
    | leaf a b c d => simp [lvT] at hl
    | nd u a b c d => obtain ⟨rfl, h2, _⟩ := h; simp only [lvT] at hl; omega
  | f + 1, t, v, h, hl => by
    unfold shrF
    by_cases hh : hol t = true
    · rw [if_pos hh]
      cases t with
      | no => cases hh
      | leaf a b c d => cases hh
      | nd u a b c d =>
        have hc := cat_inn h hh
        obtain ⟨w, h1, h2, h3⟩ := shrF_mid f _ (v - 1) (wf_inn h) (by
          obtain ⟨rfl, h2, _⟩ := h
          simp only [lvT] at hl
          by_cases e : u = 2
          · subst e; simp only [inn, if_true, lvT]; omega
          · simp only [inn, if_neg e, lvT]; omega)
        refine ⟨w, h1, h2, fun X Y => ?_⟩
        rw [h3]
        obtain ⟨rfl, g2, _⟩ := h
        have e := hf_two g2
        unfold mid
        rw [hc, show X + hf u - hf (u - 1) = X + hf (u - 1) by omega, show Y + hf u - hf (u - 1) = Y + hf (u - 1) by omega]
    · rw [if_neg hh]
      exact ⟨v, h, by simpa using hh, fun _ _ => rfl⟩
theorem shr0_mid {t : Tr} {v : Int} (h : wf v t) : ∃ u, wf u (shr0 t) ∧ hol (shr0 t) = false ∧ ∀ X Y : Int, mid u (shr0 t) X Y = mid v t X Y := by
  unfold shr0
  split
  · rename_i he; exact ⟨v, trivial, rfl, fun X Y => (cat_emp t _ _ he).symm⟩
  · exact shrF_mid _ t v h (Nat.le_refl _)
/-- A node that is not hollow has a cell outside of the middle. -/
theorem hol_out {v u : Int} {a b c d : Tr} (h : wf v (.nd u a b c d)) (hh : hol (.nd u a b c d) = false) : ∃ x y : Int, cat (.nd u a b c d) x y ≠ 0 ∧ ¬ (hf (v - 1) ≤ x ∧ x < 3 * hf (v - 1) ∧ hf (v - 1) ≤ y ∧ y < 3 * hf (v - 1)) := by
  obtain ⟨rfl, h2, h3, ha, hb, hc, hd⟩ := h
  have e := hf_two h2
  have p := hf_pos (u - 1)
  have A : ∀ j : Int, 0 ≤ j → j < 4 → j ≠ 3 → qe a j = false → ∃ x y : Int, cat (.nd u a b c d) x y ≠ 0 ∧ ¬ (hf (u - 1) ≤ x ∧ x < 3 * hf (u - 1) ∧ hf (u - 1) ≤ y ∧ y < 3 * hf (u - 1)) := fun j j0 j1 j3 hq => by
    obtain ⟨x, y, hx, hi⟩ := qe_one ha (by omega) j0 j1 hq
    have : j = 0 ∨ j = 1 ∨ j = 2 := by omega
    rcases this with rfl | rfl | rfl <;> simp [inQ, oX, oY] at hi
    all_goals exact ⟨x, y, by rw [cat_a (by omega) (by omega)]; exact hx, by omega⟩
  have B : ∀ j : Int, 0 ≤ j → j < 4 → j ≠ 2 → qe b j = false → ∃ x y : Int, cat (.nd u a b c d) x y ≠ 0 ∧ ¬ (hf (u - 1) ≤ x ∧ x < 3 * hf (u - 1) ∧ hf (u - 1) ≤ y ∧ y < 3 * hf (u - 1)) := fun j j0 j1 j3 hq => by
    obtain ⟨x, y, hx, hi⟩ := qe_one hb (by omega) j0 j1 hq
    have : j = 0 ∨ j = 1 ∨ j = 3 := by omega
    rcases this with rfl | rfl | rfl <;> simp [inQ, oX, oY] at hi
    all_goals exact ⟨x + hf u, y, by rw [cat_b (by omega) (by omega), show x + hf u - hf u = x by omega]; exact hx, by omega⟩
  have C : ∀ j : Int, 0 ≤ j → j < 4 → j ≠ 1 → qe c j = false → ∃ x y : Int, cat (.nd u a b c d) x y ≠ 0 ∧ ¬ (hf (u - 1) ≤ x ∧ x < 3 * hf (u - 1) ∧ hf (u - 1) ≤ y ∧ y < 3 * hf (u - 1)) := fun j j0 j1 j3 hq => by
    obtain ⟨x, y, hx, hi⟩ := qe_one hc (by omega) j0 j1 hq
    have : j = 0 ∨ j = 2 ∨ j = 3 := by omega
    rcases this with rfl | rfl | rfl <;> simp [inQ, oX, oY] at hi
    all_goals exact ⟨x, y + hf u, by rw [cat_c (by omega) (by omega), show y + hf u - hf u = y by omega]; exact hx, by omega⟩
  have D : ∀ j : Int, 0 ≤ j → j < 4 → j ≠ 0 → qe d j = false → ∃ x y : Int, cat (.nd u a b c d) x y ≠ 0 ∧ ¬ (hf (u - 1) ≤ x ∧ x < 3 * hf (u - 1) ∧ hf (u - 1) ≤ y ∧ y < 3 * hf (u - 1)) := fun j j0 j1 j3 hq => by
    obtain ⟨x, y, hx, hi⟩ := qe_one hd (by omega) j0 j1 hq
    have : j = 1 ∨ j = 2 ∨ j = 3 := by omega
    rcases this with rfl | rfl | rfl <;> simp [inQ, oX, oY] at hi
    all_goals exact ⟨x + hf u, y + hf u, by rw [cat_d (by omega) (by omega), show x + hf u - hf u = x by omega, show y + hf u - hf u = y by omega]; exact hx, by omega⟩
  simp only [hol, Bool.and_eq_false_iff] at hh
  rcases hh with ((((hh | hh) | hh) | ((hh | hh) | hh)) | ((hh | hh) | hh)) | ((hh | hh) | hh)
  · exact A 0 (by decide) (by decide) (by decide) hh
  · exact A 1 (by decide) (by decide) (by decide) hh
  · exact A 2 (by decide) (by decide) (by decide) hh
  · exact B 0 (by decide) (by decide) (by decide) hh
  · exact B 1 (by decide) (by decide) (by decide) hh
  · exact B 3 (by decide) (by decide) (by decide) hh
  · exact C 0 (by decide) (by decide) (by decide) hh
  · exact C 2 (by decide) (by decide) (by decide) hh
  · exact C 3 (by decide) (by decide) (by decide) hh
  · exact D 1 (by decide) (by decide) (by decide) hh
  · exact D 2 (by decide) (by decide) (by decide) hh
  · exact D 3 (by decide) (by decide) (by decide) hh
theorem hf_mono {v w : Int} (h1 : 1 ≤ v) (h : v ≤ w) : hf v ≤ hf w := by
  unfold hf
  have e : (2 : Int) ^ (w - 1).toNat = 2 ^ (v - 1).toNat * 2 ^ ((w - 1).toNat - (v - 1).toNat) := by rw [← Int.pow_add]; congr 1; omega
  have h1 := two_pos (v - 1).toNat
  have h2 := two_pos ((w - 1).toNat - (v - 1).toNat)
  have := Int.mul_le_mul_of_nonneg_left (show 1 ≤ (2 : Int) ^ ((w - 1).toNat - (v - 1).toNat) by omega) (Int.le_of_lt h1)
  omega
theorem wf_lv {t : Tr} {v : Int} (h : wf v t) (he : emp t = false) : 1 ≤ v ∧ v ≤ 1329 := by
  cases t with
  | no => cases he
  | leaf a b c d => obtain ⟨rfl, _⟩ := h; omega
  | nd u a b c d => obtain ⟨rfl, h2, h3, _⟩ := h; omega
theorem lv_least {s t : Tr} {v w : Int} (hs : wf v s) (ht : wf w t) (es : emp s = false) (et : emp t = false) (hh : hol t = false) (hc : ∀ X Y : Int, mid v s X Y = mid w t X Y) : ¬ v < w := fun hlt => by
  have hv := wf_lv hs es
  cases t with
  | no => cases et
  | leaf a b c d => obtain ⟨rfl, _⟩ := ht; omega
  | nd u a b c d =>
    obtain ⟨x, y, hx, ho⟩ := hol_out ht hh
    obtain ⟨rfl, h2, h3, _⟩ := ht
    have e := hf_two h2
    have m := hf_mono hv.1 (show v ≤ u - 1 by omega)
    have p := hf_pos (u - 1)
    have := hc (x - hf u) (y - hf u)
    unfold mid at this
    rw [show x - hf u + hf u = x by omega, show y - hf u + hf u = y by omega] at this
    rw [← this] at hx
    exact hx (cat_out s hs (by omega))
/-- **A quad is its cells.** -/
theorem can_unique {s t : Tr} {v w : Int} (hs : wf v s) (ht : wf w t) (hhs : hol s = false) (hht : hol t = false) (hc : ∀ X Y : Int, mid v s X Y = mid w t X Y) : canT s = canT t := by
  unfold canT
  by_cases es : emp s = true
  · have et : emp t = true := emp_cat t ht fun x y => by
      have := hc (x - hf w) (y - hf w)
      unfold mid at this
      rw [show x - hf w + hf w = x by omega, show y - hf w + hf w = y by omega] at this
      rw [← this]; exact cat_emp s _ _ es
    rw [vis_emp s [] es, vis_emp t [] et]
  · have es' : emp s = false := by simpa using es
    have et : emp t = false := by
      rw [← Bool.not_eq_true]; intro et
      exact es (emp_cat s hs fun x y => by
        have := hc (x - hf v) (y - hf v)
        unfold mid at this
        rw [show x - hf v + hf v = x by omega, show y - hf v + hf v = y by omega] at this
        rw [this]; exact cat_emp t _ _ et)
    have e : v = w := by
      have := lv_least hs ht es' et hht hc
      have := lv_least ht hs et es' hhs (fun X Y => (hc X Y).symm)
      omega
    subst e
    rw [vis_same s hs ht (fun x y => by
      have := hc (x - hf v) (y - hf v)
      unfold mid at this
      rwa [show x - hf v + hf v = x by omega, show y - hf v + hf v = y by omega] at this) []]
theorem can_mid {s t : Tr} {v w : Int} (hs : wf v s) (ht : wf w t) (hc : ∀ X Y : Int, mid v s X Y = mid w t X Y) : canT (shr0 s) = canT (shr0 t) := by
  obtain ⟨a, a1, a2, a3⟩ := shr0_mid hs
  obtain ⟨b, b1, b2, b3⟩ := shr0_mid ht
  exact can_unique a1 b1 a2 b2 fun X Y => by rw [a3, b3, hc]
end Go.Gw

set_option linter.unusedSimpArgs false
set_option linter.unusedVariables false
namespace Go.Gw
open Go.RowKit
section
variable {P : Program} {l : List Oper} {Q : Exit → Act → World → Prop} {n m : Nat} {D : List Deferred} {ρ0 : Env} {w0 : World} {R R0 R1 : World → World → Prop} {sp : Spec} {ds anc con : List (List Nat)} {big st1 cls : List Bool}
theorem mid_anyDT {keys : List Nat} (hA : ancOk l anc = true) (hC : conOk m ds anc con big st1 = true) (hR0 : ∀ a b, R0 a b → R a b) (hR1 : ∀ a b, R1 a b → R a b) (hF : DrawFactsT l m n keys sp ds) (hkeys : ∀ t v, look ρ0 t = some v → t ∈ keys) (hRt : ∀ a b c, R a b → R b c → R a c) (hst : StAllC R0 R1 sp st1) (hR00 : ∀ a, R0 a a) (hR0t : ∀ a b c, R0 a b → R0 b c → R0 a c) (hcl : cleanOk m anc big cls = true) (hobs : ObsAllD P l.toArray n D ρ0 w0 R R0 R1 sp l ds big cls sp)
    (hend : ∀ w, R w0 w → AllV2 (finS sp con) ρ0 w (fun ρ => Reg P l.toArray Q (l.drop m) n D ρ w)) :
    ∀ (fuel : Nat) (listed : Array Bool) (vals : Nat → Value) (a : Act) (w : World), MidD l con n D ρ0 w0 R R0 big sp m l.length listed vals a w → cnt l.length listed ≤ fuel → wpAny P .any l.toArray Q fuel listed a w := by
  -- once all heads are listed
  have hfin : ∀ (fuel : Nat) (listed : Array Bool) (vals : Nat → Value) (a : Act) (w : World), MidD l con n D ρ0 w0 R R0 big sp m l.length listed vals a w → (∀ i, i < m → listed.getD i false = true) → l.length - m ≤ fuel → wpAny P .any l.toArray Q fuel listed a w := by
    intro fuel listed vals a w hM hall hf
    obtain ⟨ρ', hFr, hReg⟩ := allV2_inst (w := w) vals (finS sp con) 0 ρ0 _ hM.fr (fun i dst φ hs => by
      obtain ⟨φ0, hs0, hφ⟩ := finS_at hs
      have hi : i < m := by rw [← hF.spl]; exact (List.getElem?_eq_some_iff.1 hs0).1
      have hg := hM.got i dst φ0 hs0 (hall i hi)
      rw [Nat.zero_add]
      refine ⟨?_, hg.2⟩
      rcases hφ with ⟨rfl, hc⟩ | rfl
      · exact hg.1 (by rw [hc]; simp)
      · trivial) (hend w hM.wr)
    exact tail_anyT hF fuel m listed a w (Nat.le_refl _) hF.le hf hM.size hall hM.tail (hReg a hFr)
  have hcnt : ∀ listed : Array Bool, (∀ i, m ≤ i → listed.getD i false = false) → ∀ k, m ≤ k → k - m ≤ cnt k listed := by
    intro listed ht k
    induction k with
    | zero => intro _; omega
    | succ k ih =>
      intro hk
      unfold cnt
      rcases Nat.lt_or_ge k m with h | h
      · omega
      · rw [ht k h]; have := ih h; simp; omega
  intro fuel
  induction fuel with
  | zero =>
    intro listed vals a w hM hc
    have h0 : cnt l.length listed = 0 := by omega
    have hall := cnt_zero listed _ h0
    refine hfin 0 listed vals a w hM (fun i hi => hall i (by have := hF.le; omega)) ?_
    have := hcnt listed hM.tail l.length hF.le
    omega
  | succ fuel ih =>
    intro listed vals a w hM hc
    by_cases hall : ∀ i, i < m → listed.getD i false = true
    · refine hfin _ listed vals a w hM hall ?_
      have := hcnt listed hM.tail l.length hF.le
      omega
    · -- some head is not listed: it's not the end, and no tail is ready
      refine ⟨fun h0 => absurd ?_ hall, fun i hi => ?_⟩
      · -- the least one that isn't listed is ready
        intro i hi
        induction i using Nat.strongRecOn with
        | _ i ihh =>
          by_cases hb : listed.getD i false = true
          · exact hb
          · exfalso
            have hil : i < l.length := by have := hF.le; omega
            have hr : i ∈ Region.ready .any l.toArray listed := by
              refine (mem_ready (by simpa using hM.size)).2 ⟨l[i], by simp [hil], by simpa using hb, ?_⟩
              rw [Array.all_eq_true]
              intro j hj
              by_cases hbd : Region.binds .any l[i].after[j] = true
              · have := hF.before i _ (List.getElem?_eq_getElem hil) _ (Array.getElem_mem hj) hbd
                rw [ihh _ this (by omega)]; simp
              · simp [hbd]
            rw [h0] at hr; simp at hr
      · obtain ⟨o, ho, hfi, hal⟩ := (mem_ready (by simpa using hM.size)).1 hi
        have ho' : l[i]? = some o := by simpa using ho
        have hil : i < l.length := (List.getElem?_eq_some_iff.1 ho').1
        have him : i < m := by
          rcases Nat.lt_or_ge i m with h | h
          · exact h
          · exact absurd (fun j hj => reach_listed (fun i o j h1 h2 h3 => hM.cl i o h1 h2 j h3) 8 o j (fun k hk => hasEdge_listed hk hal) ((hF.tail i o h ho').2 j hj)) hall
        have hsp : ∃ dst φ, sp[i]? = some (dst, φ) := by
          have : i < sp.length := by rw [hF.spl]; exact him
          exact ⟨_, _, List.getElem?_eq_getElem this⟩
        obtain ⟨dst, φ, hs⟩ := hsp
        have hdst := hF.dst i o dst φ ho' hs
        have hCi : (∀ j ∈ ds.getD i [], ∀ c ∈ con.getD j [], c = i ∨ (anc.getD c []).contains i = true) ∧ (big.getD i false = true → ∀ j, j < m → j ≠ i → (anc.getD j []).contains i = true ∨ st1.getD j false = true ∨ ∃ c ∈ con.getD j [], c = i ∨ (anc.getD i []).contains c = true) := by
          unfold conOk at hC
          rw [List.all_eq_true] at hC
          have h8 := hC i (by simpa using him)
          rw [Bool.and_eq_true] at h8
          refine ⟨fun j hj c hc => ?_, fun hb j hj hne => ?_⟩
          · have := (List.all_eq_true.1 ((List.all_eq_true.1 h8.1) j hj)) c hc
            rw [Bool.or_eq_true, beq_iff_eq] at this
            exact this
          · have h9 := h8.2
            rw [hb, Bool.not_true, Bool.false_or, List.all_eq_true] at h9
            have := h9 j (by simpa using hj)
            rw [Bool.or_eq_true, Bool.or_eq_true, Bool.or_eq_true, beq_iff_eq, List.any_eq_true] at this
            rcases this with ((this | this) | this) | ⟨c, hc, this⟩
            · exact absurd this hne
            · exact .inl this
            · exact .inr (.inl this)
            · rw [Bool.or_eq_true, beq_iff_eq] at this; exact .inr (.inr ⟨c, hc, this⟩)
        have hclean : ∀ i, i < m → cls.getD i false = true → ∀ b, b < m → big.getD b false = true → b = i ∨ (anc.getD b []).contains i = true := by
          intro i hi hc b hb1 hb2
          unfold cleanOk at hcl
          rw [List.all_eq_true] at hcl
          have h1 := hcl i (by simpa using hi)
          rw [hc, Bool.not_true, Bool.false_or, List.all_eq_true] at h1
          have h2 := h1 b (by simpa using hb1)
          rw [hb2, Bool.not_true, Bool.false_or, Bool.or_eq_true, beq_iff_eq] at h2
          exact h2
        subst hdst
        have hsz : i < listed.size := by rw [hM.size]; exact hil
        obtain ⟨ρ', hFr, hOp⟩ := depV_instD hM (ds.getD i []) ρ0 _ hM.fr (fun j hj => ⟨hasEdge_listed (hF.deps i o him ho' j hj).2 hal, fun c hc => by
          have h7 := hCi.1 j hj c hc
          rcases h7 with h7 | h7
          · rw [h7]; exact hfi
          · by_cases hcl : listed.getD c false = true
            · have := hM.closed hA c i hcl h7; rw [hfi] at this; cases this
            · simpa using hcl⟩) (hobs.at_ hs ho' w (by
            unfold relCl
            split
            · rename_i hci
              refine hM.cln fun b hb1 hb2 => ?_
              rcases hclean i him hci b hb1 hb2 with e | e
              · rw [e]; exact hfi
              · by_cases hbl : listed.getD b false = true
                · have := hM.closed hA b i hbl e; rw [hfi] at this; cases this
                · simpa using hbl
            · exact hM.wr))
        have hnew : ∀ (v : Value) (w' : World), φ v w' → relOf R0 R1 big i w w' → MidD l con n D ρ0 w0 R R0 big sp m l.length (listed.setIfInBounds i true) (fun j => if j = i then v else vals j) (a.put o.dst v) w' := by
          intro v w' hv hR
          have hput : ∀ t, (∀ d, o.dst = some d → t ≠ d) → (a.put o.dst v).tmps[t]? = a.tmps[t]? := by
            intro t ht
            cases hd : o.dst with
            | none => rfl
            | some d => simp only [Act.put, Array.getElem?_setIfInBounds]; rw [if_neg (fun e => ht d hd e.symm)]
          have hputd : ∀ d, o.dst = some d → (a.put o.dst v).tmps[d]? = some v := by
            intro d hd
            have := (hF.ok i o d him ho' hd).1
            rw [hd]
            simp [Act.put, hM.fr.size, this]
          have hR' : R w w' := by unfold relOf at hR; split at hR; exact hR1 _ _ hR; exact hR0 _ _ hR
          refine ⟨⟨?_, ?_, ?_⟩, hRt _ _ _ hM.wr hR', fun hnb => ?_, by simpa using hM.size, ?_, ?_, ?_⟩
          · rw [← hM.fr.defers]; cases o.dst <;> rfl
          · rw [← hM.fr.size]; cases o.dst <;> simp [Act.put]
          · intro t u hl
            rw [hput t (fun d hd e => (hF.ok i o d him ho' hd).2 (by rw [← e]; exact hkeys t u hl))]
            exact hM.fr.slot t u hl
          · have hbi : big.getD i false = false := by
              by_cases hb : big.getD i false = true
              · have := hnb i him hb; rw [getD_set _ _ _ hsz, if_pos rfl] at this; cases this
              · simpa using hb
            refine hR0t _ _ _ (hM.cln fun b hb1 hb2 => ?_) (by unfold relOf at hR; rw [if_neg (by rw [hbi]; simp)] at hR; exact hR)
            have := hnb b hb1 hb2
            rw [getD_set _ _ _ hsz] at this
            by_cases e : i = b
            · rw [if_pos e] at this; cases this
            · rwa [if_neg e] at this
          · intro j hj
            rw [getD_set _ _ _ hsz, if_neg (by omega)]; exact hM.tail j hj
          · intro j o' hj hlj k hk
            rw [getD_set _ _ _ hsz]
            by_cases e2 : i = k
            · rw [if_pos e2]
            · rw [if_neg e2]
              rw [getD_set _ _ _ hsz] at hlj
              by_cases e1 : i = j
              · subst e1
                rw [ho'] at hj; cases hj
                exact hasEdge_listed hk hal
              · rw [if_neg e1] at hlj
                exact hM.cl j o' hj hlj k hk
          · intro j dst φ' hs' hl
            rw [getD_set _ _ _ hsz] at hl
            by_cases e : j = i
            · subst e
              rw [hs] at hs'
              injection hs' with hs'
              injection hs' with e1 e2
              subst e1; subst e2
              rw [if_pos rfl]
              exact ⟨fun _ => hv, hputd⟩
            · rw [if_neg (fun e' => e e'.symm)] at hl
              rw [if_neg e]
              obtain ⟨g1, g2⟩ := hM.got j dst φ' hs' hl
              refine ⟨fun hcu => ?_, fun d hd => ?_⟩
              · have hcu' : ∀ c ∈ con.getD j [], listed.getD c false = false := fun c hc => by
                  have := hcu c hc
                  rw [getD_set _ _ _ hsz] at this
                  by_cases e3 : i = c
                  · rw [if_pos e3] at this; cases this
                  · rwa [if_neg e3] at this
                have hs1 := hst.at_ hs'
                unfold relOf at hR
                split at hR
                · rename_i hb
                  have hjm : j < m := by rw [← hF.spl]; exact (List.getElem?_eq_some_iff.1 hs').1
                  rcases hCi.2 hb j hjm e with h7 | h7 | ⟨c, hc, h7⟩
                  · exfalso; have := hM.closed hA j i hl h7; rw [hfi] at this; cases this
                  · exact hs1.2 h7 _ _ _ (g1 hcu') hR
                  · exfalso
                    rcases h7 with rfl | h7
                    · have := hcu c hc; rw [getD_set _ _ _ hsz, if_pos rfl] at this; cases this
                    · have hci : listed.getD c false = false := hcu' c hc
                      have := hM.near hA ho' (fun j hj => hasEdge_listed hj hal) h7
                      rw [hci] at this; cases this
                · exact hs1.1 _ _ _ (g1 hcu') hR
              have hj : j < m := by rw [← hF.spl]; exact (List.getElem?_eq_some_iff.1 hs').1
              have hjl : j < l.length := by have := hF.le; omega
              have hoj := List.getElem?_eq_getElem hjl
              have hdj := hF.dst j _ dst φ' hoj hs'
              rw [hput d (fun d' hd' e' => by subst e'; exact hF.apart j i _ o d hj him e hoj ho' (by rw [hdj, hd]) hd')]
              exact g2 d hd
        have hcnt' := cnt_set listed i hsz hfi l.length hil
        unfold wpOp
        rw [ho]
        dsimp only
        have h1 := hOp a hFr
        split
        · rename_i hw
          rw [if_pos hw] at h1
          refine .inl (Oper.wp_mono ?_ (h1 Q))
          rintro a' w' ⟨v, rfl, hv, hR⟩
          exact ih _ _ _ _ (hnew v w' hv hR) (by omega)
        · rename_i hw
          rw [if_neg hw] at h1
          exact ih _ _ _ _ (hnew undef w h1.1 h1.2) (by omega)


theorem w_drawDT {id : Nat} {w : World} {ρ : Env} (m : Nat) (R R0 R1 : World → World → Prop) (sp : Spec) (ds anc con : List (List Nat)) (big st1 cls : List Bool) (ρ0 : Env) (hsub : Sub ρ0 ρ) (hm : P.follows .mixedOrders = true)
    (hchk : drawOkT l m n (keysOf ρ0) (sp.map (·.1)) ds = true) (hA : ancOk l anc = true) (hC : conOk m ds anc con big st1 = true) (hR : ∀ a, R a a) (hRt : ∀ a b c, R a b → R b c → R a c) (hR0 : ∀ a b, R0 a b → R a b) (hR1 : ∀ a b, R1 a b → R a b) (hst : StAllC R0 R1 sp st1) (hR00 : ∀ a, R0 a a) (hR0t : ∀ a b c, R0 a b → R0 b c → R0 a c) (hcl : cleanOk m anc big cls = true)
    (h : ∀ w0, w.grownBy w0 none → w0.heap.size = w.heap.size → ObsAllD P l.toArray n D ρ0 w0 R R0 R1 sp l ds big cls sp ∧ (∀ w', R w0 w' → AllV2 (finS sp con) ρ0 w' (fun ρ => Reg P l.toArray Q (l.drop m) n D ρ w'))) :
    W P (.region id l.toArray true) Q n D ρ w := by
  intro a ha
  have hF := drawFactsT hchk
  obtain ⟨h1, h2⟩ := h w.drew (grown_drew w) rfl
  refine wp_region_any hm ?_
  have hno : ∀ i, (Array.replicate l.length false).getD i false = false := fun i => by
    simp [Array.getD_eq_getD_getElem?, Array.getElem?_replicate]; split <;> rfl
  have hM : MidD l con n D ρ0 w.drew R R0 big sp m l.length (Array.replicate l.length false) (fun _ => undef) a w.drew :=
    { fr := ha.sub hsub, wr := hR _, cln := fun _ => hR00 _, size := by simp, tail := fun i _ => hno i,
      cl := fun i o _ hl j _ => (by rw [hno] at hl; cases hl),
      got := fun i dst φ hs hl => (by rw [hno] at hl; cases hl) }
  have := mid_anyDT hA hC hR0 hR1 hF (fun t v hl => look_of_keys hl) hRt hst hR00 hR0t hcl h1 h2 l.length (Array.replicate l.length false) (fun _ => undef) a w.drew hM (by
      have : ∀ k L, cnt k L ≤ k := by
        intro k L; induction k with
        | zero => exact Nat.le_refl _
        | succ k ih => unfold cnt; split <;> omega
      exact this _ _)
  simpa using this
end
section
variable {P : Program} {ops : Array Oper} {Q : Exit → Act → World → Prop} {rest : List Oper} {n : Nat} {D : List Deferred} {ρ : Env} {w : World}
variable {d ty xt yt : Nat} {pos : String} {after : Array Edge} {gd : Option (Nat × Bool)} {C : Value → World → Prop} {x y : Operand} {a b : Int}
theorem s_andi (hx : opv ρ x = some (.int .i64 a)) (hy : opv ρ y = some (.int .i64 b)) (ha : 0 ≤ a ∧ a < 9223372036854775808) (hb : 0 ≤ b ∧ b < 9223372036854775808) (h : C (.int .i64 (iand a b)) w) : OpW P ⟨some d, .binOp .and xt x y yt, ty, pos, after, gd⟩ n D ρ w C := by
  have hM : (2 : Int) ^ IntKind.i64.bits = 18446744073709551616 := by decide
  have key : Op.intBits .and .i64 a b = (pure (.int .i64 (IntKind.i64.wrap ((BitVec.ofInt IntKind.i64.bits a &&& BitVec.ofInt IntKind.i64.bits b).toNat : Int))) : Sem Value) := rfl
  refine s_bits hx hy (v := .int .i64 (iand a b)) ?_ rfl h
  rw [key, BitVec.toNat_and, ofInt_u ha.1 (by rw [hM]; omega), ofInt_u hb.1 (by rw [hM]; omega)]
  have h1 : a.toNat &&& b.toNat ≤ a.toNat := Nat.and_le_left
  have h2 : IntKind.i64.wrap ((a.toNat &&& b.toNat : Nat) : Int) = ((a.toNat &&& b.toNat : Nat) : Int) := by rw [IntKind.wrap_i64]; omega
  rw [h2]; rfl
end
end Go.Gw

set_option linter.unusedSimpArgs false
set_option linter.unusedVariables false
namespace Go.Gw
open Go.RowKit
/-! ### An element, found in a region that draws its order -/
section
variable {P : Program} {n : Nat} {D : List Deferred} {ρ : Env} {w w' : World} {α : Type} [Inhabited α] {K : Kd α} {F : Nat → Prop}
variable {d ty : Nat} {pos : String} {after : Array Edge} {gd : Option (Nat × Bool)} {C : Value → World → Prop} {x y z : Operand}
def IsEl (K : Kd α) (W : World) (F : Nat → Prop) (p : Value) (a : α) : Prop := ∃ b o us, p = .pointer (some ⟨b, o, none⟩) ∧ b < W.heap.size ∧ K.rep W F us a ∧ W.rangeAt b o us
omit [Inhabited α] in
theorem IsEl.g0 {p : Value} {a : α} (h : IsEl K w F p a) (k : w.grownBy w' none) : IsEl K w' F p a := by
  obtain ⟨b, o, us, e, hb, hr, hc⟩ := h
  exact ⟨b, o, us, e, Nat.lt_of_lt_of_le hb k.size, K.keep hr fun i hi _ => k.block i hi (by simp), range_g0 hc k⟩
theorem s_idxE {t e by_ : Nat} {zv v : Value} {xs : List α} {kd : IntKind} {i : Int} (hs : SlF P t e K.sz by_ zv) (hx : opv ρ x = some v) (hy : opv ρ y = some (.int kd i)) (hl : Sl K w F v xs) (h0 : 0 ≤ i) (h1 : i < xs.length)
    (k : ∀ p, IsEl K w F p (ix xs i) → C p w) : OpW P ⟨some d, .indexAddr t x y, ty, pos, after, gd⟩ n D ρ w C :=
  s_idx hs hx hy hl h0 h1 fun b o us hr hc hF hlt => k _ ⟨b, o, us, rfl, hlt, hr, hc⟩
end
/-! ### A struct into an own row; a place of an array of two -/
section
variable {P : Program} {n : Nat} {D : List Deferred} {ρ : Env} {w : World}
variable {d ty : Nat} {pos : String} {after : Array Edge} {gd : Option (Nat × Bool)} {C : Value → World → Prop} {x y z : Operand}
def sel2 (a b : Int) (i : Int) : Int := if i = 0 then a else b
end
end Go.Gw

set_option linter.unusedSimpArgs false
set_option linter.unusedVariables false
/-! ### The reference's edges: the plain law -/
namespace Go.Gw
open Go.RowKit
def pm (a b c d j : Int) : Int := if j ≤ 1 then sel2 a b (j % 2) else sel2 c d (j % 2)
def acc (l : List Nd) (f : Int → Bool) (x : Nd) (a b c d : Int) (j : Int) : Option Int := egN mo (fun q => egK mo 0 f l x (pm a b c d q)) j.toNat
/-- Two near and two far quarters. -/
structure Sides (f : Int → Bool) (a b c d : Int) : Prop where
  ra : 0 ≤ a ∧ a < 4
  rb : 0 ≤ b ∧ b < 4
  rc : 0 ≤ c ∧ c < 4
  rd : 0 ≤ d ∧ d < 4
  na : f a = false
  nb : f b = false
  fc : f c = true
  fd : f d = true
  all : ∀ g : Int → Option Int, mo (mo (mo (g a) (g b)) (g c)) (g d) = fold4 mo g
/-- No node is without a cell. -/
def Full (l : List Nd) : Prop := ∀ n : Int, 1 ≤ n → n ≤ l.length → emp (tr l n) = false
end Go.Gw
namespace Go.Gw
open Go.RowKit
end Go.Gw

set_option linter.unusedSimpArgs false
set_option linter.unusedVariables false
/-! ### The reference's box is the program's -/
namespace Go.Gw
open Go.RowKit
theorem full_last {l : List Nd} (h : Full l) (hn : l ≠ []) : emp (tr l l.length) = false := by
  have : l.length ≠ 0 := fun e => hn (List.eq_nil_of_length_eq_zero e)
  exact h _ (by omega) (Int.le_refl _)
theorem ea_some {f : Int → Bool} {l : List Nd} (h : Full l) (hn : l ≠ []) : ∃ e, ea f (tr l l.length) = some e := by
  have h1 := eg_isSome mo_isSome 0 f (tr l l.length)
  rw [full_last h hn] at h1
  exact Option.isSome_iff_exists.1 (by simpa using h1)
theorem rbx_some {l : List Nd} (h : Full l) (hn : l ≠ []) : (bxs l).some = true := by
  obtain ⟨e, he⟩ := ea_some (f := fX) h hn
  unfold bxs spn spO; rw [he]; rfl
end Go.Gw

set_option linter.unusedSimpArgs false
set_option linter.unusedVariables false
namespace Go.Gw
open Go.RowKit
/-! ### Cells; parts without room; a row made of two slices -/
section
variable {P : Program} {n : Nat} {D : List Deferred} {ρ : Env} {w w' : World} {α : Type} {K : Kd α} {F : Nat → Prop}
variable {d ty : Nat} {pos : String} {after : Array Edge} {gd : Option (Nat × Bool)} {C : Value → World → Prop} {x y z : Operand}
/-- A slice's cells, one behind the other. -/
theorem sl_cells {A : Option Addr} {c : Nat} {ys : List α} (hpos : 0 < K.sz) (h : Sl K w F (.slice A ys.length c) ys) : ∃ vs : List (List Value), vs.length = ys.length ∧ (∀ (i : Nat) (u : List Value) (y : α), vs[i]? = some u → ys[i]? = some y → K.rep w F u y) ∧ (∀ u ∈ vs, u.length = K.sz) ∧ (ys ≠ [] → ∃ g o, A = some ⟨g, o, none⟩ ∧ w.rangeAt g o vs.flatten) := by
  obtain ⟨A', c', e, h2, h3, h4⟩ := h
  cases e
  have hex : ∀ i : Fin ys.length, ∃ u, ∃ g o, A = some ⟨g, o, none⟩ ∧ K.rep w F u ys[i] ∧ w.rangeAt g (o + i * K.sz) u := by
    intro i
    obtain ⟨g, o, u, ha, _, _, hrep, hrng⟩ := h4 i ys[i] (by simp)
    exact ⟨u, g, o, ha, hrep, hrng⟩
  let f : Fin ys.length → List Value := fun i => Classical.choose (hex i)
  have hf : ∀ i, ∃ g o, A = some ⟨g, o, none⟩ ∧ K.rep w F (f i) ys[i] ∧ w.rangeAt g (o + i * K.sz) (f i) := fun i => Classical.choose_spec (hex i)
  have hall : ∀ u ∈ List.ofFn f, u.length = K.sz := by
    intro u hu
    obtain ⟨i, rfl⟩ := List.mem_ofFn.1 hu
    obtain ⟨_, _, _, hrep, _⟩ := hf i
    exact K.len hrep
  refine ⟨List.ofFn f, by simp, fun i u y hu hy => ?_, hall, fun hne => ?_⟩
  · rw [List.getElem?_ofFn] at hu
    split at hu
    · rename_i hi
      cases hu
      obtain ⟨_, _, _, hrep, _⟩ := hf ⟨i, hi⟩
      have : ys[i] = y := by rw [List.getElem?_eq_getElem hi] at hy; injection hy
      subst this; exact hrep
    · cases hu
  · have hlen : 0 < ys.length := List.length_pos_iff.2 hne
    obtain ⟨g, o, ha', _, _⟩ := hf ⟨0, hlen⟩
    refine ⟨g, o, ha', fun j u hj => ?_⟩
    have hjl : j < ys.length * K.sz := by
      have := (List.getElem?_eq_some_iff.1 hj).1
      rw [List.length_flatten] at this
      have hsum := flatten_len (List.ofFn f) hall
      rw [List.length_flatten, List.length_ofFn] at hsum
      omega
    have hdiv : j / K.sz < ys.length := Nat.div_lt_of_lt_mul (by rw [Nat.mul_comm]; exact hjl)
    have hmod : j % K.sz < K.sz := Nat.mod_lt _ hpos
    have hu : (List.ofFn f)[j / K.sz]? = some (f ⟨j / K.sz, hdiv⟩) := by rw [List.getElem?_ofFn]; simp [hdiv]
    have h5 := flatten_get (sz := K.sz) (List.ofFn f) hall (j / K.sz) (j % K.sz) _ hu hmod
    rw [show j / K.sz * K.sz + j % K.sz = j by rw [Nat.mul_comm]; exact Nat.div_add_mod j K.sz, hj] at h5
    obtain ⟨g2, o2, ha2, _, hrng⟩ := hf ⟨j / K.sz, hdiv⟩
    rw [ha'] at ha2
    injection ha2 with ha2
    injection ha2 with e1 e2
    subst e1; subst e2
    have := hrng (j % K.sz) u h5.symm
    rw [← this]; congr 2
    show o + j = o + j / K.sz * K.sz + j % K.sz
    have := Nat.div_add_mod j K.sz
    rw [Nat.mul_comm] at this; omega
/-- A slice without room behind it. -/
def SlC (K : Kd α) (w : World) (F : Nat → Prop) (v : Value) (xs : List α) : Prop := Sl K w F v xs ∧ ∃ A, v = .slice A xs.length xs.length
/-- v[:j:j] -/
theorem s_slcap {t e by_ : Nat} {zv v : Value} {xs : List α} {kd kd' : IntKind} {j : Int} (hs : SlF P t e K.sz by_ zv) (hx : opv ρ x = some v) (hy : opv ρ y = some (.int kd j)) (hz : opv ρ z = some (.int kd' j)) (hl : Sl K w F v xs) (h0 : 0 ≤ j) (h1 : j ≤ xs.length)
    (k : ∀ v', SlC K w F v' (xs.take j.toNat) → C v' w) : OpW P ⟨some d, .slice t x none (some y) (some z), ty, pos, after, gd⟩ n D ρ w C := by
  obtain ⟨A, c, rfl, a1, a2, a3⟩ := id hl
  obtain ⟨inf, hinf, hzero, hsz, hby⟩ := hs.inf
  have hp := sl_part (l := 0) (h := j.toNat) (m := j.toNat) hl (by omega) (by omega) (Nat.le_refl _) (by omega)
  rw [List.drop_zero] at hp
  have hlen : (xs.take j.toNat).length = j.toNat := by simp; omega
  refine opw_val (w' := w) (fun ev he => ?_) (k _ ⟨hp, ?_⟩)
  · have hb : (Instr.sliceBound (.int kd' j) c .slice3Acap).run P w = .ok j.toNat w := by
      have : j ≤ c := by omega
      simp [Instr.sliceBound, asIntOf, h0, this]
    have hb2 : (Instr.sliceBound (.int kd j) j.toNat .slice3B).run P w = .ok j.toNat w := by
      have : j ≤ (j.toNat : Int) := by omega
      simp only [Instr.sliceBound, asIntOf, Sem.run_bind, Sem.run_pure, Result.andThen_ok, if_pos (And.intro h0 this)]
    simp [execOp, he x _ hx, he y _ hy, he z _ hz, Instr.sliceAt, Instr.slice, run_underlying hs.und, Instr.sliceBounds, hb, hb2, sizeOf, typeInfo, hinf, hsz]
  · exact ⟨if j.toNat = 0 then A else A.map (·.add (0 * K.sz)), by rw [hlen, Nat.sub_zero]⟩
/-- append(v, s...) where v has no room: a new row. -/
theorem s_appfull {t e by_ : Nat} {z' v s : Value} {xs ys : List α} (hs : SlF P t e K.sz by_ z') (hx : opv ρ x = some v) (hy : opv ρ y = some s) (hl : SlC K w F v xs) (hsrc : Sl K w F s ys) (hys : ys ≠ [])
    (hone : K.Ones) (h63 : xs.length + ys.length ≤ 100000000) (hbytes : (2 * (xs.length + ys.length)) * by_ ≤ 140737488355328) (hF : ∀ k, F k → k < w.heap.size)
    (k : ∀ v' w', Own K e w.heap.size w' F v' (xs ++ ys) → w.grownBy w' none → v'.ownBlock = some w.heap.size → C v' w') :
    OpW P ⟨some d, .call { callee := .builtin .append, args := #[x, y], argTypes := #[t, t] }, ty, pos, after, gd⟩ n D ρ w C := by
  obtain ⟨inf, hinf, hzero, hsz, hby⟩ := hs.inf
  have hzsz : z'.cells.size = K.sz := hs.zsz
  have hylen : 0 < ys.length := List.length_pos_iff.2 hys
  obtain ⟨hl, A, rfl⟩ := hl
  obtain ⟨B, c, rfl, hB1, hB2, hB3⟩ := id hsrc
  obtain ⟨us, hul, hur, hua, huc⟩ := sl_cells hs.pos hl
  obtain ⟨vs, hvl, hvr, hva, hvc⟩ := sl_cells hs.pos hsrc
  obtain ⟨g2, o2, rfl, hrng⟩ := hvc hys
  have hfu := flatten_len us hua
  have hfv := flatten_len vs hva
  have fin : ∀ (old : Nat), w.grownBy (w.drew.alloc (.cells ((us.flatten ++ vs.flatten).toArray ++ Builtin.zeroCells z'.cells (grownCap w (xs.length + ys.length) old e - (xs.length + ys.length))) e)) none ∧
      Own K e w.heap.size (w.drew.alloc (.cells ((us.flatten ++ vs.flatten).toArray ++ Builtin.zeroCells z'.cells (grownCap w (xs.length + ys.length) old e - (xs.length + ys.length))) e)) F (.slice (some ⟨w.heap.size, 0, none⟩) (xs.length + ys.length) (grownCap w (xs.length + ys.length) old e)) (xs ++ ys) := by
    intro old
    have hgr : w.grownBy (w.drew.alloc (.cells ((us.flatten ++ vs.flatten).toArray ++ Builtin.zeroCells z'.cells (grownCap w (xs.length + ys.length) old e - (xs.length + ys.length))) e)) none := ⟨rfl, rfl, rfl, by simp, fun k hk _ => heap_alloc_old w.drew _ hk⟩
    have hge := grownCap_ge w (xs.length + ys.length) old e
    have hcm := grownCap_le_maxLen w (xs.length + ys.length) old e (by simp only [maxLen]; omega)
    refine ⟨hgr, ⟨us ++ vs, by simp [hul, hvl], fun i u x hu hx => ?_, ?_⟩, fun g hg hf => ?_⟩
    · have hrep : K.rep w F u x := by
        rcases Nat.lt_or_ge i xs.length with h | h
        · rw [List.getElem?_append_left (by omega)] at hu; rw [List.getElem?_append_left h] at hx; exact hur i u x hu hx
        · rw [List.getElem?_append_right (by omega), hul] at hu; rw [List.getElem?_append_right h] at hx; exact hvr _ u x hu hx
      refine K.keep (K.weak hrep fun k hk h => ?_) fun k hk _ => hgr.block k hk (by simp)
      rcases h with h | h
      · exact h
      · simp [Value.ownBlock] at h; omega
    · rw [List.flatten_append, List.length_append]
      refine ⟨by rw [List.length_append, hfu, hfv, hul, hvl, Nat.add_mul], .inr ⟨w.heap.size, _, _, rfl, Nat.le_refl _, heap_alloc_new w.drew _, hge, hcm, ?_, ?_⟩⟩
      · simp only [Array.size_append, List.size_toArray, size_zeroCells, hzsz, List.length_append, hfu, hfv, hul, hvl, ← Nat.add_mul]
        congr 1; omega
      · simp only [Array.toList_append]
        rw [List.take_left' (by rw [List.length_append, hfu, hfv, hul, hvl, Nat.add_mul])]
    · simp [Value.ownBlock] at hg; have := hF g hf; omega
  have hnews : ∀ j v, vs.flatten[j]? = some v → w.cell? ((⟨g2, o2, none⟩ : Addr).add j) = some v := fun j u hj => rangeAt_add hrng j u hj
  have hvl2 : vs.flatten.length = ys.length * inf.size := by rw [hfv, hvl, hsz]
  cases A with
  | none =>
    have hx0 : xs = [] := by
      cases xs with
      | nil => rfl
      | cons a r => obtain ⟨A', c', e', _, _, h4⟩ := hl; cases e'; obtain ⟨_, _, _, ha, _⟩ := h4 0 a rfl; cases ha
    subst hx0
    have hu0 : us = [] := List.eq_nil_of_length_eq_zero hul
    subst hu0
    have hf := fin 0
    simp only [List.length_nil, Nat.zero_add, List.flatten_nil, List.nil_append] at hf hbytes
    have hrun := Go.run_append_nil (P := P) w t ty e inf z' hs.und hinf hzero ⟨g2, o2, none⟩ ys.length c vs.flatten hvl2 hnews hylen (by simp only [List.length_nil] at h63; omega) (by rw [hby]; have := Nat.mul_le_mul_right by_ (show ys.length ≤ 2 * ys.length by omega); omega)
    refine opw_val (v := _) (w' := _) (fun ev he => ?_) (k _ _ hf.2 hf.1 rfl)
    simp [execOp, resolve, invoke, builtin, he x _ hx, he y _ hy, hrun]
  | some a =>
    have holds : ∀ j v, us.flatten[j]? = some v → w.cell? (a.add j) = some v := by
      intro j u hj
      by_cases hne : xs = []
      · subst hne
        have hu0 : us = [] := List.eq_nil_of_length_eq_zero hul
        subst hu0; simp at hj
      · obtain ⟨g, o, ha, hrng⟩ := huc hne
        cases ha
        exact rangeAt_add hrng j u hj
    have hf := fin xs.length
    have hnc := nextslicecap_le (need := xs.length + ys.length) (old := xs.length) (by omega)
    have hrun := Go.run_append_grow (P := P) w t ty e inf z' hs.und hinf hzero a xs.length xs.length us.flatten (by rw [hfu, hul, hsz]) holds ⟨g2, o2, none⟩ ys.length c vs.flatten hvl2 hnews (by omega) (by omega) (by rw [hby]; have := Nat.mul_le_mul_right by_ hnc; omega)
    have hrun' := hrun
    rw [show us.flatten.toArray ++ vs.flatten.toArray = (us.flatten ++ vs.flatten).toArray by simp] at hrun'
    refine opw_val (v := _) (w' := _) (fun ev he => ?_) (k _ _ hf.2 hf.1 rfl)
    simp [execOp, resolve, invoke, builtin, he x _ hx, he y _ hy, hrun]
end
end Go.Gw
