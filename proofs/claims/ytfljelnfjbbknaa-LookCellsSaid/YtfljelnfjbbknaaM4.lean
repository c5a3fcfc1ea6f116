/- Part of the proof: a library for walks, plain laws, and functions' walks. -/
import Derived.Test.YtfljelnfjbbknaaM3
import Derived.Test.YtfljelnfjbbknaaM2
import Derived.Laws.CopyRow
set_option linter.unusedSimpArgs false
set_option linter.unusedVariables false
namespace Go.Gw
open Go.RowKit
section
variable {P : Program} {l : List Oper} {Q : Exit → Act → World → Prop} {n m : Nat} {D : List Deferred} {ρ0 : Env} {w0 : World} {R : World → World → Prop} {sp : Zcf} {ds : List (List Nat)}
structure MidT (l : List Oper) (n : Nat) (D : List Deferred) (ρ0 : Env) (w0 : World) (R : World → World → Prop) (sp : Zcf) (m N : Nat) (listed : Array Bool) (vals : Nat → Value) (a : Act) (w : World) : Prop where
  fr : Fr n D ρ0 a
  wr : R w0 w
  size : listed.size = N
  tail : ∀ i, m ≤ i → listed.getD i false = false
  cl : ∀ i o j, l[i]? = some o → listed.getD i false = true → Zb4 o j = true → listed.getD j false = true
  got : ∀ i dst φ, sp[i]? = some (dst, φ) → listed.getD i false = true → φ (vals i) w ∧ ∀ d, dst = some d → a.tmps[d]? = some (vals i)
theorem Zj6 {listed : Array Bool} {vals : Nat → Value} {a : Act} {w : World} {N : Nat} (hM : MidT l n D ρ0 w0 R sp m N listed vals a w) : ∀ (d : List Nat) (ρ : Env) (K : Env → Prop), Fr n D ρ a → (∀ j ∈ d, listed.getD j false = true) →
    Zd3 sp d ρ w K → ∃ ρ', Fr n D ρ' a ∧ K ρ'
  | [], ρ, K, hF, _, h => ⟨ρ, hF, h⟩
  | j :: r, ρ, K, hF, hl, h => by
    unfold Zd3 at h
    split at h
    · rename_i d φ hs
      obtain ⟨h1, h2⟩ := hM.got j _ _ hs (hl j (by simp))
      refine Zj6 hM r _ K ⟨hF.defers, hF.size, fun t v hlk => ?_⟩ (fun i hi => hl i (by simp [hi])) (h _ h1)
      rw [Zb1] at hlk
      split at hlk
      · rename_i e; subst e; cases hlk; exact h2 _ rfl
      · exact hF.slot _ _ hlk
    · exact Zj6 hM r _ K hF (fun i hi => hl i (by simp [hi])) h
def reachN (l : List Oper) : Nat → Oper → Nat → Bool
  | 0, o, j => Zb4 o j
  | f + 1, o, j => Zb4 o j || (List.range l.length).any fun k => Zb4 o k && (match l[k]? with | some o' => reachN l f o' j | none => false)
theorem Zff {l : List Oper} {L : Array Bool} (cl : ∀ i o j, l[i]? = some o → L.getD i false = true → Zb4 o j = true → L.getD j false = true) : ∀ (f : Nat) (o : Oper) (j : Nat), (∀ k, Zb4 o k = true → L.getD k false = true) → reachN l f o j = true → L.getD j false = true
  | 0, o, j, h, hr => h j hr
  | f + 1, o, j, h, hr => by
    unfold reachN at hr
    rw [Bool.or_eq_true] at hr
    rcases hr with hr | hr
    · exact h j hr
    · rw [List.any_eq_true] at hr
      obtain ⟨k, _, hk⟩ := hr
      rw [Bool.and_eq_true] at hk
      obtain ⟨h1, h2⟩ := hk
      split at h2
      · rename_i o' ho'
        exact Zff cl f o' j (fun k' hk' => cl k o' k' ho' (h k h1) hk') h2
      · cases h2
def Zjg (l : List Oper) (m n : Nat) (keys : List Nat) (sd : List (Option Nat)) (ds : List (List Nat)) : Bool :=
  decide (m ≤ l.length) && decide (sd.length = m) && decide (ds.length = m) &&
  (List.range l.length).all (fun i => match l[i]? with
    | some o => o.after.all (fun e => !Region.binds .any e || decide (e.on < i)) &&
      (if i < m then (ds.getD i []).all (fun j => decide (j < m) && Zb4 o j) && (decide (sd.getD i none = o.dst)) && (match o.dst with | some d => decide (d < n) && !keys.contains d | none => true)
       else (i == m || Zb4 o (i - 1)) && (List.range m).all (fun j => reachN l 8 o j))
    | none => false) &&
  (List.range m).all (fun i => (List.range m).all fun j => i == j || (match sd.getD i none, sd.getD j none with | some d, some e => d != e | _, _ => true))
structure DrawFactsT (l : List Oper) (m n : Nat) (keys : List Nat) (sp : Zcf) (ds : List (List Nat)) : Prop where
  le : m ≤ l.length
  spl : sp.length = m
  before : ∀ (i : Nat) (o : Oper), l[i]? = some o → ∀ e, e ∈ o.after → Region.binds .any e = true → e.on < i
  deps : ∀ (i : Nat) (o : Oper), i < m → l[i]? = some o → ∀ j, j ∈ ds.getD i [] → j < m ∧ Zb4 o j = true
  dst : ∀ (i : Nat) (o : Oper) (dst : Option Nat) (φ : Value → World → Prop), l[i]? = some o → sp[i]? = some (dst, φ) → o.dst = dst
  ok : ∀ (i : Nat) (o : Oper) (d : Nat), i < m → l[i]? = some o → o.dst = some d → d < n ∧ d ∉ keys
  tail : ∀ (i : Nat) (o : Oper), m ≤ i → l[i]? = some o → (i = m ∨ Zb4 o (i - 1) = true) ∧ ∀ j, j < m → reachN l 8 o j = true
  apart : ∀ (i j : Nat) (o o' : Oper) (d : Nat), i < m → j < m → i ≠ j → l[i]? = some o → l[j]? = some o' → o.dst = some d → o'.dst ≠ some d
theorem Zie {keys : List Nat} (h : Zjg l m n keys (sp.map (·.1)) ds = true) : DrawFactsT l m n keys sp ds := by
  unfold Zjg at h
  simp only [Bool.and_eq_true, decide_eq_true_eq, List.all_eq_true, List.mem_range, List.length_map] at h
  obtain ⟨⟨⟨⟨h1, h2⟩, h3⟩, h4⟩, h5⟩ := h
  have hat : ∀ i o, l[i]? = some o → i < l.length := fun i o ho => (List.getElem?_eq_some_iff.1 ho).1
  have hsd : ∀ i, (List.map (·.1) sp).getD i none = ((sp[i]?).map (·.1)).getD none := fun i => by simp [List.getD_eq_getElem?_getD]
  refine ⟨h1, h2, ?_, ?_, ?_, ?_, ?_, ?_⟩
  · intro i o ho e he hb
    have := h4 i (hat i o ho)
    rw [ho] at this
    simp only [Bool.and_eq_true] at this
    obtain ⟨k, hk, rfl⟩ := Array.getElem_of_mem he
    have := (Array.all_eq_true.1 this.1) k hk
    simpa [hb] using this
  · intro i o hi ho j hj
    have := h4 i (hat i o ho)
    rw [ho] at this
    simp only [Bool.and_eq_true, if_pos hi, List.all_eq_true, decide_eq_true_eq] at this
    exact this.2.1.1 j hj
  · intro i o dst φ ho hs
    have hi : i < m := by rw [← h2]; exact (List.getElem?_eq_some_iff.1 hs).1
    have := h4 i (hat i o ho)
    rw [ho] at this
    simp only [Bool.and_eq_true, if_pos hi, List.all_eq_true, decide_eq_true_eq] at this
    have h6 := this.2.1.2
    rw [hsd, hs] at h6
    simpa using h6.symm
  · intro i o d hi ho hd
    have := h4 i (hat i o ho)
    rw [ho] at this
    simp only [Bool.and_eq_true, if_pos hi, List.all_eq_true, decide_eq_true_eq] at this
    have h6 := this.2.2
    rw [hd] at h6
    simpa using h6
  · intro i o hi ho
    have := h4 i (hat i o ho)
    rw [ho] at this
    simp only [Bool.and_eq_true, if_neg (show ¬ i < m by omega), List.all_eq_true, List.mem_range, Bool.or_eq_true, beq_iff_eq] at this
    exact this.2
  · intro i j o o' d hi hj hne ho ho' hd hd'
    have h6 := h5 i hi j hj
    have a1 : (List.map (·.1) sp).getD i none = some d := by
      have := h4 i (hat i o ho)
      rw [ho] at this
      simp only [Bool.and_eq_true, if_pos hi, decide_eq_true_eq] at this
      rw [this.2.1.2, hd]
    have a2 : (List.map (·.1) sp).getD j none = some d := by
      have := h4 j (hat j o' ho')
      rw [ho'] at this
      simp only [Bool.and_eq_true, if_pos hj, decide_eq_true_eq] at this
      rw [this.2.1.2, hd']
    rw [a1, a2] at h6
    simp [hne] at h6
theorem Zjk {keys : List Nat} (hF : DrawFactsT l m n keys sp ds) : ∀ (fuel k : Nat) (listed : Array Bool) (a : Act) (w : World), m ≤ k → k ≤ l.length → l.length - k ≤ fuel → listed.size = l.length →
    (∀ i, i < k → listed.getD i false = true) → (∀ i, k ≤ i → listed.getD i false = false) → wpList P l.toArray Q (l.drop k) a w → wpAny P .any l.toArray Q fuel listed a w := by
  intro fuel
  induction fuel with
  | zero =>
    intro k listed a w hm hk hf hs h1 h2 h
    have hk' : k = l.length := by omega
    subst hk'
    rw [List.drop_length] at h
    refine ⟨?_, h⟩
    rw [List.eq_nil_iff_forall_not_mem]
    intro i hi
    obtain ⟨o, ho, hf', _⟩ := (Zbm (by simpa using hs)).1 hi
    have : i < l.length := by simpa using (Array.getElem?_eq_some_iff.1 ho).1
    rw [h1 i this] at hf'; cases hf'
  | succ fuel ih =>
    intro k listed a w hm hk hf hs h1 h2 h
    rcases Nat.lt_or_ge k l.length with hlt | hge
    · have hget : l[k]? = some l[k] := List.getElem?_eq_getElem hlt
      have hr : k ∈ Region.ready .any l.toArray listed := by
        refine (Zbm (by simpa using hs)).2 ⟨l[k], by simp, h2 k (Nat.le_refl _), ?_⟩
        rw [Array.all_eq_true]
        intro j hj
        by_cases hb : Region.binds .any l[k].after[j] = true
        · rw [h1 _ (hF.before k _ hget _ (Array.getElem_mem hj) hb)]; simp
        · simp [hb]
      refine ⟨fun h0 => by rw [h0] at hr; simp at hr, fun i hi => ?_⟩
      obtain ⟨o, ho, hfi, hall⟩ := (Zbm (by simpa using hs)).1 hi
      have ho' : l[i]? = some o := by simpa using ho
      have hik : i = k := by
        rcases Nat.lt_trichotomy i k with h3 | h3 | h3
        · rw [h1 i h3] at hfi; cases hfi
        · exact h3
        · have := Zam ((hF.tail i o om ho').1.resolve_left om) hall
          rw [h2 (i - 1) om] at this; cases this
      subst hik
      have hsz : i < listed.size := by omega
      have hnext : ∀ a w, wpList P l.toArray Q (l.drop (i + 1)) a w → wpAny P .any l.toArray Q fuel (listed.setIfInBounds i true) a w := fun a w hh =>
        ih (i + 1) _ a w om om om (by simpa using hs) (fun j hj => by
          rw [Zar _ _ _ hsz]
          by_cases e : i = j
          · rw [if_pos e]
          · rw [if_neg e]; exact h1 j om)
          (fun j hj => by rw [Zar _ _ _ hsz, if_neg om]; exact h2 j om) hh
      rw [List.drop_eq_getElem_cons hlt] at h
      unfold wpList at h
      unfold wpOp
      rw [ho]
      have hoe : o = l[i] := by rw [hget] at ho'; injection ho' with e; exact e.symm
      subst hoe
      dsimp only
      split
      · rename_i hw
        rw [if_pos hw] at h
        rcases h with h | h
        · exact .inl (Oper.wp_mono hnext h)
        · exact .inr h
      · rename_i hw
        rw [if_neg hw] at h
        exact hnext _ _ h
    · have hk' : k = l.length := by omega
      subst hk'
      rw [List.drop_length] at h
      refine ⟨fun _ => h, fun i hi => ?_⟩
      obtain ⟨o, ho, hf', _⟩ := (Zbm (by simpa using hs)).1 hi
      have : i < l.length := by simpa using (Array.getElem?_eq_some_iff.1 ho).1
      rw [h1 i this] at hf'; cases hf'
theorem mid_anyT {keys : List Nat} (hF : DrawFactsT l m n keys sp ds) (hkeys : ∀ t v, look ρ0 t = some v → t ∈ keys) (hRt : ∀ a b c, R a b → R b c → R a c) (hst : Zhs R sp) (hobs : Zka P l.toArray n D ρ0 w0 R sp l ds sp)
    (hend : ∀ w, R w0 w → AllV sp ρ0 w (fun ρ => Reg P l.toArray Q (l.drop m) n D ρ w)) :
    ∀ (fuel : Nat) (listed : Array Bool) (vals : Nat → Value) (a : Act) (w : World), MidT l n D ρ0 w0 R sp m l.length listed vals a w → cnt l.length listed ≤ fuel → wpAny P .any l.toArray Q fuel listed a w := by
  have hfin : ∀ (fuel : Nat) (listed : Array Bool) (vals : Nat → Value) (a : Act) (w : World), MidT l n D ρ0 w0 R sp m l.length listed vals a w → (∀ i, i < m → listed.getD i false = true) → l.length - m ≤ fuel → wpAny P .any l.toArray Q fuel listed a w := by
    intro fuel listed vals a w hM hall hf
    obtain ⟨ρ', hFr, hReg⟩ := Zgk (w := w) vals sp 0 ρ0 _ hM.fr (fun i dst φ hs => by
      have hi : i < m := by rw [← hF.spl]; exact (List.getElem?_eq_some_iff.1 hs).1
      rw [Nat.zero_add]; exact hM.got i dst φ hs (hall i hi)) (hend w hM.wr)
    exact Zjk hF fuel m listed a w (Nat.le_refl _) hF.le hf hM.size hall hM.tail (hReg a hFr)
  have hcnt : ∀ listed : Array Bool, (∀ i, m ≤ i → listed.getD i false = false) → ∀ k, m ≤ k → k - m ≤ cnt k listed := by
    intro listed ht k
    induction k with
    | zero => intro _; omega
    | succ k ih =>
      intro hk
      unfold cnt
      rcases Nat.lt_or_ge k m with h | h
      · omega
      · rw [ht k h]; have := ih h; simp; omega
  intro fuel
  induction fuel with
  | zero =>
    intro listed vals a w hM hc
    have h0 : cnt l.length listed = 0 := by omega
    have hall := Zfc listed _ h0
    refine hfin 0 listed vals a w hM (fun i hi => hall i (by have := hF.le; omega)) ?_
    have := hcnt listed hM.tail l.length hF.le
    omega
  | succ fuel ih =>
    intro listed vals a w hM hc
    by_cases hall : ∀ i, i < m → listed.getD i false = true
    · refine hfin _ listed vals a w hM hall ?_
      have := hcnt listed hM.tail l.length hF.le
      omega
    · 
      refine ⟨fun h0 => absurd ?_ hall, fun i hi => ?_⟩
      · 
        intro i hi
        induction i using Nat.strongRecOn with
        | _ i ihh =>
          by_cases hb : listed.getD i false = true
          · exact hb
          · exfalso
            have hil : i < l.length := by have := hF.le; omega
            have hr : i ∈ Region.ready .any l.toArray listed := by
              refine (Zbm (by simpa using hM.size)).2 ⟨l[i], by simp [hil], by simpa using hb, ?_⟩
              rw [Array.all_eq_true]
              intro j hj
              by_cases hbd : Region.binds .any l[i].after[j] = true
              · have := hF.before i _ (List.getElem?_eq_getElem hil) _ (Array.getElem_mem hj) hbd
                rw [ihh _ this om]; simp
              · simp [hbd]
            rw [h0] at hr; simp at hr
      · obtain ⟨o, ho, hfi, hal⟩ := (Zbm (by simpa using hM.size)).1 hi
        have ho' : l[i]? = some o := by simpa using ho
        have hil : i < l.length := (List.getElem?_eq_some_iff.1 ho').1
        have him : i < m := by
          rcases Nat.lt_or_ge i m with h | h
          · exact h
          · exact absurd (fun j hj => Zff hM.cl 8 o j (fun k hk => Zam hk hal) ((hF.tail i o h ho').2 j hj)) hall
        have hsp : ∃ dst φ, sp[i]? = some (dst, φ) := by
          have : i < sp.length := by rw [hF.spl]; exact him
          exact ⟨_, _, List.getElem?_eq_getElem this⟩
        obtain ⟨dst, φ, hs⟩ := hsp
        have hdst := hF.dst i o dst φ ho' hs
        subst hdst
        have hsz : i < listed.size := by rw [hM.size]; exact hil
        obtain ⟨ρ', hFr, hOp⟩ := Zj6 hM (ds.getD i []) ρ0 _ hM.fr (fun j hj => Zam (hF.deps i o him ho' j hj).2 hal) (hobs.at_ hs ho' w hM.wr)
        have hnew : ∀ (v : Value) (w' : World), φ v w' → R w w' → MidT l n D ρ0 w0 R sp m l.length (listed.setIfInBounds i true) (fun j => if j = i then v else vals j) (a.put o.dst v) w' := by
          intro v w' hv hR
          have hput : ∀ t, (∀ d, o.dst = some d → t ≠ d) → (a.put o.dst v).tmps[t]? = a.tmps[t]? := by
            intro t ht
            cases hd : o.dst with
            | none => rfl
            | some d => simp only [Act.put, Array.getElem?_setIfInBounds]; rw [if_neg (fun e => ht d hd e.symm)]
          have hputd : ∀ d, o.dst = some d → (a.put o.dst v).tmps[d]? = some v := by
            intro d hd
            have := (hF.ok i o d him ho' hd).1
            rw [hd]
            simp [Act.put, hM.fr.size, this]
          refine ⟨⟨?_, ?_, ?_⟩, hRt _ _ _ hM.wr hR, by simpa using hM.size, ?_, ?_, ?_⟩
          · rw [← hM.fr.defers]; cases o.dst <;> rfl
          · rw [← hM.fr.size]; cases o.dst <;> simp [Act.put]
          · intro t u hl
            rw [hput t (fun d hd e => (hF.ok i o d him ho' hd).2 (by rw [← e]; exact hkeys t u hl))]
            exact hM.fr.slot t u hl
          · intro j hj
            rw [Zar _ _ _ hsz, if_neg om]; exact hM.tail j hj
          · intro j oj j' hoj hl he
            rw [Zar _ _ _ hsz] at hl ⊢
            by_cases e : i = j'
            · rw [if_pos e]
            · rw [if_neg e]
              by_cases e2 : i = j
              · subst e2; rw [ho'] at hoj; injection hoj with hoj; subst hoj; exact Zam he hal
              · rw [if_neg e2] at hl; exact hM.cl j oj j' hoj hl he
          · intro j dst φ' hs' hl
            rw [Zar _ _ _ hsz] at hl
            by_cases e : j = i
            · subst e
              rw [hs] at hs'
              injection hs' with hs'
              injection hs' with e1 e2
              subst e1; subst e2
              rw [if_pos rfl]
              exact ⟨hv, hputd⟩
            · rw [if_neg (fun e' => e e'.symm)] at hl
              rw [if_neg e]
              obtain ⟨g1, g2⟩ := hM.got j dst φ' hs' hl
              refine ⟨hst.at_ hs' _ _ _ g1 hR, fun d hd => ?_⟩
              have hj : j < m := by rw [← hF.spl]; exact (List.getElem?_eq_some_iff.1 hs').1
              have hjl : j < l.length := by have := hF.le; omega
              have hoj := List.getElem?_eq_getElem hjl
              have hdj := hF.dst j _ dst φ' hoj hs'
              rw [hput d (fun d' hd' e' => by subst e'; exact hF.apart j i _ o d hj him e hoj ho' (by rw [hdj, hd]) hd')]
              exact g2 d hd
        have hcnt' := Zgd listed i hsz hfi l.length hil
        unfold wpOp
        rw [ho]
        dsimp only
        have h1 := hOp a hFr
        split
        · rename_i hw
          rw [if_pos hw] at h1
          refine .inl (Oper.wp_mono ?_ (h1 Q))
          rintro a' w' ⟨v, rfl, hv, hR⟩
          exact ih _ _ _ _ (hnew v w' hv hR) om
        · rename_i hw
          rw [if_neg hw] at h1
          exact ih _ _ _ _ (hnew undef w h1.1 h1.2) om
theorem w_drawT {id : Nat} {w : World} {ρ : Env} (m : Nat) (R : World → World → Prop) (sp : Zcf) (ds : List (List Nat)) (ρ0 : Env) (hsub : Sub ρ0 ρ) (hm : P.follows .mixedOrders = true)
    (hchk : Zjg l m n (Ze0 ρ0) (sp.map (·.1)) ds = true) (hR : ∀ a, R a a) (hRt : ∀ a b c, R a b → R b c → R a c) (hst : Zhs R sp)
    (h : ∀ w0, w.grownBy w0 none → w0.heap.size = w.heap.size → Zka P l.toArray n D ρ0 w0 R sp l ds sp ∧ (∀ w', R w0 w' → AllV sp ρ0 w' (fun ρ => Reg P l.toArray Q (l.drop m) n D ρ w'))) :
    W P (.region id l.toArray true) Q n D ρ w := by
  intro a ha
  have hF := Zie hchk
  obtain ⟨h1, h2⟩ := h w.drew (Zef w) rfl
  refine wp_region_any hm ?_
  have := mid_anyT hF (fun t v hl => Zcp hl) hRt hst h1 h2 l.length (Array.replicate l.length false) (fun _ => undef) a w.drew ⟨ha.sub hsub, hR _, by simp, fun i _ => by simp [Array.getD_eq_getD_getElem?, Array.getElem?_replicate]; split <;> rfl, fun i o j _ hl _ => by
    simp [Array.getD_eq_getD_getElem?, Array.getElem?_replicate] at hl
    split at hl <;> simp at hl, fun i dst φ hs hl => by
    simp [Array.getD_eq_getD_getElem?, Array.getElem?_replicate] at hl
    split at hl <;> simp at hl⟩ (by
      have : ∀ k L, cnt k L ≤ k := by
        intro k L; induction k with
        | zero => exact Nat.le_refl _
        | succ k ih => unfold cnt; split <;> omega
      exact this _ _)
  simpa using this
end
end Go.Gw
namespace Go.Gw
open Go.RowKit
def NewV (v : Value) (w : World) : Prop := ∃ g, v = .pointer (some ⟨g, 0, none⟩) ∧ w.heap.size ≤ g
def OldV (v : Value) (w : World) : Prop := ∃ g, v = .pointer (some ⟨g, 0, none⟩) ∧ g < w.heap.size
theorem Zir {u v : Value} {w : World} (h : NewV v w) (k : OldV u w) : u ≠ v := by
  obtain ⟨g, rfl, hg⟩ := h
  obtain ⟨g', rfl, hg'⟩ := k
  intro e; injection e with e; injection e with e; injection e with e; omega
def Zh9 : Zcf → List Bool → List Value → Env → World → (Env → Prop) → Prop
  | [], _, _, ρ, _, K => K ρ
  | (some d, φ) :: r, true :: bs, acc, ρ, w, K => ∀ v, φ v w → (∀ u ∈ acc, u ≠ v) → Zh9 r bs (v :: acc) ((d, v) :: ρ) w K
  | (some d, φ) :: r, _ :: bs, acc, ρ, w, K => ∀ v, φ v w → Zh9 r bs acc ((d, v) :: ρ) w K
  | (none, _) :: r, _ :: bs, acc, ρ, w, K => Zh9 r bs acc ρ w K
  | _ :: _, [], _, _, _, _ => False
def Zkt (P : Program) (ops : Array Oper) (n : Nat) (D : List Deferred) (ρ0 : Env) (w0 : World) (R : World → World → Prop) (sp : Zcf) : List Oper → List (List Nat) → List Bool → Zcf → Prop
  | o :: os, d :: ds, b :: bs, (_, φ) :: r => (∀ w, R w0 w → Zd3 sp d ρ0 w (fun ρ => Op1 P ops o n D ρ w (fun v w' => φ v w' ∧ R w w' ∧ (b = true → NewV v w)))) ∧ Zkt P ops n D ρ0 w0 R sp os ds bs r
  | _, _, _, [] => True
  | _, _, _, _ => False
def Zi3 : Zcf → List Bool → Prop
  | (_, φ) :: r, b :: bs => (b = true → ∀ v w, φ v w → OldV v w) ∧ Zi3 r bs
  | _, _ => True
theorem Zi3.at_ : ∀ {sp : Zcf} {bs : List Bool}, Zi3 sp bs → ∀ {i : Nat} {dst : Option Nat} {φ : Value → World → Prop}, sp[i]? = some (dst, φ) → bs.getD i false = true → ∀ v w, φ v w → OldV v w
  | [], _, _, i, dst, φ, hs, _, _, _, _ => by simp at hs
  | p :: r, [], _, i, dst, φ, _, hb, _, _, _ => by simp at hb
  | p :: r, b :: bs, h, i, dst, φ, hs, hb, v, w, hv => by
    obtain ⟨pd, pφ⟩ := p
    obtain ⟨h1, h2⟩ := h
    cases i with
    | zero => simp at hs hb; obtain ⟨rfl, rfl⟩ := hs; exact h1 hb v w hv
    | succ i => simp at hs hb; exact Zi3.at_ h2 hs (by simpa using hb) v w hv
section
variable {P : Program} {l : List Oper} {Q : Exit → Act → World → Prop} {n m : Nat} {D : List Deferred} {ρ0 : Env} {w0 : World} {R : World → World → Prop} {sp : Zcf} {ds : List (List Nat)} {bs : List Bool}
theorem Zkt.at_ {ops : Array Oper} : ∀ {l' : List Oper} {ds' : List (List Nat)} {bs' : List Bool} {sp' : Zcf}, Zkt P ops n D ρ0 w0 R sp l' ds' bs' sp' → ∀ {i : Nat} {dst : Option Nat} {φ : Value → World → Prop} {o : Oper}, sp'[i]? = some (dst, φ) → l'[i]? = some o →
    ∀ w, R w0 w → Zd3 sp (ds'.getD i []) ρ0 w (fun ρ => Op1 P ops o n D ρ w (fun v w' => φ v w' ∧ R w w' ∧ (bs'.getD i false = true → NewV v w))) := by
  intro l' ds' bs' sp' h
  induction sp' generalizing l' ds' bs' with
  | nil => intro i dst φ o hs; simp at hs
  | cons p r ih =>
    intro i dst φ o hs hl
    obtain ⟨pd, pφ⟩ := p
    match l', ds', bs', h with
    | o' :: os, d :: dd, b :: bb, h =>
      obtain ⟨h1, h2⟩ := h
      cases i with
      | zero => simp at hs hl; obtain ⟨rfl, rfl⟩ := hs; subst hl; simpa using h1
      | succ i => simp at hs hl; simpa using ih h2 hs hl
theorem Zgo {w : World} (vals : Nat → Value) {a : Act} : ∀ (r : Zcf) (bs : List Bool) (k : Nat) (acc : List Value) (ρ : Env) (K : Env → Prop), Fr n D ρ a → (∀ i dst φ, r[i]? = some (dst, φ) → φ (vals (k + i)) w ∧ ∀ d, dst = some d → a.tmps[d]? = some (vals (k + i))) →
    (∀ i u, bs.getD i false = true → i < r.length → u ∈ acc → u ≠ vals (k + i)) → (∀ i j, bs.getD i false = true → bs.getD j false = true → i < r.length → j < r.length → i ≠ j → vals (k + i) ≠ vals (k + j)) →
    Zh9 r bs acc ρ w K → ∃ ρ', Fr n D ρ' a ∧ K ρ'
  | [], bs, k, acc, ρ, K, hF, _, _, _, h => by unfold Zh9 at h; exact ⟨ρ, hF, h⟩
  | p :: r, [], k, acc, ρ, K, hF, hg, ha, hb, h => by obtain ⟨pd, pφ⟩ := p; cases pd <;> exact (show False from h).elim
  | (some d, φ) :: r, true :: bs, k, acc, ρ, K, hF, hg, ha, hb, h => by
    obtain ⟨h1, h2⟩ := hg 0 _ _ rfl
    unfold Zh9 at h
    refine Zgo vals r bs (k + 1) _ _ K ⟨hF.defers, hF.size, fun t v hlk => ?_⟩ (fun i dst φ hs => by have := hg (i + 1) dst φ (by simpa using hs); rwa [show k + 1 + i = k + (i + 1) by omega])
      (fun i u h3 h4 h5 => ?_) (fun i j h3 h4 h5 h6 h7 => ?_) (h _ h1 (fun u hu => by have := ha 0 u rfl (by simp) hu; simpa using this))
    · rw [Zb1] at hlk
      split at hlk
      · rename_i e; subst e; cases hlk; exact h2 _ rfl
      · exact hF.slot _ _ hlk
    · rcases List.mem_cons.1 h5 with rfl | h5
      · have := hb 0 (i + 1) rfl (by simpa using h3) (by simp) (by simpa using h4) om
        rwa [show k + 1 + i = k + (i + 1) by omega]
      · have := ha (i + 1) u (by simpa using h3) (by simpa using h4) h5
        rwa [show k + 1 + i = k + (i + 1) by omega]
    · have := hb (i + 1) (j + 1) (by simpa using h3) (by simpa using h4) (by simpa using h5) (by simpa using h6) om
      rwa [show k + 1 + i = k + (i + 1) by omega, show k + 1 + j = k + (j + 1) by omega]
  | (some d, φ) :: r, false :: bs, k, acc, ρ, K, hF, hg, ha, hb, h => by
    obtain ⟨h1, h2⟩ := hg 0 _ _ rfl
    unfold Zh9 at h
    refine Zgo vals r bs (k + 1) _ _ K ⟨hF.defers, hF.size, fun t v hlk => ?_⟩ (fun i dst φ hs => by have := hg (i + 1) dst φ (by simpa using hs); rwa [show k + 1 + i = k + (i + 1) by omega])
      (fun i u h3 h4 h5 => ?_) (fun i j h3 h4 h5 h6 h7 => ?_) (h _ h1)
    · rw [Zb1] at hlk
      split at hlk
      · rename_i e; subst e; cases hlk; exact h2 _ rfl
      · exact hF.slot _ _ hlk
    · have := ha (i + 1) u (by simpa using h3) (by simpa using h4) h5
      rwa [show k + 1 + i = k + (i + 1) by omega]
    · have := hb (i + 1) (j + 1) (by simpa using h3) (by simpa using h4) (by simpa using h5) (by simpa using h6) om
      rwa [show k + 1 + i = k + (i + 1) by omega, show k + 1 + j = k + (j + 1) by omega]
  | (none, φ) :: r, b :: bs, k, acc, ρ, K, hF, hg, ha, hb, h => by
    have h' : Zh9 r bs acc ρ w K := by cases b <;> (unfold Zh9 at h; exact h)
    refine Zgo vals r bs (k + 1) _ _ K hF (fun i dst φ hs => by have := hg (i + 1) dst φ (by simpa using hs); rwa [show k + 1 + i = k + (i + 1) by omega])
      (fun i u h3 h4 h5 => ?_) (fun i j h3 h4 h5 h6 h7 => ?_) h'
    · have := ha (i + 1) u (by simpa using h3) (by simpa using h4) h5
      rwa [show k + 1 + i = k + (i + 1) by omega]
    · have := hb (i + 1) (j + 1) (by simpa using h3) (by simpa using h4) (by simpa using h5) (by simpa using h6) om
      rwa [show k + 1 + i = k + (i + 1) by omega, show k + 1 + j = k + (j + 1) by omega]
structure MidF (l : List Oper) (bs : List Bool) (n : Nat) (D : List Deferred) (ρ0 : Env) (w0 : World) (R : World → World → Prop) (sp : Zcf) (m N : Nat) (listed : Array Bool) (vals : Nat → Value) (a : Act) (w : World) : Prop where
  fr : Fr n D ρ0 a
  wr : R w0 w
  size : listed.size = N
  tail : ∀ i, m ≤ i → listed.getD i false = false
  cl : ∀ i o j, l[i]? = some o → listed.getD i false = true → Zb4 o j = true → listed.getD j false = true
  fre : ∀ i j, bs.getD i false = true → bs.getD j false = true → i < m → j < m → i ≠ j → listed.getD i false = true → listed.getD j false = true → vals i ≠ vals j
  got : ∀ i dst φ, sp[i]? = some (dst, φ) → listed.getD i false = true → φ (vals i) w ∧ ∀ d, dst = some d → a.tmps[d]? = some (vals i)
theorem Zj5 {listed : Array Bool} {vals : Nat → Value} {a : Act} {w : World} {N : Nat} (hM : MidF l bs n D ρ0 w0 R sp m N listed vals a w) : ∀ (d : List Nat) (ρ : Env) (K : Env → Prop), Fr n D ρ a → (∀ j ∈ d, listed.getD j false = true) →
    Zd3 sp d ρ w K → ∃ ρ', Fr n D ρ' a ∧ K ρ'
  | [], ρ, K, hF, _, h => ⟨ρ, hF, h⟩
  | j :: r, ρ, K, hF, hl, h => by
    unfold Zd3 at h
    split at h
    · rename_i d φ hs
      obtain ⟨h1, h2⟩ := hM.got j _ _ hs (hl j (by simp))
      refine Zj5 hM r _ K ⟨hF.defers, hF.size, fun t v hlk => ?_⟩ (fun i hi => hl i (by simp [hi])) (h _ h1)
      rw [Zb1] at hlk
      split at hlk
      · rename_i e; subst e; cases hlk; exact h2 _ rfl
      · exact hF.slot _ _ hlk
    · exact Zj5 hM r _ K hF (fun i hi => hl i (by simp [hi])) h
theorem mid_anyF {keys : List Nat} (hF : DrawFactsT l m n keys sp ds) (hkeys : ∀ t v, look ρ0 t = some v → t ∈ keys) (hRt : ∀ a b c, R a b → R b c → R a c) (hst : Zhs R sp) (hold : Zi3 sp bs) (hobs : Zkt P l.toArray n D ρ0 w0 R sp l ds bs sp)
    (hend : ∀ w, R w0 w → Zh9 sp bs [] ρ0 w (fun ρ => Reg P l.toArray Q (l.drop m) n D ρ w)) :
    ∀ (fuel : Nat) (listed : Array Bool) (vals : Nat → Value) (a : Act) (w : World), MidF l bs n D ρ0 w0 R sp m l.length listed vals a w → cnt l.length listed ≤ fuel → wpAny P .any l.toArray Q fuel listed a w := by
  have hfin : ∀ (fuel : Nat) (listed : Array Bool) (vals : Nat → Value) (a : Act) (w : World), MidF l bs n D ρ0 w0 R sp m l.length listed vals a w → (∀ i, i < m → listed.getD i false = true) → l.length - m ≤ fuel → wpAny P .any l.toArray Q fuel listed a w := by
    intro fuel listed vals a w hM hall hf
    obtain ⟨ρ', hFr, hReg⟩ := Zgo (w := w) vals sp bs 0 [] ρ0 _ hM.fr (fun i dst φ hs => by
      have hi : i < m := by rw [← hF.spl]; exact (List.getElem?_eq_some_iff.1 hs).1
      rw [Nat.zero_add]; exact hM.got i dst φ hs (hall i hi)) (fun _ _ _ _ h => by cases h) (fun i j h1 h2 h3 h4 h5 => by
      rw [hF.spl] at h3 h4
      rw [Nat.zero_add, Nat.zero_add]; exact hM.fre i j h1 h2 h3 h4 h5 (hall i h3) (hall j h4)) (hend w hM.wr)
    exact Zjk hF fuel m listed a w (Nat.le_refl _) hF.le hf hM.size hall hM.tail (hReg a hFr)
  have hcnt : ∀ listed : Array Bool, (∀ i, m ≤ i → listed.getD i false = false) → ∀ k, m ≤ k → k - m ≤ cnt k listed := by
    intro listed ht k
    induction k with
    | zero => intro _; omega
    | succ k ih =>
      intro hk
      unfold cnt
      rcases Nat.lt_or_ge k m with h | h
      · omega
      · rw [ht k h]; have := ih h; simp; omega
  intro fuel
  induction fuel with
  | zero =>
    intro listed vals a w hM hc
    have h0 : cnt l.length listed = 0 := by omega
    have hall := Zfc listed _ h0
    refine hfin 0 listed vals a w hM (fun i hi => hall i (by have := hF.le; omega)) ?_
    have := hcnt listed hM.tail l.length hF.le
    omega
  | succ fuel ih =>
    intro listed vals a w hM hc
    by_cases hall : ∀ i, i < m → listed.getD i false = true
    · refine hfin _ listed vals a w hM hall ?_
      have := hcnt listed hM.tail l.length hF.le
      omega
    · 
      refine ⟨fun h0 => absurd ?_ hall, fun i hi => ?_⟩
      · 
        intro i hi
        induction i using Nat.strongRecOn with
        | _ i ihh =>
          by_cases hb : listed.getD i false = true
          · exact hb
          · exfalso
            have hil : i < l.length := by have := hF.le; omega
            have hr : i ∈ Region.ready .any l.toArray listed := by
              refine (Zbm (by simpa using hM.size)).2 ⟨l[i], by simp [hil], by simpa using hb, ?_⟩
              rw [Array.all_eq_true]
              intro j hj
              by_cases hbd : Region.binds .any l[i].after[j] = true
              · have := hF.before i _ (List.getElem?_eq_getElem hil) _ (Array.getElem_mem hj) hbd
                rw [ihh _ this om]; simp
              · simp [hbd]
            rw [h0] at hr; simp at hr
      · obtain ⟨o, ho, hfi, hal⟩ := (Zbm (by simpa using hM.size)).1 hi
        have ho' : l[i]? = some o := by simpa using ho
        have hil : i < l.length := (List.getElem?_eq_some_iff.1 ho').1
        have him : i < m := by
          rcases Nat.lt_or_ge i m with h | h
          · exact h
          · exact absurd (fun j hj => Zff hM.cl 8 o j (fun k hk => Zam hk hal) ((hF.tail i o h ho').2 j hj)) hall
        have hsp : ∃ dst φ, sp[i]? = some (dst, φ) := by
          have : i < sp.length := by rw [hF.spl]; exact him
          exact ⟨_, _, List.getElem?_eq_getElem this⟩
        obtain ⟨dst, φ, hs⟩ := hsp
        have hdst := hF.dst i o dst φ ho' hs
        subst hdst
        have hsz : i < listed.size := by rw [hM.size]; exact hil
        obtain ⟨ρ', hFr, hOp⟩ := Zj5 hM (ds.getD i []) ρ0 _ hM.fr (fun j hj => Zam (hF.deps i o him ho' j hj).2 hal) (hobs.at_ hs ho' w hM.wr)
        have hnew : ∀ (v : Value) (w' : World), φ v w' → R w w' → (bs.getD i false = true → NewV v w) → MidF l bs n D ρ0 w0 R sp m l.length (listed.setIfInBounds i true) (fun j => if j = i then v else vals j) (a.put o.dst v) w' := by
          intro v w' hv hR hN
          have hput : ∀ t, (∀ d, o.dst = some d → t ≠ d) → (a.put o.dst v).tmps[t]? = a.tmps[t]? := by
            intro t ht
            cases hd : o.dst with
            | none => rfl
            | some d => simp only [Act.put, Array.getElem?_setIfInBounds]; rw [if_neg (fun e => ht d hd e.symm)]
          have hputd : ∀ d, o.dst = some d → (a.put o.dst v).tmps[d]? = some v := by
            intro d hd
            have := (hF.ok i o d him ho' hd).1
            rw [hd]
            simp [Act.put, hM.fr.size, this]
          refine ⟨⟨?_, ?_, ?_⟩, hRt _ _ _ hM.wr hR, by simpa using hM.size, ?_, ?_, ?_, ?_⟩
          · rw [← hM.fr.defers]; cases o.dst <;> rfl
          · rw [← hM.fr.size]; cases o.dst <;> simp [Act.put]
          · intro t u hl
            rw [hput t (fun d hd e => (hF.ok i o d him ho' hd).2 (by rw [← e]; exact hkeys t u hl))]
            exact hM.fr.slot t u hl
          · intro j hj
            rw [Zar _ _ _ hsz, if_neg om]; exact hM.tail j hj
          · intro j oj j' hoj hl he
            rw [Zar _ _ _ hsz] at hl ⊢
            by_cases e : i = j'
            · rw [if_pos e]
            · rw [if_neg e]
              by_cases e2 : i = j
              · subst e2; rw [ho'] at hoj; injection hoj with hoj; subst hoj; exact Zam he hal
              · rw [if_neg e2] at hl; exact hM.cl j oj j' hoj hl he
          · intro i' j' b1 b2 h1 h2 hne l1 l2
            rw [Zar _ _ _ hsz] at l1 l2
            have hgot : ∀ k, bs.getD k false = true → k < m → k ≠ i → listed.getD k false = true → OldV (vals k) w := by
              intro k hk hkm hki hl
              have hks : k < sp.length := by rw [hF.spl]; exact hkm
              have hsk : sp[k]? = some ((sp[k]).1, (sp[k]).2) := List.getElem?_eq_getElem hks
              exact hold.at_ hsk hk _ _ (hM.got k _ _ hsk hl).1
            by_cases e1 : i' = i
            · by_cases e2 : j' = i
              · exact absurd (e1.trans e2.symm) hne
              · rw [if_neg (fun e => e2 e.symm)] at l2
                rw [if_pos e1, if_neg e2]
                exact fun e => Zir (hN (e1 ▸ b1)) (hgot j' b2 h2 e2 l2) e.symm
            · rw [if_neg (fun e => e1 e.symm)] at l1
              by_cases e2 : j' = i
              · rw [if_neg e1, if_pos e2]
                exact Zir (hN (e2 ▸ b2)) (hgot i' b1 h1 e1 l1)
              · rw [if_neg (fun e => e2 e.symm)] at l2
                rw [if_neg e1, if_neg e2]
                exact hM.fre i' j' b1 b2 h1 h2 hne l1 l2
          · intro j dst φ' hs' hl
            rw [Zar _ _ _ hsz] at hl
            by_cases e : j = i
            · subst e
              rw [hs] at hs'
              injection hs' with hs'
              injection hs' with e1 e2
              subst e1; subst e2
              rw [if_pos rfl]
              exact ⟨hv, hputd⟩
            · rw [if_neg (fun e' => e e'.symm)] at hl
              rw [if_neg e]
              obtain ⟨g1, g2⟩ := hM.got j dst φ' hs' hl
              refine ⟨hst.at_ hs' _ _ _ g1 hR, fun d hd => ?_⟩
              have hj : j < m := by rw [← hF.spl]; exact (List.getElem?_eq_some_iff.1 hs').1
              have hjl : j < l.length := by have := hF.le; omega
              have hoj := List.getElem?_eq_getElem hjl
              have hdj := hF.dst j _ dst φ' hoj hs'
              rw [hput d (fun d' hd' e' => by subst e'; exact hF.apart j i _ o d hj him e hoj ho' (by rw [hdj, hd]) hd')]
              exact g2 d hd
        have hcnt' := Zgd listed i hsz hfi l.length hil
        unfold wpOp
        rw [ho]
        dsimp only
        have h1 := hOp a hFr
        split
        · rename_i hw
          rw [if_pos hw] at h1
          refine .inl (Oper.wp_mono ?_ (h1 Q))
          rintro a' w' ⟨v, rfl, hv, hR, hN⟩
          exact ih _ _ _ _ (hnew v w' hv hR hN) om
        · rename_i hw
          rw [if_neg hw] at h1
          exact ih _ _ _ _ (hnew undef w h1.1 h1.2.1 h1.2.2) om
theorem w_drawF {id : Nat} {w : World} {ρ : Env} (m : Nat) (R : World → World → Prop) (sp : Zcf) (ds : List (List Nat)) (bs : List Bool) (ρ0 : Env) (hsub : Sub ρ0 ρ) (hm : P.follows .mixedOrders = true)
    (hchk : Zjg l m n (Ze0 ρ0) (sp.map (·.1)) ds = true) (hR : ∀ a, R a a) (hRt : ∀ a b c, R a b → R b c → R a c) (hst : Zhs R sp) (hold : Zi3 sp bs)
    (h : ∀ w0, w.grownBy w0 none → w0.heap.size = w.heap.size → Zkt P l.toArray n D ρ0 w0 R sp l ds bs sp ∧ (∀ w', R w0 w' → Zh9 sp bs [] ρ0 w' (fun ρ => Reg P l.toArray Q (l.drop m) n D ρ w'))) :
    W P (.region id l.toArray true) Q n D ρ w := by
  intro a ha
  have hF := Zie hchk
  obtain ⟨h1, h2⟩ := h w.drew (Zef w) rfl
  refine wp_region_any hm ?_
  have := mid_anyF hF (fun t v hl => Zcp hl) hRt hst hold h1 h2 l.length (Array.replicate l.length false) (fun _ => undef) a w.drew ⟨ha.sub hsub, hR _, by simp, fun i _ => by simp [Array.getD_eq_getD_getElem?, Array.getElem?_replicate]; split <;> rfl, fun i o j _ hl _ => by
    simp [Array.getD_eq_getD_getElem?, Array.getElem?_replicate] at hl
    split at hl <;> simp at hl, fun i j _ _ _ _ _ hl _ => by
    simp [Array.getD_eq_getD_getElem?, Array.getElem?_replicate] at hl
    split at hl <;> simp at hl, fun i dst φ hs hl => by
    simp [Array.getD_eq_getD_getElem?, Array.getElem?_replicate] at hl
    split at hl <;> simp at hl⟩ (by
      have : ∀ k L, cnt k L ≤ k := by
        intro k L; induction k with
        | zero => exact Nat.le_refl _
        | succ k ih => unfold cnt; split <;> omega
      exact this _ _)
  simpa using this
end
theorem fresh_ne {g g' : Nat} (h : (Value.pointer (some ⟨g, 0, none⟩)) ≠ .pointer (some ⟨g', 0, none⟩)) : g ≠ g' := fun e => h (by rw [e])
end Go.Gw
namespace Go.Gw
open Go.RowKit
def URow (U : Nat) (w : World) (k : Nat) : Prop := ∃ cs p, w.heap[k]? = some (.cells cs U p)
def G (U n0 : Nat) (w : World) (k : Nat) : Prop := n0 ≤ k ∧ ¬ URow U w k
section
variable {α : Type} {K : Kd α} {U n0 : Nat} {w w' : World} {F : Nat → Prop} {v : Value} {xs : List α}
theorem URow.of {k : Nat} (e : w'.heap[k]? = w.heap[k]?) (h : URow U w k) : URow U w' k := by obtain ⟨cs, p, h⟩ := h; exact ⟨cs, p, e.trans h⟩
theorem G.of {k : Nat} (e : w'.heap[k]? = w.heap[k]?) (h : G U n0 w' k) : G U n0 w k := ⟨h.1, fun hu => h.2 (hu.of e)⟩
theorem Sl.gkeep (h : Sl K w (G U n0 w) v xs) (hk : ∀ k, k < w.heap.size → ¬ G U n0 w k → w'.heap[k]? = w.heap[k]?) (hKF : K.Flat) : Sl K w' (G U n0 w') v xs := by
  obtain ⟨A, c, e, h1, h2, h3⟩ := h
  refine ⟨A, c, e, h1, h2, fun i x hx => ?_⟩
  obtain ⟨g, o, us, ea, hg, hF, hr, hc⟩ := h3 i x hx
  have hb := hk g hg hF
  refine ⟨g, o, us, ea, ?_, fun hG => hF (hG.of hb), hKF _ _ _ _ _ _ hr, Zim hc hb⟩
  rcases Nat.lt_or_ge g w'.heap.size with h | h
  · exact h
  · rw [Array.getElem?_eq_none h, Array.getElem?_eq_getElem hg] at hb; cases hb
end
section
variable {U n0 : Nat} {w w' : World} {v : Value} {xs : List Int}
theorem Sl.gg0 (h : Sl Kd.u32 w (G U n0 w) v xs) (k : w.grownBy w' Option.none) : Sl Kd.u32 w' (G U n0 w') v xs := h.gkeep (fun i hi _ => k.block i hi (by simp)) Zd6
theorem Sl.ggB {g t : Nat} {cs : Array Value} (h : Sl Kd.u32 w (G U n0 w) v xs) (k : w.grownBy w' (some g)) (hB : Blk w g t cs) (ht : t ≠ U) (hn : n0 ≤ g) : Sl Kd.u32 w' (G U n0 w') v xs :=
  h.gkeep (fun i hi hG => k.block i hi (by
    rintro ⟨⟩
    refine hG ⟨hn, ?_⟩
    rintro ⟨cs', p, hu⟩
    unfold Blk at hB; rw [hB] at hu; injection hu with hu; injection hu with _ hu; exact ht hu)) Zd6
theorem Sl.ggO {α : Type} {K : Kd α} {e base : Nat} {F : Nat → Prop} {v' : Value} {ys : List α} (h : Sl Kd.u32 w (G U n0 w) v xs) (k : w.grownBy w' v'.ownBlock) (hO : Gw.Own K e base w F v' ys) (ht : e ≠ U) (hn : n0 ≤ base) : Sl Kd.u32 w' (G U n0 w') v xs :=
  h.gkeep (fun i hi hG => k.block i hi (by
    intro hi'
    have hlt := hO.lt i hi'.symm
    refine hG ⟨by omega, ?_⟩
    rintro ⟨cs', p, hu⟩
    obtain ⟨us, hl, hr, ho⟩ := hO.out
    rcases ho.2 with ⟨rfl, h0⟩ | ⟨g', cap, cur, rfl, hb, hg, _⟩
    · cases hi'
    · have : g' = i := by simpa [Value.ownBlock] using hi'.symm
      subst this
      rw [hg] at hu; injection hu with hu; injection hu with _ hu; exact ht hu)) Zd6
theorem Sl.unlocG {w0 : World} (h : Sl Kd.u32 w (Loc (G U n0 w0) w0) v xs) (hb : Below w0.heap.size w0 w) : Sl Kd.u32 w (G U n0 w) v xs := by
  refine h.weak fun k hk hG => ?_
  rcases Nat.lt_or_ge k w0.heap.size with h1 | h1
  · exact .inl (hG.of (hb.block k h1))
  · exact .inr h1
theorem Own.slG {base : Nat} {F : Nat → Prop} (h : Gw.Own Kd.u32 U base w F v xs) : Sl Kd.u32 w (G U n0 w) v xs := by
  have hs := h.sl
  obtain ⟨us, hl, hr, ho⟩ := h.out
  rcases ho.2 with ⟨rfl, h0⟩ | ⟨g', cap, cur, rfl, hb, hg, _⟩
  · have : xs = [] := List.eq_nil_of_length_eq_zero h0
    subst this
    exact ⟨Option.none, 0, rfl, by simp, by simp [maxLen], fun i x hx => by simp at hx⟩
  · obtain ⟨A, c, e, h1, h2, h3⟩ := hs
    injection e with e1 e2 e3
    subst e1; subst e3
    refine ⟨_, _, rfl, h1, h2, fun i x hx => ?_⟩
    obtain ⟨g, o, us', ea, hg', hF, hr', hc⟩ := h3 i x hx
    injection ea with ea; injection ea with ea1 ea2; subst ea1
    exact ⟨_, _, us', by rw [ea2], hg', fun hG => hG.2 ⟨_, _, hg⟩, hr', hc⟩
theorem Sl.litG {g : Nat} {cs : Array Value} {m c : Nat} (hB : Blk w g U cs) (h : Sl Kd.u32 w (fun _ => False) (.slice (some ⟨g, 0, Option.none⟩) m c) xs) : Sl Kd.u32 w (G U n0 w) (.slice (some ⟨g, 0, Option.none⟩) m c) xs := by
  obtain ⟨A, c', e, h1, h2, h3⟩ := h
  injection e with e1 e2 e3
  subst e1
  refine ⟨_, c', by rw [e2, e3], h1, h2, fun i x hx => ?_⟩
  obtain ⟨g', o, us', ea, hg', hF, hr', hc⟩ := h3 i x hx
  injection ea with ea; injection ea with ea1 ea2; subst ea1
  exact ⟨_, _, us', by rw [ea2], hg', fun hG => hG.2 ⟨_, _, hB⟩, hr', hc⟩
theorem nilG : Sl Kd.u32 w (G U n0 w) (.slice Option.none 0 0) [] := ⟨Option.none, 0, rfl, by simp, by simp [maxLen], fun i x hx => by simp at hx⟩
theorem Sl.oldG (h : Sl Kd.u32 w (fun _ => False) v xs) : Sl Kd.u32 w (G U w.heap.size w) v xs := by
  refine ?_
  obtain ⟨A, c, e, h1, h2, h3⟩ := h
  refine ⟨A, c, e, h1, h2, fun i x hx => ?_⟩
  obtain ⟨g, o, us, ea, hg, hF, hr, hc⟩ := h3 i x hx
  exact ⟨g, o, us, ea, hg, fun hG => by have := hG.1; omega, hr, hc⟩
theorem Zu {a : World} {n0 : Nat} (hn : n0 ≤ a.heap.size) (h : Below a.heap.size a w) : n0 ≤ w.heap.size := Nat.le_trans hn h.size
end
end Go.Gw
namespace Go.Gw
open Go.RowKit
theorem bv_rep : ∀ k : Nat, bv (List.replicate k false) = 0
  | 0 => rfl
  | k + 1 => by rw [List.replicate_succ]; simp only [bv]; rw [bv_rep k]; rfl
theorem shl_bits {m : Int} (h : 0 ≤ m) (k : Nat) : bv (List.replicate k false ++ tb m) = m * 2 ^ k := by
  rw [Zjv, bv_rep, bv_tb h, List.length_replicate, Int.mul_comm]; omega
theorem fit_no {n : Int} (h : n < 0 ∨ 10000 < n) : fitB n = false := by
  unfold fitB
  rcases h with h | h
  · rw [decide_eq_false om]; rfl
  · rw [decide_eq_false (p := n ≤ 10000) om]; simp
theorem fit_yes {n : Int} (h0 : 0 ≤ n) (h1 : n ≤ 10000) : fitB n = true := by unfold fitB; rw [decide_eq_true h0, decide_eq_true h1]; rfl
end Go.Gw
namespace Go.Gw
open Go.RowKit
end Go.Gw
namespace Go.Gw
open Go.RowKit
def ml (n : Int) : List Int := tl (n.natAbs : Int)
def sg (neg : Bool) (m : Int) : Int := if neg then -m else m
def Bd (k : Nat) (n : Int) : Prop := -PW k < n ∧ n < PW k
def Zfm (x n : Int) : Int := if fitB n then x * 2 ^ n.toNat else 0
def shrN (x n : Int) : Int := if fitB n then x / 2 ^ n.toNat else 0
def Zbw (U n0 : Nat) (w : World) (v : Value) (n : Int) : Prop := ∃ s, v = .agg [.bool (decide (n < 0)), s].toArray ∧ Sl Kd.u32 w (G U n0 w) s (ml n)
theorem Zbw.g0 {U n0 : Nat} {w w' : World} {v : Value} {n : Int} (h : Zbw U n0 w v n) (k : w.grownBy w' none) : Zbw U n0 w' v n := by obtain ⟨s, e, hs⟩ := h; exact ⟨s, e, hs.gg0 k⟩
theorem Zc7 (n : Int) : nv (ml n) = n.natAbs := Zf3 om
theorem Zai {U n0 : Nat} {w : World} {s : Value} {m n : Int} (e : m = n) (h : Sl Kd.u32 w (G U n0 w) s (ml m)) : Zbw U n0 w (.agg [.bool (decide (m < 0)), s].toArray) n := by subst e; exact ⟨s, rfl, h⟩
theorem sg_ml (ng : Bool) {m : Int} (h : 0 ≤ m) : tl m = ml (sg ng m) := by
  unfold ml; congr 1; unfold sg; split <;> omega
theorem Zkb {m : Int} (h : 0 ≤ m) : (0 < ((tl m).length : Int)) ↔ 0 < m := by
  by_cases h0 : m ≤ 0
  · rw [Zfv h0]; simp; omega
  · rw [tl_pos om]; simp; omega
theorem sg_neg {ng : Bool} {m : Int} (h : 0 ≤ m) (hg : ng = true) : decide (0 < ((tl m).length : Int)) = decide (sg ng m < 0) := by
  rw [decide_eq_decide, Zkb h]; unfold sg; rw [if_pos hg]; omega
theorem sg_pos {ng : Bool} {m : Int} (h : 0 ≤ m) (hg : ng = false) : false = decide (sg ng m < 0) := by
  unfold sg; rw [if_neg (by simp [hg])]; simp; omega
theorem shlL_tl (xs : List Int) (n : Int) : shlL xs n = tl (Zfm (nv xs) n) := by
  unfold shlL Zfm; split
  · rfl
  · rw [Zfv (Int.le_refl _)]
theorem Zjq {x n : Int} (h : 0 ≤ x) : 0 ≤ Zfm x n := by
  unfold Zfm; split
  · exact Int.mul_nonneg h (Int.le_of_lt (Za5 _))
  · exact Int.le_refl _
theorem shrN_nn {x n : Int} (h : 0 ≤ x) : 0 ≤ shrN x n := by
  unfold shrN; split
  · exact Int.ediv_nonneg h (Int.le_of_lt (Za5 _))
  · exact Int.le_refl _
theorem Bd.le {j k : Nat} {n : Int} (h : Bd j n) (hjk : j ≤ k) : Bd k n := by have := PW_le hjk; unfold Bd at *; omega
theorem Zf9 {k : Nat} {n : Int} (h : Bd k n) : (ml n).length ≤ k := Zlm om (by unfold Bd at h; omega)
theorem Zdz {n : Int} (h : -9223372036854775808 ≤ n ∧ n ≤ 9223372036854775807) : Bd 2 n := by
  have h2 : PW 2 = 18446744073709551616 := by decide
  unfold Bd; omega
theorem Zfn {j k i : Nat} {a b : Int} (ha : Bd j a) (hb : Bd k b) (h1 : j < i) (h2 : k < i) : Bd i (a + b) := by
  have ha := ha.le (show j ≤ i - 1 by omega)
  have hb := hb.le (show k ≤ i - 1 by omega)
  have := Zid (i - 1)
  have := Zij (i - 1)
  rw [show i - 1 + 1 = i by omega] at this
  unfold Bd at *; omega
theorem Zlj {k : Nat} {a : Int} (h : Bd k a) : Bd k (-a) := by unfold Bd at *; omega
theorem bd_sub {j k i : Nat} {a b : Int} (ha : Bd j a) (hb : Bd k b) (h1 : j < i) (h2 : k < i) : Bd i (a - b) := by rw [Int.sub_eq_add_neg]; exact Zfn ha (Zlj hb) h1 h2
theorem bd_shl {j k : Nat} {a n : Int} (ha : Bd j a) (h : j + 313 ≤ k) : Bd k (Zfm a n) := by
  refine Bd.le ?_ h
  unfold Zfm
  split
  · rename_i hf
    unfold fitB at hf
    rw [Bool.and_eq_true, decide_eq_true_eq, decide_eq_true_eq] at hf
    have h0 := Za5 n.toNat
    have h1 : (2 : Int) ^ n.toNat ≤ PW 313 := by
      rw [Zlf]
      have e : (2 : Int) ^ (32 * 313) = 2 ^ n.toNat * 2 ^ (32 * 313 - n.toNat) := by rw [← Int.pow_add, show n.toNat + (32 * 313 - n.toNat) = 32 * 313 by omega]
      have := Int.mul_le_mul_of_nonneg_left (show 1 ≤ (2 : Int) ^ (32 * 313 - n.toNat) by have := Za5 (32 * 313 - n.toNat); omega) (Int.le_of_lt h0)
      omega
    have h2 := Zid j
    unfold Bd at *
    rw [PW_add]
    have h3 : PW j * 2 ^ n.toNat ≤ PW j * PW 313 := Int.mul_le_mul_of_nonneg_left h1 (Int.le_of_lt h2)
    have h4 : a * 2 ^ n.toNat < PW j * 2 ^ n.toNat := Int.mul_lt_mul_of_pos_right ha.2 h0
    have h5 : (-PW j) * 2 ^ n.toNat < a * 2 ^ n.toNat := Int.mul_lt_mul_of_pos_right ha.1 h0
    rw [Int.neg_mul] at h5
    omega
  · have := Zid (j + 313); unfold Bd; omega
theorem sg_add {n m : Int} (h : decide (n < 0) = decide (m < 0)) : sg (decide (n < 0)) (nv (ml n) + nv (ml m)) = n + m := by
  rw [Zc7, Zc7]; rw [decide_eq_decide] at h; unfold sg; simp only [decide_eq_true_eq]; split <;> omega
theorem sg_sub {n m : Int} (h : ¬ decide (n < 0) = decide (m < 0)) (hle : nv (ml m) ≤ nv (ml n)) : sg (decide (n < 0)) (nv (ml n) - nv (ml m)) = n + m := by
  rw [Zc7, Zc7] at hle; rw [Zc7, Zc7]; rw [decide_eq_decide] at h; unfold sg; simp only [decide_eq_true_eq]; split <;> omega
theorem sg_shl (x n : Int) : sg (decide (x < 0)) (Zfm (nv (ml x)) n) = Zfm x n := by
  rw [Zc7]; unfold sg Zfm; simp only [decide_eq_true_eq]
  by_cases h : x < 0
  · rw [if_pos h]; split
    · rw [show ((x.natAbs : Nat) : Int) = -x by omega, Int.neg_mul, Int.neg_neg]
    · rfl
  · rw [if_neg h]; split
    · rw [show ((x.natAbs : Nat) : Int) = x by omega]
    · rfl
def bigR (ng : Bool) (xs : List Int) : Bool := Zdb xs && (!ng || decide (0 < (xs.length : Int)))
theorem bigR_out {ng : Bool} {xs : List Int} (hx : Lim xs) (h : bigR ng xs = true) : ∃ n, ng = decide (n < 0) ∧ xs = ml n := by
  unfold bigR at h
  rw [Bool.and_eq_true] at h
  have e := tl_nv hx h.1
  have h0 := Zap hx
  refine ⟨sg ng (nv xs), ?_, by rw [← sg_ml ng h0, e]⟩
  cases ng with
  | true =>
    have h2 := h.2
    rw [Bool.not_true, Bool.false_or, decide_eq_true_eq, ← e, Zkb h0] at h2
    symm; rw [decide_eq_true_eq]; unfold sg; rw [if_pos rfl]; omega
  | false => exact (sg_pos h0 rfl)
theorem of_pos {n : Int} (hn : -9223372036854775808 ≤ n ∧ n ≤ 9223372036854775807) (h : ¬ n < 0) : sg (decide (n < 0)) (nv [n % 18446744073709551616 % 4294967296, n % 18446744073709551616 / 4294967296 % 4294967296]) = n := by
  unfold sg; simp only [decide_eq_true_eq, nv]; rw [if_neg h]; omega
theorem of_neg {n : Int} (hn : -9223372036854775808 ≤ n ∧ n ≤ 9223372036854775807) (h : n < 0) : sg (decide (n < 0)) (nv [(-(n % 18446744073709551616)) % 18446744073709551616 % 4294967296, (-(n % 18446744073709551616)) % 18446744073709551616 / 4294967296 % 4294967296]) = n := by
  unfold sg; simp only [decide_eq_true_eq, nv]; rw [if_pos h]; omega
theorem cmpI_neg {x y : Int} (h : Zbt x y < 0) : x < y := by unfold Zbt at h; split at h <;> (try split at h) <;> omega
theorem cmpI_nneg {x y : Int} (h : ¬ Zbt x y < 0) : y ≤ x := by unfold Zbt at h; split at h <;> (try split at h) <;> omega
theorem pow_val (n : Int) : sg false (Zfm (nv [1]) n) = Zfm 1 n := by rw [show nv [1] = 1 from rfl]; rfl
theorem sg_minv (n : Int) : sg (decide (¬ n < 0)) ((n.natAbs : Nat) : Int) = -n := by unfold sg; simp only [decide_eq_true_eq]; split <;> omega
theorem rcmp_big {n m : Int} : (0 < n - m → Zbt n m = 1) ∧ (n - m < 0 → Zbt n m = -1) ∧ (n - m = 0 → Zbt n m = 0) :=
  ⟨fun h => cmpI_gt om, fun h => cmpI_lt om, fun h => cmpI_eq om⟩
theorem ml_nil {n : Int} : ((ml n).length : Int) = 0 ↔ n = 0 := by
  have := Zkb (m := n.natAbs) om
  unfold ml; omega
theorem rof_pos {n : Int} (hn : -9223372036854775808 ≤ n ∧ n ≤ 9223372036854775807) (h : ¬ n < 0) : sg (decide (n < 0)) (nv [n % 18446744073709551616 % 4294967296 % 4294967296, n % 18446744073709551616 / 4294967296 % 4294967296]) = n := by
  unfold sg; simp only [decide_eq_true_eq, nv]; rw [if_neg h]; omega
theorem rof_neg {n : Int} (hn : -9223372036854775808 ≤ n ∧ n ≤ 9223372036854775807) (h : n < 0) : sg (decide (n < 0)) (nv [(-(n % 18446744073709551616)) % 18446744073709551616 % 4294967296 % 4294967296, (-(n % 18446744073709551616)) % 18446744073709551616 / 4294967296 % 4294967296]) = n := by
  unfold sg; simp only [decide_eq_true_eq, nv]; rw [if_pos h]; omega
theorem nv_shlL (xs : List Int) (n : Int) (h : 0 ≤ nv xs) : nv (shlL xs n) = Zfm (nv xs) n := by rw [shlL_tl, Zf3 (Zjq h)]
theorem shlL_len {n k : Int} (h : Bd 90000 n) : (shlL (ml n) k).length ≤ 90313 := by
  rw [shlL_tl, Zc7]
  have h1 : Bd 90000 (n.natAbs : Int) := by unfold Bd at *; omega
  exact Zlm (Zjq om) (bd_shl (n := k) h1 (show 90000 + 313 ≤ 90313 by decide)).2
end Go.Gw
namespace Go.Gw
open Go.RowKit
section
variable {P : Program} {n : Nat} {D : List Deferred} {ρ : Env} {w : World}
variable {d ty : Nat} {pos : String} {after : Array Edge} {gd : Option (Nat × Bool)} {C : Value → World → Prop} {x y z : Operand}
end
section
variable {w0 w w' : World} {g g' : Nat}
end
section
variable {α : Type} {K : Kd α} {U n0 : Nat} {w w' : World} {F : Nat → Prop} {v : Value} {xs : List α}
def GF (U n0 : Nat) (F : Nat → Prop) (w : World) (k : Nat) : Prop := F k ∨ G U n0 w k
theorem Zgl {s : Value} {ys : List Int} (h : Sl Kd.u32 w (GF U n0 F w) s ys) (hk : ∀ k, k < w.heap.size → ¬ F k → ¬ G U n0 w k → w'.heap[k]? = w.heap[k]?) : Sl Kd.u32 w' (GF U n0 F w') s ys := by
  obtain ⟨A, c, e, h1, h2, h3⟩ := h
  refine ⟨A, c, e, h1, h2, fun i x hx => ?_⟩
  obtain ⟨g, o, us, ea, hg, hF, hr, hc⟩ := h3 i x hx
  have hF1 : ¬ F g := fun h => hF (.inl h)
  have hG1 : ¬ G U n0 w g := fun h => hF (.inr h)
  have hb := hk g hg hF1 hG1
  refine ⟨g, o, us, ea, ?_, fun hG => hG.elim hF1 fun hG => hG1 (hG.of hb), hr, Zim hc hb⟩
  rcases Nat.lt_or_ge g w'.heap.size with h | h
  · exact h
  · rw [Array.getElem?_eq_none h, Array.getElem?_eq_getElem hg] at hb; cases hb
theorem Sl.ofGF {s : Value} {ys : List Int} (h : Sl Kd.u32 w (GF U n0 F w) s ys) : Sl Kd.u32 w (G U n0 w) s ys := h.weak fun k _ hk => .inr hk
theorem Sl.outG {β : Type} {L : Kd β} {e base : Nat} {s v : Value} {ys : List Int} {zs : List β} (h : Sl Kd.u32 w (G U n0 w) s ys) (hO : Gw.Own L e base w (fun _ => False) v zs) (ht : e ≠ U) (hn : n0 ≤ base) : Sl Kd.u32 w (GF U n0 (Out (fun _ => False) v) w) s ys := by
  refine h.weak fun k hk hF => ?_
  rcases hF with hF | hG
  · rcases hF with hF | hF
    · exact hF.elim
    · have hlt := hO.lt k hF
      refine ⟨by omega, ?_⟩
      rintro ⟨cs', p, hu⟩
      obtain ⟨us, hl, hr, ho⟩ := hO.out
      rcases ho.2 with ⟨rfl, h0⟩ | ⟨g', cap, cur, rfl, hb, hg, _⟩
      · cases hF
      · have : g' = k := by simpa [Value.ownBlock] using hF
        subst this
        rw [hg] at hu; injection hu with hu; injection hu with _ hu; exact ht hu
  · exact hG
theorem Sl.outN {s : Value} {ys : List Int} (h : Sl Kd.u32 w (G U n0 w) s ys) : Sl Kd.u32 w (GF U n0 (fun _ => False) w) s ys := h.weak fun k hk hF => hF.elim (fun h => h.elim) id
structure Kd.GK (U n0 : Nat) (K : Kd α) : Prop where
  put : ∀ (w w' : World) (F : Nat → Prop) (u : List Value) (x : α) (g : Nat), K.rep w F u x → w.grownBy w' (some g) → G U n0 w g → K.rep w' F u x
  ones : K.Ones
theorem Own.keptG {e base g : Nat} (hK : K.GK U n0) (h : Gw.Own K e base w F v xs) (hg : w.grownBy w' (some g)) (hG : G U n0 w g) (hne : v.ownBlock ≠ some g) : Gw.Own K e base w' F v xs := by
  obtain ⟨us, hl, hr, ho⟩ := h.out
  exact ⟨⟨us, hl, fun i u x hu hx => hK.put _ _ _ _ _ _ (hr i u x hu hx) hg hG, ho.kept hg (.inr hne)⟩, h.no⟩
theorem Blk.isG {g t : Nat} {cs : Array Value} (hB : Blk w g t cs) (ht : t ≠ U) (hn : n0 ≤ g) : G U n0 w g := ⟨hn, by
  rintro ⟨cs', p, hu⟩
  unfold Blk at hB; rw [hB] at hu; injection hu with hu; injection hu with _ hu; exact ht hu⟩
theorem Own.isG {e base g : Nat} (hO : Gw.Own K e base w F v xs) (hv : v.ownBlock = some g) (ht : e ≠ U) (hn : n0 ≤ base) : G U n0 w g := by
  have hlt := hO.lt g hv
  refine ⟨by omega, ?_⟩
  rintro ⟨cs', p, hu⟩
  obtain ⟨us, hl, hr, ho⟩ := hO.out
  rcases ho.2 with ⟨rfl, h0⟩ | ⟨g', cap, cur, rfl, hb, hg, _⟩
  · cases hv
  · have : g' = g := by simpa [Value.ownBlock] using hv
    subst this
    rw [hg] at hu; injection hu with hu; injection hu with _ hu; exact ht hu
theorem Own.neB {e base t g : Nat} {cs : Array Value} (h : Gw.Own K e base w F v xs) (hb : Blk w g t cs) (hne : e ≠ t) : v.ownBlock ≠ some g := fun he => by
  rcases h.ne_blk hb hne with h' | h'
  · rw [h'] at he; cases he
  · exact h' he
end
def Kd.big (U n0 : Nat) : Kd Int where
  sz := 2
  rep := fun w F us n => ∃ s, us = [.bool (decide (n < 0)), s] ∧ Sl Kd.u32 w (GF U n0 F w) s (ml n)
  len := by rintro _ _ _ _ ⟨s, rfl, _⟩; rfl
  keep := by
    rintro w w' F _ x ⟨s, rfl, h⟩ hk
    exact ⟨s, rfl, Zgl h fun k hk1 hk2 _ => hk k hk1 hk2⟩
  weak := by
    rintro w F F' _ x ⟨s, rfl, h⟩ hf
    exact ⟨s, rfl, h.weak fun k hk hF => hF.elim (fun h => .inl (hf k hk h)) .inr⟩
structure Spn where
  some : Bool
  fx : Int
  fy : Int
  tx : Int
  ty : Int
deriving DecidableEq
instance : Inhabited Spn := ⟨⟨false, 0, 0, 0, 0⟩⟩
def Kd.span (U n0 : Nat) : Kd Spn where
  sz := 9
  rep := fun w F us x => ∃ a b c d, us = [.bool x.some, .bool (decide (x.fx < 0)), a, .bool (decide (x.fy < 0)), b, .bool (decide (x.tx < 0)), c, .bool (decide (x.ty < 0)), d] ∧ Sl Kd.u32 w (GF U n0 F w) a (ml x.fx) ∧ Sl Kd.u32 w (GF U n0 F w) b (ml x.fy) ∧ Sl Kd.u32 w (GF U n0 F w) c (ml x.tx) ∧ Sl Kd.u32 w (GF U n0 F w) d (ml x.ty)
  len := by rintro _ _ _ _ ⟨a, b, c, d, rfl, _⟩; rfl
  keep := by
    rintro w w' F _ x ⟨a, b, c, d, rfl, h1, h2, h3, h4⟩ hk
    have f := fun {s : Value} {ys : List Int} (h : Sl Kd.u32 w (GF U n0 F w) s ys) => Zgl (w' := w') h fun k hk1 hk2 _ => hk k hk1 hk2
    exact ⟨a, b, c, d, rfl, f h1, f h2, f h3, f h4⟩
  weak := by
    rintro w F F' _ x ⟨a, b, c, d, rfl, h1, h2, h3, h4⟩ hf
    have f := fun {s : Value} {ys : List Int} (h : Sl Kd.u32 w (GF U n0 F w) s ys) => h.weak (F' := GF U n0 F' w) fun k hk hF => hF.elim (fun h => .inl (hf k hk h)) .inr
    exact ⟨a, b, c, d, rfl, f h1, f h2, f h3, f h4⟩
end Go.Gw
namespace Go.Gw
open Go.RowKit
def mo : Option Int → Option Int → Option Int
  | none, y => y
  | some a, none => some a
  | some a, some b => some (if b < a then b else a)
def mx : Option Int → Option Int → Option Int
  | none, y => y
  | some a, none => some a
  | some a, some b => some (if a < b then b else a)
def hf (v : Int) : Int := 2 ^ (v - 1).toNat
def shE (f : Int → Bool) (v k : Int) (o : Option Int) : Option Int := o.map fun e => e + if f k then hf v else 0
def cellE (c a : Int) : Option Int := if a = 0 then none else some c
def fold4 (m : Option Int → Option Int → Option Int) (g : Int → Option Int) : Option Int := m (m (m (g 0) (g 1)) (g 2)) (g 3)
def eg (m : Option Int → Option Int → Option Int) (c : Int) (f : Int → Bool) : Tr → Option Int
  | .no => none
  | .leaf a b d e => m (m (m (shE f 1 0 (cellE c a)) (shE f 1 1 (cellE c b))) (shE f 1 2 (cellE c d))) (shE f 1 3 (cellE c e))
  | .nd v a b d e => m (m (m (shE f v 0 (eg m c f a)) (shE f v 1 (eg m c f b))) (shE f v 2 (eg m c f d))) (shE f v 3 (eg m c f e))
abbrev ea := eg mo 0
abbrev ta := eg mx 1
def egK (m : Option Int → Option Int → Option Int) (c : Int) (f : Int → Bool) (l : List Nd) (x : Nd) (k : Int) : Option Int :=
  shE f x.lv k (if x.lv = 1 then cellE c (x.kid k) else eg m c f (tr l (x.kid k)))
theorem mo_isSome (x y : Option Int) : (mo x y).isSome = (x.isSome || y.isSome) := by cases x <;> cases y <;> rfl
theorem Zmq (f : Int → Bool) (v k : Int) (o : Option Int) : (shE f v k o).isSome = o.isSome := by cases o <;> rfl
theorem cellE_isSome (c a : Int) : (cellE c a).isSome = !decide (a = 0) := by unfold cellE; split <;> simp [*]
theorem Zhp {m : Option Int → Option Int → Option Int} (hm : ∀ x y, (m x y).isSome = (x.isSome || y.isSome)) (c : Int) (f : Int → Bool) : ∀ t : Tr, (eg m c f t).isSome = !emp t
  | .no => rfl
  | .leaf a b d e => by simp only [eg, hm, Zmq, cellE_isSome, emp]; cases decide (a = 0) <;> cases decide (b = 0) <;> cases decide (d = 0) <;> cases decide (e = 0) <;> rfl
  | .nd v a b d e => by
    simp only [eg, hm, Zmq, Zhp hm c f a, Zhp hm c f b, Zhp hm c f d, Zhp hm c f e, emp]
    cases emp a <;> cases emp b <;> cases emp d <;> cases emp e <;> rfl
theorem Zhm : hf 1 = 1 := rfl
theorem Zc0 (v : Int) : 0 < hf v := Za5 _
theorem Zen {v : Int} (h : 2 ≤ v) : 2 * hf (v - 1) = hf v := by
  unfold hf; rw [show (v - 1).toNat = (v - 1 - 1).toNat + 1 by omega, Int.pow_succ]; omega
def fX (k : Int) : Bool := decide (k % 2 = 1)
def fY (k : Int) : Bool := decide (2 ≤ k)
def spO (a b c d : Option Int) : Spn := ⟨a.isSome, a.getD 0, b.getD 0, c.getD 0, d.getD 0⟩
def spn (t : Tr) : Spn := spO (ea fX t) (ea fY t) (ta fX t) (ta fY t)
def egN (m : Option Int → Option Int → Option Int) (g : Int → Option Int) : Nat → Option Int
  | 0 => none
  | k + 1 => m (egN m g k) (g k)
structure SpBd (k : Nat) (s : Spn) : Prop where
  fx : Bd k s.fx
  fy : Bd k s.fy
  tx : Bd k s.tx
  ty : Bd k s.ty
structure Sm (s : Spn) : Prop where
  fx : 0 ≤ s.fx ∧ s.fx < 2 ^ 1330
  fy : 0 ≤ s.fy ∧ s.fy < 2 ^ 1330
  tx : 0 ≤ s.tx ∧ s.tx < 2 ^ 1330
  ty : 0 ≤ s.ty ∧ s.ty < 2 ^ 1330
theorem Ziq {v : Int} (h : 1 ≤ v ∧ v ≤ 1329) : Zfm 1 (v - 1) = hf v := by
  unfold Zfm hf; rw [if_pos (fit_yes om om), Int.one_mul]
theorem hf_le {v : Int} (h : v ≤ 1329) : hf v ≤ hf 1329 := by
  unfold hf
  have e : (2 : Int) ^ ((1329 : Int) - 1).toNat = 2 ^ (v - 1).toNat * 2 ^ (((1329 : Int) - 1).toNat - (v - 1).toNat) := by rw [← Int.pow_add]; congr 1; omega
  have h1 := Za5 (v - 1).toNat
  have h2 := Za5 (((1329 : Int) - 1).toNat - (v - 1).toNat)
  have := Int.mul_le_mul_of_nonneg_left (show 1 ≤ (2 : Int) ^ (((1329 : Int) - 1).toNat - (v - 1).toNat) by omega) (Int.le_of_lt h1)
  omega
theorem Zci {v : Int} (h : v ≤ 1329) : Bd 42 (hf v) := by
  have h1 := hf_le h
  have h2 := Zc0 v
  have h3 : hf 1329 < PW 42 := by decide +kernel
  unfold Bd; omega
structure Bx where
  x : Int
  y : Int
  w : Int
  h : Int
deriving DecidableEq
def bxs (l : List Nd) : Spn := spn (tr l l.length)
theorem Zhq {l : List Nd} (hl : Zaf l = true) (hne : l ≠ []) : 1 ≤ Zag l ∧ Zag l ≤ 1329 := by
  have : l.length ≠ 0 := fun e => hne (List.eq_nil_of_length_eq_zero e)
  unfold Zag; rw [if_neg this]; exact Ze9 hl om om
structure BxBd (k : Nat) (b : Bx) : Prop where
  x : Bd k b.x
  y : Bd k b.y
  w : Bd k b.w
  h : Bd k b.h
end Go.Gw
namespace Go.Gw
open Go.RowKit
def cat : Tr → Int → Int → Int
  | .no, _, _ => 0
  | .leaf a b c d, x, y => if x = 0 then (if y = 0 then a else if y = 1 then c else 0) else if x = 1 then (if y = 0 then b else if y = 1 then d else 0) else 0
  | .nd v a b c d, x, y => if x < hf v then (if y < hf v then cat a x y else cat c x (y - hf v)) else (if y < hf v then cat b (x - hf v) y else cat d (x - hf v) (y - hf v))
theorem Zcc : ∀ (t : Tr) {v x y : Int}, wf v t → (x < 0 ∨ 2 * hf v ≤ x ∨ y < 0 ∨ 2 * hf v ≤ y) → cat t x y = 0
  | .no, v, x, y, _, _ => rfl
  | .leaf a b c d, v, x, y, h, ho => by
    obtain ⟨rfl, _⟩ := h
    rw [Zhm] at ho
    simp only [cat]
    split
    · split
      · omega
      · split
        · omega
        · rfl
    · split
      · split
        · omega
        · split
          · omega
          · rfl
      · rfl
  | .nd u a b c d, v, x, y, h, ho => by
    obtain ⟨rfl, h2, _, ha, hb, hc, hd⟩ := h
    have e := Zen h2
    have p := Zc0 u
    simp only [cat]
    split
    · split
      · exact Zcc a ha om
      · exact Zcc c hc om
    · split
      · exact Zcc b hb om
      · exact Zcc d hd om
theorem Zdi : ∀ (t : Tr) (x y : Int), emp t = true → cat t x y = 0
  | .no, _, _, _ => rfl
  | .leaf a b c d, x, y, h => by
    simp only [emp, Bool.and_eq_true, decide_eq_true_eq] at h
    obtain ⟨⟨⟨rfl, rfl⟩, rfl⟩, rfl⟩ := h
    simp [cat]
  | .nd u a b c d, x, y, h => by
    simp only [emp, Bool.and_eq_true] at h
    obtain ⟨⟨⟨ha, hb⟩, hc⟩, hd⟩ := h
    simp only [cat, Zdi a _ _ ha, Zdi b _ _ hb, Zdi c _ _ hc, Zdi d _ _ hd]
    simp
theorem cat_a {u x y : Int} {a b c d : Tr} (hx : x < hf u) (hy : y < hf u) : cat (.nd u a b c d) x y = cat a x y := by simp only [cat, if_pos hx, if_pos hy]
theorem cat_b {u x y : Int} {a b c d : Tr} (hx : hf u ≤ x) (hy : y < hf u) : cat (.nd u a b c d) x y = cat b (x - hf u) y := by simp only [cat, if_neg (show ¬ x < hf u by omega), if_pos hy]
theorem cat_c {u x y : Int} {a b c d : Tr} (hx : x < hf u) (hy : hf u ≤ y) : cat (.nd u a b c d) x y = cat c x (y - hf u) := by simp only [cat, if_pos hx, if_neg (show ¬ y < hf u by omega)]
theorem cat_d {u x y : Int} {a b c d : Tr} (hx : hf u ≤ x) (hy : hf u ≤ y) : cat (.nd u a b c d) x y = cat d (x - hf u) (y - hf u) := by simp only [cat, if_neg (show ¬ x < hf u by omega), if_neg (show ¬ y < hf u by omega)]
theorem Zge : ∀ (t : Tr) {v : Int}, wf v t → (∀ x y : Int, cat t x y = 0) → emp t = true
  | .no, v, _, _ => rfl
  | .leaf a b c d, v, h, hz => by
    have h1 := hz 0 0; have h2 := hz 1 0; have h3 := hz 0 1; have h4 := hz 1 1
    simp [cat] at h1 h2 h3 h4
    simp [emp, h1, h2, h3, h4]
  | .nd u a b c d, v, h, hz => by
    obtain ⟨rfl, h2, _, ha, hb, hc, hd⟩ := h
    have e := Zen h2
    have p := Zc0 u
    have qa : emp a = true := Zge a ha fun x y => by
      by_cases hr : x < hf u ∧ y < hf u
      · rw [← cat_a (b := b) (c := c) (d := d) hr.1 hr.2]; exact hz x y
      · exact Zcc a ha om
    have qb : emp b = true := Zge b hb fun x y => by
      by_cases hr : 0 ≤ x ∧ y < hf u
      · have := cat_b (u := u) (x := x + hf u) (y := y) (a := a) (b := b) (c := c) (d := d) om hr.2
        rw [show x + hf u - hf u = x by omega] at this; rw [← this]; exact hz _ _
      · exact Zcc b hb om
    have qc : emp c = true := Zge c hc fun x y => by
      by_cases hr : x < hf u ∧ 0 ≤ y
      · have := cat_c (u := u) (x := x) (y := y + hf u) (a := a) (b := b) (c := c) (d := d) hr.1 om
        rw [show y + hf u - hf u = y by omega] at this; rw [← this]; exact hz _ _
      · exact Zcc c hc om
    have qd : emp d = true := Zge d hd fun x y => by
      by_cases hr : 0 ≤ x ∧ 0 ≤ y
      · have := cat_d (u := u) (x := x + hf u) (y := y + hf u) (a := a) (b := b) (c := c) (d := d) om om
        rw [show x + hf u - hf u = x by omega, show y + hf u - hf u = y by omega] at this; rw [← this]; exact hz _ _
      · exact Zcc d hd om
    simp [emp, qa, qb, qc, qd]
theorem cat_ne {t : Tr} {v : Int} (h : wf v t) (he : emp t = false) : ∃ x y : Int, cat t x y ≠ 0 ∧ (0 ≤ x ∧ x < 2 * hf v) ∧ 0 ≤ y ∧ y < 2 * hf v := by
  have : ∃ x y : Int, cat t x y ≠ 0 := Classical.byContradiction fun hn => by
    have := Zge t h fun x y => Classical.byContradiction fun hc => hn ⟨x, y, hc⟩
    rw [he] at this; cases this
  obtain ⟨x, y, hc⟩ := this
  have hr : ¬ (x < 0 ∨ 2 * hf v ≤ x ∨ y < 0 ∨ 2 * hf v ≤ y) := fun ho => hc (Zcc t h ho)
  exact ⟨x, y, hc, by omega, by omega⟩
theorem Zi8 : ∀ (s : Tr) {v : Int} {t : Tr}, wf v s → wf v t → (∀ x y : Int, cat s x y = cat t x y) → ∀ o : List Nd, vis s o = vis t o
  | s, v, t, hs, ht, hc => by
    intro o
    by_cases es : emp s = true
    · have et : emp t = true := Zge t ht fun x y => by rw [← hc]; exact Zdi s x y es
      rw [Zds s o es, Zds t o et]
    · have et : ¬ emp t = true := fun et => es (Zge s hs fun x y => by rw [hc]; exact Zdi t x y et)
      match s, t, hs, ht, hc, es, et with
      | .no, _, _, _, _, es, _ => exact absurd rfl es
      | .leaf _ _ _ _, .no, _, _, _, _, et => exact absurd rfl et
      | .nd _ _ _ _ _, .no, _, _, _, _, et => exact absurd rfl et
      | .leaf a b c d, .leaf a' b' c' d', hs, ht, hc, _, _ =>
        have h1 := hc 0 0; have h2 := hc 1 0; have h3 := hc 0 1; have h4 := hc 1 1
        simp [cat] at h1 h2 h3 h4
        rw [h1, h2, h3, h4]
      | .leaf _ _ _ _, .nd _ _ _ _ _, hs, ht, _, _, _ => obtain ⟨h1, _⟩ := hs; obtain ⟨_, h2, _⟩ := ht; omega
      | .nd _ _ _ _ _, .leaf _ _ _ _, hs, ht, _, _, _ => obtain ⟨h1, _⟩ := ht; obtain ⟨_, h2, _⟩ := hs; omega
      | .nd u a b c d, .nd u' a' b' c' d', hs, ht, hc, _, _ =>
        obtain ⟨rfl, h2, _, ha, hb, hcc, hd⟩ := hs
        obtain ⟨rfl, _, _, ha', hb', hcc', hd'⟩ := ht
        have e := Zen h2
        have p := Zc0 u'
        have qa := Zi8 a ha ha' fun x y => by
          by_cases hr : x < hf u' ∧ y < hf u'
          · have := hc x y; rwa [cat_a hr.1 hr.2, cat_a hr.1 hr.2] at this
          · rw [Zcc a ha om, Zcc a' ha' om]
        have qb := Zi8 b hb hb' fun x y => by
          by_cases hr : 0 ≤ x ∧ y < hf u'
          · have := hc (x + hf u') y; rwa [cat_b om hr.2, cat_b om hr.2, show x + hf u' - hf u' = x by omega] at this
          · rw [Zcc b hb om, Zcc b' hb' om]
        have qc := Zi8 c hcc hcc' fun x y => by
          by_cases hr : x < hf u' ∧ 0 ≤ y
          · have := hc x (y + hf u'); rwa [cat_c hr.1 om, cat_c hr.1 om, show y + hf u' - hf u' = y by omega] at this
          · rw [Zcc c hcc om, Zcc c' hcc' om]
        have qd := Zi8 d hd hd' fun x y => by
          by_cases hr : 0 ≤ x ∧ 0 ≤ y
          · have := hc (x + hf u') (y + hf u'); rwa [cat_d om om, cat_d om om, show x + hf u' - hf u' = x by omega, show y + hf u' - hf u' = y by omega] at this
          · rw [Zcc d hd om, Zcc d' hd' om]
        simp only [vis, qa, qb, qc, qd]
theorem cat_q {u : Int} {a : Tr} (h : wf u a) (h2 : 2 ≤ u) (x y : Int) : cat a x y = if x < hf u then (if y < hf u then cat (a.q 0) x y else cat (a.q 2) x (y - hf u)) else (if y < hf u then cat (a.q 1) (x - hf u) y else cat (a.q 3) (x - hf u) (y - hf u)) := by
  cases a with
  | no => simp [cat, Tr.q]
  | leaf a b c d => obtain ⟨h1, _⟩ := h; omega
  | nd w a b c d => obtain ⟨rfl, _⟩ := h; simp [cat, Tr.q]
theorem qe_q {u : Int} {a : Tr} (h : wf u a) (h2 : 2 ≤ u) (j : Int) : qe a j = emp (a.q j) := by
  cases a with
  | no => rfl
  | leaf a b c d => obtain ⟨h1, _⟩ := h; omega
  | nd w a b c d => rfl
theorem cat_s {a : Tr} (h : wf 1 a) (x y : Int) : cat a x y = if x = 0 then (if y = 0 then a.s 0 else if y = 1 then a.s 2 else 0) else if x = 1 then (if y = 0 then a.s 1 else if y = 1 then a.s 3 else 0) else 0 := by
  cases a with
  | no => simp [cat, Tr.s]
  | leaf a b c d => simp [cat, Tr.s, Zae]
  | nd w a b c d => obtain ⟨_, h2, _⟩ := h; omega
theorem qe_s {a : Tr} (h : wf 1 a) (j : Int) : qe a j = decide (a.s j = 0) := by
  cases a with
  | no => rfl
  | leaf a b c d => rfl
  | nd w a b c d => obtain ⟨_, h2, _⟩ := h; omega
def oX (j h : Int) : Int := if j = 1 ∨ j = 3 then h else 0
def oY (j h : Int) : Int := if j = 2 ∨ j = 3 then h else 0
def inQ (j h x y : Int) : Prop := (oX j h ≤ x ∧ x < oX j h + h) ∧ oY j h ≤ y ∧ y < oY j h + h
theorem Zeu {u : Int} {a : Tr} (h : wf u a) (h1 : 1 ≤ u) {j : Int} (j0 : 0 ≤ j) (j1 : j < 4) (hq : qe a j = true) {x y : Int} (hi : inQ j (hf u) x y) : cat a x y = 0 := by
  have p := Zc0 u
  by_cases hu : u = 1
  · subst hu
    rw [qe_s h, decide_eq_true_eq] at hq
    rw [cat_s h]
    rw [Zhm] at hi
    have : j = 0 ∨ j = 1 ∨ j = 2 ∨ j = 3 := by omega
    rcases this with rfl | rfl | rfl | rfl <;> simp [inQ, oX, oY] at hi
    · rw [if_pos om, if_pos om, hq]
    · rw [if_neg om, if_pos om, if_pos om, hq]
    · rw [if_pos om, if_neg om, if_pos om, hq]
    · rw [if_neg om, if_pos om, if_neg om, if_pos om, hq]
  · rw [qe_q h om] at hq
    rw [cat_q h om]
    have : j = 0 ∨ j = 1 ∨ j = 2 ∨ j = 3 := by omega
    rcases this with rfl | rfl | rfl | rfl <;> simp [inQ, oX, oY] at hi
    · rw [if_pos om, if_pos om]; exact Zdi _ _ _ hq
    · rw [if_neg om, if_pos om]; exact Zdi _ _ _ hq
    · rw [if_pos om, if_neg om]; exact Zdi _ _ _ hq
    · rw [if_neg om, if_neg om]; exact Zdi _ _ _ hq
theorem qe_one {u : Int} {a : Tr} (h : wf u a) (h1 : 1 ≤ u) {j : Int} (j0 : 0 ≤ j) (j1 : j < 4) (hq : qe a j = false) : ∃ x y : Int, cat a x y ≠ 0 ∧ inQ j (hf u) x y := by
  have p := Zc0 u
  by_cases hu : u = 1
  · subst hu
    rw [qe_s h, decide_eq_false_iff_not] at hq
    refine ⟨oX j 1, oY j 1, ?_, by rw [Zhm]; unfold inQ; omega⟩
    rw [cat_s h]
    have : j = 0 ∨ j = 1 ∨ j = 2 ∨ j = 3 := by omega
    rcases this with rfl | rfl | rfl | rfl <;> simpa [oX, oY] using hq
  · rw [qe_q h om] at hq
    obtain ⟨x, y, hc, hx, hy⟩ := cat_ne (q_wf h j) hq
    rw [Zen om] at hx hy
    refine ⟨x + oX j (hf u), y + oY j (hf u), ?_, by unfold inQ; omega⟩
    rw [cat_q h om]
    have : j = 0 ∨ j = 1 ∨ j = 2 ∨ j = 3 := by omega
    rcases this with rfl | rfl | rfl | rfl <;> simp [oX, oY]
    · rw [if_pos om, if_pos om]; exact hc
    · rw [if_neg om, if_pos om]; exact hc
    · rw [if_pos om, if_neg om]; exact hc
    · rw [if_neg om, if_neg om]; exact hc
theorem cat_inn {v u : Int} {a b c d : Tr} (h : wf v (.nd u a b c d)) (hh : hol (.nd u a b c d) = true) (x y : Int) : cat (.nd u a b c d) x y = cat (inn (.nd u a b c d)) (x - hf (v - 1)) (y - hf (v - 1)) := by
  have hi := wf_inn h
  obtain ⟨rfl, h2, h3, ha, hb, hc, hd⟩ := h
  have e := Zen h2
  have p := Zc0 (u - 1)
  simp only [hol, Bool.and_eq_true] at hh
  obtain ⟨⟨⟨⟨⟨a0, a1⟩, a2⟩, ⟨b0, b1⟩, b3⟩, ⟨c0, c2⟩, c3⟩, ⟨d1, d2⟩, d3⟩ := hh
  have za : ∀ {x y : Int}, ¬ (hf (u - 1) ≤ x ∧ hf (u - 1) ≤ y) → cat a x y = 0 := fun {x y} hn => by
    by_cases ho : x < 0 ∨ 2 * hf (u - 1) ≤ x ∨ y < 0 ∨ 2 * hf (u - 1) ≤ y
    · exact Zcc a ha ho
    · by_cases hx : x < hf (u - 1)
      · by_cases hy : y < hf (u - 1)
        · exact Zeu ha om dc dc a0 (by simp [inQ, oX, oY]; omega)
        · exact Zeu ha om dc dc a2 (by simp [inQ, oX, oY]; omega)
      · exact Zeu ha om dc dc a1 (by simp [inQ, oX, oY]; omega)
  have zb : ∀ {x y : Int}, ¬ (x < hf (u - 1) ∧ hf (u - 1) ≤ y) → cat b x y = 0 := fun {x y} hn => by
    by_cases ho : x < 0 ∨ 2 * hf (u - 1) ≤ x ∨ y < 0 ∨ 2 * hf (u - 1) ≤ y
    · exact Zcc b hb ho
    · by_cases hx : x < hf (u - 1)
      · exact Zeu hb om dc dc b0 (by simp [inQ, oX, oY]; omega)
      · by_cases hy : y < hf (u - 1)
        · exact Zeu hb om dc dc b1 (by simp [inQ, oX, oY]; omega)
        · exact Zeu hb om dc dc b3 (by simp [inQ, oX, oY]; omega)
  have zc : ∀ {x y : Int}, ¬ (hf (u - 1) ≤ x ∧ y < hf (u - 1)) → cat c x y = 0 := fun {x y} hn => by
    by_cases ho : x < 0 ∨ 2 * hf (u - 1) ≤ x ∨ y < 0 ∨ 2 * hf (u - 1) ≤ y
    · exact Zcc c hc ho
    · by_cases hx : x < hf (u - 1)
      · by_cases hy : y < hf (u - 1)
        · exact Zeu hc om dc dc c0 (by simp [inQ, oX, oY]; omega)
        · exact Zeu hc om dc dc c2 (by simp [inQ, oX, oY]; omega)
      · exact Zeu hc om dc dc c3 (by simp [inQ, oX, oY]; omega)
  have zd : ∀ {x y : Int}, ¬ (x < hf (u - 1) ∧ y < hf (u - 1)) → cat d x y = 0 := fun {x y} hn => by
    by_cases ho : x < 0 ∨ 2 * hf (u - 1) ≤ x ∨ y < 0 ∨ 2 * hf (u - 1) ≤ y
    · exact Zcc d hd ho
    · by_cases hx : x < hf (u - 1)
      · exact Zeu hd om dc dc d2 (by simp [inQ, oX, oY]; omega)
      · by_cases hy : y < hf (u - 1)
        · exact Zeu hd om dc dc d1 (by simp [inQ, oX, oY]; omega)
        · exact Zeu hd om dc dc d3 (by simp [inQ, oX, oY]; omega)
  by_cases hin : hf (u - 1) ≤ x ∧ x < 3 * hf (u - 1) ∧ hf (u - 1) ≤ y ∧ y < 3 * hf (u - 1)
  · by_cases hu : u = 2
    · subst hu
      rw [show (2 : Int) - 1 = 1 from rfl, Zhm] at *
      have e2 : hf 2 = 2 := by rw [← Zen (v := 2) dc]; rfl
      simp only [inn, if_true, cat, e2]
      rw [cat_s ha, cat_s hb, cat_s hc, cat_s hd]
      have hx : x = 1 ∨ x = 2 := by omega
      have hy : y = 1 ∨ y = 2 := by omega
      rcases hx with rfl | rfl <;> rcases hy with rfl | rfl <;> rfl
    · simp only [inn, if_neg hu, cat]
      rw [cat_q ha om, cat_q hb om, cat_q hc om, cat_q hd om]
      by_cases hx : x < hf u
      · by_cases hy : y < hf u
        · rw [if_pos hx, if_pos hy, if_neg om, if_neg om, if_pos om, if_pos om]
        · rw [if_pos hx, if_neg hy, if_neg om, if_pos om, if_pos om, if_neg om]; congr 1; omega
      · by_cases hy : y < hf u
        · rw [if_neg hx, if_pos hy, if_pos om, if_neg om, if_neg om, if_pos om]; congr 1; omega
        · rw [if_neg hx, if_neg hy, if_pos om, if_pos om, if_neg om, if_neg om]; congr 1 <;> omega
  · rw [Zcc _ hi om]
    simp only [cat]
    split
    · split
      · exact za om
      · exact zc om
    · split
      · exact zb om
      · exact zd om
def mid (v : Int) (t : Tr) (X Y : Int) : Int := cat t (X + hf v) (Y + hf v)
theorem shrF_mid : ∀ (f : Nat) (t : Tr) (v : Int), wf v t → lvT t ≤ f → ∃ u, wf u (shrF f t) ∧ hol (shrF f t) = false ∧ ∀ X Y : Int, mid u (shrF f t) X Y = mid v t X Y
  | 0, t, v, h, hl => by
    cases t with
    | no => exact ⟨v, trivial, rfl, fun _ _ => rfl⟩
    | leaf a b c d => simp [lvT] at hl
    | nd u a b c d => obtain ⟨rfl, h2, _⟩ := h; simp only [lvT] at hl; omega
  | f + 1, t, v, h, hl => by
    unfold shrF
    by_cases hh : hol t = true
    · rw [if_pos hh]
      cases t with
      | no => cases hh
      | leaf a b c d => cases hh
      | nd u a b c d =>
        have hc := cat_inn h hh
        obtain ⟨w, h1, h2, h3⟩ := shrF_mid f _ (v - 1) (wf_inn h) (by
          obtain ⟨rfl, h2, _⟩ := h
          simp only [lvT] at hl
          by_cases e : u = 2
          · subst e; simp only [inn, if_true, lvT]; omega
          · simp only [inn, if_neg e, lvT]; omega)
        refine ⟨w, h1, h2, fun X Y => ?_⟩
        rw [h3]
        obtain ⟨rfl, g2, _⟩ := h
        have e := Zen g2
        unfold mid
        rw [hc, show X + hf u - hf (u - 1) = X + hf (u - 1) by omega, show Y + hf u - hf (u - 1) = Y + hf (u - 1) by omega]
    · rw [if_neg hh]
      exact ⟨v, h, by simpa using hh, fun _ _ => rfl⟩
theorem Zhw {t : Tr} {v : Int} (h : wf v t) : ∃ u, wf u (Zhl t) ∧ hol (Zhl t) = false ∧ ∀ X Y : Int, mid u (Zhl t) X Y = mid v t X Y := by
  unfold Zhl
  split
  · rename_i he; exact ⟨v, trivial, rfl, fun X Y => (Zdi t _ _ he).symm⟩
  · exact shrF_mid _ t v h (Nat.le_refl _)
theorem hol_out {v u : Int} {a b c d : Tr} (h : wf v (.nd u a b c d)) (hh : hol (.nd u a b c d) = false) : ∃ x y : Int, cat (.nd u a b c d) x y ≠ 0 ∧ ¬ (hf (v - 1) ≤ x ∧ x < 3 * hf (v - 1) ∧ hf (v - 1) ≤ y ∧ y < 3 * hf (v - 1)) := by
  obtain ⟨rfl, h2, h3, ha, hb, hc, hd⟩ := h
  have e := Zen h2
  have p := Zc0 (u - 1)
  have A : ∀ j : Int, 0 ≤ j → j < 4 → j ≠ 3 → qe a j = false → ∃ x y : Int, cat (.nd u a b c d) x y ≠ 0 ∧ ¬ (hf (u - 1) ≤ x ∧ x < 3 * hf (u - 1) ∧ hf (u - 1) ≤ y ∧ y < 3 * hf (u - 1)) := fun j j0 j1 j3 hq => by
    obtain ⟨x, y, hx, hi⟩ := qe_one ha om j0 j1 hq
    have : j = 0 ∨ j = 1 ∨ j = 2 := by omega
    rcases this with rfl | rfl | rfl <;> simp [inQ, oX, oY] at hi
    all_goals exact ⟨x, y, by rw [cat_a om om]; exact hx, by omega⟩
  have B : ∀ j : Int, 0 ≤ j → j < 4 → j ≠ 2 → qe b j = false → ∃ x y : Int, cat (.nd u a b c d) x y ≠ 0 ∧ ¬ (hf (u - 1) ≤ x ∧ x < 3 * hf (u - 1) ∧ hf (u - 1) ≤ y ∧ y < 3 * hf (u - 1)) := fun j j0 j1 j3 hq => by
    obtain ⟨x, y, hx, hi⟩ := qe_one hb om j0 j1 hq
    have : j = 0 ∨ j = 1 ∨ j = 3 := by omega
    rcases this with rfl | rfl | rfl <;> simp [inQ, oX, oY] at hi
    all_goals exact ⟨x + hf u, y, by rw [cat_b om om, show x + hf u - hf u = x by omega]; exact hx, by omega⟩
  have C : ∀ j : Int, 0 ≤ j → j < 4 → j ≠ 1 → qe c j = false → ∃ x y : Int, cat (.nd u a b c d) x y ≠ 0 ∧ ¬ (hf (u - 1) ≤ x ∧ x < 3 * hf (u - 1) ∧ hf (u - 1) ≤ y ∧ y < 3 * hf (u - 1)) := fun j j0 j1 j3 hq => by
    obtain ⟨x, y, hx, hi⟩ := qe_one hc om j0 j1 hq
    have : j = 0 ∨ j = 2 ∨ j = 3 := by omega
    rcases this with rfl | rfl | rfl <;> simp [inQ, oX, oY] at hi
    all_goals exact ⟨x, y + hf u, by rw [cat_c om om, show y + hf u - hf u = y by omega]; exact hx, by omega⟩
  have D : ∀ j : Int, 0 ≤ j → j < 4 → j ≠ 0 → qe d j = false → ∃ x y : Int, cat (.nd u a b c d) x y ≠ 0 ∧ ¬ (hf (u - 1) ≤ x ∧ x < 3 * hf (u - 1) ∧ hf (u - 1) ≤ y ∧ y < 3 * hf (u - 1)) := fun j j0 j1 j3 hq => by
    obtain ⟨x, y, hx, hi⟩ := qe_one hd om j0 j1 hq
    have : j = 1 ∨ j = 2 ∨ j = 3 := by omega
    rcases this with rfl | rfl | rfl <;> simp [inQ, oX, oY] at hi
    all_goals exact ⟨x + hf u, y + hf u, by rw [cat_d om om, show x + hf u - hf u = x by omega, show y + hf u - hf u = y by omega]; exact hx, by omega⟩
  simp only [hol, Bool.and_eq_false_iff] at hh
  rcases hh with ((((hh | hh) | hh) | ((hh | hh) | hh)) | ((hh | hh) | hh)) | ((hh | hh) | hh)
  · exact A 0 dc dc dc hh
  · exact A 1 dc dc dc hh
  · exact A 2 dc dc dc hh
  · exact B 0 dc dc dc hh
  · exact B 1 dc dc dc hh
  · exact B 3 dc dc dc hh
  · exact C 0 dc dc dc hh
  · exact C 2 dc dc dc hh
  · exact C 3 dc dc dc hh
  · exact D 1 dc dc dc hh
  · exact D 2 dc dc dc hh
  · exact D 3 dc dc dc hh
theorem hf_mono {v w : Int} (h1 : 1 ≤ v) (h : v ≤ w) : hf v ≤ hf w := by
  unfold hf
  have e : (2 : Int) ^ (w - 1).toNat = 2 ^ (v - 1).toNat * 2 ^ ((w - 1).toNat - (v - 1).toNat) := by rw [← Int.pow_add]; congr 1; omega
  have h1 := Za5 (v - 1).toNat
  have h2 := Za5 ((w - 1).toNat - (v - 1).toNat)
  have := Int.mul_le_mul_of_nonneg_left (show 1 ≤ (2 : Int) ^ ((w - 1).toNat - (v - 1).toNat) by omega) (Int.le_of_lt h1)
  omega
theorem wf_lv {t : Tr} {v : Int} (h : wf v t) (he : emp t = false) : 1 ≤ v ∧ v ≤ 1329 := by
  cases t with
  | no => cases he
  | leaf a b c d => obtain ⟨rfl, _⟩ := h; omega
  | nd u a b c d => obtain ⟨rfl, h2, h3, _⟩ := h; omega
theorem lv_least {s t : Tr} {v w : Int} (hs : wf v s) (ht : wf w t) (es : emp s = false) (et : emp t = false) (hh : hol t = false) (hc : ∀ X Y : Int, mid v s X Y = mid w t X Y) : ¬ v < w := fun hlt => by
  have hv := wf_lv hs es
  cases t with
  | no => cases et
  | leaf a b c d => obtain ⟨rfl, _⟩ := ht; omega
  | nd u a b c d =>
    obtain ⟨x, y, hx, ho⟩ := hol_out ht hh
    obtain ⟨rfl, h2, h3, _⟩ := ht
    have e := Zen h2
    have m := hf_mono hv.1 (show v ≤ u - 1 by omega)
    have p := Zc0 (u - 1)
    have := hc (x - hf u) (y - hf u)
    unfold mid at this
    rw [show x - hf u + hf u = x by omega, show y - hf u + hf u = y by omega] at this
    rw [← this] at hx
    exact hx (Zcc s hs om)
theorem can_unique {s t : Tr} {v w : Int} (hs : wf v s) (ht : wf w t) (hhs : hol s = false) (hht : hol t = false) (hc : ∀ X Y : Int, mid v s X Y = mid w t X Y) : canT s = canT t := by
  unfold canT
  by_cases es : emp s = true
  · have et : emp t = true := Zge t ht fun x y => by
      have := hc (x - hf w) (y - hf w)
      unfold mid at this
      rw [show x - hf w + hf w = x by omega, show y - hf w + hf w = y by omega] at this
      rw [← this]; exact Zdi s _ _ es
    rw [Zds s [] es, Zds t [] et]
  · have es' : emp s = false := by simpa using es
    have et : emp t = false := by
      rw [← Bool.not_eq_true]; intro et
      exact es (Zge s hs fun x y => by
        have := hc (x - hf v) (y - hf v)
        unfold mid at this
        rw [show x - hf v + hf v = x by omega, show y - hf v + hf v = y by omega] at this
        rw [this]; exact Zdi t _ _ et)
    have e : v = w := by
      have := lv_least hs ht es' et hht hc
      have := lv_least ht hs et es' hhs (fun X Y => (hc X Y).symm)
      omega
    subst e
    rw [Zi8 s hs ht (fun x y => by
      have := hc (x - hf v) (y - hf v)
      unfold mid at this
      rwa [show x - hf v + hf v = x by omega, show y - hf v + hf v = y by omega] at this) []]
theorem can_mid {s t : Tr} {v w : Int} (hs : wf v s) (ht : wf w t) (hc : ∀ X Y : Int, mid v s X Y = mid w t X Y) : canT (Zhl s) = canT (Zhl t) := by
  obtain ⟨a, a1, a2, a3⟩ := Zhw hs
  obtain ⟨b, b1, b2, b3⟩ := Zhw ht
  exact can_unique a1 b1 a2 b2 fun X Y => by rw [a3, b3, hc]
end Go.Gw
namespace Go.Gw
open Go.RowKit
section
variable {P : Program} {l : List Oper} {Q : Exit → Act → World → Prop} {n m : Nat} {D : List Deferred} {ρ0 : Env} {w0 : World} {R R0 R1 : World → World → Prop} {sp : Zcf} {ds anc con : List (List Nat)} {big st1 cls : List Bool}
end
section
variable {P : Program} {ops : Array Oper} {Q : Exit → Act → World → Prop} {Zao : List Oper} {n : Nat} {D : List Deferred} {ρ : Env} {w : World}
variable {d ty xt yt : Nat} {pos : String} {after : Array Edge} {gd : Option (Nat × Bool)} {C : Value → World → Prop} {x y : Operand} {a b : Int}
end
end Go.Gw
namespace Go.Gw
open Go.RowKit
section
variable {P : Program} {n : Nat} {D : List Deferred} {ρ : Env} {w w' : World} {α : Type} [Inhabited α] {K : Kd α} {F : Nat → Prop}
variable {d ty : Nat} {pos : String} {after : Array Edge} {gd : Option (Nat × Bool)} {C : Value → World → Prop} {x y z : Operand}
def IsEl (K : Kd α) (W : World) (F : Nat → Prop) (p : Value) (a : α) : Prop := ∃ b o us, p = .pointer (some ⟨b, o, none⟩) ∧ b < W.heap.size ∧ K.rep W F us a ∧ W.rangeAt b o us
omit [Inhabited α] in
theorem IsEl.g0 {p : Value} {a : α} (h : IsEl K w F p a) (k : w.grownBy w' none) : IsEl K w' F p a := by
  obtain ⟨b, o, us, e, hb, hr, hc⟩ := h
  exact ⟨b, o, us, e, Nat.lt_of_lt_of_le hb k.size, K.keep hr fun i hi _ => k.block i hi (by simp), Zaj hc k⟩
end
section
variable {P : Program} {n : Nat} {D : List Deferred} {ρ : Env} {w : World}
variable {d ty : Nat} {pos : String} {after : Array Edge} {gd : Option (Nat × Bool)} {C : Value → World → Prop} {x y z : Operand}
def sel2 (a b : Int) (i : Int) : Int := if i = 0 then a else b
end
end Go.Gw
namespace Go.Gw
open Go.RowKit
def pm (a b c d j : Int) : Int := if j ≤ 1 then sel2 a b (j % 2) else sel2 c d (j % 2)
def acc (l : List Nd) (f : Int → Bool) (x : Nd) (a b c d : Int) (j : Int) : Option Int := egN mo (fun q => egK mo 0 f l x (pm a b c d q)) j.toNat
structure Sides (f : Int → Bool) (a b c d : Int) : Prop where
  ra : 0 ≤ a ∧ a < 4
  rb : 0 ≤ b ∧ b < 4
  rc : 0 ≤ c ∧ c < 4
  rd : 0 ≤ d ∧ d < 4
  na : f a = false
  nb : f b = false
  fc : f c = true
  fd : f d = true
  all : ∀ g : Int → Option Int, mo (mo (mo (g a) (g b)) (g c)) (g d) = fold4 mo g
def Full (l : List Nd) : Prop := ∀ n : Int, 1 ≤ n → n ≤ l.length → emp (tr l n) = false
end Go.Gw
namespace Go.Gw
open Go.RowKit
end Go.Gw
namespace Go.Gw
open Go.RowKit
theorem full_last {l : List Nd} (h : Full l) (hn : l ≠ []) : emp (tr l l.length) = false := by
  have : l.length ≠ 0 := fun e => hn (List.eq_nil_of_length_eq_zero e)
  exact h _ om (Int.le_refl _)
theorem ea_some {f : Int → Bool} {l : List Nd} (h : Full l) (hn : l ≠ []) : ∃ e, ea f (tr l l.length) = some e := by
  have h1 := Zhp mo_isSome 0 f (tr l l.length)
  rw [full_last h hn] at h1
  exact Option.isSome_iff_exists.1 (by simpa using h1)
theorem rbx_some {l : List Nd} (h : Full l) (hn : l ≠ []) : (bxs l).some = true := by
  obtain ⟨e, he⟩ := ea_some (f := fX) h hn
  unfold bxs spn spO; rw [he]; rfl
end Go.Gw
namespace Go.Gw
open Go.RowKit
section
variable {P : Program} {n : Nat} {D : List Deferred} {ρ : Env} {w w' : World} {α : Type} {K : Kd α} {F : Nat → Prop}
variable {d ty : Nat} {pos : String} {after : Array Edge} {gd : Option (Nat × Bool)} {C : Value → World → Prop} {x y z : Operand}
theorem sl_cells {A : Option Addr} {c : Nat} {ys : List α} (hpos : 0 < K.sz) (h : Sl K w F (.slice A ys.length c) ys) : ∃ vs : List (List Value), vs.length = ys.length ∧ (∀ (i : Nat) (u : List Value) (y : α), vs[i]? = some u → ys[i]? = some y → K.rep w F u y) ∧ (∀ u ∈ vs, u.length = K.sz) ∧ (ys ≠ [] → ∃ g o, A = some ⟨g, o, none⟩ ∧ w.rangeAt g o vs.flatten) := by
  obtain ⟨A', c', e, h2, h3, h4⟩ := h
  cases e
  have hex : ∀ i : Fin ys.length, ∃ u, ∃ g o, A = some ⟨g, o, none⟩ ∧ K.rep w F u ys[i] ∧ w.rangeAt g (o + i * K.sz) u := by
    intro i
    obtain ⟨g, o, u, ha, _, _, hrep, hrng⟩ := h4 i ys[i] (by simp)
    exact ⟨u, g, o, ha, hrep, hrng⟩
  let f : Fin ys.length → List Value := fun i => Classical.choose (hex i)
  have hf : ∀ i, ∃ g o, A = some ⟨g, o, none⟩ ∧ K.rep w F (f i) ys[i] ∧ w.rangeAt g (o + i * K.sz) (f i) := fun i => Classical.choose_spec (hex i)
  have hall : ∀ u ∈ List.ofFn f, u.length = K.sz := by
    intro u hu
    obtain ⟨i, rfl⟩ := List.mem_ofFn.1 hu
    obtain ⟨_, _, _, hrep, _⟩ := hf i
    exact K.len hrep
  refine ⟨List.ofFn f, by simp, fun i u y hu hy => ?_, hall, fun hne => ?_⟩
  · rw [List.getElem?_ofFn] at hu
    split at hu
    · rename_i hi
      cases hu
      obtain ⟨_, _, _, hrep, _⟩ := hf ⟨i, hi⟩
      have : ys[i] = y := by rw [List.getElem?_eq_getElem hi] at hy; injection hy
      subst this; exact hrep
    · cases hu
  · have hlen : 0 < ys.length := List.length_pos_iff.2 hne
    obtain ⟨g, o, ha', _, _⟩ := hf ⟨0, hlen⟩
    refine ⟨g, o, ha', fun j u hj => ?_⟩
    have hjl : j < ys.length * K.sz := by
      have := (List.getElem?_eq_some_iff.1 hj).1
      rw [List.length_flatten] at this
      have hsum := Zcs (List.ofFn f) hall
      rw [List.length_flatten, List.length_ofFn] at hsum
      omega
    have hdiv : j / K.sz < ys.length := Nat.div_lt_of_lt_mul (by rw [Nat.mul_comm]; exact hjl)
    have hmod : j % K.sz < K.sz := Nat.mod_lt _ hpos
    have hu : (List.ofFn f)[j / K.sz]? = some (f ⟨j / K.sz, hdiv⟩) := by rw [List.getElem?_ofFn]; simp [hdiv]
    have h5 := Zdr (sz := K.sz) (List.ofFn f) hall (j / K.sz) (j % K.sz) _ hu hmod
    rw [show j / K.sz * K.sz + j % K.sz = j by rw [Nat.mul_comm]; exact Nat.div_add_mod j K.sz, hj] at h5
    obtain ⟨g2, o2, ha2, _, hrng⟩ := hf ⟨j / K.sz, hdiv⟩
    rw [ha'] at ha2
    injection ha2 with ha2
    injection ha2 with e1 e2
    subst e1; subst e2
    have := hrng (j % K.sz) u h5.symm
    rw [← this]; congr 2
    show o + j = o + j / K.sz * K.sz + j % K.sz
    have := Nat.div_add_mod j K.sz
    rw [Nat.mul_comm] at this; omega
def SlC (K : Kd α) (w : World) (F : Nat → Prop) (v : Value) (xs : List α) : Prop := Sl K w F v xs ∧ ∃ A, v = .slice A xs.length xs.length
theorem s_slcap {t e by_ : Nat} {zv v : Value} {xs : List α} {kd kd' : IntKind} {j : Int} (hs : SlF P t e K.sz by_ zv) (hx : opv ρ x = some v) (hy : opv ρ y = some (.int kd j)) (hz : opv ρ z = some (.int kd' j)) (hl : Sl K w F v xs) (h0 : 0 ≤ j) (h1 : j ≤ xs.length)
    (k : ∀ v', SlC K w F v' (xs.take j.toNat) → C v' w) : OpW P ⟨some d, .slice t x none (some y) (some z), ty, pos, after, gd⟩ n D ρ w C := by
  obtain ⟨A, c, rfl, a1, a2, a3⟩ := id hl
  obtain ⟨inf, hinf, hzero, hsz, hby⟩ := hs.inf
  have hp := sl_part (l := 0) (h := j.toNat) (m := j.toNat) hl om om (Nat.le_refl _) om
  rw [List.drop_zero] at hp
  have hlen : (xs.take j.toNat).length = j.toNat := by simp; omega
  refine Za3 (w' := w) (fun ev he => ?_) (k _ ⟨hp, ?_⟩)
  · have hb : (Instr.sliceBound (.int kd' j) c .slice3Acap).run P w = .ok j.toNat w := by
      have : j ≤ c := by omega
      simp [Instr.sliceBound, asIntOf, h0, this]
    have hb2 : (Instr.sliceBound (.int kd j) j.toNat .slice3B).run P w = .ok j.toNat w := by
      have : j ≤ (j.toNat : Int) := by omega
      simp only [Instr.sliceBound, asIntOf, Sem.run_bind, Sem.run_pure, Result.andThen_ok, if_pos (And.intro h0 this)]
    simp [execOp, he x _ hx, he y _ hy, he z _ hz, Instr.sliceAt, Instr.slice, run_underlying hs.und, Instr.sliceBounds, hb, hb2, sizeOf, typeInfo, hinf, hsz]
  · exact ⟨if j.toNat = 0 then A else A.map (·.add (0 * K.sz)), by rw [hlen, Nat.sub_zero]⟩
theorem Zlv {t e by_ : Nat} {z' v s : Value} {xs ys : List α} (hs : SlF P t e K.sz by_ z') (hx : opv ρ x = some v) (hy : opv ρ y = some s) (hl : SlC K w F v xs) (hsrc : Sl K w F s ys) (hys : ys ≠ [])
    (hone : K.Ones) (h63 : xs.length + ys.length ≤ 100000000) (hbytes : (2 * (xs.length + ys.length)) * by_ ≤ 140737488355328) (hF : ∀ k, F k → k < w.heap.size)
    (k : ∀ v' w', Own K e w.heap.size w' F v' (xs ++ ys) → w.grownBy w' none → v'.ownBlock = some w.heap.size → C v' w') :
    OpW P ⟨some d, .call { callee := .builtin .append, args := #[x, y], argTypes := #[t, t] }, ty, pos, after, gd⟩ n D ρ w C := by
  obtain ⟨inf, hinf, hzero, hsz, hby⟩ := hs.inf
  have hzsz : z'.cells.size = K.sz := hs.zsz
  have hylen : 0 < ys.length := List.length_pos_iff.2 hys
  obtain ⟨hl, A, rfl⟩ := hl
  obtain ⟨B, c, rfl, hB1, hB2, hB3⟩ := id hsrc
  obtain ⟨us, hul, hur, hua, huc⟩ := sl_cells hs.pos hl
  obtain ⟨vs, hvl, hvr, hva, hvc⟩ := sl_cells hs.pos hsrc
  obtain ⟨g2, o2, rfl, hrng⟩ := hvc hys
  have hfu := Zcs us hua
  have hfv := Zcs vs hva
  have fin : ∀ (old : Nat), w.grownBy (w.drew.alloc (.cells ((us.flatten ++ vs.flatten).toArray ++ Builtin.zeroCells z'.cells (grownCap w (xs.length + ys.length) old e - (xs.length + ys.length))) e)) none ∧
      Own K e w.heap.size (w.drew.alloc (.cells ((us.flatten ++ vs.flatten).toArray ++ Builtin.zeroCells z'.cells (grownCap w (xs.length + ys.length) old e - (xs.length + ys.length))) e)) F (.slice (some ⟨w.heap.size, 0, none⟩) (xs.length + ys.length) (grownCap w (xs.length + ys.length) old e)) (xs ++ ys) := by
    intro old
    have hgr : w.grownBy (w.drew.alloc (.cells ((us.flatten ++ vs.flatten).toArray ++ Builtin.zeroCells z'.cells (grownCap w (xs.length + ys.length) old e - (xs.length + ys.length))) e)) none := ⟨rfl, rfl, rfl, by simp, fun k hk _ => heap_alloc_old w.drew _ hk⟩
    have hge := grownCap_ge w (xs.length + ys.length) old e
    have hcm := grownCap_le_maxLen w (xs.length + ys.length) old e (by simp only [maxLen]; omega)
    refine ⟨hgr, ⟨us ++ vs, by simp [hul, hvl], fun i u x hu hx => ?_, ?_⟩, fun g hg hf => ?_⟩
    · have hrep : K.rep w F u x := by
        rcases Nat.lt_or_ge i xs.length with h | h
        · rw [List.getElem?_append_left om] at hu; rw [List.getElem?_append_left h] at hx; exact hur i u x hu hx
        · rw [List.getElem?_append_right om, hul] at hu; rw [List.getElem?_append_right h] at hx; exact hvr _ u x hu hx
      refine K.keep (K.weak hrep fun k hk h => ?_) fun k hk _ => hgr.block k hk (by simp)
      rcases h with h | h
      · exact h
      · simp [Value.ownBlock] at h; omega
    · rw [List.flatten_append, List.length_append]
      refine ⟨by rw [List.length_append, hfu, hfv, hul, hvl, Nat.add_mul], .inr ⟨w.heap.size, _, _, rfl, Nat.le_refl _, heap_alloc_new w.drew _, hge, hcm, ?_, ?_⟩⟩
      · simp only [Array.size_append, List.size_toArray, size_zeroCells, hzsz, List.length_append, hfu, hfv, hul, hvl, ← Nat.add_mul]
        congr 1; omega
      · simp only [Array.toList_append]
        rw [List.take_left' (by rw [List.length_append, hfu, hfv, hul, hvl, Nat.add_mul])]
    · simp [Value.ownBlock] at hg; have := hF g hf; omega
  have hnews : ∀ j v, vs.flatten[j]? = some v → w.cell? ((⟨g2, o2, none⟩ : Addr).add j) = some v := fun j u hj => Zfz hrng j u hj
  have hvl2 : vs.flatten.length = ys.length * inf.size := by rw [hfv, hvl, hsz]
  cases A with
  | none =>
    have hx0 : xs = [] := by
      cases xs with
      | nil => rfl
      | cons a r => obtain ⟨A', c', e', _, _, h4⟩ := hl; cases e'; obtain ⟨_, _, _, ha, _⟩ := h4 0 a rfl; cases ha
    subst hx0
    have hu0 : us = [] := List.eq_nil_of_length_eq_zero hul
    subst hu0
    have hf := fin 0
    simp only [List.length_nil, Nat.zero_add, List.flatten_nil, List.nil_append] at hf hbytes
    have hrun := Go.run_append_nil (P := P) w t ty e inf z' hs.und hinf hzero ⟨g2, o2, none⟩ ys.length c vs.flatten hvl2 hnews hylen (by simp only [List.length_nil] at h63; omega) (by rw [hby]; have := Nat.mul_le_mul_right by_ (show ys.length ≤ 2 * ys.length by omega); omega)
    refine Za3 (v := _) (w' := _) (fun ev he => ?_) (k _ _ hf.2 hf.1 rfl)
    simp [execOp, resolve, invoke, builtin, he x _ hx, he y _ hy, hrun]
  | some a =>
    have holds : ∀ j v, us.flatten[j]? = some v → w.cell? (a.add j) = some v := by
      intro j u hj
      by_cases hne : xs = []
      · subst hne
        have hu0 : us = [] := List.eq_nil_of_length_eq_zero hul
        subst hu0; simp at hj
      · obtain ⟨g, o, ha, hrng⟩ := huc hne
        cases ha
        exact Zfz hrng j u hj
    have hf := fin xs.length
    have hnc := nextslicecap_le (need := xs.length + ys.length) (old := xs.length) om
    have hrun := Go.run_append_grow (P := P) w t ty e inf z' hs.und hinf hzero a xs.length xs.length us.flatten (by rw [hfu, hul, hsz]) holds ⟨g2, o2, none⟩ ys.length c vs.flatten hvl2 hnews om om (by rw [hby]; have := Nat.mul_le_mul_right by_ hnc; omega)
    have hrun' := hrun
    rw [show us.flatten.toArray ++ vs.flatten.toArray = (us.flatten ++ vs.flatten).toArray by simp] at hrun'
    refine Za3 (v := _) (w' := _) (fun ev he => ?_) (k _ _ hf.2 hf.1 rfl)
    simp [execOp, resolve, invoke, builtin, he x _ hx, he y _ hy, hrun]
end
end Go.Gw
namespace Go.Gw
open Go.RowKit
structure RCl where
  xn : Bool
  xs : List Int
  yn : Bool
  ys : List Int
  st : Int
deriving DecidableEq
instance : Inhabited RCl := ⟨⟨false, [], false, [], 0⟩⟩
structure Cl where
  x : Int
  y : Int
  st : Int
deriving DecidableEq
instance : Inhabited Cl := ⟨⟨0, 0, 0⟩⟩
def rcl (c : Cl) : RCl := ⟨decide (c.x < 0), ml c.x, decide (c.y < 0), ml c.y, c.st⟩
def Zf1 (U n0 : Nat) (w : World) (F : Nat → Prop) (us : List Value) (xn : Bool) (xs : List Int) (yn : Bool) (ys : List Int) (st : Int) : Prop :=
  ∃ a b, us = [.bool xn, a, .bool yn, b, .int .u8 st] ∧ Sl Kd.u32 w (GF U n0 F w) a xs ∧ Sl Kd.u32 w (GF U n0 F w) b ys ∧ 0 ≤ st ∧ st ≤ 255
section
variable {U n0 : Nat} {w w' : World} {F F' : Nat → Prop} {us : List Value} {xn yn : Bool} {xs ys : List Int} {st : Int}
theorem Zf1.len (h : Zf1 U n0 w F us xn xs yn ys st) : us.length = 5 := by obtain ⟨a, b, rfl, _⟩ := h; rfl
theorem Zf1.keep (h : Zf1 U n0 w F us xn xs yn ys st) (hk : ∀ k, k < w.heap.size → ¬ F k → w'.heap[k]? = w.heap[k]?) : Zf1 U n0 w' F us xn xs yn ys st := by
  obtain ⟨a, b, rfl, h1, h2, h3⟩ := h
  exact ⟨a, b, rfl, Zgl h1 fun k a b _ => hk k a b, Zgl h2 fun k a b _ => hk k a b, h3⟩
theorem Zf1.weak (h : Zf1 U n0 w F us xn xs yn ys st) (hf : ∀ k, k < w.heap.size → F' k → F k) : Zf1 U n0 w F' us xn xs yn ys st := by
  obtain ⟨a, b, rfl, h1, h2, h3⟩ := h
  exact ⟨a, b, rfl, h1.weak fun k hk hF => hF.elim (fun h => .inl (hf k hk h)) .inr, h2.weak fun k hk hF => hF.elim (fun h => .inl (hf k hk h)) .inr, h3⟩
theorem Zf1.free (h : Zf1 U n0 w F us xn xs yn ys st) (hf : ∀ k, k < w.heap.size → F' k → G U n0 w k) : Zf1 U n0 w F' us xn xs yn ys st := by
  obtain ⟨a, b, rfl, h1, h2, h3⟩ := h
  exact ⟨a, b, rfl, h1.weak fun k hk hF => hF.elim (fun h => .inr (hf k hk h)) .inr, h2.weak fun k hk hF => hF.elim (fun h => .inr (hf k hk h)) .inr, h3⟩
theorem Zf1.put {g : Nat} (h : Zf1 U n0 w F us xn xs yn ys st) (hg : w.grownBy w' (some g)) (hG : G U n0 w g) : Zf1 U n0 w' F us xn xs yn ys st := by
  obtain ⟨a, b, rfl, h1, h2, h3⟩ := h
  exact ⟨a, b, rfl, Zgl h1 fun k hk _ hk2 => hg.block k hk (by rintro ⟨⟩; exact hk2 hG), Zgl h2 fun k hk _ hk2 => hg.block k hk (by rintro ⟨⟩; exact hk2 hG), h3⟩
theorem Zf1.ones (h : Zf1 U n0 w F us xn xs yn ys st) : ∀ q ∈ us, q.oneCell' = true := by
  obtain ⟨a, b, rfl, h1, h2, h3⟩ := h
  intro q hq
  simp at hq
  rcases hq with rfl | rfl | rfl | rfl | rfl
  · rfl
  · exact h1.one
  · rfl
  · exact h2.one
  · rfl
end
def Kd.rcell (U n0 : Nat) : Kd RCl where
  sz := 5
  rep := fun w F us c => Zf1 U n0 w F us c.xn c.xs c.yn c.ys c.st
  len := Zf1.len
  keep := Zf1.keep
  weak := Zf1.weak
def Kd.cell (U n0 : Nat) : Kd Cl where
  sz := 5
  rep := fun w F us c => Zf1 U n0 w F us (decide (c.x < 0)) (ml c.x) (decide (c.y < 0)) (ml c.y) c.st
  len := Zf1.len
  keep := Zf1.keep
  weak := Zf1.weak
theorem Zgi (U n0 : Nat) : (Kd.cell U n0).GK U n0 where
  put := fun _ _ _ _ _ _ h hg hG => h.put hg hG
  ones := fun _ _ _ _ h => Zf1.ones h
def Kd.Free {α : Type} (U n0 : Nat) (K : Kd α) : Prop := ∀ (w : World) (F F' : Nat → Prop) (u : List Value) (x : α), K.rep w F u x → (∀ k, k < w.heap.size → F' k → G U n0 w k) → K.rep w F' u x
theorem Zli (U n0 : Nat) : (Kd.cell U n0).Free U n0 := fun _ _ _ _ _ h hf => Zf1.free h hf
section
variable {α β : Type} {K : Kd α} {L : Kd β} {U n0 : Nat} {w w' : World} {F : Nat → Prop} {v s : Value} {xs ys : List α}
theorem Own.srcG {zs : List β} {e e' b b' : Nat} (hK : K.Free U n0) (h : Gw.Own K e b w (fun _ => False) s ys) (hv : Gw.Own L e' b' w (fun _ => False) v zs) (ht : e' ≠ U) (hn : n0 ≤ b') (hne : ∀ g, v.ownBlock = some g → s.ownBlock ≠ some g) : Sl K w (Out (fun _ => False) v) s ys := by
  obtain ⟨A, c, e1, h1, h2, h3⟩ := h.sl
  refine ⟨A, c, e1, h1, h2, fun i x hx => ?_⟩
  obtain ⟨g, o, us, rfl, hg, hF, hr, hc⟩ := h3 i x hx
  refine ⟨g, o, us, rfl, hg, fun hO => ?_, hK _ _ _ _ _ hr fun k hk hO => ?_, hc⟩
  · rcases hO with hO | hO
    · exact hO
    · exact hne g hO (by rw [e1]; obtain ⟨us', _, _, ho⟩ := h.out; rcases ho.2 with ⟨e2, _⟩ | ⟨g', cap, cur, e2, _⟩ <;> rw [e1] at e2 <;> cases e2; rfl)
  · rcases hO with hO | hO
    · exact hO.elim
    · exact hv.isG hO ht hn
theorem Sl.srcG {zs : List β} {e' b' : Nat} {w1 : World} (hK : K.Free U n0) (h : Sl K w (Loc F w1) s ys) (hv : Gw.Own L e' b' w (fun _ => False) v zs) (ht : e' ≠ U) (hn : n0 ≤ b') (hne : ∀ g, v.ownBlock = some g → w1.heap.size ≤ g) : Sl K w (Out (fun _ => False) v) s ys := by
  obtain ⟨A, c, e1, h1, h2, h3⟩ := h
  refine ⟨A, c, e1, h1, h2, fun i x hx => ?_⟩
  obtain ⟨g, o, us, rfl, hg, hF, hr, hc⟩ := h3 i x hx
  refine ⟨g, o, us, rfl, hg, fun hO => ?_, hK _ _ _ _ _ hr fun k hk hO => ?_, hc⟩
  · rcases hO with hO | hO
    · exact hO
    · exact hF (.inr (hne g hO))
  · rcases hO with hO | hO
    · exact hO.elim
    · exact hv.isG hO ht hn
theorem Sl.gO {w1 : World} {u : Value} (h : Sl K w (Loc F w1) v xs) (k : w.grownBy w' u.ownBlock) (hu : ∀ g, u.ownBlock = some g → w1.heap.size ≤ g) : Sl K w' (Loc F w1) v xs := h.keep fun i hi hF => k.block i hi (fun e => hF (.inr (hu i e.symm)))
theorem cells_of {l : List Cl} {va : Value} (h : Sl (Kd.rcell U n0) w F va (l.map rcl)) : Sl (Kd.cell U n0) w F va l := by
  obtain ⟨A, c, e, h1, h2, h3⟩ := h
  rw [List.length_map] at e h1
  refine ⟨A, c, e, h1, h2, fun i x hx => ?_⟩
  exact h3 i (rcl x) (by rw [List.getElem?_map, hx]; rfl)
end
section
variable {P : Program} {n : Nat} {D : List Deferred} {ρ : Env} {w w' : World} {α : Type} {K : Kd α} {F : Nat → Prop} {U n0 : Nat}
variable {d ty : Nat} {pos : String} {after : Array Edge} {gd : Option (Nat × Bool)} {C : Value → World → Prop} {x y z : Operand}
theorem SlC.g0 {v : Value} {xs : List α} (h : SlC K w F v xs) (k : w.grownBy w' none) : SlC K w' F v xs := ⟨h.1.g0 k, h.2⟩
theorem s_append0 {t e by_ base g : Nat} {z' s : Value} {ys : List α} (hs : SlF P t e K.sz by_ z') (hx : opv ρ x = some (.slice (some ⟨g, 0, none⟩) 0 0)) (hy : opv ρ y = some s) (ho : Gw.Own K e base w F (.slice (some ⟨g, 0, none⟩) 0 0) []) (hsrc : Sl K w F s ys)
    (hone : K.Ones) (h63 : ys.length ≤ 100000000) (hbytes : (2 * ys.length) * by_ ≤ 140737488355328) (hbase : base ≤ w.heap.size) (hF : ∀ k, F k → k < w.heap.size)
    (k : ∀ v' w', Gw.Own K e base w' F v' ys → w.grownBy w' none → C v' w') :
    OpW P ⟨some d, .call { callee := .builtin .append, args := #[x, y], argTypes := #[t, t] }, ty, pos, after, gd⟩ n D ρ w C := by
  by_cases hys : ys = []
  · subst hys
    obtain ⟨inf, hinf, hzero, hsz, hby⟩ := hs.inf
    obtain ⟨A, c, rfl, _⟩ := hsrc
    refine Za3 (v := .slice (some ⟨g, 0, none⟩) 0 0) (w' := w) (fun ev he => ?_) (k _ _ ho (World.grownBy.refl w _))
    cases A with
    | none => simp [execOp, resolve, invoke, builtin, he x _ hx, he y _ hy, Builtin.append_, run_underlying hs.und, sizeOf, typeInfo, hinf, Builtin.lenOf, Builtin.firstCells, storeCells]
    | some a =>
      have hf := run_firstCells_some (P := P) w inf.size 0 a 0 c [] (by simp) (by simp)
      simp [execOp, resolve, invoke, builtin, he x _ hx, he y _ hy, Builtin.append_, run_underlying hs.und, sizeOf, typeInfo, hinf, Builtin.lenOf, hf, storeCells]
  · refine Zlv hs hx hy ⟨ho.sl, _, rfl⟩ hsrc hys hone (by simpa using h63) (by simpa using hbytes) hF fun v' w' h1 h2 h3 => k v' w' (h1.rebase hbase) h2
theorem Zkq {g t : Nat} {a b : Value} {c : Cl} (hB : Blk w g t [.bool (decide (c.x < 0)), a, .bool (decide (c.y < 0)), b, .int .u8 c.st].toArray) (h1 : Sl Kd.u32 w (G U n0 w) a (ml c.x)) (h2 : Sl Kd.u32 w (G U n0 w) b (ml c.y)) (h3 : 0 ≤ c.st ∧ c.st ≤ 255) :
    Sl (Kd.cell U n0) w (fun _ => False) (.slice (some ⟨g, 0, none⟩) 1 1) [c] := by
  refine sl_lit (us := [[.bool (decide (c.x < 0)), a, .bool (decide (c.y < 0)), b, .int .u8 c.st]]) (by simpa using hB) rfl (by simp [Kd.cell]) (fun h => h) rfl dc ?_
  intro i u y hu hy
  cases i with
  | zero =>
    simp at hu hy; subst hu; subst hy
    exact ⟨a, b, rfl, h1.weak fun k _ hk => hk.elim (fun h => h.elim) id, h2.weak fun k _ hk => hk.elim (fun h => h.elim) id, h3⟩
  | succ i => simp at hu
theorem lit_cellO {g t e base : Nat} {v a b : Value} {c : Cl} {ys : List Cl} (hB : Blk w g t [.bool (decide (c.x < 0)), a, .bool (decide (c.y < 0)), b, .int .u8 c.st].toArray) (h1 : Sl Kd.u32 w (G U n0 w) a (ml c.x)) (h2 : Sl Kd.u32 w (G U n0 w) b (ml c.y)) (h3 : 0 ≤ c.st ∧ c.st ≤ 255)
    (hO : Gw.Own (Kd.cell U n0) e base w (fun _ => False) v ys) (hg : v.ownBlock ≠ some g) (ht : e ≠ U) (hn : n0 ≤ base) : Sl (Kd.cell U n0) w (Out (fun _ => False) v) (.slice (some ⟨g, 0, none⟩) 1 1) [c] := by
  refine sl_lit (us := [[.bool (decide (c.x < 0)), a, .bool (decide (c.y < 0)), b, .int .u8 c.st]]) (by simpa using hB) rfl (by simp [Kd.cell]) (fun h => h.elim id hg) rfl dc ?_
  intro i u y hu hy
  cases i with
  | zero =>
    simp at hu hy; subst hu; subst hy
    exact ⟨a, b, rfl, h1.outG hO ht hn, h2.outG hO ht hn, h3⟩
  | succ i => simp at hu
end
end Go.Gw
namespace Go.Gw
open Go.RowKit
def Zgq (a b : Cl) : Int := if Zbt a.y b.y = 0 then Zbt a.x b.x else Zbt a.y b.y
def Zet : List Cl → Cl → List Cl
  | [], c => [c]
  | a :: r, c => if Zgq a c < 0 then a :: Zet r c else if Zgq a c = 0 then c :: r else c :: a :: r
def Zga (l : List Cl) : List Cl := l.foldl Zet []
def nzC (c : Cl) : Bool := decide (c.st ≠ 0)
def Zbc (l : List Cl) : List Cl := (Zga l).filter nzC
theorem Zk2 {a : Cl} {r : List Cl} {j : Int} (h : 1 ≤ j) : ix (a :: r) j = ix r (j - 1) := by
  unfold ix
  rw [show j.toNat = (j - 1).toNat + 1 by omega]; rfl
theorem Zk9 {a : Cl} {r : List Cl} : ix (a :: r) 0 = a := rfl
theorem insC_new : ∀ {os : List Cl} {c : Cl} {k : Int}, 0 ≤ k → k ≤ os.length → (∀ j : Int, 0 ≤ j → j < k → Zgq (ix os j) c < 0) → (k < os.length → ¬ Zgq (ix os k) c < 0 ∧ Zgq (ix os k) c ≠ 0) →
    (os.take k.toNat ++ [c]) ++ os.drop k.toNat = Zet os c
  | [], c, k, h0, h1, _, _ => by simp [Zet]
  | a :: r, c, k, h0, h1, hb, hs => by
    by_cases hk : k = 0
    · subst hk
      have := hs (by simp only [List.length_cons]; omega)
      rw [Zk9] at this
      simp [Zet, this.1, this.2]
    · have ha := hb 0 (Int.le_refl _) om
      rw [Zk9] at ha
      have ih := insC_new (os := r) (c := c) (k := k - 1) om (by simp at h1; omega) (fun j j0 j1 => by have := hb (j + 1) om om; rw [Zk2 om, show j + 1 - 1 = j by omega] at this; exact this) (fun hl => by have := hs (by simp; omega); rw [Zk2 om] at this; exact this)
      rw [show k.toNat = (k - 1).toNat + 1 by omega]
      simp only [List.take_succ_cons, List.drop_succ_cons, List.cons_append, Zet, ha, if_true, ih]
theorem insC_same : ∀ {os : List Cl} {c : Cl} {k : Int}, 0 ≤ k → k < os.length → (∀ j : Int, 0 ≤ j → j < k → Zgq (ix os j) c < 0) → Zgq (ix os k) c = 0 →
    (os.take k.toNat ++ [c]) ++ (os.drop k.toNat).drop (1 : Int).toNat = Zet os c
  | [], c, k, h0, h1, _, _ => by simp at h1; omega
  | a :: r, c, k, h0, h1, hb, hs => by
    by_cases hk : k = 0
    · subst hk
      rw [Zk9] at hs
      simp [Zet, hs]
    · have ha := hb 0 (Int.le_refl _) om
      rw [Zk9] at ha
      have ih := insC_same (os := r) (c := c) (k := k - 1) om (by simp at h1; omega) (fun j j0 j1 => by have := hb (j + 1) om om; rw [Zk2 om, show j + 1 - 1 = j by omega] at this; exact this) (by rw [Zk2 om] at hs; exact hs)
      rw [show k.toNat = (k - 1).toNat + 1 by omega]
      simp only [List.take_succ_cons, List.drop_succ_cons, List.cons_append, Zet, ha, if_true, ih]
theorem insC_len : ∀ (os : List Cl) (c : Cl), (Zet os c).length ≤ os.length + 1
  | [], c => by simp [Zet]
  | a :: r, c => by
    unfold Zet
    have := insC_len r c
    split
    · simp; omega
    · split
      · simp
      · simp
theorem Zfu {l : List Cl} {i : Int} (h0 : 0 ≤ i) (h1 : i < l.length) : l.take (i + 1).toNat = l.take i.toNat ++ [ix l i] := by
  rw [show (i + 1).toNat = i.toNat + 1 by omega, List.take_add_one]
  unfold ix
  simp [List.getD_eq_getElem?_getD, show i.toNat < l.length by omega]
theorem lastA_snoc (l : List Cl) (c : Cl) : Zga (l ++ [c]) = Zet (Zga l) c := by unfold Zga; rw [List.foldl_append]; rfl
theorem Zmt {l os : List Cl} {i : Int} (h0 : 0 ≤ i) (h1 : i < l.length) (h : os = Zga (l.take i.toNat)) : Zet os (ix l i) = Zga (l.take (i + 1).toNat) := by
  rw [Zfu h0 h1, lastA_snoc, h]
theorem lastA_len : ∀ (l : List Cl), (Zga l).length ≤ l.length := by
  intro l
  unfold Zga
  have : ∀ (l os : List Cl), (l.foldl Zet os).length ≤ os.length + l.length := by
    intro l
    induction l with
    | nil => intro os; simp
    | cons a r ih => intro os; simp only [List.foldl_cons, List.length_cons]; have := ih (Zet os a); have := insC_len os a; omega
  simpa using this l []
theorem filt_yes {os ys : List Cl} {i : Int} (h0 : 0 ≤ i) (h1 : i < os.length) (h : ys = (os.take i.toNat).filter nzC) (hz : (ix os i).st ≠ 0) : ys ++ [ix os i] = (os.take (i + 1).toNat).filter nzC := by
  rw [Zfu h0 h1, List.filter_append, h]; simp [nzC, hz]
theorem filt_no {os ys : List Cl} {i : Int} (h0 : 0 ≤ i) (h1 : i < os.length) (h : ys = (os.take i.toNat).filter nzC) (hz : ¬ (ix os i).st ≠ 0) : ys = (os.take (i + 1).toNat).filter nzC := by
  rw [Zfu h0 h1, List.filter_append, h]; simp [nzC] at hz ⊢; simp [hz]
theorem filt_len {os ys : List Cl} {i : Int} (h : ys = (os.take i.toNat).filter nzC) : ys.length ≤ os.length := by
  rw [h]; have := List.length_filter_le nzC (os.take i.toNat); simp at this ⊢; omega
def CBd (l : List Cl) : Prop := ∀ c ∈ l, Bd 50 c.x ∧ Bd 50 c.y
theorem ix_memC {l : List Cl} {i : Int} (h0 : 0 ≤ i) (h1 : i < l.length) : ix l i ∈ l := by
  unfold ix
  rw [List.getD_eq_getElem?_getD, List.getElem?_eq_getElem om]
  exact List.getElem_mem _
theorem Zdp {l : List Cl} (h : CBd l) {i : Int} (h0 : 0 ≤ i) (h1 : i < l.length) : Bd 50 (ix l i).x ∧ Bd 50 (ix l i).y := h _ (ix_memC h0 h1)
theorem insC_mem : ∀ {os : List Cl} {c a : Cl}, a ∈ Zet os c → a = c ∨ a ∈ os
  | [], c, a, h => by simp [Zet] at h; exact .inl h
  | b :: r, c, a, h => by
    unfold Zet at h
    split at h
    · rcases List.mem_cons.1 h with h | h
      · exact .inr (by simp [h])
      · rcases insC_mem h with h | h
        · exact .inl h
        · exact .inr (by simp [h])
    · split at h
      · rcases List.mem_cons.1 h with h | h
        · exact .inl h
        · exact .inr (by simp [h])
      · rcases List.mem_cons.1 h with h | h
        · exact .inl h
        · exact .inr h
theorem Zl0 {l : List Cl} {a : Cl} (h : a ∈ Zga l) : a ∈ l := by
  have : ∀ (l os : List Cl), a ∈ l.foldl Zet os → a ∈ os ∨ a ∈ l := by
    intro l
    induction l with
    | nil => intro os h; exact .inl h
    | cons b r ih =>
      intro os h
      rcases ih _ h with h | h
      · rcases insC_mem h with h | h
        · exact .inr (by simp [h])
        · exact .inl h
      · exact .inr (by simp [h])
  simpa using this l [] h
theorem cbd_last {l os : List Cl} {i : Int} (h : CBd l) (ho : os = Zga (l.take i.toNat)) : CBd os := fun c hc => h c (List.mem_of_mem_take (Zl0 (ho ▸ hc)))
theorem cbd_lastL {l : List Cl} (h : CBd l) : CBd (Zbc l) := fun c hc => h c (Zl0 (List.mem_filter.1 hc).1)
theorem lastL_len (l : List Cl) : (Zbc l).length ≤ l.length := by
  unfold Zbc; have := List.length_filter_le nzC (Zga l); have := lastA_len l; omega
theorem last_len {l os : List Cl} {i : Int} (ho : os = Zga (l.take i.toNat)) : os.length ≤ l.length := by
  have := lastA_len (l.take i.toNat); rw [← ho] at this; simp at this; omega
end Go.Gw
namespace Go.Gw
open Go.RowKit
def qX (x h k : Int) : Int := if k % 2 = 1 then x + h else x
def qY (y h k : Int) : Int := if 1 < k then y + h else y
def qC (x y h : Int) (c : Cl) : Bool := decide (x ≤ c.x ∧ c.x < x + h ∧ y ≤ c.y ∧ c.y < y + h)
def hdS (l : List Cl) : Int := if l = [] then 0 else (ix l 0).st
def Zcr : Nat → Int → Int → List Cl → List Nd → List Nd × Int
  | 0, _, _, _, o => (o, 0)
  | v + 1, x, y, l, o =>
    if l = [] then (o, 0) else
    let h := hf ((v : Int) + 1)
    let kid (k : Int) (o : List Nd) : List Nd × Int := if v = 0 then (o, hdS (l.filter (qC (qX x h k) (qY y h k) h))) else Zcr v (qX x h k) (qY y h k) (l.filter (qC (qX x h k) (qY y h k) h)) o
    let r0 := kid 0 o
    let r1 := kid 1 r0.1
    let r2 := kid 2 r1.1
    let r3 := kid 3 r2.1
    (r3.1 ++ [⟨(v : Int) + 1, r0.2, r1.2, r2.2, r3.2⟩], (r3.1.length : Int) + 1)
def kidP (v : Nat) (x y : Int) (l : List Cl) (k : Int) (o : List Nd) : List Nd × Int :=
  let h := hf ((v : Int) + 1)
  if v = 0 then (o, hdS (l.filter (qC (qX x h k) (qY y h k) h))) else Zcr v (qX x h k) (qY y h k) (l.filter (qC (qX x h k) (qY y h k) h)) o
def pst (v : Nat) (x y : Int) (l : List Cl) (o : List Nd) : Nat → List Nd × (Int → Int)
  | 0 => (o, fun _ => 0)
  | k + 1 => ((kidP v x y l k (pst v x y l o k).1).1, fun j => if j = (k : Int) then (kidP v x y l k (pst v x y l o k).1).2 else (pst v x y l o k).2 j)
theorem Zle {v : Nat} {x y : Int} {l : List Cl} {o : List Nd} (h : l ≠ []) :
    Zcr (v + 1) x y l o = ((pst v x y l o 4).1 ++ [⟨(v : Int) + 1, (pst v x y l o 4).2 0, (pst v x y l o 4).2 1, (pst v x y l o 4).2 2, (pst v x y l o 4).2 3⟩], ((pst v x y l o 4).1.length : Int) + 1) := by
  simp only [Zcr, if_neg h, pst, kidP]
  simp
theorem Zlk {v : Nat} {x y : Int} {o : List Nd} : Zcr v x y [] o = (o, 0) := by cases v <;> simp [Zcr]
structure PSt (v : Nat) (x y : Int) (l : List Cl) (o : List Nd) (k : Int) (ok : List Nd) (a b c e : Int) : Prop where
  q : ok = (pst v x y l o k.toNat).1
  a : a = (pst v x y l o k.toNat).2 0
  b : b = (pst v x y l o k.toNat).2 1
  c : c = (pst v x y l o k.toNat).2 2
  e : e = (pst v x y l o k.toNat).2 3
theorem pst_zero (v : Nat) (x y : Int) (l : List Cl) (o : List Nd) : PSt v x y l o 0 o 0 0 0 0 := ⟨rfl, rfl, rfl, rfl, rfl⟩
theorem pst_next {v : Nat} {x y : Int} {l : List Cl} {o ok : List Nd} {k a b c e : Int} (h : PSt v x y l o k ok a b c e) (hk : 0 ≤ k) {on : List Nd} {r : Int} (hr : kidP v x y l k ok = (on, r)) :
    PSt v x y l o (k + 1) on (if k = 0 then r else a) (if k = 1 then r else b) (if k = 2 then r else c) (if k = 3 then r else e) := by
  obtain ⟨h1, h2, h3, h4, h5⟩ := h
  have e1 : (k + 1).toNat = k.toNat + 1 := by omega
  have e2 : ((k.toNat : Nat) : Int) = k := by omega
  subst h1
  refine ⟨?_, ?_, ?_, ?_, ?_⟩ <;> rw [e1] <;> simp only [pst, e2, hr]
  · by_cases q : k = 0
    · rw [if_pos q, if_pos q.symm]
    · rw [if_neg q, if_neg (fun e => q e.symm)]; exact h2
  · by_cases q : k = 1
    · rw [if_pos q, if_pos q.symm]
    · rw [if_neg q, if_neg (fun e => q e.symm)]; exact h3
  · by_cases q : k = 2
    · rw [if_pos q, if_pos q.symm]
    · rw [if_neg q, if_neg (fun e => q e.symm)]; exact h4
  · by_cases q : k = 3
    · rw [if_pos q, if_pos q.symm]
    · rw [if_neg q, if_neg (fun e => q e.symm)]; exact h5
theorem pst_high : ∀ (v : Nat) (x y : Int) (l : List Cl) (o : List Nd) (k : Nat) (j : Int), (k : Int) ≤ j → (pst v x y l o k).2 j = 0
  | v, x, y, l, o, 0, j, _ => rfl
  | v, x, y, l, o, k + 1, j, h => by
    simp only [pst]
    rw [if_neg om]
    exact pst_high v x y l o k j om
theorem pst_same {v : Nat} {x y : Int} {l : List Cl} {o ok : List Nd} {k a b c e : Int} (h : PSt v x y l o k ok a b c e) (hk : 0 ≤ k) (hk4 : k < 4) (hr : kidP v x y l k ok = (ok, 0)) : PSt v x y l o (k + 1) ok a b c e := by
  have h2 := pst_next h hk hr
  obtain ⟨_, ha, hb, hc, he⟩ := h
  have hz := pst_high v x y l o k.toNat
  have : k = 0 ∨ k = 1 ∨ k = 2 ∨ k = 3 := by omega
  rcases this with rfl | rfl | rfl | rfl <;> simp at h2
  · rw [hz 0 om] at ha; subst ha; exact h2
  · rw [hz 1 om] at hb; subst hb; exact h2
  · rw [hz 2 om] at hc; subst hc; exact h2
  · rw [hz 3 om] at he; subst he; exact h2
def PB (v x : Int) : Prop := -(hf 1330) ≤ x ∧ x + 2 * hf v ≤ hf 1330
theorem pb_bd {v x : Int} (h : PB v x) : Bd 43 x := by
  have h1 := Zc0 v
  have h3 : hf 1330 < PW 42 := by decide +kernel
  have h4 : PW 42 < PW 43 := by decide +kernel
  unfold PB at h; unfold Bd; omega
theorem pb_kid {v x : Int} {k : Int} (hv : 2 ≤ v) (h : PB v x) : PB (v - 1) (qX x (hf v) k) := by
  have h1 := Zen hv
  have h2 := Zc0 v
  unfold PB at *; unfold qX
  split <;> omega
theorem pb_kidY {v x : Int} {k : Int} (hv : 2 ≤ v) (h : PB v x) : PB (v - 1) (qY x (hf v) k) := by
  have h1 := Zen hv
  have h2 := Zc0 v
  unfold PB at *; unfold qY
  split <;> omega
theorem kid_leaf {v : Nat} {x y h : Int} {l : List Cl} {k : Int} {o : List Nd} {A B : Int} {ys : List Cl} (hv : v = 0) (hh : h = hf ((v : Int) + 1)) (hA : A = qX x h k) (hB : B = qY y h k) (hy : ys = l.filter (qC A B h)) : kidP v x y l k o = (o, hdS ys) := by
  subst hv hA hB hy hh; rfl
theorem kid_node {v : Nat} {x y h : Int} {l : List Cl} {k : Int} {o : List Nd} {A B : Int} {ys : List Cl} (hv : v ≠ 0) (hh : h = hf ((v : Int) + 1)) (hA : A = qX x h k) (hB : B = qY y h k) (hy : ys = l.filter (qC A B h)) : kidP v x y l k o = Zcr v A B ys o := by
  subst hA hB hy hh; unfold kidP; simp only [if_neg hv]
theorem qf_yes {l ys : List Cl} {i x y h : Int} (h0 : 0 ≤ i) (h1 : i < l.length) (e : ys = (l.take i.toNat).filter (qC x y h)) (a : x ≤ (ix l i).x) (b : (ix l i).x < x + h) (c : y ≤ (ix l i).y) (d : (ix l i).y < y + h) : ys ++ [ix l i] = (l.take (i + 1).toNat).filter (qC x y h) := by
  rw [Zfu h0 h1, List.filter_append, e]; simp [qC, a, b, c, d]
theorem qf_no {l ys : List Cl} {i x y h : Int} (h0 : 0 ≤ i) (h1 : i < l.length) (e : ys = (l.take i.toNat).filter (qC x y h)) (a : ¬ (x ≤ (ix l i).x ∧ (ix l i).x < x + h ∧ y ≤ (ix l i).y ∧ (ix l i).y < y + h)) : ys = (l.take (i + 1).toNat).filter (qC x y h) := by
  rw [Zfu h0 h1, List.filter_append, e]; simp [qC, a]
theorem qf_len {l ys : List Cl} {i x y h : Int} (e : ys = (l.take i.toNat).filter (qC x y h)) : ys.length ≤ l.length := by
  rw [e]; have := List.length_filter_le (qC x y h) (l.take i.toNat); simp at this ⊢; omega
theorem cbd_filter {l ys : List Cl} {p : Cl → Bool} {i : Int} (h : CBd l) (e : ys = (l.take i.toNat).filter p) : CBd ys := fun c hc => h c (List.mem_of_mem_take (List.mem_filter.1 (e ▸ hc)).1)
section
variable {α : Type} {K : Kd α} {U n0 : Nat} {w w' : World} {v v' s : Value} {xs : List α}
theorem Sl.frmL (h : Sl K w (fun k => v.ownBlock = some k) s xs) (hF : Frm (fun _ => False) w v w' v') : Sl K w' (Loc (fun k => v.ownBlock = some k) w) s xs := h.loc.keep fun i hi hn => (hF.2 i hi (fun h => h) (fun e => hn (.inl e))).1
theorem Sl.ggFrm {β : Type} {L : Kd β} {e base : Nat} {os : List β} {ys : List Int} (h : Sl Kd.u32 w (G U n0 w) s ys) (hF : Frm (fun _ => False) w v w' v') (hO : Gw.Own L e base w (fun _ => False) v os) (ht : e ≠ U) (hn : n0 ≤ base) : Sl Kd.u32 w' (G U n0 w') s ys :=
  h.gkeep (fun k hk hG => (hF.2 k hk (fun h => h) (fun e => hG (hO.isG e ht hn))).1) Zd6
theorem Frm.rowO {X : Nat → Prop} {w0 : World} {v0 u : Value} (h : Frm X w0 v0 w v) (k : w.grownBy w' u.ownBlock) (hu : ∀ g, u.ownBlock = some g → w0.heap.size ≤ g) : Frm X w0 v0 w' v :=
  ⟨Nat.le_trans h.1 k.size, fun g a b c => ⟨(k.block g (Nat.lt_of_lt_of_le a h.1) (fun e => by have := hu g e.symm; omega)).trans (h.2 g a b c).1, (h.2 g a b c).2⟩⟩
end
theorem Zbj {a b : Int} : 0 ≤ Zbt a b ↔ b ≤ a := by unfold Zbt; split <;> (try split) <;> omega
theorem Zb7 {a b : Int} : Zbt a b < 0 ↔ a < b := by unfold Zbt; split <;> (try split) <;> omega
def inC (c : Cl) (v : Int) : Bool := decide (-(hf v) ≤ c.x ∧ c.x < hf v ∧ -(hf v) ≤ c.y ∧ c.y < hf v)
def qn (x y h : Int) (l : List Cl) (k : Int) : Nat := (l.filter (qC (qX x h k) (qY y h k) h)).length
theorem q4 (x y h : Int) (hh : 0 < h) (l : List Cl) : qn x y h l 0 + qn x y h l 1 + qn x y h l 2 + qn x y h l 3 ≤ l.length := by
  induction l with
  | nil => simp [qn]
  | cons c r ih =>
    have e : ∀ k, qn x y h (c :: r) k = qn x y h r k + if qC (qX x h k) (qY y h k) h c = true then 1 else 0 := by
      intro k; unfold qn; rw [List.filter_cons]; split <;> simp
    rw [e 0, e 1, e 2, e 3, List.length_cons]
    have one : (if qC (qX x h 0) (qY y h 0) h c = true then 1 else 0) + (if qC (qX x h 1) (qY y h 1) h c = true then 1 else 0) + (if qC (qX x h 2) (qY y h 2) h c = true then 1 else 0) + (if qC (qX x h 3) (qY y h 3) h c = true then 1 else 0) ≤ 1 := by
      rw [show qX x h 0 = x from rfl, show qY y h 0 = y from rfl, show qX x h 1 = x + h from rfl, show qY y h 1 = y from rfl, show qX x h 2 = x from rfl, show qY y h 2 = y + h from rfl, show qX x h 3 = x + h from rfl, show qY y h 3 = y + h from rfl]
      simp only [qC, decide_eq_true_eq]
      split <;> split <;> split <;> split <;> omega
    omega
theorem qn_sum {x y h : Int} (hh : 0 < h) (l : List Cl) {k : Nat} (hk : k < 4) : (((List.range k).map fun j : Nat => qn x y h l j).sum) + qn x y h l k ≤ l.length := by
  have := q4 x y h hh l
  have : k = 0 ∨ k = 1 ∨ k = 2 ∨ k = 3 := by omega
  rcases this with rfl | rfl | rfl | rfl <;> simp [List.range_succ] <;> omega
theorem qn_sum4 {x y h : Int} (hh : 0 < h) (l : List Cl) {k : Nat} (hk : k ≤ 4) : (((List.range k).map fun j : Nat => qn x y h l j).sum) ≤ l.length := by
  have := q4 x y h hh l
  have : k = 0 ∨ k = 1 ∨ k = 2 ∨ k = 3 ∨ k = 4 := by omega
  rcases this with rfl | rfl | rfl | rfl | rfl <;> simp [List.range_succ] <;> omega
theorem Zkw {v : Nat} (ih : ∀ (x y : Int) (l : List Cl) (o : List Nd), (Zcr v x y l o).1.length ≤ o.length + v * l.length) (x y : Int) (l : List Cl) (o : List Nd) : ∀ k : Nat, (pst v x y l o k).1.length ≤ o.length + v * (((List.range k).map fun j : Nat => qn x y (hf ((v : Int) + 1)) l j).sum)
  | 0 => by simp [pst]
  | k + 1 => by
    have h := Zkw ih x y l o k
    simp only [pst]
    rw [List.range_succ, List.map_append, List.sum_append, Nat.mul_add]
    simp only [List.map_cons, List.map_nil, List.sum_cons, List.sum_nil, Nat.add_zero]
    unfold kidP
    simp only
    split
    · rename_i hv; subst hv; simp only; omega
    · have h2 := ih (qX x (hf ((v : Int) + 1)) k) (qY y (hf ((v : Int) + 1)) k) (l.filter (qC (qX x (hf ((v : Int) + 1)) k) (qY y (hf ((v : Int) + 1)) k) (hf ((v : Int) + 1)))) (pst v x y l o k).1
      unfold qn
      unfold qn at h
      omega
theorem Zh3 : ∀ (v : Nat) (x y : Int) (l : List Cl) (o : List Nd), (Zcr v x y l o).1.length ≤ o.length + v * l.length
  | 0, x, y, l, o => by simp [Zcr]
  | v + 1, x, y, l, o => by
    by_cases hl : l = []
    · subst hl; rw [Zlk]; simp
    · rw [Zle hl]
      have h1 := Zkw (Zh3 v) x y l o 4
      have h2 := qn_sum4 (x := x) (y := y) (Zc0 ((v : Int) + 1)) l (k := 4) (Nat.le_refl _)
      have h3 := Nat.mul_le_mul_left v h2
      have h4 : 0 < l.length := List.length_pos_iff.2 hl
      simp only [List.length_append, List.length_singleton]
      rw [Nat.add_mul]
      omega
theorem pst_len {v : Nat} {x y : Int} {l : List Cl} {o ok : List Nd} {k a b c e : Int} (h : PSt v x y l o k ok a b c e) (h0 : 0 ≤ k) (h1 : k ≤ 4) : ok.length ≤ o.length + v * l.length := by
  have h2 := Zkw (Zh3 v) x y l o k.toNat
  rw [← h.q] at h2
  have h3 := Nat.mul_le_mul_left v (qn_sum4 (x := x) (y := y) (Zc0 ((v : Int) + 1)) l (k := k.toNat) om)
  omega
theorem pst_room {v : Nat} {x y A B h : Int} {l ys : List Cl} {o ok : List Nd} {k a b c e : Int} (hs : PSt v x y l o k ok a b c e) (h0 : 0 ≤ k) (h1 : k < 4) (hh : h = hf ((v : Int) + 1)) (hA : A = qX x h k) (hB : B = qY y h k) (hy : ys = l.filter (qC A B h)) : ok.length + v * ys.length ≤ o.length + v * l.length := by
  have h2 := Zkw (Zh3 v) x y l o k.toNat
  rw [← hs.q] at h2
  have h3 := Nat.mul_le_mul_left v (qn_sum (x := x) (y := y) (Zc0 ((v : Int) + 1)) l (k := k.toNat) om)
  have e : qn x y (hf ((v : Int) + 1)) l ((k.toNat : Nat) : Int) = ys.length := by
    rw [show ((k.toNat : Nat) : Int) = k by omega, hy, hA, hB, hh]; rfl
  rw [e, Nat.mul_add] at h3
  omega
end Go.Gw
namespace Go.Gw
open Go.RowKit
structure NumIn (p : List Nd) (c v : Int) : Prop where
  r : 0 ≤ c ∧ c ≤ p.length
  lv : c ≠ 0 → (ix p (c - 1)).lv = v
theorem NumIn.pre {o p : List Nd} {c v : Int} (h : NumIn o c v) (k : o <+: p) : NumIn p c v := ⟨⟨h.r.1, by have := k.length_le; have := h.r; omega⟩, fun hc => by rw [Zdc k _ (by have := h.r; omega) (by have := h.r; omega)]; exact h.lv hc⟩
theorem NumIn.zero (p : List Nd) (v : Int) : NumIn p 0 v := ⟨⟨Int.le_refl _, by omega⟩, fun h => absurd rfl h⟩
theorem tr_snoc {p : List Nd} {x : Nd} (hp : Zaf p = true) (hq : Zaf (p ++ [x]) = true) : tr (p ++ [x]) ((p.length : Int) + 1) = if x.lv = 1 then .leaf x.k0 x.k1 x.k2 x.k3 else .nd x.lv (tr (p ++ [x]) x.k0) (tr (p ++ [x]) x.k1) (tr (p ++ [x]) x.k2) (tr (p ++ [x]) x.k3) := by
  have e : ix (p ++ [x]) ((p.length : Int) + 1 - 1) = x := by
    rw [show (p.length : Int) + 1 - 1 = p.length by omega]
    unfold ix; simp [List.getD_eq_getElem?_getD]
  rw [tr_at hq om (by simp), e]
theorem Zjb {p : List Nd} {v a b c d : Int} (hp : Zaf p = true) (hv : 2 ≤ v ∧ v ≤ 1329) (ha : NumIn p a (v - 1)) (hb : NumIn p b (v - 1)) (hc : NumIn p c (v - 1)) (hd : NumIn p d (v - 1)) :
    Zaf (p ++ [⟨v, a, b, c, d⟩]) = true ∧ tr (p ++ [⟨v, a, b, c, d⟩]) ((p.length : Int) + 1) = .nd v (tr p a) (tr p b) (tr p c) (tr p d) := by
  have q : ∀ {c : Int}, NumIn p c (v - 1) → c = 0 ∨ (v = 1 ∧ 0 < c ∧ c ≤ 255) ∨ (v ≠ 1 ∧ 0 < c ∧ c ≤ p.length ∧ (ix p (c - 1)).lv = v - 1) := fun {c} h => by
    by_cases e : c = 0
    · exact .inl e
    · exact .inr (.inr ⟨by omega, by have := h.r; omega, h.r.2, h.lv e⟩)
  have h1 : Zaf (p ++ [⟨v, a, b, c, d⟩]) = true := Zil hp (by show 1 ≤ v ∧ v ≤ 1329; omega) fun k k0 k1 => by
    have : k = 0 ∨ k = 1 ∨ k = 2 ∨ k = 3 := by omega
    rcases this with rfl | rfl | rfl | rfl
    · exact q ha
    · exact q hb
    · exact q hc
    · exact q hd
  refine ⟨h1, ?_⟩
  rw [tr_snoc hp h1, if_neg (show ¬ v = 1 by omega), Zg1 hp h1 (List.prefix_append _ _) a ha.r.1 ha.r.2, Zg1 hp h1 (List.prefix_append _ _) b hb.r.1 hb.r.2, Zg1 hp h1 (List.prefix_append _ _) c hc.r.1 hc.r.2, Zg1 hp h1 (List.prefix_append _ _) d hd.r.1 hd.r.2]
theorem Zlp {p : List Nd} {a b c d : Int} (hp : Zaf p = true) (ha : 0 ≤ a ∧ a ≤ 255) (hb : 0 ≤ b ∧ b ≤ 255) (hc : 0 ≤ c ∧ c ≤ 255) (hd : 0 ≤ d ∧ d ≤ 255) :
    Zaf (p ++ [⟨1, a, b, c, d⟩]) = true ∧ tr (p ++ [⟨1, a, b, c, d⟩]) ((p.length : Int) + 1) = .leaf a b c d := by
  have q : ∀ {c : Int}, 0 ≤ c ∧ c ≤ 255 → c = 0 ∨ ((1 : Int) = 1 ∧ 0 < c ∧ c ≤ 255) ∨ ((1 : Int) ≠ 1 ∧ 0 < c ∧ c ≤ p.length ∧ (ix p (c - 1)).lv = 1 - 1) := fun {c} h => by
    by_cases e : c = 0
    · exact .inl e
    · exact .inr (.inl ⟨rfl, by omega, h.2⟩)
  have h1 : Zaf (p ++ [⟨1, a, b, c, d⟩]) = true := Zil hp (by show (1 : Int) ≤ 1 ∧ (1 : Int) ≤ 1329; omega) fun k k0 k1 => by
    have : k = 0 ∨ k = 1 ∨ k = 2 ∨ k = 3 := by omega
    rcases this with rfl | rfl | rfl | rfl
    · exact q ha
    · exact q hb
    · exact q hc
    · exact q hd
  exact ⟨h1, by rw [tr_snoc hp h1]; rfl⟩
theorem Zho (p : List Nd) (x : Nd) : NumIn (p ++ [x]) ((p.length : Int) + 1) x.lv := ⟨by simp; omega, fun _ => by
  rw [show (p.length : Int) + 1 - 1 = p.length by omega]
  unfold ix; simp [List.getD_eq_getElem?_getD]⟩
def isAt (X Y : Int) (c : Cl) : Bool := decide (c.x = X ∧ c.y = Y)
def stA (l : List Cl) (X Y : Int) : Int := hdS (l.filter (isAt X Y))
theorem Zdx (c : Cl) (l : List Cl) (X Y : Int) : stA (c :: l) X Y = if c.x = X ∧ c.y = Y then c.st else stA l X Y := by
  unfold stA isAt
  rw [List.filter_cons]
  by_cases h : c.x = X ∧ c.y = Y
  · rw [if_pos h, if_pos (by simpa using h)]; rfl
  · rw [if_neg h, if_neg (by simpa using h)]
theorem stA_filter {l : List Cl} {p : Cl → Bool} {X Y : Int} (h : ∀ c : Cl, c.x = X → c.y = Y → p c = true) : stA (l.filter p) X Y = stA l X Y := by
  induction l with
  | nil => rfl
  | cons c r ih =>
    rw [List.filter_cons, Zdx]
    by_cases hp : p c = true
    · rw [if_pos hp, Zdx, ih]
    · rw [if_neg hp, ih, if_neg (fun e => hp (h c e.1 e.2))]
theorem hdS_qC (l : List Cl) (x y : Int) : hdS (l.filter (qC x y 1)) = stA l x y := by
  unfold stA
  congr 2
  funext c
  unfold qC isAt
  exact decide_eq_decide.2 om
def StB (l : List Cl) : Prop := ∀ c ∈ l, 0 ≤ c.st ∧ c.st ≤ 255
theorem hdS_rng {l : List Cl} (h : StB l) : 0 ≤ hdS l ∧ hdS l ≤ 255 := by
  unfold hdS
  split
  · omega
  · rename_i hn
    obtain ⟨c, r, rfl⟩ := List.exists_cons_of_ne_nil hn
    exact h c (by simp)
theorem StB.filter {l : List Cl} (h : StB l) (p : Cl → Bool) : StB (l.filter p) := fun c hc => h c (List.mem_filter.1 hc).1
theorem stA_rng {l : List Cl} (h : StB l) (X Y : Int) : 0 ≤ stA l X Y ∧ stA l X Y ≤ 255 := hdS_rng (h.filter _)
structure Laid (v : Nat) (x y : Int) (l : List Cl) (o : List Nd) (r : List Nd × Int) : Prop where
  pre : o <+: r.1
  ok : Zaf r.1 = true
  num : NumIn r.1 r.2 v
  cel : ∀ X Y : Int, (0 ≤ X ∧ X < 2 * hf v) → (0 ≤ Y ∧ Y < 2 * hf v) → cat (tr r.1 r.2) X Y = stA l (x + X) (y + Y)
theorem Zkn {v : Nat} (hv : 1 ≤ v) (ih : ∀ {x y : Int} {l : List Cl} {o : List Nd}, StB l → Zaf o = true → Laid v x y l o (Zcr v x y l o)) {x y k : Int} {l : List Cl} {o : List Nd} (hs : StB l) (ho : Zaf o = true) :
    let h := hf ((v : Int) + 1); let r := kidP v x y l k o
    o <+: r.1 ∧ Zaf r.1 = true ∧ NumIn r.1 r.2 v ∧ ∀ X Y : Int, (0 ≤ X ∧ X < h) → (0 ≤ Y ∧ Y < h) → cat (tr r.1 r.2) X Y = stA l (qX x h k + X) (qY y h k + Y) := by
  intro h r
  have e : r = Zcr v (qX x h k) (qY y h k) (l.filter (qC (qX x h k) (qY y h k) h)) o := by show kidP v x y l k o = _; unfold kidP; rw [if_neg om]
  have q := ih (x := qX x h k) (y := qY y h k) (o := o) (hs.filter (qC (qX x h k) (qY y h k) h)) ho
  rw [← e] at q
  have h2 : 2 * hf v = h := by show _ = hf ((v : Int) + 1); rw [← Zen (v := (v : Int) + 1) om]; congr 2; omega
  refine ⟨q.pre, q.ok, q.num, fun X Y hX hY => ?_⟩
  rw [q.cel X Y om om]
  exact stA_filter fun c h3 h4 => by unfold qC; rw [decide_eq_true_eq]; omega
theorem Zmu : ∀ (v : Nat) {x y : Int} {l : List Cl} {o : List Nd}, 1 ≤ v → v ≤ 1329 → StB l → Zaf o = true → Laid v x y l o (Zcr v x y l o)
  | 0, _, _, _, _, h, _, _, _ => by omega
  | v + 1, x, y, l, o, _, hv, hs, ho => by
    by_cases hl : l = []
    · subst hl
      rw [Zlk]
      exact ⟨List.prefix_refl _, ho, NumIn.zero _ _, fun X Y _ _ => by rw [Zc8]; rfl⟩
    · rw [Zle hl]
      simp only [pst]
      by_cases h0 : v = 0
      · subst h0
        have K : ∀ (k : Int) (o : List Nd), kidP 0 x y l k o = (o, stA l (qX x 1 k) (qY y 1 k)) := fun k o => by
          unfold kidP; simp only [if_true]
          rw [show hf (((0 : Nat) : Int) + 1) = 1 from rfl, hdS_qC]
        simp only [K]
        simp only [show qX x 1 ((0 : Nat) : Int) = x from rfl, show qY y 1 ((0 : Nat) : Int) = y from rfl, show qX x 1 ((1 : Nat) : Int) = x + 1 from rfl, show qY y 1 ((1 : Nat) : Int) = y from rfl, show qX x 1 ((2 : Nat) : Int) = x from rfl, show qY y 1 ((2 : Nat) : Int) = y + 1 from rfl, show qX x 1 ((3 : Nat) : Int) = x + 1 from rfl, show qY y 1 ((3 : Nat) : Int) = y + 1 from rfl]
        simp
        obtain ⟨l1, l2⟩ := Zlp ho (stA_rng hs x y) (stA_rng hs (x + 1) y) (stA_rng hs x (y + 1)) (stA_rng hs (x + 1) (y + 1))
        refine ⟨List.prefix_append _ _, l1, Zho _ _, fun X Y hX hY => ?_⟩
        rw [show ((0 + 1 : Nat) : Int) = 1 from rfl, Zhm] at hX hY
        show cat (tr _ _) X Y = _
        rw [l2]
        have q1 : X = 0 ∨ X = 1 := by omega
        have q2 : Y = 0 ∨ Y = 1 := by omega
        rcases q1 with rfl | rfl <;> rcases q2 with rfl | rfl <;> simp [cat]
      · have h1 : 1 ≤ v := by omega
        have ih := fun {x y : Int} {l : List Cl} {o : List Nd} (a : StB l) (b : Zaf o = true) => Zmu v (x := x) (y := y) h1 om a b
        obtain ⟨p0, k0, n0, c0⟩ := Zkn h1 ih (x := x) (y := y) (k := ((0 : Nat) : Int)) hs ho
        obtain ⟨p1, k1, n1, c1⟩ := Zkn h1 ih (x := x) (y := y) (k := ((1 : Nat) : Int)) hs k0
        obtain ⟨p2, k2, n2, c2⟩ := Zkn h1 ih (x := x) (y := y) (k := ((2 : Nat) : Int)) hs k1
        obtain ⟨p3, k3, n3, c3⟩ := Zkn h1 ih (x := x) (y := y) (k := ((3 : Nat) : Int)) hs k2
        revert p0 k0 n0 c0 p1 k1 n1 c1 p2 k2 n2 c2 p3 k3 n3 c3
        generalize kidP v x y l ((0 : Nat) : Int) o = r0
        generalize kidP v x y l ((1 : Nat) : Int) r0.1 = r1
        generalize kidP v x y l ((2 : Nat) : Int) r1.1 = r2
        generalize kidP v x y l ((3 : Nat) : Int) r2.1 = r3
        intro p0 k0 n0 c0 p1 k1 n1 c1 p2 k2 n2 c2 p3 k3 n3 c3
        simp
        have m0 := n0.pre (p1.trans (p2.trans p3)); have m1 := n1.pre (p2.trans p3); have m2 := n2.pre p3
        have ev : ((v : Int) + 1 - 1) = v := by omega
        obtain ⟨l1, l2⟩ := Zjb (p := r3.1) (v := (v : Int) + 1) k3 om (ev ▸ m0) (ev ▸ m1) (ev ▸ m2) (ev ▸ n3)
        refine ⟨p0.trans (p1.trans (p2.trans (p3.trans (List.prefix_append _ _)))), l1, Zho _ _, fun X Y hX hY => ?_⟩
        show cat (tr _ _) X Y = _
        have hX : 0 ≤ X ∧ X < 2 * hf ((v : Int) + 1) := hX
        have hY : 0 ≤ Y ∧ Y < 2 * hf ((v : Int) + 1) := hY
        rw [l2, Zg1 k0 k3 (p1.trans (p2.trans p3)) _ n0.r.1 n0.r.2, Zg1 k1 k3 (p2.trans p3) _ n1.r.1 n1.r.2, Zg1 k2 k3 p3 _ n2.r.1 n2.r.2]
        have z : ∀ j h : Int, qX x h j = if j % 2 = 1 then x + h else x := fun _ _ => rfl
        have z2 : ∀ j h : Int, qY y h j = if 1 < j then y + h else y := fun _ _ => rfl
        rw [z, z2] at c0 c1 c2 c3
        simp at c0 c1 c2 c3
        by_cases hx : X < hf ((v : Int) + 1)
        · by_cases hy : Y < hf ((v : Int) + 1)
          · rw [cat_a hx hy, c0 X Y hX.1 hx hY.1 hy]
          · rw [cat_c hx om, c2 X _ hX.1 hx om om]; congr 1; omega
        · by_cases hy : Y < hf ((v : Int) + 1)
          · rw [cat_b om hy, c1 _ Y om om hY.1 hy]; congr 1; omega
          · rw [cat_d om om, c3 _ _ om om om om]; congr 1 <;> omega
end Go.Gw
namespace Go.Gw
open Go.RowKit
def upL (c : Cl) : Nat → Int → Int
  | 0, v => v
  | n + 1, v => if v ≤ 1329 ∧ inC c v = false then upL c n (v + 1) else v
def Zbz (l : List Cl) : Int := l.foldl (fun v c => upL c 1331 v) 1
theorem upL_eq {c : Cl} : ∀ (n : Nat) {u v : Int}, u ≤ v → v ≤ u + n → (∀ j : Int, u ≤ j → j < v → j ≤ 1329 ∧ inC c j = false) → ¬ (v ≤ 1329 ∧ inC c v = false) → upL c n u = v
  | 0, u, v, h1, h2, _, _ => by unfold upL; omega
  | n + 1, u, v, h1, h2, hb, hs => by
    unfold upL
    by_cases e : u = v
    · subst e; rw [if_neg hs]
    · rw [if_pos (hb u (Int.le_refl _) om)]
      exact upL_eq n om om (fun j j0 j1 => hb j om j1) hs
theorem levelC_snoc (l : List Cl) (c : Cl) : Zbz (l ++ [c]) = upL c 1331 (Zbz l) := by unfold Zbz; rw [List.foldl_append]; rfl
theorem Zl8 {l : List Cl} {i u v : Int} (h0 : 0 ≤ i) (h1 : i < l.length) (h : u = Zbz (l.take i.toNat)) (hu : 1 ≤ u ∧ u ≤ 1330) (hv : u ≤ v ∧ v ≤ 1330) (hb : ∀ j : Int, u ≤ j → j < v → j ≤ 1329 ∧ inC (ix l i) j = false) (hs : ¬ (v ≤ 1329 ∧ inC (ix l i) v = false)) : v = Zbz (l.take (i + 1).toNat) := by
  rw [Zfu h0 h1, levelC_snoc, ← h, upL_eq 1331 hv.1 om hb hs]
def Za8 (c : RCl) : Cl := ⟨sg c.xn (nv c.xs), sg c.yn (nv c.ys), c.st⟩
def Zfj (c : RCl) : Bool := bigR c.xn c.xs && bigR c.yn c.ys
theorem Zkm {ng : Bool} {xs : List Int} (hx : Lim xs) (h : bigR ng xs = true) : ng = decide (sg ng (nv xs) < 0) ∧ xs = ml (sg ng (nv xs)) := by
  obtain ⟨n, h1, h2⟩ := bigR_out hx h
  have e : sg ng (nv xs) = n := by
    rw [h2, Zc7, h1]; unfold sg
    by_cases h : n < 0
    · simp [h]; omega
    · simp [h]; omega
  rw [e]; exact ⟨h1, h2⟩
theorem rcl_right {c : RCl} (hx : Lim c.xs) (hy : Lim c.ys) (h : Zfj c = true) : rcl (Za8 c) = c := by
  unfold Zfj at h
  rw [Bool.and_eq_true] at h
  obtain ⟨a1, a2⟩ := Zkm hx h.1
  obtain ⟨b1, b2⟩ := Zkm hy h.2
  obtain ⟨xn, xs, yn, ys, st⟩ := c
  exact congr (congr (congr (congr (congrArg RCl.mk a1.symm) a2.symm) b1.symm) b2.symm) rfl
theorem rcell_lim {U n0 : Nat} {w : World} {F : Nat → Prop} {va : Value} {l : List RCl} (h : Sl (Kd.rcell U n0) w F va l) : ∀ c ∈ l, Lim c.xs ∧ Lim c.ys := by
  intro c hc
  obtain ⟨i, hi, rfl⟩ := List.getElem_of_mem hc
  obtain ⟨A, m, e, h1, h2, h3⟩ := h
  obtain ⟨g, o, us, _, _, _, ⟨a, b, _, ha, hb, _⟩, _⟩ := h3 i _ (List.getElem?_eq_getElem hi)
  exact ⟨Zay ha, Zay hb⟩
theorem cells_right {U n0 : Nat} {w : World} {F : Nat → Prop} {va : Value} {l : List RCl} (h : Sl (Kd.rcell U n0) w F va l) (hr : ∀ c ∈ l, Zfj c = true) : Sl (Kd.cell U n0) w F va (l.map Za8) := by
  refine cells_of ?_
  rw [List.map_map, show l.map (rcl ∘ Za8) = l from ?_]
  · exact h
  · have hl := rcell_lim h
    conv => rhs; rw [← List.map_id l]
    exact List.map_congr_left fun c hc => rcl_right (hl c hc).1 (hl c hc).2 (hr c hc)
def Zd2 (cs : List Cl) : List Nd × Int :=
  if 1329 < Zbz (Zbc cs) then ([], 4)
  else ofL (Zcr (Zbz (Zbc cs)).toNat (-(hf (Zbz (Zbc cs)))) (-(hf (Zbz (Zbc cs)))) (Zbc cs) []).1 (Zcr (Zbz (Zbc cs)).toNat (-(hf (Zbz (Zbc cs)))) (-(hf (Zbz (Zbc cs)))) (Zbc cs) []).2
def ofR (l : List RCl) : List Nd × Int := if l.all Zfj then Zd2 (l.map Za8) else ([], 1)
theorem frm_nil {n : Nat} {a w w' : World} {v : Value} (h : Frm (fun _ => False) w (.slice Option.none 0 0) w' v) (hb : Below n a w) (hb' : Below n a w') : w.grownBy w' Option.none :=
  ⟨hb'.os.trans hb.os.symm, hb'.tape.trans hb.tape.symm, hb'.output.trans hb.output.symm, h.1, fun k hk _ => (h.2 k hk (fun h => h) (by simp [Value.ownBlock])).1⟩
theorem all_right {l : List RCl} {i : Int} (hi : i = l.length) (h : ∀ j : Int, 0 ≤ j → j < i → Zfj (ix l j) = true) : ∀ c ∈ l, Zfj c = true := by
  intro c hc
  obtain ⟨j, hj, rfl⟩ := List.getElem_of_mem hc
  have := h j om om
  unfold ix at this
  rw [List.getD_eq_getElem?_getD, Int.toNat_natCast, List.getElem?_eq_getElem hj] at this
  exact this
theorem pb_corner {v : Int} (h : 1 ≤ v ∧ v ≤ 1329) : PB v (-(hf v)) := by
  have h1 := hf_le h.2
  have h2 := Zc0 v
  have h3 := Zen (v := 1330) dc
  rw [show (1330 : Int) - 1 = 1329 by decide] at h3
  have h4 := Zc0 1329
  unfold PB; omega
theorem ix_memR {l : List RCl} {i : Int} (h0 : 0 ≤ i) (h1 : i < l.length) : ix l i ∈ l := by
  unfold ix
  rw [List.getD_eq_getElem?_getD, List.getElem?_eq_getElem om]
  exact List.getElem_mem _
theorem Sl.nil0 {α : Type} {K : Kd α} {w : World} {F : Nat → Prop} : Sl K w F (.slice Option.none 0 0) [] := ⟨Option.none, 0, rfl, by simp, by simp [maxLen], fun i x hx => by simp at hx⟩
end Go.Gw
namespace Go.Gw
open Go.RowKit
def Zig (c : RCl) : Bool := decide (50 < (c.xs.length : Int)) || decide (50 < (c.ys.length : Int))
def Zf7 (l : List RCl) (m : Int) : Bool := decide (m < (l.length : Int)) || l.any Zig
def Zbp (l : List RCl) (m : Int) : List Nd × Bool := if Zf7 l m then ([], false) else ((ofR l).1, decide ((ofR l).2 = 0))
theorem great_yes {l : List RCl} {m i : Int} (h0 : 0 ≤ i) (h1 : i < l.length) (h : Zig (ix l i) = true) : Zf7 l m = true := by
  unfold Zf7; rw [List.any_eq_true.2 ⟨_, ix_memR h0 h1, h⟩, Bool.or_true]
theorem great_none {l : List RCl} {m i : Int} (hm : ¬ m < (l.length : Int)) (hi : i = l.length) (h : ∀ j : Int, 0 ≤ j → j < i → Zig (ix l j) = false) : Zf7 l m = false := by
  unfold Zf7
  rw [decide_eq_false hm, Bool.false_or, List.any_eq_false]
  intro c hc
  obtain ⟨j, hj, rfl⟩ := List.getElem_of_mem hc
  have := h j om om
  unfold ix at this
  rw [List.getD_eq_getElem?_getD, Int.toNat_natCast, List.getElem?_eq_getElem hj] at this
  simpa using this
theorem sg_bd {xs : List Int} (hx : Lim xs) (hl : (xs.length : Int) ≤ 50) (ng : Bool) : Bd 50 (sg ng (nv xs)) := by
  have h1 := Zj2 hx
  have h2 := PW_le (show xs.length ≤ 50 by omega)
  have h3 : 0 ≤ nv xs := Zap hx
  unfold Bd sg; split <;> omega
theorem great_out {U n0 : Nat} {w : World} {F : Nat → Prop} {va : Value} {l : List RCl} {m : Int} (hl : Sl (Kd.rcell U n0) w F va l) (h : Zf7 l m = false) : (l.length : Int) ≤ m ∧ CBd (l.map Za8) := by
  unfold Zf7 at h
  rw [Bool.or_eq_false_iff] at h
  refine ⟨by have := of_decide_eq_false h.1; omega, fun c hc => ?_⟩
  obtain ⟨r, hr, rfl⟩ := List.mem_map.1 hc
  have hg := List.any_eq_false.1 h.2 r hr
  have hlim := rcell_lim hl r hr
  unfold Zig at hg
  simp at hg
  exact ⟨sg_bd hlim.1 om _, sg_bd hlim.2 om _⟩
end Go.Gw
namespace Go.Gw
open Go.RowKit
def lexLt (a b : Cl) : Prop := a.y < b.y ∨ (a.y = b.y ∧ a.x < b.x)
theorem ord_lt {a b : Cl} : Zgq a b < 0 ↔ lexLt a b := by
  unfold Zgq lexLt Zbt
  by_cases h1 : a.y < b.y
  · simp [h1]
  · by_cases h2 : b.y < a.y
    · simp [h1, h2]; omega
    · by_cases h3 : a.x < b.x
      · simp [h1, h2, h3]; omega
      · by_cases h4 : b.x < a.x <;> simp [h1, h2, h3, h4]
theorem ord_eq {a b : Cl} : Zgq a b = 0 ↔ a.x = b.x ∧ a.y = b.y := by
  unfold Zgq Zbt
  by_cases h1 : a.y < b.y
  · simp [h1]; omega
  · by_cases h2 : b.y < a.y
    · simp [h1, h2]; omega
    · by_cases h3 : a.x < b.x
      · simp [h1, h2, h3]; omega
      · by_cases h4 : b.x < a.x <;> simp [h1, h2, h3, h4] <;> omega
def Srt (l : List Cl) : Prop := l.Pairwise lexLt
theorem insC_srt : ∀ {os : List Cl} {c : Cl}, Srt os → Srt (Zet os c)
  | [], c, _ => List.pairwise_singleton _ _
  | a :: r, c, h => by
    obtain ⟨h1, h2⟩ := List.pairwise_cons.1 h
    unfold Zet
    split
    · rename_i hc
      refine List.pairwise_cons.2 ⟨fun b hb => ?_, insC_srt h2⟩
      rcases insC_mem hb with rfl | hb
      · exact ord_lt.1 hc
      · exact h1 b hb
    · rename_i hc
      have hc : ¬ lexLt a c := fun q => hc (ord_lt.2 q)
      split
      · rename_i he
        have he := ord_eq.1 he
        refine List.pairwise_cons.2 ⟨fun b hb => ?_, h2⟩
        have := h1 b hb
        unfold lexLt at *; omega
      · rename_i he
        have he : ¬ (a.x = c.x ∧ a.y = c.y) := fun q => he (ord_eq.2 q)
        refine List.pairwise_cons.2 ⟨fun b hb => ?_, h⟩
        rcases List.mem_cons.1 hb with rfl | hb
        · unfold lexLt at *; omega
        · have := h1 b hb
          unfold lexLt at *; omega
theorem insC_st : ∀ (os : List Cl) (c : Cl) (X Y : Int), stA (Zet os c) X Y = if c.x = X ∧ c.y = Y then c.st else stA os X Y
  | [], c, X, Y => by unfold Zet; rw [Zdx]
  | a :: r, c, X, Y => by
    unfold Zet
    split
    · rename_i hc
      have hc := ord_lt.1 hc
      rw [Zdx, insC_st r c X Y, Zdx]
      by_cases h1 : a.x = X ∧ a.y = Y
      · rw [if_pos h1, if_neg (show ¬ (c.x = X ∧ c.y = Y) by unfold lexLt at hc; omega), if_pos h1]
      · rw [if_neg h1, if_neg h1]
    · split
      · rename_i he
        have he := ord_eq.1 he
        rw [Zdx, Zdx]
        by_cases h1 : c.x = X ∧ c.y = Y
        · rw [if_pos h1, if_pos h1]
        · rw [if_neg h1, if_neg h1, if_neg (show ¬ (a.x = X ∧ a.y = Y) by omega)]
      · rw [Zdx]
def stL (l : List Cl) (X Y : Int) : Int := l.foldl (fun s c => if c.x = X ∧ c.y = Y then c.st else s) 0
theorem lastA_sem (l : List Cl) : Srt (Zga l) ∧ ∀ X Y : Int, stA (Zga l) X Y = stL l X Y := by
  have : ∀ (l os : List Cl), Srt os → Srt (l.foldl Zet os) ∧ ∀ X Y : Int, stA (l.foldl Zet os) X Y = l.foldl (fun s c => if c.x = X ∧ c.y = Y then c.st else s) (stA os X Y) := by
    intro l
    induction l with
    | nil => intro os h; exact ⟨h, fun _ _ => rfl⟩
    | cons a r ih =>
      intro os h
      obtain ⟨h1, h2⟩ := ih (Zet os a) (insC_srt h)
      exact ⟨h1, fun X Y => by rw [List.foldl_cons, h2, insC_st]; rfl⟩
  exact this l [] List.Pairwise.nil
theorem stA_out {l : List Cl} {X Y : Int} (h : ∀ c ∈ l, ¬ (c.x = X ∧ c.y = Y)) : stA l X Y = 0 := by
  induction l with
  | nil => rfl
  | cons a r ih => rw [Zdx, if_neg (h a (by simp)), ih fun c hc => h c (by simp [hc])]
theorem srt_ne {a : Cl} {r : List Cl} (h : Srt (a :: r)) : ∀ c ∈ r, ¬ (c.x = a.x ∧ c.y = a.y) := fun c hc e => by
  have := (List.pairwise_cons.1 h).1 c hc
  unfold lexLt at this; omega
theorem stA_nz : ∀ {l : List Cl}, Srt l → ∀ X Y : Int, stA (l.filter nzC) X Y = stA l X Y
  | [], _, X, Y => rfl
  | a :: r, h, X, Y => by
    rw [List.filter_cons, Zdx]
    have ih := stA_nz (List.pairwise_cons.1 h).2 X Y
    by_cases hz : nzC a = true
    · rw [if_pos hz, Zdx, ih]
    · rw [if_neg hz, ih]
      by_cases e : a.x = X ∧ a.y = Y
      · rw [if_pos e, stA_out fun c hc q => srt_ne h c hc om]
        unfold nzC at hz; simp at hz; exact hz.symm
      · rw [if_neg e]
theorem Zl2 (l : List Cl) : Srt (Zbc l) ∧ (∀ c ∈ Zbc l, c.st ≠ 0) ∧ ∀ X Y : Int, stA (Zbc l) X Y = stL l X Y := by
  obtain ⟨h1, h2⟩ := lastA_sem l
  exact ⟨h1.filter _, fun c hc => by have := (List.mem_filter.1 hc).2; unfold nzC at this; simpa using this, fun X Y => by unfold Zbc; rw [stA_nz h1, h2]⟩
theorem stA_mem {l : List Cl} (hs : Srt l) {c : Cl} (hc : c ∈ l) : stA l c.x c.y = c.st := by
  induction l with
  | nil => cases hc
  | cons a r ih =>
    rw [Zdx]
    rcases List.mem_cons.1 hc with rfl | hc
    · rw [if_pos ⟨rfl, rfl⟩]
    · rw [if_neg (fun e => srt_ne hs c hc om), ih (List.pairwise_cons.1 hs).2 hc]
theorem stA_is {l : List Cl} {X Y : Int} (h : stA l X Y ≠ 0) : ∃ c ∈ l, c.x = X ∧ c.y = Y := by
  exact Classical.byContradiction fun hn => h (stA_out fun c hc e => hn ⟨c, hc, e⟩)
theorem lastL_stB {l : List Cl} (h : StB l) : StB (Zbc l) := fun c hc => h c (Zl0 (List.mem_filter.1 hc).1)
theorem inC_mono {c : Cl} {v w : Int} (h1 : 1 ≤ v) (h : v ≤ w) (hc : inC c v = true) : inC c w = true := by
  have := hf_mono h1 h
  unfold inC at *; rw [decide_eq_true_eq] at *; omega
theorem upL_ge (c : Cl) : ∀ (n : Nat) (v : Int), v ≤ upL c n v
  | 0, v => Int.le_refl _
  | n + 1, v => by
    unfold upL
    split
    · have := upL_ge c n (v + 1); omega
    · exact Int.le_refl _
theorem upL_le (c : Cl) : ∀ (n : Nat) (v : Int), v ≤ 1330 → upL c n v ≤ 1330
  | 0, v, h => h
  | n + 1, v, h => by
    unfold upL
    split
    · rename_i hc; exact upL_le c n (v + 1) om
    · exact h
theorem upL_in (c : Cl) : ∀ (n : Nat) (v : Int), 1330 - v < n → 1329 < upL c n v ∨ inC c (upL c n v) = true
  | 0, v, h => by unfold upL; left; omega
  | n + 1, v, h => by
    unfold upL
    split
    · exact upL_in c n (v + 1) om
    · rename_i hc
      by_cases h2 : v ≤ 1329
      · right; cases hb : inC c v with
        | true => rfl
        | false => exact absurd ⟨h2, hb⟩ hc
      · left; omega
theorem levelC_in (l : List Cl) : (1 ≤ Zbz l ∧ Zbz l ≤ 1330) ∧ (Zbz l ≤ 1329 → ∀ c ∈ l, inC c (Zbz l) = true) := by
  have : ∀ (l : List Cl) (v : Int), 1 ≤ v → v ≤ 1330 → (v ≤ l.foldl (fun v c => upL c 1331 v) v ∧ l.foldl (fun v c => upL c 1331 v) v ≤ 1330) ∧ (l.foldl (fun v c => upL c 1331 v) v ≤ 1329 → ∀ c ∈ l, inC c (l.foldl (fun v c => upL c 1331 v) v) = true) := by
    intro l
    induction l with
    | nil => intro v h1 h2; exact ⟨⟨Int.le_refl _, h2⟩, fun _ c hc => by cases hc⟩
    | cons a r ih =>
      intro v h1 h2
      have g1 := upL_ge a 1331 v
      have g2 := upL_le a 1331 v h2
      have g3 := upL_in a 1331 v om
      obtain ⟨⟨i1, i2⟩, i3⟩ := ih (upL a 1331 v) om g2
      rw [List.foldl_cons]
      refine ⟨⟨by omega, i2⟩, fun h c hc => ?_⟩
      rcases List.mem_cons.1 hc with rfl | hc
      · rcases g3 with g3 | g3
        · omega
        · exact inC_mono om i1 g3
      · exact i3 h c hc
  exact this l 1 dc dc
end Go.Gw
