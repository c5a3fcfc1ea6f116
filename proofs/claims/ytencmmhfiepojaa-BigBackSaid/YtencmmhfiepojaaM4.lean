/- Part of the proof: a library for walks, plain laws, and functions' walks. -/
import Derived.Test.YtencmmhfiepojaaM3
import Derived.Test.YtencmmhfiepojaaRows
set_option linter.unusedSimpArgs false
set_option linter.unusedVariables false
namespace Go.Gw
open Go.RowKit
/-! ### A region that draws its order and makes several new rows -/
def NewV (v : Value) (w : World) : Prop := ∃ g, v = .pointer (some ⟨g, 0, none⟩) ∧ w.heap.size ≤ g
def OldV (v : Value) (w : World) : Prop := ∃ g, v = .pointer (some ⟨g, 0, none⟩) ∧ g < w.heap.size
theorem new_ne_old {u v : Value} {w : World} (h : NewV v w) (k : OldV u w) : u ≠ v := by
  obtain ⟨g, rfl, hg⟩ := h
  obtain ⟨g', rfl, hg'⟩ := k
  intro e; injection e with e; injection e with e; injection e with e; omega
def AllVF : Spec → List Bool → List Value → Env → World → (Env → Prop) → Prop
  | [], _, _, ρ, _, K => K ρ
  | (some d, φ) :: r, true :: bs, acc, ρ, w, K => ∀ v, φ v w → (∀ u ∈ acc, u ≠ v) → AllVF r bs (v :: acc) ((d, v) :: ρ) w K
  | (some d, φ) :: r, _ :: bs, acc, ρ, w, K => ∀ v, φ v w → AllVF r bs acc ((d, v) :: ρ) w K
  | (none, _) :: r, _ :: bs, acc, ρ, w, K => AllVF r bs acc ρ w K
  | _ :: _, [], _, _, _, _ => False
def ObsAllF (P : Program) (ops : Array Oper) (n : Nat) (D : List Deferred) (ρ0 : Env) (w0 : World) (R : World → World → Prop) (sp : Spec) : List Oper → List (List Nat) → List Bool → Spec → Prop
  | o :: os, d :: ds, b :: bs, (_, φ) :: r => (∀ w, R w0 w → depV sp d ρ0 w (fun ρ => Op1 P ops o n D ρ w (fun v w' => φ v w' ∧ R w w' ∧ (b = true → NewV v w)))) ∧ ObsAllF P ops n D ρ0 w0 R sp os ds bs r
  | _, _, _, [] => True
  | _, _, _, _ => False
def OldAll : Spec → List Bool → Prop
  | (_, φ) :: r, b :: bs => (b = true → ∀ v w, φ v w → OldV v w) ∧ OldAll r bs
  | _, _ => True
theorem OldAll.at_ : ∀ {sp : Spec} {bs : List Bool}, OldAll sp bs → ∀ {i : Nat} {dst : Option Nat} {φ : Value → World → Prop}, sp[i]? = some (dst, φ) → bs.getD i false = true → ∀ v w, φ v w → OldV v w
  | [], _, _, i, dst, φ, hs, _, _, _, _ => by simp at hs
  | p :: r, [], _, i, dst, φ, _, hb, _, _, _ => by simp at hb
  | p :: r, b :: bs, h, i, dst, φ, hs, hb, v, w, hv => by
    obtain ⟨pd, pφ⟩ := p
    obtain ⟨h1, h2⟩ := h
    cases i with
    | zero => simp at hs hb; obtain ⟨rfl, rfl⟩ := hs; exact h1 hb v w hv
    | succ i => simp at hs hb; exact OldAll.at_ h2 hs (by simpa using hb) v w hv
section
variable {P : Program} {l : List Oper} {Q : Exit → Act → World → Prop} {n m : Nat} {D : List Deferred} {ρ0 : Env} {w0 : World} {R : World → World → Prop} {sp : Spec} {ds : List (List Nat)} {bs : List Bool}
theorem ObsAllF.at_ {ops : Array Oper} : ∀ {l' : List Oper} {ds' : List (List Nat)} {bs' : List Bool} {sp' : Spec}, ObsAllF P ops n D ρ0 w0 R sp l' ds' bs' sp' → ∀ {i : Nat} {dst : Option Nat} {φ : Value → World → Prop} {o : Oper}, sp'[i]? = some (dst, φ) → l'[i]? = some o →
    ∀ w, R w0 w → depV sp (ds'.getD i []) ρ0 w (fun ρ => Op1 P ops o n D ρ w (fun v w' => φ v w' ∧ R w w' ∧ (bs'.getD i false = true → NewV v w))) := by
  intro l' ds' bs' sp' h
  induction sp' generalizing l' ds' bs' with
  | nil => intro i dst φ o hs; simp at hs
  | cons p r ih =>
    intro i dst φ o hs hl
    obtain ⟨pd, pφ⟩ := p
    match l', ds', bs', h with
    | o' :: os, d :: dd, b :: bb, h =>
      obtain ⟨h1, h2⟩ := h
      cases i with
      | zero => simp at hs hl; obtain ⟨rfl, rfl⟩ := hs; subst hl; simpa using h1
      | succ i => simp at hs hl; simpa using ih h2 hs hl
theorem allVF_inst {w : World} (vals : Nat → Value) {a : Act} : ∀ (r : Spec) (bs : List Bool) (k : Nat) (acc : List Value) (ρ : Env) (K : Env → Prop), Fr n D ρ a → (∀ i dst φ, r[i]? = some (dst, φ) → φ (vals (k + i)) w ∧ ∀ d, dst = some d → a.tmps[d]? = some (vals (k + i))) →
    (∀ i u, bs.getD i false = true → i < r.length → u ∈ acc → u ≠ vals (k + i)) → (∀ i j, bs.getD i false = true → bs.getD j false = true → i < r.length → j < r.length → i ≠ j → vals (k + i) ≠ vals (k + j)) →
    AllVF r bs acc ρ w K → ∃ ρ', Fr n D ρ' a ∧ K ρ'
  | [], bs, k, acc, ρ, K, hF, _, _, _, h => by unfold AllVF at h; exact ⟨ρ, hF, h⟩
  | p :: r, [], k, acc, ρ, K, hF, hg, ha, hb, h => by obtain ⟨pd, pφ⟩ := p; cases pd <;> exact (show False from h).elim
  | (some d, φ) :: r, true :: bs, k, acc, ρ, K, hF, hg, ha, hb, h => by
    obtain ⟨h1, h2⟩ := hg 0 _ _ rfl
    unfold AllVF at h
    refine allVF_inst vals r bs (k + 1) _ _ K ⟨hF.defers, hF.size, fun t v hlk => ?_⟩ (fun i dst φ hs => by have := hg (i + 1) dst φ (by simpa using hs); rwa [show k + 1 + i = k + (i + 1) by omega])
      (fun i u h3 h4 h5 => ?_) (fun i j h3 h4 h5 h6 h7 => ?_) (h _ h1 (fun u hu => by have := ha 0 u rfl (by simp) hu; simpa using this))
    · rw [look_cons] at hlk
      split at hlk
      · rename_i e; subst e; cases hlk; exact h2 _ rfl
      · exact hF.slot _ _ hlk
    · rcases List.mem_cons.1 h5 with rfl | h5
      · have := hb 0 (i + 1) rfl (by simpa using h3) (by simp) (by simpa using h4) (by omega)
        rwa [show k + 1 + i = k + (i + 1) by omega]
      · have := ha (i + 1) u (by simpa using h3) (by simpa using h4) h5
        rwa [show k + 1 + i = k + (i + 1) by omega]
    · have := hb (i + 1) (j + 1) (by simpa using h3) (by simpa using h4) (by simpa using h5) (by simpa using h6) (by omega)
      rwa [show k + 1 + i = k + (i + 1) by omega, show k + 1 + j = k + (j + 1) by omega]
  | (some d, φ) :: r, false :: bs, k, acc, ρ, K, hF, hg, ha, hb, h => by
    obtain ⟨h1, h2⟩ := hg 0 _ _ rfl
    unfold AllVF at h
    refine allVF_inst vals r bs (k + 1) _ _ K ⟨hF.defers, hF.size, fun t v hlk => ?_⟩ (fun i dst φ hs => by have := hg (i + 1) dst φ (by simpa using hs); rwa [show k + 1 + i = k + (i + 1) by omega])
      (fun i u h3 h4 h5 => ?_) (fun i j h3 h4 h5 h6 h7 => ?_) (h _ h1)
    · rw [look_cons] at hlk
      split at hlk
      · rename_i e; subst e; cases hlk; exact h2 _ rfl
      · exact hF.slot _ _ hlk
    · have := ha (i + 1) u (by simpa using h3) (by simpa using h4) h5
      rwa [show k + 1 + i = k + (i + 1) by omega]
    · have := hb (i + 1) (j + 1) (by simpa using h3) (by simpa using h4) (by simpa using h5) (by simpa using h6) (by omega)
      rwa [show k + 1 + i = k + (i + 1) by omega, show k + 1 + j = k + (j + 1) by omega]
  | (none, φ) :: r, b :: bs, k, acc, ρ, K, hF, hg, ha, hb, h => by
    have h' : AllVF r bs acc ρ w K := by cases b <;> (unfold AllVF at h; exact h)
    refine allVF_inst vals r bs (k + 1) _ _ K hF (fun i dst φ hs => by have := hg (i + 1) dst φ (by simpa using hs); rwa [show k + 1 + i = k + (i + 1) by omega])
      (fun i u h3 h4 h5 => ?_) (fun i j h3 h4 h5 h6 h7 => ?_) h'
    · have := ha (i + 1) u (by simpa using h3) (by simpa using h4) h5
      rwa [show k + 1 + i = k + (i + 1) by omega]
    · have := hb (i + 1) (j + 1) (by simpa using h3) (by simpa using h4) (by simpa using h5) (by simpa using h6) (by omega)
      rwa [show k + 1 + i = k + (i + 1) by omega, show k + 1 + j = k + (j + 1) by omega]
structure MidF (l : List Oper) (bs : List Bool) (n : Nat) (D : List Deferred) (ρ0 : Env) (w0 : World) (R : World → World → Prop) (sp : Spec) (m N : Nat) (listed : Array Bool) (vals : Nat → Value) (a : Act) (w : World) : Prop where
  fr : Fr n D ρ0 a
  wr : R w0 w
  size : listed.size = N
  tail : ∀ i, m ≤ i → listed.getD i false = false
  cl : ∀ i o j, l[i]? = some o → listed.getD i false = true → hasEdge o j = true → listed.getD j false = true
  fre : ∀ i j, bs.getD i false = true → bs.getD j false = true → i < m → j < m → i ≠ j → listed.getD i false = true → listed.getD j false = true → vals i ≠ vals j
  got : ∀ i dst φ, sp[i]? = some (dst, φ) → listed.getD i false = true → φ (vals i) w ∧ ∀ d, dst = some d → a.tmps[d]? = some (vals i)

theorem depV_instF {listed : Array Bool} {vals : Nat → Value} {a : Act} {w : World} {N : Nat} (hM : MidF l bs n D ρ0 w0 R sp m N listed vals a w) : ∀ (d : List Nat) (ρ : Env) (K : Env → Prop), Fr n D ρ a → (∀ j ∈ d, listed.getD j false = true) →
    depV sp d ρ w K → ∃ ρ', Fr n D ρ' a ∧ K ρ'
  | [], ρ, K, hF, _, h => ⟨ρ, hF, h⟩
  | j :: r, ρ, K, hF, hl, h => by
    unfold depV at h
    split at h
    · rename_i d φ hs
      obtain ⟨h1, h2⟩ := hM.got j _ _ hs (hl j (by simp))
      refine depV_instF hM r _ K ⟨hF.defers, hF.size, fun t v hlk => ?_⟩ (fun i hi => hl i (by simp [hi])) (h _ h1)
      rw [look_cons] at hlk
      split at hlk
      · rename_i e; subst e; cases hlk; exact h2 _ rfl
      · exact hF.slot _ _ hlk
    · exact depV_instF hM r _ K hF (fun i hi => hl i (by simp [hi])) h
theorem mid_anyF {keys : List Nat} (hF : DrawFactsT l m n keys sp ds) (hkeys : ∀ t v, look ρ0 t = some v → t ∈ keys) (hRt : ∀ a b c, R a b → R b c → R a c) (hst : StAll R sp) (hold : OldAll sp bs) (hobs : ObsAllF P l.toArray n D ρ0 w0 R sp l ds bs sp)
    (hend : ∀ w, R w0 w → AllVF sp bs [] ρ0 w (fun ρ => Reg P l.toArray Q (l.drop m) n D ρ w)) :
    ∀ (fuel : Nat) (listed : Array Bool) (vals : Nat → Value) (a : Act) (w : World), MidF l bs n D ρ0 w0 R sp m l.length listed vals a w → cnt l.length listed ≤ fuel → wpAny P .any l.toArray Q fuel listed a w := by
  -- once all heads are listed
  have hfin : ∀ (fuel : Nat) (listed : Array Bool) (vals : Nat → Value) (a : Act) (w : World), MidF l bs n D ρ0 w0 R sp m l.length listed vals a w → (∀ i, i < m → listed.getD i false = true) → l.length - m ≤ fuel → wpAny P .any l.toArray Q fuel listed a w := by
    intro fuel listed vals a w hM hall hf
    obtain ⟨ρ', hFr, hReg⟩ := allVF_inst (w := w) vals sp bs 0 [] ρ0 _ hM.fr (fun i dst φ hs => by
      have hi : i < m := by rw [← hF.spl]; exact (List.getElem?_eq_some_iff.1 hs).1
      rw [Nat.zero_add]; exact hM.got i dst φ hs (hall i hi)) (fun _ _ _ _ h => by cases h) (fun i j h1 h2 h3 h4 h5 => by
      rw [hF.spl] at h3 h4
      rw [Nat.zero_add, Nat.zero_add]; exact hM.fre i j h1 h2 h3 h4 h5 (hall i h3) (hall j h4)) (hend w hM.wr)
    exact tail_anyT hF fuel m listed a w (Nat.le_refl _) hF.le hf hM.size hall hM.tail (hReg a hFr)
  have hcnt : ∀ listed : Array Bool, (∀ i, m ≤ i → listed.getD i false = false) → ∀ k, m ≤ k → k - m ≤ cnt k listed := by
    intro listed ht k
    induction k with
    | zero => intro _; omega
    | succ k ih =>
      intro hk
      unfold cnt
      rcases Nat.lt_or_ge k m with h | h
      · omega
      · rw [ht k h]; have := ih h; simp; omega
  intro fuel
  induction fuel with
  | zero =>
    intro listed vals a w hM hc
    have h0 : cnt l.length listed = 0 := by omega
    have hall := cnt_zero listed _ h0
    refine hfin 0 listed vals a w hM (fun i hi => hall i (by have := hF.le; omega)) ?_
    have := hcnt listed hM.tail l.length hF.le
    omega
  | succ fuel ih =>
    intro listed vals a w hM hc
    by_cases hall : ∀ i, i < m → listed.getD i false = true
    · refine hfin _ listed vals a w hM hall ?_
      have := hcnt listed hM.tail l.length hF.le
      omega
    · -- some head is not listed: it's not the end, and no tail is ready
      refine ⟨fun h0 => absurd ?_ hall, fun i hi => ?_⟩
      · -- the least one that isn't listed is ready
        intro i hi
        induction i using Nat.strongRecOn with
        | _ i ihh =>
          by_cases hb : listed.getD i false = true
          · exact hb
          · exfalso
            have hil : i < l.length := by have := hF.le; omega
            have hr : i ∈ Region.ready .any l.toArray listed := by
              refine (mem_ready (by simpa using hM.size)).2 ⟨l[i], by simp [hil], by simpa using hb, ?_⟩
              rw [Array.all_eq_true]
              intro j hj
              by_cases hbd : Region.binds .any l[i].after[j] = true
              · have := hF.before i _ (List.getElem?_eq_getElem hil) _ (Array.getElem_mem hj) hbd
                rw [ihh _ this (by omega)]; simp
              · simp [hbd]
            rw [h0] at hr; simp at hr
      · obtain ⟨o, ho, hfi, hal⟩ := (mem_ready (by simpa using hM.size)).1 hi
        have ho' : l[i]? = some o := by simpa using ho
        have hil : i < l.length := (List.getElem?_eq_some_iff.1 ho').1
        have him : i < m := by
          rcases Nat.lt_or_ge i m with h | h
          · exact h
          · exact absurd (fun j hj => reach_listed hM.cl 3 o j (fun k hk => hasEdge_listed hk hal) ((hF.tail i o h ho').2 j hj)) hall
        have hsp : ∃ dst φ, sp[i]? = some (dst, φ) := by
          have : i < sp.length := by rw [hF.spl]; exact him
          exact ⟨_, _, List.getElem?_eq_getElem this⟩
        obtain ⟨dst, φ, hs⟩ := hsp
        have hdst := hF.dst i o dst φ ho' hs
        subst hdst
        have hsz : i < listed.size := by rw [hM.size]; exact hil
        obtain ⟨ρ', hFr, hOp⟩ := depV_instF hM (ds.getD i []) ρ0 _ hM.fr (fun j hj => hasEdge_listed (hF.deps i o him ho' j hj).2 hal) (hobs.at_ hs ho' w hM.wr)
        have hnew : ∀ (v : Value) (w' : World), φ v w' → R w w' → (bs.getD i false = true → NewV v w) → MidF l bs n D ρ0 w0 R sp m l.length (listed.setIfInBounds i true) (fun j => if j = i then v else vals j) (a.put o.dst v) w' := by
          intro v w' hv hR hN
          have hput : ∀ t, (∀ d, o.dst = some d → t ≠ d) → (a.put o.dst v).tmps[t]? = a.tmps[t]? := by
            intro t ht
            cases hd : o.dst with
            | none => rfl
            | some d => simp only [Act.put, Array.getElem?_setIfInBounds]; rw [if_neg (fun e => ht d hd e.symm)]
          have hputd : ∀ d, o.dst = some d → (a.put o.dst v).tmps[d]? = some v := by
            intro d hd
            have := (hF.ok i o d him ho' hd).1
            rw [hd]
            simp [Act.put, hM.fr.size, this]
          refine ⟨⟨?_, ?_, ?_⟩, hRt _ _ _ hM.wr hR, by simpa using hM.size, ?_, ?_, ?_, ?_⟩
          · rw [← hM.fr.defers]; cases o.dst <;> rfl
          · rw [← hM.fr.size]; cases o.dst <;> simp [Act.put]
          · intro t u hl
            rw [hput t (fun d hd e => (hF.ok i o d him ho' hd).2 (by rw [← e]; exact hkeys t u hl))]
            exact hM.fr.slot t u hl
          · intro j hj
            rw [getD_set _ _ _ hsz, if_neg (by omega)]; exact hM.tail j hj
          · intro j oj j' hoj hl he
            rw [getD_set _ _ _ hsz] at hl ⊢
            by_cases e : i = j'
            · rw [if_pos e]
            · rw [if_neg e]
              by_cases e2 : i = j
              · subst e2; rw [ho'] at hoj; injection hoj with hoj; subst hoj; exact hasEdge_listed he hal
              · rw [if_neg e2] at hl; exact hM.cl j oj j' hoj hl he
          · intro i' j' b1 b2 h1 h2 hne l1 l2
            rw [getD_set _ _ _ hsz] at l1 l2
            have hgot : ∀ k, bs.getD k false = true → k < m → k ≠ i → listed.getD k false = true → OldV (vals k) w := by
              intro k hk hkm hki hl
              have hks : k < sp.length := by rw [hF.spl]; exact hkm
              have hsk : sp[k]? = some ((sp[k]).1, (sp[k]).2) := List.getElem?_eq_getElem hks
              exact hold.at_ hsk hk _ _ (hM.got k _ _ hsk hl).1
            by_cases e1 : i' = i
            · by_cases e2 : j' = i
              · exact absurd (e1.trans e2.symm) hne
              · rw [if_neg (fun e => e2 e.symm)] at l2
                rw [if_pos e1, if_neg e2]
                exact fun e => new_ne_old (hN (e1 ▸ b1)) (hgot j' b2 h2 e2 l2) e.symm
            · rw [if_neg (fun e => e1 e.symm)] at l1
              by_cases e2 : j' = i
              · rw [if_neg e1, if_pos e2]
                exact new_ne_old (hN (e2 ▸ b2)) (hgot i' b1 h1 e1 l1)
              · rw [if_neg (fun e => e2 e.symm)] at l2
                rw [if_neg e1, if_neg e2]
                exact hM.fre i' j' b1 b2 h1 h2 hne l1 l2
          · intro j dst φ' hs' hl
            rw [getD_set _ _ _ hsz] at hl
            by_cases e : j = i
            · subst e
              rw [hs] at hs'
              injection hs' with hs'
              injection hs' with e1 e2
              subst e1; subst e2
              rw [if_pos rfl]
              exact ⟨hv, hputd⟩
            · rw [if_neg (fun e' => e e'.symm)] at hl
              rw [if_neg e]
              obtain ⟨g1, g2⟩ := hM.got j dst φ' hs' hl
              refine ⟨hst.at_ hs' _ _ _ g1 hR, fun d hd => ?_⟩
              have hj : j < m := by rw [← hF.spl]; exact (List.getElem?_eq_some_iff.1 hs').1
              have hjl : j < l.length := by have := hF.le; omega
              have hoj := List.getElem?_eq_getElem hjl
              have hdj := hF.dst j _ dst φ' hoj hs'
              rw [hput d (fun d' hd' e' => by subst e'; exact hF.apart j i _ o d hj him e hoj ho' (by rw [hdj, hd]) hd')]
              exact g2 d hd
        have hcnt' := cnt_set listed i hsz hfi l.length hil
        unfold wpOp
        rw [ho]
        dsimp only
        have h1 := hOp a hFr
        split
        · rename_i hw
          rw [if_pos hw] at h1
          refine .inl (Oper.wp_mono ?_ (h1 Q))
          rintro a' w' ⟨v, rfl, hv, hR, hN⟩
          exact ih _ _ _ _ (hnew v w' hv hR hN) (by omega)
        · rename_i hw
          rw [if_neg hw] at h1
          exact ih _ _ _ _ (hnew undef w h1.1 h1.2.1 h1.2.2) (by omega)

theorem w_drawF {id : Nat} {w : World} {ρ : Env} (m : Nat) (R : World → World → Prop) (sp : Spec) (ds : List (List Nat)) (bs : List Bool) (ρ0 : Env) (hsub : Sub ρ0 ρ) (hm : P.follows .mixedOrders = true)
    (hchk : drawOkT l m n (keysOf ρ0) (sp.map (·.1)) ds = true) (hR : ∀ a, R a a) (hRt : ∀ a b c, R a b → R b c → R a c) (hst : StAll R sp) (hold : OldAll sp bs)
    (h : ∀ w0, w.grownBy w0 none → w0.heap.size = w.heap.size → ObsAllF P l.toArray n D ρ0 w0 R sp l ds bs sp ∧ (∀ w', R w0 w' → AllVF sp bs [] ρ0 w' (fun ρ => Reg P l.toArray Q (l.drop m) n D ρ w'))) :
    W P (.region id l.toArray true) Q n D ρ w := by
  intro a ha
  have hF := drawFactsT hchk
  obtain ⟨h1, h2⟩ := h w.drew (grown_drew w) rfl
  refine wp_region_any hm ?_
  have := mid_anyF hF (fun t v hl => look_of_keys hl) hRt hst hold h1 h2 l.length (Array.replicate l.length false) (fun _ => undef) a w.drew ⟨ha.sub hsub, hR _, by simp, fun i _ => by simp [Array.getD_eq_getD_getElem?, Array.getElem?_replicate]; split <;> rfl, fun i o j _ hl _ => by
    simp [Array.getD_eq_getD_getElem?, Array.getElem?_replicate] at hl
    split at hl <;> simp at hl, fun i j _ _ _ _ _ hl _ => by
    simp [Array.getD_eq_getD_getElem?, Array.getElem?_replicate] at hl
    split at hl <;> simp at hl, fun i dst φ hs hl => by
    simp [Array.getD_eq_getD_getElem?, Array.getElem?_replicate] at hl
    split at hl <;> simp at hl⟩ (by
      have : ∀ k L, cnt k L ≤ k := by
        intro k L; induction k with
        | zero => exact Nat.le_refl _
        | succ k ih => unfold cnt; split <;> omega
      exact this _ _)
  simpa using this
end
theorem fresh_ne {g g' : Nat} (h : (Value.pointer (some ⟨g, 0, none⟩)) ≠ .pointer (some ⟨g', 0, none⟩)) : g ≠ g' := fun e => h (by rw [e])
end Go.Gw

set_option maxRecDepth 20000
set_option linter.unusedSimpArgs false
set_option linter.unusedVariables false
namespace Go.Proofs.Ytencmmhfiepojaa
open Go.RowKit Go.Gw
theorem fld52_1 : FieldF Try.prog 52 1 1 := ⟨by kernel_rfl⟩
theorem fld52_0 : FieldF Try.prog 52 0 0 := ⟨by kernel_rfl⟩
theorem zero52 : ZeroF Try.prog 52 #[.bool false, .slice none 0 0] := ⟨by kernel_rfl⟩
theorem row52 : RowF Try.prog 52 2 := ⟨by kernel_rfl⟩
theorem fn83 : FunF Try.prog 83 := ⟨_, _, Try.func83, by decide +kernel, rfl⟩
theorem fn62 : FunF Try.prog 62 := ⟨_, _, Try.func62, by decide +kernel, rfl⟩
theorem fn58 : FunF Try.prog 58 := ⟨_, _, Try.func58, by decide +kernel, rfl⟩
theorem fn85 : FunF Try.prog 85 := ⟨_, _, Try.func85, by decide +kernel, rfl⟩
theorem fn84 : FunF Try.prog 84 := ⟨_, _, Try.func84, by decide +kernel, rfl⟩
theorem fn63 : FunF Try.prog 63 := ⟨_, _, Try.func63, by decide +kernel, rfl⟩
theorem fn59 : FunF Try.prog 59 := ⟨_, _, Try.func59, by decide +kernel, rfl⟩
theorem fn61 : FunF Try.prog 61 := ⟨_, _, Try.func61, by decide +kernel, rfl⟩
theorem fn67 : FunF Try.prog 67 := ⟨_, _, Try.func67, by decide +kernel, rfl⟩
theorem fn65 : FunF Try.prog 65 := ⟨_, _, Try.func65, by decide +kernel, rfl⟩
theorem fn51 : FunF Try.prog 51 := ⟨_, _, Try.func51, by decide +kernel, rfl⟩
theorem fn49 : FunF Try.prog 49 := ⟨_, _, Try.func49, by decide +kernel, rfl⟩
theorem fn48 : FunF Try.prog 48 := ⟨_, _, Try.func48, by decide +kernel, rfl⟩
theorem fn55 : FunF Try.prog 55 := ⟨_, _, Try.func55, by decide +kernel, rfl⟩
theorem fn68 : FunF Try.prog 68 := ⟨_, _, Try.func68, by decide +kernel, rfl⟩
theorem fn50 : FunF Try.prog 50 := ⟨_, _, Try.func50, by decide +kernel, rfl⟩
theorem fn52 : FunF Try.prog 52 := ⟨_, _, Try.func52, by decide +kernel, rfl⟩
theorem fn60 : FunF Try.prog 60 := ⟨_, _, Try.func60, by decide +kernel, rfl⟩
theorem fn64 : FunF Try.prog 64 := ⟨_, _, Try.func64, by decide +kernel, rfl⟩
theorem fn66 : FunF Try.prog 66 := ⟨_, _, Try.func66, by decide +kernel, rfl⟩
theorem fn54 : FunF Try.prog 54 := ⟨_, _, Try.func54, by decide +kernel, rfl⟩
theorem fn46 : FunF Try.prog 46 := ⟨_, _, Try.func46, by decide +kernel, rfl⟩
theorem fn47 : FunF Try.prog 47 := ⟨_, _, Try.func47, by decide +kernel, rfl⟩
theorem fn53 : FunF Try.prog 53 := ⟨_, _, Try.func53, by decide +kernel, rfl⟩
theorem fn56 : FunF Try.prog 56 := ⟨_, _, Try.func56, by decide +kernel, rfl⟩
theorem fn57 : FunF Try.prog 57 := ⟨_, _, Try.func57, by decide +kernel, rfl⟩
theorem fn69 : FunF Try.prog 69 := ⟨_, _, Try.func69, by decide +kernel, rfl⟩
end Go.Proofs.Ytencmmhfiepojaa

namespace Go.Proofs.Ytencmmhfiepojaa
open Go.ChangeShapes Go.WideShapes Go.ChangeAt Go.RowKit Go.Gw
theorem bigF : BigF Try.prog 52 4 32 44 := ⟨by kernel_rfl, by kernel_rfl, by kernel_rfl, by kernel_rfl, by kernel_rfl, by kernel_rfl, by kernel_rfl, by kernel_rfl⟩
theorem bigArg {H : Type} {enc : TypeId × Value → H} {w : World} {r : Reach} {b0 : Nat} {v : Value} {d : DataW H} {p : List MemPlace} (hv : Value.okWide Try.prog w r b0 52 v) (h : DataW.Trod enc Try.prog w 0 (fun _ => true) true 52 v d p) :
    ∃ ng s xs, v = .agg [.bool ng, s].toArray ∧ Sl Kd.u32 w (fun _ => False) s xs := big_arg bigF hv h
theorem u8_wf {a : Int} (h : (Lit.int .u8 a).wf = true) : 0 ≤ a ∧ a ≤ 255 := by
  unfold Lit.wf at h
  rw [Bool.and_eq_true, decide_eq_true_eq, decide_eq_true_eq] at h
  have h1 : IntKind.u8.min = 0 := by decide
  have h2 : IntKind.u8.max = 255 := by decide
  rw [h1] at h
  rw [h2] at h
  exact h
end Go.Proofs.Ytencmmhfiepojaa

set_option maxRecDepth 20000
set_option linter.unusedSimpArgs false
set_option linter.unusedVariables false
namespace Go.Proofs.Ytencmmhfiepojaa
open Go.RowKit Go.Gw
theorem back_stops {w00 w0 : World} {F : Nat → Prop} {v : Value} {xs : List Int} {gb : Nat} (hS : Sl Kd.u32 w00 F v xs) (hB0 : Below w00.heap.size w00 w0) (hbk0 : Blk w0 gb 32 #[v]) :
    SeqStopsK Fence.wide 9 Try.prog 91 #[.pointer (some ⟨gb, 0, none⟩)] (encL (xs := xs)) (KpL gb w00.heap.size) (fun ys => ys.map (·.1) = bkt xs xs.length) (fun pre => ∃ k, k ≤ xs.length ∧ pre.map (·.1) = bkt xs k) xs.length w0 := by
  intro l J Jx w hW hJa hJxa hY h0
  have hln1 := hS.lenle
  have hb0 := hB0.trans (hW.mono hB0.size)
  have hbk : Blk w gb 32 [v].toArray := (hW.block gb hbk0.lt).trans hbk0
  rw [show (#[Value.func (.yield l) #[] #[]] ++ #[Value.pointer (some ⟨gb, 0, none⟩)] : Array Value) = [.func (.yield l) #[] #[], .pointer (some ⟨gb, 0, none⟩)].toArray from rfl]
  have hz0 := hb0.size
  refine ienter Try.func91 rfl rfl ?_
  refine i_seq ?_
  refine i_region ?_
  refine ist (s_load one32 rfl hbk.range (j := 0) rfl ?_)
  refine ist (s_len sl32 rfl (hS.at0 hb0) ?_)
  refine ist (s_sub rfl rfl (by omega) ?_)
  refine ist (s_assign rfl ?_)
  refine i_end ?_
  refine in_then ?_
  refine i_block ?_
  refine i_loop (α := Int) (fun (i : Int) => [(0, .func (.yield l) #[] #[]), (1, .pointer (some ⟨gb, 0, none⟩)), (3, .int .i64 i)]) (fun (i : Int) W => Below w00.heap.size w00 W ∧ (-1 ≤ i ∧ i < xs.length) ∧ (∃ pre : List (LX xs), J pre W ∧ pre.map (·.1) = bkt xs ((xs.length : Int) - 1 - i).toNat) ∧ (Blk W gb 32 [v].toArray)) (fun (i : Int) => (i + 1).toNat) ((xs.length : Int) - 1) ⟨hb0, by omega, ⟨[], h0, by rw [show ((xs.length : Int) - 1 - ((xs.length : Int) - 1)).toNat = 0 by omega]; rfl⟩, hbk⟩ (by exact ⟨rfl, rfl, rfl, trivial⟩) ?_
  rintro i w1 ⟨hb1, hi, hJ, hBl1⟩
  have hz1 := hb1.size
  refine i_seq ?_
  refine i_seq ?_
  refine i_region ?_
  refine ist (s_move rfl ?_)
  refine ist (s_ge rfl rfl ?_)
  refine i_end ?_
  refine in_then ?_
  refine i_condP rfl (fun h1 => ?_) (fun h1 => ?_)
  · refine i_skip' ?_
    refine in_then ?_
    refine i_seq ?_
    refine i_block ?_
    refine i_seq ?_
    refine i_region ?_
    refine ist (s_move rfl ?_)
    refine ist (s_move rfl ?_)
    refine ist (s_load one32 rfl hBl1.range (j := 0) rfl ?_)
    refine ist (s_move rfl ?_)
    refine ist (s_idx sl32 rfl rfl (hS.at0 hb1) (by omega) (by omega) ?_)
    rintro b1 o1 _ ⟨rfl, hr1⟩ hc1 hF1 hlt1
    have hl_1 := Loc.lt hF1
    refine ist (s_load one44 rfl hc1 (j := 0) rfl ?_)
    obtain ⟨pre, hJp, hpm⟩ := hJ
    have hpl := congrArg List.length hpm
    rw [List.length_map, bkt_len] at hpl
    have hY1 := hY pre ⟨(i, ix xs i), by show 0 ≤ i; omega, by show i < _; omega, rfl⟩ w1 hJp (by rw [hpl]; omega)
    refine i_yield rfl rfl hY1 ?_
    rintro _ W3 (⟨rfl, hJ3, hk3⟩ | ⟨rfl, hJ3⟩)
    · refine ⟨_, rfl, ?_⟩
      have hb2 := hb1.trans hk3.2
      have hbk1 := hBl1.kpl hk3
      have hz9 := hb2.size
      refine ist (s_not rfl ?_)
      refine i_end ?_
      refine in_then ?_
      refine i_condF rfl ?_
      refine i_skip' ?_
      refine n_block ?_
      refine in_then ?_
      refine i_region ?_
      refine ist (s_move rfl ?_)
      refine ist (s_sub rfl rfl (by omega) ?_)
      refine ist (s_assign rfl ?_)
      refine i_end ?_
      exact n_round ((i - 1)) ⟨hb2, by omega, ⟨pre ++ [_], hJ3, by rw [List.map_append, hpm, show ((xs.length : Int) - 1 - (i - 1)).toNat = ((xs.length : Int) - 1 - i).toNat + 1 by omega, bkt_succ, show (xs.length : Int) - 1 - (((xs.length : Int) - 1 - i).toNat : Nat) = i by omega]; rfl⟩, hbk1⟩ (by omega) (by exact ⟨rfl, rfl, rfl, trivial⟩)
    · refine ⟨_, rfl, ?_⟩
      refine ist (s_not rfl ?_)
      refine i_end ?_
      refine in_then ?_
      refine i_condT rfl ?_
      refine i_ret ?_
      refine n_block_ret ?_
      refine n_then_ret ?_
      refine n_then_ret ?_
      refine n_block_ret ?_
      refine n_ret0 rfl ?_
      exact ⟨⟨_, rfl⟩, .inr ⟨pre ++ [_], ⟨((xs.length : Int) - 1 - i).toNat + 1, by omega, by rw [List.map_append, hpm, bkt_succ, show (xs.length : Int) - 1 - (((xs.length : Int) - 1 - i).toNat : Nat) = i by omega]; rfl⟩, hJ3⟩⟩
  · refine i_exit' ?_
    refine n_then_exit ?_
    refine n_then_exit ?_
    refine n_block_exit ?_
    refine n_end0 (fn := Try.f91) rfl ?_
    obtain ⟨pre, hJp, hpm⟩ := hJ
    exact ⟨⟨_, rfl⟩, .inl ⟨pre, by show List.map _ _ = _; rw [hpm, show ((xs.length : Int) - 1 - i).toNat = xs.length by omega], hJp⟩⟩

theorem right_any {w : World} {a : Value} {xs : List Int} (ha : Sl Kd.u32 w (fun _ => False) a xs) :
    Calls Try.prog 38 [a].toArray w (Pure w fun v _ => v = .bool (rightB xs)) := by
  have hb0 := Below.refl w.heap.size w
  have hln1 := ha.lenle
  refine enter Try.func38 rfl rfl ?_
  refine w_seq ?_
  refine w_region ?_
  refine st (s_assign rfl ?_)
  refine r_end ?_
  refine n_then ?_
  refine w_seq ?_
  refine w_region ?_
  refine st (s_move rfl ?_)
  refine st (s_len sl32 rfl (ha.at0 hb0) ?_)
  refine st (s_eq rfl rfl ?_)
  refine st (s_move rfl ?_)
  refine r_caseP 6 rfl (fun h1 => ?_) (fun h1 => ?_)
  · refine s_pass rfl rfl ?_
    refine s_pass rfl rfl ?_
    refine s_pass rfl rfl ?_
    refine s_pass rfl rfl ?_
    refine s_pass rfl rfl ?_
    refine s_pass rfl rfl ?_
    refine s_pass rfl rfl ?_
    refine st (s_pick rfl rfl ?_)
    refine st (s_assign rfl ?_)
    refine r_end ?_
    refine n_then ?_
    refine w_ret1 rfl rfl ?_
    exact ⟨_, rfl, hb0, by rw [right_nil h1]⟩
  · refine stg (s_move rfl ?_)
    refine stg (s_move rfl ?_)
    refine stg (s_len sl32 rfl (ha.at0 hb0) ?_)
    refine stg (s_sub rfl rfl (by omega) ?_)
    refine stg (s_idx sl32 rfl rfl (ha.at0 hb0) (by omega) (by omega) ?_)
    rintro b1 o1 _ ⟨rfl, hr1⟩ hc1 hF1 hlt1
    have hl_1 := Loc.lt hF1
    refine stg (s_load one44 rfl hc1 (j := 0) rfl ?_)
    refine stg (s_ne rfl rfl ?_)
    refine st (s_pick rfl rfl ?_)
    refine st (s_assign rfl ?_)
    refine r_end ?_
    refine n_then ?_
    refine w_ret1 rfl rfl ?_
    exact ⟨_, rfl, hb0, by rw [right_ne h1]⟩

theorem rright_any {w : World} {a : Value} {xs : List Int} (ha : Sl Kd.u32 w (fun _ => False) a xs) :
    Calls Try.prog 39 [a].toArray w (Pure w fun v _ => v = .bool (rightB xs)) := by
  have hb0 := Below.refl w.heap.size w
  have hln1 := ha.lenle
  refine enter Try.func39 rfl rfl ?_
  refine w_seq ?_
  refine w_region ?_
  refine st (s_assign rfl ?_)
  refine r_end ?_
  refine n_then ?_
  refine w_seq ?_
  refine w_region ?_
  refine st (s_move rfl ?_)
  refine st (s_len sl32 rfl (ha.at0 hb0) ?_)
  refine st (s_eq rfl rfl ?_)
  refine st (s_move rfl ?_)
  refine r_caseP 6 rfl (fun h1 => ?_) (fun h1 => ?_)
  · refine s_pass rfl rfl ?_
    refine s_pass rfl rfl ?_
    refine s_pass rfl rfl ?_
    refine s_pass rfl rfl ?_
    refine s_pass rfl rfl ?_
    refine s_pass rfl rfl ?_
    refine s_pass rfl rfl ?_
    refine st (s_pick rfl rfl ?_)
    refine st (s_assign rfl ?_)
    refine r_end ?_
    refine n_then ?_
    refine w_ret1 rfl rfl ?_
    exact ⟨_, rfl, hb0, by rw [right_nil h1]⟩
  · refine stg (s_move rfl ?_)
    refine stg (s_move rfl ?_)
    refine stg (s_len sl32 rfl (ha.at0 hb0) ?_)
    refine stg (s_sub rfl rfl (by omega) ?_)
    refine stg (s_idx sl32 rfl rfl (ha.at0 hb0) (by omega) (by omega) ?_)
    rintro b1 o1 _ ⟨rfl, hr1⟩ hc1 hF1 hlt1
    have hl_1 := Loc.lt hF1
    refine stg (s_load one44 rfl hc1 (j := 0) rfl ?_)
    refine stg (s_ne rfl rfl ?_)
    refine st (s_pick rfl rfl ?_)
    refine st (s_assign rfl ?_)
    refine r_end ?_
    refine n_then ?_
    refine w_ret1 rfl rfl ?_
    exact ⟨_, rfl, hb0, by rw [right_ne h1]⟩

theorem cut_any {w : World} {F : Nat → Prop} {a : Value} {xs : List Int} (ha : Sl Kd.u32 w F a xs) :
    Calls Try.prog 74 [a].toArray w (Pure w fun v _ => Sl Kd.u32 w F v (tl (nv xs))) := by
  have hb0 := Below.refl w.heap.size w
  have hln1 := ha.lenle
  refine enter Try.func74 rfl rfl ?_
  refine w_seq ?_
  refine w_region ?_
  refine st (s_assign rfl ?_)
  refine r_end ?_
  refine n_then ?_
  refine w_seq ?_
  refine w_block ?_
  refine w_loop (α := Value × List Int) (fun ((v, ys) : Value × List Int) => [(0, v), (2, .slice none 0 0)]) (fun ((v, ys) : Value × List Int) W => Below w.heap.size w W ∧ (Sl Kd.u32 w F v ys) ∧ (nv ys = nv xs)) (fun ((v, ys) : Value × List Int) => ys.length) ((a), (xs)) ⟨hb0, ha, rfl⟩ (by exact ⟨rfl, rfl, trivial⟩) ?_
  rintro ⟨v, ys⟩ w1 ⟨hb1, hv, hn⟩
  dsimp only at *
  have hz1 := hb1.size
  have hln9 := hv.lenle
  refine w_seq ?_
  refine w_seq ?_
  refine w_region ?_
  refine st (s_move rfl ?_)
  refine st (s_call fn38 rfl (right_any ((hv.at0 hb1)).none) ?_)
  rintro _ w2 ⟨hq1, rfl⟩
  have k1 := grown_of_below hq1 none
  have hz2 := hq1.size
  have hb2 := below_g0 hb1 k1
  have hz3 := hb2.size
  refine st (s_not rfl ?_)
  refine r_end ?_
  refine n_then ?_
  refine w_cond rfl (fun h1 => ?_) (fun h1 => ?_)
  · have hc2 := nv_cut (by simpa using h1)
    refine w_skip' ?_
    refine n_then ?_
    refine w_block ?_
    refine w_region ?_
    refine st (s_move rfl ?_)
    refine st (s_move rfl ?_)
    refine st (s_len sl32 rfl (hv.at0 hb2) ?_)
    refine st (s_sub rfl rfl (by omega) ?_)
    refine st (s_slhi sl32 rfl rfl (hv.at0 hb2) (by first | omega | (simp; omega)) (by first | omega | (simp; omega)) ?_)
    intro v1 hS1
    refine st (s_assign rfl ?_)
    refine r_end ?_
    refine n_block ?_
    exact n_round ((v1), (ys.take (((ys.length : Int) - 1)).toNat)) ⟨hb2, (hS1).orig u32_flat hb2, by rw [show ((ys.length : Int) - 1).toNat = ys.length - 1 by omega]; exact hc2.2.trans hn⟩ (by simp; omega) (by exact ⟨rfl, rfl, trivial⟩)
  · have hc3 : rightB ys = true := by simpa using h1
    refine w_exit' ?_
    refine n_then_exit ?_
    refine n_then_exit ?_
    refine n_block_exit ?_
    refine n_then ?_
    refine w_seq ?_
    refine w_region ?_
    refine st (s_move rfl ?_)
    refine st (s_assign rfl ?_)
    refine r_end ?_
    refine n_then ?_
    refine w_ret1 rfl rfl ?_
    exact ⟨_, rfl, hb2, by rw [← hn, tl_nv (lim_sl hv) hc3]; exact hv⟩

theorem clone_any {w : World} {a : Value} {xs : List Int} (ha : Sl Kd.u32 w (fun _ => False) a xs) (hlen : xs.length ≤ 1000000000) :
    Calls Try.prog 72 [a].toArray w (Pure w fun v W => Gw.Own Kd.u32 44 w.heap.size W (fun _ => False) v xs) := by
  have hb0 := Below.refl w.heap.size w
  have hln1 := ha.lenle
  refine enter Try.func72 rfl rfl ?_
  refine w_seq ?_
  refine w_region ?_
  refine st (s_assign rfl ?_)
  refine r_end ?_
  refine n_then ?_
  refine w_seq ?_
  refine w_seq ?_
  refine w_region ?_
  refine st (s_move rfl ?_)
  refine st (s_slnil sl32 rfl rfl (ha.at0 hb0) ?_)
  refine r_end ?_
  refine n_then ?_
  refine w_cond rfl (fun h1 => ?_) (fun h1 => ?_)
  · refine w_seq ?_
    refine w_region ?_
    refine st (s_assign rfl ?_)
    refine r_end ?_
    refine n_then ?_
    refine w_ret1 rfl rfl ?_
    have e := nil_of_nilS (ha.at0 hb0) h1
    subst e
    exact ⟨_, rfl, hb0, Own.nil _ _ _ _ _⟩
  · refine w_skip' ?_
    refine n_then ?_
    refine w_seq ?_
    refine w_region ?_
    refine st (s_bslice0 (K := Kd.u32) (base := w.heap.size) (F := (fun _ => False)) sl32 (by omega) (fun _ h => h.elim) ?_)
    intro v1 w1 hO1 k1
    have hb1 := below_g0 hb0 k1
    have hz1 := hb1.size
    refine st (s_move rfl ?_)
    refine st (s_append (K := Kd.u32) sl32 rfl rfl hO1 ((ha.at0 hb1).weak (fun k hk h => h.elim (fun h => by first | exact h.elim | exact h | exact Or.inl h) (fun h => by have h9 := (hO1.lt k h).1; first | exact Or.inr h9 | (simp [Loc]; omega)))) u32_ones (by simp; omega) (by simp; omega) (by first | exact Nat.le_refl _ | omega) (fun _ h => h.elim) ?_)
    intro v2 w2 hO2 k2 hr1
    rw [List.nil_append] at hO2
    have hb2 := hb1.grown k2 hb1.size (fun k_ hk_ => (hO1.lt k_ hk_).1)
    have hz2 := hb2.size
    refine st (s_assign rfl ?_)
    refine r_end ?_
    refine n_then ?_
    refine w_ret1 rfl rfl ?_
    exact ⟨_, rfl, hb2, hO2⟩

theorem norm_any {w : World} {a : Value} {xs : List Int} (ha : Sl Kd.u32 w (fun _ => False) a xs) (hlen : xs.length ≤ 1000000000) :
    Calls Try.prog 40 [a].toArray w (Pure w fun v W => Sl Kd.u32 W (fun _ => False) v (tl (nv xs))) := by
  have hb0 := Below.refl w.heap.size w
  have hln1 := ha.lenle
  refine enter Try.func40 rfl rfl ?_
  refine w_seq ?_
  refine w_region ?_
  refine st (s_assign rfl ?_)
  refine r_end ?_
  refine n_then ?_
  refine w_seq ?_
  refine w_region ?_
  refine st (s_move rfl ?_)
  refine st (s_call fn72 rfl (clone_any ((ha.at0 hb0)).none (by first | omega | (simp; done) | (simp; omega))) ?_)
  rintro v1 w1 ⟨hq1, hO2⟩
  have k1 := grown_of_below hq1 none
  have hz1 := hq1.size
  have hb1 := below_g0 hb0 k1
  have hz2 := hb1.size
  have hO1 := hO2.rebase (b' := w.heap.size) (by omega)
  refine st (s_call fn74 rfl (cut_any hO1.sl) ?_)
  rintro v2 w2 ⟨hq2, hS1⟩
  have k2 := grown_of_below hq2 none
  have hz3 := hq2.size
  have hb2 := below_g0 hb1 k2
  have hz4 := hb2.size
  have hO3 := hO1.g0 k2
  have hS2 := hS1.none.g0 k2
  refine st (s_assign rfl ?_)
  refine r_end ?_
  refine n_then ?_
  refine w_ret1 rfl rfl ?_
  exact ⟨_, rfl, hb2, hS2⟩

theorem back_any {w : World} {a : Value} {xs : List Int} (ha : Sl Kd.u32 w (fun _ => False) a xs) :
    Calls Try.prog 79 [a].toArray w (Pure w fun r W => ∃ gb, r = .func (.func 91) #[] #[.pointer (some ⟨gb, 0, none⟩)] ∧ w.heap.size ≤ gb ∧ Blk W gb 32 #[a]) := by
  have hb0 := Below.refl w.heap.size w
  have hln1 := ha.lenle
  refine enter Try.func79 rfl rfl ?_
  refine w_seq ?_
  refine w_region ?_
  refine st (s_box1 rfl ha.cells1 ?_)
  intro g1 w1 hg1 hB1 k1 hs1
  have hb1 := below_g0 hb0 k1
  refine st (s_assign rfl ?_)
  refine r_end ?_
  refine n_then ?_
  refine w_seq ?_
  refine w_region ?_
  refine st (s_func rfl rfl ?_)
  refine st (s_assign rfl ?_)
  refine r_end ?_
  refine n_then ?_
  refine w_ret1 rfl rfl ?_
  exact ⟨_, rfl, hb1, _, rfl, by omega, hB1⟩

theorem cmp_any {w : World} {a b : Value} {xs ys : List Int} (ha : Sl Kd.u32 w (fun _ => False) a xs) (hb : Sl Kd.u32 w (fun _ => False) b ys) :
    Calls Try.prog 28 [a, b].toArray w (Pure w fun v _ => v = .int .i64 (cmpI (nv xs) (nv ys))) := by
  have hb0 := Below.refl w.heap.size w
  have hln1 := ha.lenle
  have hln2 := hb.lenle
  refine menter 10 Try.func28 rfl rfl ?_
  refine w_seq ?_
  refine w_region ?_
  refine st (s_box1 rfl hb.cells1 ?_)
  intro g1 w1 hg1 hB1 k1 hs1
  have hb1 := below_g0 hb0 k1
  refine st (s_alloc zero3 ?_)
  intro g2 w2 hg2 hB2 k2 hs2
  have hb2 := below_g0 hb1 k2
  refine r_end ?_
  refine n_then ?_
  refine w_seq ?_
  refine w_drawE 5 (fun a b => a.grownBy b none) [(some 7, fun v _ => v = a), (some 8, fun v _ => Sl Kd.u32 w (fun _ => False) v (tl (nv xs))), (some 9, fun v _ => Sl Kd.u32 w (fun _ => False) v ys), (some 10, fun v _ => Sl Kd.u32 w (fun _ => False) v (tl (nv ys))), (some 0, fun v _ => Sl Kd.u32 w (fun _ => False) v (tl (nv xs)))] [[], [0], [], [2], [1]] [(3, .pointer (some ⟨g1, 0, none⟩)), (4, .pointer (some ⟨g2, 0, none⟩))] [(0, a)] [true, false, false, false, false] (by exact ⟨rfl, rfl, trivial⟩) (by exact ⟨rfl, trivial⟩) (by kernel_rfl) (by kernel_rfl) (by kernel_rfl) (by kernel_rfl) grown_none_refl (fun _ _ _ => grown_none_trans) ⟨fun _ _ _ h _ => h, fun _ _ _ h _ => h, fun _ _ _ h _ => h, fun _ _ _ h _ => h, fun _ _ _ h _ => h, trivial⟩ ?_
  intro w5 k5 hs3
  have hb3 := below_g0 hb2 k5
  refine ⟨⟨?_, ?_, ?_, ?_, ?_, trivial⟩, ?_⟩
  · intro w6 k6
    have hb4 := below_g0 hb3 k6
    refine op1 (s_move rfl ?_)
    exact ⟨rfl, grown_none_refl _⟩
  · intro w7 k7
    have hb5 := below_g0 hb3 k7
    intro v_ hv_; subst v_
    refine op1 (s_call fn74 rfl (cut_any (ha.at0 hb5)) ?_)
    rintro v3 w8 ⟨hq3, hS5⟩
    have hS6 := hS5.orig u32_flat hb5
    have k8 := grown_of_below hq3 none
    have hz1 := hq3.size
    have hb6 := below_g0 hb5 k8
    have hz2 := hb6.size
    exact ⟨hS6, k8⟩
  · intro w9 k9
    have hb7 := below_g0 hb3 k9
    refine op1 (s_load one32 rfl (((hB1.g0 k2).g0 k5).g0 k9).range (j := 0) rfl ?_)
    exact ⟨hb, grown_none_refl _⟩
  · intro w10 k10
    have hb8 := below_g0 hb3 k10
    intro v4 hS7
    refine op1 (s_call fn74 rfl (cut_any (hS7.at0 hb8)) ?_)
    rintro v5 w11 ⟨hq4, hS8⟩
    have hS9 := hS8.orig u32_flat hb8
    have k11 := grown_of_below hq4 none
    have hz3 := hq4.size
    have hb9 := below_g0 hb8 k11
    have hz4 := hb9.size
    exact ⟨hS9, k11⟩
  · intro w12 k12
    have hb10 := below_g0 hb3 k12
    intro v6 hS10
    refine op1 (s_assign rfl ?_)
    exact ⟨hS10, grown_none_refl _⟩
  · intro w13 k13
    have hb11 := below_g0 hb3 k13
    intro v_ hv_; subst v_
    intro v7 hS11
    intro v8 hS12
    intro v9 hS13
    intro v10 hS14
    refine st0 (s_store one32 rfl rfl (hS13.one) (((hB1.g0 k2).g0 k5).g0 k13) (of_decide_eq_true rfl) ?_)
    intro w14 hB3 k14 hs4
    have hb12 := below_g hb11 k14 (by omega)
    refine r_end ?_
    refine n_then ?_
    refine w_seq ?_
    refine w_seq ?_
    refine w_region ?_
    refine st (s_move rfl ?_)
    refine st (s_len sl32 rfl (hS14.at0 hb12) ?_)
    refine st (s_load one32 rfl hB3.range (j := 0) rfl ?_)
    refine st (s_len sl32 rfl (hS13.at0 hb12) ?_)
    refine st (s_ne rfl rfl ?_)
    refine r_end ?_
    refine n_then ?_
    refine w_condP rfl (fun h1 => ?_) (fun h1 => ?_)
    · refine w_seq ?_
      refine w_seq ?_
      refine w_region ?_
      refine st (s_move rfl ?_)
      refine st (s_len sl32 rfl (hS14.at0 hb12) ?_)
      refine st (s_load one32 rfl hB3.range (j := 0) rfl ?_)
      refine st (s_len sl32 rfl (hS13.at0 hb12) ?_)
      refine st (s_lt rfl rfl ?_)
      refine r_end ?_
      refine n_then ?_
      refine w_condP rfl (fun h2 => ?_) (fun h2 => ?_)
      · refine w_seq ?_
        refine w_region ?_
        refine st0 (s_store one3 rfl rfl rfl (((hB2.g0 k5).g0 k13).gne k14 (by omega)) (of_decide_eq_true rfl) ?_)
        intro w15 hB4 k15 hs5
        have hb13 := below_g hb12 k15 (by omega)
        refine r_end ?_
        refine n_then ?_
        refine w_ret' ?_
        refine n_then_ret ?_
        refine n_then_ret ?_
        exact m_retc rfl one3 rfl hB4 rfl ⟨_, rfl, hb13, by rw [cmpI_lt (cmp_len (nv_nonneg (lim_sl ha)) (nv_nonneg (lim_sl hb)) (by omega))]; rfl⟩
      · refine w_skip' ?_
        refine n_then ?_
        refine w_seq ?_
        refine w_region ?_
        refine st0 (s_store one3 rfl rfl rfl (((hB2.g0 k5).g0 k13).gne k14 (by omega)) (of_decide_eq_true rfl) ?_)
        intro w16 hB5 k16 hs6
        have hb14 := below_g hb12 k16 (by omega)
        refine r_end ?_
        refine n_then ?_
        refine w_ret' ?_
        refine n_then_ret ?_
        exact m_retc rfl one3 rfl hB5 rfl ⟨_, rfl, hb14, by rw [cmpI_gt (cmp_len (nv_nonneg (lim_sl hb)) (nv_nonneg (lim_sl ha)) (by omega))]; rfl⟩
    · refine w_skip' ?_
      refine n_then ?_
      refine w_seq ?_
      refine w_seq ?_
      refine w_region ?_
      refine st (s_move rfl ?_)
      refine st (s_call fn79 rfl (back_any ((hS14.at0 hb12)).none) ?_)
      rintro _ w17 ⟨hq5, gb1, rfl, hg3, hB6⟩
      have k17 := grown_of_below hq5 none
      have hz5 := hq5.size
      have hb15 := below_g0 hb12 k17
      have hz6 := hb15.size
      refine r_end ?_
      refine n_then ?_
      refine w_block ?_
      have hzz1 := k1.size
      have hzz2 := k2.size
      have hzz3 := k5.size
      have hzz4 := k13.size
      have hzz5 := k14.size
      have hzz6 := k17.size
      refine i_range (xs := (tl (nv xs))) (n0 := w.heap.size) rfl fn91 (back_stops hS14 hb15 hB6) (hB6.lt) (by omega) (fun pre W => (∀ p ∈ pre, p.1.2 = ix (tl (nv ys)) p.1.1) ∧ Below w.heap.size w W ∧ Blk W g2 3 #[.int .i64 0] ∧ Blk W g1 32 #[v9]) (fun c pre W => c = .ret ∧ ∃ (pre0 : List (LX (tl (nv xs)))) (x : LX (tl (nv xs))) (r : Int), pre = pre0 ++ [x] ∧ (∀ p ∈ pre0, p.1.2 = ix (tl (nv ys)) p.1.1) ∧ ((r = -1 ∧ x.1.2 < ix (tl (nv ys)) x.1.1) ∨ (r = 1 ∧ ix (tl (nv ys)) x.1.1 < x.1.2)) ∧ Below w.heap.size w W ∧ Blk W g2 3 #[.int .i64 r]) (fun s A B row h hg hr => ⟨h.1, Below.ownK h.2.1 (Nat.le_refl _) (by omega) hg hr, h.2.2.1.ownK hg hr, h.2.2.2.ownK hg hr⟩) (fun c s A B row h hg hr => by
          obtain ⟨rfl, pre0, x, r, e, h1, h2, h3, h4⟩ := h
          exact ⟨rfl, pre0, x, r, e, h1, h2, Below.ownK h3 (Nat.le_refl _) (by omega) hg hr, h4.ownK hg hr⟩) (⟨fun p hp => by (cases hp), hb15, ((((hB2.g0 k5).g0 k13).gne k14 (by omega)).g0 k17), (hB3.g0 k17)⟩) (fun x => [(3, .pointer (some ⟨g1, 0, none⟩)), (4, .pointer (some ⟨g2, 0, none⟩)), (5, .int .i64 x.1.1), (6, .int .u32 x.1.2), (22, .func (.func 91) #[] #[.pointer (some ⟨gb1, 0, none⟩)])]) (fun l x W => ?_) (fun l pre x W hl hi hlen => ?_) (fun Dk zs W hD hS hi hK => ?_) (fun Dk c pre W hD hS hi hK => ?_)
      · refine i_seq ?_
        refine i_region ?_
        refine ist (s_assign rfl ?_)
        refine i_end ?_
        refine in_then ?_
        refine i_region ?_
        refine ist (s_assign rfl ?_)
        refine i_end ?_
        exact n_set (by exact ⟨rfl, rfl, rfl, rfl, rfl, trivial⟩)
      · obtain ⟨hpe, hbW, hrW, hgW⟩ := hi
        have hzW := hbW.size
        obtain ⟨hx0, hx1, hx2⟩ := x.2
        refine i_block ?_
        refine i_block ?_
        refine i_seq ?_
        refine i_region ?_
        refine ist (s_move rfl ?_)
        refine ist (s_load one32 rfl hgW.range (j := 0) rfl ?_)
        refine ist (s_move rfl ?_)
        refine ist (s_idx sl32 rfl rfl (hS13.at0 hbW) (by omega) (by omega) ?_)
        rintro b1 o1 _ ⟨rfl, hr1⟩ hc1 hF1 hlt1
        have hl_1 := Loc.lt hF1
        refine ist (s_load one44 rfl hc1 (j := 0) rfl ?_)
        refine ist (s_lt rfl rfl ?_)
        refine ist (s_assign rfl ?_)
        refine i_end ?_
        refine in_then ?_
        refine i_condP rfl (fun h3 => ?_) (fun h3 => ?_)
        · refine i_seq ?_
          refine i_region ?_
          refine ist0 (s_store one3 rfl rfl rfl hrW (of_decide_eq_true rfl) ?_)
          intro w18 hB7 k18 hs7
          have hb16 := below_g hbW k18 (by omega)
          clear hrW
          refine i_end ?_
          refine in_then ?_
          refine i_ret ?_
          refine n_block_ret ?_
          refine n_block_ret ?_
          exact n_own_ret ⟨KeepsFrom.of_grownBy k18 (fun j e => by cases e; omega), rfl, pre, x, _, rfl, hpe, .inl ⟨rfl, by omega⟩, hb16, hB7⟩
        · refine i_seq ?_
          refine i_region ?_
          refine ist (s_move rfl ?_)
          refine ist (s_load one32 rfl hgW.range (j := 0) rfl ?_)
          refine ist (s_move rfl ?_)
          refine ist (s_idx sl32 rfl rfl (hS13.at0 hbW) (by omega) (by omega) ?_)
          rintro b2 o2 _ ⟨rfl, hr2⟩ hc2 hF2 hlt2
          have hl_2 := Loc.lt hF2
          refine ist (s_load one44 rfl hc2 (j := 0) rfl ?_)
          refine ist (s_gt rfl rfl ?_)
          refine ist (s_assign rfl ?_)
          refine i_end ?_
          refine in_then ?_
          refine i_condP rfl (fun h4 => ?_) (fun h4 => ?_)
          · refine i_seq ?_
            refine i_region ?_
            refine ist0 (s_store one3 rfl rfl rfl hrW (of_decide_eq_true rfl) ?_)
            intro w19 hB8 k19 hs8
            have hb17 := below_g hbW k19 (by omega)
            clear hrW
            refine i_end ?_
            refine in_then ?_
            refine i_ret ?_
            refine n_block_ret ?_
            refine n_block_ret ?_
            exact n_own_ret ⟨KeepsFrom.of_grownBy k19 (fun j e => by cases e; omega), rfl, pre, x, _, rfl, hpe, .inr ⟨rfl, by omega⟩, hb17, hB8⟩
          · refine i_skip' ?_
            refine n_block ?_
            refine n_block ?_
            exact n_own ⟨KeepsFrom.refl _ _, ⟨rfl, Below.refl _ _⟩, fun p hp => by
                rcases List.mem_append.1 hp with hp | hp
                · exact hpe p hp
                · rw [List.mem_singleton.1 hp]; omega, hbW, hrW, hgW⟩
      · obtain ⟨hpe, hbW, hrW, hgW⟩ := hi
        have hzW := hbW.size
        have hneD : g2 ≠ Dk := by
          rintro rfl
          rw [show W.heap[_]? = _ from hrW] at hK
          cases hK
        refine n_block ?_
        refine n_then ?_
        refine w_seq ?_
        refine w_region ?_
        refine st0 (s_store one3 rfl rfl rfl hrW (of_decide_eq_true rfl) ?_)
        intro w20 hB9 k20 hs9
        have hb18 := below_g hbW k20 (by omega)
        clear hrW
        refine r_end ?_
        refine n_then ?_
        refine w_ret' ?_
        have hK2 := (k20.block Dk (Array.getElem?_eq_some_iff.1 hK).1 (fun e => hneD (by cases e; rfl))).trans hK
        exact m_retc' rfl one3 rfl hB9 rfl hK2 ⟨_, rfl, Below.mark hb18 (Nat.le_refl _) (by omega) hK2, by rw [cmp_full (nv_nonneg (lim_sl ha)) (nv_nonneg (lim_sl hb)) (by omega) hS hpe]; rfl⟩
      · obtain ⟨rfl, pre0, x, r, rfl, hpe, hr, hbW, hrW⟩ := hi
        obtain ⟨k, hk, hpk⟩ := hS
        refine w_ret' ?_
        refine n_block_ret ?_
        refine n_then_ret ?_
        have hst := cmp_stop (nv_nonneg (lim_sl ha)) (nv_nonneg (lim_sl hb)) (by omega) hpk hpe
        have hv : r = cmpI (nv xs) (nv ys) := hr.elim (fun h => by rw [h.1, hst.1 h.2]) (fun h => by rw [h.1, hst.2 h.2])
        exact m_retc' rfl one3 rfl hrW rfl hK ⟨_, rfl, Below.mark hbW (Nat.le_refl _) (by omega) hK, by rw [hv]; rfl⟩
end Go.Proofs.Ytencmmhfiepojaa

set_option maxRecDepth 20000
set_option linter.unusedSimpArgs false
set_option linter.unusedVariables false
namespace Go.Proofs.Ytencmmhfiepojaa
open Go.RowKit Go.Gw
theorem add32_any {w : World} {x y c : Int} (hx : 0 ≤ x ∧ x < 4294967296) (hy : 0 ≤ y ∧ y < 4294967296) (hc : 0 ≤ c ∧ c ≤ 1) :
    Calls Try.prog 78 [.int .u32 x, .int .u32 y, .int .u32 c].toArray w (Pure w fun v _ => v = .tuple #[.int .u32 ((x + y + c) % 4294967296), .int .u32 ((x + y + c) / 4294967296)]) := by
  have hb0 := Below.refl w.heap.size w
  refine enter Try.func78 rfl rfl ?_
  refine w_seq ?_
  refine w_region ?_
  refine st (s_assign rfl ?_)
  refine st (s_assign rfl ?_)
  refine r_end ?_
  refine n_then ?_
  refine w_seq ?_
  refine w_region ?_
  refine st (s_move rfl ?_)
  refine st (s_convk (M := 18446744073709551616) rfl rfl intk44 intk76 rfl (by omega) ?_)
  refine st (s_move rfl ?_)
  refine st (s_convk (M := 18446744073709551616) rfl rfl intk44 intk76 rfl (by omega) ?_)
  refine st (s_addk (M := 18446744073709551616) rfl rfl rfl rfl (by omega) ?_)
  refine st (s_move rfl ?_)
  refine st (s_convk (M := 18446744073709551616) rfl rfl intk44 intk76 rfl (by omega) ?_)
  refine st (s_addk (M := 18446744073709551616) rfl rfl rfl rfl (by omega) ?_)
  refine st (s_assign rfl ?_)
  refine r_end ?_
  refine n_then ?_
  refine w_seq ?_
  refine w_region ?_
  refine st (s_move rfl ?_)
  refine st (s_convm (M := 4294967296) rfl rfl intk76 intk44 rfl ?_)
  refine st (s_assign rfl ?_)
  refine r_end ?_
  refine n_then ?_
  refine w_seq ?_
  refine w_region ?_
  refine st (s_move rfl ?_)
  refine st (s_shrk (p := 4294967296) rfl rfl (by decide) (by decide) ?_)
  refine st (s_convm (M := 4294967296) rfl rfl intk76 intk44 rfl ?_)
  refine st (s_assign rfl ?_)
  refine r_end ?_
  refine n_then ?_
  refine w_ret2 rfl rfl rfl ?_
  exact ⟨_, rfl, hb0, by rw [show (x + y + c) / 4294967296 % 4294967296 = (x + y + c) / 4294967296 by omega]⟩

theorem sub32_any {w : World} {x y c : Int} (hx : 0 ≤ x ∧ x < 4294967296) (hy : 0 ≤ y ∧ y < 4294967296) (hc : 0 ≤ c ∧ c ≤ 1) :
    Calls Try.prog 73 [.int .u32 x, .int .u32 y, .int .u32 c].toArray w (Pure w fun v _ => v = .tuple #[.int .u32 ((x - y - c) % 4294967296), .int .u32 (if x < y + c then 1 else 0)]) := by
  have hb0 := Below.refl w.heap.size w
  refine enter Try.func73 rfl rfl ?_
  refine w_seq ?_
  refine w_region ?_
  refine st (s_assign rfl ?_)
  refine st (s_assign rfl ?_)
  refine r_end ?_
  refine n_then ?_
  refine w_seq ?_
  refine w_region ?_
  refine st (s_move rfl ?_)
  refine st (s_move rfl ?_)
  refine st (s_subk (M := 4294967296) rfl rfl rfl rfl ?_)
  refine st (s_move rfl ?_)
  refine st (s_subk (M := 4294967296) rfl rfl rfl rfl ?_)
  refine st (s_assign rfl ?_)
  refine r_end ?_
  refine n_then ?_
  refine w_seq ?_
  refine w_region ?_
  refine st (s_move rfl ?_)
  refine st (s_com32 rfl (by first | omega | exact ixor_lt (by omega) (by omega) | exact iand_lt (by omega) | exact iand_lt (ixor_lt (by omega) (by omega)) | exact ixor_lt (by omega) (ixor_lt (by omega) (by omega))) ?_)
  refine st (s_move rfl ?_)
  refine st (s_and (M := 4294967296) rfl rfl rfl rfl (by first | omega | exact ixor_lt (by omega) (by omega) | exact iand_lt (by omega) | exact iand_lt (ixor_lt (by omega) (by omega)) | exact ixor_lt (by omega) (ixor_lt (by omega) (by omega))) (by first | omega | exact ixor_lt (by omega) (by omega) | exact iand_lt (by omega) | exact iand_lt' (by omega)) ?_)
  refine st (s_move rfl ?_)
  refine st (s_move rfl ?_)
  refine st (s_xor (M := 4294967296) rfl rfl rfl rfl (by first | omega | exact ixor_lt (by omega) (by omega) | exact iand_lt (by omega) | exact iand_lt (ixor_lt (by omega) (by omega)) | exact ixor_lt (by omega) (ixor_lt (by omega) (by omega))) (by first | omega | exact ixor_lt (by omega) (by omega) | exact iand_lt (by omega) | exact iand_lt' (by omega)) ?_)
  refine st (s_com32 rfl (by first | omega | exact ixor_lt (by omega) (by omega) | exact iand_lt (by omega) | exact iand_lt (ixor_lt (by omega) (by omega)) | exact ixor_lt (by omega) (ixor_lt (by omega) (by omega))) ?_)
  refine st (s_move rfl ?_)
  refine st (s_and (M := 4294967296) rfl rfl rfl rfl (by first | omega | exact ixor_lt (by omega) (by omega) | exact iand_lt (by omega) | exact iand_lt (ixor_lt (by omega) (by omega)) | exact ixor_lt (by omega) (ixor_lt (by omega) (by omega))) (by first | omega | exact ixor_lt (by omega) (by omega) | exact iand_lt (by omega) | exact iand_lt' (by omega)) ?_)
  refine st (s_or (M := 4294967296) rfl rfl rfl rfl (by first | omega | exact ixor_lt (by omega) (by omega) | exact iand_lt (by omega) | exact iand_lt (ixor_lt (by omega) (by omega)) | exact ixor_lt (by omega) (ixor_lt (by omega) (by omega))) (by first | omega | exact ixor_lt (by omega) (by omega) | exact iand_lt (by omega) | exact iand_lt' (by omega)) ?_)
  refine st (s_shrk (p := 2147483648) rfl rfl (by decide) (by decide) ?_)
  refine st (s_assign rfl ?_)
  refine r_end ?_
  refine n_then ?_
  refine w_ret2 rfl rfl rfl ?_
  exact ⟨_, rfl, hb0, by rw [borrow_bit hx hy hc, show ((x - y) % 4294967296 - c) % 4294967296 = (x - y - c) % 4294967296 by omega]⟩

theorem add_any {w : World} {a b : Value} {xs ys : List Int} (ha : Sl Kd.u32 w (fun _ => False) a xs) (hb : Sl Kd.u32 w (fun _ => False) b ys) (hla : xs.length ≤ 100000) (hlb : ys.length ≤ 100000) :
    Calls Try.prog 26 [a, b].toArray w (Pure w fun v W => Sl Kd.u32 W (fun _ => False) v (tl (nv xs + nv ys))) := by
  have hb0 := Below.refl w.heap.size w
  have hln1 := ha.lenle
  have hln2 := hb.lenle
  refine enter Try.func26 rfl rfl ?_
  refine w_seq ?_
  refine w_region ?_
  refine st (s_assign rfl ?_)
  refine r_end ?_
  refine n_then ?_
  refine w_seq ?_
  refine w_seq ?_
  refine w_region ?_
  refine st (s_move rfl ?_)
  refine st (s_len sl32 rfl (ha.at0 hb0) ?_)
  refine st (s_move rfl ?_)
  refine st (s_len sl32 rfl (hb.at0 hb0) ?_)
  refine st (s_lt rfl rfl ?_)
  refine r_end ?_
  refine n_then ?_
  refine w_condP rfl (fun h1 => ?_) (fun h1 => ?_)
  · refine w_region ?_
    refine st (s_move rfl ?_)
    refine st (s_move rfl ?_)
    refine st (s_assign rfl ?_)
    refine st (s_assign rfl ?_)
    refine r_end ?_
    refine n_then ?_
    refine w_seq ?_
    refine w_region ?_
    refine st (s_move rfl ?_)
    refine st (s_len sl32 rfl (hb.at0 hb0) ?_)
    refine st (s_add rfl rfl (by omega) ?_)
    refine st (s_make (K := Kd.u32) (base := w.heap.size) (F := (fun _ => False)) sl32 rfl (by omega) (by omega) (by omega) (fun _ _ => ⟨rfl, by decide⟩) (by omega) (fun _ h => h.elim) ?_)
    intro v1 w1 hO1 k1
    have hb1 := below_g0 hb0 k1
    have hz1 := hb1.size
    refine st (s_assign rfl ?_)
    refine r_end ?_
    refine n_then ?_
    refine w_seq ?_
    refine w_region ?_
    refine st (s_assign rfl ?_)
    refine r_end ?_
    refine n_then ?_
    refine w_seq ?_
    refine w_seq ?_
    refine w_region ?_
    refine st (s_move rfl ?_)
    refine st (s_len sl32 rfl (hb.at0 hb1) ?_)
    refine st (s_move rfl ?_)
    refine r_end ?_
    refine n_then ?_
    refine w_block ?_
    refine w_loop (α := Int × List Int × Int) (fun ((i, os, c) : Int × List Int × Int) => [(0, b), (1, a), (4, .slice none 0 0), (5, v1), (6, .int .u32 c), (21, b), (22, .int .i64 (ys.length : Int)), (23, .int .i64 i)]) (fun ((i, os, c) : Int × List Int × Int) W => Below w.heap.size w W ∧ (0 ≤ i ∧ i ≤ (ys).length) ∧ ((os.length : Int) = (ys).length + 1) ∧ (0 ≤ c ∧ c ≤ 1) ∧ (Gw.Own Kd.u32 44 w.heap.size W (fun _ => False) v1 os) ∧ (nv (os.take i.toNat) + PW i.toNat * c = nv ((ys).take i.toNat) + nv ((xs).take i.toNat))) (fun ((i, os, c) : Int × List Int × Int) => ((ys).length - i).toNat) ((0), (List.replicate (((ys.length : Int) + 1)).toNat 0), (0)) ⟨hb1, by omega, by first | (simp; done) | (simp; omega), by omega, hO1, by simp [nv]⟩ (by exact ⟨rfl, rfl, rfl, rfl, rfl, rfl, rfl, rfl, trivial⟩) ?_
    rintro ⟨i, os, c⟩ w2 ⟨hb2, hi, hol, hc, hO, hn⟩
    dsimp only at *
    have hz2 := hb2.size
    have hxa := (lim_sl hb).ix i
    have hxb := (lim_sl ha).ix i
    refine w_seq ?_
    refine w_region ?_
    refine st (s_lt rfl rfl ?_)
    refine r_end ?_
    refine n_then ?_
    refine w_seq ?_
    refine w_condP rfl (fun h2 => ?_) (fun h2 => ?_)
    · refine w_skip' ?_
      refine n_then ?_
      refine w_seq ?_
      refine w_block ?_
      refine w_seq ?_
      refine w_region ?_
      refine st (s_move rfl ?_)
      refine st (s_idx sl32 rfl rfl (hb.at0 hb2) (by omega) (by omega) ?_)
      rintro b1 o1 _ ⟨rfl, hr1⟩ hc1 hF1 hlt1
      have hl_1 := Loc.lt hF1
      refine st (s_load one44 rfl hc1 (j := 0) rfl ?_)
      refine st (s_assign rfl ?_)
      refine st (s_assign rfl ?_)
      refine r_end ?_
      refine n_then ?_
      refine w_seq ?_
      refine w_region ?_
      refine st (s_assign rfl ?_)
      refine r_end ?_
      refine n_then ?_
      refine w_seq ?_
      refine w_seq ?_
      refine w_region ?_
      refine st (s_move rfl ?_)
      refine st (s_move rfl ?_)
      refine st (s_len sl32 rfl (ha.at0 hb2) ?_)
      refine st (s_lt rfl rfl ?_)
      refine r_end ?_
      refine n_then ?_
      refine w_condP rfl (fun h3 => ?_) (fun h3 => ?_)
      · refine w_region ?_
        refine st (s_move rfl ?_)
        refine st (s_move rfl ?_)
        refine st (s_idx sl32 rfl rfl (ha.at0 hb2) (by omega) (by omega) ?_)
        rintro b2 o2 _ ⟨rfl, hr2⟩ hc2 hF2 hlt2
        have hl_2 := Loc.lt hF2
        refine st (s_load one44 rfl hc2 (j := 0) rfl ?_)
        refine st (s_assign rfl ?_)
        refine r_end ?_
        refine n_then ?_
        refine w_region ?_
        refine st (s_move rfl ?_)
        refine st (s_move rfl ?_)
        refine st (s_move rfl ?_)
        refine st (s_move rfl ?_)
        refine st (s_move rfl ?_)
        refine st (s_call fn78 rfl (add32_any (by omega) (by omega) (by omega)) ?_)
        rintro _ w3 ⟨hq1, rfl⟩
        have k2 := grown_of_below hq1 none
        have hz3 := hq1.size
        have hb3 := below_g0 hb2 k2
        have hz4 := hb3.size
        have hO2 := hO.g0 k2
        refine st (s_move rfl ?_)
        refine st (s_extract rfl rfl ?_)
        refine st (s_extract rfl rfl ?_)
        refine st (s_oidx sl32 rfl rfl hO2 (by omega) (by first | omega | (simp; done) | (simp; omega)) ?_)
        intro g1 hg1 hl_3 hl_4
        refine st0 (s_ostore one44 rfl rfl rfl rfl hO2 hg1 (by omega) (by first | omega | (simp; done) | (simp; omega)) ⟨rfl, by omega⟩ ?_)
        intro w4 hO3 k3 hs1
        have hb4 := below_g hb3 k3 (by omega)
        refine st (s_assign rfl ?_)
        refine r_end ?_
        refine n_block ?_
        refine n_then ?_
        refine w_region ?_
        refine st (s_add rfl rfl (by omega) ?_)
        refine st (s_move rfl ?_)
        refine r_end ?_
        exact n_round (((i + 1)), (os.set (i).toNat (((ix ys i) + (ix xs i) + c) % 4294967296)), ((((ix ys i) + (ix xs i) + c) / 4294967296))) ⟨hb4, by omega, by simp; omega, by dsimp only; exact ⟨by omega, by omega⟩, hO3, add_step hn hi.1 (by omega) rfl rfl⟩ (by omega) (by exact ⟨rfl, rfl, rfl, rfl, rfl, rfl, rfl, rfl, trivial⟩)
      · refine w_skip' ?_
        refine n_then ?_
        refine w_region ?_
        refine st (s_move rfl ?_)
        refine st (s_move rfl ?_)
        refine st (s_move rfl ?_)
        refine st (s_move rfl ?_)
        refine st (s_move rfl ?_)
        refine st (s_call fn78 rfl (add32_any (by omega) (by omega) (by omega)) ?_)
        rintro _ w5 ⟨hq2, rfl⟩
        have k4 := grown_of_below hq2 none
        have hz5 := hq2.size
        have hb5 := below_g0 hb2 k4
        have hz6 := hb5.size
        have hO4 := hO.g0 k4
        refine st (s_move rfl ?_)
        refine st (s_extract rfl rfl ?_)
        refine st (s_extract rfl rfl ?_)
        refine st (s_oidx sl32 rfl rfl hO4 (by omega) (by first | omega | (simp; done) | (simp; omega)) ?_)
        intro g2 hg2 hl_5 hl_6
        refine st0 (s_ostore one44 rfl rfl rfl rfl hO4 hg2 (by omega) (by first | omega | (simp; done) | (simp; omega)) ⟨rfl, by omega⟩ ?_)
        intro w6 hO5 k5 hs2
        have hb6 := below_g hb5 k5 (by omega)
        refine st (s_assign rfl ?_)
        refine r_end ?_
        refine n_block ?_
        refine n_then ?_
        refine w_region ?_
        refine st (s_add rfl rfl (by omega) ?_)
        refine st (s_move rfl ?_)
        refine r_end ?_
        exact n_round (((i + 1)), (os.set (i).toNat (((ix ys i) + (0 : Int) + c) % 4294967296)), ((((ix ys i) + (0 : Int) + c) / 4294967296))) ⟨hb6, by omega, by simp; omega, by dsimp only; exact ⟨by omega, by omega⟩, hO5, add_step hn hi.1 (by omega) rfl (ix_over (by omega)).symm⟩ (by omega) (by exact ⟨rfl, rfl, rfl, rfl, rfl, rfl, rfl, rfl, trivial⟩)
    · refine w_exit' ?_
      refine n_then_exit ?_
      refine n_then_exit ?_
      refine n_block_exit ?_
      refine n_then ?_
      refine w_seq ?_
      refine w_region ?_
      refine st (s_move rfl ?_)
      refine st (s_move rfl ?_)
      refine st (s_len sl32 rfl (hb.at0 hb2) ?_)
      refine st (s_move rfl ?_)
      refine st (s_oidx sl32 rfl rfl hO (by omega) (by first | omega | (simp; done) | (simp; omega)) ?_)
      intro g3 hg3 hl_7 hl_8
      refine st0 (s_ostore one44 rfl rfl rfl rfl hO hg3 (by omega) (by first | omega | (simp; done) | (simp; omega)) ⟨rfl, by omega⟩ ?_)
      intro w7 hO6 k6 hs3
      have hb7 := below_g hb2 k6 (by omega)
      refine r_end ?_
      refine n_then ?_
      refine w_seq ?_
      refine w_region ?_
      refine st (s_move rfl ?_)
      refine st (s_call fn74 rfl (cut_any hO6.sl) ?_)
      rintro v2 w8 ⟨hq3, hS1⟩
      have k7 := grown_of_below hq3 none
      have hz7 := hq3.size
      have hb8 := below_g0 hb7 k7
      have hz8 := hb8.size
      have hO7 := hO6.g0 k7
      have hS2 := hS1.none.g0 k7
      refine st (s_assign rfl ?_)
      refine r_end ?_
      refine n_then ?_
      refine w_ret1 rfl rfl ?_
      have hend := add_end hn hi.1 (by omega) (by omega) (by omega)
      refine ⟨_, rfl, hb8, ?_⟩
      rw [Int.add_comm (nv xs), ← hend]
      exact hS2
  · refine w_skip' ?_
    refine n_then ?_
    refine w_seq ?_
    refine w_region ?_
    refine st (s_move rfl ?_)
    refine st (s_len sl32 rfl (ha.at0 hb0) ?_)
    refine st (s_add rfl rfl (by omega) ?_)
    refine st (s_make (K := Kd.u32) (base := w.heap.size) (F := (fun _ => False)) sl32 rfl (by omega) (by omega) (by omega) (fun _ _ => ⟨rfl, by decide⟩) (by omega) (fun _ h => h.elim) ?_)
    intro v3 w9 hO8 k8
    have hb9 := below_g0 hb0 k8
    have hz9 := hb9.size
    refine st (s_assign rfl ?_)
    refine r_end ?_
    refine n_then ?_
    refine w_seq ?_
    refine w_region ?_
    refine st (s_assign rfl ?_)
    refine r_end ?_
    refine n_then ?_
    refine w_seq ?_
    refine w_seq ?_
    refine w_region ?_
    refine st (s_move rfl ?_)
    refine st (s_len sl32 rfl (ha.at0 hb9) ?_)
    refine st (s_move rfl ?_)
    refine r_end ?_
    refine n_then ?_
    refine w_block ?_
    refine w_loop (α := Int × List Int × Int) (fun ((i, os, c) : Int × List Int × Int) => [(0, a), (1, b), (4, .slice none 0 0), (5, v3), (6, .int .u32 c), (21, a), (22, .int .i64 (xs.length : Int)), (23, .int .i64 i)]) (fun ((i, os, c) : Int × List Int × Int) W => Below w.heap.size w W ∧ (0 ≤ i ∧ i ≤ (xs).length) ∧ ((os.length : Int) = (xs).length + 1) ∧ (0 ≤ c ∧ c ≤ 1) ∧ (Gw.Own Kd.u32 44 w.heap.size W (fun _ => False) v3 os) ∧ (nv (os.take i.toNat) + PW i.toNat * c = nv ((xs).take i.toNat) + nv ((ys).take i.toNat))) (fun ((i, os, c) : Int × List Int × Int) => ((xs).length - i).toNat) ((0), (List.replicate (((xs.length : Int) + 1)).toNat 0), (0)) ⟨hb9, by omega, by first | (simp; done) | (simp; omega), by omega, hO8, by simp [nv]⟩ (by exact ⟨rfl, rfl, rfl, rfl, rfl, rfl, rfl, rfl, trivial⟩) ?_
    rintro ⟨i, os, c⟩ w10 ⟨hb10, hi, hol, hc, hO, hn⟩
    dsimp only at *
    have hz10 := hb10.size
    have hxa := (lim_sl ha).ix i
    have hxb := (lim_sl hb).ix i
    refine w_seq ?_
    refine w_region ?_
    refine st (s_lt rfl rfl ?_)
    refine r_end ?_
    refine n_then ?_
    refine w_seq ?_
    refine w_condP rfl (fun h4 => ?_) (fun h4 => ?_)
    · refine w_skip' ?_
      refine n_then ?_
      refine w_seq ?_
      refine w_block ?_
      refine w_seq ?_
      refine w_region ?_
      refine st (s_move rfl ?_)
      refine st (s_idx sl32 rfl rfl (ha.at0 hb10) (by omega) (by omega) ?_)
      rintro b3 o3 _ ⟨rfl, hr3⟩ hc3 hF3 hlt3
      have hl_9 := Loc.lt hF3
      refine st (s_load one44 rfl hc3 (j := 0) rfl ?_)
      refine st (s_assign rfl ?_)
      refine st (s_assign rfl ?_)
      refine r_end ?_
      refine n_then ?_
      refine w_seq ?_
      refine w_region ?_
      refine st (s_assign rfl ?_)
      refine r_end ?_
      refine n_then ?_
      refine w_seq ?_
      refine w_seq ?_
      refine w_region ?_
      refine st (s_move rfl ?_)
      refine st (s_move rfl ?_)
      refine st (s_len sl32 rfl (hb.at0 hb10) ?_)
      refine st (s_lt rfl rfl ?_)
      refine r_end ?_
      refine n_then ?_
      refine w_condP rfl (fun h5 => ?_) (fun h5 => ?_)
      · refine w_region ?_
        refine st (s_move rfl ?_)
        refine st (s_move rfl ?_)
        refine st (s_idx sl32 rfl rfl (hb.at0 hb10) (by omega) (by omega) ?_)
        rintro b4 o4 _ ⟨rfl, hr4⟩ hc4 hF4 hlt4
        have hl_10 := Loc.lt hF4
        refine st (s_load one44 rfl hc4 (j := 0) rfl ?_)
        refine st (s_assign rfl ?_)
        refine r_end ?_
        refine n_then ?_
        refine w_region ?_
        refine st (s_move rfl ?_)
        refine st (s_move rfl ?_)
        refine st (s_move rfl ?_)
        refine st (s_move rfl ?_)
        refine st (s_move rfl ?_)
        refine st (s_call fn78 rfl (add32_any (by omega) (by omega) (by omega)) ?_)
        rintro _ w11 ⟨hq4, rfl⟩
        have k9 := grown_of_below hq4 none
        have hz11 := hq4.size
        have hb11 := below_g0 hb10 k9
        have hz12 := hb11.size
        have hO9 := hO.g0 k9
        refine st (s_move rfl ?_)
        refine st (s_extract rfl rfl ?_)
        refine st (s_extract rfl rfl ?_)
        refine st (s_oidx sl32 rfl rfl hO9 (by omega) (by first | omega | (simp; done) | (simp; omega)) ?_)
        intro g4 hg4 hl_11 hl_12
        refine st0 (s_ostore one44 rfl rfl rfl rfl hO9 hg4 (by omega) (by first | omega | (simp; done) | (simp; omega)) ⟨rfl, by omega⟩ ?_)
        intro w12 hO10 k10 hs4
        have hb12 := below_g hb11 k10 (by omega)
        refine st (s_assign rfl ?_)
        refine r_end ?_
        refine n_block ?_
        refine n_then ?_
        refine w_region ?_
        refine st (s_add rfl rfl (by omega) ?_)
        refine st (s_move rfl ?_)
        refine r_end ?_
        exact n_round (((i + 1)), (os.set (i).toNat (((ix xs i) + (ix ys i) + c) % 4294967296)), ((((ix xs i) + (ix ys i) + c) / 4294967296))) ⟨hb12, by omega, by simp; omega, by dsimp only; exact ⟨by omega, by omega⟩, hO10, add_step hn hi.1 (by omega) rfl rfl⟩ (by omega) (by exact ⟨rfl, rfl, rfl, rfl, rfl, rfl, rfl, rfl, trivial⟩)
      · refine w_skip' ?_
        refine n_then ?_
        refine w_region ?_
        refine st (s_move rfl ?_)
        refine st (s_move rfl ?_)
        refine st (s_move rfl ?_)
        refine st (s_move rfl ?_)
        refine st (s_move rfl ?_)
        refine st (s_call fn78 rfl (add32_any (by omega) (by omega) (by omega)) ?_)
        rintro _ w13 ⟨hq5, rfl⟩
        have k11 := grown_of_below hq5 none
        have hz13 := hq5.size
        have hb13 := below_g0 hb10 k11
        have hz14 := hb13.size
        have hO11 := hO.g0 k11
        refine st (s_move rfl ?_)
        refine st (s_extract rfl rfl ?_)
        refine st (s_extract rfl rfl ?_)
        refine st (s_oidx sl32 rfl rfl hO11 (by omega) (by first | omega | (simp; done) | (simp; omega)) ?_)
        intro g5 hg5 hl_13 hl_14
        refine st0 (s_ostore one44 rfl rfl rfl rfl hO11 hg5 (by omega) (by first | omega | (simp; done) | (simp; omega)) ⟨rfl, by omega⟩ ?_)
        intro w14 hO12 k12 hs5
        have hb14 := below_g hb13 k12 (by omega)
        refine st (s_assign rfl ?_)
        refine r_end ?_
        refine n_block ?_
        refine n_then ?_
        refine w_region ?_
        refine st (s_add rfl rfl (by omega) ?_)
        refine st (s_move rfl ?_)
        refine r_end ?_
        exact n_round (((i + 1)), (os.set (i).toNat (((ix xs i) + (0 : Int) + c) % 4294967296)), ((((ix xs i) + (0 : Int) + c) / 4294967296))) ⟨hb14, by omega, by simp; omega, by dsimp only; exact ⟨by omega, by omega⟩, hO12, add_step hn hi.1 (by omega) rfl (ix_over (by omega)).symm⟩ (by omega) (by exact ⟨rfl, rfl, rfl, rfl, rfl, rfl, rfl, rfl, trivial⟩)
    · refine w_exit' ?_
      refine n_then_exit ?_
      refine n_then_exit ?_
      refine n_block_exit ?_
      refine n_then ?_
      refine w_seq ?_
      refine w_region ?_
      refine st (s_move rfl ?_)
      refine st (s_move rfl ?_)
      refine st (s_len sl32 rfl (ha.at0 hb10) ?_)
      refine st (s_move rfl ?_)
      refine st (s_oidx sl32 rfl rfl hO (by omega) (by first | omega | (simp; done) | (simp; omega)) ?_)
      intro g6 hg6 hl_15 hl_16
      refine st0 (s_ostore one44 rfl rfl rfl rfl hO hg6 (by omega) (by first | omega | (simp; done) | (simp; omega)) ⟨rfl, by omega⟩ ?_)
      intro w15 hO13 k13 hs6
      have hb15 := below_g hb10 k13 (by omega)
      refine r_end ?_
      refine n_then ?_
      refine w_seq ?_
      refine w_region ?_
      refine st (s_move rfl ?_)
      refine st (s_call fn74 rfl (cut_any hO13.sl) ?_)
      rintro v4 w16 ⟨hq6, hS3⟩
      have k14 := grown_of_below hq6 none
      have hz15 := hq6.size
      have hb16 := below_g0 hb15 k14
      have hz16 := hb16.size
      have hO14 := hO13.g0 k14
      have hS4 := hS3.none.g0 k14
      refine st (s_assign rfl ?_)
      refine r_end ?_
      refine n_then ?_
      refine w_ret1 rfl rfl ?_
      have hend := add_end hn hi.1 (by omega) (by omega) (by omega)
      refine ⟨_, rfl, hb16, ?_⟩
      rw [← hend]
      exact hS4
end Go.Proofs.Ytencmmhfiepojaa

set_option maxRecDepth 20000
set_option linter.unusedSimpArgs false
set_option linter.unusedVariables false
namespace Go.Proofs.Ytencmmhfiepojaa
open Go.RowKit Go.Gw
theorem sub_any {w : World} {a b : Value} {xs ys : List Int} (ha : Sl Kd.u32 w (fun _ => False) a xs) (hb : Sl Kd.u32 w (fun _ => False) b ys) (hla : xs.length ≤ 100000) (hlb : ys.length ≤ 100000) :
    Calls Try.prog 23 [a, b].toArray w (Pure w fun r W => ∃ v, r = .tuple #[v, .bool (decide (nv ys ≤ nv xs))] ∧ Sl Kd.u32 W (fun _ => False) v (tl (nv xs - nv ys))) := by
  have hb0 := Below.refl w.heap.size w
  have hln1 := ha.lenle
  have hln2 := hb.lenle
  refine enter Try.func23 rfl rfl ?_
  refine w_seq ?_
  refine w_region ?_
  refine st (s_assign rfl ?_)
  refine st (s_assign rfl ?_)
  refine r_end ?_
  refine n_then ?_
  refine w_seq ?_
  refine w_seq ?_
  refine w_region ?_
  refine st (s_move rfl ?_)
  refine st (s_move rfl ?_)
  refine st (s_call fn28 rfl (cmp_any ((ha.at0 hb0)).none ((hb.at0 hb0)).none) ?_)
  rintro _ w1 ⟨hq1, rfl⟩
  have k1 := grown_of_below hq1 none
  have hz1 := hq1.size
  have hb1 := below_g0 hb0 k1
  have hz2 := hb1.size
  refine st (s_lt rfl rfl ?_)
  refine r_end ?_
  refine n_then ?_
  refine w_condP rfl (fun h1 => ?_) (fun h1 => ?_)
  · refine w_seq ?_
    refine w_region ?_
    refine st (s_assign rfl ?_)
    refine st (s_assign rfl ?_)
    refine r_end ?_
    refine n_then ?_
    refine w_ret2 rfl rfl rfl ?_
    have hlt : nv xs < nv ys := by have := h1; unfold cmpI at this; split at this <;> (try split at this) <;> omega
    exact ⟨_, rfl, hb1, _, by rw [decide_eq_false (by omega)], by rw [tl_zero (by omega)]; exact (Own.nil Kd.u32 44 w.heap.size _ (fun _ => False)).sl⟩
  · refine w_skip' ?_
    refine n_then ?_
    refine w_seq ?_
    refine w_region ?_
    refine st (s_move rfl ?_)
    refine st (s_call fn72 rfl (clone_any ((ha.at0 hb1)).none (by first | omega | (simp; done) | (simp; omega))) ?_)
    rintro v1 w2 ⟨hq2, hO2⟩
    have k2 := grown_of_below hq2 none
    have hz3 := hq2.size
    have hb2 := below_g0 hb1 k2
    have hz4 := hb2.size
    have hO1 := hO2.rebase (b' := w.heap.size) (by omega)
    refine st (s_assign rfl ?_)
    refine r_end ?_
    refine n_then ?_
    refine w_seq ?_
    refine w_region ?_
    refine st (s_assign rfl ?_)
    refine r_end ?_
    refine n_then ?_
    refine w_seq ?_
    refine w_seq ?_
    refine w_region ?_
    refine st (s_move rfl ?_)
    refine st (s_len sl32 rfl hO1.sl ?_)
    refine st (s_move rfl ?_)
    refine r_end ?_
    refine n_then ?_
    refine w_block ?_
    refine w_loop (α := Int × List Int × Int) (fun ((i, os, c) : Int × List Int × Int) => [(1, b), (4, .slice none 0 0), (5, .bool false), (6, v1), (7, .int .u32 c), (17, .int .i64 (xs.length : Int)), (18, .int .i64 i)]) (fun ((i, os, c) : Int × List Int × Int) W => Below w.heap.size w W ∧ (0 ≤ i ∧ i ≤ xs.length) ∧ (os.length = xs.length) ∧ (0 ≤ c ∧ c ≤ 1) ∧ (Gw.Own Kd.u32 44 w.heap.size W (fun _ => False) v1 os) ∧ (nv (os.take i.toNat) = nv (xs.take i.toNat) - nv (ys.take i.toNat) + PW i.toNat * c) ∧ (∀ j : Int, i ≤ j → ix os j = ix xs j)) (fun ((i, os, c) : Int × List Int × Int) => (xs.length - i).toNat) ((0), (xs), (0)) ⟨hb2, by omega, rfl, by omega, hO1, by simp [nv], fun _ _ => rfl⟩ (by exact ⟨rfl, rfl, rfl, rfl, rfl, rfl, rfl, trivial⟩) ?_
    rintro ⟨i, os, c⟩ w3 ⟨hb3, hi, hol, hc, hO, hn, hd⟩
    dsimp only at *
    have hz5 := hb3.size
    have hxo := (lim_sl hO.sl).ix i
    have hxb := (lim_sl hb).ix i
    refine w_seq ?_
    refine w_region ?_
    refine st (s_lt rfl rfl ?_)
    refine r_end ?_
    refine n_then ?_
    refine w_seq ?_
    refine w_condP rfl (fun h2 => ?_) (fun h2 => ?_)
    · refine w_skip' ?_
      refine n_then ?_
      refine w_seq ?_
      refine w_block ?_
      refine w_seq ?_
      refine w_region ?_
      refine st (s_move rfl ?_)
      refine st (s_assign rfl ?_)
      refine r_end ?_
      refine n_then ?_
      refine w_seq ?_
      refine w_region ?_
      refine st (s_assign rfl ?_)
      refine r_end ?_
      refine n_then ?_
      refine w_seq ?_
      refine w_seq ?_
      refine w_region ?_
      refine st (s_move rfl ?_)
      refine st (s_move rfl ?_)
      refine st (s_len sl32 rfl (hb.at0 hb3) ?_)
      refine st (s_lt rfl rfl ?_)
      refine r_end ?_
      refine n_then ?_
      refine w_condP rfl (fun h3 => ?_) (fun h3 => ?_)
      · refine w_region ?_
        refine st (s_move rfl ?_)
        refine st (s_move rfl ?_)
        refine st (s_idx sl32 rfl rfl (hb.at0 hb3) (by omega) (by omega) ?_)
        rintro b1 o1 _ ⟨rfl, hr1⟩ hc1 hF1 hlt1
        have hl_1 := Loc.lt hF1
        refine st (s_load one44 rfl hc1 (j := 0) rfl ?_)
        refine st (s_assign rfl ?_)
        refine r_end ?_
        refine n_then ?_
        refine w_region ?_
        refine st (s_move rfl ?_)
        refine st (s_move rfl ?_)
        refine st (s_move rfl ?_)
        refine st (s_move rfl ?_)
        refine st (s_idx sl32 rfl rfl hO.sl (by omega) (by omega) ?_)
        rintro b2 o2 _ ⟨rfl, hr2⟩ hc2 hF2 hlt2
        refine st (s_load one44 rfl hc2 (j := 0) rfl ?_)
        refine st (s_move rfl ?_)
        refine st (s_move rfl ?_)
        refine st (s_call fn73 rfl (sub32_any (by omega) (by omega) (by omega)) ?_)
        rintro _ w4 ⟨hq3, rfl⟩
        have k3 := grown_of_below hq3 none
        have hz6 := hq3.size
        have hb4 := below_g0 hb3 k3
        have hz7 := hb4.size
        have hO3 := hO.g0 k3
        refine st (s_move rfl ?_)
        refine st (s_extract rfl rfl ?_)
        refine st (s_extract rfl rfl ?_)
        refine st (s_oidx sl32 rfl rfl hO3 (by omega) (by first | omega | (simp; done) | (simp; omega)) ?_)
        intro g1 hg1 hl_2 hl_3
        refine st0 (s_ostore one44 rfl rfl rfl rfl hO3 hg1 (by omega) (by first | omega | (simp; done) | (simp; omega)) ⟨rfl, by omega⟩ ?_)
        intro w5 hO4 k4 hs1
        have hb5 := below_g hb4 k4 (by omega)
        refine st (s_assign rfl ?_)
        refine r_end ?_
        refine n_block ?_
        refine n_then ?_
        refine w_region ?_
        refine st (s_add rfl rfl (by omega) ?_)
        refine st (s_move rfl ?_)
        refine r_end ?_
        exact n_round (((i + 1)), (os.set (i).toNat (((ix os i) - (ix ys i) - c) % 4294967296)), ((if (ix os i) < (ix ys i) + c then 1 else 0))) ⟨hb5, by omega, by simp; omega, by dsimp only; split <;> omega, hO4, sub_step hn hi.1 (by omega) (hd i (by omega)) rfl hxo hxb hc, fun j hj => by rw [ix_set_ne hi.1 (by omega) (by omega)]; exact hd j (by omega)⟩ (by omega) (by exact ⟨rfl, rfl, rfl, rfl, rfl, rfl, rfl, trivial⟩)
      · refine w_skip' ?_
        refine n_then ?_
        refine w_region ?_
        refine st (s_move rfl ?_)
        refine st (s_move rfl ?_)
        refine st (s_move rfl ?_)
        refine st (s_move rfl ?_)
        refine st (s_idx sl32 rfl rfl hO.sl (by omega) (by omega) ?_)
        rintro b3 o3 _ ⟨rfl, hr3⟩ hc3 hF3 hlt3
        refine st (s_load one44 rfl hc3 (j := 0) rfl ?_)
        refine st (s_move rfl ?_)
        refine st (s_move rfl ?_)
        refine st (s_call fn73 rfl (sub32_any (by omega) (by omega) (by omega)) ?_)
        rintro _ w6 ⟨hq4, rfl⟩
        have k5 := grown_of_below hq4 none
        have hz8 := hq4.size
        have hb6 := below_g0 hb3 k5
        have hz9 := hb6.size
        have hO5 := hO.g0 k5
        refine st (s_move rfl ?_)
        refine st (s_extract rfl rfl ?_)
        refine st (s_extract rfl rfl ?_)
        refine st (s_oidx sl32 rfl rfl hO5 (by omega) (by first | omega | (simp; done) | (simp; omega)) ?_)
        intro g2 hg2 hl_4 hl_5
        refine st0 (s_ostore one44 rfl rfl rfl rfl hO5 hg2 (by omega) (by first | omega | (simp; done) | (simp; omega)) ⟨rfl, by omega⟩ ?_)
        intro w7 hO6 k6 hs2
        have hb7 := below_g hb6 k6 (by omega)
        refine st (s_assign rfl ?_)
        refine r_end ?_
        refine n_block ?_
        refine n_then ?_
        refine w_region ?_
        refine st (s_add rfl rfl (by omega) ?_)
        refine st (s_move rfl ?_)
        refine r_end ?_
        exact n_round (((i + 1)), (os.set (i).toNat (((ix os i) - (0 : Int) - c) % 4294967296)), ((if (ix os i) < (0 : Int) + c then 1 else 0))) ⟨hb7, by omega, by simp; omega, by dsimp only; split <;> omega, hO6, sub_step hn hi.1 (by omega) (hd i (by omega)) (ix_over (by omega)).symm hxo (by decide) hc, fun j hj => by rw [ix_set_ne hi.1 (by omega) (by omega)]; exact hd j (by omega)⟩ (by omega) (by exact ⟨rfl, rfl, rfl, rfl, rfl, rfl, rfl, trivial⟩)
    · refine w_exit' ?_
      refine n_then_exit ?_
      refine n_then_exit ?_
      refine n_block_exit ?_
      refine n_then ?_
      refine w_seq ?_
      refine w_region ?_
      refine st (s_move rfl ?_)
      refine st (s_call fn74 rfl (cut_any hO.sl) ?_)
      rintro v2 w8 ⟨hq5, hS1⟩
      have k7 := grown_of_below hq5 none
      have hz10 := hq5.size
      have hb8 := below_g0 hb3 k7
      have hz11 := hb8.size
      have hO7 := hO.g0 k7
      have hS2 := hS1.none.g0 k7
      refine st (s_assign rfl ?_)
      refine st (s_assign rfl ?_)
      refine r_end ?_
      refine n_then ?_
      refine w_ret2 rfl rfl rfl ?_
      have hle : nv ys ≤ nv xs := by have := h1; unfold cmpI at this; split at this <;> (try split at this) <;> omega
      have hend := sub_end hn (by omega) hol hc (lim_sl hO.sl) (lim_sl ha) (lim_sl hb) hle
      exact ⟨_, rfl, hb8, _, by rw [decide_eq_true hle], by rw [← hend]; exact hS2⟩

theorem mul_any {w : World} {a : Value} {m c : Int} {xs : List Int} (ha : Sl Kd.u32 w (fun _ => False) a xs) (hm : 0 ≤ m ∧ m < 4294967296) (hc : 0 ≤ c ∧ c < 4294967296) (hla : xs.length ≤ 100000) :
    Calls Try.prog 44 [a, .int .u32 m, .int .u32 c].toArray w (Pure w fun v W => Sl Kd.u32 W (fun _ => False) v (tl (nv xs * m + c))) := by
  have hb0 := Below.refl w.heap.size w
  have hln1 := ha.lenle
  refine enter Try.func44 rfl rfl ?_
  refine w_seq ?_
  refine w_region ?_
  refine st (s_assign rfl ?_)
  refine r_end ?_
  refine n_then ?_
  refine w_seq ?_
  refine w_region ?_
  refine st (s_move rfl ?_)
  refine st (s_len sl32 rfl (ha.at0 hb0) ?_)
  refine st (s_add rfl rfl (by omega) ?_)
  refine st (s_make (K := Kd.u32) (base := w.heap.size) (F := (fun _ => False)) sl32 rfl (by omega) (by omega) (by omega) (fun _ _ => ⟨rfl, by decide⟩) (by omega) (fun _ h => h.elim) ?_)
  intro v1 w1 hO1 k1
  have hb1 := below_g0 hb0 k1
  have hz1 := hb1.size
  refine st (s_assign rfl ?_)
  refine r_end ?_
  refine n_then ?_
  refine w_seq ?_
  refine w_region ?_
  refine st (s_move rfl ?_)
  refine st (s_convk (M := 18446744073709551616) rfl rfl intk44 intk76 rfl (by omega) ?_)
  refine st (s_assign rfl ?_)
  refine r_end ?_
  refine n_then ?_
  refine w_seq ?_
  refine w_seq ?_
  refine w_region ?_
  refine st (s_move rfl ?_)
  refine st (s_len sl32 rfl (ha.at0 hb1) ?_)
  refine st (s_move rfl ?_)
  refine r_end ?_
  refine n_then ?_
  refine w_block ?_
  refine w_loop (α := Int × List Int × Int) (fun ((i, os, k) : Int × List Int × Int) => [(0, a), (1, .int .u32 m), (6, .slice none 0 0), (7, v1), (8, .int .u64 k), (17, a), (18, .int .i64 (xs.length : Int)), (19, .int .i64 i)]) (fun ((i, os, k) : Int × List Int × Int) W => Below w.heap.size w W ∧ (0 ≤ i ∧ i ≤ xs.length) ∧ ((os.length : Int) = xs.length + 1) ∧ (0 ≤ k ∧ k < 4294967296) ∧ (Gw.Own Kd.u32 44 w.heap.size W (fun _ => False) v1 os) ∧ (nv (os.take i.toNat) + PW i.toNat * k = nv (xs.take i.toNat) * m + c)) (fun ((i, os, k) : Int × List Int × Int) => (xs.length - i).toNat) ((0), (List.replicate (((xs.length : Int) + 1)).toNat 0), (c)) ⟨hb1, by omega, by first | (simp; done) | (simp; omega), by omega, hO1, by simp [nv, PW_zero]⟩ (by exact ⟨rfl, rfl, rfl, rfl, rfl, rfl, rfl, rfl, trivial⟩) ?_
  rintro ⟨i, os, k⟩ w2 ⟨hb2, hi, hol, hk, hO, hn⟩
  dsimp only at *
  have hz2 := hb2.size
  have hxa := (lim_sl ha).ix i
  have hmb := mul_bd hxa hm
  refine w_seq ?_
  refine w_region ?_
  refine st (s_lt rfl rfl ?_)
  refine r_end ?_
  refine n_then ?_
  refine w_seq ?_
  refine w_condP rfl (fun h1 => ?_) (fun h1 => ?_)
  · refine w_skip' ?_
    refine n_then ?_
    refine w_seq ?_
    refine w_block ?_
    refine w_seq ?_
    refine w_region ?_
    refine st (s_move rfl ?_)
    refine st (s_idx sl32 rfl rfl (ha.at0 hb2) (by omega) (by omega) ?_)
    rintro b1 o1 _ ⟨rfl, hr1⟩ hc1 hF1 hlt1
    have hl_1 := Loc.lt hF1
    refine st (s_load one44 rfl hc1 (j := 0) rfl ?_)
    refine st (s_assign rfl ?_)
    refine st (s_assign rfl ?_)
    refine r_end ?_
    refine n_then ?_
    refine w_seq ?_
    refine w_region ?_
    refine st (s_move rfl ?_)
    refine st (s_move rfl ?_)
    refine st (s_convk (M := 18446744073709551616) rfl rfl intk44 intk76 rfl (by omega) ?_)
    refine st (s_move rfl ?_)
    refine st (s_convk (M := 18446744073709551616) rfl rfl intk44 intk76 rfl (by omega) ?_)
    refine st (s_mulk (M := 18446744073709551616) rfl rfl rfl rfl (by omega) ?_)
    refine st (s_addk (M := 18446744073709551616) rfl rfl rfl rfl (by omega) ?_)
    refine st (s_assign rfl ?_)
    refine r_end ?_
    refine n_then ?_
    refine w_seq ?_
    refine w_region ?_
    refine st (s_move rfl ?_)
    refine st (s_move rfl ?_)
    refine st (s_move rfl ?_)
    refine st (s_convm (M := 4294967296) rfl rfl intk76 intk44 rfl ?_)
    refine st (s_oidx sl32 rfl rfl hO (by omega) (by first | omega | (simp; done) | (simp; omega)) ?_)
    intro g1 hg1 hl_2 hl_3
    refine st0 (s_ostore one44 rfl rfl rfl rfl hO hg1 (by omega) (by first | omega | (simp; done) | (simp; omega)) ⟨rfl, by omega⟩ ?_)
    intro w3 hO2 k2 hs1
    have hb3 := below_g hb2 k2 (by omega)
    refine r_end ?_
    refine n_then ?_
    refine w_region ?_
    refine st (s_move rfl ?_)
    refine st (s_shrk (p := 4294967296) rfl rfl (by decide) (by decide) ?_)
    refine st (s_assign rfl ?_)
    refine r_end ?_
    refine n_block ?_
    refine n_then ?_
    refine w_region ?_
    refine st (s_add rfl rfl (by omega) ?_)
    refine st (s_move rfl ?_)
    refine r_end ?_
    exact n_round (((i + 1)), (os.set (i).toNat ((k + ((ix xs i) * m)) % 4294967296)), (((k + ((ix xs i) * m)) / 4294967296))) ⟨hb3, by omega, by simp; omega, by dsimp only; omega, hO2, mul_step hn hi.1 (by omega)⟩ (by omega) (by exact ⟨rfl, rfl, rfl, rfl, rfl, rfl, rfl, rfl, trivial⟩)
  · refine w_exit' ?_
    refine n_then_exit ?_
    refine n_then_exit ?_
    refine n_block_exit ?_
    refine n_then ?_
    refine w_seq ?_
    refine w_region ?_
    refine st (s_move rfl ?_)
    refine st (s_move rfl ?_)
    refine st (s_len sl32 rfl (ha.at0 hb2) ?_)
    refine st (s_move rfl ?_)
    refine st (s_convm (M := 4294967296) rfl rfl intk76 intk44 rfl ?_)
    refine st (s_oidx sl32 rfl rfl hO (by omega) (by first | omega | (simp; done) | (simp; omega)) ?_)
    intro g2 hg2 hl_4 hl_5
    refine st0 (s_ostore one44 rfl rfl rfl rfl hO hg2 (by omega) (by first | omega | (simp; done) | (simp; omega)) ⟨rfl, by omega⟩ ?_)
    intro w4 hO3 k3 hs2
    have hb4 := below_g hb2 k3 (by omega)
    refine r_end ?_
    refine n_then ?_
    refine w_seq ?_
    refine w_region ?_
    refine st (s_move rfl ?_)
    refine st (s_call fn74 rfl (cut_any hO3.sl) ?_)
    rintro v2 w5 ⟨hq1, hS1⟩
    have k4 := grown_of_below hq1 none
    have hz3 := hq1.size
    have hb5 := below_g0 hb4 k4
    have hz4 := hb5.size
    have hO4 := hO3.g0 k4
    have hS2 := hS1.none.g0 k4
    refine st (s_assign rfl ?_)
    refine r_end ?_
    refine n_then ?_
    refine w_ret1 rfl rfl ?_
    have hend := mul_end hn hi.1 (by omega) (by omega)
    refine ⟨_, rfl, hb5, ?_⟩
    rw [← hend]
    rw [show k % 4294967296 = k by omega] at *
    exact hS2

theorem fits_any {w : World} {n : Int} :
    Calls Try.prog 80 [.int .i64 n].toArray w (Pure w fun v _ => v = .bool (fitB n)) := by
  have hb0 := Below.refl w.heap.size w
  refine enter Try.func80 rfl rfl ?_
  refine w_seq ?_
  refine w_region ?_
  refine st (s_assign rfl ?_)
  refine r_end ?_
  refine n_then ?_
  refine w_seq ?_
  refine w_region ?_
  refine st (s_move rfl ?_)
  refine st (s_ge rfl rfl ?_)
  refine st (s_move rfl ?_)
  refine r_caseP 5 rfl (fun h1 => ?_) (fun h1 => ?_)
  · refine stg (s_move rfl ?_)
    refine stg (s_le rfl rfl ?_)
    refine st (s_pick rfl rfl ?_)
    refine st (s_assign rfl ?_)
    refine r_end ?_
    refine n_then ?_
    refine w_ret1 rfl rfl ?_
    exact ⟨_, rfl, hb0, by unfold fitB; rw [decide_eq_true h1]; rfl⟩
  · refine s_pass rfl rfl ?_
    refine s_pass rfl rfl ?_
    refine st (s_pick rfl rfl ?_)
    refine st (s_assign rfl ?_)
    refine r_end ?_
    refine n_then ?_
    refine w_ret1 rfl rfl ?_
    exact ⟨_, rfl, hb0, by unfold fitB; rw [decide_eq_false h1]; rfl⟩

theorem shr_any {w : World} {a : Value} {n : Int} {xs : List Int} (ha : Sl Kd.u32 w (fun _ => False) a xs) (hla : xs.length ≤ 100000) :
    Calls Try.prog 32 [a, .int .i64 n].toArray w (Pure w fun v W => Sl Kd.u32 W (fun _ => False) v (shrL xs n)) := by
  have hb0 := Below.refl w.heap.size w
  have hln1 := ha.lenle
  refine enter Try.func32 rfl rfl ?_
  refine w_seq ?_
  refine w_region ?_
  refine st (s_assign rfl ?_)
  refine r_end ?_
  refine n_then ?_
  refine w_seq ?_
  refine w_seq ?_
  refine w_region ?_
  refine st (s_move rfl ?_)
  refine st (s_call fn80 rfl (fits_any) ?_)
  rintro _ w1 ⟨hq1, rfl⟩
  have k1 := grown_of_below hq1 none
  have hz1 := hq1.size
  have hb1 := below_g0 hb0 k1
  have hz2 := hb1.size
  refine st (s_not rfl ?_)
  refine st (s_move rfl ?_)
  refine r_case 11 rfl (fun h1 => ?_) (fun h1 => ?_)
  · have hft : fitB n = false := by simpa using h1
    refine s_pass rfl rfl ?_
    refine s_pass rfl rfl ?_
    refine s_pass rfl rfl ?_
    refine s_pass rfl rfl ?_
    refine s_pass rfl rfl ?_
    refine st (s_pick rfl rfl ?_)
    refine r_end ?_
    refine n_then ?_
    refine w_condT rfl ?_
    refine w_seq ?_
    refine w_region ?_
    refine st (s_assign rfl ?_)
    refine r_end ?_
    refine n_then ?_
    refine w_ret1 rfl rfl ?_
    exact ⟨_, rfl, hb1, by unfold shrL; rw [if_neg (by rw [hft]; decide)]; exact (Own.nil Kd.u32 44 w.heap.size _ (fun _ => False)).sl⟩
  · have hft : fitB n = true := by simpa using h1
    have hnb : 0 ≤ n ∧ n ≤ 10000 := by simpa [fitB] using hft
    refine stg (s_move rfl ?_)
    refine stg (s_quoi rfl rfl (by omega) (by omega) ?_)
    refine stg (s_move rfl ?_)
    refine stg (s_len sl32 rfl (ha.at0 hb1) ?_)
    refine stg (s_ge rfl rfl ?_)
    refine st (s_pick rfl rfl ?_)
    refine r_end ?_
    refine n_then ?_
    refine w_condP rfl (fun h2 => ?_) (fun h2 => ?_)
    · refine w_seq ?_
      refine w_region ?_
      refine st (s_assign rfl ?_)
      refine r_end ?_
      refine n_then ?_
      refine w_ret1 rfl rfl ?_
      exact ⟨_, rfl, hb1, by unfold shrL; rw [if_pos hft, shr_over (lim_sl ha) hnb.1 (by omega)]; exact (Own.nil Kd.u32 44 w.heap.size _ (fun _ => False)).sl⟩
    · refine w_skip' ?_
      refine n_then ?_
      refine w_seq ?_
      refine w_region ?_
      refine st (s_move rfl ?_)
      refine st (s_move rfl ?_)
      refine st (s_quoi rfl rfl (by omega) (by omega) ?_)
      refine st (s_sllo sl32 rfl rfl (ha.at0 hb1) (by first | omega | (simp; omega)) (by first | omega | (simp; omega)) ?_)
      intro v1 hS1
      refine st (s_call fn72 rfl (clone_any (hS1).none (by first | omega | (simp; done) | (simp; omega))) ?_)
      rintro v2 w2 ⟨hq2, hO2⟩
      have k2 := grown_of_below hq2 none
      have hz3 := hq2.size
      have hb2 := below_g0 hb1 k2
      have hz4 := hb2.size
      have hO1 := hO2.rebase (b' := w.heap.size) (by omega)
      refine st (s_assign rfl ?_)
      refine r_end ?_
      refine n_then ?_
      refine w_seq ?_
      refine w_seq ?_
      refine w_region ?_
      refine st (s_move rfl ?_)
      refine st (s_len sl32 rfl hO1.sl ?_)
      refine st (s_move rfl ?_)
      refine r_end ?_
      refine n_then ?_
      refine w_block ?_
      refine w_loop (α := Int × List Int) (fun ((i, os) : Int × List Int) => [(1, .int .i64 n), (4, .slice none 0 0), (5, v2), (24, .int .i64 ((xs.drop ((n / 32)).toNat).length : Int)), (25, .int .i64 i)]) (fun ((i, os) : Int × List Int) W => Below w.heap.size w W ∧ (0 ≤ i ∧ i ≤ (xs.drop (n / 32).toNat).length) ∧ (os.length = (xs.drop (n / 32).toNat).length) ∧ (Gw.Own Kd.u32 44 w.heap.size W (fun _ => False) v2 os) ∧ (nv (os.take i.toNat) + PW i.toNat * (nv ((xs.drop (n / 32).toNat).drop i.toNat) / 2 ^ (n % 32).toNat) = nv (xs.drop (n / 32).toNat) / 2 ^ (n % 32).toNat) ∧ (∀ j : Int, i ≤ j → ix os j = ix (xs.drop (n / 32).toNat) j)) (fun ((i, os) : Int × List Int) => ((xs.drop (n / 32).toNat).length - i).toNat) ((0), ((xs.drop ((n / 32)).toNat))) ⟨hb2, by omega, rfl, hO1, by simp [nv, PW_zero], fun _ _ => rfl⟩ (by exact ⟨rfl, rfl, rfl, rfl, rfl, trivial⟩) ?_
      rintro ⟨i, os⟩ w3 ⟨hb3, hi, hol, hO, hn, hd⟩
      dsimp only at *
      have hz5 := hb3.size
      have hxo := (lim_sl hO.sl).ix i
      have hxo2 := (lim_sl hO.sl).ix (i + 1)
      have hdl : (xs.drop (n / 32).toNat).length ≤ 100000 := by rw [List.length_drop]; omega
      refine w_seq ?_
      refine w_region ?_
      refine st (s_lt rfl rfl ?_)
      refine r_end ?_
      refine n_then ?_
      refine w_seq ?_
      refine w_condP rfl (fun h3 => ?_) (fun h3 => ?_)
      · refine w_skip' ?_
        refine n_then ?_
        refine w_seq ?_
        refine w_block ?_
        refine w_seq ?_
        refine w_region ?_
        refine st (s_move rfl ?_)
        refine st (s_assign rfl ?_)
        refine r_end ?_
        refine n_then ?_
        refine w_seq ?_
        refine w_region ?_
        refine st (s_assign rfl ?_)
        refine r_end ?_
        refine n_then ?_
        refine w_seq ?_
        refine w_seq ?_
        refine w_region ?_
        refine st (s_move rfl ?_)
        refine st (s_add rfl rfl (by omega) ?_)
        refine st (s_move rfl ?_)
        refine st (s_len sl32 rfl hO.sl ?_)
        refine st (s_lt rfl rfl ?_)
        refine r_end ?_
        refine n_then ?_
        refine w_condP rfl (fun h4 => ?_) (fun h4 => ?_)
        · refine w_region ?_
          refine st (s_move rfl ?_)
          refine st (s_move rfl ?_)
          refine st (s_add rfl rfl (by omega) ?_)
          refine st (s_idx sl32 rfl rfl hO.sl (by omega) (by omega) ?_)
          rintro b1 o1 _ ⟨rfl, hr1⟩ hc1 hF1 hlt1
          refine st (s_load one44 rfl hc1 (j := 0) rfl ?_)
          refine st (s_assign rfl ?_)
          refine r_end ?_
          refine n_then ?_
          refine w_region ?_
          refine st (s_move rfl ?_)
          refine st (s_move rfl ?_)
          refine st (s_move rfl ?_)
          refine st (s_convk (M := 18446744073709551616) rfl rfl intk44 intk76 rfl (by omega) ?_)
          refine st (s_shlk (M := 18446744073709551616) (p := 4294967296) rfl rfl rfl rfl (by decide) (by decide) ?_)
          refine st (s_move rfl ?_)
          refine st (s_move rfl ?_)
          refine st (s_idx sl32 rfl rfl hO.sl (by omega) (by omega) ?_)
          rintro b2 o2 _ ⟨rfl, hr2⟩ hc2 hF2 hlt2
          refine st (s_load one44 rfl hc2 (j := 0) rfl ?_)
          refine st (s_convk (M := 18446744073709551616) rfl rfl intk44 intk76 rfl (by omega) ?_)
          refine st (s_or (M := 18446744073709551616) rfl rfl rfl rfl (by omega) (by omega) ?_)
          refine st (s_move rfl ?_)
          refine st (s_remk rfl rfl (by omega) (by omega) ?_)
          refine st (s_shrk (p := (2 ^ ((n % 32)).toNat)) rfl rfl (by omega) (by rw [Nat.min_eq_left (by show ((n % 32)).toNat ≤ 64; omega)]) ?_)
          refine st (s_convm (M := 4294967296) rfl rfl intk76 intk44 rfl ?_)
          refine st (s_oidx sl32 rfl rfl hO (by omega) (by first | omega | (simp; done) | (simp; omega)) ?_)
          intro g1 hg1 hl_1 hl_2
          refine st0 (s_ostore one44 rfl rfl rfl rfl hO hg1 (by omega) (by first | omega | (simp; done) | (simp; omega)) ⟨rfl, by omega⟩ ?_)
          intro w4 hO3 k3 hs1
          have hb4 := below_g hb3 k3 (by omega)
          refine r_end ?_
          refine n_block ?_
          refine n_then ?_
          refine w_region ?_
          refine st (s_add rfl rfl (by omega) ?_)
          refine st (s_move rfl ?_)
          refine r_end ?_
          exact n_round (((i + 1)), (os.set (i).toNat (((ior (((ix os (i + 1)) * 4294967296) % 18446744073709551616) (ix os i)) / (2 ^ ((n % 32)).toNat)) % 4294967296))) ⟨hb4, by omega, by rw [List.length_set]; exact hol, hO3, shr_step (lim_sl ha |>.drop _) hn hi.1 (by omega) hol (two_pos _) (two_part (by omega) (by omega)) (hd i (by omega)) (hd (i + 1) (by omega)), fun j hj => by rw [ix_set_ne hi.1 (by omega) (by omega)]; exact hd j (by omega)⟩ (by omega) (by exact ⟨rfl, rfl, rfl, rfl, rfl, trivial⟩)
        · refine w_skip' ?_
          refine n_then ?_
          refine w_region ?_
          refine st (s_move rfl ?_)
          refine st (s_move rfl ?_)
          refine st (s_move rfl ?_)
          refine st (s_convk (M := 18446744073709551616) rfl rfl intk44 intk76 rfl (by omega) ?_)
          refine st (s_shlk (M := 18446744073709551616) (p := 4294967296) rfl rfl rfl rfl (by decide) (by decide) ?_)
          refine st (s_move rfl ?_)
          refine st (s_move rfl ?_)
          refine st (s_idx sl32 rfl rfl hO.sl (by omega) (by omega) ?_)
          rintro b3 o3 _ ⟨rfl, hr3⟩ hc3 hF3 hlt3
          refine st (s_load one44 rfl hc3 (j := 0) rfl ?_)
          refine st (s_convk (M := 18446744073709551616) rfl rfl intk44 intk76 rfl (by omega) ?_)
          refine st (s_or (M := 18446744073709551616) rfl rfl rfl rfl (by omega) (by omega) ?_)
          refine st (s_move rfl ?_)
          refine st (s_remk rfl rfl (by omega) (by omega) ?_)
          refine st (s_shrk (p := (2 ^ ((n % 32)).toNat)) rfl rfl (by omega) (by rw [Nat.min_eq_left (by show ((n % 32)).toNat ≤ 64; omega)]) ?_)
          refine st (s_convm (M := 4294967296) rfl rfl intk76 intk44 rfl ?_)
          refine st (s_oidx sl32 rfl rfl hO (by omega) (by first | omega | (simp; done) | (simp; omega)) ?_)
          intro g2 hg2 hl_3 hl_4
          refine st0 (s_ostore one44 rfl rfl rfl rfl hO hg2 (by omega) (by first | omega | (simp; done) | (simp; omega)) ⟨rfl, by omega⟩ ?_)
          intro w5 hO4 k4 hs2
          have hb5 := below_g hb3 k4 (by omega)
          refine r_end ?_
          refine n_block ?_
          refine n_then ?_
          refine w_region ?_
          refine st (s_add rfl rfl (by omega) ?_)
          refine st (s_move rfl ?_)
          refine r_end ?_
          exact n_round (((i + 1)), (os.set (i).toNat (((ior ((0 * 4294967296) % 18446744073709551616) (ix os i)) / (2 ^ ((n % 32)).toNat)) % 4294967296))) ⟨hb5, by omega, by rw [List.length_set]; exact hol, hO4, shr_step (lim_sl ha |>.drop _) hn hi.1 (by omega) hol (two_pos _) (two_part (by omega) (by omega)) (hd i (by omega)) (ix_over (by omega)).symm, fun j hj => by rw [ix_set_ne hi.1 (by omega) (by omega)]; exact hd j (by omega)⟩ (by omega) (by exact ⟨rfl, rfl, rfl, rfl, rfl, trivial⟩)
      · refine w_exit' ?_
        refine n_then_exit ?_
        refine n_then_exit ?_
        refine n_block_exit ?_
        refine n_then ?_
        refine w_seq ?_
        refine w_region ?_
        refine st (s_move rfl ?_)
        refine st (s_call fn74 rfl (cut_any hO.sl) ?_)
        rintro v3 w6 ⟨hq3, hS2⟩
        have k5 := grown_of_below hq3 none
        have hz6 := hq3.size
        have hb6 := below_g0 hb3 k5
        have hz7 := hb6.size
        have hO5 := hO.g0 k5
        have hS3 := hS2.none.g0 k5
        refine st (s_assign rfl ?_)
        refine r_end ?_
        refine n_then ?_
        refine w_ret1 rfl rfl ?_
        have hend := shr_end hn (by omega) hol
        exact ⟨_, rfl, hb6, by unfold shrL; rw [if_pos hft, ← nv_shr (lim_sl ha) hnb.1 (by omega), ← hend]; exact hS3⟩
end Go.Proofs.Ytencmmhfiepojaa

set_option maxRecDepth 20000
set_option linter.unusedSimpArgs false
set_option linter.unusedVariables false
namespace Go.Proofs.Ytencmmhfiepojaa
open Go.RowKit Go.Gw
theorem shl_any {w : World} {a : Value} {n : Int} {xs : List Int} (ha : Sl Kd.u32 w (fun _ => False) a xs) (hla : xs.length ≤ 100000) :
    Calls Try.prog 30 [a, .int .i64 n].toArray w (Pure w fun v W => Sl Kd.u32 W (fun _ => False) v (shlL xs n)) := by
  have hb0 := Below.refl w.heap.size w
  have hln1 := ha.lenle
  refine enter Try.func30 rfl rfl ?_
  refine w_seq ?_
  refine w_region ?_
  refine st (s_assign rfl ?_)
  refine r_end ?_
  refine n_then ?_
  refine w_seq ?_
  refine w_seq ?_
  refine w_region ?_
  refine st (s_move rfl ?_)
  refine st (s_call fn80 rfl (fits_any) ?_)
  rintro _ w1 ⟨hq1, rfl⟩
  have k1 := grown_of_below hq1 none
  have hz1 := hq1.size
  have hb1 := below_g0 hb0 k1
  have hz2 := hb1.size
  refine st (s_not rfl ?_)
  refine r_end ?_
  refine n_then ?_
  refine w_cond rfl (fun h1 => ?_) (fun h1 => ?_)
  · have hft : fitB n = false := by simpa using h1
    refine w_seq ?_
    refine w_region ?_
    refine st (s_assign rfl ?_)
    refine r_end ?_
    refine n_then ?_
    refine w_ret1 rfl rfl ?_
    exact ⟨_, rfl, hb1, by unfold shlL; rw [if_neg (by rw [hft]; decide)]; exact (Own.nil Kd.u32 44 w.heap.size _ (fun _ => False)).sl⟩
  · have hft : fitB n = true := by simpa using h1
    have hnb : 0 ≤ n ∧ n ≤ 10000 := by simpa [fitB] using hft
    refine w_skip' ?_
    refine n_then ?_
    refine w_seq ?_
    refine w_region ?_
    refine st (s_move rfl ?_)
    refine st (s_len sl32 rfl (ha.at0 hb1) ?_)
    refine st (s_move rfl ?_)
    refine st (s_quoi rfl rfl (by omega) (by omega) ?_)
    refine st (s_add rfl rfl (by omega) ?_)
    refine st (s_add rfl rfl (by omega) ?_)
    refine st (s_make (K := Kd.u32) (base := w.heap.size) (F := (fun _ => False)) sl32 rfl (by omega) (by omega) (by omega) (fun _ _ => ⟨rfl, by decide⟩) (by omega) (fun _ h => h.elim) ?_)
    intro v1 w2 hO1 k2
    have hb2 := below_g0 hb1 k2
    have hz3 := hb2.size
    refine st (s_assign rfl ?_)
    refine r_end ?_
    refine n_then ?_
    refine w_seq ?_
    refine w_seq ?_
    refine w_region ?_
    refine st (s_move rfl ?_)
    refine st (s_len sl32 rfl (ha.at0 hb2) ?_)
    refine st (s_move rfl ?_)
    refine r_end ?_
    refine n_then ?_
    refine w_block ?_
    refine w_loop (α := Int × List Int) (fun ((i, os) : Int × List Int) => [(1, .int .i64 n), (4, .slice none 0 0), (5, v1), (19, a), (20, .int .i64 (xs.length : Int)), (21, .int .i64 i)]) (fun ((i, os) : Int × List Int) W => Below w.heap.size w W ∧ (0 ≤ i ∧ i ≤ xs.length) ∧ ((os.length : Int) = xs.length + n / 32 + 1) ∧ (Gw.Own Kd.u32 44 w.heap.size W (fun _ => False) v1 os) ∧ (nv (os.take (i + n / 32 + 1).toNat) = nv (xs.take i.toNat) * 2 ^ n.toNat) ∧ (ix os (i + n / 32) < 2 ^ (n % 32).toNat) ∧ (∀ j : Int, i + n / 32 < j → ix os j = 0)) (fun ((i, os) : Int × List Int) => (xs.length - i).toNat) ((0), (List.replicate ((((xs.length : Int) + (n / 32)) + 1)).toNat 0)) ⟨hb2, by omega, by rw [List.length_replicate]; omega, hO1, by rw [nv_zeros]; simp [nv], by rw [ix_zeros]; exact two_pos _, fun j _ => ix_zeros _ _⟩ (by exact ⟨rfl, rfl, rfl, rfl, rfl, rfl, trivial⟩) ?_
    rintro ⟨i, os⟩ w3 ⟨hb3, hi, hol, hO, hn, hp, hz⟩
    dsimp only at *
    have hz4 := hb3.size
    have hxa := (lim_sl ha).ix i
    have hxo := (lim_sl hO.sl).ix (i + (n / 32))
    have hstep := fun (h1 : i < xs.length) => shl_step (lim_sl ha) (lim_sl hO.sl) hi.1 h1 hnb.1 hol hz hp hn
    refine w_seq ?_
    refine w_region ?_
    refine st (s_lt rfl rfl ?_)
    refine r_end ?_
    refine n_then ?_
    refine w_seq ?_
    refine w_condP rfl (fun h2 => ?_) (fun h2 => ?_)
    · have hstep := hstep (by omega)
      refine w_skip' ?_
      refine n_then ?_
      refine w_seq ?_
      refine w_block ?_
      refine w_seq ?_
      refine w_region ?_
      refine st (s_move rfl ?_)
      refine st (s_idx sl32 rfl rfl (ha.at0 hb3) (by omega) (by first | omega | (rw [List.length_set]; omega)) ?_)
      rintro b1 o1 _ ⟨rfl, hr1⟩ hc1 hF1 hlt1
      have hl_1 := Loc.lt hF1
      refine st (s_load one44 rfl hc1 (j := 0) rfl ?_)
      refine st (s_assign rfl ?_)
      refine st (s_assign rfl ?_)
      refine r_end ?_
      refine n_then ?_
      refine w_seq ?_
      refine w_region ?_
      refine st (s_move rfl ?_)
      refine st (s_move rfl ?_)
      refine st (s_quoi rfl rfl (by omega) (by omega) ?_)
      refine st (s_add rfl rfl (by omega) ?_)
      refine st (s_assign rfl ?_)
      refine r_end ?_
      refine n_then ?_
      refine w_seq ?_
      obtain ⟨b2, o2, _, hat1, ⟨rfl, hr2⟩, hc2, hF2, hlt2⟩ := hO.sl.elem (i + (n / 32)) (by omega) (by first | omega | (rw [List.length_set]; omega))
      refine w_draw 9 (fun a b => a.grownBy b none) [(some 30, fun v _ => v = v1), (some 31, fun v _ => v = .int .i64 (i + (n / 32))), (some 32, fun v _ => v = .pointer (some ⟨b2, o2, none⟩)), (some 33, fun v _ => v = .int .u32 (ix os (i + (n / 32)))), (some 34, fun v _ => v = .int .u32 (ix xs i)), (some 35, fun v _ => v = .int .i64 n), (some 36, fun v _ => v = .int .i64 (n % 32)), (some 37, fun v _ => v = .int .u32 (((ix xs i) * (2 ^ ((n % 32)).toNat)) % 4294967296)), (some 38, fun v _ => v = .int .u32 (ior (ix os (i + (n / 32))) (((ix xs i) * (2 ^ ((n % 32)).toNat)) % 4294967296)))] [[], [], [0, 1], [2], [], [], [5], [4, 6], [3, 7]] [(1, .int .i64 n), (4, .slice none 0 0), (5, v1), (7, .int .u32 (ix xs i)), (8, .int .i64 (i + (n / 32))), (19, a), (20, .int .i64 (xs.length : Int)), (21, .int .i64 i)] (by exact ⟨rfl, rfl, rfl, rfl, rfl, rfl, rfl, rfl, trivial⟩) (by kernel_rfl) (by kernel_rfl) grown_none_refl (fun _ _ _ => grown_none_trans) ⟨fun _ _ _ h _ => h, fun _ _ _ h _ => h, fun _ _ _ h _ => h, fun _ _ _ h _ => h, fun _ _ _ h _ => h, fun _ _ _ h _ => h, fun _ _ _ h _ => h, fun _ _ _ h _ => h, fun _ _ _ h _ => h, trivial⟩ ?_
      intro w4 k3 hs1
      have hb4 := below_g0 hb3 k3
      have hO2 := hO.g0 k3
      refine ⟨⟨?_, ?_, ?_, ?_, ?_, ?_, ?_, ?_, ?_, trivial⟩, ?_⟩
      · intro w5 k4
        have hb5 := below_g0 hb4 k4
        have hO3 := hO2.g0 k4
        refine op1 (s_move rfl ?_)
        exact ⟨rfl, grown_none_refl _⟩
      · intro w6 k5
        have hb6 := below_g0 hb4 k5
        have hO4 := hO2.g0 k5
        refine op1 (s_move rfl ?_)
        exact ⟨rfl, grown_none_refl _⟩
      · intro w7 k6
        have hb7 := below_g0 hb4 k6
        have hO5 := hO2.g0 k6
        intro v_ hv_; subst v_
        rintro _ rfl
        refine op1 (s_idxat sl32 rfl rfl hat1 ?_)
        exact ⟨rfl, grown_none_refl _⟩
      · intro w8 k7
        have hb8 := below_g0 hb4 k7
        have hO6 := hO2.g0 k7
        rintro _ rfl
        refine op1 (s_load one44 rfl (range_g0 (range_g0 hc2 k3) k7) (j := 0) rfl ?_)
        exact ⟨rfl, grown_none_refl _⟩
      · intro w9 k8
        have hb9 := below_g0 hb4 k8
        have hO7 := hO2.g0 k8
        refine op1 (s_move rfl ?_)
        exact ⟨rfl, grown_none_refl _⟩
      · intro w10 k9
        have hb10 := below_g0 hb4 k9
        have hO8 := hO2.g0 k9
        refine op1 (s_move rfl ?_)
        exact ⟨rfl, grown_none_refl _⟩
      · intro w11 k10
        have hb11 := below_g0 hb4 k10
        have hO9 := hO2.g0 k10
        rintro _ rfl
        refine op1 (s_remk rfl rfl (by omega) (by omega) ?_)
        exact ⟨rfl, grown_none_refl _⟩
      · intro w12 k11
        have hb12 := below_g0 hb4 k11
        have hO10 := hO2.g0 k11
        rintro _ rfl
        rintro _ rfl
        refine op1 (s_shlk (M := 4294967296) (p := (2 ^ ((n % 32)).toNat)) rfl rfl rfl rfl (by omega) (by rw [Nat.min_eq_left (by show ((n % 32)).toNat ≤ 32; omega)]) ?_)
        exact ⟨rfl, grown_none_refl _⟩
      · intro w13 k12
        have hb13 := below_g0 hb4 k12
        have hO11 := hO2.g0 k12
        rintro _ rfl
        rintro _ rfl
        refine op1 (s_or (M := 4294967296) rfl rfl rfl rfl (by omega) (by omega) ?_)
        exact ⟨rfl, grown_none_refl _⟩
      · intro w14 k13
        have hb14 := below_g0 hb4 k13
        have hO12 := hO2.g0 k13
        intro v_ hv_; subst v_
        rintro _ rfl
        rintro _ rfl
        rintro _ rfl
        rintro _ rfl
        rintro _ rfl
        rintro _ rfl
        rintro _ rfl
        rintro _ rfl
        refine st (s_oidx sl32 rfl rfl hO12 (by omega) (by first | omega | (rw [List.length_set]; omega) | (simp; omega)) ?_)
        intro g1 hg1 hl_2 hl_3
        refine st0 (s_ostore one44 rfl rfl rfl rfl hO12 hg1 (by omega) (by first | omega | (rw [List.length_set]; omega) | (simp; omega)) ⟨rfl, by first | omega | exact ior_lt (by omega) (by omega)⟩ ?_)
        intro w15 hO13 k14 hs2
        have hb15 := below_g hb14 k14 (by omega)
        refine r_end ?_
        refine n_then ?_
        have hxo2 := (lim_sl hO13.sl).ix (i + (n / 32) + 1)
        obtain ⟨b3, o3, _, hat2, ⟨rfl, hr3⟩, hc3, hF3, hlt3⟩ := hO13.sl.elem ((i + (n / 32)) + 1) (by omega) (by first | omega | (rw [List.length_set]; omega))
        refine w_draw 13 (fun a b => a.grownBy b none) [(some 40, fun v _ => v = v1), (some 41, fun v _ => v = .int .i64 (i + (n / 32))), (some 42, fun v _ => v = .int .i64 ((i + (n / 32)) + 1)), (some 43, fun v _ => v = .pointer (some ⟨b3, o3, none⟩)), (some 44, fun v _ => v = .int .u32 (ix (os.set ((i + (n / 32))).toNat (ior (ix os (i + (n / 32))) (((ix xs i) * (2 ^ ((n % 32)).toNat)) % 4294967296))) ((i + (n / 32)) + 1))), (some 45, fun v _ => v = .int .u32 (ix xs i)), (some 46, fun v _ => v = .int .u64 (ix xs i)), (some 47, fun v _ => v = .int .i64 n), (some 48, fun v _ => v = .int .i64 (n % 32)), (some 49, fun v _ => v = .int .u64 (((ix xs i) * (2 ^ ((n % 32)).toNat)) % 18446744073709551616)), (some 50, fun v _ => v = .int .u64 ((((ix xs i) * (2 ^ ((n % 32)).toNat)) % 18446744073709551616) / 4294967296)), (some 51, fun v _ => v = .int .u32 (((((ix xs i) * (2 ^ ((n % 32)).toNat)) % 18446744073709551616) / 4294967296) % 4294967296)), (some 52, fun v _ => v = .int .u32 (ior (ix (os.set ((i + (n / 32))).toNat (ior (ix os (i + (n / 32))) (((ix xs i) * (2 ^ ((n % 32)).toNat)) % 4294967296))) ((i + (n / 32)) + 1)) (((((ix xs i) * (2 ^ ((n % 32)).toNat)) % 18446744073709551616) / 4294967296) % 4294967296)))] [[], [], [1], [0, 2], [3], [], [5], [], [7], [6, 8], [9], [10], [4, 11]] [(1, .int .i64 n), (4, .slice none 0 0), (5, v1), (7, .int .u32 (ix xs i)), (8, .int .i64 (i + (n / 32))), (19, a), (20, .int .i64 (xs.length : Int)), (21, .int .i64 i)] (by exact ⟨rfl, rfl, rfl, rfl, rfl, rfl, rfl, rfl, trivial⟩) (by kernel_rfl) (by kernel_rfl) grown_none_refl (fun _ _ _ => grown_none_trans) ⟨fun _ _ _ h _ => h, fun _ _ _ h _ => h, fun _ _ _ h _ => h, fun _ _ _ h _ => h, fun _ _ _ h _ => h, fun _ _ _ h _ => h, fun _ _ _ h _ => h, fun _ _ _ h _ => h, fun _ _ _ h _ => h, fun _ _ _ h _ => h, fun _ _ _ h _ => h, fun _ _ _ h _ => h, fun _ _ _ h _ => h, trivial⟩ ?_
        intro w16 k15 hs3
        have hb16 := below_g0 hb15 k15
        have hO14 := hO13.g0 k15
        refine ⟨⟨?_, ?_, ?_, ?_, ?_, ?_, ?_, ?_, ?_, ?_, ?_, ?_, ?_, trivial⟩, ?_⟩
        · intro w17 k16
          have hb17 := below_g0 hb16 k16
          have hO15 := hO14.g0 k16
          refine op1 (s_move rfl ?_)
          exact ⟨rfl, grown_none_refl _⟩
        · intro w18 k17
          have hb18 := below_g0 hb16 k17
          have hO16 := hO14.g0 k17
          refine op1 (s_move rfl ?_)
          exact ⟨rfl, grown_none_refl _⟩
        · intro w19 k18
          have hb19 := below_g0 hb16 k18
          have hO17 := hO14.g0 k18
          rintro _ rfl
          refine op1 (s_add rfl rfl (by omega) ?_)
          exact ⟨rfl, grown_none_refl _⟩
        · intro w20 k19
          have hb20 := below_g0 hb16 k19
          have hO18 := hO14.g0 k19
          intro v_ hv_; subst v_
          rintro _ rfl
          refine op1 (s_idxat sl32 rfl rfl hat2 ?_)
          exact ⟨rfl, grown_none_refl _⟩
        · intro w21 k20
          have hb21 := below_g0 hb16 k20
          have hO19 := hO14.g0 k20
          rintro _ rfl
          refine op1 (s_load one44 rfl (range_g0 (range_g0 hc3 k15) k20) (j := 0) rfl ?_)
          exact ⟨rfl, grown_none_refl _⟩
        · intro w22 k21
          have hb22 := below_g0 hb16 k21
          have hO20 := hO14.g0 k21
          refine op1 (s_move rfl ?_)
          exact ⟨rfl, grown_none_refl _⟩
        · intro w23 k22
          have hb23 := below_g0 hb16 k22
          have hO21 := hO14.g0 k22
          rintro _ rfl
          refine op1 (s_convk (M := 18446744073709551616) rfl rfl intk44 intk76 rfl (by omega) ?_)
          exact ⟨rfl, grown_none_refl _⟩
        · intro w24 k23
          have hb24 := below_g0 hb16 k23
          have hO22 := hO14.g0 k23
          refine op1 (s_move rfl ?_)
          exact ⟨rfl, grown_none_refl _⟩
        · intro w25 k24
          have hb25 := below_g0 hb16 k24
          have hO23 := hO14.g0 k24
          rintro _ rfl
          refine op1 (s_remk rfl rfl (by omega) (by omega) ?_)
          exact ⟨rfl, grown_none_refl _⟩
        · intro w26 k25
          have hb26 := below_g0 hb16 k25
          have hO24 := hO14.g0 k25
          rintro _ rfl
          rintro _ rfl
          refine op1 (s_shlk (M := 18446744073709551616) (p := (2 ^ ((n % 32)).toNat)) rfl rfl rfl rfl (by omega) (by rw [Nat.min_eq_left (by show ((n % 32)).toNat ≤ 64; omega)]) ?_)
          exact ⟨rfl, grown_none_refl _⟩
        · intro w27 k26
          have hb27 := below_g0 hb16 k26
          have hO25 := hO14.g0 k26
          rintro _ rfl
          refine op1 (s_shrk (p := 4294967296) rfl rfl (by decide) (by decide) ?_)
          exact ⟨rfl, grown_none_refl _⟩
        · intro w28 k27
          have hb28 := below_g0 hb16 k27
          have hO26 := hO14.g0 k27
          rintro _ rfl
          refine op1 (s_convm (M := 4294967296) rfl rfl intk76 intk44 rfl ?_)
          exact ⟨rfl, grown_none_refl _⟩
        · intro w29 k28
          have hb29 := below_g0 hb16 k28
          have hO27 := hO14.g0 k28
          rintro _ rfl
          rintro _ rfl
          refine op1 (s_or (M := 4294967296) rfl rfl rfl rfl (by omega) (by omega) ?_)
          exact ⟨rfl, grown_none_refl _⟩
        · intro w30 k29
          have hb30 := below_g0 hb16 k29
          have hO28 := hO14.g0 k29
          intro v_ hv_; subst v_
          rintro _ rfl
          rintro _ rfl
          rintro _ rfl
          rintro _ rfl
          rintro _ rfl
          rintro _ rfl
          rintro _ rfl
          rintro _ rfl
          rintro _ rfl
          rintro _ rfl
          rintro _ rfl
          rintro _ rfl
          refine st (s_oidx sl32 rfl rfl hO28 (by omega) (by first | omega | (rw [List.length_set]; omega) | (simp; omega)) ?_)
          intro g2 hg2 hl_4 hl_5
          refine st0 (s_ostore one44 rfl rfl rfl rfl hO28 hg2 (by omega) (by first | omega | (rw [List.length_set]; omega) | (simp; omega)) ⟨rfl, by first | omega | exact ior_lt (by omega) (by omega)⟩ ?_)
          intro w31 hO29 k30 hs4
          have hb31 := below_g hb30 k30 (by omega)
          refine r_end ?_
          refine n_block ?_
          refine n_then ?_
          refine w_region ?_
          refine st (s_add rfl rfl (by omega) ?_)
          refine st (s_move rfl ?_)
          refine r_end ?_
          exact n_round (((i + 1)), ((os.set ((i + (n / 32))).toNat (ior (ix os (i + (n / 32))) (((ix xs i) * (2 ^ ((n % 32)).toNat)) % 4294967296))).set (((i + (n / 32)) + 1)).toNat (ior (ix (os.set ((i + (n / 32))).toNat (ior (ix os (i + (n / 32))) (((ix xs i) * (2 ^ ((n % 32)).toNat)) % 4294967296))) ((i + (n / 32)) + 1)) (((((ix xs i) * (2 ^ ((n % 32)).toNat)) % 18446744073709551616) / 4294967296) % 4294967296)))) ⟨hb31, by omega, by rw [List.length_set, List.length_set]; exact hol, hO29, hstep.1, hstep.2.1, hstep.2.2⟩ (by omega) (by exact ⟨rfl, rfl, rfl, rfl, rfl, rfl, trivial⟩)
    · refine w_exit' ?_
      refine n_then_exit ?_
      refine n_then_exit ?_
      refine n_block_exit ?_
      refine n_then ?_
      refine w_seq ?_
      refine w_region ?_
      refine st (s_move rfl ?_)
      refine st (s_call fn74 rfl (cut_any hO.sl) ?_)
      rintro v2 w32 ⟨hq2, hS1⟩
      have k31 := grown_of_below hq2 none
      have hz5 := hq2.size
      have hb32 := below_g0 hb3 k31
      have hz6 := hb32.size
      have hO30 := hO.g0 k31
      have hS2 := hS1.none.g0 k31
      refine st (s_assign rfl ?_)
      refine r_end ?_
      refine n_then ?_
      refine w_ret1 rfl rfl ?_
      have hend := shl_end hn (by omega) hol
      exact ⟨_, rfl, hb32, by unfold shlL; rw [if_pos hft, ← hend]; exact hS2⟩
end Go.Proofs.Ytencmmhfiepojaa

set_option maxRecDepth 20000
set_option linter.unusedSimpArgs false
set_option linter.unusedVariables false
namespace Go.Proofs.Ytencmmhfiepojaa
open Go.RowKit Go.Gw
theorem div32_any {w : World} {h l y : Int} (hh : 0 ≤ h) (hy : h < y) (hl : 0 ≤ l ∧ l < 4294967296) (hyb : y < 4294967296) :
    Calls Try.prog 82 [.int .u32 h, .int .u32 l, .int .u32 y].toArray w (Pure w fun v _ => v = .tuple #[.int .u32 ((h * 4294967296 + l) / y), .int .u32 ((h * 4294967296 + l) % y)]) := by
  have hb0 := Below.refl w.heap.size w
  have hz := ior_add (h := h) (x := l) (by omega) (by omega)
  have hq := div32_q hh hl hy
  have hr := div32_r hh hl hy
  refine enter Try.func82 rfl rfl ?_
  refine w_seq ?_
  refine w_region ?_
  refine st (s_assign rfl ?_)
  refine st (s_assign rfl ?_)
  refine r_end ?_
  refine n_then ?_
  refine w_seq ?_
  refine w_seq ?_
  refine w_region ?_
  refine st (s_move rfl ?_)
  refine st (s_ne rfl rfl ?_)
  refine st (s_move rfl ?_)
  refine r_caseP 11 rfl (fun h1 => ?_) (fun h1 => ?_)
  · refine stg (s_move rfl ?_)
    refine stg (s_move rfl ?_)
    refine stg (s_le rfl rfl ?_)
    refine st (s_pick rfl rfl ?_)
    refine r_end ?_
    refine n_then ?_
    refine w_condP rfl (fun h2 => absurd h2 (by omega)) (fun h2 => ?_)
    refine w_skip' ?_
    refine n_then ?_
    refine w_seq ?_
    refine w_region ?_
    refine st (s_move rfl ?_)
    refine st (s_convk (M := 18446744073709551616) rfl rfl intk44 intk76 rfl (by omega) ?_)
    refine st (s_shlk (M := 18446744073709551616) (p := 4294967296) rfl rfl rfl rfl (by decide) (by decide) ?_)
    refine st (s_move rfl ?_)
    refine st (s_convk (M := 18446744073709551616) rfl rfl intk44 intk76 rfl (by omega) ?_)
    refine st (s_or (M := 18446744073709551616) rfl rfl rfl rfl (by omega) (by omega) ?_)
    refine st (s_assign rfl ?_)
    refine r_end ?_
    refine n_then ?_
    refine w_seq ?_
    refine w_draw 11 (fun a b => a.grownBy b none) [(some 23, fun v _ => v = .int .u64 (ior ((h * 4294967296) % 18446744073709551616) l)), (some 24, fun v _ => v = .int .u32 y), (some 25, fun v _ => v = .int .u64 y), (some 26, fun v _ => v = .int .u64 ((ior ((h * 4294967296) % 18446744073709551616) l) / y)), (some 27, fun v _ => v = .int .u32 (((ior ((h * 4294967296) % 18446744073709551616) l) / y) % 4294967296)), (some 28, fun v _ => v = .int .u64 (ior ((h * 4294967296) % 18446744073709551616) l)), (some 29, fun v _ => v = .int .u32 y), (some 30, fun v _ => v = .int .u64 y), (some 31, fun v _ => v = .int .u64 ((ior ((h * 4294967296) % 18446744073709551616) l) % y)), (some 32, fun v _ => v = .int .u32 (((ior ((h * 4294967296) % 18446744073709551616) l) % y) % 4294967296)), (some 6, fun v _ => v = .int .u32 (((ior ((h * 4294967296) % 18446744073709551616) l) / y) % 4294967296))] [[], [], [1], [0, 2], [3], [], [], [6], [5, 7], [8], [4]] [(2, .int .u32 y), (7, .int .u32 0), (8, .int .u64 (ior ((h * 4294967296) % 18446744073709551616) l))] (by exact ⟨rfl, rfl, rfl, trivial⟩) (by kernel_rfl) (by kernel_rfl) grown_none_refl (fun _ _ _ => grown_none_trans) ⟨fun _ _ _ h _ => h, fun _ _ _ h _ => h, fun _ _ _ h _ => h, fun _ _ _ h _ => h, fun _ _ _ h _ => h, fun _ _ _ h _ => h, fun _ _ _ h _ => h, fun _ _ _ h _ => h, fun _ _ _ h _ => h, fun _ _ _ h _ => h, fun _ _ _ h _ => h, trivial⟩ ?_
    intro w1 k1 hs1
    have hb1 := below_g0 hb0 k1
    refine ⟨⟨?_, ?_, ?_, ?_, ?_, ?_, ?_, ?_, ?_, ?_, ?_, trivial⟩, ?_⟩
    · intro w2 k2
      have hb2 := below_g0 hb1 k2
      refine op1 (s_move rfl ?_)
      exact ⟨rfl, grown_none_refl _⟩
    · intro w3 k3
      have hb3 := below_g0 hb1 k3
      refine op1 (s_move rfl ?_)
      exact ⟨rfl, grown_none_refl _⟩
    · intro w4 k4
      have hb4 := below_g0 hb1 k4
      rintro _ rfl
      refine op1 (s_convk (M := 18446744073709551616) rfl rfl intk44 intk76 rfl (by omega) ?_)
      exact ⟨rfl, grown_none_refl _⟩
    · intro w5 k5
      have hb5 := below_g0 hb1 k5
      rintro _ rfl
      rintro _ rfl
      refine op1 (s_quok (M := 18446744073709551616) rfl rfl rfl rfl (by omega) (by omega) ?_)
      exact ⟨rfl, grown_none_refl _⟩
    · intro w6 k6
      have hb6 := below_g0 hb1 k6
      rintro _ rfl
      refine op1 (s_convm (M := 4294967296) rfl rfl intk76 intk44 rfl ?_)
      exact ⟨rfl, grown_none_refl _⟩
    · intro w7 k7
      have hb7 := below_g0 hb1 k7
      refine op1 (s_move rfl ?_)
      exact ⟨rfl, grown_none_refl _⟩
    · intro w8 k8
      have hb8 := below_g0 hb1 k8
      refine op1 (s_move rfl ?_)
      exact ⟨rfl, grown_none_refl _⟩
    · intro w9 k9
      have hb9 := below_g0 hb1 k9
      rintro _ rfl
      refine op1 (s_convk (M := 18446744073709551616) rfl rfl intk44 intk76 rfl (by omega) ?_)
      exact ⟨rfl, grown_none_refl _⟩
    · intro w10 k10
      have hb10 := below_g0 hb1 k10
      rintro _ rfl
      rintro _ rfl
      refine op1 (s_remk rfl rfl (by omega) (by omega) ?_)
      exact ⟨rfl, grown_none_refl _⟩
    · intro w11 k11
      have hb11 := below_g0 hb1 k11
      rintro _ rfl
      refine op1 (s_convm (M := 4294967296) rfl rfl intk76 intk44 rfl ?_)
      exact ⟨rfl, grown_none_refl _⟩
    · intro w12 k12
      have hb12 := below_g0 hb1 k12
      rintro _ rfl
      refine op1 (s_assign rfl ?_)
      exact ⟨rfl, grown_none_refl _⟩
    · intro w13 k13
      have hb13 := below_g0 hb1 k13
      rintro _ rfl
      rintro _ rfl
      rintro _ rfl
      rintro _ rfl
      rintro _ rfl
      rintro _ rfl
      rintro _ rfl
      rintro _ rfl
      rintro _ rfl
      rintro _ rfl
      rintro _ rfl
      refine st (s_assign rfl ?_)
      refine r_end ?_
      refine n_then ?_
      refine w_ret2 rfl rfl rfl ?_
      exact ⟨_, rfl, hb13, by rw [hz, Int.emod_eq_of_lt hq.1 hq.2, Int.emod_eq_of_lt (a := (h * 4294967296 + l) % y) (b := 4294967296) hr.1 (by omega)]⟩
  · refine s_pass rfl rfl ?_
    refine s_pass rfl rfl ?_
    refine s_pass rfl rfl ?_
    refine st (s_pick rfl rfl ?_)
    refine r_end ?_
    refine n_then ?_
    refine w_condF rfl ?_
    refine w_skip' ?_
    refine n_then ?_
    refine w_seq ?_
    refine w_region ?_
    refine st (s_move rfl ?_)
    refine st (s_convk (M := 18446744073709551616) rfl rfl intk44 intk76 rfl (by omega) ?_)
    refine st (s_shlk (M := 18446744073709551616) (p := 4294967296) rfl rfl rfl rfl (by decide) (by decide) ?_)
    refine st (s_move rfl ?_)
    refine st (s_convk (M := 18446744073709551616) rfl rfl intk44 intk76 rfl (by omega) ?_)
    refine st (s_or (M := 18446744073709551616) rfl rfl rfl rfl (by omega) (by omega) ?_)
    refine st (s_assign rfl ?_)
    refine r_end ?_
    refine n_then ?_
    refine w_seq ?_
    refine w_draw 11 (fun a b => a.grownBy b none) [(some 23, fun v _ => v = .int .u64 (ior ((h * 4294967296) % 18446744073709551616) l)), (some 24, fun v _ => v = .int .u32 y), (some 25, fun v _ => v = .int .u64 y), (some 26, fun v _ => v = .int .u64 ((ior ((h * 4294967296) % 18446744073709551616) l) / y)), (some 27, fun v _ => v = .int .u32 (((ior ((h * 4294967296) % 18446744073709551616) l) / y) % 4294967296)), (some 28, fun v _ => v = .int .u64 (ior ((h * 4294967296) % 18446744073709551616) l)), (some 29, fun v _ => v = .int .u32 y), (some 30, fun v _ => v = .int .u64 y), (some 31, fun v _ => v = .int .u64 ((ior ((h * 4294967296) % 18446744073709551616) l) % y)), (some 32, fun v _ => v = .int .u32 (((ior ((h * 4294967296) % 18446744073709551616) l) % y) % 4294967296)), (some 6, fun v _ => v = .int .u32 (((ior ((h * 4294967296) % 18446744073709551616) l) / y) % 4294967296))] [[], [], [1], [0, 2], [3], [], [], [6], [5, 7], [8], [4]] [(2, .int .u32 y), (7, .int .u32 0), (8, .int .u64 (ior ((h * 4294967296) % 18446744073709551616) l))] (by exact ⟨rfl, rfl, rfl, trivial⟩) (by kernel_rfl) (by kernel_rfl) grown_none_refl (fun _ _ _ => grown_none_trans) ⟨fun _ _ _ h _ => h, fun _ _ _ h _ => h, fun _ _ _ h _ => h, fun _ _ _ h _ => h, fun _ _ _ h _ => h, fun _ _ _ h _ => h, fun _ _ _ h _ => h, fun _ _ _ h _ => h, fun _ _ _ h _ => h, fun _ _ _ h _ => h, fun _ _ _ h _ => h, trivial⟩ ?_
    intro w14 k14 hs2
    have hb14 := below_g0 hb0 k14
    refine ⟨⟨?_, ?_, ?_, ?_, ?_, ?_, ?_, ?_, ?_, ?_, ?_, trivial⟩, ?_⟩
    · intro w15 k15
      have hb15 := below_g0 hb14 k15
      refine op1 (s_move rfl ?_)
      exact ⟨rfl, grown_none_refl _⟩
    · intro w16 k16
      have hb16 := below_g0 hb14 k16
      refine op1 (s_move rfl ?_)
      exact ⟨rfl, grown_none_refl _⟩
    · intro w17 k17
      have hb17 := below_g0 hb14 k17
      rintro _ rfl
      refine op1 (s_convk (M := 18446744073709551616) rfl rfl intk44 intk76 rfl (by omega) ?_)
      exact ⟨rfl, grown_none_refl _⟩
    · intro w18 k18
      have hb18 := below_g0 hb14 k18
      rintro _ rfl
      rintro _ rfl
      refine op1 (s_quok (M := 18446744073709551616) rfl rfl rfl rfl (by omega) (by omega) ?_)
      exact ⟨rfl, grown_none_refl _⟩
    · intro w19 k19
      have hb19 := below_g0 hb14 k19
      rintro _ rfl
      refine op1 (s_convm (M := 4294967296) rfl rfl intk76 intk44 rfl ?_)
      exact ⟨rfl, grown_none_refl _⟩
    · intro w20 k20
      have hb20 := below_g0 hb14 k20
      refine op1 (s_move rfl ?_)
      exact ⟨rfl, grown_none_refl _⟩
    · intro w21 k21
      have hb21 := below_g0 hb14 k21
      refine op1 (s_move rfl ?_)
      exact ⟨rfl, grown_none_refl _⟩
    · intro w22 k22
      have hb22 := below_g0 hb14 k22
      rintro _ rfl
      refine op1 (s_convk (M := 18446744073709551616) rfl rfl intk44 intk76 rfl (by omega) ?_)
      exact ⟨rfl, grown_none_refl _⟩
    · intro w23 k23
      have hb23 := below_g0 hb14 k23
      rintro _ rfl
      rintro _ rfl
      refine op1 (s_remk rfl rfl (by omega) (by omega) ?_)
      exact ⟨rfl, grown_none_refl _⟩
    · intro w24 k24
      have hb24 := below_g0 hb14 k24
      rintro _ rfl
      refine op1 (s_convm (M := 4294967296) rfl rfl intk76 intk44 rfl ?_)
      exact ⟨rfl, grown_none_refl _⟩
    · intro w25 k25
      have hb25 := below_g0 hb14 k25
      rintro _ rfl
      refine op1 (s_assign rfl ?_)
      exact ⟨rfl, grown_none_refl _⟩
    · intro w26 k26
      have hb26 := below_g0 hb14 k26
      rintro _ rfl
      rintro _ rfl
      rintro _ rfl
      rintro _ rfl
      rintro _ rfl
      rintro _ rfl
      rintro _ rfl
      rintro _ rfl
      rintro _ rfl
      rintro _ rfl
      rintro _ rfl
      refine st (s_assign rfl ?_)
      refine r_end ?_
      refine n_then ?_
      refine w_ret2 rfl rfl rfl ?_
      exact ⟨_, rfl, hb26, by rw [hz, Int.emod_eq_of_lt hq.1 hq.2, Int.emod_eq_of_lt (a := (h * 4294967296 + l) % y) (b := 4294967296) hr.1 (by omega)]⟩

theorem div_any {w : World} {a : Value} {m : Int} {xs : List Int} (ha : Sl Kd.u32 w (fun _ => False) a xs) (hm : 0 ≤ m ∧ m < 4294967296) (hla : xs.length ≤ 100000) :
    Calls Try.prog 42 [a, .int .u32 m].toArray w (Pure w fun r W => ∃ v, r = .tuple #[v, .int .u32 (if m = 0 then 0 else nv xs % m)] ∧ Sl Kd.u32 W (fun _ => False) v (tl (nv xs / m))) := by
  have hb0 := Below.refl w.heap.size w
  have hln1 := ha.lenle
  refine menter 10 Try.func42 rfl rfl ?_
  refine w_seq ?_
  refine w_region ?_
  refine st (s_box rfl ?_)
  intro g1 w1 hg1 hB1 k1 hs1
  have hb1 := below_g0 hb0 k1
  refine st (s_assign rfl ?_)
  refine st (s_assign rfl ?_)
  refine r_end ?_
  refine n_then ?_
  refine w_seq ?_
  refine w_seq ?_
  refine w_region ?_
  refine st (s_load one44 rfl hB1.range (j := 0) rfl ?_)
  refine st (s_eq rfl rfl ?_)
  refine r_end ?_
  refine n_then ?_
  refine w_condP rfl (fun h1 => ?_) (fun h1 => ?_)
  · refine w_seq ?_
    refine w_region ?_
    refine st (s_assign rfl ?_)
    refine st (s_assign rfl ?_)
    refine r_end ?_
    refine n_then ?_
    refine w_ret' ?_
    refine n_then_ret ?_
    have hm0 : m = 0 := h1
    subst hm0
    exact m_ret2 rfl rfl rfl ⟨_, rfl, hb1, _, rfl, by rw [Int.ediv_zero, tl_zero (Int.le_refl _)]; exact (Own.nil Kd.u32 44 w.heap.size _ (fun _ => False)).sl⟩
  · refine w_skip' ?_
    refine n_then ?_
    refine w_seq ?_
    refine w_region ?_
    refine st (s_move rfl ?_)
    refine st (s_len sl32 rfl (ha.at0 hb1) ?_)
    refine st (s_make (K := Kd.u32) (base := w1.heap.size) (F := (fun _ => False)) sl32 rfl (by omega) (by omega) (by omega) (fun _ _ => ⟨rfl, by decide⟩) (Nat.le_refl _) (fun _ h => h.elim) ?_)
    intro v1 w2 hO1 k2
    have hn1 := own_fresh hO1 (g := g1) (by have := hB1.lt; omega)
    have hO2 := hO1.rebase (b' := w.heap.size) (by omega)
    have hb2 := below_g0 hb1 k2
    have hz1 := hb2.size
    refine st (s_alloc zero32 ?_)
    intro g2 w3 hg2 hB2 k3 hs2
    have hb3 := below_g0 hb2 k3
    have hO3 := hO2.g0 k3
    refine st0 (s_store one32 rfl rfl (hO3.one) hB2 (of_decide_eq_true rfl) ?_)
    intro w4 hB3 k4 hs3
    have hb4 := below_g hb3 k4 (by omega)
    have hO4 := Own.keptF u32_flat hO3 k4 (hO3.ne_blk hB2 (by decide))
    clear hB2
    refine r_end ?_
    refine n_then ?_
    refine w_seq ?_
    refine w_region ?_
    refine st (s_alloc zero44 ?_)
    intro g3 w5 hg3 hB4 k5 hs4
    have hn2 := own_new hO4 hg3
    have hb5 := below_g0 hb4 k5
    have hO5 := hO4.g0 k5
    refine r_end ?_
    refine n_then ?_
    refine w_seq ?_
    refine w_seq ?_
    refine w_region ?_
    refine st (s_move rfl ?_)
    have hOB : ∀ g, v1.ownBlock = some g → g < w5.heap.size := fun g h => (hO5.lt g h).2
    refine st (s_call fn79 rfl (back_any ((ha.at0 hb5)).none) ?_)
    rintro _ w6 ⟨hq1, gb1, rfl, hg4, hB5⟩
    have k6 := grown_of_below hq1 none
    have hz2 := hq1.size
    have hb6 := below_g0 hb5 k6
    have hz3 := hb6.size
    have hO6 := hO5.g0 k6
    refine r_end ?_
    refine n_then ?_
    refine w_block ?_
    have hzz1 := k1.size
    have hzz2 := k2.size
    have hzz3 := k3.size
    have hzz4 := k4.size
    have hzz5 := k5.size
    have hzz6 := k6.size
    have hgbl := hB5.lt
    refine i_range (xs := xs) (n0 := w.heap.size) rfl fn91 (back_stops ha hb6 hB5) (hB5.lt) (by omega) (fun pre W => Below w.heap.size w W ∧ Blk W g1 44 #[.int .u32 m] ∧ Blk W g2 32 #[v1] ∧ ∃ os l, Blk W g3 44 #[.int .u32 l] ∧ Gw.Own Kd.u32 44 w.heap.size W (fun _ => False) v1 os ∧ os.length = xs.length ∧ (0 ≤ l ∧ l < m) ∧ DivSt xs m pre os l) (fun _ _ _ => False) (fun s A B row h hg hr => by
        obtain ⟨h1, h2, h3, os, l, h4, h5, h6, h7, h8⟩ := h
        exact ⟨Below.ownK h1 (Nat.le_refl _) (by omega) hg hr, h2.ownK hg hr, h3.ownK hg hr, os, l, h4.ownK hg hr, h5.ownK u32_flat hg hr, h6, h7, h8⟩) (fun _ _ _ _ _ h _ _ => h.elim) (⟨hb6, (((((hB1.g0 k2).g0 k3).gne k4 (by omega)).g0 k5).g0 k6), ((hB3.g0 k5).g0 k6), _, _, (hB4.g0 k6), hO6, by simp, by omega, divSt_nil (by simp)⟩) (fun x => [(3, .pointer (some ⟨g1, 0, none⟩)), (4, .slice none 0 0), (5, .int .u32 0), (6, .pointer (some ⟨g2, 0, none⟩)), (7, .pointer (some ⟨g3, 0, none⟩)), (8, .int .i64 x.1.1), (9, .int .u32 x.1.2), (16, .func (.func 91) #[] #[.pointer (some ⟨gb1, 0, none⟩)])]) (fun l x W => ?_) (fun l pre x W hl hi hlen => ?_) (fun Dk zs W hD hS hi hK => ?_) (fun Dk c pre W hD hS hi hK => ?_)
    · refine i_seq ?_
      refine i_region ?_
      refine ist (s_assign rfl ?_)
      refine i_end ?_
      refine in_then ?_
      refine i_region ?_
      refine ist (s_assign rfl ?_)
      refine i_end ?_
      exact n_set (by exact ⟨rfl, rfl, rfl, rfl, rfl, rfl, rfl, rfl, trivial⟩)
    · obtain ⟨hbW, hmW, hoW, os, l_, hlW, hOW, hol, hlm, hdv⟩ := hi
      have hzW := hbW.size
      obtain ⟨hx0, hx1, hx2⟩ := x.2
      have hxb := (lim_sl ha).ix x.1.1
      rw [← hx2] at hxb
      refine i_block ?_
      obtain ⟨gD1, hgD1, hl_1, hl_2⟩ := own_block hOW (by omega)
      have hlB := hOB _ hgD1
      refine i_drawD (by rintro ⟨a, w, h⟩; exact h) rfl 11 (fun a b => a.grownBy b (some gD1)) (fun a b => a.grownBy b none) (fun a b => a.grownBy b (some gD1)) [(some 20, fun v _ => v = v1), (some 21, fun v _ => v = .int .i64 x.1.1), (some 22, fun v _ => v = .int .u32 l_), (some 23, fun v _ => v = .int .u32 x.1.2), (some 24, fun v _ => v = .int .u32 m), (some 25, fun v _ => v = .tuple #[.int .u32 ((l_ * 4294967296 + x.1.2) / m), .int .u32 ((l_ * 4294967296 + x.1.2) % m)]), (some 19, fun v _ => v = .tuple #[.int .u32 ((l_ * 4294967296 + x.1.2) / m), .int .u32 ((l_ * 4294967296 + x.1.2) % m)]), (some 26, fun v _ => v = .int .u32 ((l_ * 4294967296 + x.1.2) / m)), (some 27, fun v _ => v = .int .u32 ((l_ * 4294967296 + x.1.2) % m)), (some 28, fun v _ => v = .pointer (some ⟨gD1, (x.1.1).toNat * 1, none⟩)), (none, fun _ W => Gw.Own Kd.u32 44 w.heap.size W (fun _ => False) v1 (os.set (x.1.1).toNat ((l_ * 4294967296 + x.1.2) / m)))] [[], [], [], [], [], [2, 3, 4], [5], [6], [6], [0, 1], [7, 9]] [[], [], [], [], [], [2, 3, 4], [2, 3, 4, 5], [2, 3, 4, 5, 6], [2, 3, 4, 5, 6], [0, 1, 2, 3, 4, 5, 6, 7], [0, 1, 2, 3, 4, 5, 6, 7, 9]] [[], [], [], [], [], [], [], [], [], [], []] [false, false, false, false, false, false, false, false, false, false, true] [true, true, true, true, true, true, true, true, true, true, false] [true, true, true, true, true, true, true, true, false, true, true] [(3, .pointer (some ⟨g1, 0, none⟩)), (4, .slice none 0 0), (5, .int .u32 0), (6, .pointer (some ⟨g2, 0, none⟩)), (7, .pointer (some ⟨g3, 0, none⟩)), (8, .int .i64 x.1.1), (9, .int .u32 x.1.2)] (by exact ⟨rfl, rfl, rfl, rfl, rfl, rfl, rfl, trivial⟩) (by kernel_rfl) (by kernel_rfl) (by kernel_rfl) rfl (grown_some_refl gD1) grown_some_trans (fun _ _ h => grown_none_row h) (fun _ _ h => h) ⟨fun _ _ _ h _ => by exact h, fun _ _ _ h _ => by exact h, fun _ _ _ h _ => by exact h, fun _ _ _ h _ => by exact h, fun _ _ _ h _ => by exact h, fun _ _ _ h _ => by exact h, fun _ _ _ h _ => by exact h, fun _ _ _ h _ => by exact h, fun _ _ _ h _ => by exact h, fun _ _ _ h _ => by exact h, fun _ _ _ h _ => by exact h, fun _ _ _ h _ => by exact h, fun _ _ _ h _ => by exact h, fun _ _ _ h _ => by exact h, fun _ _ _ h _ => by exact h, fun _ _ _ h _ => by exact h, fun _ _ _ h _ => by exact h, fun _ _ _ h _ => by exact h, fun _ _ _ h _ => by exact h, fun _ _ _ h _ => by exact h, fun _ _ _ h k => h.g0 k, trivial⟩ grown_none_refl (fun _ _ _ => grown_none_trans) rfl ?_
      intro w9 k9 hs6
      have hb7 := below_g0 hbW k9
      have hO8 := hOW.g0 k9
      refine ⟨⟨?_, ?_, ?_, ?_, ?_, ?_, ?_, ?_, ?_, ?_, ?_, trivial⟩, ?_⟩
      · intro w10 k10
        have hb8 := below_g0 hb7 k10
        have hz4 := hb8.size
        have hO9 := hO8.g0 k10
        refine op1 (s_load one32 rfl ((hoW.g0 k9).g0 k10).range (j := 0) rfl ?_)
        exact ⟨rfl, grown_none_refl _⟩
      · intro w11 k11
        have hb9 := below_g0 hb7 k11
        have hz5 := hb9.size
        have hO10 := hO8.g0 k11
        refine op1 (s_move rfl ?_)
        exact ⟨rfl, grown_none_refl _⟩
      · intro w12 k12
        have hb10 := below_g0 hb7 k12
        have hz6 := hb10.size
        have hO11 := hO8.g0 k12
        refine op1 (s_load one44 rfl ((hlW.g0 k9).g0 k12).range (j := 0) rfl ?_)
        exact ⟨rfl, grown_none_refl _⟩
      · intro w13 k13
        have hb11 := below_g0 hb7 k13
        have hz7 := hb11.size
        have hO12 := hO8.g0 k13
        refine op1 (s_move rfl ?_)
        exact ⟨rfl, grown_none_refl _⟩
      · intro w14 k14
        have hb12 := below_g0 hb7 k14
        have hz8 := hb12.size
        have hO13 := hO8.g0 k14
        refine op1 (s_load one44 rfl ((hmW.g0 k9).g0 k14).range (j := 0) rfl ?_)
        exact ⟨rfl, grown_none_refl _⟩
      · intro w15 k15
        have hb13 := below_g0 hb7 k15
        have hz9 := hb13.size
        have hO14 := hO8.g0 k15
        rintro _ rfl
        rintro _ rfl
        rintro _ rfl
        refine op1 (s_call fn82 rfl (div32_any (by omega) (by omega) (by omega) (by omega)) ?_)
        rintro _ w16 ⟨hq3, rfl⟩
        have k16 := grown_of_below hq3 none
        have hz10 := hq3.size
        have hb14 := below_g0 hb13 k16
        have hz11 := hb14.size
        have hO15 := hO14.g0 k16
        exact ⟨rfl, k16⟩
      · intro w17 k17
        have hb15 := below_g0 hb7 k17
        have hz12 := hb15.size
        have hO16 := hO8.g0 k17
        rintro _ rfl
        refine op1 (s_move rfl ?_)
        exact ⟨rfl, grown_none_refl _⟩
      · intro w18 k18
        have hb16 := below_g0 hb7 k18
        have hz13 := hb16.size
        have hO17 := hO8.g0 k18
        rintro _ rfl
        refine op1 (s_extract rfl rfl ?_)
        exact ⟨rfl, grown_none_refl _⟩
      · intro w19 k19
        rintro _ rfl
        refine op1 (s_extract rfl rfl ?_)
        exact ⟨rfl, grown_none_refl _⟩
      · intro w20 k20
        have hb17 := below_g0 hb7 k20
        have hz14 := hb17.size
        have hO18 := hO8.g0 k20
        intro v_ hv_; subst v_
        rintro _ rfl
        refine op1 (s_oidx sl32 rfl rfl hO18 (by omega) (by first | omega | (simp; done) | (simp; omega)) ?_)
        intro g5 hg6 hl_5 hl_6
        obtain rfl := Option.some.inj (hg6.symm.trans hgD1)
        exact ⟨rfl, grown_none_refl _⟩
      · intro w21 k21
        have hb18 := below_g0 hb7 k21
        have hz15 := hb18.size
        have hO19 := hO8.g0 k21
        rintro _ rfl
        rintro _ rfl
        refine op1 (s_ostore one44 rfl rfl rfl rfl hO19 hgD1 (by omega) (by first | omega | (simp; done) | (simp; omega)) ⟨rfl, div32_q (by omega) (by omega) (by omega)⟩ ?_)
        intro w22 hO20 k22 hs7
        have hb19 := below_g hb18 k22 (by omega)
        exact ⟨hO20, k22⟩
      · intro w23 k23
        intro v_ hv_; subst v_
        rintro _ rfl
        rintro _ rfl
        rintro _ rfl
        rintro _ rfl
        rintro _ rfl
        rintro _ rfl
        rintro _ rfl
        rintro _ rfl
        rintro _ rfl
        intro v_ hO21
        have hb20 := below_g hb7 k23 (by omega)
        have hz16 := hb20.size
        refine st0 (s_store one44 rfl rfl rfl ((hlW.g0 k9).gne k23 (ne_own_of hn2 hgD1)) (of_decide_eq_true rfl) ?_)
        intro w24 hB6 k24 hs8
        have hb21 := below_g hb20 k24 (by omega)
        have hO22 := Own.keptN u32_flat hO21 k24 hn2
        refine r_end ?_
        refine n_block ?_
        have hzz7 := k9.size
        have hzz8 := k23.size
        have hzz9 := k24.size
        have hKF : KeepsFrom w6.heap.size W _ := ((KeepsFrom.of_grownBy k9 (fun j e => by cases e)).trans (KeepsFrom.of_grownBy k23 (fun j e => by cases e; omega))).trans (KeepsFrom.of_grownBy k24 (fun j e => by cases e; omega))
        have hKP : KpL gb1 w.heap.size W _ := kpl_t (kpl_t (kpl_grown k9 (by intro e; cases e) (by omega) (fun j e => by cases e)) (kpl_grown k23 (by intro e; cases e; omega) (by omega) (fun j e => by cases e; omega))) (kpl_grown k24 (by intro e; cases e; omega) (by omega) (fun j e => by cases e; omega))
        exact n_own ⟨hKF, hKP, hb21, (((hmW.g0 k9).gne k23 (ne_own_of hn1 hgD1)).gne k24 (by omega)), (((hoW.g0 k9).gne k23 (hO8.blk_ne (hoW.g0 k9) (by decide) hgD1)).gne k24 (by omega)), _, _, hB6, hO22, by rw [List.length_set]; exact hol, ⟨Int.emod_nonneg _ (by omega), Int.emod_lt_of_pos _ (by omega)⟩, div_step hdv hol (by omega)⟩
    · obtain ⟨hbW, hmW, hoW, os, l_, hlW, hOW, hol, hlm, hdv⟩ := hi
      have hzW := hbW.size
      obtain ⟨hl9, ho9⟩ := div_end hdv hS
      refine n_block ?_
      refine n_then ?_
      refine w_seq ?_
      refine w_draw 4 (fun a b => a.grownBy b none) [(some 29, fun v _ => v = v1), (some 30, fun v W => Sl Kd.u32 W (fun _ => False) v (tl (nv os))), (some 31, fun v _ => v = .int .u32 l_), (some 4, fun v W => Sl Kd.u32 W (fun _ => False) v (tl (nv os)))] [[], [0], [], [1]] [(5, .int .u32 0), (6, .pointer (some ⟨g2, 0, none⟩)), (7, .pointer (some ⟨g3, 0, none⟩))] (by exact ⟨rfl, rfl, rfl, trivial⟩) (by kernel_rfl) (by kernel_rfl) grown_none_refl (fun _ _ _ => grown_none_trans) ⟨fun _ _ _ h _ => h, fun _ _ _ h k => h.g0 k, fun _ _ _ h _ => h, fun _ _ _ h k => h.g0 k, trivial⟩ ?_
      intro w26 k26 hs9
      have hb22 := below_g0 hbW k26
      have hO23 := hOW.g0 k26
      refine ⟨⟨?_, ?_, ?_, ?_, trivial⟩, ?_⟩
      · intro w27 k27
        have hb23 := below_g0 hb22 k27
        have hO24 := hO23.g0 k27
        refine op1 (s_load one32 rfl ((hoW.g0 k26).g0 k27).range (j := 0) rfl ?_)
        exact ⟨rfl, grown_none_refl _⟩
      · intro w28 k28
        have hb24 := below_g0 hb22 k28
        have hO25 := hO23.g0 k28
        intro v_ hv_; subst v_
        refine op1 (s_call fn74 rfl (cut_any hO25.sl) ?_)
        rintro v3 w29 ⟨hq5, hS3⟩
        have k29 := grown_of_below hq5 none
        have hz17 := hq5.size
        have hb25 := below_g0 hb24 k29
        have hz18 := hb25.size
        have hO26 := hO25.g0 k29
        have hS4 := hS3.none.g0 k29
        exact ⟨hS4, k29⟩
      · intro w30 k30
        have hb26 := below_g0 hb22 k30
        have hO27 := hO23.g0 k30
        refine op1 (s_load one44 rfl ((hlW.g0 k26).g0 k30).range (j := 0) rfl ?_)
        exact ⟨rfl, grown_none_refl _⟩
      · intro w31 k31
        have hb27 := below_g0 hb22 k31
        have hO28 := hO23.g0 k31
        intro v4 hS5
        refine op1 (s_assign rfl ?_)
        exact ⟨hS5, grown_none_refl _⟩
      · intro w32 k32
        have hb28 := below_g0 hb22 k32
        have hO29 := hO23.g0 k32
        intro v_ hv_; subst v_
        intro v5 hS6
        rintro _ rfl
        intro v6 hS7
        refine st (s_assign rfl ?_)
        refine r_end ?_
        refine n_then ?_
        refine w_ret' ?_
        have hK2 := ((k32.block Dk (Array.getElem?_eq_some_iff.1 ((k26.block Dk (Array.getElem?_eq_some_iff.1 hK).1 (fun e => by cases e)).trans hK)).1 (fun e => by cases e)).trans ((k26.block Dk (Array.getElem?_eq_some_iff.1 hK).1 (fun e => by cases e)).trans hK))
        refine m_ret2' rfl rfl rfl hK2 ⟨_, rfl, Below.mark hb28 (Nat.le_refl _) (by omega) hK2, _, by rw [hl9, if_neg (by omega)], ?_⟩
        rw [← ho9]
        exact Sl.mark u32_flat hS7 hK2
    · exact hi.elim
end Go.Proofs.Ytencmmhfiepojaa
