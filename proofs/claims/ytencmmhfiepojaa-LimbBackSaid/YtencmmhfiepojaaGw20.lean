/- Part of the proof that is named in YtencmmhfiepojaaLRowBack: a library for walks, or a function's walk. -/
import Derived.Test.YtencmmhfiepojaaGw15
import Derived.Test.YtencmmhfiepojaaGw18
set_option linter.unusedSimpArgs false
set_option linter.unusedVariables false
/-! ### As in Gw15; what comes ahead of every big step finds the world as it was but for small ones -/
namespace Go.Gw
open Go.RowKit
def AllV2 : Spec → Env → World → (Env → Prop) → Prop
  | [], ρ, _, K => K ρ
  | (some d, φ) :: r, ρ, w, K => ∀ v, φ v w → AllV2 r ((d, v) :: ρ) w K
  | (none, φ) :: r, ρ, w, K => ∀ v, φ v w → AllV2 r ρ w K
theorem allV2_inst {n : Nat} {D : List Deferred} {w : World} (vals : Nat → Value) {a : Act} : ∀ (r : Spec) (k : Nat) (ρ : Env) (K : Env → Prop), Fr n D ρ a → (∀ i dst φ, r[i]? = some (dst, φ) → φ (vals (k + i)) w ∧ ∀ d, dst = some d → a.tmps[d]? = some (vals (k + i))) →
    AllV2 r ρ w K → ∃ ρ', Fr n D ρ' a ∧ K ρ'
  | [], k, ρ, K, hF, _, h => ⟨ρ, hF, h⟩
  | (some d, φ) :: r, k, ρ, K, hF, hg, h => by
    obtain ⟨h1, h2⟩ := hg 0 _ _ rfl
    refine allV2_inst vals r (k + 1) _ K ⟨hF.defers, hF.size, fun t v hlk => ?_⟩ (fun i dst φ hs => by have := hg (i + 1) dst φ (by simpa using hs); rwa [show k + 1 + i = k + (i + 1) by omega]) (h _ h1)
    rw [look_cons] at hlk
    split at hlk
    · rename_i e; subst e; cases hlk; exact h2 _ rfl
    · exact hF.slot _ _ hlk
  | (none, φ) :: r, k, ρ, K, hF, hg, h => allV2_inst vals r (k + 1) _ K hF (fun i dst φ hs => by have := hg (i + 1) dst φ (by simpa using hs); rwa [show k + 1 + i = k + (i + 1) by omega]) (h _ (hg 0 _ _ rfl).1)
def relCl (R R0 : World → World → Prop) (cls : List Bool) (i : Nat) : World → World → Prop := if cls.getD i false = true then R0 else R
def ObsAllD (P : Program) (ops : Array Oper) (n : Nat) (D : List Deferred) (ρ0 : Env) (w0 : World) (R R0 R1 : World → World → Prop) (sp : Spec) : List Oper → List (List Nat) → List Bool → List Bool → Spec → Prop
  | o :: os, d :: ds, true :: bs, true :: cs, (_, φ) :: r => (∀ w, R0 w0 w → depV sp d ρ0 w (fun ρ => Op1 P ops o n D ρ w (fun v w' => φ v w' ∧ R1 w w'))) ∧ ObsAllD P ops n D ρ0 w0 R R0 R1 sp os ds bs cs r
  | o :: os, d :: ds, true :: bs, false :: cs, (_, φ) :: r => (∀ w, R w0 w → depV sp d ρ0 w (fun ρ => Op1 P ops o n D ρ w (fun v w' => φ v w' ∧ R1 w w'))) ∧ ObsAllD P ops n D ρ0 w0 R R0 R1 sp os ds bs cs r
  | o :: os, d :: ds, false :: bs, true :: cs, (_, φ) :: r => (∀ w, R0 w0 w → depV sp d ρ0 w (fun ρ => Op1 P ops o n D ρ w (fun v w' => φ v w' ∧ R0 w w'))) ∧ ObsAllD P ops n D ρ0 w0 R R0 R1 sp os ds bs cs r
  | o :: os, d :: ds, false :: bs, false :: cs, (_, φ) :: r => (∀ w, R w0 w → depV sp d ρ0 w (fun ρ => Op1 P ops o n D ρ w (fun v w' => φ v w' ∧ R0 w w'))) ∧ ObsAllD P ops n D ρ0 w0 R R0 R1 sp os ds bs cs r
  | _, _, _, _, [] => True
  | _, _, _, _, _ => False
def cleanOk (m : Nat) (anc : List (List Nat)) (big cls : List Bool) : Bool :=
  (List.range m).all fun i => !cls.getD i false || (List.range m).all fun b => !big.getD b false || (b == i || (anc.getD b []).contains i)
section
variable {P : Program} {l : List Oper} {Q : Exit → Act → World → Prop} {n m : Nat} {D : List Deferred} {ρ0 : Env} {w0 : World} {R R0 R1 : World → World → Prop} {sp : Spec} {ds anc con : List (List Nat)} {big st1 cls : List Bool}
theorem ObsAllD.at_ {ops : Array Oper} : ∀ {l' : List Oper} {ds' : List (List Nat)} {bs' cs' : List Bool} {sp' : Spec}, ObsAllD P ops n D ρ0 w0 R R0 R1 sp l' ds' bs' cs' sp' → ∀ {i : Nat} {dst : Option Nat} {φ : Value → World → Prop} {o : Oper}, sp'[i]? = some (dst, φ) → l'[i]? = some o →
    ∀ w, relCl R R0 cs' i w0 w → depV sp (ds'.getD i []) ρ0 w (fun ρ => Op1 P ops o n D ρ w (fun v w' => φ v w' ∧ relOf R0 R1 bs' i w w')) := by
  intro l' ds' bs' cs' sp' h
  induction sp' generalizing l' ds' bs' cs' with
  | nil => intro i dst φ o hs; simp at hs
  | cons p r ih =>
    intro i dst φ o hs hl
    obtain ⟨pd, pφ⟩ := p
    match l', ds', bs', cs', h with
    | o' :: os, d :: dd, true :: bb, true :: cc, h =>
      obtain ⟨h1, h2⟩ := h
      cases i with
      | zero => simp at hs hl; obtain ⟨rfl, rfl⟩ := hs; subst hl; simpa [relOf, relCl] using h1
      | succ i => simp at hs hl; simpa [relOf, relCl] using ih h2 hs hl
    | o' :: os, d :: dd, true :: bb, false :: cc, h =>
      obtain ⟨h1, h2⟩ := h
      cases i with
      | zero => simp at hs hl; obtain ⟨rfl, rfl⟩ := hs; subst hl; simpa [relOf, relCl] using h1
      | succ i => simp at hs hl; simpa [relOf, relCl] using ih h2 hs hl
    | o' :: os, d :: dd, false :: bb, true :: cc, h =>
      obtain ⟨h1, h2⟩ := h
      cases i with
      | zero => simp at hs hl; obtain ⟨rfl, rfl⟩ := hs; subst hl; simpa [relOf, relCl] using h1
      | succ i => simp at hs hl; simpa [relOf, relCl] using ih h2 hs hl
    | o' :: os, d :: dd, false :: bb, false :: cc, h =>
      obtain ⟨h1, h2⟩ := h
      cases i with
      | zero => simp at hs hl; obtain ⟨rfl, rfl⟩ := hs; subst hl; simpa [relOf, relCl] using h1
      | succ i => simp at hs hl; simpa [relOf, relCl] using ih h2 hs hl
/-- The state in the middle of a drawn region: what has run holds its value, and its fact till it's used up. -/
structure MidD (l : List Oper) (con : List (List Nat)) (n : Nat) (D : List Deferred) (ρ0 : Env) (w0 : World) (R R0 : World → World → Prop) (big : List Bool) (sp : Spec) (m N : Nat) (listed : Array Bool) (vals : Nat → Value) (a : Act) (w : World) : Prop where
  fr : Fr n D ρ0 a
  wr : R w0 w
  cln : (∀ i, i < m → big.getD i false = true → listed.getD i false = false) → R0 w0 w
  size : listed.size = N
  tail : ∀ i, m ≤ i → listed.getD i false = false
  cl : ∀ i o, l[i]? = some o → listed.getD i false = true → ∀ j, hasEdge o j = true → listed.getD j false = true
  got : ∀ i dst φ, sp[i]? = some (dst, φ) → listed.getD i false = true → ((∀ c ∈ con.getD i [], listed.getD c false = false) → φ (vals i) w) ∧ ∀ d, dst = some d → a.tmps[d]? = some (vals i)
theorem MidD.closed {listed : Array Bool} {vals : Nat → Value} {a : Act} {w : World} {N : Nat} (hM : MidD l con n D ρ0 w0 R R0 big sp m N listed vals a w) (hA : ancOk l anc = true) : ∀ (x b : Nat), listed.getD x false = true → (anc.getD x []).contains b = true → listed.getD b false = true := by
  intro x
  induction x using Nat.strongRecOn with
  | _ x ih =>
    intro b hx hb
    unfold ancOk at hA
    rw [List.all_eq_true] at hA
    by_cases hxl : x < anc.length
    · have h1 := hA x (by simpa using hxl)
      cases ho : l[x]? with
      | none => rw [ho] at h1; cases h1
      | some o =>
        rw [ho] at h1
        dsimp only at h1
        rw [List.all_eq_true] at h1
        have h2 := h1 b (by simpa using hb)
        rw [Bool.or_eq_true] at h2
        rcases h2 with h2 | h2
        · exact hM.cl x o ho hx b h2
        · rw [List.any_eq_true] at h2
          obtain ⟨y, hy, h3⟩ := h2
          rw [Bool.and_eq_true] at h3
          exact ih y (by simpa using hy) b (hM.cl x o ho hx y h3.1) h3.2
    · rw [List.getD_eq_getElem?_getD, List.getElem?_eq_none (by omega)] at hb
      simp at hb
theorem MidD.near {listed : Array Bool} {vals : Nat → Value} {a : Act} {w : World} {N : Nat} (hM : MidD l con n D ρ0 w0 R R0 big sp m N listed vals a w) (hA : ancOk l anc = true) {i c : Nat} {o : Oper} (ho : l[i]? = some o)
    (hal : ∀ j, hasEdge o j = true → listed.getD j false = true) (hc : (anc.getD i []).contains c = true) : listed.getD c false = true := by
  have hA' := hA
  unfold ancOk at hA
  rw [List.all_eq_true] at hA
  by_cases hxl : i < anc.length
  · have h1 := hA i (by simpa using hxl)
    rw [ho] at h1
    dsimp only at h1
    rw [List.all_eq_true] at h1
    have h2 := h1 c (by simpa using hc)
    rw [Bool.or_eq_true] at h2
    rcases h2 with h2 | h2
    · exact hal c h2
    · rw [List.any_eq_true] at h2
      obtain ⟨y, hy, h3⟩ := h2
      rw [Bool.and_eq_true] at h3
      exact hM.closed hA' y c (hal y h3.1) h3.2
  · rw [List.getD_eq_getElem?_getD, List.getElem?_eq_none (by omega)] at hc
    simp at hc
theorem depV_instD {listed : Array Bool} {vals : Nat → Value} {a : Act} {w : World} {N : Nat} (hM : MidD l con n D ρ0 w0 R R0 big sp m N listed vals a w) : ∀ (d : List Nat) (ρ : Env) (K : Env → Prop), Fr n D ρ a → (∀ j ∈ d, listed.getD j false = true ∧ ∀ c ∈ con.getD j [], listed.getD c false = false) →
    depV sp d ρ w K → ∃ ρ', Fr n D ρ' a ∧ K ρ'
  | [], ρ, K, hF, _, h => ⟨ρ, hF, h⟩
  | j :: r, ρ, K, hF, hl, h => by
    unfold depV at h
    split at h
    · rename_i d φ hs
      have hj := hl j (by simp)
      obtain ⟨h1, h2⟩ := hM.got j _ _ hs hj.1
      refine depV_instD hM r _ K ⟨hF.defers, hF.size, fun t v hlk => ?_⟩ (fun i hi => hl i (by simp [hi])) (h _ (h1 hj.2))
      rw [look_cons] at hlk
      split at hlk
      · rename_i e; subst e; cases hlk; exact h2 _ rfl
      · exact hF.slot _ _ hlk
    · exact depV_instD hM r _ K hF (fun i hi => hl i (by simp [hi])) h
theorem mid_anyD {keys : List Nat} (hA : ancOk l anc = true) (hC : conOk m ds anc con big st1 = true) (hR0 : ∀ a b, R0 a b → R a b) (hR1 : ∀ a b, R1 a b → R a b) (hF : DrawFacts l m n keys sp ds) (hkeys : ∀ t v, look ρ0 t = some v → t ∈ keys) (hRt : ∀ a b c, R a b → R b c → R a c) (hst : StAllC R0 R1 sp st1) (hR00 : ∀ a, R0 a a) (hR0t : ∀ a b c, R0 a b → R0 b c → R0 a c) (hcl : cleanOk m anc big cls = true) (hobs : ObsAllD P l.toArray n D ρ0 w0 R R0 R1 sp l ds big cls sp)
    (hend : ∀ w, R w0 w → AllV2 (finS sp con) ρ0 w (fun ρ => Reg P l.toArray Q (l.drop m) n D ρ w)) :
    ∀ (fuel : Nat) (listed : Array Bool) (vals : Nat → Value) (a : Act) (w : World), MidD l con n D ρ0 w0 R R0 big sp m l.length listed vals a w → cnt l.length listed ≤ fuel → wpAny P .any l.toArray Q fuel listed a w := by
  -- once all heads are listed
  have hfin : ∀ (fuel : Nat) (listed : Array Bool) (vals : Nat → Value) (a : Act) (w : World), MidD l con n D ρ0 w0 R R0 big sp m l.length listed vals a w → (∀ i, i < m → listed.getD i false = true) → l.length - m ≤ fuel → wpAny P .any l.toArray Q fuel listed a w := by
    intro fuel listed vals a w hM hall hf
    obtain ⟨ρ', hFr, hReg⟩ := allV2_inst (w := w) vals (finS sp con) 0 ρ0 _ hM.fr (fun i dst φ hs => by
      obtain ⟨φ0, hs0, hφ⟩ := finS_at hs
      have hi : i < m := by rw [← hF.spl]; exact (List.getElem?_eq_some_iff.1 hs0).1
      have hg := hM.got i dst φ0 hs0 (hall i hi)
      rw [Nat.zero_add]
      refine ⟨?_, hg.2⟩
      rcases hφ with ⟨rfl, hc⟩ | rfl
      · exact hg.1 (by rw [hc]; simp)
      · trivial) (hend w hM.wr)
    exact tail_any hF fuel m listed a w (Nat.le_refl _) hF.le hf hM.size hall hM.tail (hReg a hFr)
  have hcnt : ∀ listed : Array Bool, (∀ i, m ≤ i → listed.getD i false = false) → ∀ k, m ≤ k → k - m ≤ cnt k listed := by
    intro listed ht k
    induction k with
    | zero => intro _; omega
    | succ k ih =>
      intro hk
      unfold cnt
      rcases Nat.lt_or_ge k m with h | h
      · omega
      · rw [ht k h]; have := ih h; simp; omega
  intro fuel
  induction fuel with
  | zero =>
    intro listed vals a w hM hc
    have h0 : cnt l.length listed = 0 := by omega
    have hall := cnt_zero listed _ h0
    refine hfin 0 listed vals a w hM (fun i hi => hall i (by have := hF.le; omega)) ?_
    have := hcnt listed hM.tail l.length hF.le
    omega
  | succ fuel ih =>
    intro listed vals a w hM hc
    by_cases hall : ∀ i, i < m → listed.getD i false = true
    · refine hfin _ listed vals a w hM hall ?_
      have := hcnt listed hM.tail l.length hF.le
      omega
    · -- some head is not listed: it's not the end, and no tail is ready
      refine ⟨fun h0 => absurd ?_ hall, fun i hi => ?_⟩
      · -- the least one that isn't listed is ready
        intro i hi
        induction i using Nat.strongRecOn with
        | _ i ihh =>
          by_cases hb : listed.getD i false = true
          · exact hb
          · exfalso
            have hil : i < l.length := by have := hF.le; omega
            have hr : i ∈ Region.ready .any l.toArray listed := by
              refine (mem_ready (by simpa using hM.size)).2 ⟨l[i], by simp [hil], by simpa using hb, ?_⟩
              rw [Array.all_eq_true]
              intro j hj
              by_cases hbd : Region.binds .any l[i].after[j] = true
              · have := hF.before i _ (List.getElem?_eq_getElem hil) _ (Array.getElem_mem hj) hbd
                rw [ihh _ this (by omega)]; simp
              · simp [hbd]
            rw [h0] at hr; simp at hr
      · obtain ⟨o, ho, hfi, hal⟩ := (mem_ready (by simpa using hM.size)).1 hi
        have ho' : l[i]? = some o := by simpa using ho
        have hil : i < l.length := (List.getElem?_eq_some_iff.1 ho').1
        have him : i < m := by
          rcases Nat.lt_or_ge i m with h | h
          · exact h
          · exact absurd (fun j hj => hasEdge_listed (hF.tail i o h ho' j (by omega)) hal) hall
        have hsp : ∃ dst φ, sp[i]? = some (dst, φ) := by
          have : i < sp.length := by rw [hF.spl]; exact him
          exact ⟨_, _, List.getElem?_eq_getElem this⟩
        obtain ⟨dst, φ, hs⟩ := hsp
        have hdst := hF.dst i o dst φ ho' hs
        have hCi : (∀ j ∈ ds.getD i [], ∀ c ∈ con.getD j [], c = i ∨ (anc.getD c []).contains i = true) ∧ (big.getD i false = true → ∀ j, j < m → j ≠ i → (anc.getD j []).contains i = true ∨ st1.getD j false = true ∨ ∃ c ∈ con.getD j [], c = i ∨ (anc.getD i []).contains c = true) := by
          unfold conOk at hC
          rw [List.all_eq_true] at hC
          have h8 := hC i (by simpa using him)
          rw [Bool.and_eq_true] at h8
          refine ⟨fun j hj c hc => ?_, fun hb j hj hne => ?_⟩
          · have := (List.all_eq_true.1 ((List.all_eq_true.1 h8.1) j hj)) c hc
            rw [Bool.or_eq_true, beq_iff_eq] at this
            exact this
          · have h9 := h8.2
            rw [hb, Bool.not_true, Bool.false_or, List.all_eq_true] at h9
            have := h9 j (by simpa using hj)
            rw [Bool.or_eq_true, Bool.or_eq_true, Bool.or_eq_true, beq_iff_eq, List.any_eq_true] at this
            rcases this with ((this | this) | this) | ⟨c, hc, this⟩
            · exact absurd this hne
            · exact .inl this
            · exact .inr (.inl this)
            · rw [Bool.or_eq_true, beq_iff_eq] at this; exact .inr (.inr ⟨c, hc, this⟩)
        have hclean : ∀ i, i < m → cls.getD i false = true → ∀ b, b < m → big.getD b false = true → b = i ∨ (anc.getD b []).contains i = true := by
          intro i hi hc b hb1 hb2
          unfold cleanOk at hcl
          rw [List.all_eq_true] at hcl
          have h1 := hcl i (by simpa using hi)
          rw [hc, Bool.not_true, Bool.false_or, List.all_eq_true] at h1
          have h2 := h1 b (by simpa using hb1)
          rw [hb2, Bool.not_true, Bool.false_or, Bool.or_eq_true, beq_iff_eq] at h2
          exact h2
        subst hdst
        have hsz : i < listed.size := by rw [hM.size]; exact hil
        obtain ⟨ρ', hFr, hOp⟩ := depV_instD hM (ds.getD i []) ρ0 _ hM.fr (fun j hj => ⟨hasEdge_listed (hF.deps i o him ho' j hj).2 hal, fun c hc => by
          have h7 := hCi.1 j hj c hc
          rcases h7 with h7 | h7
          · rw [h7]; exact hfi
          · by_cases hcl : listed.getD c false = true
            · have := hM.closed hA c i hcl h7; rw [hfi] at this; cases this
            · simpa using hcl⟩) (hobs.at_ hs ho' w (by
            unfold relCl
            split
            · rename_i hci
              refine hM.cln fun b hb1 hb2 => ?_
              rcases hclean i him hci b hb1 hb2 with e | e
              · rw [e]; exact hfi
              · by_cases hbl : listed.getD b false = true
                · have := hM.closed hA b i hbl e; rw [hfi] at this; cases this
                · simpa using hbl
            · exact hM.wr))
        have hnew : ∀ (v : Value) (w' : World), φ v w' → relOf R0 R1 big i w w' → MidD l con n D ρ0 w0 R R0 big sp m l.length (listed.setIfInBounds i true) (fun j => if j = i then v else vals j) (a.put o.dst v) w' := by
          intro v w' hv hR
          have hput : ∀ t, (∀ d, o.dst = some d → t ≠ d) → (a.put o.dst v).tmps[t]? = a.tmps[t]? := by
            intro t ht
            cases hd : o.dst with
            | none => rfl
            | some d => simp only [Act.put, Array.getElem?_setIfInBounds]; rw [if_neg (fun e => ht d hd e.symm)]
          have hputd : ∀ d, o.dst = some d → (a.put o.dst v).tmps[d]? = some v := by
            intro d hd
            have := (hF.ok i o d him ho' hd).1
            rw [hd]
            simp [Act.put, hM.fr.size, this]
          have hR' : R w w' := by unfold relOf at hR; split at hR; exact hR1 _ _ hR; exact hR0 _ _ hR
          refine ⟨⟨?_, ?_, ?_⟩, hRt _ _ _ hM.wr hR', fun hnb => ?_, by simpa using hM.size, ?_, ?_, ?_⟩
          · rw [← hM.fr.defers]; cases o.dst <;> rfl
          · rw [← hM.fr.size]; cases o.dst <;> simp [Act.put]
          · intro t u hl
            rw [hput t (fun d hd e => (hF.ok i o d him ho' hd).2 (by rw [← e]; exact hkeys t u hl))]
            exact hM.fr.slot t u hl
          · have hbi : big.getD i false = false := by
              by_cases hb : big.getD i false = true
              · have := hnb i him hb; rw [getD_set _ _ _ hsz, if_pos rfl] at this; cases this
              · simpa using hb
            refine hR0t _ _ _ (hM.cln fun b hb1 hb2 => ?_) (by unfold relOf at hR; rw [if_neg (by rw [hbi]; simp)] at hR; exact hR)
            have := hnb b hb1 hb2
            rw [getD_set _ _ _ hsz] at this
            by_cases e : i = b
            · rw [if_pos e] at this; cases this
            · rwa [if_neg e] at this
          · intro j hj
            rw [getD_set _ _ _ hsz, if_neg (by omega)]; exact hM.tail j hj
          · intro j o' hj hlj k hk
            rw [getD_set _ _ _ hsz]
            by_cases e2 : i = k
            · rw [if_pos e2]
            · rw [if_neg e2]
              rw [getD_set _ _ _ hsz] at hlj
              by_cases e1 : i = j
              · subst e1
                rw [ho'] at hj; cases hj
                exact hasEdge_listed hk hal
              · rw [if_neg e1] at hlj
                exact hM.cl j o' hj hlj k hk
          · intro j dst φ' hs' hl
            rw [getD_set _ _ _ hsz] at hl
            by_cases e : j = i
            · subst e
              rw [hs] at hs'
              injection hs' with hs'
              injection hs' with e1 e2
              subst e1; subst e2
              rw [if_pos rfl]
              exact ⟨fun _ => hv, hputd⟩
            · rw [if_neg (fun e' => e e'.symm)] at hl
              rw [if_neg e]
              obtain ⟨g1, g2⟩ := hM.got j dst φ' hs' hl
              refine ⟨fun hcu => ?_, fun d hd => ?_⟩
              · have hcu' : ∀ c ∈ con.getD j [], listed.getD c false = false := fun c hc => by
                  have := hcu c hc
                  rw [getD_set _ _ _ hsz] at this
                  by_cases e3 : i = c
                  · rw [if_pos e3] at this; cases this
                  · rwa [if_neg e3] at this
                have hs1 := hst.at_ hs'
                unfold relOf at hR
                split at hR
                · rename_i hb
                  have hjm : j < m := by rw [← hF.spl]; exact (List.getElem?_eq_some_iff.1 hs').1
                  rcases hCi.2 hb j hjm e with h7 | h7 | ⟨c, hc, h7⟩
                  · exfalso; have := hM.closed hA j i hl h7; rw [hfi] at this; cases this
                  · exact hs1.2 h7 _ _ _ (g1 hcu') hR
                  · exfalso
                    rcases h7 with rfl | h7
                    · have := hcu c hc; rw [getD_set _ _ _ hsz, if_pos rfl] at this; cases this
                    · have hci : listed.getD c false = false := hcu' c hc
                      have := hM.near hA ho' (fun j hj => hasEdge_listed hj hal) h7
                      rw [hci] at this; cases this
                · exact hs1.1 _ _ _ (g1 hcu') hR
              have hj : j < m := by rw [← hF.spl]; exact (List.getElem?_eq_some_iff.1 hs').1
              have hjl : j < l.length := by have := hF.le; omega
              have hoj := List.getElem?_eq_getElem hjl
              have hdj := hF.dst j _ dst φ' hoj hs'
              rw [hput d (fun d' hd' e' => by subst e'; exact hF.apart j i _ o d hj him e hoj ho' (by rw [hdj, hd]) hd')]
              exact g2 d hd
        have hcnt' := cnt_set listed i hsz hfi l.length hil
        unfold wpOp
        rw [ho]
        dsimp only
        have h1 := hOp a hFr
        split
        · rename_i hw
          rw [if_pos hw] at h1
          refine .inl (Oper.wp_mono ?_ (h1 Q))
          rintro a' w' ⟨v, rfl, hv, hR⟩
          exact ih _ _ _ _ (hnew v w' hv hR) (by omega)
        · rename_i hw
          rw [if_neg hw] at h1
          exact ih _ _ _ _ (hnew undef w h1.1 h1.2) (by omega)


theorem w_drawD {id : Nat} {w : World} {ρ : Env} (m : Nat) (R R0 R1 : World → World → Prop) (sp : Spec) (ds anc con : List (List Nat)) (big st1 cls : List Bool) (ρ0 : Env) (hsub : Sub ρ0 ρ) (hm : P.follows .mixedOrders = true)
    (hchk : drawOk l m n (keysOf ρ0) (sp.map (·.1)) ds = true) (hA : ancOk l anc = true) (hC : conOk m ds anc con big st1 = true) (hR : ∀ a, R a a) (hRt : ∀ a b c, R a b → R b c → R a c) (hR0 : ∀ a b, R0 a b → R a b) (hR1 : ∀ a b, R1 a b → R a b) (hst : StAllC R0 R1 sp st1) (hR00 : ∀ a, R0 a a) (hR0t : ∀ a b c, R0 a b → R0 b c → R0 a c) (hcl : cleanOk m anc big cls = true)
    (h : ∀ w0, w.grownBy w0 none → w0.heap.size = w.heap.size → ObsAllD P l.toArray n D ρ0 w0 R R0 R1 sp l ds big cls sp ∧ (∀ w', R w0 w' → AllV2 (finS sp con) ρ0 w' (fun ρ => Reg P l.toArray Q (l.drop m) n D ρ w'))) :
    W P (.region id l.toArray true) Q n D ρ w := by
  intro a ha
  have hF := drawFacts hchk
  obtain ⟨h1, h2⟩ := h w.drew (grown_drew w) rfl
  refine wp_region_any hm ?_
  have hno : ∀ i, (Array.replicate l.length false).getD i false = false := fun i => by
    simp [Array.getD_eq_getD_getElem?, Array.getElem?_replicate]; split <;> rfl
  have hM : MidD l con n D ρ0 w.drew R R0 big sp m l.length (Array.replicate l.length false) (fun _ => undef) a w.drew :=
    { fr := ha.sub hsub, wr := hR _, cln := fun _ => hR00 _, size := by simp, tail := fun i _ => hno i,
      cl := fun i o _ hl j _ => (by rw [hno] at hl; cases hl),
      got := fun i dst φ hs hl => (by rw [hno] at hl; cases hl) }
  have := mid_anyD hA hC hR0 hR1 hF (fun t v hl => look_of_keys hl) hRt hst hR00 hR0t hcl h1 h2 l.length (Array.replicate l.length false) (fun _ => undef) a w.drew hM (by
      have : ∀ k L, cnt k L ≤ k := by
        intro k L; induction k with
        | zero => exact Nat.le_refl _
        | succ k ih => unfold cnt; split <;> omega
      exact this _ _)
  simpa using this
end
/-- Blocks that are apart. -/
structure Dist (g7 g2 g8 g6 ga gd gk : Nat) : Prop where
  x7 : ¬ (g7 = ga ∨ g7 = gd ∨ g7 = gk)
  x2 : ¬ (g2 = ga ∨ g2 = gd ∨ g2 = gk)
  x8 : ¬ (g8 = ga ∨ g8 = gd ∨ g8 = gk)
  x6 : ¬ (g6 = ga ∨ g6 = gd ∨ g6 = gk)
  dx : ¬ (gd = ga ∨ gd = gk)
theorem not3 {g a b c : Nat} (h : ¬ (g = a ∨ g = b ∨ g = c)) : ¬ (g = a ∨ g = c) := fun e => h (e.elim .inl fun e => .inr (.inr e))
/-- The world grew, and some blocks may have been written. -/
structure Two (S : Nat → Prop) (a b : World) : Prop where
  os : b.os = a.os
  tape : b.tape = a.tape
  output : b.output = a.output
  size : a.heap.size ≤ b.heap.size
  keep : ∀ i, i < a.heap.size → ¬ S i → b.heap[i]? = a.heap[i]?
theorem Two.refl (S : Nat → Prop) (a : World) : Two S a a := ⟨rfl, rfl, rfl, Nat.le_refl _, fun _ _ _ => rfl⟩
theorem Two.trans {S : Nat → Prop} {a b c : World} (h : Two S a b) (k : Two S b c) : Two S a c :=
  ⟨k.os.trans h.os, k.tape.trans h.tape, k.output.trans h.output, Nat.le_trans h.size k.size, fun i hi hn => (k.keep i (Nat.lt_of_lt_of_le hi h.size) hn).trans (h.keep i hi hn)⟩
theorem Two.of {S : Nat → Prop} {a b : World} {row : Option Nat} (h : a.grownBy b row) (hr : ∀ r, row = some r → S r) : Two S a b :=
  ⟨h.os, h.tape, h.output, h.size, fun i hi hn => h.block i hi (fun e => hn (hr i e.symm))⟩
theorem Two.none {S : Nat → Prop} {a b : World} (h : a.grownBy b none) : Two S a b := Two.of h (by simp)
theorem Blk.two {S : Nat → Prop} {a b : World} {g t : Nat} {cs : Array Value} (h : Blk a g t cs) (k : Two S a b) (hn : ¬ S g) : Blk b g t cs := (k.keep g h.lt hn).trans h
theorem IsMap.two {S : Nat → Prop} {κ ν : Type} {ek : κ → Value} {ev : ν → Value} {a b : World} {g : Nat} {m : List (κ × ν)} (h : IsMap ek ev a g m) (k : Two S a b) (hn : ¬ S g) : IsMap ek ev b g m := by
  obtain ⟨es, c, q, r⟩ := id h
  exact ⟨es, c, (k.keep g h.lt hn).trans q, r⟩
theorem Two.below {S : Nat → Prop} {n : Nat} {c a b : World} (k : Two S a b) (h : Below n c a) (hn : n ≤ a.heap.size) (hS : ∀ i, i < n → ¬ S i) : Below n c b :=
  ⟨k.os.trans h.os, k.tape.trans h.tape, k.output.trans h.output, Nat.le_trans h.size k.size, fun i hi => (k.keep i (Nat.lt_of_lt_of_le hi hn) (hS i hi)).trans (h.block i hi)⟩
theorem Frm.two {X S : Nat → Prop} {w0 w w' : World} {v0 v v' : Value} (h : Frm X w0 v0 w v) (k : Two S w w') (hS : ∀ i, S i → X i ∨ v.ownBlock = some i) (hr : v'.ownBlock = v.ownBlock ∨ ∃ q, v'.ownBlock = some q ∧ w.heap.size ≤ q) : Frm X w0 v0 w' v' :=
  ⟨Nat.le_trans h.1 k.size, fun g a b c => ⟨(k.keep g (Nat.lt_of_lt_of_le a h.1) (fun e => (hS g e).elim b (h.2 g a b c).2)).trans (h.2 g a b c).1, own_app2 (h.2 g a b c).2 hr (Nat.lt_of_lt_of_le a h.1)⟩⟩
/-- The world grew, and one row may have been written. -/
def Rowed (v : Value) (a b : World) : Prop := a.grownBy b v.ownBlock
theorem grown_row_trans {row : Option Nat} {a b c : World} (h : a.grownBy b row) (k : b.grownBy c row) : a.grownBy c row :=
  ⟨k.os.trans h.os, k.tape.trans h.tape, k.output.trans h.output, Nat.le_trans h.size k.size, fun i hi hn => (k.block i (Nat.lt_of_lt_of_le hi h.size) hn).trans (h.block i hi hn)⟩
theorem grown_none_row {row : Option Nat} {a b : World} (h : a.grownBy b none) : a.grownBy b row := ⟨h.os, h.tape, h.output, h.size, fun i hi _ => h.block i hi (by simp)⟩
theorem grown_row_refl (row : Option Nat) (a : World) : a.grownBy a row := ⟨rfl, rfl, rfl, Nat.le_refl _, fun _ _ _ => rfl⟩
end Go.Gw
