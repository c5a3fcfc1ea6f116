/- Part of the proof that is named in YtencmmhfiepojaaLRowBack: a library for walks, or a function's walk. -/
import Derived.Test.YtencmmhfiepojaaGw14
set_option linter.unusedSimpArgs false
set_option linter.unusedVariables false
/-! ### A region that draws its order, where some operations use up what others made (a chain of appends) -/
namespace Go.Gw
open Go.RowKit
def relOf (R0 R1 : World → World → Prop) (big : List Bool) (i : Nat) : World → World → Prop := if big.getD i false = true then R1 else R0
def StAllC (R0 R1 : World → World → Prop) : Spec → List Bool → Prop
  | [], _ => True
  | (_, φ) :: r, true :: s => (∀ v w w', φ v w → R0 w w' → φ v w') ∧ (∀ v w w', φ v w → R1 w w' → φ v w') ∧ StAllC R0 R1 r s
  | (_, φ) :: r, false :: s => (∀ v w w', φ v w → R0 w w' → φ v w') ∧ StAllC R0 R1 r s
  | _ :: _, [] => False
def ObsAllC (P : Program) (ops : Array Oper) (n : Nat) (D : List Deferred) (ρ0 : Env) (w0 : World) (R R0 R1 : World → World → Prop) (sp : Spec) : List Oper → List (List Nat) → List Bool → Spec → Prop
  | o :: os, d :: ds, true :: bs, (_, φ) :: r => (∀ w, R w0 w → depV sp d ρ0 w (fun ρ => Op1 P ops o n D ρ w (fun v w' => φ v w' ∧ R1 w w'))) ∧ ObsAllC P ops n D ρ0 w0 R R0 R1 sp os ds bs r
  | o :: os, d :: ds, false :: bs, (_, φ) :: r => (∀ w, R w0 w → depV sp d ρ0 w (fun ρ => Op1 P ops o n D ρ w (fun v w' => φ v w' ∧ R0 w w'))) ∧ ObsAllC P ops n D ρ0 w0 R R0 R1 sp os ds bs r
  | _, _, _, [] => True
  | _, _, _, _ => False
/-- Who comes ahead of whom, as far as it is told. -/
def ancOk (l : List Oper) (anc : List (List Nat)) : Bool :=
  (List.range anc.length).all fun a => match l[a]? with
    | some o => (anc.getD a []).all fun b => hasEdge o b || (List.range a).any fun x => hasEdge o x && (anc.getD x []).contains b
    | none => false
def conOk (m : Nat) (ds anc con : List (List Nat)) (big st1 : List Bool) : Bool :=
  (List.range m).all fun i => ((ds.getD i []).all fun j => (con.getD j []).all fun c => c == i || (anc.getD c []).contains i) &&
    (!big.getD i false || (List.range m).all fun j => j == i || (anc.getD j []).contains i || st1.getD j false || (con.getD j []).any fun c => c == i || (anc.getD i []).contains c)
def finS : Spec → List (List Nat) → Spec
  | [], _ => []
  | (d, φ) :: r, [] :: cs => (d, φ) :: finS r cs
  | (d, _) :: r, _ :: cs => (d, fun _ _ => True) :: finS r cs
  | (d, φ) :: r, [] => (d, φ) :: finS r []
section
variable {P : Program} {l : List Oper} {Q : Exit → Act → World → Prop} {n m : Nat} {D : List Deferred} {ρ0 : Env} {w0 : World} {R R0 R1 : World → World → Prop} {sp : Spec} {ds anc con : List (List Nat)} {big st1 : List Bool}
theorem ObsAllC.at_ {ops : Array Oper} : ∀ {l' : List Oper} {ds' : List (List Nat)} {bs' : List Bool} {sp' : Spec}, ObsAllC P ops n D ρ0 w0 R R0 R1 sp l' ds' bs' sp' → ∀ {i : Nat} {dst : Option Nat} {φ : Value → World → Prop} {o : Oper}, sp'[i]? = some (dst, φ) → l'[i]? = some o →
    ∀ w, R w0 w → depV sp (ds'.getD i []) ρ0 w (fun ρ => Op1 P ops o n D ρ w (fun v w' => φ v w' ∧ relOf R0 R1 bs' i w w')) := by
  intro l' ds' bs' sp' h
  induction sp' generalizing l' ds' bs' with
  | nil => intro i dst φ o hs; simp at hs
  | cons p r ih =>
    intro i dst φ o hs hl
    obtain ⟨pd, pφ⟩ := p
    match l', ds', bs', h with
    | o' :: os, d :: dd, true :: bb, h =>
      obtain ⟨h1, h2⟩ := h
      cases i with
      | zero => simp at hs hl; obtain ⟨rfl, rfl⟩ := hs; subst hl; simpa [relOf] using h1
      | succ i => simp at hs hl; simpa [relOf] using ih h2 hs hl
    | o' :: os, d :: dd, false :: bb, h =>
      obtain ⟨h1, h2⟩ := h
      cases i with
      | zero => simp at hs hl; obtain ⟨rfl, rfl⟩ := hs; subst hl; simpa [relOf] using h1
      | succ i => simp at hs hl; simpa [relOf] using ih h2 hs hl
theorem StAllC.at_ : ∀ {sp : Spec} {st1 : List Bool}, StAllC R0 R1 sp st1 → ∀ {i : Nat} {dst : Option Nat} {φ : Value → World → Prop}, sp[i]? = some (dst, φ) → (∀ v w w', φ v w → R0 w w' → φ v w') ∧ (st1.getD i false = true → ∀ v w w', φ v w → R1 w w' → φ v w') := by
  intro sp
  induction sp with
  | nil => intro st1 h i dst φ hs; simp at hs
  | cons p r ih =>
    intro st1 h i dst φ hs
    obtain ⟨pd, pφ⟩ := p
    match st1, h with
    | true :: s, h =>
      cases i with
      | zero => simp at hs; obtain ⟨rfl, rfl⟩ := hs; exact ⟨h.1, fun _ => h.2.1⟩
      | succ i => simp at hs; simpa using ih h.2.2 hs
    | false :: s, h =>
      cases i with
      | zero => simp at hs; obtain ⟨rfl, rfl⟩ := hs; exact ⟨h.1, fun e => by simp at e⟩
      | succ i => simp at hs; simpa using ih h.2 hs
theorem finS_at : ∀ {sp : Spec} {con : List (List Nat)} {i : Nat} {dst : Option Nat} {φ : Value → World → Prop}, (finS sp con)[i]? = some (dst, φ) → ∃ φ0, sp[i]? = some (dst, φ0) ∧ (φ = φ0 ∧ con.getD i [] = [] ∨ φ = fun _ _ => True) := by
  intro sp
  induction sp with
  | nil => intro con i dst φ h; simp [finS] at h
  | cons p r ih =>
    intro con i dst φ h
    obtain ⟨pd, pφ⟩ := p
    match con with
    | [] =>
      unfold finS at h
      cases i with
      | zero => simp at h; obtain ⟨rfl, rfl⟩ := h; exact ⟨_, rfl, .inl ⟨rfl, by simp⟩⟩
      | succ i => simp at h; obtain ⟨φ0, h1, h2⟩ := ih h; exact ⟨φ0, by simpa using h1, by simpa using h2⟩
    | [] :: cs =>
      unfold finS at h
      cases i with
      | zero => simp at h; obtain ⟨rfl, rfl⟩ := h; exact ⟨_, rfl, .inl ⟨rfl, by simp⟩⟩
      | succ i => simp at h; obtain ⟨φ0, h1, h2⟩ := ih h; exact ⟨φ0, by simpa using h1, by simpa using h2⟩
    | (c :: cc) :: cs =>
      unfold finS at h
      cases i with
      | zero => simp at h; obtain ⟨rfl, rfl⟩ := h; exact ⟨_, rfl, .inr rfl⟩
      | succ i => simp at h; obtain ⟨φ0, h1, h2⟩ := ih h; exact ⟨φ0, by simpa using h1, by simpa using h2⟩
/-- The state in the middle of a drawn region: what has run holds its value, and its fact till it's used up. -/
structure MidC (l : List Oper) (con : List (List Nat)) (n : Nat) (D : List Deferred) (ρ0 : Env) (w0 : World) (R : World → World → Prop) (sp : Spec) (m N : Nat) (listed : Array Bool) (vals : Nat → Value) (a : Act) (w : World) : Prop where
  fr : Fr n D ρ0 a
  wr : R w0 w
  size : listed.size = N
  tail : ∀ i, m ≤ i → listed.getD i false = false
  cl : ∀ i o, l[i]? = some o → listed.getD i false = true → ∀ j, hasEdge o j = true → listed.getD j false = true
  got : ∀ i dst φ, sp[i]? = some (dst, φ) → listed.getD i false = true → ((∀ c ∈ con.getD i [], listed.getD c false = false) → φ (vals i) w) ∧ ∀ d, dst = some d → a.tmps[d]? = some (vals i)
theorem MidC.closed {listed : Array Bool} {vals : Nat → Value} {a : Act} {w : World} {N : Nat} (hM : MidC l con n D ρ0 w0 R sp m N listed vals a w) (hA : ancOk l anc = true) : ∀ (x b : Nat), listed.getD x false = true → (anc.getD x []).contains b = true → listed.getD b false = true := by
  intro x
  induction x using Nat.strongRecOn with
  | _ x ih =>
    intro b hx hb
    unfold ancOk at hA
    rw [List.all_eq_true] at hA
    by_cases hxl : x < anc.length
    · have h1 := hA x (by simpa using hxl)
      cases ho : l[x]? with
      | none => rw [ho] at h1; cases h1
      | some o =>
        rw [ho] at h1
        dsimp only at h1
        rw [List.all_eq_true] at h1
        have h2 := h1 b (by simpa using hb)
        rw [Bool.or_eq_true] at h2
        rcases h2 with h2 | h2
        · exact hM.cl x o ho hx b h2
        · rw [List.any_eq_true] at h2
          obtain ⟨y, hy, h3⟩ := h2
          rw [Bool.and_eq_true] at h3
          exact ih y (by simpa using hy) b (hM.cl x o ho hx y h3.1) h3.2
    · rw [List.getD_eq_getElem?_getD, List.getElem?_eq_none (by omega)] at hb
      simp at hb
theorem MidC.near {listed : Array Bool} {vals : Nat → Value} {a : Act} {w : World} {N : Nat} (hM : MidC l con n D ρ0 w0 R sp m N listed vals a w) (hA : ancOk l anc = true) {i c : Nat} {o : Oper} (ho : l[i]? = some o)
    (hal : ∀ j, hasEdge o j = true → listed.getD j false = true) (hc : (anc.getD i []).contains c = true) : listed.getD c false = true := by
  have hA' := hA
  unfold ancOk at hA
  rw [List.all_eq_true] at hA
  by_cases hxl : i < anc.length
  · have h1 := hA i (by simpa using hxl)
    rw [ho] at h1
    dsimp only at h1
    rw [List.all_eq_true] at h1
    have h2 := h1 c (by simpa using hc)
    rw [Bool.or_eq_true] at h2
    rcases h2 with h2 | h2
    · exact hal c h2
    · rw [List.any_eq_true] at h2
      obtain ⟨y, hy, h3⟩ := h2
      rw [Bool.and_eq_true] at h3
      exact hM.closed hA' y c (hal y h3.1) h3.2
  · rw [List.getD_eq_getElem?_getD, List.getElem?_eq_none (by omega)] at hc
    simp at hc
theorem depV_instC {listed : Array Bool} {vals : Nat → Value} {a : Act} {w : World} {N : Nat} (hM : MidC l con n D ρ0 w0 R sp m N listed vals a w) : ∀ (d : List Nat) (ρ : Env) (K : Env → Prop), Fr n D ρ a → (∀ j ∈ d, listed.getD j false = true ∧ ∀ c ∈ con.getD j [], listed.getD c false = false) →
    depV sp d ρ w K → ∃ ρ', Fr n D ρ' a ∧ K ρ'
  | [], ρ, K, hF, _, h => ⟨ρ, hF, h⟩
  | j :: r, ρ, K, hF, hl, h => by
    unfold depV at h
    split at h
    · rename_i d φ hs
      have hj := hl j (by simp)
      obtain ⟨h1, h2⟩ := hM.got j _ _ hs hj.1
      refine depV_instC hM r _ K ⟨hF.defers, hF.size, fun t v hlk => ?_⟩ (fun i hi => hl i (by simp [hi])) (h _ (h1 hj.2))
      rw [look_cons] at hlk
      split at hlk
      · rename_i e; subst e; cases hlk; exact h2 _ rfl
      · exact hF.slot _ _ hlk
    · exact depV_instC hM r _ K hF (fun i hi => hl i (by simp [hi])) h
theorem mid_anyC {keys : List Nat} (hA : ancOk l anc = true) (hC : conOk m ds anc con big st1 = true) (hR0 : ∀ a b, R0 a b → R a b) (hR1 : ∀ a b, R1 a b → R a b) (hF : DrawFacts l m n keys sp ds) (hkeys : ∀ t v, look ρ0 t = some v → t ∈ keys) (hRt : ∀ a b c, R a b → R b c → R a c) (hst : StAllC R0 R1 sp st1) (hobs : ObsAllC P l.toArray n D ρ0 w0 R R0 R1 sp l ds big sp)
    (hend : ∀ w, R w0 w → AllV (finS sp con) ρ0 w (fun ρ => Reg P l.toArray Q (l.drop m) n D ρ w)) :
    ∀ (fuel : Nat) (listed : Array Bool) (vals : Nat → Value) (a : Act) (w : World), MidC l con n D ρ0 w0 R sp m l.length listed vals a w → cnt l.length listed ≤ fuel → wpAny P .any l.toArray Q fuel listed a w := by
  -- once all heads are listed
  have hfin : ∀ (fuel : Nat) (listed : Array Bool) (vals : Nat → Value) (a : Act) (w : World), MidC l con n D ρ0 w0 R sp m l.length listed vals a w → (∀ i, i < m → listed.getD i false = true) → l.length - m ≤ fuel → wpAny P .any l.toArray Q fuel listed a w := by
    intro fuel listed vals a w hM hall hf
    obtain ⟨ρ', hFr, hReg⟩ := allV_inst (w := w) vals (finS sp con) 0 ρ0 _ hM.fr (fun i dst φ hs => by
      obtain ⟨φ0, hs0, hφ⟩ := finS_at hs
      have hi : i < m := by rw [← hF.spl]; exact (List.getElem?_eq_some_iff.1 hs0).1
      have hg := hM.got i dst φ0 hs0 (hall i hi)
      rw [Nat.zero_add]
      refine ⟨?_, hg.2⟩
      rcases hφ with ⟨rfl, hc⟩ | rfl
      · exact hg.1 (by rw [hc]; simp)
      · trivial) (hend w hM.wr)
    exact tail_any hF fuel m listed a w (Nat.le_refl _) hF.le hf hM.size hall hM.tail (hReg a hFr)
  have hcnt : ∀ listed : Array Bool, (∀ i, m ≤ i → listed.getD i false = false) → ∀ k, m ≤ k → k - m ≤ cnt k listed := by
    intro listed ht k
    induction k with
    | zero => intro _; omega
    | succ k ih =>
      intro hk
      unfold cnt
      rcases Nat.lt_or_ge k m with h | h
      · omega
      · rw [ht k h]; have := ih h; simp; omega
  intro fuel
  induction fuel with
  | zero =>
    intro listed vals a w hM hc
    have h0 : cnt l.length listed = 0 := by omega
    have hall := cnt_zero listed _ h0
    refine hfin 0 listed vals a w hM (fun i hi => hall i (by have := hF.le; omega)) ?_
    have := hcnt listed hM.tail l.length hF.le
    omega
  | succ fuel ih =>
    intro listed vals a w hM hc
    by_cases hall : ∀ i, i < m → listed.getD i false = true
    · refine hfin _ listed vals a w hM hall ?_
      have := hcnt listed hM.tail l.length hF.le
      omega
    · -- some head is not listed: it's not the end, and no tail is ready
      refine ⟨fun h0 => absurd ?_ hall, fun i hi => ?_⟩
      · -- the least one that isn't listed is ready
        intro i hi
        induction i using Nat.strongRecOn with
        | _ i ihh =>
          by_cases hb : listed.getD i false = true
          · exact hb
          · exfalso
            have hil : i < l.length := by have := hF.le; omega
            have hr : i ∈ Region.ready .any l.toArray listed := by
              refine (mem_ready (by simpa using hM.size)).2 ⟨l[i], by simp [hil], by simpa using hb, ?_⟩
              rw [Array.all_eq_true]
              intro j hj
              by_cases hbd : Region.binds .any l[i].after[j] = true
              · have := hF.before i _ (List.getElem?_eq_getElem hil) _ (Array.getElem_mem hj) hbd
                rw [ihh _ this (by omega)]; simp
              · simp [hbd]
            rw [h0] at hr; simp at hr
      · obtain ⟨o, ho, hfi, hal⟩ := (mem_ready (by simpa using hM.size)).1 hi
        have ho' : l[i]? = some o := by simpa using ho
        have hil : i < l.length := (List.getElem?_eq_some_iff.1 ho').1
        have him : i < m := by
          rcases Nat.lt_or_ge i m with h | h
          · exact h
          · exact absurd (fun j hj => hasEdge_listed (hF.tail i o h ho' j (by omega)) hal) hall
        have hsp : ∃ dst φ, sp[i]? = some (dst, φ) := by
          have : i < sp.length := by rw [hF.spl]; exact him
          exact ⟨_, _, List.getElem?_eq_getElem this⟩
        obtain ⟨dst, φ, hs⟩ := hsp
        have hdst := hF.dst i o dst φ ho' hs
        have hCi : (∀ j ∈ ds.getD i [], ∀ c ∈ con.getD j [], c = i ∨ (anc.getD c []).contains i = true) ∧ (big.getD i false = true → ∀ j, j < m → j ≠ i → (anc.getD j []).contains i = true ∨ st1.getD j false = true ∨ ∃ c ∈ con.getD j [], c = i ∨ (anc.getD i []).contains c = true) := by
          unfold conOk at hC
          rw [List.all_eq_true] at hC
          have h8 := hC i (by simpa using him)
          rw [Bool.and_eq_true] at h8
          refine ⟨fun j hj c hc => ?_, fun hb j hj hne => ?_⟩
          · have := (List.all_eq_true.1 ((List.all_eq_true.1 h8.1) j hj)) c hc
            rw [Bool.or_eq_true, beq_iff_eq] at this
            exact this
          · have h9 := h8.2
            rw [hb, Bool.not_true, Bool.false_or, List.all_eq_true] at h9
            have := h9 j (by simpa using hj)
            rw [Bool.or_eq_true, Bool.or_eq_true, Bool.or_eq_true, beq_iff_eq, List.any_eq_true] at this
            rcases this with ((this | this) | this) | ⟨c, hc, this⟩
            · exact absurd this hne
            · exact .inl this
            · exact .inr (.inl this)
            · rw [Bool.or_eq_true, beq_iff_eq] at this; exact .inr (.inr ⟨c, hc, this⟩)
        subst hdst
        have hsz : i < listed.size := by rw [hM.size]; exact hil
        obtain ⟨ρ', hFr, hOp⟩ := depV_instC hM (ds.getD i []) ρ0 _ hM.fr (fun j hj => ⟨hasEdge_listed (hF.deps i o him ho' j hj).2 hal, fun c hc => by
          have h7 := hCi.1 j hj c hc
          rcases h7 with h7 | h7
          · rw [h7]; exact hfi
          · by_cases hcl : listed.getD c false = true
            · have := hM.closed hA c i hcl h7; rw [hfi] at this; cases this
            · simpa using hcl⟩) (hobs.at_ hs ho' w hM.wr)
        have hnew : ∀ (v : Value) (w' : World), φ v w' → relOf R0 R1 big i w w' → MidC l con n D ρ0 w0 R sp m l.length (listed.setIfInBounds i true) (fun j => if j = i then v else vals j) (a.put o.dst v) w' := by
          intro v w' hv hR
          have hput : ∀ t, (∀ d, o.dst = some d → t ≠ d) → (a.put o.dst v).tmps[t]? = a.tmps[t]? := by
            intro t ht
            cases hd : o.dst with
            | none => rfl
            | some d => simp only [Act.put, Array.getElem?_setIfInBounds]; rw [if_neg (fun e => ht d hd e.symm)]
          have hputd : ∀ d, o.dst = some d → (a.put o.dst v).tmps[d]? = some v := by
            intro d hd
            have := (hF.ok i o d him ho' hd).1
            rw [hd]
            simp [Act.put, hM.fr.size, this]
          have hR' : R w w' := by unfold relOf at hR; split at hR; exact hR1 _ _ hR; exact hR0 _ _ hR
          refine ⟨⟨?_, ?_, ?_⟩, hRt _ _ _ hM.wr hR', by simpa using hM.size, ?_, ?_, ?_⟩
          · rw [← hM.fr.defers]; cases o.dst <;> rfl
          · rw [← hM.fr.size]; cases o.dst <;> simp [Act.put]
          · intro t u hl
            rw [hput t (fun d hd e => (hF.ok i o d him ho' hd).2 (by rw [← e]; exact hkeys t u hl))]
            exact hM.fr.slot t u hl
          · intro j hj
            rw [getD_set _ _ _ hsz, if_neg (by omega)]; exact hM.tail j hj
          · intro j o' hj hlj k hk
            rw [getD_set _ _ _ hsz]
            by_cases e2 : i = k
            · rw [if_pos e2]
            · rw [if_neg e2]
              rw [getD_set _ _ _ hsz] at hlj
              by_cases e1 : i = j
              · subst e1
                rw [ho'] at hj; cases hj
                exact hasEdge_listed hk hal
              · rw [if_neg e1] at hlj
                exact hM.cl j o' hj hlj k hk
          · intro j dst φ' hs' hl
            rw [getD_set _ _ _ hsz] at hl
            by_cases e : j = i
            · subst e
              rw [hs] at hs'
              injection hs' with hs'
              injection hs' with e1 e2
              subst e1; subst e2
              rw [if_pos rfl]
              exact ⟨fun _ => hv, hputd⟩
            · rw [if_neg (fun e' => e e'.symm)] at hl
              rw [if_neg e]
              obtain ⟨g1, g2⟩ := hM.got j dst φ' hs' hl
              refine ⟨fun hcu => ?_, fun d hd => ?_⟩
              · have hcu' : ∀ c ∈ con.getD j [], listed.getD c false = false := fun c hc => by
                  have := hcu c hc
                  rw [getD_set _ _ _ hsz] at this
                  by_cases e3 : i = c
                  · rw [if_pos e3] at this; cases this
                  · rwa [if_neg e3] at this
                have hs1 := hst.at_ hs'
                unfold relOf at hR
                split at hR
                · rename_i hb
                  have hjm : j < m := by rw [← hF.spl]; exact (List.getElem?_eq_some_iff.1 hs').1
                  rcases hCi.2 hb j hjm e with h7 | h7 | ⟨c, hc, h7⟩
                  · exfalso; have := hM.closed hA j i hl h7; rw [hfi] at this; cases this
                  · exact hs1.2 h7 _ _ _ (g1 hcu') hR
                  · exfalso
                    rcases h7 with rfl | h7
                    · have := hcu c hc; rw [getD_set _ _ _ hsz, if_pos rfl] at this; cases this
                    · have hci : listed.getD c false = false := hcu' c hc
                      have := hM.near hA ho' (fun j hj => hasEdge_listed hj hal) h7
                      rw [hci] at this; cases this
                · exact hs1.1 _ _ _ (g1 hcu') hR
              have hj : j < m := by rw [← hF.spl]; exact (List.getElem?_eq_some_iff.1 hs').1
              have hjl : j < l.length := by have := hF.le; omega
              have hoj := List.getElem?_eq_getElem hjl
              have hdj := hF.dst j _ dst φ' hoj hs'
              rw [hput d (fun d' hd' e' => by subst e'; exact hF.apart j i _ o d hj him e hoj ho' (by rw [hdj, hd]) hd')]
              exact g2 d hd
        have hcnt' := cnt_set listed i hsz hfi l.length hil
        unfold wpOp
        rw [ho]
        dsimp only
        have h1 := hOp a hFr
        split
        · rename_i hw
          rw [if_pos hw] at h1
          refine .inl (Oper.wp_mono ?_ (h1 Q))
          rintro a' w' ⟨v, rfl, hv, hR⟩
          exact ih _ _ _ _ (hnew v w' hv hR) (by omega)
        · rename_i hw
          rw [if_neg hw] at h1
          exact ih _ _ _ _ (hnew undef w h1.1 h1.2) (by omega)


theorem w_drawC {id : Nat} {w : World} {ρ : Env} (m : Nat) (R R0 R1 : World → World → Prop) (sp : Spec) (ds anc con : List (List Nat)) (big st1 : List Bool) (ρ0 : Env) (hsub : Sub ρ0 ρ) (hm : P.follows .mixedOrders = true)
    (hchk : drawOk l m n (keysOf ρ0) (sp.map (·.1)) ds = true) (hA : ancOk l anc = true) (hC : conOk m ds anc con big st1 = true) (hR : ∀ a, R a a) (hRt : ∀ a b c, R a b → R b c → R a c) (hR0 : ∀ a b, R0 a b → R a b) (hR1 : ∀ a b, R1 a b → R a b) (hst : StAllC R0 R1 sp st1)
    (h : ∀ w0, w.grownBy w0 none → w0.heap.size = w.heap.size → ObsAllC P l.toArray n D ρ0 w0 R R0 R1 sp l ds big sp ∧ (∀ w', R w0 w' → AllV (finS sp con) ρ0 w' (fun ρ => Reg P l.toArray Q (l.drop m) n D ρ w'))) :
    W P (.region id l.toArray true) Q n D ρ w := by
  intro a ha
  have hF := drawFacts hchk
  obtain ⟨h1, h2⟩ := h w.drew (grown_drew w) rfl
  refine wp_region_any hm ?_
  have hno : ∀ i, (Array.replicate l.length false).getD i false = false := fun i => by
    simp [Array.getD_eq_getD_getElem?, Array.getElem?_replicate]; split <;> rfl
  have hM : MidC l con n D ρ0 w.drew R sp m l.length (Array.replicate l.length false) (fun _ => undef) a w.drew :=
    { fr := ha.sub hsub, wr := hR _, size := by simp, tail := fun i _ => hno i,
      cl := fun i o _ hl j _ => (by rw [hno] at hl; cases hl),
      got := fun i dst φ hs hl => (by rw [hno] at hl; cases hl) }
  have := mid_anyC hA hC hR0 hR1 hF (fun t v hl => look_of_keys hl) hRt hst h1 h2 l.length (Array.replicate l.length false) (fun _ => undef) a w.drew hM (by
      have : ∀ k L, cnt k L ≤ k := by
        intro k L; induction k with
        | zero => exact Nat.le_refl _
        | succ k ih => unfold cnt; split <;> omega
      exact this _ _)
  simpa using this
end
/-- The world may have written rows that are new since a world of that size. -/
def Big (e : Nat) (a b : World) : Prop := e ≤ a.heap.size ∧ ∃ row, a.grownBy b row ∧ ∀ g, row = some g → e ≤ g
def Big0 (e : Nat) (a b : World) : Prop := e ≤ a.heap.size ∧ a.grownBy b none
theorem Big.below {e : Nat} {a b : World} (h : Big e a b) : Below e a b := by
  obtain ⟨h0, row, h1, h2⟩ := h
  exact (Below.refl e a).grown h1 h0 h2
theorem Big0.below {e : Nat} {a b : World} (h : Big0 e a b) : Below e a b := (Below.refl e a).grown h.2 h.1 (by simp)
theorem Big.mono {e e' : Nat} {a b : World} (h : Big e' a b) (he : e ≤ e') : Big e a b := ⟨Nat.le_trans he h.1, h.2.imp fun _ q => ⟨q.1, fun g hg => Nat.le_trans he (q.2 g hg)⟩⟩
theorem Sl.big {α : Type} {K : Kd α} {F : Nat → Prop} {v : Value} {xs : List α} {w w' w0 : World} (h : Sl K w (Loc F w0) v xs) (k : Big w0.heap.size w w') : Sl K w' (Loc F w0) v xs := by
  obtain ⟨_, row, h1, h2⟩ := k
  cases row with
  | none => exact h.g0 h1
  | some g => exact h.g h1 (.inr (h2 g rfl))
end Go.Gw
