/- Part of the proof that is named in YtencmmhfiepojaaLRowBack: a library for walks, or a function's walk. -/
import Derived.Test.YtencmmhfiepojaaGw22
set_option linter.unusedSimpArgs false
set_option linter.unusedVariables false
/-! ### As in Gw5; some operations read what another overwrites behind them -/
namespace Go.Gw
open Go.RowKit
def ObsAllE (P : Program) (ops : Array Oper) (n : Nat) (D : List Deferred) (ρ0 ρe : Env) (w0 : World) (R : World → World → Prop) (sp : Spec) : List Oper → List (List Nat) → List Bool → Spec → Prop
  | o :: os, d :: ds, true :: bs, (_, φ) :: r => (∀ w, R w0 w → depV sp d (ρe ++ ρ0) w (fun ρ => Op1 P ops o n D ρ w (fun v w' => φ v w' ∧ R w w'))) ∧ ObsAllE P ops n D ρ0 ρe w0 R sp os ds bs r
  | o :: os, d :: ds, false :: bs, (_, φ) :: r => (∀ w, R w0 w → depV sp d ρ0 w (fun ρ => Op1 P ops o n D ρ w (fun v w' => φ v w' ∧ R w w'))) ∧ ObsAllE P ops n D ρ0 ρe w0 R sp os ds bs r
  | _, _, _, [] => True
  | _, _, _, _ => False
/-- Whoever writes an early slot comes behind all who read it. -/
def earlyOk (l : List Oper) (m : Nat) (ke : List Nat) (es : List Bool) : Bool :=
  (List.range m).all fun i => match l[i]? with
    | some o => (match o.dst with | some d => !ke.contains d || (List.range m).all (fun j => !es.getD j false || hasEdge o j) | none => true)
    | none => true
section
variable {P : Program} {l : List Oper} {Q : Exit → Act → World → Prop} {n m : Nat} {D : List Deferred} {ρ0 ρe : Env} {w0 : World} {R : World → World → Prop} {sp : Spec} {ds : List (List Nat)} {es : List Bool}
theorem earlyOk.out {ke : List Nat} (h : earlyOk l m ke es = true) {i j d : Nat} {o : Oper} (hi : i < m) (ho : l[i]? = some o) (hd : o.dst = some d) (hk : d ∈ ke) (hj : j < m) (he : es.getD j false = true) : hasEdge o j = true := by
  unfold earlyOk at h
  rw [List.all_eq_true] at h
  have h1 := h i (List.mem_range.2 hi)
  rw [ho] at h1
  simp only [hd] at h1
  rw [Bool.or_eq_true] at h1
  rcases h1 with h1 | h1
  · simp [hk] at h1
  · rw [List.all_eq_true] at h1
    have h2 := h1 j (List.mem_range.2 hj)
    rw [he] at h2
    simpa using h2
theorem ObsAllE.at_ {ops : Array Oper} : ∀ {l' : List Oper} {ds' : List (List Nat)} {bs' : List Bool} {sp' : Spec}, ObsAllE P ops n D ρ0 ρe w0 R sp l' ds' bs' sp' → ∀ {i : Nat} {dst : Option Nat} {φ : Value → World → Prop} {o : Oper}, sp'[i]? = some (dst, φ) → l'[i]? = some o →
    ∀ w, R w0 w → depV sp (ds'.getD i []) (if bs'.getD i false = true then ρe ++ ρ0 else ρ0) w (fun ρ => Op1 P ops o n D ρ w (fun v w' => φ v w' ∧ R w w')) := by
  intro l' ds' bs' sp' h
  induction sp' generalizing l' ds' bs' with
  | nil => intro i dst φ o hs; simp at hs
  | cons p r ih =>
    intro i dst φ o hs hl
    obtain ⟨pd, pφ⟩ := p
    match l', ds', bs', h with
    | o' :: os, d :: dd, true :: bb, h =>
      obtain ⟨h1, h2⟩ := h
      cases i with
      | zero => simp at hs hl; obtain ⟨rfl, rfl⟩ := hs; subst hl; simpa using h1
      | succ i => simp at hs hl; simpa using ih h2 hs hl
    | o' :: os, d :: dd, false :: bb, h =>
      obtain ⟨h1, h2⟩ := h
      cases i with
      | zero => simp at hs hl; obtain ⟨rfl, rfl⟩ := hs; subst hl; simpa using h1
      | succ i => simp at hs hl; simpa using ih h2 hs hl
theorem mid_anyE {keys : List Nat} (hF : DrawFacts l m n keys sp ds) (hkeys : ∀ t v, look ρ0 t = some v → t ∈ keys) (hRt : ∀ a b c, R a b → R b c → R a c) (hst : StAll R sp) (hke : earlyOk l m (keysOf ρe) es = true) (hem : ∀ j, es.getD j false = true → j < m) (hobs : ObsAllE P l.toArray n D ρ0 ρe w0 R sp l ds es sp)
    (hend : ∀ w, R w0 w → AllV sp ρ0 w (fun ρ => Reg P l.toArray Q (l.drop m) n D ρ w)) :
    ∀ (fuel : Nat) (listed : Array Bool) (vals : Nat → Value) (a : Act) (w : World), Mid n D ρ0 w0 R sp m l.length listed vals a w → ((∃ e, es.getD e false = true ∧ listed.getD e false = false) → ∀ t v, look ρe t = some v → a.tmps[t]? = some v) → cnt l.length listed ≤ fuel → wpAny P .any l.toArray Q fuel listed a w := by
  -- once all heads are listed
  have hfin : ∀ (fuel : Nat) (listed : Array Bool) (vals : Nat → Value) (a : Act) (w : World), Mid n D ρ0 w0 R sp m l.length listed vals a w → (∀ i, i < m → listed.getD i false = true) → l.length - m ≤ fuel → wpAny P .any l.toArray Q fuel listed a w := by
    intro fuel listed vals a w hM hall hf
    obtain ⟨ρ', hFr, hReg⟩ := allV_inst (w := w) vals sp 0 ρ0 _ hM.fr (fun i dst φ hs => by
      have hi : i < m := by rw [← hF.spl]; exact (List.getElem?_eq_some_iff.1 hs).1
      rw [Nat.zero_add]; exact hM.got i dst φ hs (hall i hi)) (hend w hM.wr)
    exact tail_any hF fuel m listed a w (Nat.le_refl _) hF.le hf hM.size hall hM.tail (hReg a hFr)
  have hcnt : ∀ listed : Array Bool, (∀ i, m ≤ i → listed.getD i false = false) → ∀ k, m ≤ k → k - m ≤ cnt k listed := by
    intro listed ht k
    induction k with
    | zero => intro _; omega
    | succ k ih =>
      intro hk
      unfold cnt
      rcases Nat.lt_or_ge k m with h | h
      · omega
      · rw [ht k h]; have := ih h; simp; omega
  intro fuel
  induction fuel with
  | zero =>
    intro listed vals a w hM hE hc
    have h0 : cnt l.length listed = 0 := by omega
    have hall := cnt_zero listed _ h0
    refine hfin 0 listed vals a w hM (fun i hi => hall i (by have := hF.le; omega)) ?_
    have := hcnt listed hM.tail l.length hF.le
    omega
  | succ fuel ih =>
    intro listed vals a w hM hE hc
    by_cases hall : ∀ i, i < m → listed.getD i false = true
    · refine hfin _ listed vals a w hM hall ?_
      have := hcnt listed hM.tail l.length hF.le
      omega
    · -- some head is not listed: it's not the end, and no tail is ready
      refine ⟨fun h0 => absurd ?_ hall, fun i hi => ?_⟩
      · -- the least one that isn't listed is ready
        intro i hi
        induction i using Nat.strongRecOn with
        | _ i ihh =>
          by_cases hb : listed.getD i false = true
          · exact hb
          · exfalso
            have hil : i < l.length := by have := hF.le; omega
            have hr : i ∈ Region.ready .any l.toArray listed := by
              refine (mem_ready (by simpa using hM.size)).2 ⟨l[i], by simp [hil], by simpa using hb, ?_⟩
              rw [Array.all_eq_true]
              intro j hj
              by_cases hbd : Region.binds .any l[i].after[j] = true
              · have := hF.before i _ (List.getElem?_eq_getElem hil) _ (Array.getElem_mem hj) hbd
                rw [ihh _ this (by omega)]; simp
              · simp [hbd]
            rw [h0] at hr; simp at hr
      · obtain ⟨o, ho, hfi, hal⟩ := (mem_ready (by simpa using hM.size)).1 hi
        have ho' : l[i]? = some o := by simpa using ho
        have hil : i < l.length := (List.getElem?_eq_some_iff.1 ho').1
        have him : i < m := by
          rcases Nat.lt_or_ge i m with h | h
          · exact h
          · exact absurd (fun j hj => hasEdge_listed (hF.tail i o h ho' j (by omega)) hal) hall
        have hsp : ∃ dst φ, sp[i]? = some (dst, φ) := by
          have : i < sp.length := by rw [hF.spl]; exact him
          exact ⟨_, _, List.getElem?_eq_getElem this⟩
        obtain ⟨dst, φ, hs⟩ := hsp
        have hdst := hF.dst i o dst φ ho' hs
        subst hdst
        have hsz : i < listed.size := by rw [hM.size]; exact hil
        have hFr0 : Fr n D (if es.getD i false = true then ρe ++ ρ0 else ρ0) a := by
          split
          · rename_i hes
            refine ⟨hM.fr.defers, hM.fr.size, fun t v hl => ?_⟩
            have hap : ∀ (x y : Env), look (x ++ y) t = (look x t).or (look y t) := by
              intro x y
              induction x with
              | nil => simp [look]
              | cons p r ihx => obtain ⟨s, u⟩ := p; rw [List.cons_append, look_cons, look_cons, ihx]; split <;> simp
            rw [hap] at hl
            cases hle : look ρe t with
            | some u => rw [hle] at hl; simp at hl; subst hl; exact hE ⟨i, hes, hfi⟩ t u hle
            | none => rw [hle] at hl; simp at hl; exact hM.fr.slot t v hl
          · exact hM.fr
        obtain ⟨ρ', hFr, hOp⟩ := depV_inst hM (ds.getD i []) _ _ hFr0 (fun j hj => hasEdge_listed (hF.deps i o him ho' j hj).2 hal) (hobs.at_ hs ho' w hM.wr)
        have hnew : ∀ (v : Value) (w' : World), φ v w' → R w w' → Mid n D ρ0 w0 R sp m l.length (listed.setIfInBounds i true) (fun j => if j = i then v else vals j) (a.put o.dst v) w' := by
          intro v w' hv hR
          have hput : ∀ t, (∀ d, o.dst = some d → t ≠ d) → (a.put o.dst v).tmps[t]? = a.tmps[t]? := by
            intro t ht
            cases hd : o.dst with
            | none => rfl
            | some d => simp only [Act.put, Array.getElem?_setIfInBounds]; rw [if_neg (fun e => ht d hd e.symm)]
          have hputd : ∀ d, o.dst = some d → (a.put o.dst v).tmps[d]? = some v := by
            intro d hd
            have := (hF.ok i o d him ho' hd).1
            rw [hd]
            simp [Act.put, hM.fr.size, this]
          refine ⟨⟨?_, ?_, ?_⟩, hRt _ _ _ hM.wr hR, by simpa using hM.size, ?_, ?_⟩
          · rw [← hM.fr.defers]; cases o.dst <;> rfl
          · rw [← hM.fr.size]; cases o.dst <;> simp [Act.put]
          · intro t u hl
            rw [hput t (fun d hd e => (hF.ok i o d him ho' hd).2 (by rw [← e]; exact hkeys t u hl))]
            exact hM.fr.slot t u hl
          · intro j hj
            rw [getD_set _ _ _ hsz, if_neg (by omega)]; exact hM.tail j hj
          · intro j dst φ' hs' hl
            rw [getD_set _ _ _ hsz] at hl
            by_cases e : j = i
            · subst e
              rw [hs] at hs'
              injection hs' with hs'
              injection hs' with e1 e2
              subst e1; subst e2
              rw [if_pos rfl]
              exact ⟨hv, hputd⟩
            · rw [if_neg (fun e' => e e'.symm)] at hl
              rw [if_neg e]
              obtain ⟨g1, g2⟩ := hM.got j dst φ' hs' hl
              refine ⟨hst.at_ hs' _ _ _ g1 hR, fun d hd => ?_⟩
              have hj : j < m := by rw [← hF.spl]; exact (List.getElem?_eq_some_iff.1 hs').1
              have hjl : j < l.length := by have := hF.le; omega
              have hoj := List.getElem?_eq_getElem hjl
              have hdj := hF.dst j _ dst φ' hoj hs'
              rw [hput d (fun d' hd' e' => by subst e'; exact hF.apart j i _ o d hj him e hoj ho' (by rw [hdj, hd]) hd')]
              exact g2 d hd
        have hnewE : ∀ (v : Value), (∃ e, es.getD e false = true ∧ (listed.setIfInBounds i true).getD e false = false) → ∀ t u, look ρe t = some u → (a.put o.dst v).tmps[t]? = some u := by
          rintro v ⟨e, he, hle⟩ t u hl
          rw [getD_set _ _ _ hsz] at hle
          by_cases hie : i = e
          · rw [if_pos hie] at hle; cases hle
          · rw [if_neg hie] at hle
            have h0 := hE ⟨e, he, hle⟩ t u hl
            cases hd : o.dst with
            | none => simpa [Act.put] using h0
            | some d =>
              simp only [Act.put, Array.getElem?_setIfInBounds]
              by_cases hdt : d = t
              · subst hdt
                have := hasEdge_listed (earlyOk.out hke him ho' hd (look_of_keys hl) (hem e he) he) hal
                rw [hle] at this; cases this
              · rw [if_neg hdt]; exact h0
        have hcnt' := cnt_set listed i hsz hfi l.length hil
        unfold wpOp
        rw [ho]
        dsimp only
        have h1 := hOp a hFr
        split
        · rename_i hw
          rw [if_pos hw] at h1
          refine .inl (Oper.wp_mono ?_ (h1 Q))
          rintro a' w' ⟨v, rfl, hv, hR⟩
          exact ih _ _ _ _ (hnew v w' hv hR) (hnewE v) (by omega)
        · rename_i hw
          rw [if_neg hw] at h1
          exact ih _ _ _ _ (hnew undef w h1.1 h1.2) (hnewE undef) (by omega)

theorem w_drawE {id : Nat} {w : World} {ρ : Env} (m : Nat) (R : World → World → Prop) (sp : Spec) (ds : List (List Nat)) (ρ0 ρe : Env) (es : List Bool) (hsub : Sub ρ0 ρ) (hsube : Sub ρe ρ) (hke : earlyOk l m (keysOf ρe) es = true) (hem : Nat.ble es.length m = true) (hm : P.follows .mixedOrders = true)
    (hchk : drawOk l m n (keysOf ρ0) (sp.map (·.1)) ds = true) (hR : ∀ a, R a a) (hRt : ∀ a b c, R a b → R b c → R a c) (hst : StAll R sp)
    (h : ∀ w0, w.grownBy w0 none → w0.heap.size = w.heap.size → ObsAllE P l.toArray n D ρ0 ρe w0 R sp l ds es sp ∧ (∀ w', R w0 w' → AllV sp ρ0 w' (fun ρ => Reg P l.toArray Q (l.drop m) n D ρ w'))) :
    W P (.region id l.toArray true) Q n D ρ w := by
  intro a ha
  have hF := drawFacts hchk
  obtain ⟨h1, h2⟩ := h w.drew (grown_drew w) rfl
  refine wp_region_any hm ?_
  have := mid_anyE hF (fun t v hl => look_of_keys hl) hRt hst hke (fun j hj => by have := Nat.le_of_ble_eq_true hem; rcases Nat.lt_or_ge j es.length with h | h; omega; simp [List.getD_eq_getElem?_getD, h] at hj) h1 h2 l.length (Array.replicate l.length false) (fun _ => undef) a w.drew ⟨ha.sub hsub, hR _, by simp, fun i _ => by simp [Array.getD_eq_getD_getElem?, Array.getElem?_replicate]; split <;> rfl, fun i dst φ hs hl => by
    simp [Array.getD_eq_getD_getElem?, Array.getElem?_replicate] at hl
    split at hl <;> simp at hl⟩ (fun _ t v hl => ha.slot t v (hsube.look hl)) (by
      have : ∀ k L, cnt k L ≤ k := by
        intro k L; induction k with
        | zero => exact Nat.le_refl _
        | succ k ih => unfold cnt; split <;> omega
      exact this _ _)
  simpa using this
end
end Go.Gw
