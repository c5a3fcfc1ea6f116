/- Part of the proof that is named in YtdeiiagkbbimhaaNRowCanJust: a library for walks, or a function's walk. -/
import Derived.Test.YtdeiiagkbbimhaaNodeSpec2
namespace Go.Gw
/-! ### the order in which nodes come to an end -/
def endF (l : List Nd) : Nat → Int → List Int → List Int
  | 0, _, E => E
  | f + 1, n, E => if n ∈ E then E else (if 1 < (ix l (n - 1)).lv then (kids (ix l (n - 1))).foldl (fun E c => if 0 < c then endF l f c E else E) E else E) ++ [n]
def endK (l : List Nd) (f : Nat) (x : Nd) (E : List Int) (k : Int) : List Int := ((kids x).take k.toNat).foldl (fun E c => if 0 < c then endF l f c E else E) E
theorem endK_zero (l : List Nd) (f : Nat) (x : Nd) (E : List Int) : endK l f x E 0 = E := rfl
theorem endK_step (l : List Nd) (f : Nat) (x : Nd) (E : List Int) (k : Int) (h0 : 0 ≤ k) (h1 : k < 4) :
    endK l f x E (k + 1) = if 0 < x.kid k then endF l f (x.kid k) (endK l f x E k) else endK l f x E k := by
  have : k = 0 ∨ k = 1 ∨ k = 2 ∨ k = 3 := by omega
  rcases this with rfl | rfl | rfl | rfl <;> simp [endK, kids, Nd.kid, sel4, List.take, Int.toNat]
theorem endK_yes {l : List Nd} {f : Nat} {x : Nd} {E : List Int} {k : Int} (h0 : 0 ≤ k) (h1 : k < 4) (h : 0 < x.kid k) : endK l f x E (k + 1) = endF l f (x.kid k) (endK l f x E k) := by rw [endK_step _ _ _ _ _ h0 h1, if_pos h]
theorem endK_no {l : List Nd} {f : Nat} {x : Nd} {E : List Int} {k : Int} (h0 : 0 ≤ k) (h1 : k < 4) (h : ¬ 0 < x.kid k) : endK l f x E (k + 1) = endK l f x E k := by rw [endK_step _ _ _ _ _ h0 h1, if_neg h]
theorem endF_in {l : List Nd} {f : Nat} {n : Int} {E : List Int} (h : n ∈ E) : endF l (f + 1) n E = E := by simp [endF, h]
theorem endF_out {l : List Nd} {f : Nat} {n : Int} {E : List Int} (h : ¬ n ∈ E) (hv : 1 < (ix l (n - 1)).lv) : endF l (f + 1) n E = endK l f (ix l (n - 1)) E 4 ++ [n] := by simp [endF, h, hv, endK, kids]
theorem endF_low {l : List Nd} {f : Nat} {n : Int} {E : List Int} (h : ¬ n ∈ E) (hv : ¬ 1 < (ix l (n - 1)).lv) : endF l (f + 1) n E = E ++ [n] := by simp [endF, h, hv]
theorem foldl_ind {α β : Type} (p : β → Prop) (f : β → α → β) : ∀ (xs : List α) (b : β), p b → (∀ b x, x ∈ xs → p b → p (f b x)) → p (xs.foldl f b)
  | [], _, h, _ => h
  | x :: r, b, h, hs => foldl_ind p f r _ (hs b x (by simp) h) (fun b y hy => hs b y (by simp [hy]))
theorem endF_sub (l : List Nd) : ∀ (f : Nat) (n : Int) (E : List Int) (x : Int), x ∈ E → x ∈ endF l f n E
  | 0, _, _, _, h => h
  | f + 1, n, E, x, h => by
    unfold endF
    split
    · exact h
    · apply List.mem_append_left
      split
      · exact foldl_ind (fun E => x ∈ E) _ _ _ h (fun b y _ hb => by split; exact endF_sub l f y b x hb; exact hb)
      · exact h
theorem kid_mem {x : Nd} {c : Int} (h : c ∈ kids x) : ∃ k, 0 ≤ k ∧ k < 4 ∧ x.kid k = c := by
  simp only [kids, List.mem_cons, List.not_mem_nil, or_false] at h
  rcases h with h | h | h | h
  · exact ⟨0, by omega, by omega, h.symm⟩
  · exact ⟨1, by omega, by omega, h.symm⟩
  · exact ⟨2, by omega, by omega, h.symm⟩
  · exact ⟨3, by omega, by omega, h.symm⟩
theorem endF_le {l : List Nd} (hl : looseB l = true) : ∀ (f : Nat) (n : Int) (E : List Int) (x : Int), 1 ≤ n → n ≤ l.length → x ∈ endF l f n E → x ∈ E ∨ x ≤ n
  | 0, _, _, _, _, _, h => .inl h
  | f + 1, n, E, x, h0, h1, h => by
    unfold endF at h
    split at h
    · exact .inl h
    · rcases List.mem_append.1 h with h | h
      · split at h
        · rename_i hv
          revert h
          refine foldl_ind (fun E' => x ∈ E' → x ∈ E ∨ x ≤ n) _ _ _ (fun h => .inl h) (fun b y hy hb => ?_)
          split
          · rename_i hy0
            obtain ⟨k, k0, k1, rfl⟩ := kid_mem hy
            have hk := kid_in hl (i := n - 1) (k := k) (by omega) (by omega) k0 k1 (by omega) (by omega)
            intro h
            rcases endF_le hl f _ b x (by omega) (by omega) h with h | h
            · exact hb h
            · exact .inr (by omega)
          · exact hb
        · exact .inl h
      · simp at h; exact .inr (by omega)
/-- What is met, up to a number, is what came to an end. -/
def Met (M : List Bool) (E : List Int) (n : Int) : Prop := ∀ m : Int, 1 ≤ m → m ≤ n → ix M m = decide (m ∈ E)
/-- What holds in a node's walk: it is met; the lower ones are met just if they came to an end; the higher ones are as they were. -/
structure Walked (M0 M : List Bool) (E0 E : List Int) (n : Int) : Prop where
  low : ∀ m : Int, 1 ≤ m → m < n → ix M m = decide (m ∈ E)
  at_ : ix M n = true
  high : ∀ m : Int, n < m → ix M m = ix M0 m
  len : M.length = M0.length
  cnt : E.length + M0.count true + 1 ≤ M.count true + E0.length
theorem ix_set {α : Type} [Inhabited α] (xs : List α) (i j : Int) (y : α) (h0 : 0 ≤ i) (hi : i < xs.length) (hj : 0 ≤ j) : ix (xs.set i.toNat y) j = if j = i then y else ix xs j := by
  unfold ix
  simp only [List.getD_eq_getElem?_getD, List.getElem?_set]
  by_cases h : j = i
  · rw [if_pos h, h]; rw [if_pos rfl, if_pos (by omega)]; rfl
  · rw [if_neg h, if_neg (by omega)]
theorem mid_set {M : List Bool} {E : List Int} {n : Int} (h0 : 1 ≤ n) (h1 : n < M.length) (hm : Met M E n) (hf : ix M n = false) : Walked M (M.set n.toNat true) E E n where
  low := fun m m0 m1 => by rw [ix_set _ _ _ _ (by omega) h1 (by omega), if_neg (by omega)]; exact hm m m0 (by omega)
  at_ := by rw [ix_set _ _ _ _ (by omega) h1 (by omega), if_pos rfl]
  high := fun m m0 => by rw [ix_set _ _ _ _ (by omega) h1 (by omega), if_neg (by omega)]
  len := by simp
  cnt := by
    have h2 := ix_at M n (by omega) h1
    rw [hf] at h2
    have h3 : n.toNat < M.length := by omega
    rw [List.count_set h3]
    have h4 : M[n.toNat] = false := by rw [List.getElem?_eq_getElem h3] at h2; simpa using h2
    simp [h4]; omega
theorem mid_call {l : List Nd} (hl : looseB l = true) {M0 M M' : List Bool} {E0 E : List Int} {n c : Int} {f : Nat} (h : Walked M0 M E0 E n) (hc0 : 1 ≤ c) (hcn : c < n) (hnl : n ≤ l.length)
    (hmet : Met M' (endF l f c E) c) (hhi : ∀ m : Int, c < m → ix M' m = ix M m) (hlen : M'.length = M.length) (hcnt : (endF l f c E).length + M.count true ≤ M'.count true + E.length) : Walked M0 M' E0 (endF l f c E) n where
  low := fun m m0 m1 => by
    by_cases hm : m ≤ c
    · exact hmet m m0 hm
    · rw [hhi m (by omega), h.low m m0 m1]
      congr 1
      apply propext
      constructor
      · exact endF_sub l f c E m
      · intro hx
        rcases endF_le hl f c E m hc0 (by omega) hx with h | h
        · exact h
        · omega
  at_ := by rw [hhi n (by omega)]; exact h.at_
  high := fun m m0 => by rw [hhi m (by omega)]; exact h.high m m0
  len := by rw [hlen, h.len]
  cnt := by have := h.cnt; omega
theorem mid_met {M0 M : List Bool} {E0 E : List Int} {n c : Int} (h : Walked M0 M E0 E n) (hcn : c < n) : Met M E c := fun m m0 m1 => h.low m m0 (by omega)
theorem mid_end {M0 M : List Bool} {E0 E : List Int} {n : Int} (h : Walked M0 M E0 E n) : Met M (E ++ [n]) n := fun m m0 m1 => by
  by_cases hm : m = n
  · rw [hm, h.at_]; simp
  · rw [h.low m m0 (by omega)]; simp [hm]
theorem met_no {M : List Bool} {E : List Int} {n : Int} (h : Met M E n) (h0 : 1 ≤ n) (hf : ix M n = false) : ¬ n ∈ E := by
  have := h n h0 (by omega); rw [hf] at this; simpa using this.symm
theorem met_yes {M : List Bool} {E : List Int} {n : Int} (h : Met M E n) (h0 : 1 ≤ n) (hf : ix M n = true) : n ∈ E := by
  have := h n h0 (by omega); rw [hf] at this; simpa using this.symm
theorem mid_len {M0 M : List Bool} {E0 E : List Int} {n : Int} (h : Walked M0 M E0 E n) (h0 : E0.length ≤ M0.count true) : E.length + 1 ≤ M0.length := by
  rw [← h.len]; have := h.cnt; have := List.count_le_length (a := true) (l := M); omega
theorem lit_num {w w0 : World} {t g : Nat} {F : Nat → Prop} {v : Value} {xs : List Int} {K : Kd Int} {e base : Nat} {x : Int} (h : Blk w g t [Value.int .i64 x].toArray) (ho : Own K e base w0 F v xs) (hF : ¬ F g) (hg : w0.heap.size = g) :
    Sl (Kd.num .i64) w (Out F v) (.slice (some ⟨g, 0, none⟩) 1 1) [x] :=
  sl_of_range rfl h.range rfl rfl (fun h => h.elim hF (fun h => by have := (ho.lt g h).2; omega)) h.lt (by decide) (num_reps (k := .i64) (xs := [x]))
theorem met_none (n : Nat) (m : Int) : Met (List.replicate n false) [] m := fun j j0 j1 => by
  have : ∀ (n i : Nat), (List.replicate n false).getD i default = false := by
    intro n i
    simp only [List.getD_eq_getElem?_getD, List.getElem?_replicate]
    split <;> rfl
  unfold ix; rw [this]; simp
/-- The order of a list's nodes, if one goes through its last one. -/
def endL (l : List Nd) : List Int := endF l l.length l.length []
def ordB (l : List Nd) : Bool := decide (endL l = (List.range l.length).map fun (i : Nat) => ((i : Int) + 1))
theorem num_ix (n : Nat) (i : Int) (h0 : 0 ≤ i) (h1 : i < n) : ix ((List.range n).map fun (i : Nat) => ((i : Int) + 1)) i = i + 1 := by
  have a := ix_at ((List.range n).map fun (i : Nat) => ((i : Int) + 1)) i h0 (by simpa using h1)
  rw [List.getElem?_map, List.getElem?_range (by omega)] at a
  simp at a
  rw [← a]; omega
theorem ord_no {l : List Nd} (i : Int) (h0 : 0 ≤ i) (h1 : i < (endL l).length) (h : ix (endL l) i ≠ i + 1) : ordB l = false := by
  unfold ordB
  rw [decide_eq_false_iff_not]
  intro e
  rw [e] at h h1
  rw [num_ix _ _ h0 (by simpa using h1)] at h
  exact h rfl
theorem ord_yes {l : List Nd} (h : ∀ i : Int, 0 ≤ i → i < (endL l).length → ix (endL l) i = i + 1) : ordB l = decide ((endL l).length = l.length) := by
  unfold ordB
  congr 1
  apply propext
  constructor
  · intro e; rw [e]; simp
  · intro e
    refine eq_of_ix (by simpa using e) fun i h0 h1 => ?_
    rw [h i h0 h1, num_ix _ _ h0 (by omega)]

/-! ### a quad that may be -/
def fullB (l : List Nd) : Bool := !decide (false ∈ (hasL l).drop 1)
def rightB (l : List Nd) : Bool := decide (l.length = 0) || (looseB l && !hollowB l l.length && fullB l && decide l.Nodup && ordB l)
def seenM (l : List Nd) (i : Int) : List (Nd × Bool) := (l.take i.toNat).map fun x => (x, true)
theorem seen_zero (l : List Nd) : seenM l 0 = [] := by simp [seenM]
theorem fnd_seen {κ : Type} [DecidableEq κ] (a : κ) : ∀ (l : List κ) (i : Nat), ((fnd a (l.map fun x => (x, true)) i).isSome = decide (a ∈ l)) ∧ ∀ p, fnd a (l.map fun x => (x, true)) i = some p → p.2 = true
  | [], i => by simp [fnd]
  | x :: r, i => by
    have ih := fnd_seen a r (i + 1)
    simp only [List.map_cons, fnd]
    by_cases h : a = x
    · simp [h]
    · rw [if_neg h]
      refine ⟨?_, ih.2⟩
      rw [ih.1]; simp [h]
theorem seen_get (l : List Nd) (i : Int) (x : Nd) : (mget (seenM l i) x).getD false = decide (x ∈ l.take i.toNat) := by
  have h := fnd_seen x (l.take i.toNat) 0
  unfold mget seenM
  cases hf : fnd x ((l.take i.toNat).map fun x => (x, true)) 0 with
  | none => rw [hf] at h; rw [← h.1]; rfl
  | some p => rw [hf] at h; rw [← h.1]; simp [h.2 p rfl]
theorem seen_put {l : List Nd} {i : Int} (h0 : 0 ≤ i) (h1 : i < l.length) (h : (mget (seenM l i) (ix l i)).getD false = false) : mput (seenM l i) (ix l i) true = seenM l (i + 1) := by
  rw [seen_get, decide_eq_false_iff_not] at h
  have h2 := (fnd_seen (ix l i) (l.take i.toNat) 0).1
  rw [decide_eq_false h] at h2
  unfold mput seenM
  rw [take_succ_ix l i h0 h1]
  cases hf : fnd (ix l i) ((l.take i.toNat).map fun x => (x, true)) 0 with
  | none => simp
  | some p => rw [hf] at h2; cases h2
theorem dup_no {l : List Nd} {i : Int} (h0 : 0 ≤ i) (h1 : i < l.length) (h : (mget (seenM l i) (ix l i)).getD false = true) : decide l.Nodup = false := by
  rw [seen_get, decide_eq_true_eq] at h
  rw [decide_eq_false_iff_not]
  intro hn
  have e := take_succ_ix l i h0 h1
  have h2 : (l.take (i + 1).toNat).Nodup := hn.sublist (List.take_sublist _ _)
  rw [e, List.nodup_append] at h2
  exact h2.2.2 _ h _ (by simp) rfl
theorem nodup_step {l : List Nd} {i : Int} (h0 : 0 ≤ i) (h1 : i < l.length) (hn : (l.take i.toNat).Nodup) (h : (mget (seenM l i) (ix l i)).getD false = false) : (l.take (i + 1).toNat).Nodup := by
  rw [seen_get, decide_eq_false_iff_not] at h
  rw [take_succ_ix l i h0 h1, List.nodup_append]
  refine ⟨hn, by simp, fun a ha b hb => ?_⟩
  simp at hb
  subst hb
  intro e; subst e; exact h ha
theorem nodup_end {l : List Nd} {i : Int} (h : i = (l.length : Int)) (hn : (l.take i.toNat).Nodup) : decide l.Nodup = true := by
  subst h; simpa using hn

theorem pigeon : ∀ (L : Nat) (E : List Int), E.Nodup → (∀ x ∈ E, 1 ≤ x ∧ x ≤ (L : Int)) → E.length ≤ L
  | 0, E, _, h => by
    cases E with
    | nil => simp
    | cons x r => have := h x (by simp); omega
  | L + 1, E, hn, h => by
    have h1 := pigeon L (E.erase ((L : Int) + 1)) (hn.erase _) (fun x hx => by
      rw [hn.mem_erase_iff] at hx
      have := h x hx.2
      have := hx.1
      omega)
    rw [List.length_erase] at h1
    split at h1 <;> omega
structure OkE (L : Nat) (E : List Int) : Prop where
  nd : E.Nodup
  rng : ∀ x ∈ E, 1 ≤ x ∧ x ≤ (L : Int)
theorem OkE.len {L : Nat} {E : List Int} (h : OkE L E) : E.length ≤ L := pigeon L E h.nd h.rng
theorem okE_nil (L : Nat) : OkE L [] := ⟨by simp, by simp⟩
theorem OkE.snoc {L : Nat} {E : List Int} {n : Int} (h : OkE L E) (h0 : 1 ≤ n) (h1 : n ≤ L) (hn : ¬ n ∈ E) : OkE L (E ++ [n]) := by
  refine ⟨?_, fun x hx => ?_⟩
  · rw [List.nodup_append]; refine ⟨h.nd, by simp, fun a ha b hb => ?_⟩
    simp at hb; subst hb; intro e; subst e; exact hn ha
  · rcases List.mem_append.1 hx with hx | hx
    · exact h.rng x hx
    · simp at hx; omega
def endV (l : List Nd) (f : Nat) (x : Nd) (E : List Int) (k : Int) : List Int := if 1 < x.lv then endK l f x E k else E
theorem endV_zero (l : List Nd) (f : Nat) (x : Nd) (E : List Int) : endV l f x E 0 = E := by unfold endV; split <;> rfl
theorem endV_yes {l : List Nd} {f : Nat} {x : Nd} {E : List Int} {k : Int} (h0 : 0 ≤ k) (h1 : k < 4) (hv : 1 < x.lv) (h : 0 < x.kid k) : endV l f x E (k + 1) = endF l f (x.kid k) (endV l f x E k) := by
  unfold endV; rw [if_pos hv, if_pos hv, endK_yes h0 h1 h]
theorem endV_no {l : List Nd} {f : Nat} {x : Nd} {E : List Int} {k : Int} (h0 : 0 ≤ k) (h1 : k < 4) (h : 1 < x.lv → ¬ 0 < x.kid k) : endV l f x E (k + 1) = endV l f x E k := by
  unfold endV; split
  · rename_i hv; rw [endK_no h0 h1 (h hv)]
  · rfl
theorem endF_eq {l : List Nd} {f : Nat} {n : Int} {E : List Int} (h : ¬ n ∈ E) : endF l (f + 1) n E = endV l f (ix l (n - 1)) E 4 ++ [n] := by
  unfold endV; split
  · rename_i hv; exact endF_out h hv
  · rename_i hv; exact endF_low h hv
theorem ix_mem {α : Type} [Inhabited α] {xs : List α} {i : Int} (h0 : 0 ≤ i) (h1 : i < xs.length) : ix xs i ∈ xs := List.mem_of_getElem? (ix_at xs i h0 h1)
theorem mem_ix {α : Type} [Inhabited α] {xs : List α} {x : α} (h : x ∈ xs) : ∃ i : Int, 0 ≤ i ∧ i < xs.length ∧ ix xs i = x := by
  obtain ⟨n, hn, e⟩ := List.mem_iff_getElem.1 h
  refine ⟨n, by omega, by omega, ?_⟩
  have a := ix_at xs n (by omega) (by omega)
  simp only [Int.toNat_natCast, List.getElem?_eq_getElem hn, Option.some.injEq] at a
  rw [← a, e]
theorem not_mem_ix {α : Type} [Inhabited α] {xs : List α} {x : α} {i : Int} (hi : i = (xs.length : Int)) (h : ∀ j : Int, 0 ≤ j → j < i → ix xs j ≠ x) : ¬ x ∈ xs := by
  intro hm
  obtain ⟨j, j0, j1, e⟩ := mem_ix hm
  exact h j j0 (by omega) e
theorem endF_new {l : List Nd} (hl : looseB l = true) {f : Nat} {c n : Int} {E : List Int} (h0 : 1 ≤ c) (h1 : c < n) (h2 : n ≤ l.length) (h : ¬ n ∈ E) : ¬ n ∈ endF l f c E := by
  intro hm
  rcases endF_le hl f c E n h0 (by omega) hm with h3 | h3
  · exact h h3
  · omega
theorem foldl_ind2 {α β : Type} (p : β → Prop) (f : β → α → β) (xs : List α) (b : β) (h : p b) (hs : ∀ b x, x ∈ xs → p b → p (f b x)) : p (xs.foldl f b) := foldl_ind p f xs b h hs
theorem endF_ok {l : List Nd} (hl : looseB l = true) : ∀ (f : Nat) (n : Int) (E : List Int), 1 ≤ n → n ≤ l.length → OkE l.length E → OkE l.length (endF l f n E)
  | 0, _, _, _, _, h => h
  | f + 1, n, E, h0, h1, h => by
    by_cases hn : n ∈ E
    · rw [endF_in hn]; exact h
    · rw [endF_eq hn]
      have h2 : OkE l.length (endV l f (ix l (n - 1)) E 4) ∧ ¬ n ∈ endV l f (ix l (n - 1)) E 4 := by
        unfold endV
        split
        · rename_i hv
          unfold endK
          refine foldl_ind2 (fun E' => OkE l.length E' ∧ ¬ n ∈ E') _ _ _ ⟨h, hn⟩ (fun b y hy hb => ?_)
          split
          · rename_i hy0
            obtain ⟨k, k0, k1, rfl⟩ := kid_mem (List.mem_of_mem_take hy)
            have hk := kid_in hl (i := n - 1) (k := k) (by omega) (by omega) k0 k1 (by omega) (by omega)
            exact ⟨endF_ok hl f _ b (by omega) (by omega) hb.1, endF_new hl (by omega) (by omega) h1 hb.2⟩
          · exact hb
        · exact ⟨h, hn⟩
      exact h2.1.snoc h0 h1 h2.2

theorem full_iff (l : List Nd) : fullB l = true ↔ ∀ i : Int, 0 ≤ i → i < l.length → ix (hasL l) (i + 1) = true := by
  have hd : ∀ i : Int, 0 ≤ i → i < l.length → ix ((hasL l).drop 1) i = ix (hasL l) (i + 1) := by
    intro i h0 h1
    have a := ix_at ((hasL l).drop 1) i h0 (by simp [hasL_length]; omega)
    have b := ix_at (hasL l) (i + 1) (by omega) (by rw [hasL_length]; omega)
    rw [List.getElem?_drop, show 1 + i.toNat = (i + 1).toNat by omega, b] at a
    simpa using a.symm
  have hl : ((hasL l).drop 1).length = l.length := by simp [hasL_length]
  unfold fullB
  simp only [Bool.not_eq_true', decide_eq_false_iff_not]
  constructor
  · intro h i h0 h1
    rw [← hd i h0 h1]
    cases hx : ix ((hasL l).drop 1) i with
    | true => rfl
    | false => exact absurd (hx ▸ ix_mem h0 (by rw [hl]; exact h1)) h
  · intro h hm
    obtain ⟨i, h0, h1, e⟩ := mem_ix hm
    rw [hl] at h1
    rw [hd i h0 h1, h i h0 h1] at e
    cases e
theorem full_no {l : List Nd} {i : Int} (h0 : 0 ≤ i) (h1 : i < l.length) (h : ix (hasL l) (i + 1) = false) : fullB l = false := by
  rw [← Bool.not_eq_true, full_iff]; intro h2; rw [h2 i h0 h1] at h; cases h
theorem nodup_ix {α : Type} [Inhabited α] {l : List α} (h : ∀ i j : Int, 0 ≤ j → j < i → i < l.length → ix l i ≠ ix l j) : l.Nodup := by
  rw [List.nodup_iff_pairwise_ne, List.pairwise_iff_getElem]
  intro i j hi hj hij e
  have a := ix_at l i (by omega) (by omega)
  have b := ix_at l j (by omega) (by omega)
  simp only [Int.toNat_natCast, List.getElem?_eq_getElem hi, List.getElem?_eq_getElem hj, Option.some.injEq] at a b
  exact h j i (by omega) (by omega) (by omega) (by rw [← a, ← b, e])
theorem dup_ix {l : List Nd} {i j : Int} (h0 : 0 ≤ j) (h1 : j < i) (h2 : i < l.length) (h : ix l i = ix l j) : decide l.Nodup = false := by
  rw [decide_eq_false_iff_not, List.nodup_iff_pairwise_ne, List.pairwise_iff_getElem]
  intro hp
  have hi : i.toNat < l.length := by omega
  have hj : j.toNat < l.length := by omega
  have a := ix_at l i (by omega) (by omega)
  have b := ix_at l j (by omega) (by omega)
  simp only [List.getElem?_eq_getElem hi, List.getElem?_eq_getElem hj, Option.some.injEq] at a b
  exact hp j.toNat i.toNat hj hi (by omega) (by rw [a, b, h])

theorem lit_nodes {w : World} {F : Nat → Prop} {g t m : Nat} (xs : List Nd) (h : Blk w g t (xs.map Nd.cells).flatten.toArray) (hF : ¬ F g) (hm : m = xs.length) (h63 : m ≤ 9223372036854775807) : Sl Kd.node w F (.slice (some ⟨g, 0, none⟩) m m) xs := by
  refine sl_lit h (by simp) (fun u hu => ?_) hF hm h63 (fun i u x hu hx => ?_)
  · obtain ⟨x, _, rfl⟩ := List.mem_map.1 hu; rfl
  · rw [List.getElem?_map, hx] at hu
    simp at hu; subst hu
    exact ⟨rfl, trivial⟩
end Go.Gw
