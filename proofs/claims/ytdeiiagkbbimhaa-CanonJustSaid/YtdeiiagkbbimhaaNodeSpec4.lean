/- Part of the proof that is named in YtdeiiagkbbimhaaNRowCanJust: a library for walks, or a function's walk. -/
import Derived.Test.YtdeiiagkbbimhaaNodeSpec3
namespace Go.Gw
theorem endF_par {l : List Nd} (hl : looseB l = true) : ∀ (f : Nat) (n : Int) (E : List Int) (x : Int), 1 ≤ n → n ≤ l.length → x ∈ endF l f n E →
    x ∈ E ∨ x = n ∨ ∃ j c : Int, 1 ≤ j ∧ j ≤ n ∧ 0 ≤ c ∧ c < 4 ∧ 1 < (ix l (j - 1)).lv ∧ (ix l (j - 1)).kid c = x ∧ 0 < x ∧ x < j
  | 0, _, _, _, _, _, h => .inl h
  | f + 1, n, E, x, h0, h1, h => by
    by_cases hn : n ∈ E
    · rw [endF_in hn] at h; exact .inl h
    · rw [endF_eq hn] at h
      rcases List.mem_append.1 h with h | h
      · have h2 : x ∈ endV l f (ix l (n - 1)) E 4 → x ∈ E ∨ x = n ∨ ∃ j c : Int, 1 ≤ j ∧ j ≤ n ∧ 0 ≤ c ∧ c < 4 ∧ 1 < (ix l (j - 1)).lv ∧ (ix l (j - 1)).kid c = x ∧ 0 < x ∧ x < j := by
          unfold endV
          split
          · rename_i hv
            unfold endK
            refine foldl_ind2 (fun E' => x ∈ E' → x ∈ E ∨ x = n ∨ ∃ j c : Int, 1 ≤ j ∧ j ≤ n ∧ 0 ≤ c ∧ c < 4 ∧ 1 < (ix l (j - 1)).lv ∧ (ix l (j - 1)).kid c = x ∧ 0 < x ∧ x < j) _ _ _ (fun h => .inl h) (fun b y hy hb => ?_)
            split
            · rename_i hy0
              obtain ⟨k, k0, k1, rfl⟩ := kid_mem (List.mem_of_mem_take hy)
              have hk := kid_in hl (i := n - 1) (k := k) (by omega) (by omega) k0 k1 (by omega) (by omega)
              intro hx
              rcases endF_par hl f _ b x (by omega) (by omega) hx with h | h | ⟨j, c, j0, j1, c0, c1, h2, h3, h4, h5⟩
              · exact hb h
              · exact .inr (.inr ⟨n, k, h0, Int.le_refl _, k0, k1, hv, h.symm, by omega, by omega⟩)
              · exact .inr (.inr ⟨j, c, j0, by omega, c0, c1, h2, h3, h4, h5⟩)
            · exact hb
          · exact fun h => .inl h
        exact h2 h
      · simp at h; exact .inr (.inl h)
theorem endF_lv {l : List Nd} (hl : looseB l = true) : ∀ (f : Nat) (n : Int) (E : List Int) (x : Int), 1 ≤ n → n ≤ l.length → x ∈ endF l f n E →
    x ∈ E ∨ x = n ∨ (ix l (x - 1)).lv < (ix l (n - 1)).lv
  | 0, _, _, _, _, _, h => .inl h
  | f + 1, n, E, x, h0, h1, h => by
    by_cases hn : n ∈ E
    · rw [endF_in hn] at h; exact .inl h
    · rw [endF_eq hn] at h
      rcases List.mem_append.1 h with h | h
      · have h2 : x ∈ endV l f (ix l (n - 1)) E 4 → x ∈ E ∨ x = n ∨ (ix l (x - 1)).lv < (ix l (n - 1)).lv := by
          unfold endV
          split
          · rename_i hv
            unfold endK
            refine foldl_ind2 (fun E' => x ∈ E' → x ∈ E ∨ x = n ∨ (ix l (x - 1)).lv < (ix l (n - 1)).lv) _ _ _ (fun h => .inl h) (fun b y hy hb => ?_)
            split
            · rename_i hy0
              obtain ⟨k, k0, k1, rfl⟩ := kid_mem (List.mem_of_mem_take hy)
              have hk := kid_in hl (i := n - 1) (k := k) (by omega) (by omega) k0 k1 (by omega) (by omega)
              intro hx
              rcases endF_lv hl f _ b x (by omega) (by omega) hx with h | h | h
              · exact hb h
              · exact .inr (.inr (by rw [h]; omega))
              · exact .inr (.inr (by omega))
            · exact hb
          · exact fun h => .inl h
        exact h2 h
      · simp at h; exact .inr (.inl h)
/-- What a quad that may be is. -/
theorem right_is {l : List Nd} (h : rightB l = true) (hp : l.length ≠ 0) : looseB l = true ∧ hollowB l l.length = false ∧ fullB l = true ∧ l.Nodup ∧ ordB l = true := by
  unfold rightB at h
  rw [decide_eq_false hp] at h
  simp at h
  exact ⟨h.1.1.1.1, h.1.1.1.2, h.1.1.2, h.1.2, h.2⟩
theorem right_ends {l : List Nd} (h : ordB l = true) (i : Int) (h0 : 0 ≤ i) (h1 : i < l.length) : i + 1 ∈ endL l := by
  unfold ordB at h
  rw [decide_eq_true_eq] at h
  rw [h, List.mem_map]
  exact ⟨i.toNat, by simp; omega, by omega⟩
theorem right_lv {l : List Nd} (h : rightB l = true) (i : Int) (h0 : 0 ≤ i) (h1 : i < l.length) : i = (l.length : Int) - 1 ∨ (ix l i).lv < (ix l ((l.length : Int) - 1)).lv := by
  obtain ⟨a, _, _, _, b⟩ := right_is h (by omega)
  rcases endF_lv a l.length l.length [] (i + 1) (by omega) (by omega) (right_ends b i h0 h1) with h | h | h
  · simp at h
  · exact .inl (by omega)
  · exact .inr (by rw [show i + 1 - 1 = i by omega] at h; exact h)
theorem right_le {l : List Nd} (h : rightB l = true) (i : Int) (h0 : 0 ≤ i) (h1 : i < l.length) : (ix l i).lv ≤ (ix l ((l.length : Int) - 1)).lv := by
  rcases right_lv h i h0 h1 with h | h
  · rw [h]; exact Int.le_refl _
  · omega
theorem right_par {l : List Nd} (h : rightB l = true) (k : Int) (h0 : 0 ≤ k) (h1 : k < l.length) : k = (l.length : Int) - 1 ∨ ∃ i c : Int, k + 1 ≤ i ∧ i < l.length ∧ 0 ≤ c ∧ c < 4 ∧ 1 < (ix l i).lv ∧ (ix l i).kid c = k + 1 := by
  obtain ⟨a, _, _, _, b⟩ := right_is h (by omega)
  rcases endF_par a l.length l.length [] (k + 1) (by omega) (by omega) (right_ends b k h0 h1) with h | h | ⟨j, c, j0, j1, c0, c1, h2, h3, h4, h5⟩
  · simp at h
  · exact .inl (by omega)
  · exact .inr ⟨j - 1, c, by omega, by omega, c0, c1, h2, h3⟩
theorem right_loose {l : List Nd} (h : rightB l = true) : looseB l = true := by
  by_cases hp : l.length = 0
  · rw [looseB_iff]; intro i h0 h1; omega
  · exact (right_is h hp).1
theorem right_twice {l a b : List Nd} {x : Nd} (h : l = a ++ [x] ++ (x :: b)) : rightB l = false := by
  have hn : ¬ l.Nodup := by
    rw [h]
    intro hn
    rw [List.nodup_append] at hn
    exact hn.2.2 x (by simp) x (by simp) rfl
  unfold rightB
  rw [decide_eq_false hn, decide_eq_false (by rw [h]; simp)]
  simp
theorem drop_ix (l : List Nd) (k : Int) (h0 : 0 ≤ k) (h1 : k < l.length) : l.drop k.toNat = ix l k :: l.drop (k.toNat + 1) := by
  have h2 := ix_at l k h0 h1
  have hk : k.toNat < l.length := by omega
  rw [List.drop_eq_getElem_cons hk]
  rw [List.getElem?_eq_getElem hk] at h2
  simp at h2
  rw [h2]
end Go.Gw
