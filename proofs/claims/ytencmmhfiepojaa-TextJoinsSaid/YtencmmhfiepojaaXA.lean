/- Part of the proof that is named in YtencmmhfiepojaaXRowJoins: a library for walks, or a function's walk. -/
import Derived.Test.YtencmmhfiepojaaXFacts
set_option maxRecDepth 20000
set_option linter.unusedSimpArgs false
set_option linter.unusedVariables false
namespace Go.Proofs.Ytencmmhfiepojaa
open Go.RowKit Go.Gw
theorem sign_any {w : World} {c : Int} :
    Calls Try.prog 20 [.int .u8 c].toArray w (Pure w fun v _ => v = .bool (signB c)) := by
  have hb0 := Below.refl w.heap.size w
  refine enter Try.func20 rfl rfl ?_
  refine w_seq ?_
  refine w_region ?_
  refine st (s_assign rfl ?_)
  refine r_end ?_
  refine n_then ?_
  refine w_seq ?_
  refine w_region ?_
  refine st (s_move rfl ?_)
  refine st (s_gt rfl rfl ?_)
  refine st (s_move rfl ?_)
  refine r_caseP 5 rfl (fun h1 => ?_) (fun h1 => ?_)
  · refine stg (s_move rfl ?_)
    refine stg (s_lt rfl rfl ?_)
    refine st (s_pick rfl rfl ?_)
    refine st (s_assign rfl ?_)
    refine r_end ?_
    refine n_then ?_
    refine w_ret1 rfl rfl ?_
    exact ⟨_, rfl, hb0, by rw [sign_at c (by omega)]⟩
  · refine s_pass rfl rfl ?_
    refine s_pass rfl rfl ?_
    refine st (s_pick rfl rfl ?_)
    refine st (s_assign rfl ?_)
    refine r_end ?_
    refine n_then ?_
    refine w_ret1 rfl rfl ?_
    exact ⟨_, rfl, hb0, by rw [sign_no c (by omega)]⟩

theorem rsign_any {w : World} {c : Int} :
    Calls Try.prog 21 [.int .u8 c].toArray w (Pure w fun v _ => v = .bool (signB c)) := by
  have hb0 := Below.refl w.heap.size w
  refine enter Try.func21 rfl rfl ?_
  refine w_seq ?_
  refine w_region ?_
  refine st (s_assign rfl ?_)
  refine r_end ?_
  refine n_then ?_
  refine w_seq ?_
  refine w_region ?_
  refine st (s_move rfl ?_)
  refine st (s_ge rfl rfl ?_)
  refine st (s_move rfl ?_)
  refine r_caseP 5 rfl (fun h1 => ?_) (fun h1 => ?_)
  · refine stg (s_move rfl ?_)
    refine stg (s_le rfl rfl ?_)
    refine st (s_pick rfl rfl ?_)
    refine st (s_assign rfl ?_)
    refine r_end ?_
    refine n_then ?_
    refine w_ret1 rfl rfl ?_
    exact ⟨_, rfl, hb0, by unfold signB; rw [decide_eq_true (show 33 ≤ c by omega), Bool.true_and]⟩
  · refine s_pass rfl rfl ?_
    refine s_pass rfl rfl ?_
    refine st (s_pick rfl rfl ?_)
    refine st (s_assign rfl ?_)
    refine r_end ?_
    refine n_then ?_
    refine w_ret1 rfl rfl ?_
    exact ⟨_, rfl, hb0, by rw [sign_no c (by omega)]⟩

theorem rule_any {w : World} {s : ByteArray} :
    Calls Try.prog 16 [.string s].toArray w (Pure w fun v _ => v = .bool (ruleB (bl s))) := by
  have hb0 := Below.refl w.heap.size w
  refine enter Try.func16 rfl rfl ?_
  refine w_seq ?_
  refine w_region ?_
  refine st (s_assign rfl ?_)
  refine r_end ?_
  refine n_then ?_
  refine w_seq ?_
  refine w_seq ?_
  refine w_region ?_
  refine st (s_move rfl ?_)
  refine st (s_seq rfl rfl ?_)
  refine st (s_move rfl ?_)
  refine r_caseP 6 rfl (fun h1 => ?_) (fun h1 => ?_)
  · refine s_pass rfl rfl ?_
    refine s_pass rfl rfl ?_
    refine s_pass rfl rfl ?_
    refine st (s_pick rfl rfl ?_)
    refine r_end ?_
    refine n_then ?_
    refine w_condT rfl ?_
    refine w_seq ?_
    refine w_region ?_
    refine st (s_assign rfl ?_)
    refine r_end ?_
    refine n_then ?_
    refine w_ret1 rfl rfl ?_
    exact ⟨_, rfl, hb0, by rw [rule_len (by first | omega | (rw [bl_nil] at h1; simp [h1]))]⟩
  · have hne : 1 ≤ (bl s).length := by have hn := mt List.length_eq_zero_iff.1 (show ¬ bl s = [] from h1); omega
    refine stg (s_move rfl ?_)
    refine stg (s_slen str9 rfl ?_)
    refine stg (s_gt rfl rfl ?_)
    refine st (s_pick rfl rfl ?_)
    refine r_end ?_
    refine n_then ?_
    refine w_condP rfl (fun h2 => ?_) (fun h2 => ?_)
    · refine w_seq ?_
      refine w_region ?_
      refine st (s_assign rfl ?_)
      refine r_end ?_
      refine n_then ?_
      refine w_ret1 rfl rfl ?_
      exact ⟨_, rfl, hb0, by rw [rule_len (by first | omega | (rw [bl_nil] at h1; simp [h1]))]⟩
    · refine w_skip' ?_
      refine n_then ?_
      refine w_seq ?_
      refine w_seq ?_
      refine w_region ?_
      refine st (s_move rfl ?_)
      refine st (s_slen str9 rfl ?_)
      refine st (s_move rfl ?_)
      refine r_end ?_
      refine n_then ?_
      refine w_block ?_
      refine w_loop (α := Int) (fun (i : Int) => [(0, .string s), (12, .int .i64 ((bl s).length : Int)), (13, .int .i64 i)]) (fun (i : Int) W => Below w.heap.size w W ∧ (0 ≤ i ∧ i ≤ ((bl s).length : Int)) ∧ (∀ j : Int, 0 ≤ j → j < i → signB (ix (bl s) j) = true)) (fun (i : Int) => (((bl s).length : Int) - i).toNat) (0) ⟨hb0, by omega, fun j _ _ => by omega⟩ (by exact ⟨rfl, rfl, rfl, trivial⟩) ?_
      rintro i w1 ⟨hb1, hi, ha⟩
      have hz1 := hb1.size
      refine w_seq ?_
      refine w_region ?_
      refine st (s_lt rfl rfl ?_)
      refine r_end ?_
      refine n_then ?_
      refine w_seq ?_
      refine w_condP rfl (fun h3 => ?_) (fun h3 => ?_)
      · refine w_skip' ?_
        refine n_then ?_
        refine w_seq ?_
        refine w_block ?_
        refine w_seq ?_
        refine w_region ?_
        refine st (s_move rfl ?_)
        refine st (s_assign rfl ?_)
        refine r_end ?_
        refine n_then ?_
        refine w_seq ?_
        refine w_region ?_
        refine st (s_move rfl ?_)
        refine st (s_move rfl ?_)
        refine st (s_sidx str9 rfl rfl (by omega) (by omega) ?_)
        refine st (s_call fn20 rfl (sign_any) ?_)
        rintro _ w2 ⟨hq1, rfl⟩
        have k1 := grown_of_below hq1 none
        have hz2 := hq1.size
        have hb2 := below_g0 hb1 k1
        have hz3 := hb2.size
        refine st (s_not rfl ?_)
        refine r_end ?_
        refine n_then ?_
        refine w_cond rfl (fun h4 => ?_) (fun h4 => ?_)
        · refine w_seq ?_
          refine w_region ?_
          refine st (s_assign rfl ?_)
          refine r_end ?_
          refine n_then ?_
          refine w_ret1 rfl rfl ?_
          exact ⟨_, rfl, hb2, by rw [rule_no i (by omega) (by omega) (by simpa using h4)]⟩
        · refine w_skip' ?_
          refine n_block ?_
          refine n_then ?_
          refine w_region ?_
          refine st (s_add rfl rfl (by omega) ?_)
          refine st (s_move rfl ?_)
          refine r_end ?_
          exact n_round ((i + 1)) ⟨hb2, by omega, fun j j0 j1 => if q : j = i then by rw [q]; simpa using h4 else ha j j0 (by omega)⟩ (by omega) (by exact ⟨rfl, rfl, rfl, trivial⟩)
      · refine w_exit' ?_
        refine n_then_exit ?_
        refine n_then_exit ?_
        refine n_block_exit ?_
        refine n_then ?_
        refine w_seq ?_
        refine w_region ?_
        refine st (s_assign rfl ?_)
        refine r_end ?_
        refine n_then ?_
        refine w_ret1 rfl rfl ?_
        exact ⟨_, rfl, hb1, by rw [rule_yes fun j j0 j1 => ha j j0 (by omega), decide_eq_true (by omega), decide_eq_true (by omega)]; rfl⟩

theorem rrule_any {w : World} {s : ByteArray} (hlen : ((bl s).length : Int) ≤ 9223372036854775807) :
    Calls Try.prog 17 [.string s].toArray w (Pure w fun v _ => v = .bool (ruleB (bl s))) := by
  have hb0 := Below.refl w.heap.size w
  refine enter Try.func17 rfl rfl ?_
  refine w_seq ?_
  refine w_region ?_
  refine st (s_assign rfl ?_)
  refine r_end ?_
  refine n_then ?_
  refine w_seq ?_
  refine w_seq ?_
  refine w_region ?_
  refine st (s_assign rfl ?_)
  refine r_end ?_
  refine n_then ?_
  refine w_block ?_
  refine w_loop (α := Int) (fun (i : Int) => [(0, .string s), (3, .int .i64 i)]) (fun (i : Int) W => Below w.heap.size w W ∧ (0 ≤ i ∧ i ≤ ((bl s).length : Int)) ∧ (∀ j : Int, 0 ≤ j → j < i → signB (ix (bl s) j) = true)) (fun (i : Int) => (((bl s).length : Int) - i).toNat) (0) ⟨hb0, by omega, fun j _ _ => by omega⟩ (by exact ⟨rfl, rfl, trivial⟩) ?_
  rintro i w1 ⟨hb1, hi, ha⟩
  have hz1 := hb1.size
  refine w_seq ?_
  refine w_seq ?_
  refine w_region ?_
  refine st (s_move rfl ?_)
  refine st (s_move rfl ?_)
  refine st (s_slen str9 rfl ?_)
  refine st (s_lt rfl rfl ?_)
  refine r_end ?_
  refine n_then ?_
  refine w_condP rfl (fun h1 => ?_) (fun h1 => ?_)
  · refine w_skip' ?_
    refine n_then ?_
    refine w_seq ?_
    refine w_block ?_
    refine w_seq ?_
    refine w_region ?_
    refine st (s_move rfl ?_)
    refine st (s_move rfl ?_)
    refine st (s_sidx str9 rfl rfl (by omega) (by omega) ?_)
    refine st (s_call fn21 rfl (rsign_any) ?_)
    rintro _ w2 ⟨hq1, rfl⟩
    have k1 := grown_of_below hq1 none
    have hz2 := hq1.size
    have hb2 := below_g0 hb1 k1
    have hz3 := hb2.size
    refine st (s_not rfl ?_)
    refine r_end ?_
    refine n_then ?_
    refine w_cond rfl (fun h2 => ?_) (fun h2 => ?_)
    · refine w_seq ?_
      refine w_region ?_
      refine st (s_assign rfl ?_)
      refine r_end ?_
      refine n_then ?_
      refine w_ret1 rfl rfl ?_
      exact ⟨_, rfl, hb2, by rw [rule_no i (by omega) (by omega) (by simpa using h2)]⟩
    · refine w_skip' ?_
      refine n_block ?_
      refine n_then ?_
      refine w_region ?_
      refine st (s_move rfl ?_)
      refine st (s_add rfl rfl (by omega) ?_)
      refine st (s_assign rfl ?_)
      refine r_end ?_
      exact n_round ((i + 1)) ⟨hb2, by omega, fun j j0 j1 => if q : j = i then by rw [q]; simpa using h2 else ha j j0 (by omega)⟩ (by omega) (by exact ⟨rfl, rfl, trivial⟩)
  · refine w_exit' ?_
    refine n_then_exit ?_
    refine n_then_exit ?_
    refine n_block_exit ?_
    refine n_then ?_
    refine w_seq ?_
    refine w_region ?_
    refine st (s_move rfl ?_)
    refine st (s_slen str9 rfl ?_)
    refine st (s_ge rfl rfl ?_)
    refine st (s_move rfl ?_)
    refine r_caseP 18 rfl (fun h3 => ?_) (fun h3 => ?_)
    · refine stg (s_move rfl ?_)
      refine stg (s_slen str9 rfl ?_)
      refine stg (s_le rfl rfl ?_)
      refine st (s_pick rfl rfl ?_)
      refine st (s_assign rfl ?_)
      refine r_end ?_
      refine n_then ?_
      refine w_ret1 rfl rfl ?_
      exact ⟨_, rfl, hb1, by rw [rule_yes fun j j0 j1 => ha j j0 (by omega)]; rw [decide_eq_true (show 1 ≤ ((bl s).length : Int) by omega), Bool.true_and]⟩
    · refine s_pass rfl rfl ?_
      refine s_pass rfl rfl ?_
      refine s_pass rfl rfl ?_
      refine st (s_pick rfl rfl ?_)
      refine st (s_assign rfl ?_)
      refine r_end ?_
      refine n_then ?_
      refine w_ret1 rfl rfl ?_
      exact ⟨_, rfl, hb1, by rw [rule_len (by first | omega | (rw [bl_nil] at h1; simp [h1]))]⟩

theorem com_any {w : World} {s r : ByteArray} (hs : ((bl s).length : Int) ≤ 4611686018427387904) (hr : ((bl r).length : Int) ≤ 4611686018427387904) :
    Calls Try.prog 18 [.string s, .string r].toArray w (Pure w fun v _ => v = .int .i64 (comL (bl s) (bl r))) := by
  have hb0 := Below.refl w.heap.size w
  refine enter Try.func18 rfl rfl ?_
  refine w_seq ?_
  refine w_region ?_
  refine st (s_assign rfl ?_)
  refine r_end ?_
  refine n_then ?_
  refine w_seq ?_
  refine w_region ?_
  refine st (s_move rfl ?_)
  refine st (s_slen str9 rfl ?_)
  refine st (s_move rfl ?_)
  refine st (s_slen str9 rfl ?_)
  refine st (s_min rfl rfl ?_)
  refine st (s_assign rfl ?_)
  refine r_end ?_
  refine n_then ?_
  refine w_seq ?_
  refine w_seq ?_
  refine w_region ?_
  refine st (s_move rfl ?_)
  refine st (s_move rfl ?_)
  refine r_end ?_
  refine n_then ?_
  refine w_block ?_
  refine w_loop (α := Int) (fun (i : Int) => [(0, .string s), (1, .string r), (5, .int .i64 (min ((bl s).length : Int) ((bl r).length : Int))), (12, .int .i64 (min ((bl s).length : Int) ((bl r).length : Int))), (13, .int .i64 i)]) (fun (i : Int) W => Below w.heap.size w W ∧ (0 ≤ i ∧ i ≤ min ((bl s).length : Int) ((bl r).length : Int)) ∧ (∀ j : Int, 0 ≤ j → j < i → ix (bl s) j = ix (bl r) j)) (fun (i : Int) => (min ((bl s).length : Int) ((bl r).length : Int) - i).toNat) (0) ⟨hb0, by omega, fun j _ _ => by omega⟩ (by exact ⟨rfl, rfl, rfl, rfl, rfl, trivial⟩) ?_
  rintro i w1 ⟨hb1, hi, ha⟩
  have hz1 := hb1.size
  refine w_seq ?_
  refine w_region ?_
  refine st (s_lt rfl rfl ?_)
  refine r_end ?_
  refine n_then ?_
  refine w_seq ?_
  refine w_condP rfl (fun h1 => ?_) (fun h1 => ?_)
  · refine w_skip' ?_
    refine n_then ?_
    refine w_seq ?_
    refine w_block ?_
    refine w_seq ?_
    refine w_region ?_
    refine st (s_move rfl ?_)
    refine st (s_assign rfl ?_)
    refine r_end ?_
    refine n_then ?_
    refine w_seq ?_
    refine w_draw 7 (fun a b => a.grownBy b none) [(some 16, fun v _ => v = .string s), (some 17, fun v _ => v = .int .i64 i), (some 18, fun v _ => v = .int .u8 (ix (bl s) i)), (some 19, fun v _ => v = .string r), (some 20, fun v _ => v = .int .i64 i), (some 21, fun v _ => v = .int .u8 (ix (bl r) i)), (some 22, fun v _ => v = .bool (decide ((ix (bl s) i) ≠ (ix (bl r) i))))] [[], [], [0, 1], [], [], [3, 4], [2, 5]] [(0, .string s), (1, .string r), (5, .int .i64 (min ((bl s).length : Int) ((bl r).length : Int))), (6, .int .i64 i), (12, .int .i64 (min ((bl s).length : Int) ((bl r).length : Int))), (13, .int .i64 i)] (by exact ⟨rfl, rfl, rfl, rfl, rfl, rfl, trivial⟩) (by kernel_rfl) (by kernel_rfl) grown_none_refl (fun _ _ _ => grown_none_trans) ⟨fun _ _ _ h _ => h, fun _ _ _ h _ => h, fun _ _ _ h _ => h, fun _ _ _ h _ => h, fun _ _ _ h _ => h, fun _ _ _ h _ => h, fun _ _ _ h _ => h, trivial⟩ ?_
    intro w2 k1 hs1
    have hb2 := below_g0 hb1 k1
    refine ⟨⟨?_, ?_, ?_, ?_, ?_, ?_, ?_, trivial⟩, ?_⟩
    · intro w3 k2
      have hb3 := below_g0 hb2 k2
      refine op1 (s_move rfl ?_)
      exact ⟨rfl, grown_none_refl _⟩
    · intro w4 k3
      have hb4 := below_g0 hb2 k3
      refine op1 (s_move rfl ?_)
      exact ⟨rfl, grown_none_refl _⟩
    · intro w5 k4
      have hb5 := below_g0 hb2 k4
      rintro _ rfl
      rintro _ rfl
      refine op1 (s_sidx str9 rfl rfl (by omega) (by omega) ?_)
      exact ⟨rfl, grown_none_refl _⟩
    · intro w6 k5
      have hb6 := below_g0 hb2 k5
      refine op1 (s_move rfl ?_)
      exact ⟨rfl, grown_none_refl _⟩
    · intro w7 k6
      have hb7 := below_g0 hb2 k6
      refine op1 (s_move rfl ?_)
      exact ⟨rfl, grown_none_refl _⟩
    · intro w8 k7
      have hb8 := below_g0 hb2 k7
      rintro _ rfl
      rintro _ rfl
      refine op1 (s_sidx str9 rfl rfl (by omega) (by omega) ?_)
      exact ⟨rfl, grown_none_refl _⟩
    · intro w9 k8
      have hb9 := below_g0 hb2 k8
      rintro _ rfl
      rintro _ rfl
      refine op1 (s_ne rfl rfl ?_)
      exact ⟨rfl, grown_none_refl _⟩
    · intro w10 k9
      have hb10 := below_g0 hb2 k9
      rintro _ rfl
      rintro _ rfl
      rintro _ rfl
      rintro _ rfl
      rintro _ rfl
      rintro _ rfl
      rintro _ rfl
      refine r_end ?_
      refine n_then ?_
      refine w_condP rfl (fun h2 => ?_) (fun h2 => ?_)
      · refine w_seq ?_
        refine w_region ?_
        refine st (s_move rfl ?_)
        refine st (s_assign rfl ?_)
        refine r_end ?_
        refine n_then ?_
        refine w_ret1 rfl rfl ?_
        exact ⟨_, rfl, hb10, by rw [com_at (bl s) (bl r) i (by omega) (by omega) (by omega) ha (by first | exact .inr (.inr (by assumption)) | exact Or.elim (by omega : i = ((bl s).length : Int) ∨ i = ((bl r).length : Int)) .inl (fun h => .inr (.inl h)))]⟩
      · refine w_skip' ?_
        refine n_block ?_
        refine n_then ?_
        refine w_region ?_
        refine st (s_add rfl rfl (by omega) ?_)
        refine st (s_move rfl ?_)
        refine r_end ?_
        exact n_round ((i + 1)) ⟨hb10, by omega, fun j j0 j1 => if q : j = i then by rw [q]; simpa using h2 else ha j j0 (by omega)⟩ (by omega) (by exact ⟨rfl, rfl, rfl, rfl, rfl, trivial⟩)
  · refine w_exit' ?_
    refine n_then_exit ?_
    refine n_then_exit ?_
    refine n_block_exit ?_
    refine n_then ?_
    refine w_seq ?_
    refine w_region ?_
    refine st (s_move rfl ?_)
    refine st (s_assign rfl ?_)
    refine r_end ?_
    refine n_then ?_
    refine w_ret1 rfl rfl ?_
    have e : ((min ((bl s).length : Int) ((bl r).length : Int))) = i := by omega
    rw [e]
    exact ⟨_, rfl, hb1, by rw [com_at (bl s) (bl r) i (by omega) (by omega) (by omega) ha (by first | exact .inr (.inr (by assumption)) | exact Or.elim (by omega : i = ((bl s).length : Int) ∨ i = ((bl r).length : Int)) .inl (fun h => .inr (.inl h)))]⟩

theorem rcom_any {w : World} {s r : ByteArray} (hs : ((bl s).length : Int) ≤ 4611686018427387904) (hr : ((bl r).length : Int) ≤ 4611686018427387904) :
    Calls Try.prog 19 [.string s, .string r].toArray w (Pure w fun v _ => v = .int .i64 (comL (bl s) (bl r))) := by
  have hb0 := Below.refl w.heap.size w
  refine enter Try.func19 rfl rfl ?_
  refine w_seq ?_
  refine w_region ?_
  refine st (s_assign rfl ?_)
  refine r_end ?_
  refine n_then ?_
  refine w_seq ?_
  refine w_region ?_
  refine st (s_assign rfl ?_)
  refine r_end ?_
  refine n_then ?_
  refine w_seq ?_
  refine w_block ?_
  refine w_loop (α := Int) (fun (i : Int) => [(0, .string s), (1, .string r), (4, .int .i64 0), (5, .int .i64 i)]) (fun (i : Int) W => Below w.heap.size w W ∧ (0 ≤ i ∧ i ≤ min ((bl s).length : Int) ((bl r).length : Int)) ∧ (∀ j : Int, 0 ≤ j → j < i → ix (bl s) j = ix (bl r) j)) (fun (i : Int) => (min ((bl s).length : Int) ((bl r).length : Int) - i).toNat) (0) ⟨hb0, by omega, fun j _ _ => by omega⟩ (by exact ⟨rfl, rfl, rfl, rfl, trivial⟩) ?_
  rintro i w1 ⟨hb1, hi, ha⟩
  have hz1 := hb1.size
  refine w_seq ?_
  refine w_seq ?_
  by_cases h1 : i < ((bl s).length : Int)
  · by_cases h2 : i < ((bl r).length : Int)
    · refine w_draw 19 (fun a b => a.grownBy b none) [(some 6, fun v _ => v = .int .i64 i), (some 7, fun v _ => v = .string s), (some 8, fun v _ => v = .int .i64 ((bl s).length : Int)), (some 9, fun v _ => v = .bool (decide (i < ((bl s).length : Int)))), (some 10, fun v _ => v = .bool true), (some 11, fun v _ => v = .int .i64 i), (some 12, fun v _ => v = .string r), (some 13, fun v _ => v = .int .i64 ((bl r).length : Int)), (some 14, fun v _ => v = .bool (decide (i < ((bl r).length : Int)))), (some 15, fun v _ => v = .bool (decide (i < ((bl r).length : Int)))), (some 16, fun v _ => v = .bool true), (some 17, fun v _ => v = .string s), (some 18, fun v _ => v = .int .i64 i), (some 19, fun v _ => v = .int .u8 (ix (bl s) i)), (some 20, fun v _ => v = .string r), (some 21, fun v _ => v = .int .i64 i), (some 22, fun v _ => v = .int .u8 (ix (bl r) i)), (some 23, fun v _ => v = .bool (decide ((ix (bl s) i) = (ix (bl r) i)))), (some 24, fun v _ => v = .bool (decide ((ix (bl s) i) = (ix (bl r) i))))] [[], [], [1], [0, 2], [3], [4], [4], [4, 6], [4, 5, 7], [4, 8], [9], [10], [10], [10, 11, 12], [10], [10], [10, 14, 15], [10, 13, 16], [10, 17]] [(0, .string s), (1, .string r), (4, .int .i64 0), (5, .int .i64 i)] (by exact ⟨rfl, rfl, rfl, rfl, trivial⟩) (by kernel_rfl) (by kernel_rfl) grown_none_refl (fun _ _ _ => grown_none_trans) ⟨fun _ _ _ h _ => h, fun _ _ _ h _ => h, fun _ _ _ h _ => h, fun _ _ _ h _ => h, fun _ _ _ h _ => h, fun _ _ _ h _ => h, fun _ _ _ h _ => h, fun _ _ _ h _ => h, fun _ _ _ h _ => h, fun _ _ _ h _ => h, fun _ _ _ h _ => h, fun _ _ _ h _ => h, fun _ _ _ h _ => h, fun _ _ _ h _ => h, fun _ _ _ h _ => h, fun _ _ _ h _ => h, fun _ _ _ h _ => h, fun _ _ _ h _ => h, fun _ _ _ h _ => h, trivial⟩ ?_
      intro w2 k1 hs1
      have hb2 := below_g0 hb1 k1
      refine ⟨⟨?_, ?_, ?_, ?_, ?_, ?_, ?_, ?_, ?_, ?_, ?_, ?_, ?_, ?_, ?_, ?_, ?_, ?_, ?_, trivial⟩, ?_⟩
      · intro w3 k2
        have hb3 := below_g0 hb2 k2
        refine op1 (s_move rfl ?_)
        exact ⟨rfl, grown_none_refl _⟩
      · intro w4 k3
        have hb4 := below_g0 hb2 k3
        refine op1 (s_move rfl ?_)
        exact ⟨rfl, grown_none_refl _⟩
      · intro w5 k4
        have hb5 := below_g0 hb2 k4
        rintro _ rfl
        refine op1 (s_slen str9 rfl ?_)
        exact ⟨rfl, grown_none_refl _⟩
      · intro w6 k5
        have hb6 := below_g0 hb2 k5
        rintro _ rfl
        rintro _ rfl
        refine op1 (s_lt rfl rfl ?_)
        exact ⟨rfl, grown_none_refl _⟩
      · intro w7 k6
        have hb7 := below_g0 hb2 k6
        rintro _ rfl
        refine op1 (s_move rfl ?_)
        exact ⟨(by rw [decide_eq_true h1]), grown_none_refl _⟩
      · intro w8 k7
        have hb8 := below_g0 hb2 k7
        rintro _ rfl
        refine op1g (s_move rfl ?_)
        exact ⟨rfl, grown_none_refl _⟩
      · intro w9 k8
        have hb9 := below_g0 hb2 k8
        rintro _ rfl
        refine op1g (s_move rfl ?_)
        exact ⟨rfl, grown_none_refl _⟩
      · intro w10 k9
        have hb10 := below_g0 hb2 k9
        rintro _ rfl
        rintro _ rfl
        refine op1g (s_slen str9 rfl ?_)
        exact ⟨rfl, grown_none_refl _⟩
      · intro w11 k10
        have hb11 := below_g0 hb2 k10
        rintro _ rfl
        rintro _ rfl
        rintro _ rfl
        refine op1g (s_lt rfl rfl ?_)
        exact ⟨rfl, grown_none_refl _⟩
      · intro w12 k11
        have hb12 := below_g0 hb2 k11
        rintro _ rfl
        rintro _ rfl
        refine op1 (s_pick rfl rfl ?_)
        exact ⟨rfl, grown_none_refl _⟩
      · intro w13 k12
        have hb13 := below_g0 hb2 k12
        rintro _ rfl
        refine op1 (s_move rfl ?_)
        exact ⟨(by rw [decide_eq_true h2]), grown_none_refl _⟩
      · intro w14 k13
        have hb14 := below_g0 hb2 k13
        rintro _ rfl
        refine op1g (s_move rfl ?_)
        exact ⟨rfl, grown_none_refl _⟩
      · intro w15 k14
        have hb15 := below_g0 hb2 k14
        rintro _ rfl
        refine op1g (s_move rfl ?_)
        exact ⟨rfl, grown_none_refl _⟩
      · intro w16 k15
        have hb16 := below_g0 hb2 k15
        rintro _ rfl
        rintro _ rfl
        rintro _ rfl
        refine op1g (s_sidx str9 rfl rfl (by omega) (by omega) ?_)
        exact ⟨rfl, grown_none_refl _⟩
      · intro w17 k16
        have hb17 := below_g0 hb2 k16
        rintro _ rfl
        refine op1g (s_move rfl ?_)
        exact ⟨rfl, grown_none_refl _⟩
      · intro w18 k17
        have hb18 := below_g0 hb2 k17
        rintro _ rfl
        refine op1g (s_move rfl ?_)
        exact ⟨rfl, grown_none_refl _⟩
      · intro w19 k18
        have hb19 := below_g0 hb2 k18
        rintro _ rfl
        rintro _ rfl
        rintro _ rfl
        refine op1g (s_sidx str9 rfl rfl (by omega) (by omega) ?_)
        exact ⟨rfl, grown_none_refl _⟩
      · intro w20 k19
        have hb20 := below_g0 hb2 k19
        rintro _ rfl
        rintro _ rfl
        rintro _ rfl
        refine op1g (s_eq rfl rfl ?_)
        exact ⟨rfl, grown_none_refl _⟩
      · intro w21 k20
        have hb21 := below_g0 hb2 k20
        rintro _ rfl
        rintro _ rfl
        refine op1 (s_pick rfl rfl ?_)
        exact ⟨rfl, grown_none_refl _⟩
      · intro w22 k21
        have hb22 := below_g0 hb2 k21
        rintro _ rfl
        rintro _ rfl
        rintro _ rfl
        rintro _ rfl
        rintro _ rfl
        rintro _ rfl
        rintro _ rfl
        rintro _ rfl
        rintro _ rfl
        rintro _ rfl
        rintro _ rfl
        rintro _ rfl
        rintro _ rfl
        rintro _ rfl
        rintro _ rfl
        rintro _ rfl
        rintro _ rfl
        rintro _ rfl
        rintro _ rfl
        refine r_end ?_
        refine n_then ?_
        refine w_condP rfl (fun h3 => ?_) (fun h3 => ?_)
        · refine w_skip' ?_
          refine n_then ?_
          refine w_block ?_
          refine w_region ?_
          refine st (s_move rfl ?_)
          refine st (s_add rfl rfl (by omega) ?_)
          refine st (s_assign rfl ?_)
          refine r_end ?_
          refine n_block ?_
          exact n_round ((i + 1)) ⟨hb22, by omega, fun j j0 j1 => if q : j = i then by rw [q]; simpa using h3 else ha j j0 (by omega)⟩ (by omega) (by exact ⟨rfl, rfl, rfl, rfl, trivial⟩)
        · refine w_exit' ?_
          refine n_then_exit ?_
          refine n_then_exit ?_
          refine n_block_exit ?_
          refine n_then ?_
          refine w_seq ?_
          refine w_region ?_
          refine st (s_move rfl ?_)
          refine st (s_assign rfl ?_)
          refine r_end ?_
          refine n_then ?_
          refine w_ret1 rfl rfl ?_
          exact ⟨_, rfl, hb22, by rw [com_at (bl s) (bl r) i (by omega) (by omega) (by omega) ha (by first | exact .inr (.inr (by assumption)) | exact Or.elim (by omega : i = ((bl s).length : Int) ∨ i = ((bl r).length : Int)) .inl (fun h => .inr (.inl h)))]⟩
    · refine w_draw 19 (fun a b => a.grownBy b none) [(some 6, fun v _ => v = .int .i64 i), (some 7, fun v _ => v = .string s), (some 8, fun v _ => v = .int .i64 ((bl s).length : Int)), (some 9, fun v _ => v = .bool (decide (i < ((bl s).length : Int)))), (some 10, fun v _ => v = .bool true), (some 11, fun v _ => v = .int .i64 i), (some 12, fun v _ => v = .string r), (some 13, fun v _ => v = .int .i64 ((bl r).length : Int)), (some 14, fun v _ => v = .bool (decide (i < ((bl r).length : Int)))), (some 15, fun v _ => v = .bool (decide (i < ((bl r).length : Int)))), (some 16, fun v _ => v = .bool false), (some 17, fun v _ => v = undef), (some 18, fun v _ => v = undef), (some 19, fun v _ => v = undef), (some 20, fun v _ => v = undef), (some 21, fun v _ => v = undef), (some 22, fun v _ => v = undef), (some 23, fun v _ => v = undef), (some 24, fun v _ => v = .bool false)] [[], [], [1], [0, 2], [3], [4], [4], [4, 6], [4, 5, 7], [4, 8], [9], [10], [10], [10, 11, 12], [10], [10], [10, 14, 15], [10, 13, 16], [10, 17]] [(0, .string s), (1, .string r), (4, .int .i64 0), (5, .int .i64 i)] (by exact ⟨rfl, rfl, rfl, rfl, trivial⟩) (by kernel_rfl) (by kernel_rfl) grown_none_refl (fun _ _ _ => grown_none_trans) ⟨fun _ _ _ h _ => h, fun _ _ _ h _ => h, fun _ _ _ h _ => h, fun _ _ _ h _ => h, fun _ _ _ h _ => h, fun _ _ _ h _ => h, fun _ _ _ h _ => h, fun _ _ _ h _ => h, fun _ _ _ h _ => h, fun _ _ _ h _ => h, fun _ _ _ h _ => h, fun _ _ _ h _ => h, fun _ _ _ h _ => h, fun _ _ _ h _ => h, fun _ _ _ h _ => h, fun _ _ _ h _ => h, fun _ _ _ h _ => h, fun _ _ _ h _ => h, fun _ _ _ h _ => h, trivial⟩ ?_
      intro w23 k22 hs2
      have hb23 := below_g0 hb1 k22
      refine ⟨⟨?_, ?_, ?_, ?_, ?_, ?_, ?_, ?_, ?_, ?_, ?_, ?_, ?_, ?_, ?_, ?_, ?_, ?_, ?_, trivial⟩, ?_⟩
      · intro w24 k23
        have hb24 := below_g0 hb23 k23
        refine op1 (s_move rfl ?_)
        exact ⟨rfl, grown_none_refl _⟩
      · intro w25 k24
        have hb25 := below_g0 hb23 k24
        refine op1 (s_move rfl ?_)
        exact ⟨rfl, grown_none_refl _⟩
      · intro w26 k25
        have hb26 := below_g0 hb23 k25
        rintro _ rfl
        refine op1 (s_slen str9 rfl ?_)
        exact ⟨rfl, grown_none_refl _⟩
      · intro w27 k26
        have hb27 := below_g0 hb23 k26
        rintro _ rfl
        rintro _ rfl
        refine op1 (s_lt rfl rfl ?_)
        exact ⟨rfl, grown_none_refl _⟩
      · intro w28 k27
        have hb28 := below_g0 hb23 k27
        rintro _ rfl
        refine op1 (s_move rfl ?_)
        exact ⟨(by rw [decide_eq_true h1]), grown_none_refl _⟩
      · intro w29 k28
        have hb29 := below_g0 hb23 k28
        rintro _ rfl
        refine op1g (s_move rfl ?_)
        exact ⟨rfl, grown_none_refl _⟩
      · intro w30 k29
        have hb30 := below_g0 hb23 k29
        rintro _ rfl
        refine op1g (s_move rfl ?_)
        exact ⟨rfl, grown_none_refl _⟩
      · intro w31 k30
        have hb31 := below_g0 hb23 k30
        rintro _ rfl
        rintro _ rfl
        refine op1g (s_slen str9 rfl ?_)
        exact ⟨rfl, grown_none_refl _⟩
      · intro w32 k31
        have hb32 := below_g0 hb23 k31
        rintro _ rfl
        rintro _ rfl
        rintro _ rfl
        refine op1g (s_lt rfl rfl ?_)
        exact ⟨rfl, grown_none_refl _⟩
      · intro w33 k32
        have hb33 := below_g0 hb23 k32
        rintro _ rfl
        rintro _ rfl
        refine op1 (s_pick rfl rfl ?_)
        exact ⟨rfl, grown_none_refl _⟩
      · intro w34 k33
        have hb34 := below_g0 hb23 k33
        rintro _ rfl
        refine op1 (s_move rfl ?_)
        exact ⟨(by rw [decide_eq_false h2]), grown_none_refl _⟩
      · intro w35 k34
        have hb35 := below_g0 hb23 k34
        rintro _ rfl
        refine op1p ⟨rfl, grown_none_refl _⟩
      · intro w36 k35
        have hb36 := below_g0 hb23 k35
        rintro _ rfl
        refine op1p ⟨rfl, grown_none_refl _⟩
      · intro w37 k36
        have hb37 := below_g0 hb23 k36
        rintro _ rfl
        intro v_ hv_; subst v_
        intro v_ hv_; subst v_
        refine op1p ⟨rfl, grown_none_refl _⟩
      · intro w38 k37
        have hb38 := below_g0 hb23 k37
        rintro _ rfl
        refine op1p ⟨rfl, grown_none_refl _⟩
      · intro w39 k38
        have hb39 := below_g0 hb23 k38
        rintro _ rfl
        refine op1p ⟨rfl, grown_none_refl _⟩
      · intro w40 k39
        have hb40 := below_g0 hb23 k39
        rintro _ rfl
        intro v_ hv_; subst v_
        intro v_ hv_; subst v_
        refine op1p ⟨rfl, grown_none_refl _⟩
      · intro w41 k40
        have hb41 := below_g0 hb23 k40
        rintro _ rfl
        intro v_ hv_; subst v_
        intro v_ hv_; subst v_
        refine op1p ⟨rfl, grown_none_refl _⟩
      · intro w42 k41
        have hb42 := below_g0 hb23 k41
        rintro _ rfl
        intro v_ hv_; subst v_
        refine op1 (s_pick rfl rfl ?_)
        exact ⟨rfl, grown_none_refl _⟩
      · intro w43 k42
        have hb43 := below_g0 hb23 k42
        rintro _ rfl
        rintro _ rfl
        rintro _ rfl
        rintro _ rfl
        rintro _ rfl
        rintro _ rfl
        rintro _ rfl
        rintro _ rfl
        rintro _ rfl
        rintro _ rfl
        rintro _ rfl
        intro v_ hv_; subst v_
        intro v_ hv_; subst v_
        intro v_ hv_; subst v_
        intro v_ hv_; subst v_
        intro v_ hv_; subst v_
        intro v_ hv_; subst v_
        intro v_ hv_; subst v_
        rintro _ rfl
        refine r_end ?_
        refine n_then ?_
        refine w_condF rfl ?_
        refine w_exit' ?_
        refine n_then_exit ?_
        refine n_then_exit ?_
        refine n_block_exit ?_
        refine n_then ?_
        refine w_seq ?_
        refine w_region ?_
        refine st (s_move rfl ?_)
        refine st (s_assign rfl ?_)
        refine r_end ?_
        refine n_then ?_
        refine w_ret1 rfl rfl ?_
        exact ⟨_, rfl, hb43, by rw [com_at (bl s) (bl r) i (by omega) (by omega) (by omega) ha (by first | exact .inr (.inr (by assumption)) | exact Or.elim (by omega : i = ((bl s).length : Int) ∨ i = ((bl r).length : Int)) .inl (fun h => .inr (.inl h)))]⟩
  · refine w_draw 19 (fun a b => a.grownBy b none) [(some 6, fun v _ => v = .int .i64 i), (some 7, fun v _ => v = .string s), (some 8, fun v _ => v = .int .i64 ((bl s).length : Int)), (some 9, fun v _ => v = .bool (decide (i < ((bl s).length : Int)))), (some 10, fun v _ => v = .bool false), (some 11, fun v _ => v = undef), (some 12, fun v _ => v = undef), (some 13, fun v _ => v = undef), (some 14, fun v _ => v = undef), (some 15, fun v _ => v = .bool false), (some 16, fun v _ => v = .bool false), (some 17, fun v _ => v = undef), (some 18, fun v _ => v = undef), (some 19, fun v _ => v = undef), (some 20, fun v _ => v = undef), (some 21, fun v _ => v = undef), (some 22, fun v _ => v = undef), (some 23, fun v _ => v = undef), (some 24, fun v _ => v = .bool false)] [[], [], [1], [0, 2], [3], [4], [4], [4, 6], [4, 5, 7], [4, 8], [9], [10], [10], [10, 11, 12], [10], [10], [10, 14, 15], [10, 13, 16], [10, 17]] [(0, .string s), (1, .string r), (4, .int .i64 0), (5, .int .i64 i)] (by exact ⟨rfl, rfl, rfl, rfl, trivial⟩) (by kernel_rfl) (by kernel_rfl) grown_none_refl (fun _ _ _ => grown_none_trans) ⟨fun _ _ _ h _ => h, fun _ _ _ h _ => h, fun _ _ _ h _ => h, fun _ _ _ h _ => h, fun _ _ _ h _ => h, fun _ _ _ h _ => h, fun _ _ _ h _ => h, fun _ _ _ h _ => h, fun _ _ _ h _ => h, fun _ _ _ h _ => h, fun _ _ _ h _ => h, fun _ _ _ h _ => h, fun _ _ _ h _ => h, fun _ _ _ h _ => h, fun _ _ _ h _ => h, fun _ _ _ h _ => h, fun _ _ _ h _ => h, fun _ _ _ h _ => h, fun _ _ _ h _ => h, trivial⟩ ?_
    intro w44 k43 hs3
    have hb44 := below_g0 hb1 k43
    refine ⟨⟨?_, ?_, ?_, ?_, ?_, ?_, ?_, ?_, ?_, ?_, ?_, ?_, ?_, ?_, ?_, ?_, ?_, ?_, ?_, trivial⟩, ?_⟩
    · intro w45 k44
      have hb45 := below_g0 hb44 k44
      refine op1 (s_move rfl ?_)
      exact ⟨rfl, grown_none_refl _⟩
    · intro w46 k45
      have hb46 := below_g0 hb44 k45
      refine op1 (s_move rfl ?_)
      exact ⟨rfl, grown_none_refl _⟩
    · intro w47 k46
      have hb47 := below_g0 hb44 k46
      rintro _ rfl
      refine op1 (s_slen str9 rfl ?_)
      exact ⟨rfl, grown_none_refl _⟩
    · intro w48 k47
      have hb48 := below_g0 hb44 k47
      rintro _ rfl
      rintro _ rfl
      refine op1 (s_lt rfl rfl ?_)
      exact ⟨rfl, grown_none_refl _⟩
    · intro w49 k48
      have hb49 := below_g0 hb44 k48
      rintro _ rfl
      refine op1 (s_move rfl ?_)
      exact ⟨(by rw [decide_eq_false h1]), grown_none_refl _⟩
    · intro w50 k49
      have hb50 := below_g0 hb44 k49
      rintro _ rfl
      refine op1p ⟨rfl, grown_none_refl _⟩
    · intro w51 k50
      have hb51 := below_g0 hb44 k50
      rintro _ rfl
      refine op1p ⟨rfl, grown_none_refl _⟩
    · intro w52 k51
      have hb52 := below_g0 hb44 k51
      rintro _ rfl
      intro v_ hv_; subst v_
      refine op1p ⟨rfl, grown_none_refl _⟩
    · intro w53 k52
      have hb53 := below_g0 hb44 k52
      rintro _ rfl
      intro v_ hv_; subst v_
      intro v_ hv_; subst v_
      refine op1p ⟨rfl, grown_none_refl _⟩
    · intro w54 k53
      have hb54 := below_g0 hb44 k53
      rintro _ rfl
      intro v_ hv_; subst v_
      refine op1 (s_pick rfl rfl ?_)
      exact ⟨rfl, grown_none_refl _⟩
    · intro w55 k54
      have hb55 := below_g0 hb44 k54
      rintro _ rfl
      refine op1 (s_move rfl ?_)
      exact ⟨rfl, grown_none_refl _⟩
    · intro w56 k55
      have hb56 := below_g0 hb44 k55
      rintro _ rfl
      refine op1p ⟨rfl, grown_none_refl _⟩
    · intro w57 k56
      have hb57 := below_g0 hb44 k56
      rintro _ rfl
      refine op1p ⟨rfl, grown_none_refl _⟩
    · intro w58 k57
      have hb58 := below_g0 hb44 k57
      rintro _ rfl
      intro v_ hv_; subst v_
      intro v_ hv_; subst v_
      refine op1p ⟨rfl, grown_none_refl _⟩
    · intro w59 k58
      have hb59 := below_g0 hb44 k58
      rintro _ rfl
      refine op1p ⟨rfl, grown_none_refl _⟩
    · intro w60 k59
      have hb60 := below_g0 hb44 k59
      rintro _ rfl
      refine op1p ⟨rfl, grown_none_refl _⟩
    · intro w61 k60
      have hb61 := below_g0 hb44 k60
      rintro _ rfl
      intro v_ hv_; subst v_
      intro v_ hv_; subst v_
      refine op1p ⟨rfl, grown_none_refl _⟩
    · intro w62 k61
      have hb62 := below_g0 hb44 k61
      rintro _ rfl
      intro v_ hv_; subst v_
      intro v_ hv_; subst v_
      refine op1p ⟨rfl, grown_none_refl _⟩
    · intro w63 k62
      have hb63 := below_g0 hb44 k62
      rintro _ rfl
      intro v_ hv_; subst v_
      refine op1 (s_pick rfl rfl ?_)
      exact ⟨rfl, grown_none_refl _⟩
    · intro w64 k63
      have hb64 := below_g0 hb44 k63
      rintro _ rfl
      rintro _ rfl
      rintro _ rfl
      rintro _ rfl
      rintro _ rfl
      intro v_ hv_; subst v_
      intro v_ hv_; subst v_
      intro v_ hv_; subst v_
      intro v_ hv_; subst v_
      rintro _ rfl
      rintro _ rfl
      intro v_ hv_; subst v_
      intro v_ hv_; subst v_
      intro v_ hv_; subst v_
      intro v_ hv_; subst v_
      intro v_ hv_; subst v_
      intro v_ hv_; subst v_
      intro v_ hv_; subst v_
      rintro _ rfl
      refine r_end ?_
      refine n_then ?_
      refine w_condF rfl ?_
      refine w_exit' ?_
      refine n_then_exit ?_
      refine n_then_exit ?_
      refine n_block_exit ?_
      refine n_then ?_
      refine w_seq ?_
      refine w_region ?_
      refine st (s_move rfl ?_)
      refine st (s_assign rfl ?_)
      refine r_end ?_
      refine n_then ?_
      refine w_ret1 rfl rfl ?_
      exact ⟨_, rfl, hb64, by rw [com_at (bl s) (bl r) i (by omega) (by omega) (by omega) ha (by first | exact .inr (.inr (by assumption)) | exact Or.elim (by omega : i = ((bl s).length : Int) ∨ i = ((bl r).length : Int)) .inl (fun h => .inr (.inl h)))]⟩
end Go.Proofs.Ytencmmhfiepojaa
