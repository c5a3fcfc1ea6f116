/- Part of the proof that is named in YtencmmhfiepojaaXRowJoins: a library for walks, or a function's walk. -/
import Derived.Test.YtencmmhfiepojaaXB
set_option maxRecDepth 20000
set_option linter.unusedSimpArgs false
set_option linter.unusedVariables false
namespace Go.Proofs.Ytencmmhfiepojaa
open Go.RowKit Go.Gw
theorem alive4_any {w : World} :
    Calls Try.prog 13 [].toArray w (Pure w fun v _ => v = .bool true) := by
  have hb0 := Below.refl w.heap.size w
  refine enter Try.func13 rfl rfl ?_
  refine w_seq ?_
  refine w_region ?_
  refine st (s_assign rfl ?_)
  refine r_end ?_
  refine n_then ?_
  refine w_seq ?_
  refine w_region ?_
  refine st (s_call fn14 rfl (place_any (by first | omega | (simp; omega) | decide)) ?_)
  rintro v1 w1 ⟨hq1, hv1⟩
  rw [show plL (bl (ByteArray.mk #[97, 10, 98])) 2 = 2 from by kernel_rfl, show plC (bl (ByteArray.mk #[97, 10, 98])) 2 = 1 from by kernel_rfl] at hv1
  subst hv1
  have k1 := grown_of_below hq1 none
  have hz1 := hq1.size
  have hb1 := below_g0 hb0 k1
  have hz2 := hb1.size
  refine st (s_move rfl ?_)
  refine st (s_extract rfl rfl ?_)
  refine st (s_extract rfl rfl ?_)
  refine st (s_assign rfl ?_)
  refine st (s_assign rfl ?_)
  refine r_end ?_
  refine n_then ?_
  refine w_seq ?_
  refine w_region ?_
  refine st (s_call fn14 rfl (place_any (by first | omega | (simp; omega) | decide)) ?_)
  rintro v2 w2 ⟨hq2, hv2⟩
  rw [show plL (bl (ByteArray.mk #[97, 10, 98])) 4 = 0 from by kernel_rfl, show plC (bl (ByteArray.mk #[97, 10, 98])) 4 = 0 from by kernel_rfl] at hv2
  subst hv2
  have k2 := grown_of_below hq2 none
  have hz3 := hq2.size
  have hb2 := below_g0 hb1 k2
  have hz4 := hb2.size
  refine st (s_move rfl ?_)
  refine st (s_extract rfl rfl ?_)
  refine st (s_extract rfl rfl ?_)
  refine st (s_assign rfl ?_)
  refine st (s_assign rfl ?_)
  refine r_end ?_
  refine n_then ?_
  refine w_seq ?_
  refine w_region ?_
  refine st (s_move rfl ?_)
  refine st (s_eq rfl rfl ?_)
  rw [show decide ((2 : Int) = 2) = true from rfl]
  refine st (s_move rfl ?_)
  refine stg (s_move rfl ?_)
  refine stg (s_eq rfl rfl ?_)
  rw [show decide ((1 : Int) = 1) = true from rfl]
  refine st (s_pick rfl rfl ?_)
  refine st (s_move rfl ?_)
  refine stg (s_move rfl ?_)
  refine stg (s_eq rfl rfl ?_)
  rw [show decide ((0 : Int) = 0) = true from rfl]
  refine st (s_pick rfl rfl ?_)
  refine st (s_move rfl ?_)
  refine stg (s_move rfl ?_)
  refine stg (s_eq rfl rfl ?_)
  rw [show decide ((0 : Int) = 0) = true from rfl]
  refine st (s_pick rfl rfl ?_)
  refine st (s_move rfl ?_)
  refine stg (s_call fn16 rfl (rule_any) ?_)
  rintro v3 w3 ⟨hq3, hv3⟩
  rw [show ruleB (bl (ByteArray.mk #[66, 51, 47, 83, 50, 51])) = true from by kernel_rfl] at hv3
  subst hv3
  have k3 := grown_of_below hq3 none
  have hz5 := hq3.size
  have hb3 := below_g0 hb2 k3
  have hz6 := hb3.size
  refine st (s_pick rfl rfl ?_)
  refine st (s_move rfl ?_)
  refine stg (s_call fn16 rfl (rule_any) ?_)
  rintro v4 w4 ⟨hq4, hv4⟩
  rw [show ruleB (bl (ByteArray.mk #[])) = false from by kernel_rfl] at hv4
  subst hv4
  have k4 := grown_of_below hq4 none
  have hz7 := hq4.size
  have hb4 := below_g0 hb3 k4
  have hz8 := hb4.size
  refine stg (s_not rfl ?_)
  refine st (s_pick rfl rfl ?_)
  refine st (s_move rfl ?_)
  refine stg (s_call fn16 rfl (rule_any) ?_)
  rintro v5 w5 ⟨hq5, hv5⟩
  rw [show ruleB (bl (ByteArray.mk #[97, 32, 98])) = false from by kernel_rfl] at hv5
  subst hv5
  have k5 := grown_of_below hq5 none
  have hz9 := hq5.size
  have hb5 := below_g0 hb4 k5
  have hz10 := hb5.size
  refine stg (s_not rfl ?_)
  refine st (s_pick rfl rfl ?_)
  refine st (s_move rfl ?_)
  refine stg (s_call fn18 rfl (com_any (by first | omega | (simp; omega) | decide) (by first | omega | (simp; omega) | decide)) ?_)
  rintro v6 w6 ⟨hq6, hv6⟩
  rw [show comL (bl (ByteArray.mk #[97, 98, 99])) (bl (ByteArray.mk #[97, 98, 100])) = 2 from by kernel_rfl] at hv6
  subst hv6
  have k6 := grown_of_below hq6 none
  have hz11 := hq6.size
  have hb6 := below_g0 hb5 k6
  have hz12 := hb6.size
  refine stg (s_eq rfl rfl ?_)
  rw [show decide ((2 : Int) = 2) = true from rfl]
  refine st (s_pick rfl rfl ?_)
  refine st (s_move rfl ?_)
  refine stg (s_call fn20 rfl (sign_any) ?_)
  rintro v7 w7 ⟨hq7, hv7⟩
  rw [show signB 126 = true from by kernel_rfl] at hv7
  subst hv7
  have k7 := grown_of_below hq7 none
  have hz13 := hq7.size
  have hb7 := below_g0 hb6 k7
  have hz14 := hb7.size
  refine st (s_pick rfl rfl ?_)
  refine st (s_move rfl ?_)
  refine stg (s_call fn20 rfl (sign_any) ?_)
  rintro v8 w8 ⟨hq8, hv8⟩
  rw [show signB 127 = false from by kernel_rfl] at hv8
  subst hv8
  have k8 := grown_of_below hq8 none
  have hz15 := hq8.size
  have hb8 := below_g0 hb7 k8
  have hz16 := hb8.size
  refine stg (s_not rfl ?_)
  refine st (s_pick rfl rfl ?_)
  refine st (s_assign rfl ?_)
  refine r_end ?_
  refine n_then ?_
  refine w_ret1 rfl rfl ?_
  exact ⟨_, rfl, hb8, rfl⟩

theorem tells4_any {w : World} {s r : ByteArray} {p : Int} :
    Calls Try.prog 3 [.string s, .string r, .int .i64 p].toArray w (Pure w fun v _ => v = .bool true) := by
  have hb0 := Below.refl w.heap.size w
  refine enter Try.func3 rfl rfl ?_
  refine w_seq ?_
  refine w_region ?_
  refine st (s_assign rfl ?_)
  refine r_end ?_
  refine n_then ?_
  refine w_seq ?_
  refine w_seq ?_
  refine w_region ?_
  refine st (s_call fn13 rfl (alive4_any) ?_)
  rintro _ w1 ⟨hq1, rfl⟩
  have k1 := grown_of_below hq1 none
  have hz1 := hq1.size
  have hb1 := below_g0 hb0 k1
  have hz2 := hb1.size
  refine st (s_not rfl ?_)
  refine r_end ?_
  refine n_then ?_
  refine w_condF rfl ?_
  refine w_skip' ?_
  refine n_then ?_
  refine w_seq ?_
  refine w_seq ?_
  refine w_region ?_
  refine st (s_move rfl ?_)
  refine st (s_slen str9 rfl ?_)
  refine st (s_gt rfl rfl ?_)
  refine st (s_move rfl ?_)
  refine r_caseP 16 rfl (fun h1 => ?_) (fun h1 => ?_)
  · refine s_pass rfl rfl ?_
    refine s_pass rfl rfl ?_
    refine s_pass rfl rfl ?_
    refine st (s_pick rfl rfl ?_)
    refine r_end ?_
    refine n_then ?_
    refine w_condT rfl ?_
    refine w_seq ?_
    refine w_region ?_
    refine st (s_assign rfl ?_)
    refine r_end ?_
    refine n_then ?_
    refine w_ret1 rfl rfl ?_
    exact ⟨_, rfl, hb1, rfl⟩
  · refine stg (s_move rfl ?_)
    refine stg (s_slen str9 rfl ?_)
    refine stg (s_gt rfl rfl ?_)
    refine st (s_pick rfl rfl ?_)
    refine r_end ?_
    refine n_then ?_
    refine w_condP rfl (fun h2 => ?_) (fun h2 => ?_)
    · refine w_seq ?_
      refine w_region ?_
      refine st (s_assign rfl ?_)
      refine r_end ?_
      refine n_then ?_
      refine w_ret1 rfl rfl ?_
      exact ⟨_, rfl, hb1, rfl⟩
    · refine w_skip' ?_
      refine n_then ?_
      refine w_seq ?_
      refine w_region ?_
      refine st (s_move rfl ?_)
      refine st (s_move rfl ?_)
      refine st (s_call fn14 rfl (place_any (by first | omega | (simp; omega) | decide)) ?_)
      rintro _ w2 ⟨hq2, rfl⟩
      have k2 := grown_of_below hq2 none
      have hz3 := hq2.size
      have hb2 := below_g0 hb1 k2
      have hz4 := hb2.size
      refine st (s_move rfl ?_)
      refine st (s_extract rfl rfl ?_)
      refine st (s_extract rfl rfl ?_)
      refine st (s_assign rfl ?_)
      refine st (s_assign rfl ?_)
      refine r_end ?_
      refine n_then ?_
      refine w_seq ?_
      refine w_region ?_
      refine st (s_move rfl ?_)
      refine st (s_move rfl ?_)
      refine st (s_call fn15 rfl (rplace_any (by omega)) ?_)
      rintro _ w3 ⟨hq3, rfl⟩
      have k3 := grown_of_below hq3 none
      have hz5 := hq3.size
      have hb3 := below_g0 hb2 k3
      have hz6 := hb3.size
      refine st (s_move rfl ?_)
      refine st (s_extract rfl rfl ?_)
      refine st (s_extract rfl rfl ?_)
      refine st (s_assign rfl ?_)
      refine st (s_assign rfl ?_)
      refine r_end ?_
      refine n_then ?_
      refine w_seq ?_
      by_cases h3 : plL (bl s) p = plL (bl s) p
      · by_cases h4 : plC (bl s) p = plC (bl s) p
        · rcases Bool.eq_false_or_eq_true ((BEq.beq (α := Bool) (ruleB (bl s)) (ruleB (bl s)))) with h5 | h5
          · by_cases h6 : comL (bl s) (bl r) = comL (bl s) (bl r)
            · by_cases h7 : ((bl s).length : Int) = 0
              · refine w_draw 38 (fun a b => a.grownBy b none) [(some 33, fun v _ => v = .int .i64 (plL (bl s) p)), (some 34, fun v _ => v = .int .i64 (plL (bl s) p)), (some 35, fun v _ => v = .bool (decide (plL (bl s) p = plL (bl s) p))), (some 36, fun v _ => v = .bool true), (some 37, fun v _ => v = .int .i64 (plC (bl s) p)), (some 38, fun v _ => v = .int .i64 (plC (bl s) p)), (some 39, fun v _ => v = .bool (decide (plC (bl s) p = plC (bl s) p))), (some 40, fun v _ => v = .bool (decide (plC (bl s) p = plC (bl s) p))), (some 41, fun v _ => v = .bool true), (some 42, fun v _ => v = .string s), (some 43, fun v _ => v = .bool (ruleB (bl s))), (some 44, fun v _ => v = .string s), (some 45, fun v _ => v = .bool (ruleB (bl s))), (some 46, fun v _ => v = .bool (BEq.beq (α := Bool) (ruleB (bl s)) (ruleB (bl s)))), (some 47, fun v _ => v = .bool (BEq.beq (α := Bool) (ruleB (bl s)) (ruleB (bl s)))), (some 48, fun v _ => v = .bool true), (some 49, fun v _ => v = .string s), (some 50, fun v _ => v = .string r), (some 51, fun v _ => v = .int .i64 (comL (bl s) (bl r))), (some 52, fun v _ => v = .string s), (some 53, fun v _ => v = .string r), (some 54, fun v _ => v = .int .i64 (comL (bl s) (bl r))), (some 55, fun v _ => v = .bool (decide (comL (bl s) (bl r) = comL (bl s) (bl r)))), (some 56, fun v _ => v = .bool (decide (comL (bl s) (bl r) = comL (bl s) (bl r)))), (some 57, fun v _ => v = .bool true), (some 58, fun v _ => v = .string s), (some 59, fun v _ => v = .int .i64 ((bl s).length : Int)), (some 60, fun v _ => v = .bool (decide (((bl s).length : Int) = 0))), (some 61, fun v _ => v = .bool true), (some 62, fun v _ => v = undef), (some 63, fun v _ => v = undef), (some 64, fun v _ => v = undef), (some 65, fun v _ => v = undef), (some 66, fun v _ => v = undef), (some 67, fun v _ => v = undef), (some 68, fun v _ => v = undef), (some 69, fun v _ => v = .bool true), (some 70, fun v _ => v = .bool true)] [[], [], [0, 1], [2], [3], [3], [3, 4, 5], [3, 6], [7], [8], [8, 9], [8], [8, 11], [8, 10, 12], [8, 13], [14], [15], [15], [15, 16, 17], [15], [15], [15, 19, 20], [15, 18, 21], [15, 22], [23], [24], [24, 25], [24, 26], [24, 27], [28], [28, 29], [28, 30], [28], [28, 32], [28, 33], [28, 31, 34], [24, 28, 35], [24, 36]] [(0, .string s), (1, .string r), (6, .bool false), (7, .int .i64 (plL (bl s) p)), (8, .int .i64 (plC (bl s) p)), (9, .int .i64 (plL (bl s) p)), (10, .int .i64 (plC (bl s) p))] (by exact ⟨rfl, rfl, rfl, rfl, rfl, rfl, rfl, trivial⟩) (by kernel_rfl) (by kernel_rfl) grown_none_refl (fun _ _ _ => grown_none_trans) ⟨fun _ _ _ h _ => by exact h, fun _ _ _ h _ => by exact h, fun _ _ _ h _ => by exact h, fun _ _ _ h _ => by exact h, fun _ _ _ h _ => by exact h, fun _ _ _ h _ => by exact h, fun _ _ _ h _ => by exact h, fun _ _ _ h _ => by exact h, fun _ _ _ h _ => by exact h, fun _ _ _ h _ => by exact h, fun _ _ _ h _ => by exact h, fun _ _ _ h _ => by exact h, fun _ _ _ h _ => by exact h, fun _ _ _ h _ => by exact h, fun _ _ _ h _ => by exact h, fun _ _ _ h _ => by exact h, fun _ _ _ h _ => by exact h, fun _ _ _ h _ => by exact h, fun _ _ _ h _ => by exact h, fun _ _ _ h _ => by exact h, fun _ _ _ h _ => by exact h, fun _ _ _ h _ => by exact h, fun _ _ _ h _ => by exact h, fun _ _ _ h _ => by exact h, fun _ _ _ h _ => by exact h, fun _ _ _ h _ => by exact h, fun _ _ _ h _ => by exact h, fun _ _ _ h _ => by exact h, fun _ _ _ h _ => by exact h, fun _ _ _ h _ => by exact h, fun _ _ _ h _ => by exact h, fun _ _ _ h _ => by exact h, fun _ _ _ h _ => by exact h, fun _ _ _ h _ => by exact h, fun _ _ _ h _ => by exact h, fun _ _ _ h _ => by exact h, fun _ _ _ h _ => by exact h, fun _ _ _ h _ => by exact h, trivial⟩ ?_
                intro w8 k8 hs1
                have hb4 := below_g0 hb3 k8
                refine ⟨⟨?_, ?_, ?_, ?_, ?_, ?_, ?_, ?_, ?_, ?_, ?_, ?_, ?_, ?_, ?_, ?_, ?_, ?_, ?_, ?_, ?_, ?_, ?_, ?_, ?_, ?_, ?_, ?_, ?_, ?_, ?_, ?_, ?_, ?_, ?_, ?_, ?_, ?_, trivial⟩, ?_⟩
                · intro w9 k9
                  have hb5 := below_g0 hb4 k9
                  refine op1 (s_move rfl ?_)
                  exact ⟨rfl, grown_none_refl _⟩
                · intro w10 k10
                  have hb6 := below_g0 hb4 k10
                  refine op1 (s_move rfl ?_)
                  exact ⟨rfl, grown_none_refl _⟩
                · intro w11 k11
                  have hb7 := below_g0 hb4 k11
                  rintro _ rfl
                  rintro _ rfl
                  refine op1 (s_eq rfl rfl ?_)
                  exact ⟨rfl, grown_none_refl _⟩
                · intro w12 k12
                  have hb8 := below_g0 hb4 k12
                  rintro _ rfl
                  refine op1 (s_move rfl ?_)
                  exact ⟨(by rw [decide_eq_true h3]), grown_none_refl _⟩
                · intro w13 k13
                  have hb9 := below_g0 hb4 k13
                  rintro _ rfl
                  refine op1g (s_move rfl ?_)
                  exact ⟨rfl, grown_none_refl _⟩
                · intro w14 k14
                  have hb10 := below_g0 hb4 k14
                  rintro _ rfl
                  refine op1g (s_move rfl ?_)
                  exact ⟨rfl, grown_none_refl _⟩
                · intro w15 k15
                  have hb11 := below_g0 hb4 k15
                  rintro _ rfl
                  rintro _ rfl
                  rintro _ rfl
                  refine op1g (s_eq rfl rfl ?_)
                  exact ⟨rfl, grown_none_refl _⟩
                · intro w16 k16
                  have hb12 := below_g0 hb4 k16
                  rintro _ rfl
                  rintro _ rfl
                  refine op1 (s_pick rfl rfl ?_)
                  exact ⟨rfl, grown_none_refl _⟩
                · intro w17 k17
                  have hb13 := below_g0 hb4 k17
                  rintro _ rfl
                  refine op1 (s_move rfl ?_)
                  exact ⟨(by rw [decide_eq_true h4]), grown_none_refl _⟩
                · intro w18 k18
                  have hb14 := below_g0 hb4 k18
                  rintro _ rfl
                  refine op1g (s_move rfl ?_)
                  exact ⟨rfl, grown_none_refl _⟩
                · intro w19 k19
                  have hb15 := below_g0 hb4 k19
                  rintro _ rfl
                  rintro _ rfl
                  refine op1g (s_call fn16 rfl (rule_any) ?_)
                  rintro _ w20 ⟨hq8, rfl⟩
                  have k20 := grown_of_below hq8 none
                  have hz7 := hq8.size
                  have hb16 := below_g0 hb15 k20
                  have hz8 := hb16.size
                  exact ⟨rfl, k20⟩
                · intro w21 k21
                  have hb17 := below_g0 hb4 k21
                  rintro _ rfl
                  refine op1g (s_move rfl ?_)
                  exact ⟨rfl, grown_none_refl _⟩
                · intro w22 k22
                  have hb18 := below_g0 hb4 k22
                  rintro _ rfl
                  rintro _ rfl
                  refine op1g (s_call fn17 rfl (rrule_any (by first | omega | (simp; omega) | decide)) ?_)
                  rintro _ w23 ⟨hq9, rfl⟩
                  have k23 := grown_of_below hq9 none
                  have hz9 := hq9.size
                  have hb19 := below_g0 hb18 k23
                  have hz10 := hb19.size
                  exact ⟨rfl, k23⟩
                · intro w24 k24
                  have hb20 := below_g0 hb4 k24
                  rintro _ rfl
                  rintro _ rfl
                  rintro _ rfl
                  refine op1g (s_eqbool bool4 rfl rfl ?_)
                  exact ⟨rfl, grown_none_refl _⟩
                · intro w25 k25
                  have hb21 := below_g0 hb4 k25
                  rintro _ rfl
                  rintro _ rfl
                  refine op1 (s_pick rfl rfl ?_)
                  exact ⟨rfl, grown_none_refl _⟩
                · intro w26 k26
                  have hb22 := below_g0 hb4 k26
                  rintro _ rfl
                  refine op1 (s_move rfl ?_)
                  exact ⟨(by rw [h5]), grown_none_refl _⟩
                · intro w27 k27
                  have hb23 := below_g0 hb4 k27
                  rintro _ rfl
                  refine op1g (s_move rfl ?_)
                  exact ⟨rfl, grown_none_refl _⟩
                · intro w28 k28
                  have hb24 := below_g0 hb4 k28
                  rintro _ rfl
                  refine op1g (s_move rfl ?_)
                  exact ⟨rfl, grown_none_refl _⟩
                · intro w29 k29
                  have hb25 := below_g0 hb4 k29
                  rintro _ rfl
                  rintro _ rfl
                  rintro _ rfl
                  refine op1g (s_call fn18 rfl (com_any (by first | omega | (simp; omega) | decide) (by first | omega | (simp; omega) | decide)) ?_)
                  rintro _ w30 ⟨hq10, rfl⟩
                  have k30 := grown_of_below hq10 none
                  have hz11 := hq10.size
                  have hb26 := below_g0 hb25 k30
                  have hz12 := hb26.size
                  exact ⟨rfl, k30⟩
                · intro w31 k31
                  have hb27 := below_g0 hb4 k31
                  rintro _ rfl
                  refine op1g (s_move rfl ?_)
                  exact ⟨rfl, grown_none_refl _⟩
                · intro w32 k32
                  have hb28 := below_g0 hb4 k32
                  rintro _ rfl
                  refine op1g (s_move rfl ?_)
                  exact ⟨rfl, grown_none_refl _⟩
                · intro w33 k33
                  have hb29 := below_g0 hb4 k33
                  rintro _ rfl
                  rintro _ rfl
                  rintro _ rfl
                  refine op1g (s_call fn19 rfl (rcom_any (by first | omega | (simp; omega) | decide) (by first | omega | (simp; omega) | decide)) ?_)
                  rintro _ w34 ⟨hq11, rfl⟩
                  have k34 := grown_of_below hq11 none
                  have hz13 := hq11.size
                  have hb30 := below_g0 hb29 k34
                  have hz14 := hb30.size
                  exact ⟨rfl, k34⟩
                · intro w35 k35
                  have hb31 := below_g0 hb4 k35
                  rintro _ rfl
                  rintro _ rfl
                  rintro _ rfl
                  refine op1g (s_eq rfl rfl ?_)
                  exact ⟨rfl, grown_none_refl _⟩
                · intro w36 k36
                  have hb32 := below_g0 hb4 k36
                  rintro _ rfl
                  rintro _ rfl
                  refine op1 (s_pick rfl rfl ?_)
                  exact ⟨rfl, grown_none_refl _⟩
                · intro w37 k37
                  have hb33 := below_g0 hb4 k37
                  rintro _ rfl
                  refine op1 (s_move rfl ?_)
                  exact ⟨(by rw [decide_eq_true h6]), grown_none_refl _⟩
                · intro w38 k38
                  have hb34 := below_g0 hb4 k38
                  rintro _ rfl
                  refine op1g (s_move rfl ?_)
                  exact ⟨rfl, grown_none_refl _⟩
                · intro w39 k39
                  have hb35 := below_g0 hb4 k39
                  rintro _ rfl
                  rintro _ rfl
                  refine op1g (s_slen str9 rfl ?_)
                  exact ⟨rfl, grown_none_refl _⟩
                · intro w40 k40
                  have hb36 := below_g0 hb4 k40
                  rintro _ rfl
                  rintro _ rfl
                  refine op1g (s_eq rfl rfl ?_)
                  exact ⟨rfl, grown_none_refl _⟩
                · intro w41 k41
                  have hb37 := below_g0 hb4 k41
                  rintro _ rfl
                  rintro _ rfl
                  refine op1g (s_move rfl ?_)
                  exact ⟨(by rw [decide_eq_true h7]), grown_none_refl _⟩
                · intro w42 k42
                  have hb38 := below_g0 hb4 k42
                  rintro _ rfl
                  refine op1p ⟨rfl, grown_none_refl _⟩
                · intro w43 k43
                  have hb39 := below_g0 hb4 k43
                  rintro _ rfl
                  intro v_ hv_; subst v_
                  refine op1p ⟨rfl, grown_none_refl _⟩
                · intro w44 k44
                  have hb40 := below_g0 hb4 k44
                  rintro _ rfl
                  intro v_ hv_; subst v_
                  refine op1p ⟨rfl, grown_none_refl _⟩
                · intro w45 k45
                  have hb41 := below_g0 hb4 k45
                  rintro _ rfl
                  refine op1p ⟨rfl, grown_none_refl _⟩
                · intro w46 k46
                  have hb42 := below_g0 hb4 k46
                  rintro _ rfl
                  intro v_ hv_; subst v_
                  refine op1p ⟨rfl, grown_none_refl _⟩
                · intro w47 k47
                  have hb43 := below_g0 hb4 k47
                  rintro _ rfl
                  intro v_ hv_; subst v_
                  refine op1p ⟨rfl, grown_none_refl _⟩
                · intro w48 k48
                  have hb44 := below_g0 hb4 k48
                  rintro _ rfl
                  intro v_ hv_; subst v_
                  intro v_ hv_; subst v_
                  refine op1p ⟨rfl, grown_none_refl _⟩
                · intro w49 k49
                  have hb45 := below_g0 hb4 k49
                  rintro _ rfl
                  rintro _ rfl
                  intro v_ hv_; subst v_
                  refine op1g (s_pick rfl rfl ?_)
                  exact ⟨rfl, grown_none_refl _⟩
                · intro w50 k50
                  have hb46 := below_g0 hb4 k50
                  rintro _ rfl
                  rintro _ rfl
                  refine op1 (s_pick rfl rfl ?_)
                  exact ⟨rfl, grown_none_refl _⟩
                · intro w51 k51
                  have hb47 := below_g0 hb4 k51
                  rintro _ rfl
                  rintro _ rfl
                  rintro _ rfl
                  rintro _ rfl
                  rintro _ rfl
                  rintro _ rfl
                  rintro _ rfl
                  rintro _ rfl
                  rintro _ rfl
                  rintro _ rfl
                  rintro _ rfl
                  rintro _ rfl
                  rintro _ rfl
                  rintro _ rfl
                  rintro _ rfl
                  rintro _ rfl
                  rintro _ rfl
                  rintro _ rfl
                  rintro _ rfl
                  rintro _ rfl
                  rintro _ rfl
                  rintro _ rfl
                  rintro _ rfl
                  rintro _ rfl
                  rintro _ rfl
                  rintro _ rfl
                  rintro _ rfl
                  rintro _ rfl
                  rintro _ rfl
                  intro v_ hv_; subst v_
                  intro v_ hv_; subst v_
                  intro v_ hv_; subst v_
                  intro v_ hv_; subst v_
                  intro v_ hv_; subst v_
                  intro v_ hv_; subst v_
                  intro v_ hv_; subst v_
                  rintro _ rfl
                  rintro _ rfl
                  refine st (s_assign rfl ?_)
                  refine r_end ?_
                  refine n_then ?_
                  refine w_ret1 rfl rfl ?_
                  exact ⟨_, rfl, hb47, rfl⟩
              · refine w_draw 38 (fun a b => a.grownBy b none) [(some 33, fun v _ => v = .int .i64 (plL (bl s) p)), (some 34, fun v _ => v = .int .i64 (plL (bl s) p)), (some 35, fun v _ => v = .bool (decide (plL (bl s) p = plL (bl s) p))), (some 36, fun v _ => v = .bool true), (some 37, fun v _ => v = .int .i64 (plC (bl s) p)), (some 38, fun v _ => v = .int .i64 (plC (bl s) p)), (some 39, fun v _ => v = .bool (decide (plC (bl s) p = plC (bl s) p))), (some 40, fun v _ => v = .bool (decide (plC (bl s) p = plC (bl s) p))), (some 41, fun v _ => v = .bool true), (some 42, fun v _ => v = .string s), (some 43, fun v _ => v = .bool (ruleB (bl s))), (some 44, fun v _ => v = .string s), (some 45, fun v _ => v = .bool (ruleB (bl s))), (some 46, fun v _ => v = .bool (BEq.beq (α := Bool) (ruleB (bl s)) (ruleB (bl s)))), (some 47, fun v _ => v = .bool (BEq.beq (α := Bool) (ruleB (bl s)) (ruleB (bl s)))), (some 48, fun v _ => v = .bool true), (some 49, fun v _ => v = .string s), (some 50, fun v _ => v = .string r), (some 51, fun v _ => v = .int .i64 (comL (bl s) (bl r))), (some 52, fun v _ => v = .string s), (some 53, fun v _ => v = .string r), (some 54, fun v _ => v = .int .i64 (comL (bl s) (bl r))), (some 55, fun v _ => v = .bool (decide (comL (bl s) (bl r) = comL (bl s) (bl r)))), (some 56, fun v _ => v = .bool (decide (comL (bl s) (bl r) = comL (bl s) (bl r)))), (some 57, fun v _ => v = .bool true), (some 58, fun v _ => v = .string s), (some 59, fun v _ => v = .int .i64 ((bl s).length : Int)), (some 60, fun v _ => v = .bool (decide (((bl s).length : Int) = 0))), (some 61, fun v _ => v = .bool false), (some 62, fun v _ => v = .string s), (some 63, fun v _ => v = .int .u8 (ix (bl s) 0)), (some 64, fun v _ => v = .bool (signB (ix (bl s) 0))), (some 65, fun v _ => v = .string s), (some 66, fun v _ => v = .int .u8 (ix (bl s) 0)), (some 67, fun v _ => v = .bool (signB (ix (bl s) 0))), (some 68, fun v _ => v = .bool (BEq.beq (α := Bool) (signB (ix (bl s) 0)) (signB (ix (bl s) 0)))), (some 69, fun v _ => v = .bool (BEq.beq (α := Bool) (signB (ix (bl s) 0)) (signB (ix (bl s) 0)))), (some 70, fun v _ => v = .bool (BEq.beq (α := Bool) (signB (ix (bl s) 0)) (signB (ix (bl s) 0))))] [[], [], [0, 1], [2], [3], [3], [3, 4, 5], [3, 6], [7], [8], [8, 9], [8], [8, 11], [8, 10, 12], [8, 13], [14], [15], [15], [15, 16, 17], [15], [15], [15, 19, 20], [15, 18, 21], [15, 22], [23], [24], [24, 25], [24, 26], [24, 27], [28], [28, 29], [28, 30], [28], [28, 32], [28, 33], [28, 31, 34], [24, 28, 35], [24, 36]] [(0, .string s), (1, .string r), (6, .bool false), (7, .int .i64 (plL (bl s) p)), (8, .int .i64 (plC (bl s) p)), (9, .int .i64 (plL (bl s) p)), (10, .int .i64 (plC (bl s) p))] (by exact ⟨rfl, rfl, rfl, rfl, rfl, rfl, rfl, trivial⟩) (by kernel_rfl) (by kernel_rfl) grown_none_refl (fun _ _ _ => grown_none_trans) ⟨fun _ _ _ h _ => by exact h, fun _ _ _ h _ => by exact h, fun _ _ _ h _ => by exact h, fun _ _ _ h _ => by exact h, fun _ _ _ h _ => by exact h, fun _ _ _ h _ => by exact h, fun _ _ _ h _ => by exact h, fun _ _ _ h _ => by exact h, fun _ _ _ h _ => by exact h, fun _ _ _ h _ => by exact h, fun _ _ _ h _ => by exact h, fun _ _ _ h _ => by exact h, fun _ _ _ h _ => by exact h, fun _ _ _ h _ => by exact h, fun _ _ _ h _ => by exact h, fun _ _ _ h _ => by exact h, fun _ _ _ h _ => by exact h, fun _ _ _ h _ => by exact h, fun _ _ _ h _ => by exact h, fun _ _ _ h _ => by exact h, fun _ _ _ h _ => by exact h, fun _ _ _ h _ => by exact h, fun _ _ _ h _ => by exact h, fun _ _ _ h _ => by exact h, fun _ _ _ h _ => by exact h, fun _ _ _ h _ => by exact h, fun _ _ _ h _ => by exact h, fun _ _ _ h _ => by exact h, fun _ _ _ h _ => by exact h, fun _ _ _ h _ => by exact h, fun _ _ _ h _ => by exact h, fun _ _ _ h _ => by exact h, fun _ _ _ h _ => by exact h, fun _ _ _ h _ => by exact h, fun _ _ _ h _ => by exact h, fun _ _ _ h _ => by exact h, fun _ _ _ h _ => by exact h, fun _ _ _ h _ => by exact h, trivial⟩ ?_
                intro w58 k58 hs2
                have hb48 := below_g0 hb3 k58
                refine ⟨⟨?_, ?_, ?_, ?_, ?_, ?_, ?_, ?_, ?_, ?_, ?_, ?_, ?_, ?_, ?_, ?_, ?_, ?_, ?_, ?_, ?_, ?_, ?_, ?_, ?_, ?_, ?_, ?_, ?_, ?_, ?_, ?_, ?_, ?_, ?_, ?_, ?_, ?_, trivial⟩, ?_⟩
                · intro w59 k59
                  have hb49 := below_g0 hb48 k59
                  refine op1 (s_move rfl ?_)
                  exact ⟨rfl, grown_none_refl _⟩
                · intro w60 k60
                  have hb50 := below_g0 hb48 k60
                  refine op1 (s_move rfl ?_)
                  exact ⟨rfl, grown_none_refl _⟩
                · intro w61 k61
                  have hb51 := below_g0 hb48 k61
                  rintro _ rfl
                  rintro _ rfl
                  refine op1 (s_eq rfl rfl ?_)
                  exact ⟨rfl, grown_none_refl _⟩
                · intro w62 k62
                  have hb52 := below_g0 hb48 k62
                  rintro _ rfl
                  refine op1 (s_move rfl ?_)
                  exact ⟨(by rw [decide_eq_true h3]), grown_none_refl _⟩
                · intro w63 k63
                  have hb53 := below_g0 hb48 k63
                  rintro _ rfl
                  refine op1g (s_move rfl ?_)
                  exact ⟨rfl, grown_none_refl _⟩
                · intro w64 k64
                  have hb54 := below_g0 hb48 k64
                  rintro _ rfl
                  refine op1g (s_move rfl ?_)
                  exact ⟨rfl, grown_none_refl _⟩
                · intro w65 k65
                  have hb55 := below_g0 hb48 k65
                  rintro _ rfl
                  rintro _ rfl
                  rintro _ rfl
                  refine op1g (s_eq rfl rfl ?_)
                  exact ⟨rfl, grown_none_refl _⟩
                · intro w66 k66
                  have hb56 := below_g0 hb48 k66
                  rintro _ rfl
                  rintro _ rfl
                  refine op1 (s_pick rfl rfl ?_)
                  exact ⟨rfl, grown_none_refl _⟩
                · intro w67 k67
                  have hb57 := below_g0 hb48 k67
                  rintro _ rfl
                  refine op1 (s_move rfl ?_)
                  exact ⟨(by rw [decide_eq_true h4]), grown_none_refl _⟩
                · intro w68 k68
                  have hb58 := below_g0 hb48 k68
                  rintro _ rfl
                  refine op1g (s_move rfl ?_)
                  exact ⟨rfl, grown_none_refl _⟩
                · intro w69 k69
                  have hb59 := below_g0 hb48 k69
                  rintro _ rfl
                  rintro _ rfl
                  refine op1g (s_call fn16 rfl (rule_any) ?_)
                  rintro _ w70 ⟨hq18, rfl⟩
                  have k70 := grown_of_below hq18 none
                  have hz15 := hq18.size
                  have hb60 := below_g0 hb59 k70
                  have hz16 := hb60.size
                  exact ⟨rfl, k70⟩
                · intro w71 k71
                  have hb61 := below_g0 hb48 k71
                  rintro _ rfl
                  refine op1g (s_move rfl ?_)
                  exact ⟨rfl, grown_none_refl _⟩
                · intro w72 k72
                  have hb62 := below_g0 hb48 k72
                  rintro _ rfl
                  rintro _ rfl
                  refine op1g (s_call fn17 rfl (rrule_any (by first | omega | (simp; omega) | decide)) ?_)
                  rintro _ w73 ⟨hq19, rfl⟩
                  have k73 := grown_of_below hq19 none
                  have hz17 := hq19.size
                  have hb63 := below_g0 hb62 k73
                  have hz18 := hb63.size
                  exact ⟨rfl, k73⟩
                · intro w74 k74
                  have hb64 := below_g0 hb48 k74
                  rintro _ rfl
                  rintro _ rfl
                  rintro _ rfl
                  refine op1g (s_eqbool bool4 rfl rfl ?_)
                  exact ⟨rfl, grown_none_refl _⟩
                · intro w75 k75
                  have hb65 := below_g0 hb48 k75
                  rintro _ rfl
                  rintro _ rfl
                  refine op1 (s_pick rfl rfl ?_)
                  exact ⟨rfl, grown_none_refl _⟩
                · intro w76 k76
                  have hb66 := below_g0 hb48 k76
                  rintro _ rfl
                  refine op1 (s_move rfl ?_)
                  exact ⟨(by rw [h5]), grown_none_refl _⟩
                · intro w77 k77
                  have hb67 := below_g0 hb48 k77
                  rintro _ rfl
                  refine op1g (s_move rfl ?_)
                  exact ⟨rfl, grown_none_refl _⟩
                · intro w78 k78
                  have hb68 := below_g0 hb48 k78
                  rintro _ rfl
                  refine op1g (s_move rfl ?_)
                  exact ⟨rfl, grown_none_refl _⟩
                · intro w79 k79
                  have hb69 := below_g0 hb48 k79
                  rintro _ rfl
                  rintro _ rfl
                  rintro _ rfl
                  refine op1g (s_call fn18 rfl (com_any (by first | omega | (simp; omega) | decide) (by first | omega | (simp; omega) | decide)) ?_)
                  rintro _ w80 ⟨hq20, rfl⟩
                  have k80 := grown_of_below hq20 none
                  have hz19 := hq20.size
                  have hb70 := below_g0 hb69 k80
                  have hz20 := hb70.size
                  exact ⟨rfl, k80⟩
                · intro w81 k81
                  have hb71 := below_g0 hb48 k81
                  rintro _ rfl
                  refine op1g (s_move rfl ?_)
                  exact ⟨rfl, grown_none_refl _⟩
                · intro w82 k82
                  have hb72 := below_g0 hb48 k82
                  rintro _ rfl
                  refine op1g (s_move rfl ?_)
                  exact ⟨rfl, grown_none_refl _⟩
                · intro w83 k83
                  have hb73 := below_g0 hb48 k83
                  rintro _ rfl
                  rintro _ rfl
                  rintro _ rfl
                  refine op1g (s_call fn19 rfl (rcom_any (by first | omega | (simp; omega) | decide) (by first | omega | (simp; omega) | decide)) ?_)
                  rintro _ w84 ⟨hq21, rfl⟩
                  have k84 := grown_of_below hq21 none
                  have hz21 := hq21.size
                  have hb74 := below_g0 hb73 k84
                  have hz22 := hb74.size
                  exact ⟨rfl, k84⟩
                · intro w85 k85
                  have hb75 := below_g0 hb48 k85
                  rintro _ rfl
                  rintro _ rfl
                  rintro _ rfl
                  refine op1g (s_eq rfl rfl ?_)
                  exact ⟨rfl, grown_none_refl _⟩
                · intro w86 k86
                  have hb76 := below_g0 hb48 k86
                  rintro _ rfl
                  rintro _ rfl
                  refine op1 (s_pick rfl rfl ?_)
                  exact ⟨rfl, grown_none_refl _⟩
                · intro w87 k87
                  have hb77 := below_g0 hb48 k87
                  rintro _ rfl
                  refine op1 (s_move rfl ?_)
                  exact ⟨(by rw [decide_eq_true h6]), grown_none_refl _⟩
                · intro w88 k88
                  have hb78 := below_g0 hb48 k88
                  rintro _ rfl
                  refine op1g (s_move rfl ?_)
                  exact ⟨rfl, grown_none_refl _⟩
                · intro w89 k89
                  have hb79 := below_g0 hb48 k89
                  rintro _ rfl
                  rintro _ rfl
                  refine op1g (s_slen str9 rfl ?_)
                  exact ⟨rfl, grown_none_refl _⟩
                · intro w90 k90
                  have hb80 := below_g0 hb48 k90
                  rintro _ rfl
                  rintro _ rfl
                  refine op1g (s_eq rfl rfl ?_)
                  exact ⟨rfl, grown_none_refl _⟩
                · intro w91 k91
                  have hb81 := below_g0 hb48 k91
                  rintro _ rfl
                  rintro _ rfl
                  refine op1g (s_move rfl ?_)
                  exact ⟨(by rw [decide_eq_false h7]), grown_none_refl _⟩
                · intro w92 k92
                  have hb82 := below_g0 hb48 k92
                  rintro _ rfl
                  refine op1g (s_move rfl ?_)
                  exact ⟨rfl, grown_none_refl _⟩
                · intro w93 k93
                  have hb83 := below_g0 hb48 k93
                  rintro _ rfl
                  rintro _ rfl
                  refine op1g (s_sidx str9 rfl rfl (by omega) (by omega) ?_)
                  exact ⟨rfl, grown_none_refl _⟩
                · intro w94 k94
                  have hb84 := below_g0 hb48 k94
                  rintro _ rfl
                  rintro _ rfl
                  refine op1g (s_call fn20 rfl (sign_any) ?_)
                  rintro _ w95 ⟨hq22, rfl⟩
                  have k95 := grown_of_below hq22 none
                  have hz23 := hq22.size
                  have hb85 := below_g0 hb84 k95
                  have hz24 := hb85.size
                  exact ⟨rfl, k95⟩
                · intro w96 k96
                  have hb86 := below_g0 hb48 k96
                  rintro _ rfl
                  refine op1g (s_move rfl ?_)
                  exact ⟨rfl, grown_none_refl _⟩
                · intro w97 k97
                  have hb87 := below_g0 hb48 k97
                  rintro _ rfl
                  rintro _ rfl
                  refine op1g (s_sidx str9 rfl rfl (by omega) (by omega) ?_)
                  exact ⟨rfl, grown_none_refl _⟩
                · intro w98 k98
                  have hb88 := below_g0 hb48 k98
                  rintro _ rfl
                  rintro _ rfl
                  refine op1g (s_call fn21 rfl (rsign_any) ?_)
                  rintro _ w99 ⟨hq23, rfl⟩
                  have k99 := grown_of_below hq23 none
                  have hz25 := hq23.size
                  have hb89 := below_g0 hb88 k99
                  have hz26 := hb89.size
                  exact ⟨rfl, k99⟩
                · intro w100 k100
                  have hb90 := below_g0 hb48 k100
                  rintro _ rfl
                  rintro _ rfl
                  rintro _ rfl
                  refine op1g (s_eqbool bool4 rfl rfl ?_)
                  exact ⟨rfl, grown_none_refl _⟩
                · intro w101 k101
                  have hb91 := below_g0 hb48 k101
                  rintro _ rfl
                  rintro _ rfl
                  rintro _ rfl
                  refine op1g (s_pick rfl rfl ?_)
                  exact ⟨rfl, grown_none_refl _⟩
                · intro w102 k102
                  have hb92 := below_g0 hb48 k102
                  rintro _ rfl
                  rintro _ rfl
                  refine op1 (s_pick rfl rfl ?_)
                  exact ⟨rfl, grown_none_refl _⟩
                · intro w103 k103
                  have hb93 := below_g0 hb48 k103
                  rintro _ rfl
                  rintro _ rfl
                  rintro _ rfl
                  rintro _ rfl
                  rintro _ rfl
                  rintro _ rfl
                  rintro _ rfl
                  rintro _ rfl
                  rintro _ rfl
                  rintro _ rfl
                  rintro _ rfl
                  rintro _ rfl
                  rintro _ rfl
                  rintro _ rfl
                  rintro _ rfl
                  rintro _ rfl
                  rintro _ rfl
                  rintro _ rfl
                  rintro _ rfl
                  rintro _ rfl
                  rintro _ rfl
                  rintro _ rfl
                  rintro _ rfl
                  rintro _ rfl
                  rintro _ rfl
                  rintro _ rfl
                  rintro _ rfl
                  rintro _ rfl
                  rintro _ rfl
                  rintro _ rfl
                  rintro _ rfl
                  rintro _ rfl
                  rintro _ rfl
                  rintro _ rfl
                  rintro _ rfl
                  rintro _ rfl
                  rintro _ rfl
                  rintro _ rfl
                  refine st (s_assign rfl ?_)
                  refine r_end ?_
                  refine n_then ?_
                  refine w_ret1 rfl rfl ?_
                  refine ⟨_, rfl, hb93, ?_⟩
                  simp
            · refine w_draw 38 (fun a b => a.grownBy b none) [(some 33, fun v _ => v = .int .i64 (plL (bl s) p)), (some 34, fun v _ => v = .int .i64 (plL (bl s) p)), (some 35, fun v _ => v = .bool (decide (plL (bl s) p = plL (bl s) p))), (some 36, fun v _ => v = .bool true), (some 37, fun v _ => v = .int .i64 (plC (bl s) p)), (some 38, fun v _ => v = .int .i64 (plC (bl s) p)), (some 39, fun v _ => v = .bool (decide (plC (bl s) p = plC (bl s) p))), (some 40, fun v _ => v = .bool (decide (plC (bl s) p = plC (bl s) p))), (some 41, fun v _ => v = .bool true), (some 42, fun v _ => v = .string s), (some 43, fun v _ => v = .bool (ruleB (bl s))), (some 44, fun v _ => v = .string s), (some 45, fun v _ => v = .bool (ruleB (bl s))), (some 46, fun v _ => v = .bool (BEq.beq (α := Bool) (ruleB (bl s)) (ruleB (bl s)))), (some 47, fun v _ => v = .bool (BEq.beq (α := Bool) (ruleB (bl s)) (ruleB (bl s)))), (some 48, fun v _ => v = .bool true), (some 49, fun v _ => v = .string s), (some 50, fun v _ => v = .string r), (some 51, fun v _ => v = .int .i64 (comL (bl s) (bl r))), (some 52, fun v _ => v = .string s), (some 53, fun v _ => v = .string r), (some 54, fun v _ => v = .int .i64 (comL (bl s) (bl r))), (some 55, fun v _ => v = .bool (decide (comL (bl s) (bl r) = comL (bl s) (bl r)))), (some 56, fun v _ => v = .bool (decide (comL (bl s) (bl r) = comL (bl s) (bl r)))), (some 57, fun v _ => v = .bool false), (some 58, fun v _ => v = undef), (some 59, fun v _ => v = undef), (some 60, fun v _ => v = undef), (some 61, fun v _ => v = undef), (some 62, fun v _ => v = undef), (some 63, fun v _ => v = undef), (some 64, fun v _ => v = undef), (some 65, fun v _ => v = undef), (some 66, fun v _ => v = undef), (some 67, fun v _ => v = undef), (some 68, fun v _ => v = undef), (some 69, fun v _ => v = undef), (some 70, fun v _ => v = .bool false)] [[], [], [0, 1], [2], [3], [3], [3, 4, 5], [3, 6], [7], [8], [8, 9], [8], [8, 11], [8, 10, 12], [8, 13], [14], [15], [15], [15, 16, 17], [15], [15], [15, 19, 20], [15, 18, 21], [15, 22], [23], [24], [24, 25], [24, 26], [24, 27], [28], [28, 29], [28, 30], [28], [28, 32], [28, 33], [28, 31, 34], [24, 28, 35], [24, 36]] [(0, .string s), (1, .string r), (6, .bool false), (7, .int .i64 (plL (bl s) p)), (8, .int .i64 (plC (bl s) p)), (9, .int .i64 (plL (bl s) p)), (10, .int .i64 (plC (bl s) p))] (by exact ⟨rfl, rfl, rfl, rfl, rfl, rfl, rfl, trivial⟩) (by kernel_rfl) (by kernel_rfl) grown_none_refl (fun _ _ _ => grown_none_trans) ⟨fun _ _ _ h _ => by exact h, fun _ _ _ h _ => by exact h, fun _ _ _ h _ => by exact h, fun _ _ _ h _ => by exact h, fun _ _ _ h _ => by exact h, fun _ _ _ h _ => by exact h, fun _ _ _ h _ => by exact h, fun _ _ _ h _ => by exact h, fun _ _ _ h _ => by exact h, fun _ _ _ h _ => by exact h, fun _ _ _ h _ => by exact h, fun _ _ _ h _ => by exact h, fun _ _ _ h _ => by exact h, fun _ _ _ h _ => by exact h, fun _ _ _ h _ => by exact h, fun _ _ _ h _ => by exact h, fun _ _ _ h _ => by exact h, fun _ _ _ h _ => by exact h, fun _ _ _ h _ => by exact h, fun _ _ _ h _ => by exact h, fun _ _ _ h _ => by exact h, fun _ _ _ h _ => by exact h, fun _ _ _ h _ => by exact h, fun _ _ _ h _ => by exact h, fun _ _ _ h _ => by exact h, fun _ _ _ h _ => by exact h, fun _ _ _ h _ => by exact h, fun _ _ _ h _ => by exact h, fun _ _ _ h _ => by exact h, fun _ _ _ h _ => by exact h, fun _ _ _ h _ => by exact h, fun _ _ _ h _ => by exact h, fun _ _ _ h _ => by exact h, fun _ _ _ h _ => by exact h, fun _ _ _ h _ => by exact h, fun _ _ _ h _ => by exact h, fun _ _ _ h _ => by exact h, fun _ _ _ h _ => by exact h, trivial⟩ ?_
              intro w108 k108 hs3
              have hb94 := below_g0 hb3 k108
              refine ⟨⟨?_, ?_, ?_, ?_, ?_, ?_, ?_, ?_, ?_, ?_, ?_, ?_, ?_, ?_, ?_, ?_, ?_, ?_, ?_, ?_, ?_, ?_, ?_, ?_, ?_, ?_, ?_, ?_, ?_, ?_, ?_, ?_, ?_, ?_, ?_, ?_, ?_, ?_, trivial⟩, ?_⟩
              · intro w109 k109
                have hb95 := below_g0 hb94 k109
                refine op1 (s_move rfl ?_)
                exact ⟨rfl, grown_none_refl _⟩
              · intro w110 k110
                have hb96 := below_g0 hb94 k110
                refine op1 (s_move rfl ?_)
                exact ⟨rfl, grown_none_refl _⟩
              · intro w111 k111
                have hb97 := below_g0 hb94 k111
                rintro _ rfl
                rintro _ rfl
                refine op1 (s_eq rfl rfl ?_)
                exact ⟨rfl, grown_none_refl _⟩
              · intro w112 k112
                have hb98 := below_g0 hb94 k112
                rintro _ rfl
                refine op1 (s_move rfl ?_)
                exact ⟨(by rw [decide_eq_true h3]), grown_none_refl _⟩
              · intro w113 k113
                have hb99 := below_g0 hb94 k113
                rintro _ rfl
                refine op1g (s_move rfl ?_)
                exact ⟨rfl, grown_none_refl _⟩
              · intro w114 k114
                have hb100 := below_g0 hb94 k114
                rintro _ rfl
                refine op1g (s_move rfl ?_)
                exact ⟨rfl, grown_none_refl _⟩
              · intro w115 k115
                have hb101 := below_g0 hb94 k115
                rintro _ rfl
                rintro _ rfl
                rintro _ rfl
                refine op1g (s_eq rfl rfl ?_)
                exact ⟨rfl, grown_none_refl _⟩
              · intro w116 k116
                have hb102 := below_g0 hb94 k116
                rintro _ rfl
                rintro _ rfl
                refine op1 (s_pick rfl rfl ?_)
                exact ⟨rfl, grown_none_refl _⟩
              · intro w117 k117
                have hb103 := below_g0 hb94 k117
                rintro _ rfl
                refine op1 (s_move rfl ?_)
                exact ⟨(by rw [decide_eq_true h4]), grown_none_refl _⟩
              · intro w118 k118
                have hb104 := below_g0 hb94 k118
                rintro _ rfl
                refine op1g (s_move rfl ?_)
                exact ⟨rfl, grown_none_refl _⟩
              · intro w119 k119
                have hb105 := below_g0 hb94 k119
                rintro _ rfl
                rintro _ rfl
                refine op1g (s_call fn16 rfl (rule_any) ?_)
                rintro _ w120 ⟨hq28, rfl⟩
                have k120 := grown_of_below hq28 none
                have hz27 := hq28.size
                have hb106 := below_g0 hb105 k120
                have hz28 := hb106.size
                exact ⟨rfl, k120⟩
              · intro w121 k121
                have hb107 := below_g0 hb94 k121
                rintro _ rfl
                refine op1g (s_move rfl ?_)
                exact ⟨rfl, grown_none_refl _⟩
              · intro w122 k122
                have hb108 := below_g0 hb94 k122
                rintro _ rfl
                rintro _ rfl
                refine op1g (s_call fn17 rfl (rrule_any (by first | omega | (simp; omega) | decide)) ?_)
                rintro _ w123 ⟨hq29, rfl⟩
                have k123 := grown_of_below hq29 none
                have hz29 := hq29.size
                have hb109 := below_g0 hb108 k123
                have hz30 := hb109.size
                exact ⟨rfl, k123⟩
              · intro w124 k124
                have hb110 := below_g0 hb94 k124
                rintro _ rfl
                rintro _ rfl
                rintro _ rfl
                refine op1g (s_eqbool bool4 rfl rfl ?_)
                exact ⟨rfl, grown_none_refl _⟩
              · intro w125 k125
                have hb111 := below_g0 hb94 k125
                rintro _ rfl
                rintro _ rfl
                refine op1 (s_pick rfl rfl ?_)
                exact ⟨rfl, grown_none_refl _⟩
              · intro w126 k126
                have hb112 := below_g0 hb94 k126
                rintro _ rfl
                refine op1 (s_move rfl ?_)
                exact ⟨(by rw [h5]), grown_none_refl _⟩
              · intro w127 k127
                have hb113 := below_g0 hb94 k127
                rintro _ rfl
                refine op1g (s_move rfl ?_)
                exact ⟨rfl, grown_none_refl _⟩
              · intro w128 k128
                have hb114 := below_g0 hb94 k128
                rintro _ rfl
                refine op1g (s_move rfl ?_)
                exact ⟨rfl, grown_none_refl _⟩
              · intro w129 k129
                have hb115 := below_g0 hb94 k129
                rintro _ rfl
                rintro _ rfl
                rintro _ rfl
                refine op1g (s_call fn18 rfl (com_any (by first | omega | (simp; omega) | decide) (by first | omega | (simp; omega) | decide)) ?_)
                rintro _ w130 ⟨hq30, rfl⟩
                have k130 := grown_of_below hq30 none
                have hz31 := hq30.size
                have hb116 := below_g0 hb115 k130
                have hz32 := hb116.size
                exact ⟨rfl, k130⟩
              · intro w131 k131
                have hb117 := below_g0 hb94 k131
                rintro _ rfl
                refine op1g (s_move rfl ?_)
                exact ⟨rfl, grown_none_refl _⟩
              · intro w132 k132
                have hb118 := below_g0 hb94 k132
                rintro _ rfl
                refine op1g (s_move rfl ?_)
                exact ⟨rfl, grown_none_refl _⟩
              · intro w133 k133
                have hb119 := below_g0 hb94 k133
                rintro _ rfl
                rintro _ rfl
                rintro _ rfl
                refine op1g (s_call fn19 rfl (rcom_any (by first | omega | (simp; omega) | decide) (by first | omega | (simp; omega) | decide)) ?_)
                rintro _ w134 ⟨hq31, rfl⟩
                have k134 := grown_of_below hq31 none
                have hz33 := hq31.size
                have hb120 := below_g0 hb119 k134
                have hz34 := hb120.size
                exact ⟨rfl, k134⟩
              · intro w135 k135
                have hb121 := below_g0 hb94 k135
                rintro _ rfl
                rintro _ rfl
                rintro _ rfl
                refine op1g (s_eq rfl rfl ?_)
                exact ⟨rfl, grown_none_refl _⟩
              · intro w136 k136
                have hb122 := below_g0 hb94 k136
                rintro _ rfl
                rintro _ rfl
                refine op1 (s_pick rfl rfl ?_)
                exact ⟨rfl, grown_none_refl _⟩
              · intro w137 k137
                have hb123 := below_g0 hb94 k137
                rintro _ rfl
                refine op1 (s_move rfl ?_)
                exact ⟨(by rw [decide_eq_false h6]), grown_none_refl _⟩
              · intro w138 k138
                have hb124 := below_g0 hb94 k138
                rintro _ rfl
                refine op1p ⟨rfl, grown_none_refl _⟩
              · intro w139 k139
                have hb125 := below_g0 hb94 k139
                rintro _ rfl
                intro v_ hv_; subst v_
                refine op1p ⟨rfl, grown_none_refl _⟩
              · intro w140 k140
                have hb126 := below_g0 hb94 k140
                rintro _ rfl
                intro v_ hv_; subst v_
                refine op1p ⟨rfl, grown_none_refl _⟩
              · intro w141 k141
                have hb127 := below_g0 hb94 k141
                rintro _ rfl
                intro v_ hv_; subst v_
                refine op1p ⟨rfl, grown_none_refl _⟩
              · intro w142 k142
                have hb128 := below_g0 hb94 k142
                intro v_ hv_; subst v_
                refine op1u ⟨rfl, grown_none_refl _⟩
              · intro w143 k143
                have hb129 := below_g0 hb94 k143
                intro v_ hv_; subst v_
                intro v_ hv_; subst v_
                refine op1u ⟨rfl, grown_none_refl _⟩
              · intro w144 k144
                have hb130 := below_g0 hb94 k144
                intro v_ hv_; subst v_
                intro v_ hv_; subst v_
                refine op1u ⟨rfl, grown_none_refl _⟩
              · intro w145 k145
                have hb131 := below_g0 hb94 k145
                intro v_ hv_; subst v_
                refine op1u ⟨rfl, grown_none_refl _⟩
              · intro w146 k146
                have hb132 := below_g0 hb94 k146
                intro v_ hv_; subst v_
                intro v_ hv_; subst v_
                refine op1u ⟨rfl, grown_none_refl _⟩
              · intro w147 k147
                have hb133 := below_g0 hb94 k147
                intro v_ hv_; subst v_
                intro v_ hv_; subst v_
                refine op1u ⟨rfl, grown_none_refl _⟩
              · intro w148 k148
                have hb134 := below_g0 hb94 k148
                intro v_ hv_; subst v_
                intro v_ hv_; subst v_
                intro v_ hv_; subst v_
                refine op1u ⟨rfl, grown_none_refl _⟩
              · intro w149 k149
                have hb135 := below_g0 hb94 k149
                rintro _ rfl
                intro v_ hv_; subst v_
                intro v_ hv_; subst v_
                refine op1p ⟨rfl, grown_none_refl _⟩
              · intro w150 k150
                have hb136 := below_g0 hb94 k150
                rintro _ rfl
                intro v_ hv_; subst v_
                refine op1 (s_pick rfl rfl ?_)
                exact ⟨rfl, grown_none_refl _⟩
              · intro w151 k151
                have hb137 := below_g0 hb94 k151
                rintro _ rfl
                rintro _ rfl
                rintro _ rfl
                rintro _ rfl
                rintro _ rfl
                rintro _ rfl
                rintro _ rfl
                rintro _ rfl
                rintro _ rfl
                rintro _ rfl
                rintro _ rfl
                rintro _ rfl
                rintro _ rfl
                rintro _ rfl
                rintro _ rfl
                rintro _ rfl
                rintro _ rfl
                rintro _ rfl
                rintro _ rfl
                rintro _ rfl
                rintro _ rfl
                rintro _ rfl
                rintro _ rfl
                rintro _ rfl
                rintro _ rfl
                intro v_ hv_; subst v_
                intro v_ hv_; subst v_
                intro v_ hv_; subst v_
                intro v_ hv_; subst v_
                intro v_ hv_; subst v_
                intro v_ hv_; subst v_
                intro v_ hv_; subst v_
                intro v_ hv_; subst v_
                intro v_ hv_; subst v_
                intro v_ hv_; subst v_
                intro v_ hv_; subst v_
                intro v_ hv_; subst v_
                rintro _ rfl
                refine st (s_assign rfl ?_)
                refine r_end ?_
                refine n_then ?_
                refine w_ret1 rfl rfl ?_
                refine ⟨_, rfl, hb137, ?_⟩
                first | exact absurd rfl h6 | exact absurd h6 (by simp)
          · refine w_draw 38 (fun a b => a.grownBy b none) [(some 33, fun v _ => v = .int .i64 (plL (bl s) p)), (some 34, fun v _ => v = .int .i64 (plL (bl s) p)), (some 35, fun v _ => v = .bool (decide (plL (bl s) p = plL (bl s) p))), (some 36, fun v _ => v = .bool true), (some 37, fun v _ => v = .int .i64 (plC (bl s) p)), (some 38, fun v _ => v = .int .i64 (plC (bl s) p)), (some 39, fun v _ => v = .bool (decide (plC (bl s) p = plC (bl s) p))), (some 40, fun v _ => v = .bool (decide (plC (bl s) p = plC (bl s) p))), (some 41, fun v _ => v = .bool true), (some 42, fun v _ => v = .string s), (some 43, fun v _ => v = .bool (ruleB (bl s))), (some 44, fun v _ => v = .string s), (some 45, fun v _ => v = .bool (ruleB (bl s))), (some 46, fun v _ => v = .bool (BEq.beq (α := Bool) (ruleB (bl s)) (ruleB (bl s)))), (some 47, fun v _ => v = .bool (BEq.beq (α := Bool) (ruleB (bl s)) (ruleB (bl s)))), (some 48, fun v _ => v = .bool false), (some 49, fun v _ => v = undef), (some 50, fun v _ => v = undef), (some 51, fun v _ => v = undef), (some 52, fun v _ => v = undef), (some 53, fun v _ => v = undef), (some 54, fun v _ => v = undef), (some 55, fun v _ => v = undef), (some 56, fun v _ => v = .bool false), (some 57, fun v _ => v = .bool false), (some 58, fun v _ => v = undef), (some 59, fun v _ => v = undef), (some 60, fun v _ => v = undef), (some 61, fun v _ => v = undef), (some 62, fun v _ => v = undef), (some 63, fun v _ => v = undef), (some 64, fun v _ => v = undef), (some 65, fun v _ => v = undef), (some 66, fun v _ => v = undef), (some 67, fun v _ => v = undef), (some 68, fun v _ => v = undef), (some 69, fun v _ => v = undef), (some 70, fun v _ => v = .bool false)] [[], [], [0, 1], [2], [3], [3], [3, 4, 5], [3, 6], [7], [8], [8, 9], [8], [8, 11], [8, 10, 12], [8, 13], [14], [15], [15], [15, 16, 17], [15], [15], [15, 19, 20], [15, 18, 21], [15, 22], [23], [24], [24, 25], [24, 26], [24, 27], [28], [28, 29], [28, 30], [28], [28, 32], [28, 33], [28, 31, 34], [24, 28, 35], [24, 36]] [(0, .string s), (1, .string r), (6, .bool false), (7, .int .i64 (plL (bl s) p)), (8, .int .i64 (plC (bl s) p)), (9, .int .i64 (plL (bl s) p)), (10, .int .i64 (plC (bl s) p))] (by exact ⟨rfl, rfl, rfl, rfl, rfl, rfl, rfl, trivial⟩) (by kernel_rfl) (by kernel_rfl) grown_none_refl (fun _ _ _ => grown_none_trans) ⟨fun _ _ _ h _ => by exact h, fun _ _ _ h _ => by exact h, fun _ _ _ h _ => by exact h, fun _ _ _ h _ => by exact h, fun _ _ _ h _ => by exact h, fun _ _ _ h _ => by exact h, fun _ _ _ h _ => by exact h, fun _ _ _ h _ => by exact h, fun _ _ _ h _ => by exact h, fun _ _ _ h _ => by exact h, fun _ _ _ h _ => by exact h, fun _ _ _ h _ => by exact h, fun _ _ _ h _ => by exact h, fun _ _ _ h _ => by exact h, fun _ _ _ h _ => by exact h, fun _ _ _ h _ => by exact h, fun _ _ _ h _ => by exact h, fun _ _ _ h _ => by exact h, fun _ _ _ h _ => by exact h, fun _ _ _ h _ => by exact h, fun _ _ _ h _ => by exact h, fun _ _ _ h _ => by exact h, fun _ _ _ h _ => by exact h, fun _ _ _ h _ => by exact h, fun _ _ _ h _ => by exact h, fun _ _ _ h _ => by exact h, fun _ _ _ h _ => by exact h, fun _ _ _ h _ => by exact h, fun _ _ _ h _ => by exact h, fun _ _ _ h _ => by exact h, fun _ _ _ h _ => by exact h, fun _ _ _ h _ => by exact h, fun _ _ _ h _ => by exact h, fun _ _ _ h _ => by exact h, fun _ _ _ h _ => by exact h, fun _ _ _ h _ => by exact h, fun _ _ _ h _ => by exact h, fun _ _ _ h _ => by exact h, trivial⟩ ?_
            intro w154 k154 hs4
            have hb138 := below_g0 hb3 k154
            refine ⟨⟨?_, ?_, ?_, ?_, ?_, ?_, ?_, ?_, ?_, ?_, ?_, ?_, ?_, ?_, ?_, ?_, ?_, ?_, ?_, ?_, ?_, ?_, ?_, ?_, ?_, ?_, ?_, ?_, ?_, ?_, ?_, ?_, ?_, ?_, ?_, ?_, ?_, ?_, trivial⟩, ?_⟩
            · intro w155 k155
              have hb139 := below_g0 hb138 k155
              refine op1 (s_move rfl ?_)
              exact ⟨rfl, grown_none_refl _⟩
            · intro w156 k156
              have hb140 := below_g0 hb138 k156
              refine op1 (s_move rfl ?_)
              exact ⟨rfl, grown_none_refl _⟩
            · intro w157 k157
              have hb141 := below_g0 hb138 k157
              rintro _ rfl
              rintro _ rfl
              refine op1 (s_eq rfl rfl ?_)
              exact ⟨rfl, grown_none_refl _⟩
            · intro w158 k158
              have hb142 := below_g0 hb138 k158
              rintro _ rfl
              refine op1 (s_move rfl ?_)
              exact ⟨(by rw [decide_eq_true h3]), grown_none_refl _⟩
            · intro w159 k159
              have hb143 := below_g0 hb138 k159
              rintro _ rfl
              refine op1g (s_move rfl ?_)
              exact ⟨rfl, grown_none_refl _⟩
            · intro w160 k160
              have hb144 := below_g0 hb138 k160
              rintro _ rfl
              refine op1g (s_move rfl ?_)
              exact ⟨rfl, grown_none_refl _⟩
            · intro w161 k161
              have hb145 := below_g0 hb138 k161
              rintro _ rfl
              rintro _ rfl
              rintro _ rfl
              refine op1g (s_eq rfl rfl ?_)
              exact ⟨rfl, grown_none_refl _⟩
            · intro w162 k162
              have hb146 := below_g0 hb138 k162
              rintro _ rfl
              rintro _ rfl
              refine op1 (s_pick rfl rfl ?_)
              exact ⟨rfl, grown_none_refl _⟩
            · intro w163 k163
              have hb147 := below_g0 hb138 k163
              rintro _ rfl
              refine op1 (s_move rfl ?_)
              exact ⟨(by rw [decide_eq_true h4]), grown_none_refl _⟩
            · intro w164 k164
              have hb148 := below_g0 hb138 k164
              rintro _ rfl
              refine op1g (s_move rfl ?_)
              exact ⟨rfl, grown_none_refl _⟩
            · intro w165 k165
              have hb149 := below_g0 hb138 k165
              rintro _ rfl
              rintro _ rfl
              refine op1g (s_call fn16 rfl (rule_any) ?_)
              rintro _ w166 ⟨hq34, rfl⟩
              have k166 := grown_of_below hq34 none
              have hz35 := hq34.size
              have hb150 := below_g0 hb149 k166
              have hz36 := hb150.size
              exact ⟨rfl, k166⟩
            · intro w167 k167
              have hb151 := below_g0 hb138 k167
              rintro _ rfl
              refine op1g (s_move rfl ?_)
              exact ⟨rfl, grown_none_refl _⟩
            · intro w168 k168
              have hb152 := below_g0 hb138 k168
              rintro _ rfl
              rintro _ rfl
              refine op1g (s_call fn17 rfl (rrule_any (by first | omega | (simp; omega) | decide)) ?_)
              rintro _ w169 ⟨hq35, rfl⟩
              have k169 := grown_of_below hq35 none
              have hz37 := hq35.size
              have hb153 := below_g0 hb152 k169
              have hz38 := hb153.size
              exact ⟨rfl, k169⟩
            · intro w170 k170
              have hb154 := below_g0 hb138 k170
              rintro _ rfl
              rintro _ rfl
              rintro _ rfl
              refine op1g (s_eqbool bool4 rfl rfl ?_)
              exact ⟨rfl, grown_none_refl _⟩
            · intro w171 k171
              have hb155 := below_g0 hb138 k171
              rintro _ rfl
              rintro _ rfl
              refine op1 (s_pick rfl rfl ?_)
              exact ⟨rfl, grown_none_refl _⟩
            · intro w172 k172
              have hb156 := below_g0 hb138 k172
              rintro _ rfl
              refine op1 (s_move rfl ?_)
              exact ⟨(by rw [h5]), grown_none_refl _⟩
            · intro w173 k173
              have hb157 := below_g0 hb138 k173
              rintro _ rfl
              refine op1p ⟨rfl, grown_none_refl _⟩
            · intro w174 k174
              have hb158 := below_g0 hb138 k174
              rintro _ rfl
              refine op1p ⟨rfl, grown_none_refl _⟩
            · intro w175 k175
              have hb159 := below_g0 hb138 k175
              rintro _ rfl
              intro v_ hv_; subst v_
              intro v_ hv_; subst v_
              refine op1p ⟨rfl, grown_none_refl _⟩
            · intro w176 k176
              have hb160 := below_g0 hb138 k176
              rintro _ rfl
              refine op1p ⟨rfl, grown_none_refl _⟩
            · intro w177 k177
              have hb161 := below_g0 hb138 k177
              rintro _ rfl
              refine op1p ⟨rfl, grown_none_refl _⟩
            · intro w178 k178
              have hb162 := below_g0 hb138 k178
              rintro _ rfl
              intro v_ hv_; subst v_
              intro v_ hv_; subst v_
              refine op1p ⟨rfl, grown_none_refl _⟩
            · intro w179 k179
              have hb163 := below_g0 hb138 k179
              rintro _ rfl
              intro v_ hv_; subst v_
              intro v_ hv_; subst v_
              refine op1p ⟨rfl, grown_none_refl _⟩
            · intro w180 k180
              have hb164 := below_g0 hb138 k180
              rintro _ rfl
              intro v_ hv_; subst v_
              refine op1 (s_pick rfl rfl ?_)
              exact ⟨rfl, grown_none_refl _⟩
            · intro w181 k181
              have hb165 := below_g0 hb138 k181
              rintro _ rfl
              refine op1 (s_move rfl ?_)
              exact ⟨rfl, grown_none_refl _⟩
            · intro w182 k182
              have hb166 := below_g0 hb138 k182
              rintro _ rfl
              refine op1p ⟨rfl, grown_none_refl _⟩
            · intro w183 k183
              have hb167 := below_g0 hb138 k183
              rintro _ rfl
              intro v_ hv_; subst v_
              refine op1p ⟨rfl, grown_none_refl _⟩
            · intro w184 k184
              have hb168 := below_g0 hb138 k184
              rintro _ rfl
              intro v_ hv_; subst v_
              refine op1p ⟨rfl, grown_none_refl _⟩
            · intro w185 k185
              have hb169 := below_g0 hb138 k185
              rintro _ rfl
              intro v_ hv_; subst v_
              refine op1p ⟨rfl, grown_none_refl _⟩
            · intro w186 k186
              have hb170 := below_g0 hb138 k186
              intro v_ hv_; subst v_
              refine op1u ⟨rfl, grown_none_refl _⟩
            · intro w187 k187
              have hb171 := below_g0 hb138 k187
              intro v_ hv_; subst v_
              intro v_ hv_; subst v_
              refine op1u ⟨rfl, grown_none_refl _⟩
            · intro w188 k188
              have hb172 := below_g0 hb138 k188
              intro v_ hv_; subst v_
              intro v_ hv_; subst v_
              refine op1u ⟨rfl, grown_none_refl _⟩
            · intro w189 k189
              have hb173 := below_g0 hb138 k189
              intro v_ hv_; subst v_
              refine op1u ⟨rfl, grown_none_refl _⟩
            · intro w190 k190
              have hb174 := below_g0 hb138 k190
              intro v_ hv_; subst v_
              intro v_ hv_; subst v_
              refine op1u ⟨rfl, grown_none_refl _⟩
            · intro w191 k191
              have hb175 := below_g0 hb138 k191
              intro v_ hv_; subst v_
              intro v_ hv_; subst v_
              refine op1u ⟨rfl, grown_none_refl _⟩
            · intro w192 k192
              have hb176 := below_g0 hb138 k192
              intro v_ hv_; subst v_
              intro v_ hv_; subst v_
              intro v_ hv_; subst v_
              refine op1u ⟨rfl, grown_none_refl _⟩
            · intro w193 k193
              have hb177 := below_g0 hb138 k193
              rintro _ rfl
              intro v_ hv_; subst v_
              intro v_ hv_; subst v_
              refine op1p ⟨rfl, grown_none_refl _⟩
            · intro w194 k194
              have hb178 := below_g0 hb138 k194
              rintro _ rfl
              intro v_ hv_; subst v_
              refine op1 (s_pick rfl rfl ?_)
              exact ⟨rfl, grown_none_refl _⟩
            · intro w195 k195
              have hb179 := below_g0 hb138 k195
              rintro _ rfl
              rintro _ rfl
              rintro _ rfl
              rintro _ rfl
              rintro _ rfl
              rintro _ rfl
              rintro _ rfl
              rintro _ rfl
              rintro _ rfl
              rintro _ rfl
              rintro _ rfl
              rintro _ rfl
              rintro _ rfl
              rintro _ rfl
              rintro _ rfl
              rintro _ rfl
              intro v_ hv_; subst v_
              intro v_ hv_; subst v_
              intro v_ hv_; subst v_
              intro v_ hv_; subst v_
              intro v_ hv_; subst v_
              intro v_ hv_; subst v_
              intro v_ hv_; subst v_
              rintro _ rfl
              rintro _ rfl
              intro v_ hv_; subst v_
              intro v_ hv_; subst v_
              intro v_ hv_; subst v_
              intro v_ hv_; subst v_
              intro v_ hv_; subst v_
              intro v_ hv_; subst v_
              intro v_ hv_; subst v_
              intro v_ hv_; subst v_
              intro v_ hv_; subst v_
              intro v_ hv_; subst v_
              intro v_ hv_; subst v_
              intro v_ hv_; subst v_
              rintro _ rfl
              refine st (s_assign rfl ?_)
              refine r_end ?_
              refine n_then ?_
              refine w_ret1 rfl rfl ?_
              refine ⟨_, rfl, hb179, ?_⟩
              first | exact absurd rfl h5 | exact absurd h5 (by simp)
        · refine w_draw 38 (fun a b => a.grownBy b none) [(some 33, fun v _ => v = .int .i64 (plL (bl s) p)), (some 34, fun v _ => v = .int .i64 (plL (bl s) p)), (some 35, fun v _ => v = .bool (decide (plL (bl s) p = plL (bl s) p))), (some 36, fun v _ => v = .bool true), (some 37, fun v _ => v = .int .i64 (plC (bl s) p)), (some 38, fun v _ => v = .int .i64 (plC (bl s) p)), (some 39, fun v _ => v = .bool (decide (plC (bl s) p = plC (bl s) p))), (some 40, fun v _ => v = .bool (decide (plC (bl s) p = plC (bl s) p))), (some 41, fun v _ => v = .bool false), (some 42, fun v _ => v = undef), (some 43, fun v _ => v = undef), (some 44, fun v _ => v = undef), (some 45, fun v _ => v = undef), (some 46, fun v _ => v = undef), (some 47, fun v _ => v = .bool false), (some 48, fun v _ => v = .bool false), (some 49, fun v _ => v = undef), (some 50, fun v _ => v = undef), (some 51, fun v _ => v = undef), (some 52, fun v _ => v = undef), (some 53, fun v _ => v = undef), (some 54, fun v _ => v = undef), (some 55, fun v _ => v = undef), (some 56, fun v _ => v = .bool false), (some 57, fun v _ => v = .bool false), (some 58, fun v _ => v = undef), (some 59, fun v _ => v = undef), (some 60, fun v _ => v = undef), (some 61, fun v _ => v = undef), (some 62, fun v _ => v = undef), (some 63, fun v _ => v = undef), (some 64, fun v _ => v = undef), (some 65, fun v _ => v = undef), (some 66, fun v _ => v = undef), (some 67, fun v _ => v = undef), (some 68, fun v _ => v = undef), (some 69, fun v _ => v = undef), (some 70, fun v _ => v = .bool false)] [[], [], [0, 1], [2], [3], [3], [3, 4, 5], [3, 6], [7], [8], [8, 9], [8], [8, 11], [8, 10, 12], [8, 13], [14], [15], [15], [15, 16, 17], [15], [15], [15, 19, 20], [15, 18, 21], [15, 22], [23], [24], [24, 25], [24, 26], [24, 27], [28], [28, 29], [28, 30], [28], [28, 32], [28, 33], [28, 31, 34], [24, 28, 35], [24, 36]] [(0, .string s), (1, .string r), (6, .bool false), (7, .int .i64 (plL (bl s) p)), (8, .int .i64 (plC (bl s) p)), (9, .int .i64 (plL (bl s) p)), (10, .int .i64 (plC (bl s) p))] (by exact ⟨rfl, rfl, rfl, rfl, rfl, rfl, rfl, trivial⟩) (by kernel_rfl) (by kernel_rfl) grown_none_refl (fun _ _ _ => grown_none_trans) ⟨fun _ _ _ h _ => by exact h, fun _ _ _ h _ => by exact h, fun _ _ _ h _ => by exact h, fun _ _ _ h _ => by exact h, fun _ _ _ h _ => by exact h, fun _ _ _ h _ => by exact h, fun _ _ _ h _ => by exact h, fun _ _ _ h _ => by exact h, fun _ _ _ h _ => by exact h, fun _ _ _ h _ => by exact h, fun _ _ _ h _ => by exact h, fun _ _ _ h _ => by exact h, fun _ _ _ h _ => by exact h, fun _ _ _ h _ => by exact h, fun _ _ _ h _ => by exact h, fun _ _ _ h _ => by exact h, fun _ _ _ h _ => by exact h, fun _ _ _ h _ => by exact h, fun _ _ _ h _ => by exact h, fun _ _ _ h _ => by exact h, fun _ _ _ h _ => by exact h, fun _ _ _ h _ => by exact h, fun _ _ _ h _ => by exact h, fun _ _ _ h _ => by exact h, fun _ _ _ h _ => by exact h, fun _ _ _ h _ => by exact h, fun _ _ _ h _ => by exact h, fun _ _ _ h _ => by exact h, fun _ _ _ h _ => by exact h, fun _ _ _ h _ => by exact h, fun _ _ _ h _ => by exact h, fun _ _ _ h _ => by exact h, fun _ _ _ h _ => by exact h, fun _ _ _ h _ => by exact h, fun _ _ _ h _ => by exact h, fun _ _ _ h _ => by exact h, fun _ _ _ h _ => by exact h, fun _ _ _ h _ => by exact h, trivial⟩ ?_
          intro w196 k196 hs5
          have hb180 := below_g0 hb3 k196
          refine ⟨⟨?_, ?_, ?_, ?_, ?_, ?_, ?_, ?_, ?_, ?_, ?_, ?_, ?_, ?_, ?_, ?_, ?_, ?_, ?_, ?_, ?_, ?_, ?_, ?_, ?_, ?_, ?_, ?_, ?_, ?_, ?_, ?_, ?_, ?_, ?_, ?_, ?_, ?_, trivial⟩, ?_⟩
          · intro w197 k197
            have hb181 := below_g0 hb180 k197
            refine op1 (s_move rfl ?_)
            exact ⟨rfl, grown_none_refl _⟩
          · intro w198 k198
            have hb182 := below_g0 hb180 k198
            refine op1 (s_move rfl ?_)
            exact ⟨rfl, grown_none_refl _⟩
          · intro w199 k199
            have hb183 := below_g0 hb180 k199
            rintro _ rfl
            rintro _ rfl
            refine op1 (s_eq rfl rfl ?_)
            exact ⟨rfl, grown_none_refl _⟩
          · intro w200 k200
            have hb184 := below_g0 hb180 k200
            rintro _ rfl
            refine op1 (s_move rfl ?_)
            exact ⟨(by rw [decide_eq_true h3]), grown_none_refl _⟩
          · intro w201 k201
            have hb185 := below_g0 hb180 k201
            rintro _ rfl
            refine op1g (s_move rfl ?_)
            exact ⟨rfl, grown_none_refl _⟩
          · intro w202 k202
            have hb186 := below_g0 hb180 k202
            rintro _ rfl
            refine op1g (s_move rfl ?_)
            exact ⟨rfl, grown_none_refl _⟩
          · intro w203 k203
            have hb187 := below_g0 hb180 k203
            rintro _ rfl
            rintro _ rfl
            rintro _ rfl
            refine op1g (s_eq rfl rfl ?_)
            exact ⟨rfl, grown_none_refl _⟩
          · intro w204 k204
            have hb188 := below_g0 hb180 k204
            rintro _ rfl
            rintro _ rfl
            refine op1 (s_pick rfl rfl ?_)
            exact ⟨rfl, grown_none_refl _⟩
          · intro w205 k205
            have hb189 := below_g0 hb180 k205
            rintro _ rfl
            refine op1 (s_move rfl ?_)
            exact ⟨(by rw [decide_eq_false h4]), grown_none_refl _⟩
          · intro w206 k206
            have hb190 := below_g0 hb180 k206
            rintro _ rfl
            refine op1p ⟨rfl, grown_none_refl _⟩
          · intro w207 k207
            have hb191 := below_g0 hb180 k207
            rintro _ rfl
            intro v_ hv_; subst v_
            refine op1p ⟨rfl, grown_none_refl _⟩
          · intro w208 k208
            have hb192 := below_g0 hb180 k208
            rintro _ rfl
            refine op1p ⟨rfl, grown_none_refl _⟩
          · intro w209 k209
            have hb193 := below_g0 hb180 k209
            rintro _ rfl
            intro v_ hv_; subst v_
            refine op1p ⟨rfl, grown_none_refl _⟩
          · intro w210 k210
            have hb194 := below_g0 hb180 k210
            rintro _ rfl
            intro v_ hv_; subst v_
            intro v_ hv_; subst v_
            refine op1p ⟨rfl, grown_none_refl _⟩
          · intro w211 k211
            have hb195 := below_g0 hb180 k211
            rintro _ rfl
            intro v_ hv_; subst v_
            refine op1 (s_pick rfl rfl ?_)
            exact ⟨rfl, grown_none_refl _⟩
          · intro w212 k212
            have hb196 := below_g0 hb180 k212
            rintro _ rfl
            refine op1 (s_move rfl ?_)
            exact ⟨rfl, grown_none_refl _⟩
          · intro w213 k213
            have hb197 := below_g0 hb180 k213
            rintro _ rfl
            refine op1p ⟨rfl, grown_none_refl _⟩
          · intro w214 k214
            have hb198 := below_g0 hb180 k214
            rintro _ rfl
            refine op1p ⟨rfl, grown_none_refl _⟩
          · intro w215 k215
            have hb199 := below_g0 hb180 k215
            rintro _ rfl
            intro v_ hv_; subst v_
            intro v_ hv_; subst v_
            refine op1p ⟨rfl, grown_none_refl _⟩
          · intro w216 k216
            have hb200 := below_g0 hb180 k216
            rintro _ rfl
            refine op1p ⟨rfl, grown_none_refl _⟩
          · intro w217 k217
            have hb201 := below_g0 hb180 k217
            rintro _ rfl
            refine op1p ⟨rfl, grown_none_refl _⟩
          · intro w218 k218
            have hb202 := below_g0 hb180 k218
            rintro _ rfl
            intro v_ hv_; subst v_
            intro v_ hv_; subst v_
            refine op1p ⟨rfl, grown_none_refl _⟩
          · intro w219 k219
            have hb203 := below_g0 hb180 k219
            rintro _ rfl
            intro v_ hv_; subst v_
            intro v_ hv_; subst v_
            refine op1p ⟨rfl, grown_none_refl _⟩
          · intro w220 k220
            have hb204 := below_g0 hb180 k220
            rintro _ rfl
            intro v_ hv_; subst v_
            refine op1 (s_pick rfl rfl ?_)
            exact ⟨rfl, grown_none_refl _⟩
          · intro w221 k221
            have hb205 := below_g0 hb180 k221
            rintro _ rfl
            refine op1 (s_move rfl ?_)
            exact ⟨rfl, grown_none_refl _⟩
          · intro w222 k222
            have hb206 := below_g0 hb180 k222
            rintro _ rfl
            refine op1p ⟨rfl, grown_none_refl _⟩
          · intro w223 k223
            have hb207 := below_g0 hb180 k223
            rintro _ rfl
            intro v_ hv_; subst v_
            refine op1p ⟨rfl, grown_none_refl _⟩
          · intro w224 k224
            have hb208 := below_g0 hb180 k224
            rintro _ rfl
            intro v_ hv_; subst v_
            refine op1p ⟨rfl, grown_none_refl _⟩
          · intro w225 k225
            have hb209 := below_g0 hb180 k225
            rintro _ rfl
            intro v_ hv_; subst v_
            refine op1p ⟨rfl, grown_none_refl _⟩
          · intro w226 k226
            have hb210 := below_g0 hb180 k226
            intro v_ hv_; subst v_
            refine op1u ⟨rfl, grown_none_refl _⟩
          · intro w227 k227
            have hb211 := below_g0 hb180 k227
            intro v_ hv_; subst v_
            intro v_ hv_; subst v_
            refine op1u ⟨rfl, grown_none_refl _⟩
          · intro w228 k228
            have hb212 := below_g0 hb180 k228
            intro v_ hv_; subst v_
            intro v_ hv_; subst v_
            refine op1u ⟨rfl, grown_none_refl _⟩
          · intro w229 k229
            have hb213 := below_g0 hb180 k229
            intro v_ hv_; subst v_
            refine op1u ⟨rfl, grown_none_refl _⟩
          · intro w230 k230
            have hb214 := below_g0 hb180 k230
            intro v_ hv_; subst v_
            intro v_ hv_; subst v_
            refine op1u ⟨rfl, grown_none_refl _⟩
          · intro w231 k231
            have hb215 := below_g0 hb180 k231
            intro v_ hv_; subst v_
            intro v_ hv_; subst v_
            refine op1u ⟨rfl, grown_none_refl _⟩
          · intro w232 k232
            have hb216 := below_g0 hb180 k232
            intro v_ hv_; subst v_
            intro v_ hv_; subst v_
            intro v_ hv_; subst v_
            refine op1u ⟨rfl, grown_none_refl _⟩
          · intro w233 k233
            have hb217 := below_g0 hb180 k233
            rintro _ rfl
            intro v_ hv_; subst v_
            intro v_ hv_; subst v_
            refine op1p ⟨rfl, grown_none_refl _⟩
          · intro w234 k234
            have hb218 := below_g0 hb180 k234
            rintro _ rfl
            intro v_ hv_; subst v_
            refine op1 (s_pick rfl rfl ?_)
            exact ⟨rfl, grown_none_refl _⟩
          · intro w235 k235
            have hb219 := below_g0 hb180 k235
            rintro _ rfl
            rintro _ rfl
            rintro _ rfl
            rintro _ rfl
            rintro _ rfl
            rintro _ rfl
            rintro _ rfl
            rintro _ rfl
            rintro _ rfl
            intro v_ hv_; subst v_
            intro v_ hv_; subst v_
            intro v_ hv_; subst v_
            intro v_ hv_; subst v_
            intro v_ hv_; subst v_
            rintro _ rfl
            rintro _ rfl
            intro v_ hv_; subst v_
            intro v_ hv_; subst v_
            intro v_ hv_; subst v_
            intro v_ hv_; subst v_
            intro v_ hv_; subst v_
            intro v_ hv_; subst v_
            intro v_ hv_; subst v_
            rintro _ rfl
            rintro _ rfl
            intro v_ hv_; subst v_
            intro v_ hv_; subst v_
            intro v_ hv_; subst v_
            intro v_ hv_; subst v_
            intro v_ hv_; subst v_
            intro v_ hv_; subst v_
            intro v_ hv_; subst v_
            intro v_ hv_; subst v_
            intro v_ hv_; subst v_
            intro v_ hv_; subst v_
            intro v_ hv_; subst v_
            intro v_ hv_; subst v_
            rintro _ rfl
            refine st (s_assign rfl ?_)
            refine r_end ?_
            refine n_then ?_
            refine w_ret1 rfl rfl ?_
            refine ⟨_, rfl, hb219, ?_⟩
            first | exact absurd rfl h4 | exact absurd h4 (by simp)
      · refine w_draw 38 (fun a b => a.grownBy b none) [(some 33, fun v _ => v = .int .i64 (plL (bl s) p)), (some 34, fun v _ => v = .int .i64 (plL (bl s) p)), (some 35, fun v _ => v = .bool (decide (plL (bl s) p = plL (bl s) p))), (some 36, fun v _ => v = .bool false), (some 37, fun v _ => v = undef), (some 38, fun v _ => v = undef), (some 39, fun v _ => v = undef), (some 40, fun v _ => v = .bool false), (some 41, fun v _ => v = .bool false), (some 42, fun v _ => v = undef), (some 43, fun v _ => v = undef), (some 44, fun v _ => v = undef), (some 45, fun v _ => v = undef), (some 46, fun v _ => v = undef), (some 47, fun v _ => v = .bool false), (some 48, fun v _ => v = .bool false), (some 49, fun v _ => v = undef), (some 50, fun v _ => v = undef), (some 51, fun v _ => v = undef), (some 52, fun v _ => v = undef), (some 53, fun v _ => v = undef), (some 54, fun v _ => v = undef), (some 55, fun v _ => v = undef), (some 56, fun v _ => v = .bool false), (some 57, fun v _ => v = .bool false), (some 58, fun v _ => v = undef), (some 59, fun v _ => v = undef), (some 60, fun v _ => v = undef), (some 61, fun v _ => v = undef), (some 62, fun v _ => v = undef), (some 63, fun v _ => v = undef), (some 64, fun v _ => v = undef), (some 65, fun v _ => v = undef), (some 66, fun v _ => v = undef), (some 67, fun v _ => v = undef), (some 68, fun v _ => v = undef), (some 69, fun v _ => v = undef), (some 70, fun v _ => v = .bool false)] [[], [], [0, 1], [2], [3], [3], [3, 4, 5], [3, 6], [7], [8], [8, 9], [8], [8, 11], [8, 10, 12], [8, 13], [14], [15], [15], [15, 16, 17], [15], [15], [15, 19, 20], [15, 18, 21], [15, 22], [23], [24], [24, 25], [24, 26], [24, 27], [28], [28, 29], [28, 30], [28], [28, 32], [28, 33], [28, 31, 34], [24, 28, 35], [24, 36]] [(0, .string s), (1, .string r), (6, .bool false), (7, .int .i64 (plL (bl s) p)), (8, .int .i64 (plC (bl s) p)), (9, .int .i64 (plL (bl s) p)), (10, .int .i64 (plC (bl s) p))] (by exact ⟨rfl, rfl, rfl, rfl, rfl, rfl, rfl, trivial⟩) (by kernel_rfl) (by kernel_rfl) grown_none_refl (fun _ _ _ => grown_none_trans) ⟨fun _ _ _ h _ => by exact h, fun _ _ _ h _ => by exact h, fun _ _ _ h _ => by exact h, fun _ _ _ h _ => by exact h, fun _ _ _ h _ => by exact h, fun _ _ _ h _ => by exact h, fun _ _ _ h _ => by exact h, fun _ _ _ h _ => by exact h, fun _ _ _ h _ => by exact h, fun _ _ _ h _ => by exact h, fun _ _ _ h _ => by exact h, fun _ _ _ h _ => by exact h, fun _ _ _ h _ => by exact h, fun _ _ _ h _ => by exact h, fun _ _ _ h _ => by exact h, fun _ _ _ h _ => by exact h, fun _ _ _ h _ => by exact h, fun _ _ _ h _ => by exact h, fun _ _ _ h _ => by exact h, fun _ _ _ h _ => by exact h, fun _ _ _ h _ => by exact h, fun _ _ _ h _ => by exact h, fun _ _ _ h _ => by exact h, fun _ _ _ h _ => by exact h, fun _ _ _ h _ => by exact h, fun _ _ _ h _ => by exact h, fun _ _ _ h _ => by exact h, fun _ _ _ h _ => by exact h, fun _ _ _ h _ => by exact h, fun _ _ _ h _ => by exact h, fun _ _ _ h _ => by exact h, fun _ _ _ h _ => by exact h, fun _ _ _ h _ => by exact h, fun _ _ _ h _ => by exact h, fun _ _ _ h _ => by exact h, fun _ _ _ h _ => by exact h, fun _ _ _ h _ => by exact h, fun _ _ _ h _ => by exact h, trivial⟩ ?_
        intro w236 k236 hs6
        have hb220 := below_g0 hb3 k236
        refine ⟨⟨?_, ?_, ?_, ?_, ?_, ?_, ?_, ?_, ?_, ?_, ?_, ?_, ?_, ?_, ?_, ?_, ?_, ?_, ?_, ?_, ?_, ?_, ?_, ?_, ?_, ?_, ?_, ?_, ?_, ?_, ?_, ?_, ?_, ?_, ?_, ?_, ?_, ?_, trivial⟩, ?_⟩
        · intro w237 k237
          have hb221 := below_g0 hb220 k237
          refine op1 (s_move rfl ?_)
          exact ⟨rfl, grown_none_refl _⟩
        · intro w238 k238
          have hb222 := below_g0 hb220 k238
          refine op1 (s_move rfl ?_)
          exact ⟨rfl, grown_none_refl _⟩
        · intro w239 k239
          have hb223 := below_g0 hb220 k239
          rintro _ rfl
          rintro _ rfl
          refine op1 (s_eq rfl rfl ?_)
          exact ⟨rfl, grown_none_refl _⟩
        · intro w240 k240
          have hb224 := below_g0 hb220 k240
          rintro _ rfl
          refine op1 (s_move rfl ?_)
          exact ⟨(by rw [decide_eq_false h3]), grown_none_refl _⟩
        · intro w241 k241
          have hb225 := below_g0 hb220 k241
          rintro _ rfl
          refine op1p ⟨rfl, grown_none_refl _⟩
        · intro w242 k242
          have hb226 := below_g0 hb220 k242
          rintro _ rfl
          refine op1p ⟨rfl, grown_none_refl _⟩
        · intro w243 k243
          have hb227 := below_g0 hb220 k243
          rintro _ rfl
          intro v_ hv_; subst v_
          intro v_ hv_; subst v_
          refine op1p ⟨rfl, grown_none_refl _⟩
        · intro w244 k244
          have hb228 := below_g0 hb220 k244
          rintro _ rfl
          intro v_ hv_; subst v_
          refine op1 (s_pick rfl rfl ?_)
          exact ⟨rfl, grown_none_refl _⟩
        · intro w245 k245
          have hb229 := below_g0 hb220 k245
          rintro _ rfl
          refine op1 (s_move rfl ?_)
          exact ⟨rfl, grown_none_refl _⟩
        · intro w246 k246
          have hb230 := below_g0 hb220 k246
          rintro _ rfl
          refine op1p ⟨rfl, grown_none_refl _⟩
        · intro w247 k247
          have hb231 := below_g0 hb220 k247
          rintro _ rfl
          intro v_ hv_; subst v_
          refine op1p ⟨rfl, grown_none_refl _⟩
        · intro w248 k248
          have hb232 := below_g0 hb220 k248
          rintro _ rfl
          refine op1p ⟨rfl, grown_none_refl _⟩
        · intro w249 k249
          have hb233 := below_g0 hb220 k249
          rintro _ rfl
          intro v_ hv_; subst v_
          refine op1p ⟨rfl, grown_none_refl _⟩
        · intro w250 k250
          have hb234 := below_g0 hb220 k250
          rintro _ rfl
          intro v_ hv_; subst v_
          intro v_ hv_; subst v_
          refine op1p ⟨rfl, grown_none_refl _⟩
        · intro w251 k251
          have hb235 := below_g0 hb220 k251
          rintro _ rfl
          intro v_ hv_; subst v_
          refine op1 (s_pick rfl rfl ?_)
          exact ⟨rfl, grown_none_refl _⟩
        · intro w252 k252
          have hb236 := below_g0 hb220 k252
          rintro _ rfl
          refine op1 (s_move rfl ?_)
          exact ⟨rfl, grown_none_refl _⟩
        · intro w253 k253
          have hb237 := below_g0 hb220 k253
          rintro _ rfl
          refine op1p ⟨rfl, grown_none_refl _⟩
        · intro w254 k254
          have hb238 := below_g0 hb220 k254
          rintro _ rfl
          refine op1p ⟨rfl, grown_none_refl _⟩
        · intro w255 k255
          have hb239 := below_g0 hb220 k255
          rintro _ rfl
          intro v_ hv_; subst v_
          intro v_ hv_; subst v_
          refine op1p ⟨rfl, grown_none_refl _⟩
        · intro w256 k256
          have hb240 := below_g0 hb220 k256
          rintro _ rfl
          refine op1p ⟨rfl, grown_none_refl _⟩
        · intro w257 k257
          have hb241 := below_g0 hb220 k257
          rintro _ rfl
          refine op1p ⟨rfl, grown_none_refl _⟩
        · intro w258 k258
          have hb242 := below_g0 hb220 k258
          rintro _ rfl
          intro v_ hv_; subst v_
          intro v_ hv_; subst v_
          refine op1p ⟨rfl, grown_none_refl _⟩
        · intro w259 k259
          have hb243 := below_g0 hb220 k259
          rintro _ rfl
          intro v_ hv_; subst v_
          intro v_ hv_; subst v_
          refine op1p ⟨rfl, grown_none_refl _⟩
        · intro w260 k260
          have hb244 := below_g0 hb220 k260
          rintro _ rfl
          intro v_ hv_; subst v_
          refine op1 (s_pick rfl rfl ?_)
          exact ⟨rfl, grown_none_refl _⟩
        · intro w261 k261
          have hb245 := below_g0 hb220 k261
          rintro _ rfl
          refine op1 (s_move rfl ?_)
          exact ⟨rfl, grown_none_refl _⟩
        · intro w262 k262
          have hb246 := below_g0 hb220 k262
          rintro _ rfl
          refine op1p ⟨rfl, grown_none_refl _⟩
        · intro w263 k263
          have hb247 := below_g0 hb220 k263
          rintro _ rfl
          intro v_ hv_; subst v_
          refine op1p ⟨rfl, grown_none_refl _⟩
        · intro w264 k264
          have hb248 := below_g0 hb220 k264
          rintro _ rfl
          intro v_ hv_; subst v_
          refine op1p ⟨rfl, grown_none_refl _⟩
        · intro w265 k265
          have hb249 := below_g0 hb220 k265
          rintro _ rfl
          intro v_ hv_; subst v_
          refine op1p ⟨rfl, grown_none_refl _⟩
        · intro w266 k266
          have hb250 := below_g0 hb220 k266
          intro v_ hv_; subst v_
          refine op1u ⟨rfl, grown_none_refl _⟩
        · intro w267 k267
          have hb251 := below_g0 hb220 k267
          intro v_ hv_; subst v_
          intro v_ hv_; subst v_
          refine op1u ⟨rfl, grown_none_refl _⟩
        · intro w268 k268
          have hb252 := below_g0 hb220 k268
          intro v_ hv_; subst v_
          intro v_ hv_; subst v_
          refine op1u ⟨rfl, grown_none_refl _⟩
        · intro w269 k269
          have hb253 := below_g0 hb220 k269
          intro v_ hv_; subst v_
          refine op1u ⟨rfl, grown_none_refl _⟩
        · intro w270 k270
          have hb254 := below_g0 hb220 k270
          intro v_ hv_; subst v_
          intro v_ hv_; subst v_
          refine op1u ⟨rfl, grown_none_refl _⟩
        · intro w271 k271
          have hb255 := below_g0 hb220 k271
          intro v_ hv_; subst v_
          intro v_ hv_; subst v_
          refine op1u ⟨rfl, grown_none_refl _⟩
        · intro w272 k272
          have hb256 := below_g0 hb220 k272
          intro v_ hv_; subst v_
          intro v_ hv_; subst v_
          intro v_ hv_; subst v_
          refine op1u ⟨rfl, grown_none_refl _⟩
        · intro w273 k273
          have hb257 := below_g0 hb220 k273
          rintro _ rfl
          intro v_ hv_; subst v_
          intro v_ hv_; subst v_
          refine op1p ⟨rfl, grown_none_refl _⟩
        · intro w274 k274
          have hb258 := below_g0 hb220 k274
          rintro _ rfl
          intro v_ hv_; subst v_
          refine op1 (s_pick rfl rfl ?_)
          exact ⟨rfl, grown_none_refl _⟩
        · intro w275 k275
          have hb259 := below_g0 hb220 k275
          rintro _ rfl
          rintro _ rfl
          rintro _ rfl
          rintro _ rfl
          intro v_ hv_; subst v_
          intro v_ hv_; subst v_
          intro v_ hv_; subst v_
          rintro _ rfl
          rintro _ rfl
          intro v_ hv_; subst v_
          intro v_ hv_; subst v_
          intro v_ hv_; subst v_
          intro v_ hv_; subst v_
          intro v_ hv_; subst v_
          rintro _ rfl
          rintro _ rfl
          intro v_ hv_; subst v_
          intro v_ hv_; subst v_
          intro v_ hv_; subst v_
          intro v_ hv_; subst v_
          intro v_ hv_; subst v_
          intro v_ hv_; subst v_
          intro v_ hv_; subst v_
          rintro _ rfl
          rintro _ rfl
          intro v_ hv_; subst v_
          intro v_ hv_; subst v_
          intro v_ hv_; subst v_
          intro v_ hv_; subst v_
          intro v_ hv_; subst v_
          intro v_ hv_; subst v_
          intro v_ hv_; subst v_
          intro v_ hv_; subst v_
          intro v_ hv_; subst v_
          intro v_ hv_; subst v_
          intro v_ hv_; subst v_
          intro v_ hv_; subst v_
          rintro _ rfl
          refine st (s_assign rfl ?_)
          refine r_end ?_
          refine n_then ?_
          refine w_ret1 rfl rfl ?_
          refine ⟨_, rfl, hb259, ?_⟩
          first | exact absurd rfl h3 | exact absurd h3 (by simp)

theorem next4_any {w : World} {s : ByteArray} {p : Int} (hp : 0 ≤ p ∧ p ≤ 65535) :
    Calls Try.prog 4 [.string s, .int .u16 p].toArray w (Pure w fun v _ => v = .bool true) := by
  have hb0 := Below.refl w.heap.size w
  refine enter Try.func4 rfl rfl ?_
  refine w_seq ?_
  refine w_region ?_
  refine st (s_assign rfl ?_)
  refine r_end ?_
  refine n_then ?_
  refine w_seq ?_
  refine w_seq ?_
  refine w_region ?_
  refine st (s_call fn13 rfl (alive4_any) ?_)
  rintro _ w1 ⟨hq1, rfl⟩
  have k1 := grown_of_below hq1 none
  have hz1 := hq1.size
  have hb1 := below_g0 hb0 k1
  have hz2 := hb1.size
  refine st (s_not rfl ?_)
  refine r_end ?_
  refine n_then ?_
  refine w_condF rfl ?_
  refine w_skip' ?_
  refine n_then ?_
  refine w_seq ?_
  refine w_seq ?_
  refine w_region ?_
  refine st (s_move rfl ?_)
  refine st (s_slen str9 rfl ?_)
  refine st (s_gt rfl rfl ?_)
  refine st (s_move rfl ?_)
  refine r_caseP 15 rfl (fun h1 => ?_) (fun h1 => ?_)
  · refine s_pass rfl rfl ?_
    refine s_pass rfl rfl ?_
    refine s_pass rfl rfl ?_
    refine st (s_pick rfl rfl ?_)
    refine r_end ?_
    refine n_then ?_
    refine w_condT rfl ?_
    refine w_seq ?_
    refine w_region ?_
    refine st (s_assign rfl ?_)
    refine r_end ?_
    refine n_then ?_
    refine w_ret1 rfl rfl ?_
    exact ⟨_, rfl, hb1, rfl⟩
  · refine stg (s_move rfl ?_)
    refine stg (s_slen str9 rfl ?_)
    refine stg (s_eq rfl rfl ?_)
    refine st (s_pick rfl rfl ?_)
    refine r_end ?_
    refine n_then ?_
    refine w_condP rfl (fun h2 => ?_) (fun h2 => ?_)
    · refine w_seq ?_
      refine w_region ?_
      refine st (s_assign rfl ?_)
      refine r_end ?_
      refine n_then ?_
      refine w_ret1 rfl rfl ?_
      exact ⟨_, rfl, hb1, rfl⟩
    · have hp : 0 ≤ p ∧ p ≤ 65535 := hp
      have hk0 := Int.tmod_nonneg ((bl s).length : Int) hp.1
      have hk1 := Int.tmod_lt_of_pos p (show (0 : Int) < (bl s).length by omega)
      have hn := pl_next (xs := bl s) hk0 hk1
      have hg := pl_rng (xs := bl s) (p := Int.tmod p ((bl s).length : Int)) (by omega)
      refine w_skip' ?_
      refine n_then ?_
      refine w_seq ?_
      refine w_region ?_
      refine st (s_move rfl ?_)
      refine st (s_conv64 intk29 intk3 rfl (by omega) ?_)
      refine st (s_move rfl ?_)
      refine st (s_slen str9 rfl ?_)
      refine st (s_rem rfl rfl (by omega) ?_)
      refine st (s_assign rfl ?_)
      refine r_end ?_
      refine n_then ?_
      refine w_seq ?_
      refine w_region ?_
      refine st (s_move rfl ?_)
      refine st (s_move rfl ?_)
      refine st (s_call fn14 rfl (place_any (by first | omega | (simp; omega) | decide)) ?_)
      rintro _ w2 ⟨hq2, rfl⟩
      have k2 := grown_of_below hq2 none
      have hz3 := hq2.size
      have hb2 := below_g0 hb1 k2
      have hz4 := hb2.size
      refine st (s_move rfl ?_)
      refine st (s_extract rfl rfl ?_)
      refine st (s_extract rfl rfl ?_)
      refine st (s_assign rfl ?_)
      refine st (s_assign rfl ?_)
      refine r_end ?_
      refine n_then ?_
      refine w_seq ?_
      refine w_region ?_
      refine st (s_move rfl ?_)
      refine st (s_move rfl ?_)
      refine st (s_add rfl rfl (by omega) ?_)
      refine st (s_call fn14 rfl (place_any (by first | omega | (simp; omega) | decide)) ?_)
      rintro _ w3 ⟨hq3, rfl⟩
      have k3 := grown_of_below hq3 none
      have hz5 := hq3.size
      have hb3 := below_g0 hb2 k3
      have hz6 := hb3.size
      refine st (s_move rfl ?_)
      refine st (s_extract rfl rfl ?_)
      refine st (s_extract rfl rfl ?_)
      refine st (s_assign rfl ?_)
      refine st (s_assign rfl ?_)
      refine r_end ?_
      refine n_then ?_
      refine w_seq ?_
      refine w_seq ?_
      refine w_region ?_
      refine st (s_move rfl ?_)
      refine st (s_move rfl ?_)
      refine st (s_sidx str9 rfl rfl (by omega) (by omega) ?_)
      refine st (s_eq rfl rfl ?_)
      refine r_end ?_
      refine n_then ?_
      refine w_condP rfl (fun h3 => ?_) (fun h3 => ?_)
      · refine w_seq ?_
        refine w_region ?_
        refine st (s_move rfl ?_)
        refine st (s_move rfl ?_)
        refine st (s_add rfl rfl (by omega) ?_)
        refine st (s_eq rfl rfl ?_)
        refine st (s_move rfl ?_)
        refine r_caseP 46 rfl (fun h4 => ?_) (fun h4 => ?_)
        · refine stg (s_move rfl ?_)
          refine stg (s_eq rfl rfl ?_)
          refine st (s_pick rfl rfl ?_)
          refine st (s_assign rfl ?_)
          refine r_end ?_
          refine n_then ?_
          refine w_ret1 rfl rfl ?_
          refine ⟨_, rfl, hb3, ?_⟩
          have e := hn.1 h3
          show Value.bool (decide _) = Value.bool true
          rw [decide_eq_true e.2]
        · refine s_pass rfl rfl ?_
          refine s_pass rfl rfl ?_
          refine st (s_pick rfl rfl ?_)
          refine st (s_assign rfl ?_)
          refine r_end ?_
          refine n_then ?_
          refine w_ret1 rfl rfl ?_
          refine ⟨_, rfl, hb3, ?_⟩
          have e := hn.1 h3
          exact absurd e.1 h4
      · refine w_skip' ?_
        refine n_then ?_
        refine w_seq ?_
        refine w_region ?_
        refine st (s_move rfl ?_)
        refine st (s_move rfl ?_)
        refine st (s_eq rfl rfl ?_)
        refine st (s_move rfl ?_)
        refine r_caseP 53 rfl (fun h5 => ?_) (fun h5 => ?_)
        · refine stg (s_move rfl ?_)
          refine stg (s_move rfl ?_)
          refine stg (s_add rfl rfl (by omega) ?_)
          refine stg (s_eq rfl rfl ?_)
          refine st (s_pick rfl rfl ?_)
          refine st (s_assign rfl ?_)
          refine r_end ?_
          refine n_then ?_
          refine w_ret1 rfl rfl ?_
          refine ⟨_, rfl, hb3, ?_⟩
          have e := hn.2 h3
          show Value.bool (decide _) = Value.bool true
          rw [decide_eq_true e.2]
        · refine s_pass rfl rfl ?_
          refine s_pass rfl rfl ?_
          refine s_pass rfl rfl ?_
          refine s_pass rfl rfl ?_
          refine st (s_pick rfl rfl ?_)
          refine st (s_assign rfl ?_)
          refine r_end ?_
          refine n_then ?_
          refine w_ret1 rfl rfl ?_
          refine ⟨_, rfl, hb3, ?_⟩
          have e := hn.2 h3
          exact absurd e.1 h5

theorem joins4_any {w : World} {s r q : ByteArray} :
    Calls Try.prog 5 [.string s, .string r, .string q].toArray w (Pure w fun v _ => v = .bool true) := by
  have hb0 := Below.refl w.heap.size w
  refine enter Try.func5 rfl rfl ?_
  refine w_seq ?_
  refine w_region ?_
  refine st (s_assign rfl ?_)
  refine r_end ?_
  refine n_then ?_
  refine w_seq ?_
  refine w_seq ?_
  refine w_region ?_
  refine st (s_call fn13 rfl (alive4_any) ?_)
  rintro _ w1 ⟨hq1, rfl⟩
  have k1 := grown_of_below hq1 none
  have hz1 := hq1.size
  have hb1 := below_g0 hb0 k1
  have hz2 := hb1.size
  refine st (s_not rfl ?_)
  refine r_end ?_
  refine n_then ?_
  refine w_condF rfl ?_
  refine w_skip' ?_
  refine n_then ?_
  refine w_seq ?_
  refine w_seq ?_
  refine w_region ?_
  refine st (s_move rfl ?_)
  refine st (s_slen str9 rfl ?_)
  refine st (s_gt rfl rfl ?_)
  refine st (s_move rfl ?_)
  refine r_caseP 13 rfl (fun h1 => ?_) (fun h1 => ?_)
  · refine s_pass rfl rfl ?_
    refine s_pass rfl rfl ?_
    refine s_pass rfl rfl ?_
    refine st (s_pick rfl rfl ?_)
    refine st (s_move rfl ?_)
    refine s_pass rfl rfl ?_
    refine s_pass rfl rfl ?_
    refine s_pass rfl rfl ?_
    refine st (s_pick rfl rfl ?_)
    refine r_end ?_
    refine n_then ?_
    refine w_condT rfl ?_
    refine w_seq ?_
    refine w_region ?_
    refine st (s_assign rfl ?_)
    refine r_end ?_
    refine n_then ?_
    refine w_ret1 rfl rfl ?_
    exact ⟨_, rfl, hb1, rfl⟩
  · refine stg (s_move rfl ?_)
    refine stg (s_slen str9 rfl ?_)
    refine stg (s_gt rfl rfl ?_)
    refine st (s_pick rfl rfl ?_)
    refine st (s_move rfl ?_)
    refine r_caseP 18 rfl (fun h2 => ?_) (fun h2 => ?_)
    · refine s_pass rfl rfl ?_
      refine s_pass rfl rfl ?_
      refine s_pass rfl rfl ?_
      refine st (s_pick rfl rfl ?_)
      refine r_end ?_
      refine n_then ?_
      refine w_condT rfl ?_
      refine w_seq ?_
      refine w_region ?_
      refine st (s_assign rfl ?_)
      refine r_end ?_
      refine n_then ?_
      refine w_ret1 rfl rfl ?_
      exact ⟨_, rfl, hb1, rfl⟩
    · refine stg (s_move rfl ?_)
      refine stg (s_slen str9 rfl ?_)
      refine stg (s_gt rfl rfl ?_)
      refine st (s_pick rfl rfl ?_)
      refine r_end ?_
      refine n_then ?_
      refine w_condP rfl (fun h3 => ?_) (fun h3 => ?_)
      · refine w_seq ?_
        refine w_region ?_
        refine st (s_assign rfl ?_)
        refine r_end ?_
        refine n_then ?_
        refine w_ret1 rfl rfl ?_
        exact ⟨_, rfl, hb1, rfl⟩
      · have hcr1 := com_rng (bl r) (bl q)
        have hla : ((bl (s ++ r)).length : Int) = (bl s).length + (bl r).length := by rw [bl_append]; simp
        have hlq : ((bl (s ++ q)).length : Int) = (bl s).length + (bl q).length := by rw [bl_append]; simp
        refine w_skip' ?_
        refine n_then ?_
        refine w_seq ?_
        refine w_seq ?_
        refine w_region ?_
        refine st (s_move rfl ?_)
        refine st (s_move rfl ?_)
        refine st (s_scat rfl rfl (by first | omega | (simp; omega)) ?_)
        refine st (s_move rfl ?_)
        refine st (s_move rfl ?_)
        refine st (s_scat rfl rfl (by first | omega | (simp; omega)) ?_)
        refine st (s_call fn18 rfl (com_any (by first | omega | (simp; omega) | decide) (by first | omega | (simp; omega) | decide)) ?_)
        rintro _ w2 ⟨hq2, rfl⟩
        have k2 := grown_of_below hq2 none
        have hz3 := hq2.size
        have hb2 := below_g0 hb1 k2
        have hz4 := hb2.size
        refine st (s_move rfl ?_)
        refine st (s_slen str9 rfl ?_)
        refine st (s_move rfl ?_)
        refine st (s_move rfl ?_)
        refine st (s_call fn18 rfl (com_any (by first | omega | (simp; omega) | decide) (by first | omega | (simp; omega) | decide)) ?_)
        rintro _ w3 ⟨hq3, rfl⟩
        have k3 := grown_of_below hq3 none
        have hz5 := hq3.size
        have hb3 := below_g0 hb2 k3
        have hz6 := hb3.size
        refine st (s_add rfl rfl (by omega) ?_)
        refine st (s_ne rfl rfl ?_)
        refine st (s_move rfl ?_)
        refine r_caseP 37 rfl (fun h4 => ?_) (fun h4 => ?_)
        · refine s_pass rfl rfl ?_
          refine s_pass rfl rfl ?_
          refine s_pass rfl rfl ?_
          refine s_pass rfl rfl ?_
          refine s_pass rfl rfl ?_
          refine s_pass rfl rfl ?_
          refine s_pass rfl rfl ?_
          refine st (s_pick rfl rfl ?_)
          refine r_end ?_
          refine n_then ?_
          refine w_condT rfl ?_
          refine w_seq ?_
          refine w_region ?_
          refine st (s_assign rfl ?_)
          refine r_end ?_
          refine n_then ?_
          refine w_ret1 rfl rfl ?_
          refine ⟨_, rfl, hb3, ?_⟩
          rw [bl_append, bl_append, com_app] at h4
          exact absurd rfl h4
        · refine stg (s_move rfl ?_)
          refine stg (s_move rfl ?_)
          refine stg (s_call fn18 rfl (com_any (by first | omega | (simp; omega) | decide) (by first | omega | (simp; omega) | decide)) ?_)
          rintro _ w4 ⟨hq4, rfl⟩
          have k4 := grown_of_below hq4 none
          have hz7 := hq4.size
          have hb4 := below_g0 hb3 k4
          have hz8 := hb4.size
          refine stg (s_move rfl ?_)
          refine stg (s_move rfl ?_)
          refine stg (s_call fn18 rfl (com_any (by first | omega | (simp; omega) | decide) (by first | omega | (simp; omega) | decide)) ?_)
          rintro _ w5 ⟨hq5, rfl⟩
          have k5 := grown_of_below hq5 none
          have hz9 := hq5.size
          have hb5 := below_g0 hb4 k5
          have hz10 := hb5.size
          refine stg (s_ne rfl rfl ?_)
          refine st (s_pick rfl rfl ?_)
          refine r_end ?_
          refine n_then ?_
          refine w_condP rfl (fun h5 => ?_) (fun h5 => ?_)
          · refine w_seq ?_
            refine w_region ?_
            refine st (s_assign rfl ?_)
            refine r_end ?_
            refine n_then ?_
            refine w_ret1 rfl rfl ?_
            refine ⟨_, rfl, hb5, ?_⟩
            exact absurd (com_comm (bl s) (bl r)) h5
          · refine w_skip' ?_
            refine n_then ?_
            refine w_seq ?_
            refine w_region ?_
            refine st (s_move rfl ?_)
            refine st (s_call fn16 rfl (rule_any) ?_)
            rintro _ w6 ⟨hq6, rfl⟩
            have k6 := grown_of_below hq6 none
            have hz11 := hq6.size
            have hb6 := below_g0 hb5 k6
            have hz12 := hb6.size
            refine st (s_move rfl ?_)
            refine r_case 48 rfl (fun h6 => ?_) (fun h6 => ?_)
            · refine stg (s_move rfl ?_)
              refine stg (s_call fn16 rfl (rule_any) ?_)
              rintro _ w7 ⟨hq7, rfl⟩
              have k7 := grown_of_below hq7 none
              have hz13 := hq7.size
              have hb7 := below_g0 hb6 k7
              have hz14 := hb7.size
              refine st (s_pick rfl rfl ?_)
              refine st (s_assign rfl ?_)
              refine r_end ?_
              refine n_then ?_
              refine w_seq ?_
              refine w_region ?_
              refine st (s_move rfl ?_)
              refine st (s_not rfl ?_)
              refine st (s_move rfl ?_)
              refine r_case 54 rfl (fun h7 => ?_) (fun h7 => ?_)
              · refine s_pass rfl rfl ?_
                refine s_pass rfl rfl ?_
                refine s_pass rfl rfl ?_
                refine s_pass rfl rfl ?_
                refine s_pass rfl rfl ?_
                refine s_pass rfl rfl ?_
                refine s_pass rfl rfl ?_
                refine s_pass rfl rfl ?_
                refine s_pass rfl rfl ?_
                refine s_pass rfl rfl ?_
                refine s_pass rfl rfl ?_
                refine st (s_pick rfl rfl ?_)
                refine st (s_assign rfl ?_)
                refine r_end ?_
                refine n_then ?_
                refine w_ret1 rfl rfl ?_
                exact ⟨_, rfl, hb7, rfl⟩
              · refine stg (s_move rfl ?_)
                refine stg (s_move rfl ?_)
                refine stg (s_scat rfl rfl (by first | omega | (simp; omega)) ?_)
                refine stg (s_call fn16 rfl (rule_any) ?_)
                rintro _ w8 ⟨hq8, rfl⟩
                have k8 := grown_of_below hq8 none
                have hz15 := hq8.size
                have hb8 := below_g0 hb7 k8
                have hz16 := hb8.size
                refine stg (s_move rfl ?_)
                refine stg (s_slen str9 rfl ?_)
                refine stg (s_move rfl ?_)
                refine stg (s_slen str9 rfl ?_)
                refine stg (s_add rfl rfl (by omega) ?_)
                refine stg (s_le rfl rfl ?_)
                refine stg (s_eqbool bool4 rfl rfl ?_)
                refine st (s_pick rfl rfl ?_)
                refine st (s_assign rfl ?_)
                refine r_end ?_
                refine n_then ?_
                refine w_ret1 rfl rfl ?_
                refine ⟨_, rfl, hb8, ?_⟩
                rw [bl_append, rule_app (by simpa using h6) (by simpa using h7)]
                simp
            · refine s_pass rfl rfl ?_
              refine s_pass rfl rfl ?_
              refine st (s_pick rfl rfl ?_)
              refine st (s_assign rfl ?_)
              refine r_end ?_
              refine n_then ?_
              refine w_seq ?_
              refine w_region ?_
              refine st (s_move rfl ?_)
              refine st (s_not rfl ?_)
              refine st (s_move rfl ?_)
              refine s_pass rfl rfl ?_
              refine s_pass rfl rfl ?_
              refine s_pass rfl rfl ?_
              refine s_pass rfl rfl ?_
              refine s_pass rfl rfl ?_
              refine s_pass rfl rfl ?_
              refine s_pass rfl rfl ?_
              refine s_pass rfl rfl ?_
              refine s_pass rfl rfl ?_
              refine s_pass rfl rfl ?_
              refine s_pass rfl rfl ?_
              refine st (s_pick rfl rfl ?_)
              refine st (s_assign rfl ?_)
              refine r_end ?_
              refine n_then ?_
              refine w_ret1 rfl rfl ?_
              exact ⟨_, rfl, hb6, rfl⟩
end Go.Proofs.Ytencmmhfiepojaa
