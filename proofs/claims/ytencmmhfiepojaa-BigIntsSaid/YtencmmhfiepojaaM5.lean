/- Part of the proof: a library for walks, plain laws, and functions' walks. -/
import Derived.Test.YtencmmhfiepojaaM4
import Derived.Test.YtencmmhfiepojaaM3
set_option maxRecDepth 20000
set_option linter.unusedSimpArgs false
set_option linter.unusedVariables false
namespace Go.Proofs.Ytencmmhfiepojaa
open Go.RowKit Go.Gw
theorem len32_any {w : World} {x : Int} (hx : 0 ≤ x ∧ x < 4294967296) :
    Calls Try.prog 81 [.int .u32 x].toArray w (Pure w fun v _ => v = .int .i64 (blen x)) := by
  have hb0 := Below.refl w.heap.size w
  refine enter Try.func81 rfl rfl ?_
  refine w_seq ?_
  refine w_region ?_
  refine st (s_assign rfl ?_)
  refine r_end ?_
  refine n_then ?_
  refine w_seq ?_
  refine w_seq ?_
  refine w_region ?_
  refine st (s_move rfl ?_)
  refine st (s_ge rfl rfl ?_)
  refine r_end ?_
  refine n_then ?_
  refine w_condP rfl (fun h1 => ?_) (fun h1 => ?_)
  · refine w_seq ?_
    refine w_region ?_
    refine st (s_move rfl ?_)
    refine st (s_shrk (p := 65536) rfl rfl (by decide) (by decide) ?_)
    refine st (s_assign rfl ?_)
    refine r_end ?_
    refine n_then ?_
    refine w_region ?_
    refine st (s_assign rfl ?_)
    refine r_end ?_
    refine n_then ?_
    refine w_seq ?_
    refine w_seq ?_
    refine w_region ?_
    refine st (s_move rfl ?_)
    refine st (s_ge rfl rfl ?_)
    refine r_end ?_
    refine n_then ?_
    refine w_condP rfl (fun h2 => ?_) (fun h2 => ?_)
    · refine w_seq ?_
      refine w_region ?_
      refine st (s_move rfl ?_)
      refine st (s_shrk (p := 256) rfl rfl (by decide) (by decide) ?_)
      refine st (s_assign rfl ?_)
      refine r_end ?_
      refine n_then ?_
      refine w_region ?_
      refine st (s_move rfl ?_)
      refine st (s_add rfl rfl (by first | omega | exact bl_add (by omega)) ?_)
      refine st (s_assign rfl ?_)
      refine r_end ?_
      refine n_then ?_
      refine w_seq ?_
      refine w_region ?_
      refine st (s_move rfl ?_)
      refine st (s_move rfl ?_)
      refine st (s_convm (M := 256) rfl rfl intk44 intk5 rfl ?_)
      refine st (s_sidx str9 rfl rfl (by omega) (tab_lt (by decide +kernel) (by omega)) ?_)
      refine st (s_conv64 intk5 intk3 rfl (bl_conv _ _) ?_)
      refine st (s_add rfl rfl (by first | omega | exact bl_add (by omega)) ?_)
      refine st (s_assign rfl ?_)
      refine r_end ?_
      refine n_then ?_
      refine w_ret1 rfl rfl ?_
      have e1 := blen16 (x := x) (by omega)
      have e2 := blen8 (x := (x / 65536)) (by omega)
      exact ⟨_, rfl, hb0, congrArg (Value.int .i64) (len_fin (by decide +kernel) (by omega) (by omega))⟩
    · refine w_skip' ?_
      refine n_then ?_
      refine w_seq ?_
      refine w_region ?_
      refine st (s_move rfl ?_)
      refine st (s_move rfl ?_)
      refine st (s_convm (M := 256) rfl rfl intk44 intk5 rfl ?_)
      refine st (s_sidx str9 rfl rfl (by omega) (tab_lt (by decide +kernel) (by omega)) ?_)
      refine st (s_conv64 intk5 intk3 rfl (bl_conv _ _) ?_)
      refine st (s_add rfl rfl (by first | omega | exact bl_add (by omega)) ?_)
      refine st (s_assign rfl ?_)
      refine r_end ?_
      refine n_then ?_
      refine w_ret1 rfl rfl ?_
      have e1 := blen16 (x := x) (by omega)
      exact ⟨_, rfl, hb0, congrArg (Value.int .i64) (len_fin (by decide +kernel) (by omega) (by omega))⟩
  · refine w_skip' ?_
    refine n_then ?_
    refine w_seq ?_
    refine w_seq ?_
    refine w_region ?_
    refine st (s_move rfl ?_)
    refine st (s_ge rfl rfl ?_)
    refine r_end ?_
    refine n_then ?_
    refine w_condP rfl (fun h3 => ?_) (fun h3 => ?_)
    · refine w_seq ?_
      refine w_region ?_
      refine st (s_move rfl ?_)
      refine st (s_shrk (p := 256) rfl rfl (by decide) (by decide) ?_)
      refine st (s_assign rfl ?_)
      refine r_end ?_
      refine n_then ?_
      refine w_region ?_
      refine st (s_move rfl ?_)
      refine st (s_add rfl rfl (by first | omega | exact bl_add (by omega)) ?_)
      refine st (s_assign rfl ?_)
      refine r_end ?_
      refine n_then ?_
      refine w_seq ?_
      refine w_region ?_
      refine st (s_move rfl ?_)
      refine st (s_move rfl ?_)
      refine st (s_convm (M := 256) rfl rfl intk44 intk5 rfl ?_)
      refine st (s_sidx str9 rfl rfl (by omega) (tab_lt (by decide +kernel) (by omega)) ?_)
      refine st (s_conv64 intk5 intk3 rfl (bl_conv _ _) ?_)
      refine st (s_add rfl rfl (by first | omega | exact bl_add (by omega)) ?_)
      refine st (s_assign rfl ?_)
      refine r_end ?_
      refine n_then ?_
      refine w_ret1 rfl rfl ?_
      have e2 := blen8 (x := x) (by omega)
      exact ⟨_, rfl, hb0, congrArg (Value.int .i64) (len_fin (by decide +kernel) (by omega) (by omega))⟩
    · refine w_skip' ?_
      refine n_then ?_
      refine w_seq ?_
      refine w_region ?_
      refine st (s_move rfl ?_)
      refine st (s_move rfl ?_)
      refine st (s_convm (M := 256) rfl rfl intk44 intk5 rfl ?_)
      refine st (s_sidx str9 rfl rfl (by omega) (tab_lt (by decide +kernel) (by omega)) ?_)
      refine st (s_conv64 intk5 intk3 rfl (bl_conv _ _) ?_)
      refine st (s_add rfl rfl (by first | omega | exact bl_add (by omega)) ?_)
      refine st (s_assign rfl ?_)
      refine r_end ?_
      refine n_then ?_
      refine w_ret1 rfl rfl ?_
      exact ⟨_, rfl, hb0, congrArg (Value.int .i64) (len_fin (by decide +kernel) (by omega) (by omega))⟩

theorem len_any {w : World} {a : Value} {xs : List Int} (ha : Sl Kd.u32 w (fun _ => False) a xs) (hla : xs.length ≤ 100000) :
    Calls Try.prog 34 [a].toArray w (Pure w fun v _ => v = .int .i64 (blen (nv xs))) := by
  have hb0 := Below.refl w.heap.size w
  have hln1 := ha.lenle
  have hx9 := (lim_tl (nv xs)).ix (((tl (nv xs)).length : Int) - 1)
  have hb9 := blen_le hx9
  have hl9 := tl_len (nv_nonneg (lim_sl ha)) (nv_lt (lim_sl ha))
  refine enter Try.func34 rfl rfl ?_
  refine w_seq ?_
  refine w_region ?_
  refine st (s_assign rfl ?_)
  refine r_end ?_
  refine n_then ?_
  refine w_seq ?_
  refine w_region ?_
  refine st (s_move rfl ?_)
  refine st (s_call fn74 rfl (cut_any (ha.at0 hb0)) ?_)
  rintro v1 w1 ⟨hq1, hS1⟩
  have hS2 := hS1.orig u32_flat hb0
  have k1 := grown_of_below hq1 none
  have hz1 := hq1.size
  have hb1 := below_g0 hb0 k1
  have hz2 := hb1.size
  refine st (s_assign rfl ?_)
  refine r_end ?_
  refine n_then ?_
  refine w_seq ?_
  refine w_seq ?_
  refine w_region ?_
  refine st (s_move rfl ?_)
  refine st (s_len sl32 rfl (hS2.at0 hb1) ?_)
  refine st (s_eq rfl rfl ?_)
  refine r_end ?_
  refine n_then ?_
  refine w_condP rfl (fun h1 => ?_) (fun h1 => ?_)
  · refine w_seq ?_
    refine w_region ?_
    refine st (s_assign rfl ?_)
    refine r_end ?_
    refine n_then ?_
    refine w_ret1 rfl rfl ?_
    have e : tl (nv xs) = [] := List.eq_nil_of_length_eq_zero (by omega)
    have e2 : nv xs ≤ 0 := by rw [← nv_tl (nv_nonneg (lim_sl ha)), e]; exact Int.le_refl _
    exact ⟨_, rfl, hb1, by rw [blen_zero e2]⟩
  · refine w_skip' ?_
    refine n_then ?_
    refine w_seq ?_
    refine w_region ?_
    refine st (s_move rfl ?_)
    refine st (s_len sl32 rfl (hS2.at0 hb1) ?_)
    refine st (s_sub rfl rfl (by omega) ?_)
    refine st (s_mul rfl rfl (by omega) ?_)
    refine st (s_move rfl ?_)
    refine st (s_move rfl ?_)
    refine st (s_len sl32 rfl (hS2.at0 hb1) ?_)
    refine st (s_sub rfl rfl (by omega) ?_)
    refine st (s_idx sl32 rfl rfl (hS2.at0 hb1) (by omega) (by omega) ?_)
    rintro b1 o1 _ ⟨rfl, hr1⟩ hc1 hF1 hlt1
    have hl_1 := Loc.lt hF1
    refine st (s_load one44 rfl hc1 (j := 0) rfl ?_)
    refine st (s_call fn81 rfl (len32_any (by omega)) ?_)
    rintro _ w2 ⟨hq2, rfl⟩
    have k2 := grown_of_below hq2 none
    have hz3 := hq2.size
    have hb2 := below_g0 hb1 k2
    have hz4 := hb2.size
    refine st (s_add rfl rfl (by omega) ?_)
    refine st (s_assign rfl ?_)
    refine r_end ?_
    refine n_then ?_
    refine w_ret1 rfl rfl ?_
    have e := blen_last (lim_tl (nv xs)) (right_tl (nv xs)) h1
    rw [nv_tl (nv_nonneg (lim_sl ha))] at e
    exact ⟨_, rfl, hb2, by rw [← e]⟩

theorem bit_any {w : World} {a : Value} {i : Int} {xs : List Int} (ha : Sl Kd.u32 w (fun _ => False) a xs) (hi : i ≤ 9223372036854775807) :
    Calls Try.prog 36 [a, .int .i64 i].toArray w (Pure w fun v _ => v = .bool (bitB (nv xs) i)) := by
  have hb0 := Below.refl w.heap.size w
  have hln1 := ha.lenle
  have hxi := (lim_sl ha).ix (i / 32)
  have hsb := shr_bd hxi (i % 32)
  refine enter Try.func36 rfl rfl ?_
  refine w_seq ?_
  refine w_region ?_
  refine st (s_assign rfl ?_)
  refine r_end ?_
  refine n_then ?_
  refine w_seq ?_
  refine w_region ?_
  refine st (s_move rfl ?_)
  refine st (s_ge rfl rfl ?_)
  refine st (s_move rfl ?_)
  refine r_caseP 7 rfl (fun h1 => ?_) (fun h1 => ?_)
  · refine stg (s_move rfl ?_)
    refine stg (s_quoi rfl rfl (by omega) (by omega) ?_)
    refine stg (s_move rfl ?_)
    refine stg (s_len sl32 rfl (ha.at0 hb0) ?_)
    refine stg (s_lt rfl rfl ?_)
    refine st (s_pick rfl rfl ?_)
    refine st (s_move rfl ?_)
    refine r_caseP 14 rfl (fun h2 => ?_) (fun h2 => ?_)
    · refine stg (s_move rfl ?_)
      refine stg (s_move rfl ?_)
      refine stg (s_quoi rfl rfl (by omega) (by omega) ?_)
      refine stg (s_idx sl32 rfl rfl (ha.at0 hb0) (by omega) (by omega) ?_)
      rintro b1 o1 _ ⟨rfl, hr1⟩ hc1 hF1 hlt1
      have hl_1 := Loc.lt hF1
      refine stg (s_load one44 rfl hc1 (j := 0) rfl ?_)
      refine stg (s_move rfl ?_)
      refine stg (s_remk rfl rfl (by omega) (by omega) ?_)
      refine stg (s_shrk (p := (2 ^ ((i % 32)).toNat)) rfl rfl (by omega) (by rw [Nat.min_eq_left (by show ((i % 32)).toNat ≤ 32; omega)]) ?_)
      refine stg (s_and (M := 4294967296) rfl rfl rfl rfl (by omega) (by omega) ?_)
      refine stg (s_eq rfl rfl ?_)
      refine st (s_pick rfl rfl ?_)
      refine st (s_assign rfl ?_)
      refine r_end ?_
      refine n_then ?_
      refine w_ret1 rfl rfl ?_
      exact ⟨_, rfl, hb0, by rw [bit_yes (lim_sl ha) (by omega) (by omega)]⟩
    · refine s_pass rfl rfl ?_
      refine s_pass rfl rfl ?_
      refine s_pass rfl rfl ?_
      refine s_pass rfl rfl ?_
      refine s_pass rfl rfl ?_
      refine s_pass rfl rfl ?_
      refine s_pass rfl rfl ?_
      refine s_pass rfl rfl ?_
      refine s_pass rfl rfl ?_
      refine s_pass rfl rfl ?_
      refine st (s_pick rfl rfl ?_)
      refine st (s_assign rfl ?_)
      refine r_end ?_
      refine n_then ?_
      refine w_ret1 rfl rfl ?_
      exact ⟨_, rfl, hb0, by rw [bit_no2 (lim_sl ha) (by omega) (by omega)]⟩
  · refine s_pass rfl rfl ?_
    refine s_pass rfl rfl ?_
    refine s_pass rfl rfl ?_
    refine s_pass rfl rfl ?_
    refine s_pass rfl rfl ?_
    refine st (s_pick rfl rfl ?_)
    refine st (s_move rfl ?_)
    refine s_pass rfl rfl ?_
    refine s_pass rfl rfl ?_
    refine s_pass rfl rfl ?_
    refine s_pass rfl rfl ?_
    refine s_pass rfl rfl ?_
    refine s_pass rfl rfl ?_
    refine s_pass rfl rfl ?_
    refine s_pass rfl rfl ?_
    refine s_pass rfl rfl ?_
    refine s_pass rfl rfl ?_
    refine st (s_pick rfl rfl ?_)
    refine st (s_assign rfl ?_)
    refine r_end ?_
    refine n_then ?_
    refine w_ret1 rfl rfl ?_
    exact ⟨_, rfl, hb0, by rw [bit_no1 (by omega)]⟩
end Go.Proofs.Ytencmmhfiepojaa

set_option maxRecDepth 20000
set_option linter.unusedSimpArgs false
set_option linter.unusedVariables false
namespace Go.Proofs.Ytencmmhfiepojaa
open Go.RowKit Go.Gw
theorem bcut_any {w : World} {F : Nat → Prop} {a : Value} {xs : List Bool} (ha : Sl Kd.bool w F a xs) :
    Calls Try.prog 90 [a].toArray w (Pure w fun v _ => Sl Kd.bool w F v (tb (bv xs))) := by
  have hb0 := Below.refl w.heap.size w
  have hln1 := ha.lenle
  refine enter Try.func90 rfl rfl ?_
  refine w_seq ?_
  refine w_region ?_
  refine st (s_assign rfl ?_)
  refine r_end ?_
  refine n_then ?_
  refine w_seq ?_
  refine w_block ?_
  refine w_loop (α := Value × List Bool) (fun ((v, ys) : Value × List Bool) => [(0, v), (2, .slice none 0 0)]) (fun ((v, ys) : Value × List Bool) W => Below w.heap.size w W ∧ (Sl Kd.bool w F v ys) ∧ (bv ys = bv xs)) (fun ((v, ys) : Value × List Bool) => ys.length) ((a), (xs)) ⟨hb0, ha, rfl⟩ (by exact ⟨rfl, rfl, trivial⟩) ?_
  rintro ⟨v, ys⟩ w1 ⟨hb1, hv, hn⟩
  dsimp only at *
  have hz1 := hb1.size
  have hln9 := hv.lenle
  refine w_seq ?_
  refine w_seq ?_
  refine w_region ?_
  refine st (s_move rfl ?_)
  refine st (s_len sl68 rfl (hv.at0 hb1) ?_)
  refine st (s_gt rfl rfl ?_)
  refine st (s_move rfl ?_)
  refine r_caseP 6 rfl (fun h1 => ?_) (fun h1 => ?_)
  · refine stg (s_move rfl ?_)
    refine stg (s_move rfl ?_)
    refine stg (s_len sl68 rfl (hv.at0 hb1) ?_)
    refine stg (s_sub rfl rfl (by omega) ?_)
    refine stg (s_idx sl68 rfl rfl (hv.at0 hb1) (by omega) (by omega) ?_)
    rintro b1 o1 _ ⟨rfl, _⟩ hc1 hF1 hlt1
    have hl_1 := Loc.lt hF1
    refine stg (s_load one4 rfl hc1 (j := 0) rfl ?_)
    refine stg (s_not rfl ?_)
    refine st (s_pick rfl rfl ?_)
    refine r_end ?_
    refine n_then ?_
    refine w_cond rfl (fun h2 => ?_) (fun h2 => ?_)
    · have hc2 := bv_cut h1 (by simpa using h2)
      refine w_skip' ?_
      refine n_then ?_
      refine w_block ?_
      refine w_region ?_
      refine st (s_move rfl ?_)
      refine st (s_move rfl ?_)
      refine st (s_len sl68 rfl (hv.at0 hb1) ?_)
      refine st (s_sub rfl rfl (by omega) ?_)
      refine st (s_slhi sl68 rfl rfl (hv.at0 hb1) (by first | omega | (simp; omega)) (by first | omega | (simp; omega)) ?_)
      intro v1 hS1
      refine st (s_assign rfl ?_)
      refine r_end ?_
      refine n_block ?_
      exact n_round ((v1), (ys.take (((ys.length : Int) - 1)).toNat)) ⟨hb1, (hS1).orig bool_flat hb1, by rw [show ((ys.length : Int) - 1).toNat = ys.length - 1 by omega]; exact hc2.trans hn⟩ (by simp; omega) (by exact ⟨rfl, rfl, trivial⟩)
    · have hc3 : rightC ys := .inr (by simpa using h2)
      refine w_exit' ?_
      refine n_then_exit ?_
      refine n_then_exit ?_
      refine n_block_exit ?_
      refine n_then ?_
      refine w_seq ?_
      refine w_region ?_
      refine st (s_move rfl ?_)
      refine st (s_assign rfl ?_)
      refine r_end ?_
      refine n_then ?_
      refine w_ret1 rfl rfl ?_
      exact ⟨_, rfl, hb1, by rw [← hn, tb_bv hc3]; exact hv⟩
  · have hc3 : rightC ys := .inl (List.eq_nil_of_length_eq_zero (by omega))
    refine s_pass rfl rfl ?_
    refine s_pass rfl rfl ?_
    refine s_pass rfl rfl ?_
    refine s_pass rfl rfl ?_
    refine s_pass rfl rfl ?_
    refine s_pass rfl rfl ?_
    refine s_pass rfl rfl ?_
    refine st (s_pick rfl rfl ?_)
    refine r_end ?_
    refine n_then ?_
    refine w_condF rfl ?_
    refine w_exit' ?_
    refine n_then_exit ?_
    refine n_then_exit ?_
    refine n_block_exit ?_
    refine n_then ?_
    refine w_seq ?_
    refine w_region ?_
    refine st (s_move rfl ?_)
    refine st (s_assign rfl ?_)
    refine r_end ?_
    refine n_then ?_
    refine w_ret1 rfl rfl ?_
    exact ⟨_, rfl, hb1, by rw [← hn, tb_bv hc3]; exact hv⟩

theorem at_any {w : World} {a : Value} {i : Int} {xs : List Bool} (ha : Sl Kd.bool w (fun _ => False) a xs) :
    Calls Try.prog 76 [a, .int .i64 i].toArray w (Pure w fun v _ => v = .bool (atB xs i)) := by
  have hb0 := Below.refl w.heap.size w
  have hln1 := ha.lenle
  refine enter Try.func76 rfl rfl ?_
  refine w_seq ?_
  refine w_region ?_
  refine st (s_assign rfl ?_)
  refine r_end ?_
  refine n_then ?_
  refine w_seq ?_
  refine w_region ?_
  refine st (s_move rfl ?_)
  refine st (s_ge rfl rfl ?_)
  refine st (s_move rfl ?_)
  refine r_caseP 7 rfl (fun h1 => ?_) (fun h1 => ?_)
  · refine stg (s_move rfl ?_)
    refine stg (s_move rfl ?_)
    refine stg (s_len sl68 rfl (ha.at0 hb0) ?_)
    refine stg (s_lt rfl rfl ?_)
    refine st (s_pick rfl rfl ?_)
    refine st (s_move rfl ?_)
    refine r_caseP 13 rfl (fun h2 => ?_) (fun h2 => ?_)
    · refine stg (s_move rfl ?_)
      refine stg (s_move rfl ?_)
      refine stg (s_idx sl68 rfl rfl (ha.at0 hb0) (by omega) (by omega) ?_)
      rintro b1 o1 _ ⟨rfl, _⟩ hc1 hF1 hlt1
      have hl_1 := Loc.lt hF1
      refine stg (s_load one4 rfl hc1 (j := 0) rfl ?_)
      refine st (s_pick rfl rfl ?_)
      refine st (s_assign rfl ?_)
      refine r_end ?_
      refine n_then ?_
      refine w_ret1 rfl rfl ?_
      exact ⟨_, rfl, hb0, by unfold atB; rw [decide_eq_true (by omega), decide_eq_true (by omega), Bool.true_and, Bool.true_and]⟩
    · refine s_pass rfl rfl ?_
      refine s_pass rfl rfl ?_
      refine s_pass rfl rfl ?_
      refine s_pass rfl rfl ?_
      refine st (s_pick rfl rfl ?_)
      refine st (s_assign rfl ?_)
      refine r_end ?_
      refine n_then ?_
      refine w_ret1 rfl rfl ?_
      exact ⟨_, rfl, hb0, by unfold atB; rw [decide_eq_true (by omega), decide_eq_false h2]; rfl⟩
  · refine s_pass rfl rfl ?_
    refine s_pass rfl rfl ?_
    refine s_pass rfl rfl ?_
    refine s_pass rfl rfl ?_
    refine st (s_pick rfl rfl ?_)
    refine st (s_move rfl ?_)
    refine s_pass rfl rfl ?_
    refine s_pass rfl rfl ?_
    refine s_pass rfl rfl ?_
    refine s_pass rfl rfl ?_
    refine st (s_pick rfl rfl ?_)
    refine st (s_assign rfl ?_)
    refine r_end ?_
    refine n_then ?_
    refine w_ret1 rfl rfl ?_
    exact ⟨_, rfl, hb0, by unfold atB; rw [decide_eq_false h1]; rfl⟩

theorem rbits_any {w : World} {a : Value} {xs : List Int} (ha : Sl Kd.u32 w (fun _ => False) a xs) (hla : xs.length ≤ 100000) :
    Calls Try.prog 75 [a].toArray w (Pure w fun v W => Sl Kd.bool W (fun _ => False) v (tb (nv xs))) := by
  have hb0 := Below.refl w.heap.size w
  have hln1 := ha.lenle
  refine enter Try.func75 rfl rfl ?_
  refine w_seq ?_
  refine w_region ?_
  refine st (s_assign rfl ?_)
  refine r_end ?_
  refine n_then ?_
  refine w_seq ?_
  refine w_region ?_
  refine st (s_assign rfl ?_)
  refine r_end ?_
  refine n_then ?_
  refine w_seq ?_
  refine w_seq ?_
  refine w_region ?_
  refine st (s_assign rfl ?_)
  refine r_end ?_
  refine n_then ?_
  refine w_block ?_
  refine w_loop (α := Int × Value × List Bool) (fun ((i, v, os) : Int × Value × List Bool) => [(0, a), (2, .slice none 0 0), (3, v), (4, .int .i64 i)]) (fun ((i, v, os) : Int × Value × List Bool) W => Below w.heap.size w W ∧ (0 ≤ i ∧ i ≤ xs.length) ∧ (Gw.Own Kd.bool 4 w.heap.size W (fun _ => False) v os) ∧ ((os.length : Int) = 32 * i) ∧ (bv os = nv (xs.take i.toNat))) (fun ((i, v, os) : Int × Value × List Bool) => (xs.length - i).toNat) ((0), (.slice none 0 0), ([])) ⟨hb0, by omega, Own.nil Kd.bool 4 _ _ _, rfl, rfl⟩ (by exact ⟨rfl, rfl, rfl, rfl, trivial⟩) ?_
  rintro ⟨i, v, os⟩ w1 ⟨hb1, hi, hO, hol, hn⟩
  dsimp only at *
  have hz1 := hb1.size
  have hxa := (lim_sl ha).ix i
  refine w_seq ?_
  refine w_seq ?_
  refine w_region ?_
  refine st (s_move rfl ?_)
  refine st (s_move rfl ?_)
  refine st (s_len sl32 rfl (ha.at0 hb1) ?_)
  refine st (s_lt rfl rfl ?_)
  refine r_end ?_
  refine n_then ?_
  refine w_condP rfl (fun h1 => ?_) (fun h1 => ?_)
  · refine w_skip' ?_
    refine n_then ?_
    refine w_seq ?_
    refine w_block ?_
    refine w_seq ?_
    refine w_region ?_
    refine st (s_move rfl ?_)
    refine st (s_move rfl ?_)
    refine st (s_idx sl32 rfl rfl (ha.at0 hb1) (by omega) (by omega) ?_)
    rintro b1 o1 _ ⟨rfl, hr1⟩ hc1 hF1 hlt1
    have hl_1 := Loc.lt hF1
    refine st (s_load one44 rfl hc1 (j := 0) rfl ?_)
    refine st (s_assign rfl ?_)
    refine r_end ?_
    refine n_then ?_
    refine w_seq ?_
    refine w_region ?_
    refine st (s_assign rfl ?_)
    refine r_end ?_
    refine n_then ?_
    refine w_block ?_
    refine w_loop (α := Int × Value × List Bool × Int) (fun ((k, v, os, x) : Int × Value × List Bool × Int) => [(0, a), (2, .slice none 0 0), (3, v), (4, .int .i64 i), (5, .int .u32 x), (6, .int .i64 k)]) (fun ((k, v, os, x) : Int × Value × List Bool × Int) W => Below w.heap.size w W ∧ (0 ≤ k ∧ k ≤ 32) ∧ (Gw.Own Kd.bool 4 w.heap.size W (fun _ => False) v os) ∧ ((os.length : Int) = 32 * i + k) ∧ (0 ≤ x ∧ x < 2 ^ (32 - k).toNat) ∧ (x < 4294967296) ∧ (bv os + 2 ^ os.length * x = nv (xs.take i.toNat) + PW i.toNat * ix xs i)) (fun ((k, v, os, x) : Int × Value × List Bool × Int) => (32 - k).toNat) ((0), (v), (os), (ix xs i)) ⟨hb1, by omega, hO, by omega, ⟨hxa.1, hxa.2⟩, hxa.2, by rw [hn, PW_two, show os.length = 32 * i.toNat by omega]⟩ (by exact ⟨rfl, rfl, rfl, rfl, rfl, rfl, trivial⟩) ?_
    rintro ⟨k, v, os, x⟩ w2 ⟨hb2, hk, hO, hol, hx2, hxl, hn2⟩
    dsimp only at *
    have hz2 := hb2.size
    refine w_seq ?_
    refine w_seq ?_
    refine w_region ?_
    refine st (s_move rfl ?_)
    refine st (s_lt rfl rfl ?_)
    refine r_end ?_
    refine n_then ?_
    refine w_condP rfl (fun h2 => ?_) (fun h2 => ?_)
    · refine w_skip' ?_
      refine n_then ?_
      refine w_seq ?_
      refine w_block ?_
      refine w_region ?_
      refine st (s_move rfl ?_)
      refine st (s_move rfl ?_)
      refine st (s_remk rfl rfl (by omega) (by omega) ?_)
      refine st (s_eq rfl rfl ?_)
      refine st (s_bslice (ps := [(0, .tmp 24)]) (ccs := [#[.bool (decide ((x % 2) = 1))]]) (e := 4) (cells := [.bool (decide ((x % 2) = 1))]) rfl rfl (by kernel_rfl) (by decide) nz4 ?_)
      intro g1 w3 hg1 hB1 k1 hs1
      have hb3 := below_g0 hb2 k1
      have hz3 := hb3.size
      have hO1 := hO.g0 k1
      refine st (s_append (K := Kd.bool) sl68 rfl rfl hO1 (lit_bool hB1 hO (fun h => h) hg1) bool_ones (by simp; omega) (by simp; omega) (by first | exact Nat.le_refl _ | omega) (fun _ h => h.elim) ?_)
      intro v1 w4 hO2 k2 hr2
      have hb4 := hb3.grown k2 hb3.size (fun k_ hk_ => (hO1.lt k_ hk_).1)
      have hz4 := hb4.size
      refine st (s_move rfl ?_)
      refine st (s_quok (M := 4294967296) rfl rfl rfl rfl (by omega) (by omega) ?_)
      refine st (s_assign rfl ?_)
      refine st (s_assign rfl ?_)
      refine r_end ?_
      refine n_block ?_
      refine n_then ?_
      refine w_region ?_
      refine st (s_move rfl ?_)
      refine st (s_add rfl rfl (by omega) ?_)
      refine st (s_assign rfl ?_)
      refine r_end ?_
      exact n_round (((k + 1)), (v1), (os ++ [decide ((x % 2) = 1)]), ((x / 2))) ⟨hb4, by omega, hO2, by simp; omega, half_bd hx2 hk.1 (by omega), by dsimp only; omega, bits_step hn2⟩ (by omega) (by exact ⟨rfl, rfl, rfl, rfl, rfl, rfl, trivial⟩)
    · refine w_exit' ?_
      refine n_then_exit ?_
      refine n_then_exit ?_
      refine n_block_exit ?_
      refine n_block ?_
      refine n_then ?_
      refine w_region ?_
      refine st (s_move rfl ?_)
      refine st (s_add rfl rfl (by omega) ?_)
      refine st (s_assign rfl ?_)
      refine r_end ?_
      exact n_round (((i + 1)), (v), (os)) ⟨hb2, by omega, hO, by dsimp only; omega, bits_next (bits_end hn2 hx2 (by omega)) hi.1⟩ (by omega) (by exact ⟨rfl, rfl, rfl, rfl, trivial⟩)
  · refine w_exit' ?_
    refine n_then_exit ?_
    refine n_then_exit ?_
    refine n_block_exit ?_
    refine n_then ?_
    refine w_seq ?_
    refine w_region ?_
    refine st (s_move rfl ?_)
    refine st (s_call fn90 rfl (bcut_any hO.sl) ?_)
    rintro v2 w5 ⟨hq1, hS1⟩
    have k3 := grown_of_below hq1 none
    have hz5 := hq1.size
    have hb5 := below_g0 hb1 k3
    have hz6 := hb5.size
    have hO3 := hO.g0 k3
    have hS2 := hS1.none.g0 k3
    refine st (s_assign rfl ?_)
    refine r_end ?_
    refine n_then ?_
    refine w_ret1 rfl rfl ?_
    refine ⟨_, rfl, hb5, ?_⟩
    rw [← show bv os = nv xs by rw [hn, List.take_of_length_le (by omega)]]
    exact hS2
end Go.Proofs.Ytencmmhfiepojaa

set_option maxRecDepth 20000
set_option linter.unusedSimpArgs false
set_option linter.unusedVariables false
namespace Go.Proofs.Ytencmmhfiepojaa
open Go.RowKit Go.Gw
theorem rof_any {w : World} {a : Value} {xs : List Bool} (ha : Sl Kd.bool w (fun _ => False) a xs) (hla : xs.length ≤ 10000000) :
    Calls Try.prog 77 [a].toArray w (Pure w fun v W => Sl Kd.u32 W (fun _ => False) v (tl (bv xs))) := by
  have hb0 := Below.refl w.heap.size w
  have hln1 := ha.lenle
  have hbl : ((tb (bv xs)).length : Int) ≤ 10000000 := tb_le (by omega)
  refine enter Try.func77 rfl rfl ?_
  refine w_seq ?_
  refine w_region ?_
  refine st (s_assign rfl ?_)
  refine r_end ?_
  refine n_then ?_
  refine w_seq ?_
  refine w_region ?_
  refine st (s_move rfl ?_)
  refine st (s_call fn90 rfl (bcut_any (ha.at0 hb0)) ?_)
  rintro v1 w1 ⟨hq1, hS1⟩
  have hS2 := hS1.orig bool_flat hb0
  have k1 := grown_of_below hq1 none
  have hz1 := hq1.size
  have hb1 := below_g0 hb0 k1
  have hz2 := hb1.size
  refine st (s_assign rfl ?_)
  refine r_end ?_
  refine n_then ?_
  refine w_seq ?_
  refine w_region ?_
  refine st (s_assign rfl ?_)
  refine r_end ?_
  refine n_then ?_
  refine w_seq ?_
  refine w_seq ?_
  refine w_region ?_
  refine st (s_assign rfl ?_)
  refine r_end ?_
  refine n_then ?_
  refine w_block ?_
  refine w_loop (α := Int × Value × List Int) (fun ((i, v, os) : Int × Value × List Int) => [(0, v1), (2, .slice none 0 0), (3, v), (4, .int .i64 i)]) (fun ((i, v, os) : Int × Value × List Int) W => Below w.heap.size w W ∧ (0 ≤ i ∧ i ≤ (tb (bv xs)).length + 31) ∧ (Gw.Own Kd.u32 44 w.heap.size W (fun _ => False) v os) ∧ ((os.length : Int) * 32 = i) ∧ (nv os + PW os.length * bv ((tb (bv xs)).drop i.toNat) = bv (tb (bv xs))) ∧ ((i < (tb (bv xs)).length) ∨ rightB os = true)) (fun ((i, v, os) : Int × Value × List Int) => ((tb (bv xs)).length - i).toNat) ((0), (.slice none 0 0), ([])) ⟨hb1, by omega, Own.nil Kd.u32 44 _ _ _, rfl, by simp [nv, PW_zero], .inr rfl⟩ (by exact ⟨rfl, rfl, rfl, rfl, trivial⟩) ?_
  rintro ⟨i, v, os⟩ w2 ⟨hb2, hi, hO, hol, hn, hr⟩
  dsimp only at *
  have hz3 := hb2.size
  refine w_seq ?_
  refine w_seq ?_
  refine w_region ?_
  refine st (s_move rfl ?_)
  refine st (s_move rfl ?_)
  refine st (s_len sl68 rfl (hS2.at0 hb2) ?_)
  refine st (s_lt rfl rfl ?_)
  refine r_end ?_
  refine n_then ?_
  refine w_condP rfl (fun h1 => ?_) (fun h1 => ?_)
  · refine w_skip' ?_
    refine n_then ?_
    refine w_seq ?_
    refine w_block ?_
    refine w_seq ?_
    refine w_region ?_
    refine st (s_assign rfl ?_)
    refine st (s_assign rfl ?_)
    refine r_end ?_
    refine n_then ?_
    refine w_seq ?_
    refine w_seq ?_
    refine w_region ?_
    refine st (s_move rfl ?_)
    refine st (s_assign rfl ?_)
    refine r_end ?_
    refine n_then ?_
    refine w_block ?_
    refine w_loop (α := Int × Int × Int) (fun ((k, x, p) : Int × Int × Int) => [(0, v1), (2, .slice none 0 0), (3, v), (4, .int .i64 i), (5, .int .u32 x), (6, .int .u32 p), (7, .int .i64 k)]) (fun ((k, x, p) : Int × Int × Int) W => Below w.heap.size w W ∧ (i ≤ k ∧ k ≤ (tb (bv xs)).length ∧ k ≤ i + 32) ∧ (x = bv (((tb (bv xs)).drop i.toNat).take (k - i).toNat)) ∧ (p = 2 ^ (k - i).toNat % 4294967296) ∧ (Gw.Own Kd.u32 44 w.heap.size W (fun _ => False) v os)) (fun ((k, x, p) : Int × Int × Int) => (i + 32 - k).toNat) ((i), (0), (1)) ⟨hb2, by omega, by rw [Int.sub_self]; rfl, by rw [Int.sub_self]; rfl, hO⟩ (by exact ⟨rfl, rfl, rfl, rfl, rfl, rfl, rfl, trivial⟩) ?_
    rintro ⟨k, x, p⟩ w3 ⟨hb3, hk, hx, hp, hO2⟩
    dsimp only at *
    have hz4 := hb3.size
    refine w_seq ?_
    refine w_seq ?_
    refine w_region ?_
    refine st (s_move rfl ?_)
    refine st (s_move rfl ?_)
    refine st (s_len sl68 rfl (hS2.at0 hb3) ?_)
    refine st (s_lt rfl rfl ?_)
    refine st (s_move rfl ?_)
    refine r_caseP 21 rfl (fun h2 => ?_) (fun h2 => ?_)
    · refine stg (s_move rfl ?_)
      refine stg (s_move rfl ?_)
      refine stg (s_add rfl rfl (by omega) ?_)
      refine stg (s_lt rfl rfl ?_)
      refine st (s_pick rfl rfl ?_)
      refine r_end ?_
      refine n_then ?_
      refine w_condP rfl (fun h3 => ?_) (fun h3 => ?_)
      · obtain ⟨e1, e2, e3, e4, e5, e6, e7⟩ := of_step hi.1 ⟨hk.1, by omega, by omega⟩ hx hp
        refine w_skip' ?_
        refine n_then ?_
        refine w_seq ?_
        refine w_block ?_
        refine w_seq ?_
        refine w_seq ?_
        refine w_region ?_
        refine st (s_move rfl ?_)
        refine st (s_move rfl ?_)
        refine st (s_idx sl68 rfl rfl (hS2.at0 hb3) (by omega) (by omega) ?_)
        rintro b1 o1 _ ⟨rfl, _⟩ hc1 hF1 hlt1
        have hl_1 := Loc.lt hF1
        refine st (s_load one4 rfl hc1 (j := 0) rfl ?_)
        refine r_end ?_
        refine n_then ?_
        refine w_cond rfl (fun h4 => ?_) (fun h4 => ?_)
        · refine w_region ?_
          refine st (s_move rfl ?_)
          refine st (s_move rfl ?_)
          refine st (s_addk (M := 4294967296) rfl rfl rfl rfl (by omega) ?_)
          refine st (s_assign rfl ?_)
          refine r_end ?_
          refine n_then ?_
          refine w_region ?_
          refine st (s_move rfl ?_)
          refine st (s_mulm (M := 4294967296) rfl rfl rfl rfl ?_)
          refine st (s_assign rfl ?_)
          refine r_end ?_
          refine n_block ?_
          refine n_then ?_
          refine w_region ?_
          refine st (s_move rfl ?_)
          refine st (s_add rfl rfl (by omega) ?_)
          refine st (s_assign rfl ?_)
          refine r_end ?_
          exact n_round (((k + 1)), ((x + p)), (((p * 2) % 4294967296))) ⟨hb3, by omega, by have e8 := e7; rw [h4] at e8; simpa [bn] using e8, e6, hO2⟩ (by omega) (by exact ⟨rfl, rfl, rfl, rfl, rfl, rfl, rfl, trivial⟩)
        · refine w_skip' ?_
          refine n_then ?_
          refine w_region ?_
          refine st (s_move rfl ?_)
          refine st (s_mulm (M := 4294967296) rfl rfl rfl rfl ?_)
          refine st (s_assign rfl ?_)
          refine r_end ?_
          refine n_block ?_
          refine n_then ?_
          refine w_region ?_
          refine st (s_move rfl ?_)
          refine st (s_add rfl rfl (by omega) ?_)
          refine st (s_assign rfl ?_)
          refine r_end ?_
          exact n_round (((k + 1)), (x), (((p * 2) % 4294967296))) ⟨hb3, by omega, by have e8 := e7; rw [h4] at e8; simpa [bn] using e8, e6, hO2⟩ (by omega) (by exact ⟨rfl, rfl, rfl, rfl, rfl, rfl, rfl, trivial⟩)
      · refine w_exit' ?_
        refine n_then_exit ?_
        refine n_then_exit ?_
        refine n_block_exit ?_
        refine n_then ?_
        refine w_region ?_
        have hch := of_chunk hi.1 hk hx (by omega)
        have hnx := of_next (right_tb _) hi.1 (by omega) hch hn
        refine st (s_move rfl ?_)
        refine st (s_move rfl ?_)
        refine st (s_bslice (ps := [(0, .tmp 39)]) (ccs := [#[.int .u32 x]]) (e := 44) (cells := [.int .u32 x]) rfl rfl (by kernel_rfl) (by decide) nz44 ?_)
        intro g1 w4 hg1 hB1 k2 hs1
        have hb4 := below_g0 hb3 k2
        have hz5 := hb4.size
        have hO1 := hO2.g0 k2
        refine st (s_append (K := Kd.u32) sl32 rfl rfl hO1 (lit_u32 hB1 hO2 (fun h => h) hg1 (by omega)) u32_ones (by simp; omega) (by simp; omega) (by first | exact Nat.le_refl _ | omega) (fun _ h => h.elim) ?_)
        intro v2 w5 hO2 k3 hr2
        have hb5 := hb4.grown k3 hb4.size (fun k_ hk_ => (hO1.lt k_ hk_).1)
        have hz6 := hb5.size
        refine st (s_assign rfl ?_)
        refine r_end ?_
        refine n_block ?_
        refine n_then ?_
        refine w_region ?_
        refine st (s_move rfl ?_)
        refine st (s_add rfl rfl (by omega) ?_)
        refine st (s_assign rfl ?_)
        refine r_end ?_
        exact n_round (((i + 32)), (v2), (os ++ [x])) ⟨hb5, by omega, hO2, by simp; omega, hnx.2.1, hnx.2.2⟩ (by omega) (by exact ⟨rfl, rfl, rfl, rfl, trivial⟩)
    · refine s_pass rfl rfl ?_
      refine s_pass rfl rfl ?_
      refine s_pass rfl rfl ?_
      refine s_pass rfl rfl ?_
      refine st (s_pick rfl rfl ?_)
      refine r_end ?_
      refine n_then ?_
      refine w_condF rfl ?_
      refine w_exit' ?_
      refine n_then_exit ?_
      refine n_then_exit ?_
      refine n_block_exit ?_
      refine n_then ?_
      refine w_region ?_
      have hch := of_chunk hi.1 hk hx (by omega)
      have hnx := of_next (right_tb _) hi.1 (by omega) hch hn
      refine st (s_move rfl ?_)
      refine st (s_move rfl ?_)
      refine st (s_bslice (ps := [(0, .tmp 39)]) (ccs := [#[.int .u32 x]]) (e := 44) (cells := [.int .u32 x]) rfl rfl (by kernel_rfl) (by decide) nz44 ?_)
      intro g2 w6 hg2 hB2 k4 hs2
      have hb6 := below_g0 hb3 k4
      have hz7 := hb6.size
      have hO3 := hO2.g0 k4
      refine st (s_append (K := Kd.u32) sl32 rfl rfl hO3 (lit_u32 hB2 hO2 (fun h => h) hg2 (by omega)) u32_ones (by simp; omega) (by simp; omega) (by first | exact Nat.le_refl _ | omega) (fun _ h => h.elim) ?_)
      intro v3 w7 hO4 k5 hr3
      have hb7 := hb6.grown k5 hb6.size (fun k_ hk_ => (hO3.lt k_ hk_).1)
      have hz8 := hb7.size
      refine st (s_assign rfl ?_)
      refine r_end ?_
      refine n_block ?_
      refine n_then ?_
      refine w_region ?_
      refine st (s_move rfl ?_)
      refine st (s_add rfl rfl (by omega) ?_)
      refine st (s_assign rfl ?_)
      refine r_end ?_
      exact n_round (((i + 32)), (v3), (os ++ [x])) ⟨hb7, by omega, hO4, by simp; omega, hnx.2.1, hnx.2.2⟩ (by omega) (by exact ⟨rfl, rfl, rfl, rfl, trivial⟩)
  · refine w_exit' ?_
    refine n_then_exit ?_
    refine n_then_exit ?_
    refine n_block_exit ?_
    refine n_then ?_
    refine w_seq ?_
    refine w_region ?_
    refine st (s_move rfl ?_)
    refine st (s_assign rfl ?_)
    refine r_end ?_
    refine n_then ?_
    refine w_ret1 rfl rfl ?_
    have he := of_end (lim_sl hO.sl) (by omega) hn hr
    rw [bv_tb (bv_bd xs).1] at he
    refine ⟨_, rfl, hb2, ?_⟩
    rw [he]
    exact hO.sl

theorem rnorm_any {w : World} {a : Value} {xs : List Int} (ha : Sl Kd.u32 w (fun _ => False) a xs) (hla : xs.length ≤ 100000) :
    Calls Try.prog 41 [a].toArray w (Pure w fun v W => Sl Kd.u32 W (fun _ => False) v (tl (nv xs))) := by
  have hb0 := Below.refl w.heap.size w
  have hln1 := ha.lenle
  have hbl := tb_nv_len (lim_sl ha)
  refine enter Try.func41 rfl rfl ?_
  refine w_seq ?_
  refine w_region ?_
  refine st (s_assign rfl ?_)
  refine r_end ?_
  refine n_then ?_
  refine w_seq ?_
  refine w_region ?_
  refine st (s_move rfl ?_)
  refine st (s_call fn75 rfl (rbits_any ((ha.at0 hb0)).none (by first | omega | (simp; done) | (simp; omega))) ?_)
  rintro v1 w1 ⟨hq1, hS1⟩
  have k1 := grown_of_below hq1 none
  have hz1 := hq1.size
  have hb1 := below_g0 hb0 k1
  have hz2 := hb1.size
  refine st (s_call fn77 rfl (rof_any (hS1).none (by first | omega | (simp; done) | (simp; omega))) ?_)
  rintro v2 w2 ⟨hq2, hS2⟩
  have k2 := grown_of_below hq2 none
  have hz3 := hq2.size
  have hb2 := below_g0 hb1 k2
  have hz4 := hb2.size
  refine st (s_assign rfl ?_)
  refine r_end ?_
  refine n_then ?_
  refine w_ret1 rfl rfl ?_
  refine ⟨_, rfl, hb2, ?_⟩
  have h := hS2
  rwa [bv_tb (nv_nonneg (lim_sl ha))] at h

theorem rlen_any {w : World} {a : Value} {xs : List Int} (ha : Sl Kd.u32 w (fun _ => False) a xs) (hla : xs.length ≤ 100000) :
    Calls Try.prog 35 [a].toArray w (Pure w fun v _ => v = .int .i64 (blen (nv xs))) := by
  have hb0 := Below.refl w.heap.size w
  have hln1 := ha.lenle
  refine enter Try.func35 rfl rfl ?_
  refine w_seq ?_
  refine w_region ?_
  refine st (s_assign rfl ?_)
  refine r_end ?_
  refine n_then ?_
  refine w_seq ?_
  refine w_region ?_
  refine st (s_move rfl ?_)
  refine st (s_call fn75 rfl (rbits_any ((ha.at0 hb0)).none (by first | omega | (simp; done) | (simp; omega))) ?_)
  rintro v1 w1 ⟨hq1, hS1⟩
  have k1 := grown_of_below hq1 none
  have hz1 := hq1.size
  have hb1 := below_g0 hb0 k1
  have hz2 := hb1.size
  refine st (s_len sl68 rfl hS1 ?_)
  refine st (s_assign rfl ?_)
  refine r_end ?_
  refine n_then ?_
  refine w_ret1 rfl rfl ?_
  exact ⟨_, rfl, hb1, by rw [tb_len]⟩

theorem rbit_any {w : World} {a : Value} {i : Int} {xs : List Int} (ha : Sl Kd.u32 w (fun _ => False) a xs) (hla : xs.length ≤ 100000) :
    Calls Try.prog 37 [a, .int .i64 i].toArray w (Pure w fun v _ => v = .bool (bitB (nv xs) i)) := by
  have hb0 := Below.refl w.heap.size w
  have hln1 := ha.lenle
  refine enter Try.func37 rfl rfl ?_
  refine w_seq ?_
  refine w_region ?_
  refine st (s_assign rfl ?_)
  refine r_end ?_
  refine n_then ?_
  refine w_seq ?_
  refine w_region ?_
  refine st (s_move rfl ?_)
  refine st (s_call fn75 rfl (rbits_any ((ha.at0 hb0)).none (by first | omega | (simp; done) | (simp; omega))) ?_)
  rintro v1 w1 ⟨hq1, hS1⟩
  have k1 := grown_of_below hq1 none
  have hz1 := hq1.size
  have hb1 := below_g0 hb0 k1
  have hz2 := hb1.size
  refine st (s_move rfl ?_)
  refine st (s_call fn76 rfl (at_any (hS1).none) ?_)
  rintro v2 w2 ⟨hq2, hv1⟩
  rw [atB_tb (nv_nonneg (lim_sl ha))] at hv1
  subst hv1
  have k2 := grown_of_below hq2 none
  have hz3 := hq2.size
  have hb2 := below_g0 hb1 k2
  have hz4 := hb2.size
  refine st (s_assign rfl ?_)
  refine r_end ?_
  refine n_then ?_
  refine w_ret1 rfl rfl ?_
  exact ⟨_, rfl, hb2, rfl⟩

theorem rcmp_any {w : World} {a b : Value} {xs ys : List Int} (ha : Sl Kd.u32 w (fun _ => False) a xs) (hb : Sl Kd.u32 w (fun _ => False) b ys) (hla : xs.length ≤ 100000) (hlb : ys.length ≤ 100000) :
    Calls Try.prog 29 [a, b].toArray w (Pure w fun v _ => v = .int .i64 (cmpI (nv xs) (nv ys))) := by
  have hb0 := Below.refl w.heap.size w
  have hln1 := ha.lenle
  have hln2 := hb.lenle
  have hpa := nv_nonneg (lim_sl ha)
  have hpb := nv_nonneg (lim_sl hb)
  have hla2 := tb_nv_len (lim_sl ha)
  have hlb2 := tb_nv_len (lim_sl hb)
  have hba := tb_len (n := nv xs)
  have hbb := tb_len (n := nv ys)
  refine enter Try.func29 rfl rfl ?_
  refine w_seq ?_
  refine w_region ?_
  refine st (s_assign rfl ?_)
  refine r_end ?_
  refine n_then ?_
  refine w_seq ?_
  refine w_region ?_
  refine st (s_move rfl ?_)
  refine st (s_call fn75 rfl (rbits_any ((ha.at0 hb0)).none (by first | omega | (simp; done) | (simp; omega))) ?_)
  rintro v1 w1 ⟨hq1, hS1⟩
  have k1 := grown_of_below hq1 none
  have hz1 := hq1.size
  have hb1 := below_g0 hb0 k1
  have hz2 := hb1.size
  refine st (s_move rfl ?_)
  refine st (s_call fn75 rfl (rbits_any ((hb.at0 hb1)).none (by first | omega | (simp; done) | (simp; omega))) ?_)
  rintro v2 w2 ⟨hq2, hS2⟩
  have k2 := grown_of_below hq2 none
  have hz3 := hq2.size
  have hb2 := below_g0 hb1 k2
  have hz4 := hb2.size
  refine st (s_assign rfl ?_)
  refine st (s_assign rfl ?_)
  refine r_end ?_
  refine n_then ?_
  refine w_seq ?_
  refine w_seq ?_
  refine w_region ?_
  refine st (s_move rfl ?_)
  refine st (s_len sl68 rfl (hS1.g0 k2) ?_)
  refine st (s_move rfl ?_)
  refine st (s_len sl68 rfl hS2 ?_)
  refine st (s_max rfl rfl ?_)
  refine st (s_sub rfl rfl (by omega) ?_)
  refine st (s_assign rfl ?_)
  refine r_end ?_
  refine n_then ?_
  refine w_block ?_
  refine w_loop (α := Int) (fun (i : Int) => [(5, v1), (6, v2), (7, .int .i64 i)]) (fun (i : Int) W => Below w.heap.size w W ∧ (-1 ≤ i ∧ i ≤ 3200000) ∧ (nv xs / 2 ^ (i + 1).toNat = nv ys / 2 ^ (i + 1).toNat) ∧ (Sl Kd.bool W (fun _ => False) v1 (tb (nv xs))) ∧ (Sl Kd.bool W (fun _ => False) v2 (tb (nv ys)))) (fun (i : Int) => (i + 1).toNat) ((max ((tb (nv xs)).length : Int) ((tb (nv ys)).length : Int)) - 1) ⟨hb2, by omega, by rw [div_top hpa (by omega), div_top hpb (by omega)], (hS1.g0 k2), hS2⟩ (by exact ⟨rfl, rfl, rfl, trivial⟩) ?_
  rintro i w3 ⟨hb3, hi, hn, hS3, hS4⟩
  have hz5 := hb3.size
  refine w_seq ?_
  refine w_seq ?_
  refine w_region ?_
  refine st (s_move rfl ?_)
  refine st (s_ge rfl rfl ?_)
  refine r_end ?_
  refine n_then ?_
  refine w_condP rfl (fun h1 => ?_) (fun h1 => ?_)
  · refine w_skip' ?_
    refine n_then ?_
    refine w_seq ?_
    refine w_block ?_
    refine w_seq ?_
    refine w_region ?_
    refine st (s_move rfl ?_)
    refine st (s_move rfl ?_)
    refine st (s_call fn76 rfl (at_any (hS3).none) ?_)
    rintro v3 w4 ⟨hq3, hv1⟩
    rw [atB_tb (nv_nonneg (lim_sl ha))] at hv1
    subst hv1
    have k3 := grown_of_below hq3 none
    have hz6 := hq3.size
    have hb4 := below_g0 hb3 k3
    have hz7 := hb4.size
    refine st (s_move rfl ?_)
    refine st (s_move rfl ?_)
    refine st (s_call fn76 rfl (at_any ((hS4.g0 k3)).none) ?_)
    rintro v4 w5 ⟨hq4, hv2⟩
    rw [atB_tb (nv_nonneg (lim_sl hb))] at hv2
    subst hv2
    have k4 := grown_of_below hq4 none
    have hz8 := hq4.size
    have hb5 := below_g0 hb4 k4
    have hz9 := hb5.size
    refine st (s_nebool bool4 rfl rfl ?_)
    refine r_end ?_
    refine n_then ?_
    refine w_cond rfl (fun h2 => ?_) (fun h2 => ?_)
    · refine w_seq ?_
      refine w_seq ?_
      refine w_region ?_
      refine st (s_move rfl ?_)
      refine st (s_move rfl ?_)
      refine st (s_call fn76 rfl (at_any (((hS3.g0 k3).g0 k4)).none) ?_)
      rintro v5 w6 ⟨hq5, hv3⟩
      rw [atB_tb (nv_nonneg (lim_sl ha))] at hv3
      subst hv3
      have k5 := grown_of_below hq5 none
      have hz10 := hq5.size
      have hb6 := below_g0 hb5 k5
      have hz11 := hb6.size
      refine r_end ?_
      refine n_then ?_
      refine w_cond rfl (fun h3 => ?_) (fun h3 => ?_)
      · refine w_seq ?_
        refine w_region ?_
        refine st (s_assign rfl ?_)
        refine r_end ?_
        refine n_then ?_
        refine w_ret1 rfl rfl ?_
        exact ⟨_, rfl, hb6, by rw [bcmp_gt (by omega) hn h3 (by rw [h3] at h2; simpa using h2)]⟩
      · refine w_skip' ?_
        refine n_then ?_
        refine w_seq ?_
        refine w_region ?_
        refine st (s_assign rfl ?_)
        refine r_end ?_
        refine n_then ?_
        refine w_ret1 rfl rfl ?_
        exact ⟨_, rfl, hb6, by rw [bcmp_lt (by omega) hn h3 (by rw [h3] at h2; simpa using h2)] <;> rfl⟩
    · refine w_skip' ?_
      refine n_block ?_
      refine n_then ?_
      refine w_region ?_
      refine st (s_move rfl ?_)
      refine st (s_sub rfl rfl (by omega) ?_)
      refine st (s_assign rfl ?_)
      refine r_end ?_
      exact n_round ((i - 1)) ⟨hb5, by omega, bcmp_next (by omega) hn (by simpa using h2), ((hS3.g0 k3).g0 k4), ((hS4.g0 k3).g0 k4)⟩ (by omega) (by exact ⟨rfl, rfl, rfl, trivial⟩)
  · refine w_exit' ?_
    refine n_then_exit ?_
    refine n_then_exit ?_
    refine n_block_exit ?_
    refine n_then ?_
    refine w_seq ?_
    refine w_region ?_
    refine st (s_assign rfl ?_)
    refine r_end ?_
    refine n_then ?_
    refine w_ret1 rfl rfl ?_
    exact ⟨_, rfl, hb3, by rw [bcmp_end (by omega) hn]⟩

theorem radd_any {w : World} {a b : Value} {xs ys : List Int} (ha : Sl Kd.u32 w (fun _ => False) a xs) (hb : Sl Kd.u32 w (fun _ => False) b ys) (hla : xs.length ≤ 100000) (hlb : ys.length ≤ 100000) :
    Calls Try.prog 27 [a, b].toArray w (Pure w fun v W => Sl Kd.u32 W (fun _ => False) v (tl (nv xs + nv ys))) := by
  have hb0 := Below.refl w.heap.size w
  have hln1 := ha.lenle
  have hln2 := hb.lenle
  have hpa := nv_nonneg (lim_sl ha)
  have hpb := nv_nonneg (lim_sl hb)
  have hla2 := tb_nv_len (lim_sl ha)
  have hlb2 := tb_nv_len (lim_sl hb)
  have hba := tb_len (n := nv xs)
  have hbb := tb_len (n := nv ys)
  refine enter Try.func27 rfl rfl ?_
  refine w_seq ?_
  refine w_region ?_
  refine st (s_assign rfl ?_)
  refine r_end ?_
  refine n_then ?_
  refine w_seq ?_
  refine w_region ?_
  refine st (s_move rfl ?_)
  refine st (s_call fn75 rfl (rbits_any ((ha.at0 hb0)).none (by first | omega | (simp; done) | (simp; omega))) ?_)
  rintro v1 w1 ⟨hq1, hS1⟩
  have k1 := grown_of_below hq1 none
  have hz1 := hq1.size
  have hb1 := below_g0 hb0 k1
  have hz2 := hb1.size
  refine st (s_move rfl ?_)
  refine st (s_call fn75 rfl (rbits_any ((hb.at0 hb1)).none (by first | omega | (simp; done) | (simp; omega))) ?_)
  rintro v2 w2 ⟨hq2, hS2⟩
  have k2 := grown_of_below hq2 none
  have hz3 := hq2.size
  have hb2 := below_g0 hb1 k2
  have hz4 := hb2.size
  refine st (s_assign rfl ?_)
  refine st (s_assign rfl ?_)
  refine r_end ?_
  refine n_then ?_
  refine w_seq ?_
  refine w_region ?_
  have hzz1 := k1.size
  have hzz2 := k2.size
  have hS3 := ((ha.at0 hb2)).none
  have hS4 := ((hb.at0 hb2)).none
  have hS5 := ((hS1.g0 k2)).none
  have hS6 := (hS2).none
  have hb3 := Below.refl w2.heap.size w2
  refine st (s_assign rfl ?_)
  refine r_end ?_
  refine n_then ?_
  refine w_seq ?_
  refine w_region ?_
  refine st (s_assign rfl ?_)
  refine r_end ?_
  refine n_then ?_
  refine w_seq ?_
  refine w_seq ?_
  refine w_region ?_
  refine st (s_assign rfl ?_)
  refine r_end ?_
  refine n_then ?_
  refine w_block ?_
  refine w_loop (α := Int × Value × List Bool × Bool) (fun ((i, v, os, c) : Int × Value × List Bool × Bool) => [(4, .slice none 0 0), (5, v1), (6, v2), (7, v), (8, .bool c), (9, .int .i64 i)]) (fun ((i, v, os, c) : Int × Value × List Bool × Bool) W => Below w2.heap.size w2 W ∧ (0 ≤ i ∧ i ≤ max ((tb (nv xs)).length : Int) ((tb (nv ys)).length : Int) + 1) ∧ (Gw.Own Kd.bool 4 w2.heap.size W (fun _ => False) v os) ∧ ((os.length : Int) = i) ∧ (bv os + 2 ^ i.toNat * bn c = nv xs % 2 ^ i.toNat + nv ys % 2 ^ i.toNat)) (fun ((i, v, os, c) : Int × Value × List Bool × Bool) => (max ((tb (nv xs)).length : Int) ((tb (nv ys)).length : Int) + 1 - i).toNat) ((0), (.slice none 0 0), ([]), (false)) ⟨hb3, by omega, Own.nil Kd.bool 4 _ _ _, rfl, by simp [bv, bn, Int.emod_one]⟩ (by exact ⟨rfl, rfl, rfl, rfl, rfl, rfl, trivial⟩) ?_
  rintro ⟨i, v, os, c⟩ w3 ⟨hb4, hi, hO, hol, hn⟩
  dsimp only at *
  have hz5 := hb4.size
  refine w_seq ?_
  refine w_seq ?_
  refine w_region ?_
  refine st (s_move rfl ?_)
  refine st (s_move rfl ?_)
  refine st (s_len sl68 rfl (hS5.at0 hb4) ?_)
  refine st (s_move rfl ?_)
  refine st (s_len sl68 rfl (hS6.at0 hb4) ?_)
  refine st (s_max rfl rfl ?_)
  refine st (s_le rfl rfl ?_)
  refine r_end ?_
  refine n_then ?_
  refine w_condP rfl (fun h1 => ?_) (fun h1 => ?_)
  · refine w_skip' ?_
    refine n_then ?_
    refine w_seq ?_
    refine w_block ?_
    refine w_seq ?_
    refine w_region ?_
    refine st (s_assign rfl ?_)
    refine r_end ?_
    refine n_then ?_
    refine w_seq ?_
    refine w_seq ?_
    refine w_region ?_
    refine st (s_move rfl ?_)
    refine st (s_move rfl ?_)
    refine st (s_call fn76 rfl (at_any ((hS5.at0 hb4)).none) ?_)
    rintro v3 w4 ⟨hq3, hv1⟩
    rw [atB_tb (nv_nonneg (lim_sl ha))] at hv1
    subst hv1
    have k3 := grown_of_below hq3 none
    have hz6 := hq3.size
    have hb5 := below_g0 hb4 k3
    have hz7 := hb5.size
    have hO1 := hO.g0 k3
    refine r_end ?_
    refine n_then ?_
    refine w_cond rfl (fun h2 => ?_) (fun h2 => ?_)
    · refine w_region ?_
      refine st (s_move rfl ?_)
      refine st (s_add rfl rfl (by omega) ?_)
      refine st (s_assign rfl ?_)
      refine r_end ?_
      refine n_then ?_
      refine w_seq ?_
      refine w_seq ?_
      refine w_region ?_
      refine st (s_move rfl ?_)
      refine st (s_move rfl ?_)
      refine st (s_call fn76 rfl (at_any ((hS6.at0 hb5)).none) ?_)
      rintro v4 w5 ⟨hq4, hv2⟩
      rw [atB_tb (nv_nonneg (lim_sl hb))] at hv2
      subst hv2
      have k4 := grown_of_below hq4 none
      have hz8 := hq4.size
      have hb6 := below_g0 hb5 k4
      have hz9 := hb6.size
      have hO2 := hO1.g0 k4
      refine r_end ?_
      refine n_then ?_
      refine w_cond rfl (fun h3 => ?_) (fun h3 => ?_)
      · refine w_region ?_
        refine st (s_move rfl ?_)
        refine st (s_add rfl rfl (by omega) ?_)
        refine st (s_assign rfl ?_)
        refine r_end ?_
        refine n_then ?_
        refine w_seq ?_
        refine w_seq ?_
        refine w_region ?_
        refine st (s_move rfl ?_)
        refine r_end ?_
        refine n_then ?_
        refine w_cond rfl (fun h4 => ?_) (fun h4 => ?_)
        · refine w_region ?_
          refine st (s_move rfl ?_)
          refine st (s_add rfl rfl (by omega) ?_)
          refine st (s_assign rfl ?_)
          refine r_end ?_
          refine n_then ?_
          refine w_region ?_
          refine st (s_move rfl ?_)
          refine st (s_move rfl ?_)
          refine st (s_remk rfl rfl (by omega) (by omega) ?_)
          refine st (s_eq rfl rfl ?_)
          refine st (s_bslice (ps := [(0, .tmp 40)]) (ccs := [#[.bool (decide (((((0 + 1) + 1) + 1) % 2) = 1))]]) (e := 4) (cells := [.bool (decide (((((0 + 1) + 1) + 1) % 2) = 1))]) rfl rfl (by kernel_rfl) (by decide) nz4 ?_)
          intro g1 w6 hg1 hB1 k5 hs1
          have hb7 := below_g0 hb6 k5
          have hz10 := hb7.size
          have hO3 := hO2.g0 k5
          refine st (s_append (K := Kd.bool) sl68 rfl rfl hO3 (lit_bool hB1 hO2 (fun h => h) hg1) bool_ones (by simp; omega) (by simp; omega) (by first | exact Nat.le_refl _ | omega) (fun _ h => h.elim) ?_)
          intro v5 w7 hO4 k6 hr1
          have hb8 := hb7.grown k6 hb7.size (fun k_ hk_ => (hO3.lt k_ hk_).1)
          have hz11 := hb8.size
          refine st (s_move rfl ?_)
          refine st (s_gt rfl rfl ?_)
          refine st (s_assign rfl ?_)
          refine st (s_assign rfl ?_)
          refine r_end ?_
          refine n_block ?_
          refine n_then ?_
          refine w_region ?_
          refine st (s_move rfl ?_)
          refine st (s_add rfl rfl (by omega) ?_)
          refine st (s_assign rfl ?_)
          refine r_end ?_
          exact n_round (((i + 1)), (v5), (os ++ [decide (((((0 + 1) + 1) + 1) % 2) = 1)]), (decide (1 < (((0 + 1) + 1) + 1)))) ⟨hb8, by omega, hO4, by simp; omega, badd_step hpa hpb hi.1 hol hn (by rw [h2, h3, h4] <;> rfl)⟩ (by omega) (by exact ⟨rfl, rfl, rfl, rfl, rfl, rfl, trivial⟩)
        · refine w_skip' ?_
          refine n_then ?_
          refine w_region ?_
          refine st (s_move rfl ?_)
          refine st (s_move rfl ?_)
          refine st (s_remk rfl rfl (by omega) (by omega) ?_)
          refine st (s_eq rfl rfl ?_)
          refine st (s_bslice (ps := [(0, .tmp 40)]) (ccs := [#[.bool (decide ((((0 + 1) + 1) % 2) = 1))]]) (e := 4) (cells := [.bool (decide ((((0 + 1) + 1) % 2) = 1))]) rfl rfl (by kernel_rfl) (by decide) nz4 ?_)
          intro g2 w8 hg2 hB2 k7 hs2
          have hb9 := below_g0 hb6 k7
          have hz12 := hb9.size
          have hO5 := hO2.g0 k7
          refine st (s_append (K := Kd.bool) sl68 rfl rfl hO5 (lit_bool hB2 hO2 (fun h => h) hg2) bool_ones (by simp; omega) (by simp; omega) (by first | exact Nat.le_refl _ | omega) (fun _ h => h.elim) ?_)
          intro v6 w9 hO6 k8 hr2
          have hb10 := hb9.grown k8 hb9.size (fun k_ hk_ => (hO5.lt k_ hk_).1)
          have hz13 := hb10.size
          refine st (s_move rfl ?_)
          refine st (s_gt rfl rfl ?_)
          refine st (s_assign rfl ?_)
          refine st (s_assign rfl ?_)
          refine r_end ?_
          refine n_block ?_
          refine n_then ?_
          refine w_region ?_
          refine st (s_move rfl ?_)
          refine st (s_add rfl rfl (by omega) ?_)
          refine st (s_assign rfl ?_)
          refine r_end ?_
          exact n_round (((i + 1)), (v6), (os ++ [decide ((((0 + 1) + 1) % 2) = 1)]), (decide (1 < ((0 + 1) + 1)))) ⟨hb10, by omega, hO6, by simp; omega, badd_step hpa hpb hi.1 hol hn (by rw [h2, h3, h4] <;> rfl)⟩ (by omega) (by exact ⟨rfl, rfl, rfl, rfl, rfl, rfl, trivial⟩)
      · refine w_skip' ?_
        refine n_then ?_
        refine w_seq ?_
        refine w_seq ?_
        refine w_region ?_
        refine st (s_move rfl ?_)
        refine r_end ?_
        refine n_then ?_
        refine w_cond rfl (fun h5 => ?_) (fun h5 => ?_)
        · refine w_region ?_
          refine st (s_move rfl ?_)
          refine st (s_add rfl rfl (by omega) ?_)
          refine st (s_assign rfl ?_)
          refine r_end ?_
          refine n_then ?_
          refine w_region ?_
          refine st (s_move rfl ?_)
          refine st (s_move rfl ?_)
          refine st (s_remk rfl rfl (by omega) (by omega) ?_)
          refine st (s_eq rfl rfl ?_)
          refine st (s_bslice (ps := [(0, .tmp 40)]) (ccs := [#[.bool (decide ((((0 + 1) + 1) % 2) = 1))]]) (e := 4) (cells := [.bool (decide ((((0 + 1) + 1) % 2) = 1))]) rfl rfl (by kernel_rfl) (by decide) nz4 ?_)
          intro g3 w10 hg3 hB3 k9 hs3
          have hb11 := below_g0 hb6 k9
          have hz14 := hb11.size
          have hO7 := hO2.g0 k9
          refine st (s_append (K := Kd.bool) sl68 rfl rfl hO7 (lit_bool hB3 hO2 (fun h => h) hg3) bool_ones (by simp; omega) (by simp; omega) (by first | exact Nat.le_refl _ | omega) (fun _ h => h.elim) ?_)
          intro v7 w11 hO8 k10 hr3
          have hb12 := hb11.grown k10 hb11.size (fun k_ hk_ => (hO7.lt k_ hk_).1)
          have hz15 := hb12.size
          refine st (s_move rfl ?_)
          refine st (s_gt rfl rfl ?_)
          refine st (s_assign rfl ?_)
          refine st (s_assign rfl ?_)
          refine r_end ?_
          refine n_block ?_
          refine n_then ?_
          refine w_region ?_
          refine st (s_move rfl ?_)
          refine st (s_add rfl rfl (by omega) ?_)
          refine st (s_assign rfl ?_)
          refine r_end ?_
          exact n_round (((i + 1)), (v7), (os ++ [decide ((((0 + 1) + 1) % 2) = 1)]), (decide (1 < ((0 + 1) + 1)))) ⟨hb12, by omega, hO8, by simp; omega, badd_step hpa hpb hi.1 hol hn (by rw [h2, h3, h5] <;> rfl)⟩ (by omega) (by exact ⟨rfl, rfl, rfl, rfl, rfl, rfl, trivial⟩)
        · refine w_skip' ?_
          refine n_then ?_
          refine w_region ?_
          refine st (s_move rfl ?_)
          refine st (s_move rfl ?_)
          refine st (s_remk rfl rfl (by omega) (by omega) ?_)
          refine st (s_eq rfl rfl ?_)
          refine st (s_bslice (ps := [(0, .tmp 40)]) (ccs := [#[.bool (decide (((0 + 1) % 2) = 1))]]) (e := 4) (cells := [.bool (decide (((0 + 1) % 2) = 1))]) rfl rfl (by kernel_rfl) (by decide) nz4 ?_)
          intro g4 w12 hg4 hB4 k11 hs4
          have hb13 := below_g0 hb6 k11
          have hz16 := hb13.size
          have hO9 := hO2.g0 k11
          refine st (s_append (K := Kd.bool) sl68 rfl rfl hO9 (lit_bool hB4 hO2 (fun h => h) hg4) bool_ones (by simp; omega) (by simp; omega) (by first | exact Nat.le_refl _ | omega) (fun _ h => h.elim) ?_)
          intro v8 w13 hO10 k12 hr4
          have hb14 := hb13.grown k12 hb13.size (fun k_ hk_ => (hO9.lt k_ hk_).1)
          have hz17 := hb14.size
          refine st (s_move rfl ?_)
          refine st (s_gt rfl rfl ?_)
          refine st (s_assign rfl ?_)
          refine st (s_assign rfl ?_)
          refine r_end ?_
          refine n_block ?_
          refine n_then ?_
          refine w_region ?_
          refine st (s_move rfl ?_)
          refine st (s_add rfl rfl (by omega) ?_)
          refine st (s_assign rfl ?_)
          refine r_end ?_
          exact n_round (((i + 1)), (v8), (os ++ [decide (((0 + 1) % 2) = 1)]), (decide (1 < (0 + 1)))) ⟨hb14, by omega, hO10, by simp; omega, badd_step hpa hpb hi.1 hol hn (by rw [h2, h3, h5] <;> rfl)⟩ (by omega) (by exact ⟨rfl, rfl, rfl, rfl, rfl, rfl, trivial⟩)
    · refine w_skip' ?_
      refine n_then ?_
      refine w_seq ?_
      refine w_seq ?_
      refine w_region ?_
      refine st (s_move rfl ?_)
      refine st (s_move rfl ?_)
      refine st (s_call fn76 rfl (at_any ((hS6.at0 hb5)).none) ?_)
      rintro v9 w14 ⟨hq5, hv3⟩
      rw [atB_tb (nv_nonneg (lim_sl hb))] at hv3
      subst hv3
      have k13 := grown_of_below hq5 none
      have hz18 := hq5.size
      have hb15 := below_g0 hb5 k13
      have hz19 := hb15.size
      have hO11 := hO1.g0 k13
      refine r_end ?_
      refine n_then ?_
      refine w_cond rfl (fun h6 => ?_) (fun h6 => ?_)
      · refine w_region ?_
        refine st (s_move rfl ?_)
        refine st (s_add rfl rfl (by omega) ?_)
        refine st (s_assign rfl ?_)
        refine r_end ?_
        refine n_then ?_
        refine w_seq ?_
        refine w_seq ?_
        refine w_region ?_
        refine st (s_move rfl ?_)
        refine r_end ?_
        refine n_then ?_
        refine w_cond rfl (fun h7 => ?_) (fun h7 => ?_)
        · refine w_region ?_
          refine st (s_move rfl ?_)
          refine st (s_add rfl rfl (by omega) ?_)
          refine st (s_assign rfl ?_)
          refine r_end ?_
          refine n_then ?_
          refine w_region ?_
          refine st (s_move rfl ?_)
          refine st (s_move rfl ?_)
          refine st (s_remk rfl rfl (by omega) (by omega) ?_)
          refine st (s_eq rfl rfl ?_)
          refine st (s_bslice (ps := [(0, .tmp 40)]) (ccs := [#[.bool (decide ((((0 + 1) + 1) % 2) = 1))]]) (e := 4) (cells := [.bool (decide ((((0 + 1) + 1) % 2) = 1))]) rfl rfl (by kernel_rfl) (by decide) nz4 ?_)
          intro g5 w15 hg5 hB5 k14 hs5
          have hb16 := below_g0 hb15 k14
          have hz20 := hb16.size
          have hO12 := hO11.g0 k14
          refine st (s_append (K := Kd.bool) sl68 rfl rfl hO12 (lit_bool hB5 hO11 (fun h => h) hg5) bool_ones (by simp; omega) (by simp; omega) (by first | exact Nat.le_refl _ | omega) (fun _ h => h.elim) ?_)
          intro v10 w16 hO13 k15 hr5
          have hb17 := hb16.grown k15 hb16.size (fun k_ hk_ => (hO12.lt k_ hk_).1)
          have hz21 := hb17.size
          refine st (s_move rfl ?_)
          refine st (s_gt rfl rfl ?_)
          refine st (s_assign rfl ?_)
          refine st (s_assign rfl ?_)
          refine r_end ?_
          refine n_block ?_
          refine n_then ?_
          refine w_region ?_
          refine st (s_move rfl ?_)
          refine st (s_add rfl rfl (by omega) ?_)
          refine st (s_assign rfl ?_)
          refine r_end ?_
          exact n_round (((i + 1)), (v10), (os ++ [decide ((((0 + 1) + 1) % 2) = 1)]), (decide (1 < ((0 + 1) + 1)))) ⟨hb17, by omega, hO13, by simp; omega, badd_step hpa hpb hi.1 hol hn (by rw [h2, h6, h7] <;> rfl)⟩ (by omega) (by exact ⟨rfl, rfl, rfl, rfl, rfl, rfl, trivial⟩)
        · refine w_skip' ?_
          refine n_then ?_
          refine w_region ?_
          refine st (s_move rfl ?_)
          refine st (s_move rfl ?_)
          refine st (s_remk rfl rfl (by omega) (by omega) ?_)
          refine st (s_eq rfl rfl ?_)
          refine st (s_bslice (ps := [(0, .tmp 40)]) (ccs := [#[.bool (decide (((0 + 1) % 2) = 1))]]) (e := 4) (cells := [.bool (decide (((0 + 1) % 2) = 1))]) rfl rfl (by kernel_rfl) (by decide) nz4 ?_)
          intro g6 w17 hg6 hB6 k16 hs6
          have hb18 := below_g0 hb15 k16
          have hz22 := hb18.size
          have hO14 := hO11.g0 k16
          refine st (s_append (K := Kd.bool) sl68 rfl rfl hO14 (lit_bool hB6 hO11 (fun h => h) hg6) bool_ones (by simp; omega) (by simp; omega) (by first | exact Nat.le_refl _ | omega) (fun _ h => h.elim) ?_)
          intro v11 w18 hO15 k17 hr6
          have hb19 := hb18.grown k17 hb18.size (fun k_ hk_ => (hO14.lt k_ hk_).1)
          have hz23 := hb19.size
          refine st (s_move rfl ?_)
          refine st (s_gt rfl rfl ?_)
          refine st (s_assign rfl ?_)
          refine st (s_assign rfl ?_)
          refine r_end ?_
          refine n_block ?_
          refine n_then ?_
          refine w_region ?_
          refine st (s_move rfl ?_)
          refine st (s_add rfl rfl (by omega) ?_)
          refine st (s_assign rfl ?_)
          refine r_end ?_
          exact n_round (((i + 1)), (v11), (os ++ [decide (((0 + 1) % 2) = 1)]), (decide (1 < (0 + 1)))) ⟨hb19, by omega, hO15, by simp; omega, badd_step hpa hpb hi.1 hol hn (by rw [h2, h6, h7] <;> rfl)⟩ (by omega) (by exact ⟨rfl, rfl, rfl, rfl, rfl, rfl, trivial⟩)
      · refine w_skip' ?_
        refine n_then ?_
        refine w_seq ?_
        refine w_seq ?_
        refine w_region ?_
        refine st (s_move rfl ?_)
        refine r_end ?_
        refine n_then ?_
        refine w_cond rfl (fun h8 => ?_) (fun h8 => ?_)
        · refine w_region ?_
          refine st (s_move rfl ?_)
          refine st (s_add rfl rfl (by omega) ?_)
          refine st (s_assign rfl ?_)
          refine r_end ?_
          refine n_then ?_
          refine w_region ?_
          refine st (s_move rfl ?_)
          refine st (s_move rfl ?_)
          refine st (s_remk rfl rfl (by omega) (by omega) ?_)
          refine st (s_eq rfl rfl ?_)
          refine st (s_bslice (ps := [(0, .tmp 40)]) (ccs := [#[.bool (decide (((0 + 1) % 2) = 1))]]) (e := 4) (cells := [.bool (decide (((0 + 1) % 2) = 1))]) rfl rfl (by kernel_rfl) (by decide) nz4 ?_)
          intro g7 w19 hg7 hB7 k18 hs7
          have hb20 := below_g0 hb15 k18
          have hz24 := hb20.size
          have hO16 := hO11.g0 k18
          refine st (s_append (K := Kd.bool) sl68 rfl rfl hO16 (lit_bool hB7 hO11 (fun h => h) hg7) bool_ones (by simp; omega) (by simp; omega) (by first | exact Nat.le_refl _ | omega) (fun _ h => h.elim) ?_)
          intro v12 w20 hO17 k19 hr7
          have hb21 := hb20.grown k19 hb20.size (fun k_ hk_ => (hO16.lt k_ hk_).1)
          have hz25 := hb21.size
          refine st (s_move rfl ?_)
          refine st (s_gt rfl rfl ?_)
          refine st (s_assign rfl ?_)
          refine st (s_assign rfl ?_)
          refine r_end ?_
          refine n_block ?_
          refine n_then ?_
          refine w_region ?_
          refine st (s_move rfl ?_)
          refine st (s_add rfl rfl (by omega) ?_)
          refine st (s_assign rfl ?_)
          refine r_end ?_
          exact n_round (((i + 1)), (v12), (os ++ [decide (((0 + 1) % 2) = 1)]), (decide (1 < (0 + 1)))) ⟨hb21, by omega, hO17, by simp; omega, badd_step hpa hpb hi.1 hol hn (by rw [h2, h6, h8] <;> rfl)⟩ (by omega) (by exact ⟨rfl, rfl, rfl, rfl, rfl, rfl, trivial⟩)
        · refine w_skip' ?_
          refine n_then ?_
          refine w_region ?_
          refine st (s_move rfl ?_)
          refine st (s_move rfl ?_)
          refine st (s_remk rfl rfl (by omega) (by omega) ?_)
          refine st (s_eq rfl rfl ?_)
          refine st (s_bslice (ps := [(0, .tmp 40)]) (ccs := [#[.bool (decide ((0 % 2) = 1))]]) (e := 4) (cells := [.bool (decide ((0 % 2) = 1))]) rfl rfl (by kernel_rfl) (by decide) nz4 ?_)
          intro g8 w21 hg8 hB8 k20 hs8
          have hb22 := below_g0 hb15 k20
          have hz26 := hb22.size
          have hO18 := hO11.g0 k20
          refine st (s_append (K := Kd.bool) sl68 rfl rfl hO18 (lit_bool hB8 hO11 (fun h => h) hg8) bool_ones (by simp; omega) (by simp; omega) (by first | exact Nat.le_refl _ | omega) (fun _ h => h.elim) ?_)
          intro v13 w22 hO19 k21 hr8
          have hb23 := hb22.grown k21 hb22.size (fun k_ hk_ => (hO18.lt k_ hk_).1)
          have hz27 := hb23.size
          refine st (s_move rfl ?_)
          refine st (s_gt rfl rfl ?_)
          refine st (s_assign rfl ?_)
          refine st (s_assign rfl ?_)
          refine r_end ?_
          refine n_block ?_
          refine n_then ?_
          refine w_region ?_
          refine st (s_move rfl ?_)
          refine st (s_add rfl rfl (by omega) ?_)
          refine st (s_assign rfl ?_)
          refine r_end ?_
          exact n_round (((i + 1)), (v13), (os ++ [decide ((0 % 2) = 1)]), (decide (1 < 0))) ⟨hb23, by omega, hO19, by simp; omega, badd_step hpa hpb hi.1 hol hn (by rw [h2, h6, h8] <;> rfl)⟩ (by omega) (by exact ⟨rfl, rfl, rfl, rfl, rfl, rfl, trivial⟩)
  · refine w_exit' ?_
    refine n_then_exit ?_
    refine n_then_exit ?_
    refine n_block_exit ?_
    refine n_then ?_
    refine w_seq ?_
    refine w_region ?_
    refine st (s_move rfl ?_)
    refine st (s_call fn77 rfl (rof_any hO.sl.none (by first | omega | (simp; done) | (simp; omega))) ?_)
    rintro v14 w23 ⟨hq6, hS7⟩
    have k22 := grown_of_below hq6 none
    have hz28 := hq6.size
    have hb24 := below_g0 hb4 k22
    have hz29 := hb24.size
    have hO20 := hO.g0 k22
    refine st (s_assign rfl ?_)
    refine r_end ?_
    refine n_then ?_
    refine w_ret1 rfl rfl ?_
    have he := badd_end hpa hpb hi.1 hol hn (by omega) (by omega)
    refine ⟨_, rfl, (hb2.trans (hb24.mono hb2.size)), ?_⟩
    rw [← he]
    exact hS7

theorem rsub_any {w : World} {a b : Value} {xs ys : List Int} (ha : Sl Kd.u32 w (fun _ => False) a xs) (hb : Sl Kd.u32 w (fun _ => False) b ys) (hla : xs.length ≤ 100000) (hlb : ys.length ≤ 100000) :
    Calls Try.prog 24 [a, b].toArray w (Pure w fun r W => ∃ v, r = .tuple #[v, .bool (decide (nv ys ≤ nv xs))] ∧ Sl Kd.u32 W (fun _ => False) v (tl (nv xs - nv ys))) := by
  have hb0 := Below.refl w.heap.size w
  have hln1 := ha.lenle
  have hln2 := hb.lenle
  have hpa := nv_nonneg (lim_sl ha)
  have hpb := nv_nonneg (lim_sl hb)
  have hla2 := tb_nv_len (lim_sl ha)
  have hlb2 := tb_nv_len (lim_sl hb)
  have hba := tb_len (n := nv xs)
  have hbb := tb_len (n := nv ys)
  refine enter Try.func24 rfl rfl ?_
  refine w_seq ?_
  refine w_region ?_
  refine st (s_assign rfl ?_)
  refine st (s_assign rfl ?_)
  refine r_end ?_
  refine n_then ?_
  refine w_seq ?_
  refine w_seq ?_
  refine w_region ?_
  refine st (s_move rfl ?_)
  refine st (s_move rfl ?_)
  refine st (s_call fn29 rfl (rcmp_any ((ha.at0 hb0)).none ((hb.at0 hb0)).none (by first | omega | (simp; done) | (simp; omega)) (by first | omega | (simp; done) | (simp; omega))) ?_)
  rintro _ w1 ⟨hq1, rfl⟩
  have k1 := grown_of_below hq1 none
  have hz1 := hq1.size
  have hb1 := below_g0 hb0 k1
  have hz2 := hb1.size
  refine st (s_lt rfl rfl ?_)
  refine r_end ?_
  refine n_then ?_
  refine w_condP rfl (fun h1 => ?_) (fun h1 => ?_)
  · refine w_seq ?_
    refine w_region ?_
    refine st (s_assign rfl ?_)
    refine st (s_assign rfl ?_)
    refine r_end ?_
    refine n_then ?_
    refine w_ret2 rfl rfl rfl ?_
    have hlt : nv xs < nv ys := by have := h1; unfold cmpI at this; split at this <;> (try split at this) <;> omega
    exact ⟨_, rfl, hb1, _, by rw [decide_eq_false (by omega)], by rw [tl_zero (by omega)]; exact (Own.nil Kd.u32 44 w.heap.size _ (fun _ => False)).sl⟩
  · refine w_skip' ?_
    refine n_then ?_
    refine w_seq ?_
    refine w_region ?_
    refine st (s_move rfl ?_)
    refine st (s_call fn75 rfl (rbits_any ((ha.at0 hb1)).none (by first | omega | (simp; done) | (simp; omega))) ?_)
    rintro v1 w2 ⟨hq2, hS1⟩
    have k2 := grown_of_below hq2 none
    have hz3 := hq2.size
    have hb2 := below_g0 hb1 k2
    have hz4 := hb2.size
    refine st (s_move rfl ?_)
    refine st (s_call fn75 rfl (rbits_any ((hb.at0 hb2)).none (by first | omega | (simp; done) | (simp; omega))) ?_)
    rintro v2 w3 ⟨hq3, hS2⟩
    have k3 := grown_of_below hq3 none
    have hz5 := hq3.size
    have hb3 := below_g0 hb2 k3
    have hz6 := hb3.size
    refine st (s_assign rfl ?_)
    refine st (s_assign rfl ?_)
    refine r_end ?_
    refine n_then ?_
    refine w_seq ?_
    refine w_region ?_
    have hzz1 := k1.size
    have hzz2 := k2.size
    have hzz3 := k3.size
    have hS3 := ((ha.at0 hb3)).none
    have hS4 := ((hb.at0 hb3)).none
    have hS5 := ((hS1.g0 k3)).none
    have hS6 := (hS2).none
    have hb4 := Below.refl w3.heap.size w3
    refine st (s_assign rfl ?_)
    refine r_end ?_
    refine n_then ?_
    refine w_seq ?_
    refine w_region ?_
    refine st (s_assign rfl ?_)
    refine r_end ?_
    refine n_then ?_
    refine w_seq ?_
    refine w_seq ?_
    refine w_region ?_
    refine st (s_assign rfl ?_)
    refine r_end ?_
    refine n_then ?_
    refine w_block ?_
    refine w_loop (α := Int × Value × List Bool × Int) (fun ((i, v, os, u) : Int × Value × List Bool × Int) => [(4, .slice none 0 0), (5, .bool false), (6, v1), (7, v2), (8, v), (9, .int .i64 u), (10, .int .i64 i)]) (fun ((i, v, os, u) : Int × Value × List Bool × Int) W => Below w3.heap.size w3 W ∧ (0 ≤ i ∧ i ≤ ((tb (nv xs)).length : Int)) ∧ (Gw.Own Kd.bool 4 w3.heap.size W (fun _ => False) v os) ∧ ((os.length : Int) = i) ∧ (0 ≤ u ∧ u ≤ 1) ∧ (bv os = nv xs % 2 ^ i.toNat - nv ys % 2 ^ i.toNat + 2 ^ i.toNat * u)) (fun ((i, v, os, u) : Int × Value × List Bool × Int) => (((tb (nv xs)).length : Int) - i).toNat) ((0), (.slice none 0 0), ([]), (0)) ⟨hb4, by omega, Own.nil Kd.bool 4 _ _ _, rfl, by omega, by simp [bv, Int.emod_one]⟩ (by exact ⟨rfl, rfl, rfl, rfl, rfl, rfl, rfl, trivial⟩) ?_
    rintro ⟨i, v, os, u⟩ w4 ⟨hb5, hi, hO, hol, hu, hn⟩
    dsimp only at *
    have hz7 := hb5.size
    refine w_seq ?_
    refine w_seq ?_
    refine w_region ?_
    refine st (s_move rfl ?_)
    refine st (s_move rfl ?_)
    refine st (s_len sl68 rfl (hS5.at0 hb5) ?_)
    refine st (s_lt rfl rfl ?_)
    refine r_end ?_
    refine n_then ?_
    refine w_condP rfl (fun h2 => ?_) (fun h2 => ?_)
    · refine w_skip' ?_
      refine n_then ?_
      refine w_seq ?_
      refine w_block ?_
      refine w_seq ?_
      refine w_region ?_
      refine st (s_move rfl ?_)
      refine st (s_neg rfl (by omega) ?_)
      refine st (s_assign rfl ?_)
      refine r_end ?_
      refine n_then ?_
      refine w_seq ?_
      refine w_seq ?_
      refine w_region ?_
      refine st (s_move rfl ?_)
      refine st (s_move rfl ?_)
      refine st (s_call fn76 rfl (at_any ((hS5.at0 hb5)).none) ?_)
      rintro v3 w5 ⟨hq4, hv1⟩
      rw [atB_tb (nv_nonneg (lim_sl ha))] at hv1
      subst hv1
      have k4 := grown_of_below hq4 none
      have hz8 := hq4.size
      have hb6 := below_g0 hb5 k4
      have hz9 := hb6.size
      have hO1 := hO.g0 k4
      refine r_end ?_
      refine n_then ?_
      refine w_cond rfl (fun h3 => ?_) (fun h3 => ?_)
      · refine w_region ?_
        refine st (s_move rfl ?_)
        refine st (s_add rfl rfl (by omega) ?_)
        refine st (s_assign rfl ?_)
        refine r_end ?_
        refine n_then ?_
        refine w_seq ?_
        refine w_seq ?_
        refine w_region ?_
        refine st (s_move rfl ?_)
        refine st (s_move rfl ?_)
        refine st (s_call fn76 rfl (at_any ((hS6.at0 hb6)).none) ?_)
        rintro v4 w6 ⟨hq5, hv2⟩
        rw [atB_tb (nv_nonneg (lim_sl hb))] at hv2
        subst hv2
        have k5 := grown_of_below hq5 none
        have hz10 := hq5.size
        have hb7 := below_g0 hb6 k5
        have hz11 := hb7.size
        have hO2 := hO1.g0 k5
        refine r_end ?_
        refine n_then ?_
        refine w_cond rfl (fun h4 => ?_) (fun h4 => ?_)
        · refine w_region ?_
          refine st (s_move rfl ?_)
          refine st (s_sub rfl rfl (by omega) ?_)
          refine st (s_assign rfl ?_)
          refine r_end ?_
          refine n_then ?_
          refine w_seq ?_
          refine w_region ?_
          refine st (s_assign rfl ?_)
          refine r_end ?_
          refine n_then ?_
          refine w_seq ?_
          refine w_seq ?_
          refine w_region ?_
          refine st (s_move rfl ?_)
          refine st (s_lt rfl rfl ?_)
          refine r_end ?_
          refine n_then ?_
          refine w_condP rfl (fun h5 => ?_) (fun h5 => ?_)
          · refine w_region ?_
            refine st (s_move rfl ?_)
            refine st (s_add rfl rfl (by omega) ?_)
            refine st (s_assign rfl ?_)
            refine st (s_assign rfl ?_)
            refine r_end ?_
            refine n_then ?_
            refine w_region ?_
            refine st (s_move rfl ?_)
            refine st (s_move rfl ?_)
            refine st (s_eq rfl rfl ?_)
            refine st (s_bslice (ps := [(0, .tmp 44)]) (ccs := [#[.bool (decide (((((-u) + 1) - 1) + 2) = 1))]]) (e := 4) (cells := [.bool (decide (((((-u) + 1) - 1) + 2) = 1))]) rfl rfl (by kernel_rfl) (by decide) nz4 ?_)
            intro g1 w7 hg1 hB1 k6 hs1
            have hb8 := below_g0 hb7 k6
            have hz12 := hb8.size
            have hO3 := hO2.g0 k6
            refine st (s_append (K := Kd.bool) sl68 rfl rfl hO3 (lit_bool hB1 hO2 (fun h => h) hg1) bool_ones (by simp; omega) (by simp; omega) (by first | exact Nat.le_refl _ | omega) (fun _ h => h.elim) ?_)
            intro v5 w8 hO4 k7 hr1
            have hb9 := hb8.grown k7 hb8.size (fun k_ hk_ => (hO3.lt k_ hk_).1)
            have hz13 := hb9.size
            refine st (s_assign rfl ?_)
            refine r_end ?_
            refine n_block ?_
            refine n_then ?_
            refine w_region ?_
            refine st (s_move rfl ?_)
            refine st (s_add rfl rfl (by omega) ?_)
            refine st (s_assign rfl ?_)
            refine r_end ?_
            exact n_round (((i + 1)), (v5), (os ++ [decide (((((-u) + 1) - 1) + 2) = 1)]), (1)) ⟨hb9, by omega, hO4, by simp; omega, by dsimp only; omega, bsub_step hpa hpb hi.1 hol hn (u' := 1) (by rw [h3, h4]; simp only [bn]; simp; try omega) (by omega)⟩ (by omega) (by exact ⟨rfl, rfl, rfl, rfl, rfl, rfl, rfl, trivial⟩)
          · refine w_skip' ?_
            refine n_then ?_
            refine w_region ?_
            refine st (s_move rfl ?_)
            refine st (s_move rfl ?_)
            refine st (s_eq rfl rfl ?_)
            refine st (s_bslice (ps := [(0, .tmp 44)]) (ccs := [#[.bool (decide ((((-u) + 1) - 1) = 1))]]) (e := 4) (cells := [.bool (decide ((((-u) + 1) - 1) = 1))]) rfl rfl (by kernel_rfl) (by decide) nz4 ?_)
            intro g2 w9 hg2 hB2 k8 hs2
            have hb10 := below_g0 hb7 k8
            have hz14 := hb10.size
            have hO5 := hO2.g0 k8
            refine st (s_append (K := Kd.bool) sl68 rfl rfl hO5 (lit_bool hB2 hO2 (fun h => h) hg2) bool_ones (by simp; omega) (by simp; omega) (by first | exact Nat.le_refl _ | omega) (fun _ h => h.elim) ?_)
            intro v6 w10 hO6 k9 hr2
            have hb11 := hb10.grown k9 hb10.size (fun k_ hk_ => (hO5.lt k_ hk_).1)
            have hz15 := hb11.size
            refine st (s_assign rfl ?_)
            refine r_end ?_
            refine n_block ?_
            refine n_then ?_
            refine w_region ?_
            refine st (s_move rfl ?_)
            refine st (s_add rfl rfl (by omega) ?_)
            refine st (s_assign rfl ?_)
            refine r_end ?_
            exact n_round (((i + 1)), (v6), (os ++ [decide ((((-u) + 1) - 1) = 1)]), (0)) ⟨hb11, by omega, hO6, by simp; omega, by dsimp only; omega, bsub_step hpa hpb hi.1 hol hn (u' := 0) (by rw [h3, h4]; simp only [bn]; simp; try omega) (by omega)⟩ (by omega) (by exact ⟨rfl, rfl, rfl, rfl, rfl, rfl, rfl, trivial⟩)
        · refine w_skip' ?_
          refine n_then ?_
          refine w_seq ?_
          refine w_region ?_
          refine st (s_assign rfl ?_)
          refine r_end ?_
          refine n_then ?_
          refine w_seq ?_
          refine w_seq ?_
          refine w_region ?_
          refine st (s_move rfl ?_)
          refine st (s_lt rfl rfl ?_)
          refine r_end ?_
          refine n_then ?_
          refine w_condP rfl (fun h6 => ?_) (fun h6 => ?_)
          · refine w_region ?_
            refine st (s_move rfl ?_)
            refine st (s_add rfl rfl (by omega) ?_)
            refine st (s_assign rfl ?_)
            refine st (s_assign rfl ?_)
            refine r_end ?_
            refine n_then ?_
            refine w_region ?_
            refine st (s_move rfl ?_)
            refine st (s_move rfl ?_)
            refine st (s_eq rfl rfl ?_)
            refine st (s_bslice (ps := [(0, .tmp 44)]) (ccs := [#[.bool (decide ((((-u) + 1) + 2) = 1))]]) (e := 4) (cells := [.bool (decide ((((-u) + 1) + 2) = 1))]) rfl rfl (by kernel_rfl) (by decide) nz4 ?_)
            intro g3 w11 hg3 hB3 k10 hs3
            have hb12 := below_g0 hb7 k10
            have hz16 := hb12.size
            have hO7 := hO2.g0 k10
            refine st (s_append (K := Kd.bool) sl68 rfl rfl hO7 (lit_bool hB3 hO2 (fun h => h) hg3) bool_ones (by simp; omega) (by simp; omega) (by first | exact Nat.le_refl _ | omega) (fun _ h => h.elim) ?_)
            intro v7 w12 hO8 k11 hr3
            have hb13 := hb12.grown k11 hb12.size (fun k_ hk_ => (hO7.lt k_ hk_).1)
            have hz17 := hb13.size
            refine st (s_assign rfl ?_)
            refine r_end ?_
            refine n_block ?_
            refine n_then ?_
            refine w_region ?_
            refine st (s_move rfl ?_)
            refine st (s_add rfl rfl (by omega) ?_)
            refine st (s_assign rfl ?_)
            refine r_end ?_
            exact n_round (((i + 1)), (v7), (os ++ [decide ((((-u) + 1) + 2) = 1)]), (1)) ⟨hb13, by omega, hO8, by simp; omega, by dsimp only; omega, bsub_step hpa hpb hi.1 hol hn (u' := 1) (by rw [h3, h4]; simp only [bn]; simp; try omega) (by omega)⟩ (by omega) (by exact ⟨rfl, rfl, rfl, rfl, rfl, rfl, rfl, trivial⟩)
          · refine w_skip' ?_
            refine n_then ?_
            refine w_region ?_
            refine st (s_move rfl ?_)
            refine st (s_move rfl ?_)
            refine st (s_eq rfl rfl ?_)
            refine st (s_bslice (ps := [(0, .tmp 44)]) (ccs := [#[.bool (decide (((-u) + 1) = 1))]]) (e := 4) (cells := [.bool (decide (((-u) + 1) = 1))]) rfl rfl (by kernel_rfl) (by decide) nz4 ?_)
            intro g4 w13 hg4 hB4 k12 hs4
            have hb14 := below_g0 hb7 k12
            have hz18 := hb14.size
            have hO9 := hO2.g0 k12
            refine st (s_append (K := Kd.bool) sl68 rfl rfl hO9 (lit_bool hB4 hO2 (fun h => h) hg4) bool_ones (by simp; omega) (by simp; omega) (by first | exact Nat.le_refl _ | omega) (fun _ h => h.elim) ?_)
            intro v8 w14 hO10 k13 hr4
            have hb15 := hb14.grown k13 hb14.size (fun k_ hk_ => (hO9.lt k_ hk_).1)
            have hz19 := hb15.size
            refine st (s_assign rfl ?_)
            refine r_end ?_
            refine n_block ?_
            refine n_then ?_
            refine w_region ?_
            refine st (s_move rfl ?_)
            refine st (s_add rfl rfl (by omega) ?_)
            refine st (s_assign rfl ?_)
            refine r_end ?_
            exact n_round (((i + 1)), (v8), (os ++ [decide (((-u) + 1) = 1)]), (0)) ⟨hb15, by omega, hO10, by simp; omega, by dsimp only; omega, bsub_step hpa hpb hi.1 hol hn (u' := 0) (by rw [h3, h4]; simp only [bn]; simp; try omega) (by omega)⟩ (by omega) (by exact ⟨rfl, rfl, rfl, rfl, rfl, rfl, rfl, trivial⟩)
      · refine w_skip' ?_
        refine n_then ?_
        refine w_seq ?_
        refine w_seq ?_
        refine w_region ?_
        refine st (s_move rfl ?_)
        refine st (s_move rfl ?_)
        refine st (s_call fn76 rfl (at_any ((hS6.at0 hb6)).none) ?_)
        rintro v9 w15 ⟨hq6, hv3⟩
        rw [atB_tb (nv_nonneg (lim_sl hb))] at hv3
        subst hv3
        have k14 := grown_of_below hq6 none
        have hz20 := hq6.size
        have hb16 := below_g0 hb6 k14
        have hz21 := hb16.size
        have hO11 := hO1.g0 k14
        refine r_end ?_
        refine n_then ?_
        refine w_cond rfl (fun h7 => ?_) (fun h7 => ?_)
        · refine w_region ?_
          refine st (s_move rfl ?_)
          refine st (s_sub rfl rfl (by omega) ?_)
          refine st (s_assign rfl ?_)
          refine r_end ?_
          refine n_then ?_
          refine w_seq ?_
          refine w_region ?_
          refine st (s_assign rfl ?_)
          refine r_end ?_
          refine n_then ?_
          refine w_seq ?_
          refine w_seq ?_
          refine w_region ?_
          refine st (s_move rfl ?_)
          refine st (s_lt rfl rfl ?_)
          refine r_end ?_
          refine n_then ?_
          refine w_condP rfl (fun h8 => ?_) (fun h8 => ?_)
          · refine w_region ?_
            refine st (s_move rfl ?_)
            refine st (s_add rfl rfl (by omega) ?_)
            refine st (s_assign rfl ?_)
            refine st (s_assign rfl ?_)
            refine r_end ?_
            refine n_then ?_
            refine w_region ?_
            refine st (s_move rfl ?_)
            refine st (s_move rfl ?_)
            refine st (s_eq rfl rfl ?_)
            refine st (s_bslice (ps := [(0, .tmp 44)]) (ccs := [#[.bool (decide ((((-u) - 1) + 2) = 1))]]) (e := 4) (cells := [.bool (decide ((((-u) - 1) + 2) = 1))]) rfl rfl (by kernel_rfl) (by decide) nz4 ?_)
            intro g5 w16 hg5 hB5 k15 hs5
            have hb17 := below_g0 hb16 k15
            have hz22 := hb17.size
            have hO12 := hO11.g0 k15
            refine st (s_append (K := Kd.bool) sl68 rfl rfl hO12 (lit_bool hB5 hO11 (fun h => h) hg5) bool_ones (by simp; omega) (by simp; omega) (by first | exact Nat.le_refl _ | omega) (fun _ h => h.elim) ?_)
            intro v10 w17 hO13 k16 hr5
            have hb18 := hb17.grown k16 hb17.size (fun k_ hk_ => (hO12.lt k_ hk_).1)
            have hz23 := hb18.size
            refine st (s_assign rfl ?_)
            refine r_end ?_
            refine n_block ?_
            refine n_then ?_
            refine w_region ?_
            refine st (s_move rfl ?_)
            refine st (s_add rfl rfl (by omega) ?_)
            refine st (s_assign rfl ?_)
            refine r_end ?_
            exact n_round (((i + 1)), (v10), (os ++ [decide ((((-u) - 1) + 2) = 1)]), (1)) ⟨hb18, by omega, hO13, by simp; omega, by dsimp only; omega, bsub_step hpa hpb hi.1 hol hn (u' := 1) (by rw [h3, h7]; simp only [bn]; simp; try omega) (by omega)⟩ (by omega) (by exact ⟨rfl, rfl, rfl, rfl, rfl, rfl, rfl, trivial⟩)
          · refine w_skip' ?_
            refine n_then ?_
            refine w_region ?_
            refine st (s_move rfl ?_)
            refine st (s_move rfl ?_)
            refine st (s_eq rfl rfl ?_)
            refine st (s_bslice (ps := [(0, .tmp 44)]) (ccs := [#[.bool (decide (((-u) - 1) = 1))]]) (e := 4) (cells := [.bool (decide (((-u) - 1) = 1))]) rfl rfl (by kernel_rfl) (by decide) nz4 ?_)
            intro g6 w18 hg6 hB6 k17 hs6
            have hb19 := below_g0 hb16 k17
            have hz24 := hb19.size
            have hO14 := hO11.g0 k17
            refine st (s_append (K := Kd.bool) sl68 rfl rfl hO14 (lit_bool hB6 hO11 (fun h => h) hg6) bool_ones (by simp; omega) (by simp; omega) (by first | exact Nat.le_refl _ | omega) (fun _ h => h.elim) ?_)
            intro v11 w19 hO15 k18 hr6
            have hb20 := hb19.grown k18 hb19.size (fun k_ hk_ => (hO14.lt k_ hk_).1)
            have hz25 := hb20.size
            refine st (s_assign rfl ?_)
            refine r_end ?_
            refine n_block ?_
            refine n_then ?_
            refine w_region ?_
            refine st (s_move rfl ?_)
            refine st (s_add rfl rfl (by omega) ?_)
            refine st (s_assign rfl ?_)
            refine r_end ?_
            exact n_round (((i + 1)), (v11), (os ++ [decide (((-u) - 1) = 1)]), (0)) ⟨hb20, by omega, hO15, by simp; omega, by dsimp only; omega, bsub_step hpa hpb hi.1 hol hn (u' := 0) (by rw [h3, h7]; simp only [bn]; simp; try omega) (by omega)⟩ (by omega) (by exact ⟨rfl, rfl, rfl, rfl, rfl, rfl, rfl, trivial⟩)
        · refine w_skip' ?_
          refine n_then ?_
          refine w_seq ?_
          refine w_region ?_
          refine st (s_assign rfl ?_)
          refine r_end ?_
          refine n_then ?_
          refine w_seq ?_
          refine w_seq ?_
          refine w_region ?_
          refine st (s_move rfl ?_)
          refine st (s_lt rfl rfl ?_)
          refine r_end ?_
          refine n_then ?_
          refine w_condP rfl (fun h9 => ?_) (fun h9 => ?_)
          · refine w_region ?_
            refine st (s_move rfl ?_)
            refine st (s_add rfl rfl (by omega) ?_)
            refine st (s_assign rfl ?_)
            refine st (s_assign rfl ?_)
            refine r_end ?_
            refine n_then ?_
            refine w_region ?_
            refine st (s_move rfl ?_)
            refine st (s_move rfl ?_)
            refine st (s_eq rfl rfl ?_)
            refine st (s_bslice (ps := [(0, .tmp 44)]) (ccs := [#[.bool (decide (((-u) + 2) = 1))]]) (e := 4) (cells := [.bool (decide (((-u) + 2) = 1))]) rfl rfl (by kernel_rfl) (by decide) nz4 ?_)
            intro g7 w20 hg7 hB7 k19 hs7
            have hb21 := below_g0 hb16 k19
            have hz26 := hb21.size
            have hO16 := hO11.g0 k19
            refine st (s_append (K := Kd.bool) sl68 rfl rfl hO16 (lit_bool hB7 hO11 (fun h => h) hg7) bool_ones (by simp; omega) (by simp; omega) (by first | exact Nat.le_refl _ | omega) (fun _ h => h.elim) ?_)
            intro v12 w21 hO17 k20 hr7
            have hb22 := hb21.grown k20 hb21.size (fun k_ hk_ => (hO16.lt k_ hk_).1)
            have hz27 := hb22.size
            refine st (s_assign rfl ?_)
            refine r_end ?_
            refine n_block ?_
            refine n_then ?_
            refine w_region ?_
            refine st (s_move rfl ?_)
            refine st (s_add rfl rfl (by omega) ?_)
            refine st (s_assign rfl ?_)
            refine r_end ?_
            exact n_round (((i + 1)), (v12), (os ++ [decide (((-u) + 2) = 1)]), (1)) ⟨hb22, by omega, hO17, by simp; omega, by dsimp only; omega, bsub_step hpa hpb hi.1 hol hn (u' := 1) (by rw [h3, h7]; simp only [bn]; simp; try omega) (by omega)⟩ (by omega) (by exact ⟨rfl, rfl, rfl, rfl, rfl, rfl, rfl, trivial⟩)
          · refine w_skip' ?_
            refine n_then ?_
            refine w_region ?_
            refine st (s_move rfl ?_)
            refine st (s_move rfl ?_)
            refine st (s_eq rfl rfl ?_)
            refine st (s_bslice (ps := [(0, .tmp 44)]) (ccs := [#[.bool (decide ((-u) = 1))]]) (e := 4) (cells := [.bool (decide ((-u) = 1))]) rfl rfl (by kernel_rfl) (by decide) nz4 ?_)
            intro g8 w22 hg8 hB8 k21 hs8
            have hb23 := below_g0 hb16 k21
            have hz28 := hb23.size
            have hO18 := hO11.g0 k21
            refine st (s_append (K := Kd.bool) sl68 rfl rfl hO18 (lit_bool hB8 hO11 (fun h => h) hg8) bool_ones (by simp; omega) (by simp; omega) (by first | exact Nat.le_refl _ | omega) (fun _ h => h.elim) ?_)
            intro v13 w23 hO19 k22 hr8
            have hb24 := hb23.grown k22 hb23.size (fun k_ hk_ => (hO18.lt k_ hk_).1)
            have hz29 := hb24.size
            refine st (s_assign rfl ?_)
            refine r_end ?_
            refine n_block ?_
            refine n_then ?_
            refine w_region ?_
            refine st (s_move rfl ?_)
            refine st (s_add rfl rfl (by omega) ?_)
            refine st (s_assign rfl ?_)
            refine r_end ?_
            exact n_round (((i + 1)), (v13), (os ++ [decide ((-u) = 1)]), (0)) ⟨hb24, by omega, hO19, by simp; omega, by dsimp only; omega, bsub_step hpa hpb hi.1 hol hn (u' := 0) (by rw [h3, h7]; simp only [bn]; simp; try omega) (by omega)⟩ (by omega) (by exact ⟨rfl, rfl, rfl, rfl, rfl, rfl, rfl, trivial⟩)
    · refine w_exit' ?_
      refine n_then_exit ?_
      refine n_then_exit ?_
      refine n_block_exit ?_
      refine n_then ?_
      refine w_seq ?_
      refine w_region ?_
      refine st (s_move rfl ?_)
      refine st (s_call fn77 rfl (rof_any hO.sl.none (by first | omega | (simp; done) | (simp; omega))) ?_)
      rintro v14 w24 ⟨hq7, hS7⟩
      have k23 := grown_of_below hq7 none
      have hz30 := hq7.size
      have hb25 := below_g0 hb5 k23
      have hz31 := hb25.size
      have hO20 := hO.g0 k23
      refine st (s_assign rfl ?_)
      refine st (s_assign rfl ?_)
      refine r_end ?_
      refine n_then ?_
      refine w_ret2 rfl rfl rfl ?_
      have hle : nv ys ≤ nv xs := by have := h1; unfold cmpI at this; split at this <;> (try split at this) <;> omega
      have hend := bsub_end hpa hpb hle hol hn hu (by omega)
      exact ⟨_, rfl, (hb3.trans (hb25.mono hb3.size)), _, by rw [decide_eq_true hle], by rw [← hend]; exact hS7⟩
end Go.Proofs.Ytencmmhfiepojaa

set_option maxRecDepth 20000
set_option linter.unusedSimpArgs false
set_option linter.unusedVariables false
namespace Go.Proofs.Ytencmmhfiepojaa
open Go.RowKit Go.Gw
theorem rshl_any {w : World} {a : Value} {n : Int} {xs : List Int} (ha : Sl Kd.u32 w (fun _ => False) a xs) (hla : xs.length ≤ 100000) :
    Calls Try.prog 31 [a, .int .i64 n].toArray w (Pure w fun v W => Sl Kd.u32 W (fun _ => False) v (shlL xs n)) := by
  have hb0 := Below.refl w.heap.size w
  have hln1 := ha.lenle
  have hla2 := tb_nv_len (lim_sl ha)
  refine enter Try.func31 rfl rfl ?_
  refine w_seq ?_
  refine w_region ?_
  refine st (s_assign rfl ?_)
  refine r_end ?_
  refine n_then ?_
  refine w_seq ?_
  refine w_seq ?_
  refine w_region ?_
  refine st (s_move rfl ?_)
  refine st (s_lt rfl rfl ?_)
  refine st (s_move rfl ?_)
  refine r_caseP 7 rfl (fun h1 => ?_) (fun h1 => ?_)
  · refine s_pass rfl rfl ?_
    refine s_pass rfl rfl ?_
    refine st (s_pick rfl rfl ?_)
    refine r_end ?_
    refine n_then ?_
    refine w_condT rfl ?_
    refine w_seq ?_
    refine w_region ?_
    refine st (s_assign rfl ?_)
    refine r_end ?_
    refine n_then ?_
    refine w_ret1 rfl rfl ?_
    exact ⟨_, rfl, hb0, by unfold shlL; rw [if_neg (by rw [fit_no (by omega)]; decide)]; exact (Own.nil Kd.u32 44 w.heap.size _ (fun _ => False)).sl⟩
  · refine stg (s_move rfl ?_)
    refine stg (s_gt rfl rfl ?_)
    refine st (s_pick rfl rfl ?_)
    refine r_end ?_
    refine n_then ?_
    refine w_condP rfl (fun h2 => ?_) (fun h2 => ?_)
    · refine w_seq ?_
      refine w_region ?_
      refine st (s_assign rfl ?_)
      refine r_end ?_
      refine n_then ?_
      refine w_ret1 rfl rfl ?_
      exact ⟨_, rfl, hb0, by unfold shlL; rw [if_neg (by rw [fit_no (by omega)]; decide)]; exact (Own.nil Kd.u32 44 w.heap.size _ (fun _ => False)).sl⟩
    · refine w_skip' ?_
      refine n_then ?_
      refine w_seq ?_
      refine w_drawC 6 (fun a b => Below (w.heap.size) a b) (Big0 (w.heap.size)) (Big (w.heap.size)) [(some 11, fun v _ => v = .int .i64 n), (some 12, fun v W => Gw.Own Kd.bool 4 w.heap.size W (fun _ => False) v (List.replicate (n).toNat false)), (some 13, fun v _ => v = a), (some 14, fun v W => Sl Kd.bool W (fun _ => False) v (tb (nv xs))), (some 15, fun v W => Gw.Own Kd.bool 4 w.heap.size W (fun _ => False) v (List.replicate (n).toNat false ++ tb (nv xs))), (some 16, fun v W => Sl Kd.u32 W (fun _ => False) v (tl (bv (List.replicate (n).toNat false ++ tb (nv xs)))))] [[], [0], [], [2], [1, 3], [4]] [[], [0], [], [2], [1, 3, 0, 2], [4, 1, 3, 0, 2]] [[], [4], [], [4], [], []] [false, false, false, false, true, false] [true, false, true, false, false, false] [(0, a), (1, .int .i64 n), (4, .slice none 0 0)] (by exact ⟨rfl, rfl, rfl, trivial⟩) (by kernel_rfl) (by kernel_rfl) (by kernel_rfl) rfl (Below.refl _) (fun _ _ _ h k => h.trans k) (fun _ _ h => h.below) (fun _ _ h => h.below) ⟨fun _ _ _ h _ => by exact h, fun _ _ _ h _ => by exact h, fun _ _ _ h k => h.g0 k.2, fun _ _ _ h _ => by exact h, fun _ _ _ h _ => by exact h, fun _ _ _ h k => h.g0 k.2, fun _ _ _ h k => h.g0 k.2, fun _ _ _ h k => h.g0 k.2, trivial⟩ ?_
      intro w1 k1 hs1
      have hb1 := below_g0 hb0 k1
      refine ⟨⟨?_, ?_, ?_, ?_, ?_, ?_, trivial⟩, ?_⟩
      · intro w8z_ kb
        have kgz_ := grown_of_below (show Below w1.heap.size w1 w8z_ by rw [hs1]; exact kb) none
        have hbz_ := below_g0 hb1 kgz_
        have hzz_ := hbz_.size
        have hez_ := kb.size
        exact op1 (s_move rfl ⟨rfl, ⟨by omega, World.grownBy.refl _ _⟩⟩)
      · intro w8z_ kb
        have kgz_ := grown_of_below (show Below w1.heap.size w1 w8z_ by rw [hs1]; exact kb) none
        have hbz_ := below_g0 hb1 kgz_
        have hzz_ := hbz_.size
        have hez_ := kb.size
        rintro _ rfl
        refine op1 (s_make (K := Kd.bool) (base := w.heap.size) (F := fun _ => False) sl68 rfl (by omega) (by omega) (by omega) (fun _ _ => ⟨rfl, trivial⟩) (by omega) (fun _ h => h.elim) ?_)
        intro vz_ wz_ hOz_ kz_
        exact ⟨hOz_, ⟨by omega, kz_⟩⟩
      · intro w8z_ kb
        have kgz_ := grown_of_below (show Below w1.heap.size w1 w8z_ by rw [hs1]; exact kb) none
        have hbz_ := below_g0 hb1 kgz_
        have hzz_ := hbz_.size
        have hez_ := kb.size
        exact op1 (s_move rfl ⟨rfl, ⟨by omega, World.grownBy.refl _ _⟩⟩)
      · intro w8z_ kb
        have kgz_ := grown_of_below (show Below w1.heap.size w1 w8z_ by rw [hs1]; exact kb) none
        have hbz_ := below_g0 hb1 kgz_
        have hzz_ := hbz_.size
        have hez_ := kb.size
        intro v_ hv_; subst v_
        refine op1 (s_call fn75 rfl (rbits_any ((ha.at0 hbz_)).none (by omega)) ?_)
        rintro vz_ wz_ ⟨hqz_, hSz_⟩
        exact ⟨hSz_, ⟨by omega, grown_of_below hqz_ none⟩⟩
      · intro w8z_ kb
        have kgz_ := grown_of_below (show Below w1.heap.size w1 w8z_ by rw [hs1]; exact kb) none
        have hbz_ := below_g0 hb1 kgz_
        have hzz_ := hbz_.size
        have hez_ := kb.size
        intro v12z_ h12z_ v14z_ h14z_
        refine op1 (s_appendF (K := Kd.bool) sl68 rfl rfl h12z_ bool_flat h14z_ bool_ones (by simp; omega) (by simp; omega) (by omega) (fun _ h => h.elim) ?_)
        intro vz_ wz_ hPz_ kz_ horz_ hzz2_
        exact ⟨hPz_, ⟨by omega, _, kz_, fun g hg => (h12z_.lt g hg).1⟩⟩
      · intro w8z_ kb
        have kgz_ := grown_of_below (show Below w1.heap.size w1 w8z_ by rw [hs1]; exact kb) none
        have hbz_ := below_g0 hb1 kgz_
        have hzz_ := hbz_.size
        have hez_ := kb.size
        intro v15z_ h15z_
        refine op1 (s_call fn77 rfl (rof_any h15z_.sl (by simp; omega)) ?_)
        rintro vz_ wz_ ⟨hqz_, hSz_⟩
        exact ⟨hSz_, ⟨by omega, grown_of_below hqz_ none⟩⟩
      intro w2 kb
      have k2 := grown_of_below (show Below w1.heap.size w1 w2 by rw [hs1]; exact kb) none
      have hb2 := below_g0 hb1 k2
      have hz1 := hb2.size
      rintro _ rfl
      intro v12 _
      intro v_ hv_; subst v_
      intro v14 _
      intro v15 h15
      intro v16 h16
      refine st (s_assign rfl ?_)
      refine r_end ?_
      refine n_then ?_
      refine w_ret1 rfl rfl ?_
      exact ⟨_, rfl, hb2, by unfold shlL; rw [if_pos (fit_yes (by omega) (by omega)), ← shl_bits (nv_nonneg (lim_sl ha))]; exact h16⟩

theorem rshr_any {w : World} {a : Value} {n : Int} {xs : List Int} (ha : Sl Kd.u32 w (fun _ => False) a xs) (hla : xs.length ≤ 100000) :
    Calls Try.prog 33 [a, .int .i64 n].toArray w (Pure w fun v W => Sl Kd.u32 W (fun _ => False) v (shrL xs n)) := by
  have hb0 := Below.refl w.heap.size w
  have hln1 := ha.lenle
  have hla2 := tb_nv_len (lim_sl ha)
  refine enter Try.func33 rfl rfl ?_
  refine w_seq ?_
  refine w_region ?_
  refine st (s_assign rfl ?_)
  refine r_end ?_
  refine n_then ?_
  refine w_seq ?_
  refine w_region ?_
  refine st (s_move rfl ?_)
  refine st (s_call fn75 rfl (rbits_any ((ha.at0 hb0)).none (by first | omega | (simp; done) | (simp; omega))) ?_)
  rintro v1 w1 ⟨hq1, hS1⟩
  have k1 := grown_of_below hq1 none
  have hz1 := hq1.size
  have hb1 := below_g0 hb0 k1
  have hz2 := hb1.size
  refine st (s_assign rfl ?_)
  refine r_end ?_
  refine n_then ?_
  refine w_seq ?_
  refine w_seq ?_
  refine w_region ?_
  refine st (s_move rfl ?_)
  refine st (s_lt rfl rfl ?_)
  refine st (s_move rfl ?_)
  refine r_caseP 10 rfl (fun h1 => ?_) (fun h1 => ?_)
  · refine s_pass rfl rfl ?_
    refine s_pass rfl rfl ?_
    refine st (s_pick rfl rfl ?_)
    refine st (s_move rfl ?_)
    refine s_pass rfl rfl ?_
    refine s_pass rfl rfl ?_
    refine s_pass rfl rfl ?_
    refine s_pass rfl rfl ?_
    refine st (s_pick rfl rfl ?_)
    refine r_end ?_
    refine n_then ?_
    refine w_condT rfl ?_
    refine w_seq ?_
    refine w_region ?_
    refine st (s_assign rfl ?_)
    refine r_end ?_
    refine n_then ?_
    refine w_ret1 rfl rfl ?_
    exact ⟨_, rfl, hb1, by unfold shrL; rw [if_neg (by rw [fit_no (by omega)]; decide)]; exact (Own.nil Kd.u32 44 w.heap.size _ (fun _ => False)).sl⟩
  · refine stg (s_move rfl ?_)
    refine stg (s_gt rfl rfl ?_)
    refine st (s_pick rfl rfl ?_)
    refine st (s_move rfl ?_)
    refine r_caseP 14 rfl (fun h2 => ?_) (fun h2 => ?_)
    · refine s_pass rfl rfl ?_
      refine s_pass rfl rfl ?_
      refine s_pass rfl rfl ?_
      refine s_pass rfl rfl ?_
      refine st (s_pick rfl rfl ?_)
      refine r_end ?_
      refine n_then ?_
      refine w_condT rfl ?_
      refine w_seq ?_
      refine w_region ?_
      refine st (s_assign rfl ?_)
      refine r_end ?_
      refine n_then ?_
      refine w_ret1 rfl rfl ?_
      exact ⟨_, rfl, hb1, by unfold shrL; rw [if_neg (by rw [fit_no (by omega)]; decide)]; exact (Own.nil Kd.u32 44 w.heap.size _ (fun _ => False)).sl⟩
    · refine stg (s_move rfl ?_)
      refine stg (s_move rfl ?_)
      refine stg (s_len sl68 rfl hS1 ?_)
      refine stg (s_ge rfl rfl ?_)
      refine st (s_pick rfl rfl ?_)
      refine r_end ?_
      refine n_then ?_
      refine w_condP rfl (fun h3 => ?_) (fun h3 => ?_)
      · refine w_seq ?_
        refine w_region ?_
        refine st (s_assign rfl ?_)
        refine r_end ?_
        refine n_then ?_
        refine w_ret1 rfl rfl ?_
        exact ⟨_, rfl, hb1, by unfold shrL; rw [if_pos (fit_yes (by omega) (by omega)), shr_small (nv_nonneg (lim_sl ha)) (by omega)]; exact (Own.nil Kd.u32 44 w.heap.size _ (fun _ => False)).sl⟩
      · refine w_skip' ?_
        refine n_then ?_
        refine w_seq ?_
        refine w_region ?_
        refine st (s_move rfl ?_)
        refine st (s_move rfl ?_)
        refine st (s_sllo sl68 rfl rfl hS1 (by first | omega | (simp; omega)) (by first | omega | (simp; omega)) ?_)
        intro v2 hS2
        refine st (s_call fn77 rfl (rof_any (hS2).none (by first | omega | (simp; done) | (simp; omega))) ?_)
        rintro v3 w2 ⟨hq2, hS3⟩
        have k2 := grown_of_below hq2 none
        have hz3 := hq2.size
        have hb2 := below_g0 hb1 k2
        have hz4 := hb2.size
        refine st (s_assign rfl ?_)
        refine r_end ?_
        refine n_then ?_
        refine w_ret1 rfl rfl ?_
        exact ⟨_, rfl, hb2, by unfold shrL; rw [if_pos (fit_yes (by omega) (by omega)), ← shr_bits (nv_nonneg (lim_sl ha))]; exact hS3⟩
end Go.Proofs.Ytencmmhfiepojaa

set_option maxRecDepth 20000
set_option linter.unusedSimpArgs false
set_option linter.unusedVariables false
namespace Go.Proofs.Ytencmmhfiepojaa
open Go.RowKit Go.Gw
theorem rmul_any {w : World} {a : Value} {m c : Int} {xs : List Int} (ha : Sl Kd.u32 w (fun _ => False) a xs) (hm : 0 ≤ m ∧ m < 4294967296) (hc : 0 ≤ c ∧ c < 4294967296) (hla : xs.length ≤ 99999) :
    Calls Try.prog 45 [a, .int .u32 m, .int .u32 c].toArray w (Pure w fun v W => Sl Kd.u32 W (fun _ => False) v (tl (nv xs * m + c))) := by
  have hb0 := Below.refl w.heap.size w
  have hln1 := ha.lenle
  refine enter Try.func45 rfl rfl ?_
  refine w_seq ?_
  refine w_region ?_
  refine st (s_assign rfl ?_)
  refine r_end ?_
  refine n_then ?_
  refine w_seq ?_
  refine w_region ?_
  refine st (s_assign rfl ?_)
  refine r_end ?_
  refine n_then ?_
  refine w_seq ?_
  refine w_region ?_
  refine st (s_move rfl ?_)
  refine st (s_convk (M := 18446744073709551616) rfl rfl intk44 intk76 rfl (by omega) ?_)
  refine st (s_assign rfl ?_)
  refine r_end ?_
  refine n_then ?_
  refine w_seq ?_
  refine w_seq ?_
  refine w_region ?_
  refine st (s_assign rfl ?_)
  refine r_end ?_
  refine n_then ?_
  refine w_block ?_
  refine w_loop (α := Int × Value × List Int × Int) (fun ((i, v, os, k) : Int × Value × List Int × Int) => [(0, a), (1, .int .u32 m), (6, .slice none 0 0), (7, v), (8, .int .u64 k), (9, .int .i64 i)]) (fun ((i, v, os, k) : Int × Value × List Int × Int) W => Below w.heap.size w W ∧ (0 ≤ i ∧ i ≤ xs.length) ∧ (Gw.Own Kd.u32 44 w.heap.size W (fun _ => False) v os) ∧ ((os.length : Int) = i) ∧ (0 ≤ k ∧ k < 4294967296) ∧ (nv os + PW i.toNat * k = nv (xs.take i.toNat) * m + c)) (fun ((i, v, os, k) : Int × Value × List Int × Int) => (xs.length - i).toNat) ((0), (.slice none 0 0), ([]), (c)) ⟨hb0, by omega, Own.nil Kd.u32 44 _ _ _, rfl, by omega, by simp [nv, PW_zero]⟩ (by exact ⟨rfl, rfl, rfl, rfl, rfl, rfl, trivial⟩) ?_
  rintro ⟨i, v, os, k⟩ w1 ⟨hb1, hi, hO, hol, hk, hn⟩
  dsimp only at *
  have hz1 := hb1.size
  have hxa := (lim_sl ha).ix i
  have hmb := mul_bd hxa hm
  refine w_seq ?_
  refine w_seq ?_
  refine w_region ?_
  refine st (s_move rfl ?_)
  refine st (s_move rfl ?_)
  refine st (s_len sl32 rfl (ha.at0 hb1) ?_)
  refine st (s_lt rfl rfl ?_)
  refine r_end ?_
  refine n_then ?_
  refine w_condP rfl (fun h1 => ?_) (fun h1 => ?_)
  · refine w_skip' ?_
    refine n_then ?_
    refine w_seq ?_
    refine w_block ?_
    refine w_seq ?_
    refine w_region ?_
    refine st (s_move rfl ?_)
    refine st (s_move rfl ?_)
    refine st (s_idx sl32 rfl rfl (ha.at0 hb1) (by omega) (by omega) ?_)
    rintro b1 o1 _ ⟨rfl, hr1⟩ hc1 hF1 hlt1
    have hl_1 := Loc.lt hF1
    refine st (s_load one44 rfl hc1 (j := 0) rfl ?_)
    refine st (s_convk (M := 18446744073709551616) rfl rfl intk44 intk76 rfl (by omega) ?_)
    refine st (s_move rfl ?_)
    refine st (s_convk (M := 18446744073709551616) rfl rfl intk44 intk76 rfl (by omega) ?_)
    refine st (s_mulk (M := 18446744073709551616) rfl rfl rfl rfl (by omega) ?_)
    refine st (s_move rfl ?_)
    refine st (s_addk (M := 18446744073709551616) rfl rfl rfl rfl (by omega) ?_)
    refine st (s_assign rfl ?_)
    refine r_end ?_
    refine n_then ?_
    refine w_region ?_
    refine st (s_move rfl ?_)
    refine st (s_move rfl ?_)
    refine st (s_remk rfl rfl (by omega) (by omega) ?_)
    refine st (s_convm (M := 4294967296) rfl rfl intk76 intk44 rfl ?_)
    refine st (s_bslice (ps := [(0, .tmp 32)]) (ccs := [#[.int .u32 (((((ix xs i) * m) + k) % 4294967296) % 4294967296)]]) (e := 44) (cells := [.int .u32 (((((ix xs i) * m) + k) % 4294967296) % 4294967296)]) rfl rfl (by kernel_rfl) (by decide) nz44 ?_)
    intro g1 w2 hg1 hB1 k1 hs1
    have hb2 := below_g0 hb1 k1
    have hz2 := hb2.size
    have hO1 := hO.g0 k1
    refine st (s_append (K := Kd.u32) sl32 rfl rfl hO1 (lit_u32 hB1 hO (fun h => h) hg1 (by omega)) u32_ones (by simp; omega) (by simp; omega) (by first | exact Nat.le_refl _ | omega) (fun _ h => h.elim) ?_)
    intro v1 w3 hO2 k2 hr2
    have hb3 := hb2.grown k2 hb2.size (fun k_ hk_ => (hO1.lt k_ hk_).1)
    have hz3 := hb3.size
    refine st (s_move rfl ?_)
    refine st (s_quok (M := 18446744073709551616) rfl rfl rfl rfl (by omega) (by omega) ?_)
    refine st (s_assign rfl ?_)
    refine st (s_assign rfl ?_)
    refine r_end ?_
    refine n_block ?_
    refine n_then ?_
    refine w_region ?_
    refine st (s_move rfl ?_)
    refine st (s_add rfl rfl (by omega) ?_)
    refine st (s_assign rfl ?_)
    refine r_end ?_
    exact n_round (((i + 1)), (v1), (os ++ [(((((ix xs i) * m) + k) % 4294967296) % 4294967296)]), (((((ix xs i) * m) + k) / 4294967296))) ⟨hb3, by omega, hO2, by simp; omega, by dsimp only; omega, (by have e9 := rmul_step hn hi.1 hol; rwa [show ((ix xs i * m + k) % 4294967296) % 4294967296 = (ix xs i * m + k) % 4294967296 by omega])⟩ (by omega) (by exact ⟨rfl, rfl, rfl, rfl, rfl, rfl, trivial⟩)
  · refine w_exit' ?_
    refine n_then_exit ?_
    refine n_then_exit ?_
    refine n_block_exit ?_
    refine n_then ?_
    refine w_seq ?_
    refine w_region ?_
    refine st (s_move rfl ?_)
    refine st (s_move rfl ?_)
    refine st (s_convm (M := 4294967296) rfl rfl intk76 intk44 rfl ?_)
    refine st (s_bslice (ps := [(0, .tmp 39)]) (ccs := [#[.int .u32 (k % 4294967296)]]) (e := 44) (cells := [.int .u32 (k % 4294967296)]) rfl rfl (by kernel_rfl) (by decide) nz44 ?_)
    intro g2 w4 hg2 hB2 k3 hs2
    have hb4 := below_g0 hb1 k3
    have hz4 := hb4.size
    have hO3 := hO.g0 k3
    refine st (s_append (K := Kd.u32) sl32 rfl rfl hO3 (lit_u32 hB2 hO (fun h => h) hg2 (by omega)) u32_ones (by simp; omega) (by simp; omega) (by first | exact Nat.le_refl _ | omega) (fun _ h => h.elim) ?_)
    intro v2 w5 hO4 k4 hr3
    have hb5 := hb4.grown k4 hb4.size (fun k_ hk_ => (hO3.lt k_ hk_).1)
    have hz5 := hb5.size
    refine st (s_call fn41 rfl (rnorm_any hO4.sl.none (by first | omega | (simp; done) | (simp; omega))) ?_)
    rintro v3 w6 ⟨hq1, hS1⟩
    have k5 := grown_of_below hq1 none
    have hz6 := hq1.size
    have hb6 := below_g0 hb5 k5
    have hz7 := hb6.size
    have hO5 := hO4.g0 k5
    refine st (s_assign rfl ?_)
    refine r_end ?_
    refine n_then ?_
    refine w_ret1 rfl rfl ?_
    have he := rmul_end hn hi.1 (by omega) hol
    refine ⟨_, rfl, hb6, ?_⟩
    rw [← he]
    have h9 := hS1
    rwa [show k % 4294967296 = k by omega] at h9

theorem rdiv_any {w : World} {a : Value} {m : Int} {xs : List Int} (ha : Sl Kd.u32 w (fun _ => False) a xs) (hm : 0 ≤ m ∧ m < 4294967296) (hla : xs.length ≤ 100000) :
    Calls Try.prog 43 [a, .int .u32 m].toArray w (Pure w fun r W => ∃ v, r = .tuple #[v, .int .u32 (if m = 0 then 0 else nv xs % m)] ∧ Sl Kd.u32 W (fun _ => False) v (tl (nv xs / m))) := by
  have hb0 := Below.refl w.heap.size w
  have hln1 := ha.lenle
  refine enter Try.func43 rfl rfl ?_
  refine w_seq ?_
  refine w_region ?_
  refine st (s_assign rfl ?_)
  refine st (s_assign rfl ?_)
  refine r_end ?_
  refine n_then ?_
  refine w_seq ?_
  refine w_seq ?_
  refine w_region ?_
  refine st (s_move rfl ?_)
  refine st (s_eq rfl rfl ?_)
  refine r_end ?_
  refine n_then ?_
  refine w_condP rfl (fun h1 => ?_) (fun h1 => ?_)
  · refine w_seq ?_
    refine w_region ?_
    refine st (s_assign rfl ?_)
    refine st (s_assign rfl ?_)
    refine r_end ?_
    refine n_then ?_
    refine w_ret2 rfl rfl rfl ?_
    have hm0 : m = 0 := h1
    subst hm0
    exact ⟨_, rfl, hb0, _, rfl, by rw [Int.ediv_zero, tl_zero (Int.le_refl _)]; exact (Own.nil Kd.u32 44 w.heap.size _ (fun _ => False)).sl⟩
  · refine w_skip' ?_
    refine n_then ?_
    refine w_seq ?_
    refine w_region ?_
    refine st (s_move rfl ?_)
    refine st (s_len sl32 rfl (ha.at0 hb0) ?_)
    refine st (s_make (K := Kd.u32) (base := w.heap.size) (F := (fun _ => False)) sl32 rfl (by omega) (by omega) (by omega) (fun _ _ => ⟨rfl, by decide⟩) (by omega) (fun _ h => h.elim) ?_)
    intro v1 w1 hO1 k1
    have hb1 := below_g0 hb0 k1
    have hz1 := hb1.size
    refine st (s_assign rfl ?_)
    refine r_end ?_
    refine n_then ?_
    refine w_seq ?_
    refine w_region ?_
    refine st (s_assign rfl ?_)
    refine r_end ?_
    refine n_then ?_
    refine w_seq ?_
    refine w_seq ?_
    refine w_region ?_
    refine st (s_move rfl ?_)
    refine st (s_len sl32 rfl (ha.at0 hb1) ?_)
    refine st (s_sub rfl rfl (by omega) ?_)
    refine st (s_assign rfl ?_)
    refine r_end ?_
    refine n_then ?_
    refine w_block ?_
    refine w_loop (α := Int × List Int × Int) (fun ((i, os, l) : Int × List Int × Int) => [(0, a), (1, .int .u32 m), (4, .slice none 0 0), (5, .int .u32 0), (6, v1), (7, .int .u64 l), (8, .int .i64 i)]) (fun ((i, os, l) : Int × List Int × Int) W => Below w.heap.size w W ∧ (-1 ≤ i ∧ i < xs.length) ∧ (os.length = xs.length) ∧ (0 ≤ l ∧ l < m) ∧ (Gw.Own Kd.u32 44 w.heap.size W (fun _ => False) v1 os) ∧ (l = nv (xs.drop (i + 1).toNat) % m) ∧ (nv (os.drop (i + 1).toNat) = nv (xs.drop (i + 1).toNat) / m)) (fun ((i, os, l) : Int × List Int × Int) => (i + 1).toNat) (((xs.length : Int) - 1), (List.replicate ((xs.length : Int)).toNat 0), (0)) ⟨hb1, by omega, by simp, by omega, hO1, by rw [List.drop_of_length_le (by omega)]; simp [nv], by rw [List.drop_of_length_le (by simp), List.drop_of_length_le (by omega)]; simp [nv]⟩ (by exact ⟨rfl, rfl, rfl, rfl, rfl, rfl, rfl, trivial⟩) ?_
    rintro ⟨i, os, l⟩ w2 ⟨hb2, hi, hol, hl, hO, e1, e2⟩
    dsimp only at *
    have hz2 := hb2.size
    have hxa := (lim_sl ha).ix i
    have hq := div32_q (l := ix xs i) hl.1 hxa hl.2
    have hr := div32_r (l := ix xs i) hl.1 hxa hl.2
    refine w_seq ?_
    refine w_seq ?_
    refine w_region ?_
    refine st (s_move rfl ?_)
    refine st (s_ge rfl rfl ?_)
    refine r_end ?_
    refine n_then ?_
    refine w_condP rfl (fun h2 => ?_) (fun h2 => ?_)
    · refine w_skip' ?_
      refine n_then ?_
      refine w_seq ?_
      refine w_block ?_
      refine w_seq ?_
      refine w_region ?_
      refine st (s_move rfl ?_)
      refine st (s_mulk (M := 18446744073709551616) rfl rfl rfl rfl (by omega) ?_)
      refine st (s_move rfl ?_)
      refine st (s_move rfl ?_)
      refine st (s_idx sl32 rfl rfl (ha.at0 hb2) (by omega) (by omega) ?_)
      rintro b1 o1 _ ⟨rfl, hr1⟩ hc1 hF1 hlt1
      have hl_1 := Loc.lt hF1
      refine st (s_load one44 rfl hc1 (j := 0) rfl ?_)
      refine st (s_convk (M := 18446744073709551616) rfl rfl intk44 intk76 rfl (by omega) ?_)
      refine st (s_addk (M := 18446744073709551616) rfl rfl rfl rfl (by omega) ?_)
      refine st (s_assign rfl ?_)
      refine r_end ?_
      refine n_then ?_
      obtain ⟨gD1, hgD1, hl_2, hl_3⟩ := own_block hO (by omega)
      refine w_drawD 13 (fun a b => a.grownBy b (some gD1)) (fun a b => a.grownBy b none) (fun a b => a.grownBy b (some gD1)) [(some 30, fun v _ => v = v1), (some 31, fun v _ => v = .int .i64 i), (some 32, fun v _ => v = .int .u64 ((l * 4294967296) + (ix xs i))), (some 33, fun v _ => v = .int .u32 m), (some 34, fun v _ => v = .int .u64 m), (some 35, fun v _ => v = .int .u64 (((l * 4294967296) + (ix xs i)) / m)), (some 36, fun v _ => v = .int .u32 ((((l * 4294967296) + (ix xs i)) / m) % 4294967296)), (some 37, fun v _ => v = .int .u64 ((l * 4294967296) + (ix xs i))), (some 38, fun v _ => v = .int .u32 m), (some 39, fun v _ => v = .int .u64 m), (some 40, fun v _ => v = .int .u64 (((l * 4294967296) + (ix xs i)) % m)), (some 41, fun v _ => v = .pointer (some ⟨gD1, (i).toNat * 1, none⟩)), (none, fun _ W => Gw.Own Kd.u32 44 w.heap.size W (fun _ => False) v1 (os.set (i).toNat ((((l * 4294967296) + (ix xs i)) / m) % 4294967296)))] [[], [], [], [], [3], [2, 4], [5], [], [], [8], [7, 9], [0, 1], [6, 11]] [[], [], [], [], [3], [2, 3, 4], [2, 3, 4, 5], [], [], [8], [7, 8, 9], [0, 1, 2, 3, 4, 5, 6], [0, 1, 2, 3, 4, 5, 6, 11]] [[], [], [], [], [], [], [], [], [], [], [], [], []] [false, false, false, false, false, false, false, false, false, false, false, false, true] [true, true, true, true, true, true, true, true, true, true, true, true, false] [true, true, true, true, true, true, true, false, false, false, false, true, true] [(0, a), (1, .int .u32 m), (4, .slice none 0 0), (5, .int .u32 0), (6, v1), (7, .int .u64 l), (8, .int .i64 i), (9, .int .u64 ((l * 4294967296) + (ix xs i)))] (by exact ⟨rfl, rfl, rfl, rfl, rfl, rfl, rfl, rfl, trivial⟩) (by kernel_rfl) (by kernel_rfl) (by kernel_rfl) rfl (grown_some_refl gD1) grown_some_trans (fun _ _ h => grown_none_row h) (fun _ _ h => h) ⟨fun _ _ _ h _ => by exact h, fun _ _ _ h _ => by exact h, fun _ _ _ h _ => by exact h, fun _ _ _ h _ => by exact h, fun _ _ _ h _ => by exact h, fun _ _ _ h _ => by exact h, fun _ _ _ h _ => by exact h, fun _ _ _ h _ => by exact h, fun _ _ _ h _ => by exact h, fun _ _ _ h _ => by exact h, fun _ _ _ h _ => by exact h, fun _ _ _ h _ => by exact h, fun _ _ _ h _ => by exact h, fun _ _ _ h _ => by exact h, fun _ _ _ h _ => by exact h, fun _ _ _ h _ => by exact h, fun _ _ _ h _ => by exact h, fun _ _ _ h _ => by exact h, fun _ _ _ h _ => by exact h, fun _ _ _ h _ => by exact h, fun _ _ _ h _ => by exact h, fun _ _ _ h _ => by exact h, fun _ _ _ h _ => by exact h, fun _ _ _ h _ => by exact h, fun _ _ _ h k => h.g0 k, trivial⟩ grown_none_refl (fun _ _ _ => grown_none_trans) rfl ?_
      intro w4 k3 hs2
      have hb3 := below_g0 hb2 k3
      have hO3 := hO.g0 k3
      refine ⟨⟨?_, ?_, ?_, ?_, ?_, ?_, ?_, ?_, ?_, ?_, ?_, ?_, ?_, trivial⟩, ?_⟩
      · intro w5 k4
        have hb4 := below_g0 hb3 k4
        have hz3 := hb4.size
        have hO4 := hO3.g0 k4
        refine op1 (s_move rfl ?_)
        exact ⟨rfl, grown_none_refl _⟩
      · intro w6 k5
        have hb5 := below_g0 hb3 k5
        have hz4 := hb5.size
        have hO5 := hO3.g0 k5
        refine op1 (s_move rfl ?_)
        exact ⟨rfl, grown_none_refl _⟩
      · intro w7 k6
        have hb6 := below_g0 hb3 k6
        have hz5 := hb6.size
        have hO6 := hO3.g0 k6
        refine op1 (s_move rfl ?_)
        exact ⟨rfl, grown_none_refl _⟩
      · intro w8 k7
        have hb7 := below_g0 hb3 k7
        have hz6 := hb7.size
        have hO7 := hO3.g0 k7
        refine op1 (s_move rfl ?_)
        exact ⟨rfl, grown_none_refl _⟩
      · intro w9 k8
        have hb8 := below_g0 hb3 k8
        have hz7 := hb8.size
        have hO8 := hO3.g0 k8
        rintro _ rfl
        refine op1 (s_convk (M := 18446744073709551616) rfl rfl intk44 intk76 rfl (by omega) ?_)
        exact ⟨rfl, grown_none_refl _⟩
      · intro w10 k9
        have hb9 := below_g0 hb3 k9
        have hz8 := hb9.size
        have hO9 := hO3.g0 k9
        rintro _ rfl
        rintro _ rfl
        refine op1 (s_quok (M := 18446744073709551616) rfl rfl rfl rfl (by omega) (by omega) ?_)
        exact ⟨rfl, grown_none_refl _⟩
      · intro w11 k10
        have hb10 := below_g0 hb3 k10
        have hz9 := hb10.size
        have hO10 := hO3.g0 k10
        rintro _ rfl
        refine op1 (s_convm (M := 4294967296) rfl rfl intk76 intk44 rfl ?_)
        exact ⟨rfl, grown_none_refl _⟩
      · intro w12 k11
        refine op1 (s_move rfl ?_)
        exact ⟨rfl, grown_none_refl _⟩
      · intro w13 k12
        refine op1 (s_move rfl ?_)
        exact ⟨rfl, grown_none_refl _⟩
      · intro w14 k13
        rintro _ rfl
        refine op1 (s_convk (M := 18446744073709551616) rfl rfl intk44 intk76 rfl (by omega) ?_)
        exact ⟨rfl, grown_none_refl _⟩
      · intro w15 k14
        rintro _ rfl
        rintro _ rfl
        refine op1 (s_remk rfl rfl (by omega) (by omega) ?_)
        exact ⟨rfl, grown_none_refl _⟩
      · intro w16 k15
        have hb11 := below_g0 hb3 k15
        have hz10 := hb11.size
        have hO11 := hO3.g0 k15
        intro v_ hv_; subst v_
        rintro _ rfl
        refine op1 (s_oidx sl32 rfl rfl hO11 (by omega) (by omega) ?_)
        intro g2 hg2 hl_6 hl_7
        obtain rfl := Option.some.inj (hg2.symm.trans hgD1)
        exact ⟨rfl, grown_none_refl _⟩
      · intro w17 k16
        have hb12 := below_g0 hb3 k16
        have hz11 := hb12.size
        have hO12 := hO3.g0 k16
        rintro _ rfl
        rintro _ rfl
        refine op1 (s_ostore one44 rfl rfl rfl rfl hO12 hgD1 (by omega) (by omega) ⟨rfl, by omega⟩ ?_)
        intro w18 hO13 k17 hs3
        have hb13 := below_g hb12 k17 (by omega)
        exact ⟨hO13, k17⟩
      · intro w19 k18
        intro v_ hv_; subst v_
        rintro _ rfl
        rintro _ rfl
        rintro _ rfl
        rintro _ rfl
        rintro _ rfl
        rintro _ rfl
        rintro _ rfl
        rintro _ rfl
        rintro _ rfl
        rintro _ rfl
        rintro _ rfl
        intro v_ hO14
        have hb14 := below_g hb3 k18 (by omega)
        have hz12 := hb14.size
        refine st (s_assign rfl ?_)
        refine r_end ?_
        refine n_block ?_
        refine n_then ?_
        refine w_region ?_
        refine st (s_move rfl ?_)
        refine st (s_sub rfl rfl (by omega) ?_)
        refine st (s_assign rfl ?_)
        refine r_end ?_
        exact n_round (((i - 1)), (os.set (i).toNat ((((l * 4294967296) + (ix xs i)) / m) % 4294967296)), ((((l * 4294967296) + (ix xs i)) % m))) ⟨hb14, by omega, by rw [List.length_set]; exact hol, by dsimp only; omega, hO14, by rw [show i - 1 + 1 = i by omega]; exact (rdiv_step (by omega) (by omega) hi.2 hol e1 e2).1, by rw [show i - 1 + 1 = i by omega, Int.emod_eq_of_lt hq.1 hq.2]; exact (rdiv_step (by omega) (by omega) hi.2 hol e1 e2).2⟩ (by omega) (by exact ⟨rfl, rfl, rfl, rfl, rfl, rfl, rfl, trivial⟩)
    · refine w_exit' ?_
      refine n_then_exit ?_
      refine n_then_exit ?_
      refine n_block_exit ?_
      refine n_then ?_
      refine w_seq ?_
      refine w_region ?_
      refine st (s_move rfl ?_)
      refine st (s_call fn41 rfl (rnorm_any hO.sl.none (by first | omega | (simp; done) | (simp; omega))) ?_)
      rintro v2 w20 ⟨hq1, hS1⟩
      have k19 := grown_of_below hq1 none
      have hz13 := hq1.size
      have hb15 := below_g0 hb2 k19
      have hz14 := hb15.size
      have hO15 := hO.g0 k19
      refine st (s_move rfl ?_)
      refine st (s_convm (M := 4294967296) rfl rfl intk76 intk44 rfl ?_)
      refine st (s_assign rfl ?_)
      refine st (s_assign rfl ?_)
      refine r_end ?_
      refine n_then ?_
      refine w_ret2 rfl rfl rfl ?_
      obtain ⟨f1, f2⟩ := rdiv_end (by omega) e1 e2
      exact ⟨_, rfl, hb15, _, by rw [if_neg (by omega), show l % 4294967296 = l by omega, f1], by rw [← f2]; exact hS1⟩

theorem same_any {w : World} {a b : Value} {xs ys : List Int} (ha : Sl Kd.u32 w (fun _ => False) a xs) (hb : Sl Kd.u32 w (fun _ => False) b ys) :
    Calls Try.prog 25 [a, b].toArray w (Pure w fun v _ => v = .bool (decide (xs = ys))) := by
  have hb0 := Below.refl w.heap.size w
  have hln1 := ha.lenle
  have hln2 := hb.lenle
  refine enter Try.func25 rfl rfl ?_
  refine w_seq ?_
  refine w_region ?_
  refine st (s_assign rfl ?_)
  refine r_end ?_
  refine n_then ?_
  refine w_seq ?_
  refine w_seq ?_
  refine w_region ?_
  refine st (s_move rfl ?_)
  refine st (s_len sl32 rfl (ha.at0 hb0) ?_)
  refine st (s_move rfl ?_)
  refine st (s_len sl32 rfl (hb.at0 hb0) ?_)
  refine st (s_ne rfl rfl ?_)
  refine r_end ?_
  refine n_then ?_
  refine w_condP rfl (fun h1 => ?_) (fun h1 => ?_)
  · refine w_seq ?_
    refine w_region ?_
    refine st (s_assign rfl ?_)
    refine r_end ?_
    refine n_then ?_
    refine w_ret1 rfl rfl ?_
    exact ⟨_, rfl, hb0, by rw [decide_eq_false fun e => h1 (by rw [e])]⟩
  · refine w_skip' ?_
    refine n_then ?_
    refine w_seq ?_
    refine w_seq ?_
    refine w_region ?_
    refine st (s_assign rfl ?_)
    refine r_end ?_
    refine n_then ?_
    refine w_block ?_
    refine w_loop (α := Int) (fun (i : Int) => [(0, a), (1, b), (5, .int .i64 i)]) (fun (i : Int) W => Below w.heap.size w W ∧ (0 ≤ i ∧ i ≤ xs.length) ∧ (∀ j : Int, 0 ≤ j → j < i → ix xs j = ix ys j)) (fun (i : Int) => (xs.length - i).toNat) (0) ⟨hb0, by omega, fun j _ _ => by omega⟩ (by exact ⟨rfl, rfl, rfl, trivial⟩) ?_
    rintro i w1 ⟨hb1, hi, hs⟩
    have hz1 := hb1.size
    refine w_seq ?_
    refine w_seq ?_
    refine w_region ?_
    refine st (s_move rfl ?_)
    refine st (s_move rfl ?_)
    refine st (s_len sl32 rfl (ha.at0 hb1) ?_)
    refine st (s_lt rfl rfl ?_)
    refine r_end ?_
    refine n_then ?_
    refine w_condP rfl (fun h2 => ?_) (fun h2 => ?_)
    · refine w_skip' ?_
      refine n_then ?_
      refine w_seq ?_
      refine w_block ?_
      refine w_seq ?_
      obtain ⟨b1, o1, _, hat1, ⟨rfl, hr1⟩, hc1, hF1, hlt1⟩ := (ha.at0 hb1).elem i (by omega) (by omega)
      have hl_1 := Loc.lt hF1
      obtain ⟨b2, o2, _, hat2, ⟨rfl, hr2⟩, hc2, hF2, hlt2⟩ := (hb.at0 hb1).elem i (by omega) (by omega)
      have hl_2 := Loc.lt hF2
      refine w_draw 9 (fun a b => a.grownBy b none) [(some 17, fun v _ => v = a), (some 18, fun v _ => v = .int .i64 i), (some 19, fun v _ => v = .pointer (some ⟨b1, o1, none⟩)), (some 20, fun v _ => v = .int .u32 (ix xs i)), (some 21, fun v _ => v = b), (some 22, fun v _ => v = .int .i64 i), (some 23, fun v _ => v = .pointer (some ⟨b2, o2, none⟩)), (some 24, fun v _ => v = .int .u32 (ix ys i)), (some 25, fun v _ => v = .bool (decide ((ix xs i) ≠ (ix ys i))))] [[], [], [0, 1], [2], [], [], [4, 5], [6], [3, 7]] [(0, a), (1, b), (5, .int .i64 i)] (by exact ⟨rfl, rfl, rfl, trivial⟩) (by kernel_rfl) (by kernel_rfl) grown_none_refl (fun _ _ _ => grown_none_trans) ⟨fun _ _ _ h _ => h, fun _ _ _ h _ => h, fun _ _ _ h _ => h, fun _ _ _ h _ => h, fun _ _ _ h _ => h, fun _ _ _ h _ => h, fun _ _ _ h _ => h, fun _ _ _ h _ => h, fun _ _ _ h _ => h, trivial⟩ ?_
      intro w2 k1 hs1
      have hb2 := below_g0 hb1 k1
      refine ⟨⟨?_, ?_, ?_, ?_, ?_, ?_, ?_, ?_, ?_, trivial⟩, ?_⟩
      · intro w3 k2
        have hb3 := below_g0 hb2 k2
        refine op1 (s_move rfl ?_)
        exact ⟨rfl, grown_none_refl _⟩
      · intro w4 k3
        have hb4 := below_g0 hb2 k3
        refine op1 (s_move rfl ?_)
        exact ⟨rfl, grown_none_refl _⟩
      · intro w5 k4
        have hb5 := below_g0 hb2 k4
        intro v_ hv_; subst v_
        rintro _ rfl
        refine op1 (s_idxat sl32 rfl rfl hat1 ?_)
        exact ⟨rfl, grown_none_refl _⟩
      · intro w6 k5
        have hb6 := below_g0 hb2 k5
        rintro _ rfl
        refine op1 (s_load one44 rfl (range_g0 (range_g0 hc1 k1) k5) (j := 0) rfl ?_)
        exact ⟨rfl, grown_none_refl _⟩
      · intro w7 k6
        have hb7 := below_g0 hb2 k6
        refine op1 (s_move rfl ?_)
        exact ⟨rfl, grown_none_refl _⟩
      · intro w8 k7
        have hb8 := below_g0 hb2 k7
        refine op1 (s_move rfl ?_)
        exact ⟨rfl, grown_none_refl _⟩
      · intro w9 k8
        have hb9 := below_g0 hb2 k8
        intro v_ hv_; subst v_
        rintro _ rfl
        refine op1 (s_idxat sl32 rfl rfl hat2 ?_)
        exact ⟨rfl, grown_none_refl _⟩
      · intro w10 k9
        have hb10 := below_g0 hb2 k9
        rintro _ rfl
        refine op1 (s_load one44 rfl (range_g0 (range_g0 hc2 k1) k9) (j := 0) rfl ?_)
        exact ⟨rfl, grown_none_refl _⟩
      · intro w11 k10
        have hb11 := below_g0 hb2 k10
        rintro _ rfl
        rintro _ rfl
        refine op1 (s_ne rfl rfl ?_)
        exact ⟨rfl, grown_none_refl _⟩
      · intro w12 k11
        have hb12 := below_g0 hb2 k11
        intro v_ hv_; subst v_
        rintro _ rfl
        rintro _ rfl
        rintro _ rfl
        intro v_ hv_; subst v_
        rintro _ rfl
        rintro _ rfl
        rintro _ rfl
        rintro _ rfl
        refine r_end ?_
        refine n_then ?_
        refine w_condP rfl (fun h3 => ?_) (fun h3 => ?_)
        · refine w_seq ?_
          refine w_region ?_
          refine st (s_assign rfl ?_)
          refine r_end ?_
          refine n_then ?_
          refine w_ret1 rfl rfl ?_
          exact ⟨_, rfl, hb12, by rw [decide_eq_false fun e => h3 (by rw [e])]⟩
        · refine w_skip' ?_
          refine n_block ?_
          refine n_then ?_
          refine w_region ?_
          refine st (s_move rfl ?_)
          refine st (s_add rfl rfl (by omega) ?_)
          refine st (s_assign rfl ?_)
          refine r_end ?_
          exact n_round ((i + 1)) ⟨hb12, by omega, fun j j0 j1 => if q : j = i then by rw [q]; simpa using h3 else hs j j0 (by omega)⟩ (by omega) (by exact ⟨rfl, rfl, rfl, trivial⟩)
    · refine w_exit' ?_
      refine n_then_exit ?_
      refine n_then_exit ?_
      refine n_block_exit ?_
      refine n_then ?_
      refine w_seq ?_
      refine w_region ?_
      refine st (s_assign rfl ?_)
      refine r_end ?_
      refine n_then ?_
      refine w_ret1 rfl rfl ?_
      exact ⟨_, rfl, hb1, by rw [decide_eq_true (same_all (by omega) fun j j0 j1 => hs j j0 (by omega))]⟩
end Go.Proofs.Ytencmmhfiepojaa
