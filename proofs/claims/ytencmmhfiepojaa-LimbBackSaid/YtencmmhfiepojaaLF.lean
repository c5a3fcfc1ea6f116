/- Part of the proof that is named in YtencmmhfiepojaaLRowBack: a library for walks, or a function's walk. -/
import Derived.Test.YtencmmhfiepojaaLE
import Derived.Test.YtencmmhfiepojaaLimbSpec5
set_option maxRecDepth 20000
set_option linter.unusedSimpArgs false
set_option linter.unusedVariables false
namespace Go.Proofs.Ytencmmhfiepojaa
open Go.RowKit Go.Gw
theorem len32_any {w : World} {x : Int} (hx : 0 ≤ x ∧ x < 4294967296) :
    Calls Try.prog 81 [.int .u32 x].toArray w (Pure w fun v _ => v = .int .i64 (blen x)) := by
  have hb0 := Below.refl w.heap.size w
  refine enter Try.func81 rfl rfl ?_
  refine w_seq ?_
  refine w_region ?_
  refine st (s_assign rfl ?_)
  refine r_end ?_
  refine n_then ?_
  refine w_seq ?_
  refine w_seq ?_
  refine w_region ?_
  refine st (s_move rfl ?_)
  refine st (s_ge rfl rfl ?_)
  refine r_end ?_
  refine n_then ?_
  refine w_condP rfl (fun h1 => ?_) (fun h1 => ?_)
  · refine w_seq ?_
    refine w_region ?_
    refine st (s_move rfl ?_)
    refine st (s_shrk (p := 65536) rfl rfl (by decide) (by decide) ?_)
    refine st (s_assign rfl ?_)
    refine r_end ?_
    refine n_then ?_
    refine w_region ?_
    refine st (s_assign rfl ?_)
    refine r_end ?_
    refine n_then ?_
    refine w_seq ?_
    refine w_seq ?_
    refine w_region ?_
    refine st (s_move rfl ?_)
    refine st (s_ge rfl rfl ?_)
    refine r_end ?_
    refine n_then ?_
    refine w_condP rfl (fun h2 => ?_) (fun h2 => ?_)
    · refine w_seq ?_
      refine w_region ?_
      refine st (s_move rfl ?_)
      refine st (s_shrk (p := 256) rfl rfl (by decide) (by decide) ?_)
      refine st (s_assign rfl ?_)
      refine r_end ?_
      refine n_then ?_
      refine w_region ?_
      refine st (s_move rfl ?_)
      refine st (s_add rfl rfl (by first | omega | exact bl_add (by omega)) ?_)
      refine st (s_assign rfl ?_)
      refine r_end ?_
      refine n_then ?_
      refine w_seq ?_
      refine w_region ?_
      refine st (s_move rfl ?_)
      refine st (s_move rfl ?_)
      refine st (s_convm (M := 256) rfl rfl intk44 intk5 rfl ?_)
      refine st (s_sidx str9 rfl rfl (by omega) (tab_lt (by decide +kernel) (by omega)) ?_)
      refine st (s_conv64 intk5 intk3 rfl (bl_conv _ _) ?_)
      refine st (s_add rfl rfl (by first | omega | exact bl_add (by omega)) ?_)
      refine st (s_assign rfl ?_)
      refine r_end ?_
      refine n_then ?_
      refine w_ret1 rfl rfl ?_
      have e1 := blen16 (x := x) (by omega)
      have e2 := blen8 (x := (x / 65536)) (by omega)
      exact ⟨_, rfl, hb0, congrArg (Value.int .i64) (len_fin (by decide +kernel) (by omega) (by omega))⟩
    · refine w_skip' ?_
      refine n_then ?_
      refine w_seq ?_
      refine w_region ?_
      refine st (s_move rfl ?_)
      refine st (s_move rfl ?_)
      refine st (s_convm (M := 256) rfl rfl intk44 intk5 rfl ?_)
      refine st (s_sidx str9 rfl rfl (by omega) (tab_lt (by decide +kernel) (by omega)) ?_)
      refine st (s_conv64 intk5 intk3 rfl (bl_conv _ _) ?_)
      refine st (s_add rfl rfl (by first | omega | exact bl_add (by omega)) ?_)
      refine st (s_assign rfl ?_)
      refine r_end ?_
      refine n_then ?_
      refine w_ret1 rfl rfl ?_
      have e1 := blen16 (x := x) (by omega)
      exact ⟨_, rfl, hb0, congrArg (Value.int .i64) (len_fin (by decide +kernel) (by omega) (by omega))⟩
  · refine w_skip' ?_
    refine n_then ?_
    refine w_seq ?_
    refine w_seq ?_
    refine w_region ?_
    refine st (s_move rfl ?_)
    refine st (s_ge rfl rfl ?_)
    refine r_end ?_
    refine n_then ?_
    refine w_condP rfl (fun h3 => ?_) (fun h3 => ?_)
    · refine w_seq ?_
      refine w_region ?_
      refine st (s_move rfl ?_)
      refine st (s_shrk (p := 256) rfl rfl (by decide) (by decide) ?_)
      refine st (s_assign rfl ?_)
      refine r_end ?_
      refine n_then ?_
      refine w_region ?_
      refine st (s_move rfl ?_)
      refine st (s_add rfl rfl (by first | omega | exact bl_add (by omega)) ?_)
      refine st (s_assign rfl ?_)
      refine r_end ?_
      refine n_then ?_
      refine w_seq ?_
      refine w_region ?_
      refine st (s_move rfl ?_)
      refine st (s_move rfl ?_)
      refine st (s_convm (M := 256) rfl rfl intk44 intk5 rfl ?_)
      refine st (s_sidx str9 rfl rfl (by omega) (tab_lt (by decide +kernel) (by omega)) ?_)
      refine st (s_conv64 intk5 intk3 rfl (bl_conv _ _) ?_)
      refine st (s_add rfl rfl (by first | omega | exact bl_add (by omega)) ?_)
      refine st (s_assign rfl ?_)
      refine r_end ?_
      refine n_then ?_
      refine w_ret1 rfl rfl ?_
      have e2 := blen8 (x := x) (by omega)
      exact ⟨_, rfl, hb0, congrArg (Value.int .i64) (len_fin (by decide +kernel) (by omega) (by omega))⟩
    · refine w_skip' ?_
      refine n_then ?_
      refine w_seq ?_
      refine w_region ?_
      refine st (s_move rfl ?_)
      refine st (s_move rfl ?_)
      refine st (s_convm (M := 256) rfl rfl intk44 intk5 rfl ?_)
      refine st (s_sidx str9 rfl rfl (by omega) (tab_lt (by decide +kernel) (by omega)) ?_)
      refine st (s_conv64 intk5 intk3 rfl (bl_conv _ _) ?_)
      refine st (s_add rfl rfl (by first | omega | exact bl_add (by omega)) ?_)
      refine st (s_assign rfl ?_)
      refine r_end ?_
      refine n_then ?_
      refine w_ret1 rfl rfl ?_
      exact ⟨_, rfl, hb0, congrArg (Value.int .i64) (len_fin (by decide +kernel) (by omega) (by omega))⟩

theorem len_any {w : World} {a : Value} {xs : List Int} (ha : Sl Kd.u32 w (fun _ => False) a xs) (hla : xs.length ≤ 100000) :
    Calls Try.prog 34 [a].toArray w (Pure w fun v _ => v = .int .i64 (blen (nv xs))) := by
  have hb0 := Below.refl w.heap.size w
  have hln1 := ha.lenle
  have hx9 := (lim_tl (nv xs)).ix (((tl (nv xs)).length : Int) - 1)
  have hb9 := blen_le hx9
  have hl9 := tl_len (nv_nonneg (lim_sl ha)) (nv_lt (lim_sl ha))
  refine enter Try.func34 rfl rfl ?_
  refine w_seq ?_
  refine w_region ?_
  refine st (s_assign rfl ?_)
  refine r_end ?_
  refine n_then ?_
  refine w_seq ?_
  refine w_region ?_
  refine st (s_move rfl ?_)
  refine st (s_call fn74 rfl (cut_any (ha.at0 hb0)) ?_)
  rintro v1 w1 ⟨hq1, hS1⟩
  have hS2 := hS1.orig u32_flat hb0
  have k1 := grown_of_below hq1 none
  have hz1 := hq1.size
  have hb1 := below_g0 hb0 k1
  have hz2 := hb1.size
  refine st (s_assign rfl ?_)
  refine r_end ?_
  refine n_then ?_
  refine w_seq ?_
  refine w_seq ?_
  refine w_region ?_
  refine st (s_move rfl ?_)
  refine st (s_len sl32 rfl (hS2.at0 hb1) ?_)
  refine st (s_eq rfl rfl ?_)
  refine r_end ?_
  refine n_then ?_
  refine w_condP rfl (fun h1 => ?_) (fun h1 => ?_)
  · refine w_seq ?_
    refine w_region ?_
    refine st (s_assign rfl ?_)
    refine r_end ?_
    refine n_then ?_
    refine w_ret1 rfl rfl ?_
    have e : tl (nv xs) = [] := List.eq_nil_of_length_eq_zero (by omega)
    have e2 : nv xs ≤ 0 := by rw [← nv_tl (nv_nonneg (lim_sl ha)), e]; exact Int.le_refl _
    exact ⟨_, rfl, hb1, by rw [blen_zero e2]⟩
  · refine w_skip' ?_
    refine n_then ?_
    refine w_seq ?_
    refine w_region ?_
    refine st (s_move rfl ?_)
    refine st (s_len sl32 rfl (hS2.at0 hb1) ?_)
    refine st (s_sub rfl rfl (by omega) ?_)
    refine st (s_mul rfl rfl (by omega) ?_)
    refine st (s_move rfl ?_)
    refine st (s_move rfl ?_)
    refine st (s_len sl32 rfl (hS2.at0 hb1) ?_)
    refine st (s_sub rfl rfl (by omega) ?_)
    refine st (s_idx sl32 rfl rfl (hS2.at0 hb1) (by omega) (by omega) ?_)
    rintro b1 o1 _ ⟨rfl, hr1⟩ hc1 hF1 hlt1
    have hl_1 := Loc.lt hF1
    refine st (s_load one44 rfl hc1 (j := 0) rfl ?_)
    refine st (s_call fn81 rfl (len32_any (by omega)) ?_)
    rintro _ w2 ⟨hq2, rfl⟩
    have k2 := grown_of_below hq2 none
    have hz3 := hq2.size
    have hb2 := below_g0 hb1 k2
    have hz4 := hb2.size
    refine st (s_add rfl rfl (by omega) ?_)
    refine st (s_assign rfl ?_)
    refine r_end ?_
    refine n_then ?_
    refine w_ret1 rfl rfl ?_
    have e := blen_last (lim_tl (nv xs)) (right_tl (nv xs)) h1
    rw [nv_tl (nv_nonneg (lim_sl ha))] at e
    exact ⟨_, rfl, hb2, by rw [← e]⟩

theorem bit_any {w : World} {a : Value} {i : Int} {xs : List Int} (ha : Sl Kd.u32 w (fun _ => False) a xs) (hi : i ≤ 9223372036854775807) :
    Calls Try.prog 36 [a, .int .i64 i].toArray w (Pure w fun v _ => v = .bool (bitB (nv xs) i)) := by
  have hb0 := Below.refl w.heap.size w
  have hln1 := ha.lenle
  have hxi := (lim_sl ha).ix (i / 32)
  have hsb := shr_bd hxi (i % 32)
  refine enter Try.func36 rfl rfl ?_
  refine w_seq ?_
  refine w_region ?_
  refine st (s_assign rfl ?_)
  refine r_end ?_
  refine n_then ?_
  refine w_seq ?_
  refine w_region ?_
  refine st (s_move rfl ?_)
  refine st (s_ge rfl rfl ?_)
  refine st (s_move rfl ?_)
  refine r_caseP 7 rfl (fun h1 => ?_) (fun h1 => ?_)
  · refine stg (s_move rfl ?_)
    refine stg (s_quoi rfl rfl (by omega) (by omega) ?_)
    refine stg (s_move rfl ?_)
    refine stg (s_len sl32 rfl (ha.at0 hb0) ?_)
    refine stg (s_lt rfl rfl ?_)
    refine st (s_pick rfl rfl ?_)
    refine st (s_move rfl ?_)
    refine r_caseP 14 rfl (fun h2 => ?_) (fun h2 => ?_)
    · refine stg (s_move rfl ?_)
      refine stg (s_move rfl ?_)
      refine stg (s_quoi rfl rfl (by omega) (by omega) ?_)
      refine stg (s_idx sl32 rfl rfl (ha.at0 hb0) (by omega) (by omega) ?_)
      rintro b1 o1 _ ⟨rfl, hr1⟩ hc1 hF1 hlt1
      have hl_1 := Loc.lt hF1
      refine stg (s_load one44 rfl hc1 (j := 0) rfl ?_)
      refine stg (s_move rfl ?_)
      refine stg (s_remk rfl rfl (by omega) (by omega) ?_)
      refine stg (s_shrk (p := (2 ^ ((i % 32)).toNat)) rfl rfl (by omega) (by rw [Nat.min_eq_left (by show ((i % 32)).toNat ≤ 32; omega)]) ?_)
      refine stg (s_and (M := 4294967296) rfl rfl rfl rfl (by omega) (by omega) ?_)
      refine stg (s_eq rfl rfl ?_)
      refine st (s_pick rfl rfl ?_)
      refine st (s_assign rfl ?_)
      refine r_end ?_
      refine n_then ?_
      refine w_ret1 rfl rfl ?_
      exact ⟨_, rfl, hb0, by rw [bit_yes (lim_sl ha) (by omega) (by omega)]⟩
    · refine s_pass rfl rfl ?_
      refine s_pass rfl rfl ?_
      refine s_pass rfl rfl ?_
      refine s_pass rfl rfl ?_
      refine s_pass rfl rfl ?_
      refine s_pass rfl rfl ?_
      refine s_pass rfl rfl ?_
      refine s_pass rfl rfl ?_
      refine s_pass rfl rfl ?_
      refine s_pass rfl rfl ?_
      refine st (s_pick rfl rfl ?_)
      refine st (s_assign rfl ?_)
      refine r_end ?_
      refine n_then ?_
      refine w_ret1 rfl rfl ?_
      exact ⟨_, rfl, hb0, by rw [bit_no2 (lim_sl ha) (by omega) (by omega)]⟩
  · refine s_pass rfl rfl ?_
    refine s_pass rfl rfl ?_
    refine s_pass rfl rfl ?_
    refine s_pass rfl rfl ?_
    refine s_pass rfl rfl ?_
    refine st (s_pick rfl rfl ?_)
    refine st (s_move rfl ?_)
    refine s_pass rfl rfl ?_
    refine s_pass rfl rfl ?_
    refine s_pass rfl rfl ?_
    refine s_pass rfl rfl ?_
    refine s_pass rfl rfl ?_
    refine s_pass rfl rfl ?_
    refine s_pass rfl rfl ?_
    refine s_pass rfl rfl ?_
    refine s_pass rfl rfl ?_
    refine s_pass rfl rfl ?_
    refine st (s_pick rfl rfl ?_)
    refine st (s_assign rfl ?_)
    refine r_end ?_
    refine n_then ?_
    refine w_ret1 rfl rfl ?_
    exact ⟨_, rfl, hb0, by rw [bit_no1 (by omega)]⟩
end Go.Proofs.Ytencmmhfiepojaa
