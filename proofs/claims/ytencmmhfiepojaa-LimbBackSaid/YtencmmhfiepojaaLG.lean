/- Part of the proof that is named in YtencmmhfiepojaaLRowBack: a library for walks, or a function's walk. -/
import Derived.Test.YtencmmhfiepojaaLF
import Derived.Test.YtencmmhfiepojaaLimbSpec7
set_option maxRecDepth 20000
set_option linter.unusedSimpArgs false
set_option linter.unusedVariables false
namespace Go.Proofs.Ytencmmhfiepojaa
open Go.RowKit Go.Gw
theorem bcut_any {w : World} {F : Nat → Prop} {a : Value} {xs : List Bool} (ha : Sl Kd.bool w F a xs) :
    Calls Try.prog 90 [a].toArray w (Pure w fun v _ => Sl Kd.bool w F v (tb (bv xs))) := by
  have hb0 := Below.refl w.heap.size w
  have hln1 := ha.lenle
  refine enter Try.func90 rfl rfl ?_
  refine w_seq ?_
  refine w_region ?_
  refine st (s_assign rfl ?_)
  refine r_end ?_
  refine n_then ?_
  refine w_seq ?_
  refine w_block ?_
  refine w_loop (α := Value × List Bool) (fun ((v, ys) : Value × List Bool) => [(0, v), (2, .slice none 0 0)]) (fun ((v, ys) : Value × List Bool) W => Below w.heap.size w W ∧ (Sl Kd.bool w F v ys) ∧ (bv ys = bv xs)) (fun ((v, ys) : Value × List Bool) => ys.length) ((a), (xs)) ⟨hb0, ha, rfl⟩ (by exact ⟨rfl, rfl, trivial⟩) ?_
  rintro ⟨v, ys⟩ w1 ⟨hb1, hv, hn⟩
  dsimp only at *
  have hz1 := hb1.size
  have hln9 := hv.lenle
  refine w_seq ?_
  refine w_seq ?_
  refine w_region ?_
  refine st (s_move rfl ?_)
  refine st (s_len sl68 rfl (hv.at0 hb1) ?_)
  refine st (s_gt rfl rfl ?_)
  refine st (s_move rfl ?_)
  refine r_caseP 6 rfl (fun h1 => ?_) (fun h1 => ?_)
  · refine stg (s_move rfl ?_)
    refine stg (s_move rfl ?_)
    refine stg (s_len sl68 rfl (hv.at0 hb1) ?_)
    refine stg (s_sub rfl rfl (by omega) ?_)
    refine stg (s_idx sl68 rfl rfl (hv.at0 hb1) (by omega) (by omega) ?_)
    rintro b1 o1 _ ⟨rfl, _⟩ hc1 hF1 hlt1
    have hl_1 := Loc.lt hF1
    refine stg (s_load one4 rfl hc1 (j := 0) rfl ?_)
    refine stg (s_not rfl ?_)
    refine st (s_pick rfl rfl ?_)
    refine r_end ?_
    refine n_then ?_
    refine w_cond rfl (fun h2 => ?_) (fun h2 => ?_)
    · have hc2 := bv_cut h1 (by simpa using h2)
      refine w_skip' ?_
      refine n_then ?_
      refine w_block ?_
      refine w_region ?_
      refine st (s_move rfl ?_)
      refine st (s_move rfl ?_)
      refine st (s_len sl68 rfl (hv.at0 hb1) ?_)
      refine st (s_sub rfl rfl (by omega) ?_)
      refine st (s_slhi sl68 rfl rfl (hv.at0 hb1) (by first | omega | (simp; omega)) (by first | omega | (simp; omega)) ?_)
      intro v1 hS1
      refine st (s_assign rfl ?_)
      refine r_end ?_
      refine n_block ?_
      exact n_round ((v1), (ys.take (((ys.length : Int) - 1)).toNat)) ⟨hb1, (hS1).orig bool_flat hb1, by rw [show ((ys.length : Int) - 1).toNat = ys.length - 1 by omega]; exact hc2.trans hn⟩ (by simp; omega) (by exact ⟨rfl, rfl, trivial⟩)
    · have hc3 : rightC ys := .inr (by simpa using h2)
      refine w_exit' ?_
      refine n_then_exit ?_
      refine n_then_exit ?_
      refine n_block_exit ?_
      refine n_then ?_
      refine w_seq ?_
      refine w_region ?_
      refine st (s_move rfl ?_)
      refine st (s_assign rfl ?_)
      refine r_end ?_
      refine n_then ?_
      refine w_ret1 rfl rfl ?_
      exact ⟨_, rfl, hb1, by rw [← hn, tb_bv hc3]; exact hv⟩
  · have hc3 : rightC ys := .inl (List.eq_nil_of_length_eq_zero (by omega))
    refine s_pass rfl rfl ?_
    refine s_pass rfl rfl ?_
    refine s_pass rfl rfl ?_
    refine s_pass rfl rfl ?_
    refine s_pass rfl rfl ?_
    refine s_pass rfl rfl ?_
    refine s_pass rfl rfl ?_
    refine st (s_pick rfl rfl ?_)
    refine r_end ?_
    refine n_then ?_
    refine w_condF rfl ?_
    refine w_exit' ?_
    refine n_then_exit ?_
    refine n_then_exit ?_
    refine n_block_exit ?_
    refine n_then ?_
    refine w_seq ?_
    refine w_region ?_
    refine st (s_move rfl ?_)
    refine st (s_assign rfl ?_)
    refine r_end ?_
    refine n_then ?_
    refine w_ret1 rfl rfl ?_
    exact ⟨_, rfl, hb1, by rw [← hn, tb_bv hc3]; exact hv⟩

theorem at_any {w : World} {a : Value} {i : Int} {xs : List Bool} (ha : Sl Kd.bool w (fun _ => False) a xs) :
    Calls Try.prog 76 [a, .int .i64 i].toArray w (Pure w fun v _ => v = .bool (atB xs i)) := by
  have hb0 := Below.refl w.heap.size w
  have hln1 := ha.lenle
  refine enter Try.func76 rfl rfl ?_
  refine w_seq ?_
  refine w_region ?_
  refine st (s_assign rfl ?_)
  refine r_end ?_
  refine n_then ?_
  refine w_seq ?_
  refine w_region ?_
  refine st (s_move rfl ?_)
  refine st (s_ge rfl rfl ?_)
  refine st (s_move rfl ?_)
  refine r_caseP 7 rfl (fun h1 => ?_) (fun h1 => ?_)
  · refine stg (s_move rfl ?_)
    refine stg (s_move rfl ?_)
    refine stg (s_len sl68 rfl (ha.at0 hb0) ?_)
    refine stg (s_lt rfl rfl ?_)
    refine st (s_pick rfl rfl ?_)
    refine st (s_move rfl ?_)
    refine r_caseP 13 rfl (fun h2 => ?_) (fun h2 => ?_)
    · refine stg (s_move rfl ?_)
      refine stg (s_move rfl ?_)
      refine stg (s_idx sl68 rfl rfl (ha.at0 hb0) (by omega) (by omega) ?_)
      rintro b1 o1 _ ⟨rfl, _⟩ hc1 hF1 hlt1
      have hl_1 := Loc.lt hF1
      refine stg (s_load one4 rfl hc1 (j := 0) rfl ?_)
      refine st (s_pick rfl rfl ?_)
      refine st (s_assign rfl ?_)
      refine r_end ?_
      refine n_then ?_
      refine w_ret1 rfl rfl ?_
      exact ⟨_, rfl, hb0, by unfold atB; rw [decide_eq_true (by omega), decide_eq_true (by omega), Bool.true_and, Bool.true_and]⟩
    · refine s_pass rfl rfl ?_
      refine s_pass rfl rfl ?_
      refine s_pass rfl rfl ?_
      refine s_pass rfl rfl ?_
      refine st (s_pick rfl rfl ?_)
      refine st (s_assign rfl ?_)
      refine r_end ?_
      refine n_then ?_
      refine w_ret1 rfl rfl ?_
      exact ⟨_, rfl, hb0, by unfold atB; rw [decide_eq_true (by omega), decide_eq_false h2]; rfl⟩
  · refine s_pass rfl rfl ?_
    refine s_pass rfl rfl ?_
    refine s_pass rfl rfl ?_
    refine s_pass rfl rfl ?_
    refine st (s_pick rfl rfl ?_)
    refine st (s_move rfl ?_)
    refine s_pass rfl rfl ?_
    refine s_pass rfl rfl ?_
    refine s_pass rfl rfl ?_
    refine s_pass rfl rfl ?_
    refine st (s_pick rfl rfl ?_)
    refine st (s_assign rfl ?_)
    refine r_end ?_
    refine n_then ?_
    refine w_ret1 rfl rfl ?_
    exact ⟨_, rfl, hb0, by unfold atB; rw [decide_eq_false h1]; rfl⟩

theorem rbits_any {w : World} {a : Value} {xs : List Int} (ha : Sl Kd.u32 w (fun _ => False) a xs) (hla : xs.length ≤ 100000) :
    Calls Try.prog 75 [a].toArray w (Pure w fun v W => Sl Kd.bool W (fun _ => False) v (tb (nv xs))) := by
  have hb0 := Below.refl w.heap.size w
  have hln1 := ha.lenle
  refine enter Try.func75 rfl rfl ?_
  refine w_seq ?_
  refine w_region ?_
  refine st (s_assign rfl ?_)
  refine r_end ?_
  refine n_then ?_
  refine w_seq ?_
  refine w_region ?_
  refine st (s_assign rfl ?_)
  refine r_end ?_
  refine n_then ?_
  refine w_seq ?_
  refine w_seq ?_
  refine w_region ?_
  refine st (s_assign rfl ?_)
  refine r_end ?_
  refine n_then ?_
  refine w_block ?_
  refine w_loop (α := Int × Value × List Bool) (fun ((i, v, os) : Int × Value × List Bool) => [(0, a), (2, .slice none 0 0), (3, v), (4, .int .i64 i)]) (fun ((i, v, os) : Int × Value × List Bool) W => Below w.heap.size w W ∧ (0 ≤ i ∧ i ≤ xs.length) ∧ (Gw.Own Kd.bool 4 w.heap.size W (fun _ => False) v os) ∧ ((os.length : Int) = 32 * i) ∧ (bv os = nv (xs.take i.toNat))) (fun ((i, v, os) : Int × Value × List Bool) => (xs.length - i).toNat) ((0), (.slice none 0 0), ([])) ⟨hb0, by omega, Own.nil Kd.bool 4 _ _ _, rfl, rfl⟩ (by exact ⟨rfl, rfl, rfl, rfl, trivial⟩) ?_
  rintro ⟨i, v, os⟩ w1 ⟨hb1, hi, hO, hol, hn⟩
  dsimp only at *
  have hz1 := hb1.size
  have hxa := (lim_sl ha).ix i
  refine w_seq ?_
  refine w_seq ?_
  refine w_region ?_
  refine st (s_move rfl ?_)
  refine st (s_move rfl ?_)
  refine st (s_len sl32 rfl (ha.at0 hb1) ?_)
  refine st (s_lt rfl rfl ?_)
  refine r_end ?_
  refine n_then ?_
  refine w_condP rfl (fun h1 => ?_) (fun h1 => ?_)
  · refine w_skip' ?_
    refine n_then ?_
    refine w_seq ?_
    refine w_block ?_
    refine w_seq ?_
    refine w_region ?_
    refine st (s_move rfl ?_)
    refine st (s_move rfl ?_)
    refine st (s_idx sl32 rfl rfl (ha.at0 hb1) (by omega) (by omega) ?_)
    rintro b1 o1 _ ⟨rfl, hr1⟩ hc1 hF1 hlt1
    have hl_1 := Loc.lt hF1
    refine st (s_load one44 rfl hc1 (j := 0) rfl ?_)
    refine st (s_assign rfl ?_)
    refine r_end ?_
    refine n_then ?_
    refine w_seq ?_
    refine w_region ?_
    refine st (s_assign rfl ?_)
    refine r_end ?_
    refine n_then ?_
    refine w_block ?_
    refine w_loop (α := Int × Value × List Bool × Int) (fun ((k, v, os, x) : Int × Value × List Bool × Int) => [(0, a), (2, .slice none 0 0), (3, v), (4, .int .i64 i), (5, .int .u32 x), (6, .int .i64 k)]) (fun ((k, v, os, x) : Int × Value × List Bool × Int) W => Below w.heap.size w W ∧ (0 ≤ k ∧ k ≤ 32) ∧ (Gw.Own Kd.bool 4 w.heap.size W (fun _ => False) v os) ∧ ((os.length : Int) = 32 * i + k) ∧ (0 ≤ x ∧ x < 2 ^ (32 - k).toNat) ∧ (x < 4294967296) ∧ (bv os + 2 ^ os.length * x = nv (xs.take i.toNat) + PW i.toNat * ix xs i)) (fun ((k, v, os, x) : Int × Value × List Bool × Int) => (32 - k).toNat) ((0), (v), (os), (ix xs i)) ⟨hb1, by omega, hO, by omega, ⟨hxa.1, hxa.2⟩, hxa.2, by rw [hn, PW_two, show os.length = 32 * i.toNat by omega]⟩ (by exact ⟨rfl, rfl, rfl, rfl, rfl, rfl, trivial⟩) ?_
    rintro ⟨k, v, os, x⟩ w2 ⟨hb2, hk, hO, hol, hx2, hxl, hn2⟩
    dsimp only at *
    have hz2 := hb2.size
    refine w_seq ?_
    refine w_seq ?_
    refine w_region ?_
    refine st (s_move rfl ?_)
    refine st (s_lt rfl rfl ?_)
    refine r_end ?_
    refine n_then ?_
    refine w_condP rfl (fun h2 => ?_) (fun h2 => ?_)
    · refine w_skip' ?_
      refine n_then ?_
      refine w_seq ?_
      refine w_block ?_
      refine w_region ?_
      refine st (s_move rfl ?_)
      refine st (s_move rfl ?_)
      refine st (s_remk rfl rfl (by omega) (by omega) ?_)
      refine st (s_eq rfl rfl ?_)
      refine st (s_bslice (ps := [(0, .tmp 24)]) (ccs := [#[.bool (decide ((x % 2) = 1))]]) (e := 4) (cells := [.bool (decide ((x % 2) = 1))]) rfl rfl (by kernel_rfl) (by decide) nz4 ?_)
      intro g1 w3 hg1 hB1 k1 hs1
      have hb3 := below_g0 hb2 k1
      have hz3 := hb3.size
      have hO1 := hO.g0 k1
      refine st (s_append (K := Kd.bool) sl68 rfl rfl hO1 (lit_bool hB1 hO (fun h => h) hg1) bool_ones (by simp; omega) (by simp; omega) (by first | exact Nat.le_refl _ | omega) (fun _ h => h.elim) ?_)
      intro v1 w4 hO2 k2 hr2
      have hb4 := hb3.grown k2 hb3.size (fun k_ hk_ => (hO1.lt k_ hk_).1)
      have hz4 := hb4.size
      refine st (s_move rfl ?_)
      refine st (s_quok (M := 4294967296) rfl rfl rfl rfl (by omega) (by omega) ?_)
      refine st (s_assign rfl ?_)
      refine st (s_assign rfl ?_)
      refine r_end ?_
      refine n_block ?_
      refine n_then ?_
      refine w_region ?_
      refine st (s_move rfl ?_)
      refine st (s_add rfl rfl (by omega) ?_)
      refine st (s_assign rfl ?_)
      refine r_end ?_
      exact n_round (((k + 1)), (v1), (os ++ [decide ((x % 2) = 1)]), ((x / 2))) ⟨hb4, by omega, hO2, by simp; omega, half_bd hx2 hk.1 (by omega), by dsimp only; omega, bits_step hn2⟩ (by omega) (by exact ⟨rfl, rfl, rfl, rfl, rfl, rfl, trivial⟩)
    · refine w_exit' ?_
      refine n_then_exit ?_
      refine n_then_exit ?_
      refine n_block_exit ?_
      refine n_block ?_
      refine n_then ?_
      refine w_region ?_
      refine st (s_move rfl ?_)
      refine st (s_add rfl rfl (by omega) ?_)
      refine st (s_assign rfl ?_)
      refine r_end ?_
      exact n_round (((i + 1)), (v), (os)) ⟨hb2, by omega, hO, by dsimp only; omega, bits_next (bits_end hn2 hx2 (by omega)) hi.1⟩ (by omega) (by exact ⟨rfl, rfl, rfl, rfl, trivial⟩)
  · refine w_exit' ?_
    refine n_then_exit ?_
    refine n_then_exit ?_
    refine n_block_exit ?_
    refine n_then ?_
    refine w_seq ?_
    refine w_region ?_
    refine st (s_move rfl ?_)
    refine st (s_call fn90 rfl (bcut_any hO.sl) ?_)
    rintro v2 w5 ⟨hq1, hS1⟩
    have k3 := grown_of_below hq1 none
    have hz5 := hq1.size
    have hb5 := below_g0 hb1 k3
    have hz6 := hb5.size
    have hO3 := hO.g0 k3
    have hS2 := hS1.none.g0 k3
    refine st (s_assign rfl ?_)
    refine r_end ?_
    refine n_then ?_
    refine w_ret1 rfl rfl ?_
    refine ⟨_, rfl, hb5, ?_⟩
    rw [← show bv os = nv xs by rw [hn, List.take_of_length_le (by omega)]]
    exact hS2
end Go.Proofs.Ytencmmhfiepojaa
