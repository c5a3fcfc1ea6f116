/- Part of the proof that is named in YtencmmhfiepojaaLRowBack: a library for walks, or a function's walk. -/
import Derived.Test.YtencmmhfiepojaaLG
set_option maxRecDepth 20000
set_option linter.unusedSimpArgs false
set_option linter.unusedVariables false
namespace Go.Proofs.Ytencmmhfiepojaa
open Go.RowKit Go.Gw
theorem rof_any {w : World} {a : Value} {xs : List Bool} (ha : Sl Kd.bool w (fun _ => False) a xs) (hla : xs.length ≤ 10000000) :
    Calls Try.prog 77 [a].toArray w (Pure w fun v W => Sl Kd.u32 W (fun _ => False) v (tl (bv xs))) := by
  have hb0 := Below.refl w.heap.size w
  have hln1 := ha.lenle
  have hbl : ((tb (bv xs)).length : Int) ≤ 10000000 := tb_le (by omega)
  refine enter Try.func77 rfl rfl ?_
  refine w_seq ?_
  refine w_region ?_
  refine st (s_assign rfl ?_)
  refine r_end ?_
  refine n_then ?_
  refine w_seq ?_
  refine w_region ?_
  refine st (s_move rfl ?_)
  refine st (s_call fn90 rfl (bcut_any (ha.at0 hb0)) ?_)
  rintro v1 w1 ⟨hq1, hS1⟩
  have hS2 := hS1.orig bool_flat hb0
  have k1 := grown_of_below hq1 none
  have hz1 := hq1.size
  have hb1 := below_g0 hb0 k1
  have hz2 := hb1.size
  refine st (s_assign rfl ?_)
  refine r_end ?_
  refine n_then ?_
  refine w_seq ?_
  refine w_region ?_
  refine st (s_assign rfl ?_)
  refine r_end ?_
  refine n_then ?_
  refine w_seq ?_
  refine w_seq ?_
  refine w_region ?_
  refine st (s_assign rfl ?_)
  refine r_end ?_
  refine n_then ?_
  refine w_block ?_
  refine w_loop (α := Int × Value × List Int) (fun ((i, v, os) : Int × Value × List Int) => [(0, v1), (2, .slice none 0 0), (3, v), (4, .int .i64 i)]) (fun ((i, v, os) : Int × Value × List Int) W => Below w.heap.size w W ∧ (0 ≤ i ∧ i ≤ (tb (bv xs)).length + 31) ∧ (Gw.Own Kd.u32 44 w.heap.size W (fun _ => False) v os) ∧ ((os.length : Int) * 32 = i) ∧ (nv os + PW os.length * bv ((tb (bv xs)).drop i.toNat) = bv (tb (bv xs))) ∧ ((i < (tb (bv xs)).length) ∨ rightB os = true)) (fun ((i, v, os) : Int × Value × List Int) => ((tb (bv xs)).length - i).toNat) ((0), (.slice none 0 0), ([])) ⟨hb1, by omega, Own.nil Kd.u32 44 _ _ _, rfl, by simp [nv, PW_zero], .inr rfl⟩ (by exact ⟨rfl, rfl, rfl, rfl, trivial⟩) ?_
  rintro ⟨i, v, os⟩ w2 ⟨hb2, hi, hO, hol, hn, hr⟩
  dsimp only at *
  have hz3 := hb2.size
  refine w_seq ?_
  refine w_seq ?_
  refine w_region ?_
  refine st (s_move rfl ?_)
  refine st (s_move rfl ?_)
  refine st (s_len sl68 rfl (hS2.at0 hb2) ?_)
  refine st (s_lt rfl rfl ?_)
  refine r_end ?_
  refine n_then ?_
  refine w_condP rfl (fun h1 => ?_) (fun h1 => ?_)
  · refine w_skip' ?_
    refine n_then ?_
    refine w_seq ?_
    refine w_block ?_
    refine w_seq ?_
    refine w_region ?_
    refine st (s_assign rfl ?_)
    refine st (s_assign rfl ?_)
    refine r_end ?_
    refine n_then ?_
    refine w_seq ?_
    refine w_seq ?_
    refine w_region ?_
    refine st (s_move rfl ?_)
    refine st (s_assign rfl ?_)
    refine r_end ?_
    refine n_then ?_
    refine w_block ?_
    refine w_loop (α := Int × Int × Int) (fun ((k, x, p) : Int × Int × Int) => [(0, v1), (2, .slice none 0 0), (3, v), (4, .int .i64 i), (5, .int .u32 x), (6, .int .u32 p), (7, .int .i64 k)]) (fun ((k, x, p) : Int × Int × Int) W => Below w.heap.size w W ∧ (i ≤ k ∧ k ≤ (tb (bv xs)).length ∧ k ≤ i + 32) ∧ (x = bv (((tb (bv xs)).drop i.toNat).take (k - i).toNat)) ∧ (p = 2 ^ (k - i).toNat % 4294967296) ∧ (Gw.Own Kd.u32 44 w.heap.size W (fun _ => False) v os)) (fun ((k, x, p) : Int × Int × Int) => (i + 32 - k).toNat) ((i), (0), (1)) ⟨hb2, by omega, by rw [Int.sub_self]; rfl, by rw [Int.sub_self]; rfl, hO⟩ (by exact ⟨rfl, rfl, rfl, rfl, rfl, rfl, rfl, trivial⟩) ?_
    rintro ⟨k, x, p⟩ w3 ⟨hb3, hk, hx, hp, hO2⟩
    dsimp only at *
    have hz4 := hb3.size
    refine w_seq ?_
    refine w_seq ?_
    refine w_region ?_
    refine st (s_move rfl ?_)
    refine st (s_move rfl ?_)
    refine st (s_len sl68 rfl (hS2.at0 hb3) ?_)
    refine st (s_lt rfl rfl ?_)
    refine st (s_move rfl ?_)
    refine r_caseP 21 rfl (fun h2 => ?_) (fun h2 => ?_)
    · refine stg (s_move rfl ?_)
      refine stg (s_move rfl ?_)
      refine stg (s_add rfl rfl (by omega) ?_)
      refine stg (s_lt rfl rfl ?_)
      refine st (s_pick rfl rfl ?_)
      refine r_end ?_
      refine n_then ?_
      refine w_condP rfl (fun h3 => ?_) (fun h3 => ?_)
      · obtain ⟨e1, e2, e3, e4, e5, e6, e7⟩ := of_step hi.1 ⟨hk.1, by omega, by omega⟩ hx hp
        refine w_skip' ?_
        refine n_then ?_
        refine w_seq ?_
        refine w_block ?_
        refine w_seq ?_
        refine w_seq ?_
        refine w_region ?_
        refine st (s_move rfl ?_)
        refine st (s_move rfl ?_)
        refine st (s_idx sl68 rfl rfl (hS2.at0 hb3) (by omega) (by omega) ?_)
        rintro b1 o1 _ ⟨rfl, _⟩ hc1 hF1 hlt1
        have hl_1 := Loc.lt hF1
        refine st (s_load one4 rfl hc1 (j := 0) rfl ?_)
        refine r_end ?_
        refine n_then ?_
        refine w_cond rfl (fun h4 => ?_) (fun h4 => ?_)
        · refine w_region ?_
          refine st (s_move rfl ?_)
          refine st (s_move rfl ?_)
          refine st (s_addk (M := 4294967296) rfl rfl rfl rfl (by omega) ?_)
          refine st (s_assign rfl ?_)
          refine r_end ?_
          refine n_then ?_
          refine w_region ?_
          refine st (s_move rfl ?_)
          refine st (s_mulm (M := 4294967296) rfl rfl rfl rfl ?_)
          refine st (s_assign rfl ?_)
          refine r_end ?_
          refine n_block ?_
          refine n_then ?_
          refine w_region ?_
          refine st (s_move rfl ?_)
          refine st (s_add rfl rfl (by omega) ?_)
          refine st (s_assign rfl ?_)
          refine r_end ?_
          exact n_round (((k + 1)), ((x + p)), (((p * 2) % 4294967296))) ⟨hb3, by omega, by have e8 := e7; rw [h4] at e8; simpa [bn] using e8, e6, hO2⟩ (by omega) (by exact ⟨rfl, rfl, rfl, rfl, rfl, rfl, rfl, trivial⟩)
        · refine w_skip' ?_
          refine n_then ?_
          refine w_region ?_
          refine st (s_move rfl ?_)
          refine st (s_mulm (M := 4294967296) rfl rfl rfl rfl ?_)
          refine st (s_assign rfl ?_)
          refine r_end ?_
          refine n_block ?_
          refine n_then ?_
          refine w_region ?_
          refine st (s_move rfl ?_)
          refine st (s_add rfl rfl (by omega) ?_)
          refine st (s_assign rfl ?_)
          refine r_end ?_
          exact n_round (((k + 1)), (x), (((p * 2) % 4294967296))) ⟨hb3, by omega, by have e8 := e7; rw [h4] at e8; simpa [bn] using e8, e6, hO2⟩ (by omega) (by exact ⟨rfl, rfl, rfl, rfl, rfl, rfl, rfl, trivial⟩)
      · refine w_exit' ?_
        refine n_then_exit ?_
        refine n_then_exit ?_
        refine n_block_exit ?_
        refine n_then ?_
        refine w_region ?_
        have hch := of_chunk hi.1 hk hx (by omega)
        have hnx := of_next (right_tb _) hi.1 (by omega) hch hn
        refine st (s_move rfl ?_)
        refine st (s_move rfl ?_)
        refine st (s_bslice (ps := [(0, .tmp 39)]) (ccs := [#[.int .u32 x]]) (e := 44) (cells := [.int .u32 x]) rfl rfl (by kernel_rfl) (by decide) nz44 ?_)
        intro g1 w4 hg1 hB1 k2 hs1
        have hb4 := below_g0 hb3 k2
        have hz5 := hb4.size
        have hO1 := hO2.g0 k2
        refine st (s_append (K := Kd.u32) sl32 rfl rfl hO1 (lit_u32 hB1 hO2 (fun h => h) hg1 (by omega)) u32_ones (by simp; omega) (by simp; omega) (by first | exact Nat.le_refl _ | omega) (fun _ h => h.elim) ?_)
        intro v2 w5 hO2 k3 hr2
        have hb5 := hb4.grown k3 hb4.size (fun k_ hk_ => (hO1.lt k_ hk_).1)
        have hz6 := hb5.size
        refine st (s_assign rfl ?_)
        refine r_end ?_
        refine n_block ?_
        refine n_then ?_
        refine w_region ?_
        refine st (s_move rfl ?_)
        refine st (s_add rfl rfl (by omega) ?_)
        refine st (s_assign rfl ?_)
        refine r_end ?_
        exact n_round (((i + 32)), (v2), (os ++ [x])) ⟨hb5, by omega, hO2, by simp; omega, hnx.2.1, hnx.2.2⟩ (by omega) (by exact ⟨rfl, rfl, rfl, rfl, trivial⟩)
    · refine s_pass rfl rfl ?_
      refine s_pass rfl rfl ?_
      refine s_pass rfl rfl ?_
      refine s_pass rfl rfl ?_
      refine st (s_pick rfl rfl ?_)
      refine r_end ?_
      refine n_then ?_
      refine w_condF rfl ?_
      refine w_exit' ?_
      refine n_then_exit ?_
      refine n_then_exit ?_
      refine n_block_exit ?_
      refine n_then ?_
      refine w_region ?_
      have hch := of_chunk hi.1 hk hx (by omega)
      have hnx := of_next (right_tb _) hi.1 (by omega) hch hn
      refine st (s_move rfl ?_)
      refine st (s_move rfl ?_)
      refine st (s_bslice (ps := [(0, .tmp 39)]) (ccs := [#[.int .u32 x]]) (e := 44) (cells := [.int .u32 x]) rfl rfl (by kernel_rfl) (by decide) nz44 ?_)
      intro g2 w6 hg2 hB2 k4 hs2
      have hb6 := below_g0 hb3 k4
      have hz7 := hb6.size
      have hO3 := hO2.g0 k4
      refine st (s_append (K := Kd.u32) sl32 rfl rfl hO3 (lit_u32 hB2 hO2 (fun h => h) hg2 (by omega)) u32_ones (by simp; omega) (by simp; omega) (by first | exact Nat.le_refl _ | omega) (fun _ h => h.elim) ?_)
      intro v3 w7 hO4 k5 hr3
      have hb7 := hb6.grown k5 hb6.size (fun k_ hk_ => (hO3.lt k_ hk_).1)
      have hz8 := hb7.size
      refine st (s_assign rfl ?_)
      refine r_end ?_
      refine n_block ?_
      refine n_then ?_
      refine w_region ?_
      refine st (s_move rfl ?_)
      refine st (s_add rfl rfl (by omega) ?_)
      refine st (s_assign rfl ?_)
      refine r_end ?_
      exact n_round (((i + 32)), (v3), (os ++ [x])) ⟨hb7, by omega, hO4, by simp; omega, hnx.2.1, hnx.2.2⟩ (by omega) (by exact ⟨rfl, rfl, rfl, rfl, trivial⟩)
  · refine w_exit' ?_
    refine n_then_exit ?_
    refine n_then_exit ?_
    refine n_block_exit ?_
    refine n_then ?_
    refine w_seq ?_
    refine w_region ?_
    refine st (s_move rfl ?_)
    refine st (s_assign rfl ?_)
    refine r_end ?_
    refine n_then ?_
    refine w_ret1 rfl rfl ?_
    have he := of_end (lim_sl hO.sl) (by omega) hn hr
    rw [bv_tb (bv_bd xs).1] at he
    refine ⟨_, rfl, hb2, ?_⟩
    rw [he]
    exact hO.sl

theorem rnorm_any {w : World} {a : Value} {xs : List Int} (ha : Sl Kd.u32 w (fun _ => False) a xs) (hla : xs.length ≤ 100000) :
    Calls Try.prog 41 [a].toArray w (Pure w fun v W => Sl Kd.u32 W (fun _ => False) v (tl (nv xs))) := by
  have hb0 := Below.refl w.heap.size w
  have hln1 := ha.lenle
  have hbl := tb_nv_len (lim_sl ha)
  refine enter Try.func41 rfl rfl ?_
  refine w_seq ?_
  refine w_region ?_
  refine st (s_assign rfl ?_)
  refine r_end ?_
  refine n_then ?_
  refine w_seq ?_
  refine w_region ?_
  refine st (s_move rfl ?_)
  refine st (s_call fn75 rfl (rbits_any ((ha.at0 hb0)).none (by first | omega | (simp; done) | (simp; omega))) ?_)
  rintro v1 w1 ⟨hq1, hS1⟩
  have k1 := grown_of_below hq1 none
  have hz1 := hq1.size
  have hb1 := below_g0 hb0 k1
  have hz2 := hb1.size
  refine st (s_call fn77 rfl (rof_any (hS1).none (by first | omega | (simp; done) | (simp; omega))) ?_)
  rintro v2 w2 ⟨hq2, hS2⟩
  have k2 := grown_of_below hq2 none
  have hz3 := hq2.size
  have hb2 := below_g0 hb1 k2
  have hz4 := hb2.size
  refine st (s_assign rfl ?_)
  refine r_end ?_
  refine n_then ?_
  refine w_ret1 rfl rfl ?_
  refine ⟨_, rfl, hb2, ?_⟩
  have h := hS2
  rwa [bv_tb (nv_nonneg (lim_sl ha))] at h

theorem rlen_any {w : World} {a : Value} {xs : List Int} (ha : Sl Kd.u32 w (fun _ => False) a xs) (hla : xs.length ≤ 100000) :
    Calls Try.prog 35 [a].toArray w (Pure w fun v _ => v = .int .i64 (blen (nv xs))) := by
  have hb0 := Below.refl w.heap.size w
  have hln1 := ha.lenle
  refine enter Try.func35 rfl rfl ?_
  refine w_seq ?_
  refine w_region ?_
  refine st (s_assign rfl ?_)
  refine r_end ?_
  refine n_then ?_
  refine w_seq ?_
  refine w_region ?_
  refine st (s_move rfl ?_)
  refine st (s_call fn75 rfl (rbits_any ((ha.at0 hb0)).none (by first | omega | (simp; done) | (simp; omega))) ?_)
  rintro v1 w1 ⟨hq1, hS1⟩
  have k1 := grown_of_below hq1 none
  have hz1 := hq1.size
  have hb1 := below_g0 hb0 k1
  have hz2 := hb1.size
  refine st (s_len sl68 rfl hS1 ?_)
  refine st (s_assign rfl ?_)
  refine r_end ?_
  refine n_then ?_
  refine w_ret1 rfl rfl ?_
  exact ⟨_, rfl, hb1, by rw [tb_len]⟩

theorem rbit_any {w : World} {a : Value} {i : Int} {xs : List Int} (ha : Sl Kd.u32 w (fun _ => False) a xs) (hla : xs.length ≤ 100000) :
    Calls Try.prog 37 [a, .int .i64 i].toArray w (Pure w fun v _ => v = .bool (bitB (nv xs) i)) := by
  have hb0 := Below.refl w.heap.size w
  have hln1 := ha.lenle
  refine enter Try.func37 rfl rfl ?_
  refine w_seq ?_
  refine w_region ?_
  refine st (s_assign rfl ?_)
  refine r_end ?_
  refine n_then ?_
  refine w_seq ?_
  refine w_region ?_
  refine st (s_move rfl ?_)
  refine st (s_call fn75 rfl (rbits_any ((ha.at0 hb0)).none (by first | omega | (simp; done) | (simp; omega))) ?_)
  rintro v1 w1 ⟨hq1, hS1⟩
  have k1 := grown_of_below hq1 none
  have hz1 := hq1.size
  have hb1 := below_g0 hb0 k1
  have hz2 := hb1.size
  refine st (s_move rfl ?_)
  refine st (s_call fn76 rfl (at_any (hS1).none) ?_)
  rintro v2 w2 ⟨hq2, hv1⟩
  rw [atB_tb (nv_nonneg (lim_sl ha))] at hv1
  subst hv1
  have k2 := grown_of_below hq2 none
  have hz3 := hq2.size
  have hb2 := below_g0 hb1 k2
  have hz4 := hb2.size
  refine st (s_assign rfl ?_)
  refine r_end ?_
  refine n_then ?_
  refine w_ret1 rfl rfl ?_
  exact ⟨_, rfl, hb2, rfl⟩

theorem rcmp_any {w : World} {a b : Value} {xs ys : List Int} (ha : Sl Kd.u32 w (fun _ => False) a xs) (hb : Sl Kd.u32 w (fun _ => False) b ys) (hla : xs.length ≤ 100000) (hlb : ys.length ≤ 100000) :
    Calls Try.prog 29 [a, b].toArray w (Pure w fun v _ => v = .int .i64 (cmpI (nv xs) (nv ys))) := by
  have hb0 := Below.refl w.heap.size w
  have hln1 := ha.lenle
  have hln2 := hb.lenle
  have hpa := nv_nonneg (lim_sl ha)
  have hpb := nv_nonneg (lim_sl hb)
  have hla2 := tb_nv_len (lim_sl ha)
  have hlb2 := tb_nv_len (lim_sl hb)
  have hba := tb_len (n := nv xs)
  have hbb := tb_len (n := nv ys)
  refine enter Try.func29 rfl rfl ?_
  refine w_seq ?_
  refine w_region ?_
  refine st (s_assign rfl ?_)
  refine r_end ?_
  refine n_then ?_
  refine w_seq ?_
  refine w_region ?_
  refine st (s_move rfl ?_)
  refine st (s_call fn75 rfl (rbits_any ((ha.at0 hb0)).none (by first | omega | (simp; done) | (simp; omega))) ?_)
  rintro v1 w1 ⟨hq1, hS1⟩
  have k1 := grown_of_below hq1 none
  have hz1 := hq1.size
  have hb1 := below_g0 hb0 k1
  have hz2 := hb1.size
  refine st (s_move rfl ?_)
  refine st (s_call fn75 rfl (rbits_any ((hb.at0 hb1)).none (by first | omega | (simp; done) | (simp; omega))) ?_)
  rintro v2 w2 ⟨hq2, hS2⟩
  have k2 := grown_of_below hq2 none
  have hz3 := hq2.size
  have hb2 := below_g0 hb1 k2
  have hz4 := hb2.size
  refine st (s_assign rfl ?_)
  refine st (s_assign rfl ?_)
  refine r_end ?_
  refine n_then ?_
  refine w_seq ?_
  refine w_seq ?_
  refine w_region ?_
  refine st (s_move rfl ?_)
  refine st (s_len sl68 rfl (hS1.g0 k2) ?_)
  refine st (s_move rfl ?_)
  refine st (s_len sl68 rfl hS2 ?_)
  refine st (s_max rfl rfl ?_)
  refine st (s_sub rfl rfl (by omega) ?_)
  refine st (s_assign rfl ?_)
  refine r_end ?_
  refine n_then ?_
  refine w_block ?_
  refine w_loop (α := Int) (fun (i : Int) => [(5, v1), (6, v2), (7, .int .i64 i)]) (fun (i : Int) W => Below w.heap.size w W ∧ (-1 ≤ i ∧ i ≤ 3200000) ∧ (nv xs / 2 ^ (i + 1).toNat = nv ys / 2 ^ (i + 1).toNat) ∧ (Sl Kd.bool W (fun _ => False) v1 (tb (nv xs))) ∧ (Sl Kd.bool W (fun _ => False) v2 (tb (nv ys)))) (fun (i : Int) => (i + 1).toNat) ((max ((tb (nv xs)).length : Int) ((tb (nv ys)).length : Int)) - 1) ⟨hb2, by omega, by rw [div_top hpa (by omega), div_top hpb (by omega)], (hS1.g0 k2), hS2⟩ (by exact ⟨rfl, rfl, rfl, trivial⟩) ?_
  rintro i w3 ⟨hb3, hi, hn, hS3, hS4⟩
  have hz5 := hb3.size
  refine w_seq ?_
  refine w_seq ?_
  refine w_region ?_
  refine st (s_move rfl ?_)
  refine st (s_ge rfl rfl ?_)
  refine r_end ?_
  refine n_then ?_
  refine w_condP rfl (fun h1 => ?_) (fun h1 => ?_)
  · refine w_skip' ?_
    refine n_then ?_
    refine w_seq ?_
    refine w_block ?_
    refine w_seq ?_
    refine w_region ?_
    refine st (s_move rfl ?_)
    refine st (s_move rfl ?_)
    refine st (s_call fn76 rfl (at_any (hS3).none) ?_)
    rintro v3 w4 ⟨hq3, hv1⟩
    rw [atB_tb (nv_nonneg (lim_sl ha))] at hv1
    subst hv1
    have k3 := grown_of_below hq3 none
    have hz6 := hq3.size
    have hb4 := below_g0 hb3 k3
    have hz7 := hb4.size
    refine st (s_move rfl ?_)
    refine st (s_move rfl ?_)
    refine st (s_call fn76 rfl (at_any ((hS4.g0 k3)).none) ?_)
    rintro v4 w5 ⟨hq4, hv2⟩
    rw [atB_tb (nv_nonneg (lim_sl hb))] at hv2
    subst hv2
    have k4 := grown_of_below hq4 none
    have hz8 := hq4.size
    have hb5 := below_g0 hb4 k4
    have hz9 := hb5.size
    refine st (s_nebool bool4 rfl rfl ?_)
    refine r_end ?_
    refine n_then ?_
    refine w_cond rfl (fun h2 => ?_) (fun h2 => ?_)
    · refine w_seq ?_
      refine w_seq ?_
      refine w_region ?_
      refine st (s_move rfl ?_)
      refine st (s_move rfl ?_)
      refine st (s_call fn76 rfl (at_any (((hS3.g0 k3).g0 k4)).none) ?_)
      rintro v5 w6 ⟨hq5, hv3⟩
      rw [atB_tb (nv_nonneg (lim_sl ha))] at hv3
      subst hv3
      have k5 := grown_of_below hq5 none
      have hz10 := hq5.size
      have hb6 := below_g0 hb5 k5
      have hz11 := hb6.size
      refine r_end ?_
      refine n_then ?_
      refine w_cond rfl (fun h3 => ?_) (fun h3 => ?_)
      · refine w_seq ?_
        refine w_region ?_
        refine st (s_assign rfl ?_)
        refine r_end ?_
        refine n_then ?_
        refine w_ret1 rfl rfl ?_
        exact ⟨_, rfl, hb6, by rw [bcmp_gt (by omega) hn h3 (by rw [h3] at h2; simpa using h2)]⟩
      · refine w_skip' ?_
        refine n_then ?_
        refine w_seq ?_
        refine w_region ?_
        refine st (s_assign rfl ?_)
        refine r_end ?_
        refine n_then ?_
        refine w_ret1 rfl rfl ?_
        exact ⟨_, rfl, hb6, by rw [bcmp_lt (by omega) hn h3 (by rw [h3] at h2; simpa using h2)] <;> rfl⟩
    · refine w_skip' ?_
      refine n_block ?_
      refine n_then ?_
      refine w_region ?_
      refine st (s_move rfl ?_)
      refine st (s_sub rfl rfl (by omega) ?_)
      refine st (s_assign rfl ?_)
      refine r_end ?_
      exact n_round ((i - 1)) ⟨hb5, by omega, bcmp_next (by omega) hn (by simpa using h2), ((hS3.g0 k3).g0 k4), ((hS4.g0 k3).g0 k4)⟩ (by omega) (by exact ⟨rfl, rfl, rfl, trivial⟩)
  · refine w_exit' ?_
    refine n_then_exit ?_
    refine n_then_exit ?_
    refine n_block_exit ?_
    refine n_then ?_
    refine w_seq ?_
    refine w_region ?_
    refine st (s_assign rfl ?_)
    refine r_end ?_
    refine n_then ?_
    refine w_ret1 rfl rfl ?_
    exact ⟨_, rfl, hb3, by rw [bcmp_end (by omega) hn]⟩

theorem radd_any {w : World} {a b : Value} {xs ys : List Int} (ha : Sl Kd.u32 w (fun _ => False) a xs) (hb : Sl Kd.u32 w (fun _ => False) b ys) (hla : xs.length ≤ 100000) (hlb : ys.length ≤ 100000) :
    Calls Try.prog 27 [a, b].toArray w (Pure w fun v W => Sl Kd.u32 W (fun _ => False) v (tl (nv xs + nv ys))) := by
  have hb0 := Below.refl w.heap.size w
  have hln1 := ha.lenle
  have hln2 := hb.lenle
  have hpa := nv_nonneg (lim_sl ha)
  have hpb := nv_nonneg (lim_sl hb)
  have hla2 := tb_nv_len (lim_sl ha)
  have hlb2 := tb_nv_len (lim_sl hb)
  have hba := tb_len (n := nv xs)
  have hbb := tb_len (n := nv ys)
  refine enter Try.func27 rfl rfl ?_
  refine w_seq ?_
  refine w_region ?_
  refine st (s_assign rfl ?_)
  refine r_end ?_
  refine n_then ?_
  refine w_seq ?_
  refine w_region ?_
  refine st (s_move rfl ?_)
  refine st (s_call fn75 rfl (rbits_any ((ha.at0 hb0)).none (by first | omega | (simp; done) | (simp; omega))) ?_)
  rintro v1 w1 ⟨hq1, hS1⟩
  have k1 := grown_of_below hq1 none
  have hz1 := hq1.size
  have hb1 := below_g0 hb0 k1
  have hz2 := hb1.size
  refine st (s_move rfl ?_)
  refine st (s_call fn75 rfl (rbits_any ((hb.at0 hb1)).none (by first | omega | (simp; done) | (simp; omega))) ?_)
  rintro v2 w2 ⟨hq2, hS2⟩
  have k2 := grown_of_below hq2 none
  have hz3 := hq2.size
  have hb2 := below_g0 hb1 k2
  have hz4 := hb2.size
  refine st (s_assign rfl ?_)
  refine st (s_assign rfl ?_)
  refine r_end ?_
  refine n_then ?_
  refine w_seq ?_
  refine w_region ?_
  have hzz1 := k1.size
  have hzz2 := k2.size
  have hS3 := ((ha.at0 hb2)).none
  have hS4 := ((hb.at0 hb2)).none
  have hS5 := ((hS1.g0 k2)).none
  have hS6 := (hS2).none
  have hb3 := Below.refl w2.heap.size w2
  refine st (s_assign rfl ?_)
  refine r_end ?_
  refine n_then ?_
  refine w_seq ?_
  refine w_region ?_
  refine st (s_assign rfl ?_)
  refine r_end ?_
  refine n_then ?_
  refine w_seq ?_
  refine w_seq ?_
  refine w_region ?_
  refine st (s_assign rfl ?_)
  refine r_end ?_
  refine n_then ?_
  refine w_block ?_
  refine w_loop (α := Int × Value × List Bool × Bool) (fun ((i, v, os, c) : Int × Value × List Bool × Bool) => [(4, .slice none 0 0), (5, v1), (6, v2), (7, v), (8, .bool c), (9, .int .i64 i)]) (fun ((i, v, os, c) : Int × Value × List Bool × Bool) W => Below w2.heap.size w2 W ∧ (0 ≤ i ∧ i ≤ max ((tb (nv xs)).length : Int) ((tb (nv ys)).length : Int) + 1) ∧ (Gw.Own Kd.bool 4 w2.heap.size W (fun _ => False) v os) ∧ ((os.length : Int) = i) ∧ (bv os + 2 ^ i.toNat * bn c = nv xs % 2 ^ i.toNat + nv ys % 2 ^ i.toNat)) (fun ((i, v, os, c) : Int × Value × List Bool × Bool) => (max ((tb (nv xs)).length : Int) ((tb (nv ys)).length : Int) + 1 - i).toNat) ((0), (.slice none 0 0), ([]), (false)) ⟨hb3, by omega, Own.nil Kd.bool 4 _ _ _, rfl, by simp [bv, bn, Int.emod_one]⟩ (by exact ⟨rfl, rfl, rfl, rfl, rfl, rfl, trivial⟩) ?_
  rintro ⟨i, v, os, c⟩ w3 ⟨hb4, hi, hO, hol, hn⟩
  dsimp only at *
  have hz5 := hb4.size
  refine w_seq ?_
  refine w_seq ?_
  refine w_region ?_
  refine st (s_move rfl ?_)
  refine st (s_move rfl ?_)
  refine st (s_len sl68 rfl (hS5.at0 hb4) ?_)
  refine st (s_move rfl ?_)
  refine st (s_len sl68 rfl (hS6.at0 hb4) ?_)
  refine st (s_max rfl rfl ?_)
  refine st (s_le rfl rfl ?_)
  refine r_end ?_
  refine n_then ?_
  refine w_condP rfl (fun h1 => ?_) (fun h1 => ?_)
  · refine w_skip' ?_
    refine n_then ?_
    refine w_seq ?_
    refine w_block ?_
    refine w_seq ?_
    refine w_region ?_
    refine st (s_assign rfl ?_)
    refine r_end ?_
    refine n_then ?_
    refine w_seq ?_
    refine w_seq ?_
    refine w_region ?_
    refine st (s_move rfl ?_)
    refine st (s_move rfl ?_)
    refine st (s_call fn76 rfl (at_any ((hS5.at0 hb4)).none) ?_)
    rintro v3 w4 ⟨hq3, hv1⟩
    rw [atB_tb (nv_nonneg (lim_sl ha))] at hv1
    subst hv1
    have k3 := grown_of_below hq3 none
    have hz6 := hq3.size
    have hb5 := below_g0 hb4 k3
    have hz7 := hb5.size
    have hO1 := hO.g0 k3
    refine r_end ?_
    refine n_then ?_
    refine w_cond rfl (fun h2 => ?_) (fun h2 => ?_)
    · refine w_region ?_
      refine st (s_move rfl ?_)
      refine st (s_add rfl rfl (by omega) ?_)
      refine st (s_assign rfl ?_)
      refine r_end ?_
      refine n_then ?_
      refine w_seq ?_
      refine w_seq ?_
      refine w_region ?_
      refine st (s_move rfl ?_)
      refine st (s_move rfl ?_)
      refine st (s_call fn76 rfl (at_any ((hS6.at0 hb5)).none) ?_)
      rintro v4 w5 ⟨hq4, hv2⟩
      rw [atB_tb (nv_nonneg (lim_sl hb))] at hv2
      subst hv2
      have k4 := grown_of_below hq4 none
      have hz8 := hq4.size
      have hb6 := below_g0 hb5 k4
      have hz9 := hb6.size
      have hO2 := hO1.g0 k4
      refine r_end ?_
      refine n_then ?_
      refine w_cond rfl (fun h3 => ?_) (fun h3 => ?_)
      · refine w_region ?_
        refine st (s_move rfl ?_)
        refine st (s_add rfl rfl (by omega) ?_)
        refine st (s_assign rfl ?_)
        refine r_end ?_
        refine n_then ?_
        refine w_seq ?_
        refine w_seq ?_
        refine w_region ?_
        refine st (s_move rfl ?_)
        refine r_end ?_
        refine n_then ?_
        refine w_cond rfl (fun h4 => ?_) (fun h4 => ?_)
        · refine w_region ?_
          refine st (s_move rfl ?_)
          refine st (s_add rfl rfl (by omega) ?_)
          refine st (s_assign rfl ?_)
          refine r_end ?_
          refine n_then ?_
          refine w_region ?_
          refine st (s_move rfl ?_)
          refine st (s_move rfl ?_)
          refine st (s_remk rfl rfl (by omega) (by omega) ?_)
          refine st (s_eq rfl rfl ?_)
          refine st (s_bslice (ps := [(0, .tmp 40)]) (ccs := [#[.bool (decide (((((0 + 1) + 1) + 1) % 2) = 1))]]) (e := 4) (cells := [.bool (decide (((((0 + 1) + 1) + 1) % 2) = 1))]) rfl rfl (by kernel_rfl) (by decide) nz4 ?_)
          intro g1 w6 hg1 hB1 k5 hs1
          have hb7 := below_g0 hb6 k5
          have hz10 := hb7.size
          have hO3 := hO2.g0 k5
          refine st (s_append (K := Kd.bool) sl68 rfl rfl hO3 (lit_bool hB1 hO2 (fun h => h) hg1) bool_ones (by simp; omega) (by simp; omega) (by first | exact Nat.le_refl _ | omega) (fun _ h => h.elim) ?_)
          intro v5 w7 hO4 k6 hr1
          have hb8 := hb7.grown k6 hb7.size (fun k_ hk_ => (hO3.lt k_ hk_).1)
          have hz11 := hb8.size
          refine st (s_move rfl ?_)
          refine st (s_gt rfl rfl ?_)
          refine st (s_assign rfl ?_)
          refine st (s_assign rfl ?_)
          refine r_end ?_
          refine n_block ?_
          refine n_then ?_
          refine w_region ?_
          refine st (s_move rfl ?_)
          refine st (s_add rfl rfl (by omega) ?_)
          refine st (s_assign rfl ?_)
          refine r_end ?_
          exact n_round (((i + 1)), (v5), (os ++ [decide (((((0 + 1) + 1) + 1) % 2) = 1)]), (decide (1 < (((0 + 1) + 1) + 1)))) ⟨hb8, by omega, hO4, by simp; omega, badd_step hpa hpb hi.1 hol hn (by rw [h2, h3, h4] <;> rfl)⟩ (by omega) (by exact ⟨rfl, rfl, rfl, rfl, rfl, rfl, trivial⟩)
        · refine w_skip' ?_
          refine n_then ?_
          refine w_region ?_
          refine st (s_move rfl ?_)
          refine st (s_move rfl ?_)
          refine st (s_remk rfl rfl (by omega) (by omega) ?_)
          refine st (s_eq rfl rfl ?_)
          refine st (s_bslice (ps := [(0, .tmp 40)]) (ccs := [#[.bool (decide ((((0 + 1) + 1) % 2) = 1))]]) (e := 4) (cells := [.bool (decide ((((0 + 1) + 1) % 2) = 1))]) rfl rfl (by kernel_rfl) (by decide) nz4 ?_)
          intro g2 w8 hg2 hB2 k7 hs2
          have hb9 := below_g0 hb6 k7
          have hz12 := hb9.size
          have hO5 := hO2.g0 k7
          refine st (s_append (K := Kd.bool) sl68 rfl rfl hO5 (lit_bool hB2 hO2 (fun h => h) hg2) bool_ones (by simp; omega) (by simp; omega) (by first | exact Nat.le_refl _ | omega) (fun _ h => h.elim) ?_)
          intro v6 w9 hO6 k8 hr2
          have hb10 := hb9.grown k8 hb9.size (fun k_ hk_ => (hO5.lt k_ hk_).1)
          have hz13 := hb10.size
          refine st (s_move rfl ?_)
          refine st (s_gt rfl rfl ?_)
          refine st (s_assign rfl ?_)
          refine st (s_assign rfl ?_)
          refine r_end ?_
          refine n_block ?_
          refine n_then ?_
          refine w_region ?_
          refine st (s_move rfl ?_)
          refine st (s_add rfl rfl (by omega) ?_)
          refine st (s_assign rfl ?_)
          refine r_end ?_
          exact n_round (((i + 1)), (v6), (os ++ [decide ((((0 + 1) + 1) % 2) = 1)]), (decide (1 < ((0 + 1) + 1)))) ⟨hb10, by omega, hO6, by simp; omega, badd_step hpa hpb hi.1 hol hn (by rw [h2, h3, h4] <;> rfl)⟩ (by omega) (by exact ⟨rfl, rfl, rfl, rfl, rfl, rfl, trivial⟩)
      · refine w_skip' ?_
        refine n_then ?_
        refine w_seq ?_
        refine w_seq ?_
        refine w_region ?_
        refine st (s_move rfl ?_)
        refine r_end ?_
        refine n_then ?_
        refine w_cond rfl (fun h5 => ?_) (fun h5 => ?_)
        · refine w_region ?_
          refine st (s_move rfl ?_)
          refine st (s_add rfl rfl (by omega) ?_)
          refine st (s_assign rfl ?_)
          refine r_end ?_
          refine n_then ?_
          refine w_region ?_
          refine st (s_move rfl ?_)
          refine st (s_move rfl ?_)
          refine st (s_remk rfl rfl (by omega) (by omega) ?_)
          refine st (s_eq rfl rfl ?_)
          refine st (s_bslice (ps := [(0, .tmp 40)]) (ccs := [#[.bool (decide ((((0 + 1) + 1) % 2) = 1))]]) (e := 4) (cells := [.bool (decide ((((0 + 1) + 1) % 2) = 1))]) rfl rfl (by kernel_rfl) (by decide) nz4 ?_)
          intro g3 w10 hg3 hB3 k9 hs3
          have hb11 := below_g0 hb6 k9
          have hz14 := hb11.size
          have hO7 := hO2.g0 k9
          refine st (s_append (K := Kd.bool) sl68 rfl rfl hO7 (lit_bool hB3 hO2 (fun h => h) hg3) bool_ones (by simp; omega) (by simp; omega) (by first | exact Nat.le_refl _ | omega) (fun _ h => h.elim) ?_)
          intro v7 w11 hO8 k10 hr3
          have hb12 := hb11.grown k10 hb11.size (fun k_ hk_ => (hO7.lt k_ hk_).1)
          have hz15 := hb12.size
          refine st (s_move rfl ?_)
          refine st (s_gt rfl rfl ?_)
          refine st (s_assign rfl ?_)
          refine st (s_assign rfl ?_)
          refine r_end ?_
          refine n_block ?_
          refine n_then ?_
          refine w_region ?_
          refine st (s_move rfl ?_)
          refine st (s_add rfl rfl (by omega) ?_)
          refine st (s_assign rfl ?_)
          refine r_end ?_
          exact n_round (((i + 1)), (v7), (os ++ [decide ((((0 + 1) + 1) % 2) = 1)]), (decide (1 < ((0 + 1) + 1)))) ⟨hb12, by omega, hO8, by simp; omega, badd_step hpa hpb hi.1 hol hn (by rw [h2, h3, h5] <;> rfl)⟩ (by omega) (by exact ⟨rfl, rfl, rfl, rfl, rfl, rfl, trivial⟩)
        · refine w_skip' ?_
          refine n_then ?_
          refine w_region ?_
          refine st (s_move rfl ?_)
          refine st (s_move rfl ?_)
          refine st (s_remk rfl rfl (by omega) (by omega) ?_)
          refine st (s_eq rfl rfl ?_)
          refine st (s_bslice (ps := [(0, .tmp 40)]) (ccs := [#[.bool (decide (((0 + 1) % 2) = 1))]]) (e := 4) (cells := [.bool (decide (((0 + 1) % 2) = 1))]) rfl rfl (by kernel_rfl) (by decide) nz4 ?_)
          intro g4 w12 hg4 hB4 k11 hs4
          have hb13 := below_g0 hb6 k11
          have hz16 := hb13.size
          have hO9 := hO2.g0 k11
          refine st (s_append (K := Kd.bool) sl68 rfl rfl hO9 (lit_bool hB4 hO2 (fun h => h) hg4) bool_ones (by simp; omega) (by simp; omega) (by first | exact Nat.le_refl _ | omega) (fun _ h => h.elim) ?_)
          intro v8 w13 hO10 k12 hr4
          have hb14 := hb13.grown k12 hb13.size (fun k_ hk_ => (hO9.lt k_ hk_).1)
          have hz17 := hb14.size
          refine st (s_move rfl ?_)
          refine st (s_gt rfl rfl ?_)
          refine st (s_assign rfl ?_)
          refine st (s_assign rfl ?_)
          refine r_end ?_
          refine n_block ?_
          refine n_then ?_
          refine w_region ?_
          refine st (s_move rfl ?_)
          refine st (s_add rfl rfl (by omega) ?_)
          refine st (s_assign rfl ?_)
          refine r_end ?_
          exact n_round (((i + 1)), (v8), (os ++ [decide (((0 + 1) % 2) = 1)]), (decide (1 < (0 + 1)))) ⟨hb14, by omega, hO10, by simp; omega, badd_step hpa hpb hi.1 hol hn (by rw [h2, h3, h5] <;> rfl)⟩ (by omega) (by exact ⟨rfl, rfl, rfl, rfl, rfl, rfl, trivial⟩)
    · refine w_skip' ?_
      refine n_then ?_
      refine w_seq ?_
      refine w_seq ?_
      refine w_region ?_
      refine st (s_move rfl ?_)
      refine st (s_move rfl ?_)
      refine st (s_call fn76 rfl (at_any ((hS6.at0 hb5)).none) ?_)
      rintro v9 w14 ⟨hq5, hv3⟩
      rw [atB_tb (nv_nonneg (lim_sl hb))] at hv3
      subst hv3
      have k13 := grown_of_below hq5 none
      have hz18 := hq5.size
      have hb15 := below_g0 hb5 k13
      have hz19 := hb15.size
      have hO11 := hO1.g0 k13
      refine r_end ?_
      refine n_then ?_
      refine w_cond rfl (fun h6 => ?_) (fun h6 => ?_)
      · refine w_region ?_
        refine st (s_move rfl ?_)
        refine st (s_add rfl rfl (by omega) ?_)
        refine st (s_assign rfl ?_)
        refine r_end ?_
        refine n_then ?_
        refine w_seq ?_
        refine w_seq ?_
        refine w_region ?_
        refine st (s_move rfl ?_)
        refine r_end ?_
        refine n_then ?_
        refine w_cond rfl (fun h7 => ?_) (fun h7 => ?_)
        · refine w_region ?_
          refine st (s_move rfl ?_)
          refine st (s_add rfl rfl (by omega) ?_)
          refine st (s_assign rfl ?_)
          refine r_end ?_
          refine n_then ?_
          refine w_region ?_
          refine st (s_move rfl ?_)
          refine st (s_move rfl ?_)
          refine st (s_remk rfl rfl (by omega) (by omega) ?_)
          refine st (s_eq rfl rfl ?_)
          refine st (s_bslice (ps := [(0, .tmp 40)]) (ccs := [#[.bool (decide ((((0 + 1) + 1) % 2) = 1))]]) (e := 4) (cells := [.bool (decide ((((0 + 1) + 1) % 2) = 1))]) rfl rfl (by kernel_rfl) (by decide) nz4 ?_)
          intro g5 w15 hg5 hB5 k14 hs5
          have hb16 := below_g0 hb15 k14
          have hz20 := hb16.size
          have hO12 := hO11.g0 k14
          refine st (s_append (K := Kd.bool) sl68 rfl rfl hO12 (lit_bool hB5 hO11 (fun h => h) hg5) bool_ones (by simp; omega) (by simp; omega) (by first | exact Nat.le_refl _ | omega) (fun _ h => h.elim) ?_)
          intro v10 w16 hO13 k15 hr5
          have hb17 := hb16.grown k15 hb16.size (fun k_ hk_ => (hO12.lt k_ hk_).1)
          have hz21 := hb17.size
          refine st (s_move rfl ?_)
          refine st (s_gt rfl rfl ?_)
          refine st (s_assign rfl ?_)
          refine st (s_assign rfl ?_)
          refine r_end ?_
          refine n_block ?_
          refine n_then ?_
          refine w_region ?_
          refine st (s_move rfl ?_)
          refine st (s_add rfl rfl (by omega) ?_)
          refine st (s_assign rfl ?_)
          refine r_end ?_
          exact n_round (((i + 1)), (v10), (os ++ [decide ((((0 + 1) + 1) % 2) = 1)]), (decide (1 < ((0 + 1) + 1)))) ⟨hb17, by omega, hO13, by simp; omega, badd_step hpa hpb hi.1 hol hn (by rw [h2, h6, h7] <;> rfl)⟩ (by omega) (by exact ⟨rfl, rfl, rfl, rfl, rfl, rfl, trivial⟩)
        · refine w_skip' ?_
          refine n_then ?_
          refine w_region ?_
          refine st (s_move rfl ?_)
          refine st (s_move rfl ?_)
          refine st (s_remk rfl rfl (by omega) (by omega) ?_)
          refine st (s_eq rfl rfl ?_)
          refine st (s_bslice (ps := [(0, .tmp 40)]) (ccs := [#[.bool (decide (((0 + 1) % 2) = 1))]]) (e := 4) (cells := [.bool (decide (((0 + 1) % 2) = 1))]) rfl rfl (by kernel_rfl) (by decide) nz4 ?_)
          intro g6 w17 hg6 hB6 k16 hs6
          have hb18 := below_g0 hb15 k16
          have hz22 := hb18.size
          have hO14 := hO11.g0 k16
          refine st (s_append (K := Kd.bool) sl68 rfl rfl hO14 (lit_bool hB6 hO11 (fun h => h) hg6) bool_ones (by simp; omega) (by simp; omega) (by first | exact Nat.le_refl _ | omega) (fun _ h => h.elim) ?_)
          intro v11 w18 hO15 k17 hr6
          have hb19 := hb18.grown k17 hb18.size (fun k_ hk_ => (hO14.lt k_ hk_).1)
          have hz23 := hb19.size
          refine st (s_move rfl ?_)
          refine st (s_gt rfl rfl ?_)
          refine st (s_assign rfl ?_)
          refine st (s_assign rfl ?_)
          refine r_end ?_
          refine n_block ?_
          refine n_then ?_
          refine w_region ?_
          refine st (s_move rfl ?_)
          refine st (s_add rfl rfl (by omega) ?_)
          refine st (s_assign rfl ?_)
          refine r_end ?_
          exact n_round (((i + 1)), (v11), (os ++ [decide (((0 + 1) % 2) = 1)]), (decide (1 < (0 + 1)))) ⟨hb19, by omega, hO15, by simp; omega, badd_step hpa hpb hi.1 hol hn (by rw [h2, h6, h7] <;> rfl)⟩ (by omega) (by exact ⟨rfl, rfl, rfl, rfl, rfl, rfl, trivial⟩)
      · refine w_skip' ?_
        refine n_then ?_
        refine w_seq ?_
        refine w_seq ?_
        refine w_region ?_
        refine st (s_move rfl ?_)
        refine r_end ?_
        refine n_then ?_
        refine w_cond rfl (fun h8 => ?_) (fun h8 => ?_)
        · refine w_region ?_
          refine st (s_move rfl ?_)
          refine st (s_add rfl rfl (by omega) ?_)
          refine st (s_assign rfl ?_)
          refine r_end ?_
          refine n_then ?_
          refine w_region ?_
          refine st (s_move rfl ?_)
          refine st (s_move rfl ?_)
          refine st (s_remk rfl rfl (by omega) (by omega) ?_)
          refine st (s_eq rfl rfl ?_)
          refine st (s_bslice (ps := [(0, .tmp 40)]) (ccs := [#[.bool (decide (((0 + 1) % 2) = 1))]]) (e := 4) (cells := [.bool (decide (((0 + 1) % 2) = 1))]) rfl rfl (by kernel_rfl) (by decide) nz4 ?_)
          intro g7 w19 hg7 hB7 k18 hs7
          have hb20 := below_g0 hb15 k18
          have hz24 := hb20.size
          have hO16 := hO11.g0 k18
          refine st (s_append (K := Kd.bool) sl68 rfl rfl hO16 (lit_bool hB7 hO11 (fun h => h) hg7) bool_ones (by simp; omega) (by simp; omega) (by first | exact Nat.le_refl _ | omega) (fun _ h => h.elim) ?_)
          intro v12 w20 hO17 k19 hr7
          have hb21 := hb20.grown k19 hb20.size (fun k_ hk_ => (hO16.lt k_ hk_).1)
          have hz25 := hb21.size
          refine st (s_move rfl ?_)
          refine st (s_gt rfl rfl ?_)
          refine st (s_assign rfl ?_)
          refine st (s_assign rfl ?_)
          refine r_end ?_
          refine n_block ?_
          refine n_then ?_
          refine w_region ?_
          refine st (s_move rfl ?_)
          refine st (s_add rfl rfl (by omega) ?_)
          refine st (s_assign rfl ?_)
          refine r_end ?_
          exact n_round (((i + 1)), (v12), (os ++ [decide (((0 + 1) % 2) = 1)]), (decide (1 < (0 + 1)))) ⟨hb21, by omega, hO17, by simp; omega, badd_step hpa hpb hi.1 hol hn (by rw [h2, h6, h8] <;> rfl)⟩ (by omega) (by exact ⟨rfl, rfl, rfl, rfl, rfl, rfl, trivial⟩)
        · refine w_skip' ?_
          refine n_then ?_
          refine w_region ?_
          refine st (s_move rfl ?_)
          refine st (s_move rfl ?_)
          refine st (s_remk rfl rfl (by omega) (by omega) ?_)
          refine st (s_eq rfl rfl ?_)
          refine st (s_bslice (ps := [(0, .tmp 40)]) (ccs := [#[.bool (decide ((0 % 2) = 1))]]) (e := 4) (cells := [.bool (decide ((0 % 2) = 1))]) rfl rfl (by kernel_rfl) (by decide) nz4 ?_)
          intro g8 w21 hg8 hB8 k20 hs8
          have hb22 := below_g0 hb15 k20
          have hz26 := hb22.size
          have hO18 := hO11.g0 k20
          refine st (s_append (K := Kd.bool) sl68 rfl rfl hO18 (lit_bool hB8 hO11 (fun h => h) hg8) bool_ones (by simp; omega) (by simp; omega) (by first | exact Nat.le_refl _ | omega) (fun _ h => h.elim) ?_)
          intro v13 w22 hO19 k21 hr8
          have hb23 := hb22.grown k21 hb22.size (fun k_ hk_ => (hO18.lt k_ hk_).1)
          have hz27 := hb23.size
          refine st (s_move rfl ?_)
          refine st (s_gt rfl rfl ?_)
          refine st (s_assign rfl ?_)
          refine st (s_assign rfl ?_)
          refine r_end ?_
          refine n_block ?_
          refine n_then ?_
          refine w_region ?_
          refine st (s_move rfl ?_)
          refine st (s_add rfl rfl (by omega) ?_)
          refine st (s_assign rfl ?_)
          refine r_end ?_
          exact n_round (((i + 1)), (v13), (os ++ [decide ((0 % 2) = 1)]), (decide (1 < 0))) ⟨hb23, by omega, hO19, by simp; omega, badd_step hpa hpb hi.1 hol hn (by rw [h2, h6, h8] <;> rfl)⟩ (by omega) (by exact ⟨rfl, rfl, rfl, rfl, rfl, rfl, trivial⟩)
  · refine w_exit' ?_
    refine n_then_exit ?_
    refine n_then_exit ?_
    refine n_block_exit ?_
    refine n_then ?_
    refine w_seq ?_
    refine w_region ?_
    refine st (s_move rfl ?_)
    refine st (s_call fn77 rfl (rof_any hO.sl.none (by first | omega | (simp; done) | (simp; omega))) ?_)
    rintro v14 w23 ⟨hq6, hS7⟩
    have k22 := grown_of_below hq6 none
    have hz28 := hq6.size
    have hb24 := below_g0 hb4 k22
    have hz29 := hb24.size
    have hO20 := hO.g0 k22
    refine st (s_assign rfl ?_)
    refine r_end ?_
    refine n_then ?_
    refine w_ret1 rfl rfl ?_
    have he := badd_end hpa hpb hi.1 hol hn (by omega) (by omega)
    refine ⟨_, rfl, (hb2.trans (hb24.mono hb2.size)), ?_⟩
    rw [← he]
    exact hS7

theorem rsub_any {w : World} {a b : Value} {xs ys : List Int} (ha : Sl Kd.u32 w (fun _ => False) a xs) (hb : Sl Kd.u32 w (fun _ => False) b ys) (hla : xs.length ≤ 100000) (hlb : ys.length ≤ 100000) :
    Calls Try.prog 24 [a, b].toArray w (Pure w fun r W => ∃ v, r = .tuple #[v, .bool (decide (nv ys ≤ nv xs))] ∧ Sl Kd.u32 W (fun _ => False) v (tl (nv xs - nv ys))) := by
  have hb0 := Below.refl w.heap.size w
  have hln1 := ha.lenle
  have hln2 := hb.lenle
  have hpa := nv_nonneg (lim_sl ha)
  have hpb := nv_nonneg (lim_sl hb)
  have hla2 := tb_nv_len (lim_sl ha)
  have hlb2 := tb_nv_len (lim_sl hb)
  have hba := tb_len (n := nv xs)
  have hbb := tb_len (n := nv ys)
  refine enter Try.func24 rfl rfl ?_
  refine w_seq ?_
  refine w_region ?_
  refine st (s_assign rfl ?_)
  refine st (s_assign rfl ?_)
  refine r_end ?_
  refine n_then ?_
  refine w_seq ?_
  refine w_seq ?_
  refine w_region ?_
  refine st (s_move rfl ?_)
  refine st (s_move rfl ?_)
  refine st (s_call fn29 rfl (rcmp_any ((ha.at0 hb0)).none ((hb.at0 hb0)).none (by first | omega | (simp; done) | (simp; omega)) (by first | omega | (simp; done) | (simp; omega))) ?_)
  rintro _ w1 ⟨hq1, rfl⟩
  have k1 := grown_of_below hq1 none
  have hz1 := hq1.size
  have hb1 := below_g0 hb0 k1
  have hz2 := hb1.size
  refine st (s_lt rfl rfl ?_)
  refine r_end ?_
  refine n_then ?_
  refine w_condP rfl (fun h1 => ?_) (fun h1 => ?_)
  · refine w_seq ?_
    refine w_region ?_
    refine st (s_assign rfl ?_)
    refine st (s_assign rfl ?_)
    refine r_end ?_
    refine n_then ?_
    refine w_ret2 rfl rfl rfl ?_
    have hlt : nv xs < nv ys := by have := h1; unfold cmpI at this; split at this <;> (try split at this) <;> omega
    exact ⟨_, rfl, hb1, _, by rw [decide_eq_false (by omega)], by rw [tl_zero (by omega)]; exact (Own.nil Kd.u32 44 w.heap.size _ (fun _ => False)).sl⟩
  · refine w_skip' ?_
    refine n_then ?_
    refine w_seq ?_
    refine w_region ?_
    refine st (s_move rfl ?_)
    refine st (s_call fn75 rfl (rbits_any ((ha.at0 hb1)).none (by first | omega | (simp; done) | (simp; omega))) ?_)
    rintro v1 w2 ⟨hq2, hS1⟩
    have k2 := grown_of_below hq2 none
    have hz3 := hq2.size
    have hb2 := below_g0 hb1 k2
    have hz4 := hb2.size
    refine st (s_move rfl ?_)
    refine st (s_call fn75 rfl (rbits_any ((hb.at0 hb2)).none (by first | omega | (simp; done) | (simp; omega))) ?_)
    rintro v2 w3 ⟨hq3, hS2⟩
    have k3 := grown_of_below hq3 none
    have hz5 := hq3.size
    have hb3 := below_g0 hb2 k3
    have hz6 := hb3.size
    refine st (s_assign rfl ?_)
    refine st (s_assign rfl ?_)
    refine r_end ?_
    refine n_then ?_
    refine w_seq ?_
    refine w_region ?_
    have hzz1 := k1.size
    have hzz2 := k2.size
    have hzz3 := k3.size
    have hS3 := ((ha.at0 hb3)).none
    have hS4 := ((hb.at0 hb3)).none
    have hS5 := ((hS1.g0 k3)).none
    have hS6 := (hS2).none
    have hb4 := Below.refl w3.heap.size w3
    refine st (s_assign rfl ?_)
    refine r_end ?_
    refine n_then ?_
    refine w_seq ?_
    refine w_region ?_
    refine st (s_assign rfl ?_)
    refine r_end ?_
    refine n_then ?_
    refine w_seq ?_
    refine w_seq ?_
    refine w_region ?_
    refine st (s_assign rfl ?_)
    refine r_end ?_
    refine n_then ?_
    refine w_block ?_
    refine w_loop (α := Int × Value × List Bool × Int) (fun ((i, v, os, u) : Int × Value × List Bool × Int) => [(4, .slice none 0 0), (5, .bool false), (6, v1), (7, v2), (8, v), (9, .int .i64 u), (10, .int .i64 i)]) (fun ((i, v, os, u) : Int × Value × List Bool × Int) W => Below w3.heap.size w3 W ∧ (0 ≤ i ∧ i ≤ ((tb (nv xs)).length : Int)) ∧ (Gw.Own Kd.bool 4 w3.heap.size W (fun _ => False) v os) ∧ ((os.length : Int) = i) ∧ (0 ≤ u ∧ u ≤ 1) ∧ (bv os = nv xs % 2 ^ i.toNat - nv ys % 2 ^ i.toNat + 2 ^ i.toNat * u)) (fun ((i, v, os, u) : Int × Value × List Bool × Int) => (((tb (nv xs)).length : Int) - i).toNat) ((0), (.slice none 0 0), ([]), (0)) ⟨hb4, by omega, Own.nil Kd.bool 4 _ _ _, rfl, by omega, by simp [bv, Int.emod_one]⟩ (by exact ⟨rfl, rfl, rfl, rfl, rfl, rfl, rfl, trivial⟩) ?_
    rintro ⟨i, v, os, u⟩ w4 ⟨hb5, hi, hO, hol, hu, hn⟩
    dsimp only at *
    have hz7 := hb5.size
    refine w_seq ?_
    refine w_seq ?_
    refine w_region ?_
    refine st (s_move rfl ?_)
    refine st (s_move rfl ?_)
    refine st (s_len sl68 rfl (hS5.at0 hb5) ?_)
    refine st (s_lt rfl rfl ?_)
    refine r_end ?_
    refine n_then ?_
    refine w_condP rfl (fun h2 => ?_) (fun h2 => ?_)
    · refine w_skip' ?_
      refine n_then ?_
      refine w_seq ?_
      refine w_block ?_
      refine w_seq ?_
      refine w_region ?_
      refine st (s_move rfl ?_)
      refine st (s_neg rfl (by omega) ?_)
      refine st (s_assign rfl ?_)
      refine r_end ?_
      refine n_then ?_
      refine w_seq ?_
      refine w_seq ?_
      refine w_region ?_
      refine st (s_move rfl ?_)
      refine st (s_move rfl ?_)
      refine st (s_call fn76 rfl (at_any ((hS5.at0 hb5)).none) ?_)
      rintro v3 w5 ⟨hq4, hv1⟩
      rw [atB_tb (nv_nonneg (lim_sl ha))] at hv1
      subst hv1
      have k4 := grown_of_below hq4 none
      have hz8 := hq4.size
      have hb6 := below_g0 hb5 k4
      have hz9 := hb6.size
      have hO1 := hO.g0 k4
      refine r_end ?_
      refine n_then ?_
      refine w_cond rfl (fun h3 => ?_) (fun h3 => ?_)
      · refine w_region ?_
        refine st (s_move rfl ?_)
        refine st (s_add rfl rfl (by omega) ?_)
        refine st (s_assign rfl ?_)
        refine r_end ?_
        refine n_then ?_
        refine w_seq ?_
        refine w_seq ?_
        refine w_region ?_
        refine st (s_move rfl ?_)
        refine st (s_move rfl ?_)
        refine st (s_call fn76 rfl (at_any ((hS6.at0 hb6)).none) ?_)
        rintro v4 w6 ⟨hq5, hv2⟩
        rw [atB_tb (nv_nonneg (lim_sl hb))] at hv2
        subst hv2
        have k5 := grown_of_below hq5 none
        have hz10 := hq5.size
        have hb7 := below_g0 hb6 k5
        have hz11 := hb7.size
        have hO2 := hO1.g0 k5
        refine r_end ?_
        refine n_then ?_
        refine w_cond rfl (fun h4 => ?_) (fun h4 => ?_)
        · refine w_region ?_
          refine st (s_move rfl ?_)
          refine st (s_sub rfl rfl (by omega) ?_)
          refine st (s_assign rfl ?_)
          refine r_end ?_
          refine n_then ?_
          refine w_seq ?_
          refine w_region ?_
          refine st (s_assign rfl ?_)
          refine r_end ?_
          refine n_then ?_
          refine w_seq ?_
          refine w_seq ?_
          refine w_region ?_
          refine st (s_move rfl ?_)
          refine st (s_lt rfl rfl ?_)
          refine r_end ?_
          refine n_then ?_
          refine w_condP rfl (fun h5 => ?_) (fun h5 => ?_)
          · refine w_region ?_
            refine st (s_move rfl ?_)
            refine st (s_add rfl rfl (by omega) ?_)
            refine st (s_assign rfl ?_)
            refine st (s_assign rfl ?_)
            refine r_end ?_
            refine n_then ?_
            refine w_region ?_
            refine st (s_move rfl ?_)
            refine st (s_move rfl ?_)
            refine st (s_eq rfl rfl ?_)
            refine st (s_bslice (ps := [(0, .tmp 44)]) (ccs := [#[.bool (decide (((((-u) + 1) - 1) + 2) = 1))]]) (e := 4) (cells := [.bool (decide (((((-u) + 1) - 1) + 2) = 1))]) rfl rfl (by kernel_rfl) (by decide) nz4 ?_)
            intro g1 w7 hg1 hB1 k6 hs1
            have hb8 := below_g0 hb7 k6
            have hz12 := hb8.size
            have hO3 := hO2.g0 k6
            refine st (s_append (K := Kd.bool) sl68 rfl rfl hO3 (lit_bool hB1 hO2 (fun h => h) hg1) bool_ones (by simp; omega) (by simp; omega) (by first | exact Nat.le_refl _ | omega) (fun _ h => h.elim) ?_)
            intro v5 w8 hO4 k7 hr1
            have hb9 := hb8.grown k7 hb8.size (fun k_ hk_ => (hO3.lt k_ hk_).1)
            have hz13 := hb9.size
            refine st (s_assign rfl ?_)
            refine r_end ?_
            refine n_block ?_
            refine n_then ?_
            refine w_region ?_
            refine st (s_move rfl ?_)
            refine st (s_add rfl rfl (by omega) ?_)
            refine st (s_assign rfl ?_)
            refine r_end ?_
            exact n_round (((i + 1)), (v5), (os ++ [decide (((((-u) + 1) - 1) + 2) = 1)]), (1)) ⟨hb9, by omega, hO4, by simp; omega, by dsimp only; omega, bsub_step hpa hpb hi.1 hol hn (u' := 1) (by rw [h3, h4]; simp only [bn]; simp; try omega) (by omega)⟩ (by omega) (by exact ⟨rfl, rfl, rfl, rfl, rfl, rfl, rfl, trivial⟩)
          · refine w_skip' ?_
            refine n_then ?_
            refine w_region ?_
            refine st (s_move rfl ?_)
            refine st (s_move rfl ?_)
            refine st (s_eq rfl rfl ?_)
            refine st (s_bslice (ps := [(0, .tmp 44)]) (ccs := [#[.bool (decide ((((-u) + 1) - 1) = 1))]]) (e := 4) (cells := [.bool (decide ((((-u) + 1) - 1) = 1))]) rfl rfl (by kernel_rfl) (by decide) nz4 ?_)
            intro g2 w9 hg2 hB2 k8 hs2
            have hb10 := below_g0 hb7 k8
            have hz14 := hb10.size
            have hO5 := hO2.g0 k8
            refine st (s_append (K := Kd.bool) sl68 rfl rfl hO5 (lit_bool hB2 hO2 (fun h => h) hg2) bool_ones (by simp; omega) (by simp; omega) (by first | exact Nat.le_refl _ | omega) (fun _ h => h.elim) ?_)
            intro v6 w10 hO6 k9 hr2
            have hb11 := hb10.grown k9 hb10.size (fun k_ hk_ => (hO5.lt k_ hk_).1)
            have hz15 := hb11.size
            refine st (s_assign rfl ?_)
            refine r_end ?_
            refine n_block ?_
            refine n_then ?_
            refine w_region ?_
            refine st (s_move rfl ?_)
            refine st (s_add rfl rfl (by omega) ?_)
            refine st (s_assign rfl ?_)
            refine r_end ?_
            exact n_round (((i + 1)), (v6), (os ++ [decide ((((-u) + 1) - 1) = 1)]), (0)) ⟨hb11, by omega, hO6, by simp; omega, by dsimp only; omega, bsub_step hpa hpb hi.1 hol hn (u' := 0) (by rw [h3, h4]; simp only [bn]; simp; try omega) (by omega)⟩ (by omega) (by exact ⟨rfl, rfl, rfl, rfl, rfl, rfl, rfl, trivial⟩)
        · refine w_skip' ?_
          refine n_then ?_
          refine w_seq ?_
          refine w_region ?_
          refine st (s_assign rfl ?_)
          refine r_end ?_
          refine n_then ?_
          refine w_seq ?_
          refine w_seq ?_
          refine w_region ?_
          refine st (s_move rfl ?_)
          refine st (s_lt rfl rfl ?_)
          refine r_end ?_
          refine n_then ?_
          refine w_condP rfl (fun h6 => ?_) (fun h6 => ?_)
          · refine w_region ?_
            refine st (s_move rfl ?_)
            refine st (s_add rfl rfl (by omega) ?_)
            refine st (s_assign rfl ?_)
            refine st (s_assign rfl ?_)
            refine r_end ?_
            refine n_then ?_
            refine w_region ?_
            refine st (s_move rfl ?_)
            refine st (s_move rfl ?_)
            refine st (s_eq rfl rfl ?_)
            refine st (s_bslice (ps := [(0, .tmp 44)]) (ccs := [#[.bool (decide ((((-u) + 1) + 2) = 1))]]) (e := 4) (cells := [.bool (decide ((((-u) + 1) + 2) = 1))]) rfl rfl (by kernel_rfl) (by decide) nz4 ?_)
            intro g3 w11 hg3 hB3 k10 hs3
            have hb12 := below_g0 hb7 k10
            have hz16 := hb12.size
            have hO7 := hO2.g0 k10
            refine st (s_append (K := Kd.bool) sl68 rfl rfl hO7 (lit_bool hB3 hO2 (fun h => h) hg3) bool_ones (by simp; omega) (by simp; omega) (by first | exact Nat.le_refl _ | omega) (fun _ h => h.elim) ?_)
            intro v7 w12 hO8 k11 hr3
            have hb13 := hb12.grown k11 hb12.size (fun k_ hk_ => (hO7.lt k_ hk_).1)
            have hz17 := hb13.size
            refine st (s_assign rfl ?_)
            refine r_end ?_
            refine n_block ?_
            refine n_then ?_
            refine w_region ?_
            refine st (s_move rfl ?_)
            refine st (s_add rfl rfl (by omega) ?_)
            refine st (s_assign rfl ?_)
            refine r_end ?_
            exact n_round (((i + 1)), (v7), (os ++ [decide ((((-u) + 1) + 2) = 1)]), (1)) ⟨hb13, by omega, hO8, by simp; omega, by dsimp only; omega, bsub_step hpa hpb hi.1 hol hn (u' := 1) (by rw [h3, h4]; simp only [bn]; simp; try omega) (by omega)⟩ (by omega) (by exact ⟨rfl, rfl, rfl, rfl, rfl, rfl, rfl, trivial⟩)
          · refine w_skip' ?_
            refine n_then ?_
            refine w_region ?_
            refine st (s_move rfl ?_)
            refine st (s_move rfl ?_)
            refine st (s_eq rfl rfl ?_)
            refine st (s_bslice (ps := [(0, .tmp 44)]) (ccs := [#[.bool (decide (((-u) + 1) = 1))]]) (e := 4) (cells := [.bool (decide (((-u) + 1) = 1))]) rfl rfl (by kernel_rfl) (by decide) nz4 ?_)
            intro g4 w13 hg4 hB4 k12 hs4
            have hb14 := below_g0 hb7 k12
            have hz18 := hb14.size
            have hO9 := hO2.g0 k12
            refine st (s_append (K := Kd.bool) sl68 rfl rfl hO9 (lit_bool hB4 hO2 (fun h => h) hg4) bool_ones (by simp; omega) (by simp; omega) (by first | exact Nat.le_refl _ | omega) (fun _ h => h.elim) ?_)
            intro v8 w14 hO10 k13 hr4
            have hb15 := hb14.grown k13 hb14.size (fun k_ hk_ => (hO9.lt k_ hk_).1)
            have hz19 := hb15.size
            refine st (s_assign rfl ?_)
            refine r_end ?_
            refine n_block ?_
            refine n_then ?_
            refine w_region ?_
            refine st (s_move rfl ?_)
            refine st (s_add rfl rfl (by omega) ?_)
            refine st (s_assign rfl ?_)
            refine r_end ?_
            exact n_round (((i + 1)), (v8), (os ++ [decide (((-u) + 1) = 1)]), (0)) ⟨hb15, by omega, hO10, by simp; omega, by dsimp only; omega, bsub_step hpa hpb hi.1 hol hn (u' := 0) (by rw [h3, h4]; simp only [bn]; simp; try omega) (by omega)⟩ (by omega) (by exact ⟨rfl, rfl, rfl, rfl, rfl, rfl, rfl, trivial⟩)
      · refine w_skip' ?_
        refine n_then ?_
        refine w_seq ?_
        refine w_seq ?_
        refine w_region ?_
        refine st (s_move rfl ?_)
        refine st (s_move rfl ?_)
        refine st (s_call fn76 rfl (at_any ((hS6.at0 hb6)).none) ?_)
        rintro v9 w15 ⟨hq6, hv3⟩
        rw [atB_tb (nv_nonneg (lim_sl hb))] at hv3
        subst hv3
        have k14 := grown_of_below hq6 none
        have hz20 := hq6.size
        have hb16 := below_g0 hb6 k14
        have hz21 := hb16.size
        have hO11 := hO1.g0 k14
        refine r_end ?_
        refine n_then ?_
        refine w_cond rfl (fun h7 => ?_) (fun h7 => ?_)
        · refine w_region ?_
          refine st (s_move rfl ?_)
          refine st (s_sub rfl rfl (by omega) ?_)
          refine st (s_assign rfl ?_)
          refine r_end ?_
          refine n_then ?_
          refine w_seq ?_
          refine w_region ?_
          refine st (s_assign rfl ?_)
          refine r_end ?_
          refine n_then ?_
          refine w_seq ?_
          refine w_seq ?_
          refine w_region ?_
          refine st (s_move rfl ?_)
          refine st (s_lt rfl rfl ?_)
          refine r_end ?_
          refine n_then ?_
          refine w_condP rfl (fun h8 => ?_) (fun h8 => ?_)
          · refine w_region ?_
            refine st (s_move rfl ?_)
            refine st (s_add rfl rfl (by omega) ?_)
            refine st (s_assign rfl ?_)
            refine st (s_assign rfl ?_)
            refine r_end ?_
            refine n_then ?_
            refine w_region ?_
            refine st (s_move rfl ?_)
            refine st (s_move rfl ?_)
            refine st (s_eq rfl rfl ?_)
            refine st (s_bslice (ps := [(0, .tmp 44)]) (ccs := [#[.bool (decide ((((-u) - 1) + 2) = 1))]]) (e := 4) (cells := [.bool (decide ((((-u) - 1) + 2) = 1))]) rfl rfl (by kernel_rfl) (by decide) nz4 ?_)
            intro g5 w16 hg5 hB5 k15 hs5
            have hb17 := below_g0 hb16 k15
            have hz22 := hb17.size
            have hO12 := hO11.g0 k15
            refine st (s_append (K := Kd.bool) sl68 rfl rfl hO12 (lit_bool hB5 hO11 (fun h => h) hg5) bool_ones (by simp; omega) (by simp; omega) (by first | exact Nat.le_refl _ | omega) (fun _ h => h.elim) ?_)
            intro v10 w17 hO13 k16 hr5
            have hb18 := hb17.grown k16 hb17.size (fun k_ hk_ => (hO12.lt k_ hk_).1)
            have hz23 := hb18.size
            refine st (s_assign rfl ?_)
            refine r_end ?_
            refine n_block ?_
            refine n_then ?_
            refine w_region ?_
            refine st (s_move rfl ?_)
            refine st (s_add rfl rfl (by omega) ?_)
            refine st (s_assign rfl ?_)
            refine r_end ?_
            exact n_round (((i + 1)), (v10), (os ++ [decide ((((-u) - 1) + 2) = 1)]), (1)) ⟨hb18, by omega, hO13, by simp; omega, by dsimp only; omega, bsub_step hpa hpb hi.1 hol hn (u' := 1) (by rw [h3, h7]; simp only [bn]; simp; try omega) (by omega)⟩ (by omega) (by exact ⟨rfl, rfl, rfl, rfl, rfl, rfl, rfl, trivial⟩)
          · refine w_skip' ?_
            refine n_then ?_
            refine w_region ?_
            refine st (s_move rfl ?_)
            refine st (s_move rfl ?_)
            refine st (s_eq rfl rfl ?_)
            refine st (s_bslice (ps := [(0, .tmp 44)]) (ccs := [#[.bool (decide (((-u) - 1) = 1))]]) (e := 4) (cells := [.bool (decide (((-u) - 1) = 1))]) rfl rfl (by kernel_rfl) (by decide) nz4 ?_)
            intro g6 w18 hg6 hB6 k17 hs6
            have hb19 := below_g0 hb16 k17
            have hz24 := hb19.size
            have hO14 := hO11.g0 k17
            refine st (s_append (K := Kd.bool) sl68 rfl rfl hO14 (lit_bool hB6 hO11 (fun h => h) hg6) bool_ones (by simp; omega) (by simp; omega) (by first | exact Nat.le_refl _ | omega) (fun _ h => h.elim) ?_)
            intro v11 w19 hO15 k18 hr6
            have hb20 := hb19.grown k18 hb19.size (fun k_ hk_ => (hO14.lt k_ hk_).1)
            have hz25 := hb20.size
            refine st (s_assign rfl ?_)
            refine r_end ?_
            refine n_block ?_
            refine n_then ?_
            refine w_region ?_
            refine st (s_move rfl ?_)
            refine st (s_add rfl rfl (by omega) ?_)
            refine st (s_assign rfl ?_)
            refine r_end ?_
            exact n_round (((i + 1)), (v11), (os ++ [decide (((-u) - 1) = 1)]), (0)) ⟨hb20, by omega, hO15, by simp; omega, by dsimp only; omega, bsub_step hpa hpb hi.1 hol hn (u' := 0) (by rw [h3, h7]; simp only [bn]; simp; try omega) (by omega)⟩ (by omega) (by exact ⟨rfl, rfl, rfl, rfl, rfl, rfl, rfl, trivial⟩)
        · refine w_skip' ?_
          refine n_then ?_
          refine w_seq ?_
          refine w_region ?_
          refine st (s_assign rfl ?_)
          refine r_end ?_
          refine n_then ?_
          refine w_seq ?_
          refine w_seq ?_
          refine w_region ?_
          refine st (s_move rfl ?_)
          refine st (s_lt rfl rfl ?_)
          refine r_end ?_
          refine n_then ?_
          refine w_condP rfl (fun h9 => ?_) (fun h9 => ?_)
          · refine w_region ?_
            refine st (s_move rfl ?_)
            refine st (s_add rfl rfl (by omega) ?_)
            refine st (s_assign rfl ?_)
            refine st (s_assign rfl ?_)
            refine r_end ?_
            refine n_then ?_
            refine w_region ?_
            refine st (s_move rfl ?_)
            refine st (s_move rfl ?_)
            refine st (s_eq rfl rfl ?_)
            refine st (s_bslice (ps := [(0, .tmp 44)]) (ccs := [#[.bool (decide (((-u) + 2) = 1))]]) (e := 4) (cells := [.bool (decide (((-u) + 2) = 1))]) rfl rfl (by kernel_rfl) (by decide) nz4 ?_)
            intro g7 w20 hg7 hB7 k19 hs7
            have hb21 := below_g0 hb16 k19
            have hz26 := hb21.size
            have hO16 := hO11.g0 k19
            refine st (s_append (K := Kd.bool) sl68 rfl rfl hO16 (lit_bool hB7 hO11 (fun h => h) hg7) bool_ones (by simp; omega) (by simp; omega) (by first | exact Nat.le_refl _ | omega) (fun _ h => h.elim) ?_)
            intro v12 w21 hO17 k20 hr7
            have hb22 := hb21.grown k20 hb21.size (fun k_ hk_ => (hO16.lt k_ hk_).1)
            have hz27 := hb22.size
            refine st (s_assign rfl ?_)
            refine r_end ?_
            refine n_block ?_
            refine n_then ?_
            refine w_region ?_
            refine st (s_move rfl ?_)
            refine st (s_add rfl rfl (by omega) ?_)
            refine st (s_assign rfl ?_)
            refine r_end ?_
            exact n_round (((i + 1)), (v12), (os ++ [decide (((-u) + 2) = 1)]), (1)) ⟨hb22, by omega, hO17, by simp; omega, by dsimp only; omega, bsub_step hpa hpb hi.1 hol hn (u' := 1) (by rw [h3, h7]; simp only [bn]; simp; try omega) (by omega)⟩ (by omega) (by exact ⟨rfl, rfl, rfl, rfl, rfl, rfl, rfl, trivial⟩)
          · refine w_skip' ?_
            refine n_then ?_
            refine w_region ?_
            refine st (s_move rfl ?_)
            refine st (s_move rfl ?_)
            refine st (s_eq rfl rfl ?_)
            refine st (s_bslice (ps := [(0, .tmp 44)]) (ccs := [#[.bool (decide ((-u) = 1))]]) (e := 4) (cells := [.bool (decide ((-u) = 1))]) rfl rfl (by kernel_rfl) (by decide) nz4 ?_)
            intro g8 w22 hg8 hB8 k21 hs8
            have hb23 := below_g0 hb16 k21
            have hz28 := hb23.size
            have hO18 := hO11.g0 k21
            refine st (s_append (K := Kd.bool) sl68 rfl rfl hO18 (lit_bool hB8 hO11 (fun h => h) hg8) bool_ones (by simp; omega) (by simp; omega) (by first | exact Nat.le_refl _ | omega) (fun _ h => h.elim) ?_)
            intro v13 w23 hO19 k22 hr8
            have hb24 := hb23.grown k22 hb23.size (fun k_ hk_ => (hO18.lt k_ hk_).1)
            have hz29 := hb24.size
            refine st (s_assign rfl ?_)
            refine r_end ?_
            refine n_block ?_
            refine n_then ?_
            refine w_region ?_
            refine st (s_move rfl ?_)
            refine st (s_add rfl rfl (by omega) ?_)
            refine st (s_assign rfl ?_)
            refine r_end ?_
            exact n_round (((i + 1)), (v13), (os ++ [decide ((-u) = 1)]), (0)) ⟨hb24, by omega, hO19, by simp; omega, by dsimp only; omega, bsub_step hpa hpb hi.1 hol hn (u' := 0) (by rw [h3, h7]; simp only [bn]; simp; try omega) (by omega)⟩ (by omega) (by exact ⟨rfl, rfl, rfl, rfl, rfl, rfl, rfl, trivial⟩)
    · refine w_exit' ?_
      refine n_then_exit ?_
      refine n_then_exit ?_
      refine n_block_exit ?_
      refine n_then ?_
      refine w_seq ?_
      refine w_region ?_
      refine st (s_move rfl ?_)
      refine st (s_call fn77 rfl (rof_any hO.sl.none (by first | omega | (simp; done) | (simp; omega))) ?_)
      rintro v14 w24 ⟨hq7, hS7⟩
      have k23 := grown_of_below hq7 none
      have hz30 := hq7.size
      have hb25 := below_g0 hb5 k23
      have hz31 := hb25.size
      have hO20 := hO.g0 k23
      refine st (s_assign rfl ?_)
      refine st (s_assign rfl ?_)
      refine r_end ?_
      refine n_then ?_
      refine w_ret2 rfl rfl rfl ?_
      have hle : nv ys ≤ nv xs := by have := h1; unfold cmpI at this; split at this <;> (try split at this) <;> omega
      have hend := bsub_end hpa hpb hle hol hn hu (by omega)
      exact ⟨_, rfl, (hb3.trans (hb25.mono hb3.size)), _, by rw [decide_eq_true hle], by rw [← hend]; exact hS7⟩
end Go.Proofs.Ytencmmhfiepojaa
