/- Part of the proof that is named in YtencmmhfiepojaaLRowBack: a library for walks, or a function's walk. -/
import Derived.Test.YtencmmhfiepojaaLB
import Derived.Test.YtencmmhfiepojaaLimbSpec2
set_option maxRecDepth 20000
set_option linter.unusedSimpArgs false
set_option linter.unusedVariables false
namespace Go.Proofs.Ytencmmhfiepojaa
open Go.RowKit Go.Gw
theorem sub_any {w : World} {a b : Value} {xs ys : List Int} (ha : Sl Kd.u32 w (fun _ => False) a xs) (hb : Sl Kd.u32 w (fun _ => False) b ys) (hla : xs.length ≤ 100000) (hlb : ys.length ≤ 100000) :
    Calls Try.prog 23 [a, b].toArray w (Pure w fun r W => ∃ v, r = .tuple #[v, .bool (decide (nv ys ≤ nv xs))] ∧ Sl Kd.u32 W (fun _ => False) v (tl (nv xs - nv ys))) := by
  have hb0 := Below.refl w.heap.size w
  have hln1 := ha.lenle
  have hln2 := hb.lenle
  refine enter Try.func23 rfl rfl ?_
  refine w_seq ?_
  refine w_region ?_
  refine st (s_assign rfl ?_)
  refine st (s_assign rfl ?_)
  refine r_end ?_
  refine n_then ?_
  refine w_seq ?_
  refine w_seq ?_
  refine w_region ?_
  refine st (s_move rfl ?_)
  refine st (s_move rfl ?_)
  refine st (s_call fn28 rfl (cmp_any ((ha.at0 hb0)).none ((hb.at0 hb0)).none) ?_)
  rintro _ w1 ⟨hq1, rfl⟩
  have k1 := grown_of_below hq1 none
  have hz1 := hq1.size
  have hb1 := below_g0 hb0 k1
  have hz2 := hb1.size
  refine st (s_lt rfl rfl ?_)
  refine r_end ?_
  refine n_then ?_
  refine w_condP rfl (fun h1 => ?_) (fun h1 => ?_)
  · refine w_seq ?_
    refine w_region ?_
    refine st (s_assign rfl ?_)
    refine st (s_assign rfl ?_)
    refine r_end ?_
    refine n_then ?_
    refine w_ret2 rfl rfl rfl ?_
    have hlt : nv xs < nv ys := by have := h1; unfold cmpI at this; split at this <;> (try split at this) <;> omega
    exact ⟨_, rfl, hb1, _, by rw [decide_eq_false (by omega)], by rw [tl_zero (by omega)]; exact (Own.nil Kd.u32 44 w.heap.size _ (fun _ => False)).sl⟩
  · refine w_skip' ?_
    refine n_then ?_
    refine w_seq ?_
    refine w_region ?_
    refine st (s_move rfl ?_)
    refine st (s_call fn72 rfl (clone_any ((ha.at0 hb1)).none (by first | omega | (simp; done) | (simp; omega))) ?_)
    rintro v1 w2 ⟨hq2, hO2⟩
    have k2 := grown_of_below hq2 none
    have hz3 := hq2.size
    have hb2 := below_g0 hb1 k2
    have hz4 := hb2.size
    have hO1 := hO2.rebase (b' := w.heap.size) (by omega)
    refine st (s_assign rfl ?_)
    refine r_end ?_
    refine n_then ?_
    refine w_seq ?_
    refine w_region ?_
    refine st (s_assign rfl ?_)
    refine r_end ?_
    refine n_then ?_
    refine w_seq ?_
    refine w_seq ?_
    refine w_region ?_
    refine st (s_move rfl ?_)
    refine st (s_len sl32 rfl hO1.sl ?_)
    refine st (s_move rfl ?_)
    refine r_end ?_
    refine n_then ?_
    refine w_block ?_
    refine w_loop (α := Int × List Int × Int) (fun ((i, os, c) : Int × List Int × Int) => [(1, b), (4, .slice none 0 0), (5, .bool false), (6, v1), (7, .int .u32 c), (17, .int .i64 (xs.length : Int)), (18, .int .i64 i)]) (fun ((i, os, c) : Int × List Int × Int) W => Below w.heap.size w W ∧ (0 ≤ i ∧ i ≤ xs.length) ∧ (os.length = xs.length) ∧ (0 ≤ c ∧ c ≤ 1) ∧ (Gw.Own Kd.u32 44 w.heap.size W (fun _ => False) v1 os) ∧ (nv (os.take i.toNat) = nv (xs.take i.toNat) - nv (ys.take i.toNat) + PW i.toNat * c) ∧ (∀ j : Int, i ≤ j → ix os j = ix xs j)) (fun ((i, os, c) : Int × List Int × Int) => (xs.length - i).toNat) ((0), (xs), (0)) ⟨hb2, by omega, rfl, by omega, hO1, by simp [nv], fun _ _ => rfl⟩ (by exact ⟨rfl, rfl, rfl, rfl, rfl, rfl, rfl, trivial⟩) ?_
    rintro ⟨i, os, c⟩ w3 ⟨hb3, hi, hol, hc, hO, hn, hd⟩
    dsimp only at *
    have hz5 := hb3.size
    have hxo := (lim_sl hO.sl).ix i
    have hxb := (lim_sl hb).ix i
    refine w_seq ?_
    refine w_region ?_
    refine st (s_lt rfl rfl ?_)
    refine r_end ?_
    refine n_then ?_
    refine w_seq ?_
    refine w_condP rfl (fun h2 => ?_) (fun h2 => ?_)
    · refine w_skip' ?_
      refine n_then ?_
      refine w_seq ?_
      refine w_block ?_
      refine w_seq ?_
      refine w_region ?_
      refine st (s_move rfl ?_)
      refine st (s_assign rfl ?_)
      refine r_end ?_
      refine n_then ?_
      refine w_seq ?_
      refine w_region ?_
      refine st (s_assign rfl ?_)
      refine r_end ?_
      refine n_then ?_
      refine w_seq ?_
      refine w_seq ?_
      refine w_region ?_
      refine st (s_move rfl ?_)
      refine st (s_move rfl ?_)
      refine st (s_len sl32 rfl (hb.at0 hb3) ?_)
      refine st (s_lt rfl rfl ?_)
      refine r_end ?_
      refine n_then ?_
      refine w_condP rfl (fun h3 => ?_) (fun h3 => ?_)
      · refine w_region ?_
        refine st (s_move rfl ?_)
        refine st (s_move rfl ?_)
        refine st (s_idx sl32 rfl rfl (hb.at0 hb3) (by omega) (by omega) ?_)
        rintro b1 o1 _ ⟨rfl, hr1⟩ hc1 hF1 hlt1
        have hl_1 := Loc.lt hF1
        refine st (s_load one44 rfl hc1 (j := 0) rfl ?_)
        refine st (s_assign rfl ?_)
        refine r_end ?_
        refine n_then ?_
        refine w_region ?_
        refine st (s_move rfl ?_)
        refine st (s_move rfl ?_)
        refine st (s_move rfl ?_)
        refine st (s_move rfl ?_)
        refine st (s_idx sl32 rfl rfl hO.sl (by omega) (by omega) ?_)
        rintro b2 o2 _ ⟨rfl, hr2⟩ hc2 hF2 hlt2
        refine st (s_load one44 rfl hc2 (j := 0) rfl ?_)
        refine st (s_move rfl ?_)
        refine st (s_move rfl ?_)
        refine st (s_call fn73 rfl (sub32_any (by omega) (by omega) (by omega)) ?_)
        rintro _ w4 ⟨hq3, rfl⟩
        have k3 := grown_of_below hq3 none
        have hz6 := hq3.size
        have hb4 := below_g0 hb3 k3
        have hz7 := hb4.size
        have hO3 := hO.g0 k3
        refine st (s_move rfl ?_)
        refine st (s_extract rfl rfl ?_)
        refine st (s_extract rfl rfl ?_)
        refine st (s_oidx sl32 rfl rfl hO3 (by omega) (by first | omega | (simp; done) | (simp; omega)) ?_)
        intro g1 hg1 hl_2 hl_3
        refine st0 (s_ostore one44 rfl rfl rfl rfl hO3 hg1 (by omega) (by first | omega | (simp; done) | (simp; omega)) ⟨rfl, by omega⟩ ?_)
        intro w5 hO4 k4 hs1
        have hb5 := below_g hb4 k4 (by omega)
        refine st (s_assign rfl ?_)
        refine r_end ?_
        refine n_block ?_
        refine n_then ?_
        refine w_region ?_
        refine st (s_add rfl rfl (by omega) ?_)
        refine st (s_move rfl ?_)
        refine r_end ?_
        exact n_round (((i + 1)), (os.set (i).toNat (((ix os i) - (ix ys i) - c) % 4294967296)), ((if (ix os i) < (ix ys i) + c then 1 else 0))) ⟨hb5, by omega, by simp; omega, by dsimp only; split <;> omega, hO4, sub_step hn hi.1 (by omega) (hd i (by omega)) rfl hxo hxb hc, fun j hj => by rw [ix_set_ne hi.1 (by omega) (by omega)]; exact hd j (by omega)⟩ (by omega) (by exact ⟨rfl, rfl, rfl, rfl, rfl, rfl, rfl, trivial⟩)
      · refine w_skip' ?_
        refine n_then ?_
        refine w_region ?_
        refine st (s_move rfl ?_)
        refine st (s_move rfl ?_)
        refine st (s_move rfl ?_)
        refine st (s_move rfl ?_)
        refine st (s_idx sl32 rfl rfl hO.sl (by omega) (by omega) ?_)
        rintro b3 o3 _ ⟨rfl, hr3⟩ hc3 hF3 hlt3
        refine st (s_load one44 rfl hc3 (j := 0) rfl ?_)
        refine st (s_move rfl ?_)
        refine st (s_move rfl ?_)
        refine st (s_call fn73 rfl (sub32_any (by omega) (by omega) (by omega)) ?_)
        rintro _ w6 ⟨hq4, rfl⟩
        have k5 := grown_of_below hq4 none
        have hz8 := hq4.size
        have hb6 := below_g0 hb3 k5
        have hz9 := hb6.size
        have hO5 := hO.g0 k5
        refine st (s_move rfl ?_)
        refine st (s_extract rfl rfl ?_)
        refine st (s_extract rfl rfl ?_)
        refine st (s_oidx sl32 rfl rfl hO5 (by omega) (by first | omega | (simp; done) | (simp; omega)) ?_)
        intro g2 hg2 hl_4 hl_5
        refine st0 (s_ostore one44 rfl rfl rfl rfl hO5 hg2 (by omega) (by first | omega | (simp; done) | (simp; omega)) ⟨rfl, by omega⟩ ?_)
        intro w7 hO6 k6 hs2
        have hb7 := below_g hb6 k6 (by omega)
        refine st (s_assign rfl ?_)
        refine r_end ?_
        refine n_block ?_
        refine n_then ?_
        refine w_region ?_
        refine st (s_add rfl rfl (by omega) ?_)
        refine st (s_move rfl ?_)
        refine r_end ?_
        exact n_round (((i + 1)), (os.set (i).toNat (((ix os i) - (0 : Int) - c) % 4294967296)), ((if (ix os i) < (0 : Int) + c then 1 else 0))) ⟨hb7, by omega, by simp; omega, by dsimp only; split <;> omega, hO6, sub_step hn hi.1 (by omega) (hd i (by omega)) (ix_over (by omega)).symm hxo (by decide) hc, fun j hj => by rw [ix_set_ne hi.1 (by omega) (by omega)]; exact hd j (by omega)⟩ (by omega) (by exact ⟨rfl, rfl, rfl, rfl, rfl, rfl, rfl, trivial⟩)
    · refine w_exit' ?_
      refine n_then_exit ?_
      refine n_then_exit ?_
      refine n_block_exit ?_
      refine n_then ?_
      refine w_seq ?_
      refine w_region ?_
      refine st (s_move rfl ?_)
      refine st (s_call fn74 rfl (cut_any hO.sl) ?_)
      rintro v2 w8 ⟨hq5, hS1⟩
      have k7 := grown_of_below hq5 none
      have hz10 := hq5.size
      have hb8 := below_g0 hb3 k7
      have hz11 := hb8.size
      have hO7 := hO.g0 k7
      have hS2 := hS1.none.g0 k7
      refine st (s_assign rfl ?_)
      refine st (s_assign rfl ?_)
      refine r_end ?_
      refine n_then ?_
      refine w_ret2 rfl rfl rfl ?_
      have hle : nv ys ≤ nv xs := by have := h1; unfold cmpI at this; split at this <;> (try split at this) <;> omega
      have hend := sub_end hn (by omega) hol hc (lim_sl hO.sl) (lim_sl ha) (lim_sl hb) hle
      exact ⟨_, rfl, hb8, _, by rw [decide_eq_true hle], by rw [← hend]; exact hS2⟩

theorem mul_any {w : World} {a : Value} {m c : Int} {xs : List Int} (ha : Sl Kd.u32 w (fun _ => False) a xs) (hm : 0 ≤ m ∧ m < 4294967296) (hc : 0 ≤ c ∧ c < 4294967296) (hla : xs.length ≤ 100000) :
    Calls Try.prog 44 [a, .int .u32 m, .int .u32 c].toArray w (Pure w fun v W => Sl Kd.u32 W (fun _ => False) v (tl (nv xs * m + c))) := by
  have hb0 := Below.refl w.heap.size w
  have hln1 := ha.lenle
  refine enter Try.func44 rfl rfl ?_
  refine w_seq ?_
  refine w_region ?_
  refine st (s_assign rfl ?_)
  refine r_end ?_
  refine n_then ?_
  refine w_seq ?_
  refine w_region ?_
  refine st (s_move rfl ?_)
  refine st (s_len sl32 rfl (ha.at0 hb0) ?_)
  refine st (s_add rfl rfl (by omega) ?_)
  refine st (s_make (K := Kd.u32) (base := w.heap.size) (F := (fun _ => False)) sl32 rfl (by omega) (by omega) (by omega) (fun _ _ => ⟨rfl, by decide⟩) (by omega) (fun _ h => h.elim) ?_)
  intro v1 w1 hO1 k1
  have hb1 := below_g0 hb0 k1
  have hz1 := hb1.size
  refine st (s_assign rfl ?_)
  refine r_end ?_
  refine n_then ?_
  refine w_seq ?_
  refine w_region ?_
  refine st (s_move rfl ?_)
  refine st (s_convk (M := 18446744073709551616) rfl rfl intk44 intk76 rfl (by omega) ?_)
  refine st (s_assign rfl ?_)
  refine r_end ?_
  refine n_then ?_
  refine w_seq ?_
  refine w_seq ?_
  refine w_region ?_
  refine st (s_move rfl ?_)
  refine st (s_len sl32 rfl (ha.at0 hb1) ?_)
  refine st (s_move rfl ?_)
  refine r_end ?_
  refine n_then ?_
  refine w_block ?_
  refine w_loop (α := Int × List Int × Int) (fun ((i, os, k) : Int × List Int × Int) => [(0, a), (1, .int .u32 m), (6, .slice none 0 0), (7, v1), (8, .int .u64 k), (17, a), (18, .int .i64 (xs.length : Int)), (19, .int .i64 i)]) (fun ((i, os, k) : Int × List Int × Int) W => Below w.heap.size w W ∧ (0 ≤ i ∧ i ≤ xs.length) ∧ ((os.length : Int) = xs.length + 1) ∧ (0 ≤ k ∧ k < 4294967296) ∧ (Gw.Own Kd.u32 44 w.heap.size W (fun _ => False) v1 os) ∧ (nv (os.take i.toNat) + PW i.toNat * k = nv (xs.take i.toNat) * m + c)) (fun ((i, os, k) : Int × List Int × Int) => (xs.length - i).toNat) ((0), (List.replicate (((xs.length : Int) + 1)).toNat 0), (c)) ⟨hb1, by omega, by first | (simp; done) | (simp; omega), by omega, hO1, by simp [nv, PW_zero]⟩ (by exact ⟨rfl, rfl, rfl, rfl, rfl, rfl, rfl, rfl, trivial⟩) ?_
  rintro ⟨i, os, k⟩ w2 ⟨hb2, hi, hol, hk, hO, hn⟩
  dsimp only at *
  have hz2 := hb2.size
  have hxa := (lim_sl ha).ix i
  have hmb := mul_bd hxa hm
  refine w_seq ?_
  refine w_region ?_
  refine st (s_lt rfl rfl ?_)
  refine r_end ?_
  refine n_then ?_
  refine w_seq ?_
  refine w_condP rfl (fun h1 => ?_) (fun h1 => ?_)
  · refine w_skip' ?_
    refine n_then ?_
    refine w_seq ?_
    refine w_block ?_
    refine w_seq ?_
    refine w_region ?_
    refine st (s_move rfl ?_)
    refine st (s_idx sl32 rfl rfl (ha.at0 hb2) (by omega) (by omega) ?_)
    rintro b1 o1 _ ⟨rfl, hr1⟩ hc1 hF1 hlt1
    have hl_1 := Loc.lt hF1
    refine st (s_load one44 rfl hc1 (j := 0) rfl ?_)
    refine st (s_assign rfl ?_)
    refine st (s_assign rfl ?_)
    refine r_end ?_
    refine n_then ?_
    refine w_seq ?_
    refine w_region ?_
    refine st (s_move rfl ?_)
    refine st (s_move rfl ?_)
    refine st (s_convk (M := 18446744073709551616) rfl rfl intk44 intk76 rfl (by omega) ?_)
    refine st (s_move rfl ?_)
    refine st (s_convk (M := 18446744073709551616) rfl rfl intk44 intk76 rfl (by omega) ?_)
    refine st (s_mulk (M := 18446744073709551616) rfl rfl rfl rfl (by omega) ?_)
    refine st (s_addk (M := 18446744073709551616) rfl rfl rfl rfl (by omega) ?_)
    refine st (s_assign rfl ?_)
    refine r_end ?_
    refine n_then ?_
    refine w_seq ?_
    refine w_region ?_
    refine st (s_move rfl ?_)
    refine st (s_move rfl ?_)
    refine st (s_move rfl ?_)
    refine st (s_convm (M := 4294967296) rfl rfl intk76 intk44 rfl ?_)
    refine st (s_oidx sl32 rfl rfl hO (by omega) (by first | omega | (simp; done) | (simp; omega)) ?_)
    intro g1 hg1 hl_2 hl_3
    refine st0 (s_ostore one44 rfl rfl rfl rfl hO hg1 (by omega) (by first | omega | (simp; done) | (simp; omega)) ⟨rfl, by omega⟩ ?_)
    intro w3 hO2 k2 hs1
    have hb3 := below_g hb2 k2 (by omega)
    refine r_end ?_
    refine n_then ?_
    refine w_region ?_
    refine st (s_move rfl ?_)
    refine st (s_shrk (p := 4294967296) rfl rfl (by decide) (by decide) ?_)
    refine st (s_assign rfl ?_)
    refine r_end ?_
    refine n_block ?_
    refine n_then ?_
    refine w_region ?_
    refine st (s_add rfl rfl (by omega) ?_)
    refine st (s_move rfl ?_)
    refine r_end ?_
    exact n_round (((i + 1)), (os.set (i).toNat ((k + ((ix xs i) * m)) % 4294967296)), (((k + ((ix xs i) * m)) / 4294967296))) ⟨hb3, by omega, by simp; omega, by dsimp only; omega, hO2, mul_step hn hi.1 (by omega)⟩ (by omega) (by exact ⟨rfl, rfl, rfl, rfl, rfl, rfl, rfl, rfl, trivial⟩)
  · refine w_exit' ?_
    refine n_then_exit ?_
    refine n_then_exit ?_
    refine n_block_exit ?_
    refine n_then ?_
    refine w_seq ?_
    refine w_region ?_
    refine st (s_move rfl ?_)
    refine st (s_move rfl ?_)
    refine st (s_len sl32 rfl (ha.at0 hb2) ?_)
    refine st (s_move rfl ?_)
    refine st (s_convm (M := 4294967296) rfl rfl intk76 intk44 rfl ?_)
    refine st (s_oidx sl32 rfl rfl hO (by omega) (by first | omega | (simp; done) | (simp; omega)) ?_)
    intro g2 hg2 hl_4 hl_5
    refine st0 (s_ostore one44 rfl rfl rfl rfl hO hg2 (by omega) (by first | omega | (simp; done) | (simp; omega)) ⟨rfl, by omega⟩ ?_)
    intro w4 hO3 k3 hs2
    have hb4 := below_g hb2 k3 (by omega)
    refine r_end ?_
    refine n_then ?_
    refine w_seq ?_
    refine w_region ?_
    refine st (s_move rfl ?_)
    refine st (s_call fn74 rfl (cut_any hO3.sl) ?_)
    rintro v2 w5 ⟨hq1, hS1⟩
    have k4 := grown_of_below hq1 none
    have hz3 := hq1.size
    have hb5 := below_g0 hb4 k4
    have hz4 := hb5.size
    have hO4 := hO3.g0 k4
    have hS2 := hS1.none.g0 k4
    refine st (s_assign rfl ?_)
    refine r_end ?_
    refine n_then ?_
    refine w_ret1 rfl rfl ?_
    have hend := mul_end hn hi.1 (by omega) (by omega)
    refine ⟨_, rfl, hb5, ?_⟩
    rw [← hend]
    rw [show k % 4294967296 = k by omega] at *
    exact hS2

theorem fits_any {w : World} {n : Int} :
    Calls Try.prog 80 [.int .i64 n].toArray w (Pure w fun v _ => v = .bool (fitB n)) := by
  have hb0 := Below.refl w.heap.size w
  refine enter Try.func80 rfl rfl ?_
  refine w_seq ?_
  refine w_region ?_
  refine st (s_assign rfl ?_)
  refine r_end ?_
  refine n_then ?_
  refine w_seq ?_
  refine w_region ?_
  refine st (s_move rfl ?_)
  refine st (s_ge rfl rfl ?_)
  refine st (s_move rfl ?_)
  refine r_caseP 5 rfl (fun h1 => ?_) (fun h1 => ?_)
  · refine stg (s_move rfl ?_)
    refine stg (s_le rfl rfl ?_)
    refine st (s_pick rfl rfl ?_)
    refine st (s_assign rfl ?_)
    refine r_end ?_
    refine n_then ?_
    refine w_ret1 rfl rfl ?_
    exact ⟨_, rfl, hb0, by unfold fitB; rw [decide_eq_true h1]; rfl⟩
  · refine s_pass rfl rfl ?_
    refine s_pass rfl rfl ?_
    refine st (s_pick rfl rfl ?_)
    refine st (s_assign rfl ?_)
    refine r_end ?_
    refine n_then ?_
    refine w_ret1 rfl rfl ?_
    exact ⟨_, rfl, hb0, by unfold fitB; rw [decide_eq_false h1]; rfl⟩

theorem shr_any {w : World} {a : Value} {n : Int} {xs : List Int} (ha : Sl Kd.u32 w (fun _ => False) a xs) (hla : xs.length ≤ 100000) :
    Calls Try.prog 32 [a, .int .i64 n].toArray w (Pure w fun v W => Sl Kd.u32 W (fun _ => False) v (shrL xs n)) := by
  have hb0 := Below.refl w.heap.size w
  have hln1 := ha.lenle
  refine enter Try.func32 rfl rfl ?_
  refine w_seq ?_
  refine w_region ?_
  refine st (s_assign rfl ?_)
  refine r_end ?_
  refine n_then ?_
  refine w_seq ?_
  refine w_seq ?_
  refine w_region ?_
  refine st (s_move rfl ?_)
  refine st (s_call fn80 rfl (fits_any) ?_)
  rintro _ w1 ⟨hq1, rfl⟩
  have k1 := grown_of_below hq1 none
  have hz1 := hq1.size
  have hb1 := below_g0 hb0 k1
  have hz2 := hb1.size
  refine st (s_not rfl ?_)
  refine st (s_move rfl ?_)
  refine r_case 11 rfl (fun h1 => ?_) (fun h1 => ?_)
  · have hft : fitB n = false := by simpa using h1
    refine s_pass rfl rfl ?_
    refine s_pass rfl rfl ?_
    refine s_pass rfl rfl ?_
    refine s_pass rfl rfl ?_
    refine s_pass rfl rfl ?_
    refine st (s_pick rfl rfl ?_)
    refine r_end ?_
    refine n_then ?_
    refine w_condT rfl ?_
    refine w_seq ?_
    refine w_region ?_
    refine st (s_assign rfl ?_)
    refine r_end ?_
    refine n_then ?_
    refine w_ret1 rfl rfl ?_
    exact ⟨_, rfl, hb1, by unfold shrL; rw [if_neg (by rw [hft]; decide)]; exact (Own.nil Kd.u32 44 w.heap.size _ (fun _ => False)).sl⟩
  · have hft : fitB n = true := by simpa using h1
    have hnb : 0 ≤ n ∧ n ≤ 10000 := by simpa [fitB] using hft
    refine stg (s_move rfl ?_)
    refine stg (s_quoi rfl rfl (by omega) (by omega) ?_)
    refine stg (s_move rfl ?_)
    refine stg (s_len sl32 rfl (ha.at0 hb1) ?_)
    refine stg (s_ge rfl rfl ?_)
    refine st (s_pick rfl rfl ?_)
    refine r_end ?_
    refine n_then ?_
    refine w_condP rfl (fun h2 => ?_) (fun h2 => ?_)
    · refine w_seq ?_
      refine w_region ?_
      refine st (s_assign rfl ?_)
      refine r_end ?_
      refine n_then ?_
      refine w_ret1 rfl rfl ?_
      exact ⟨_, rfl, hb1, by unfold shrL; rw [if_pos hft, shr_over (lim_sl ha) hnb.1 (by omega)]; exact (Own.nil Kd.u32 44 w.heap.size _ (fun _ => False)).sl⟩
    · refine w_skip' ?_
      refine n_then ?_
      refine w_seq ?_
      refine w_region ?_
      refine st (s_move rfl ?_)
      refine st (s_move rfl ?_)
      refine st (s_quoi rfl rfl (by omega) (by omega) ?_)
      refine st (s_sllo sl32 rfl rfl (ha.at0 hb1) (by first | omega | (simp; omega)) (by first | omega | (simp; omega)) ?_)
      intro v1 hS1
      refine st (s_call fn72 rfl (clone_any (hS1).none (by first | omega | (simp; done) | (simp; omega))) ?_)
      rintro v2 w2 ⟨hq2, hO2⟩
      have k2 := grown_of_below hq2 none
      have hz3 := hq2.size
      have hb2 := below_g0 hb1 k2
      have hz4 := hb2.size
      have hO1 := hO2.rebase (b' := w.heap.size) (by omega)
      refine st (s_assign rfl ?_)
      refine r_end ?_
      refine n_then ?_
      refine w_seq ?_
      refine w_seq ?_
      refine w_region ?_
      refine st (s_move rfl ?_)
      refine st (s_len sl32 rfl hO1.sl ?_)
      refine st (s_move rfl ?_)
      refine r_end ?_
      refine n_then ?_
      refine w_block ?_
      refine w_loop (α := Int × List Int) (fun ((i, os) : Int × List Int) => [(1, .int .i64 n), (4, .slice none 0 0), (5, v2), (24, .int .i64 ((xs.drop ((n / 32)).toNat).length : Int)), (25, .int .i64 i)]) (fun ((i, os) : Int × List Int) W => Below w.heap.size w W ∧ (0 ≤ i ∧ i ≤ (xs.drop (n / 32).toNat).length) ∧ (os.length = (xs.drop (n / 32).toNat).length) ∧ (Gw.Own Kd.u32 44 w.heap.size W (fun _ => False) v2 os) ∧ (nv (os.take i.toNat) + PW i.toNat * (nv ((xs.drop (n / 32).toNat).drop i.toNat) / 2 ^ (n % 32).toNat) = nv (xs.drop (n / 32).toNat) / 2 ^ (n % 32).toNat) ∧ (∀ j : Int, i ≤ j → ix os j = ix (xs.drop (n / 32).toNat) j)) (fun ((i, os) : Int × List Int) => ((xs.drop (n / 32).toNat).length - i).toNat) ((0), ((xs.drop ((n / 32)).toNat))) ⟨hb2, by omega, rfl, hO1, by simp [nv, PW_zero], fun _ _ => rfl⟩ (by exact ⟨rfl, rfl, rfl, rfl, rfl, trivial⟩) ?_
      rintro ⟨i, os⟩ w3 ⟨hb3, hi, hol, hO, hn, hd⟩
      dsimp only at *
      have hz5 := hb3.size
      have hxo := (lim_sl hO.sl).ix i
      have hxo2 := (lim_sl hO.sl).ix (i + 1)
      have hdl : (xs.drop (n / 32).toNat).length ≤ 100000 := by rw [List.length_drop]; omega
      refine w_seq ?_
      refine w_region ?_
      refine st (s_lt rfl rfl ?_)
      refine r_end ?_
      refine n_then ?_
      refine w_seq ?_
      refine w_condP rfl (fun h3 => ?_) (fun h3 => ?_)
      · refine w_skip' ?_
        refine n_then ?_
        refine w_seq ?_
        refine w_block ?_
        refine w_seq ?_
        refine w_region ?_
        refine st (s_move rfl ?_)
        refine st (s_assign rfl ?_)
        refine r_end ?_
        refine n_then ?_
        refine w_seq ?_
        refine w_region ?_
        refine st (s_assign rfl ?_)
        refine r_end ?_
        refine n_then ?_
        refine w_seq ?_
        refine w_seq ?_
        refine w_region ?_
        refine st (s_move rfl ?_)
        refine st (s_add rfl rfl (by omega) ?_)
        refine st (s_move rfl ?_)
        refine st (s_len sl32 rfl hO.sl ?_)
        refine st (s_lt rfl rfl ?_)
        refine r_end ?_
        refine n_then ?_
        refine w_condP rfl (fun h4 => ?_) (fun h4 => ?_)
        · refine w_region ?_
          refine st (s_move rfl ?_)
          refine st (s_move rfl ?_)
          refine st (s_add rfl rfl (by omega) ?_)
          refine st (s_idx sl32 rfl rfl hO.sl (by omega) (by omega) ?_)
          rintro b1 o1 _ ⟨rfl, hr1⟩ hc1 hF1 hlt1
          refine st (s_load one44 rfl hc1 (j := 0) rfl ?_)
          refine st (s_assign rfl ?_)
          refine r_end ?_
          refine n_then ?_
          refine w_region ?_
          refine st (s_move rfl ?_)
          refine st (s_move rfl ?_)
          refine st (s_move rfl ?_)
          refine st (s_convk (M := 18446744073709551616) rfl rfl intk44 intk76 rfl (by omega) ?_)
          refine st (s_shlk (M := 18446744073709551616) (p := 4294967296) rfl rfl rfl rfl (by decide) (by decide) ?_)
          refine st (s_move rfl ?_)
          refine st (s_move rfl ?_)
          refine st (s_idx sl32 rfl rfl hO.sl (by omega) (by omega) ?_)
          rintro b2 o2 _ ⟨rfl, hr2⟩ hc2 hF2 hlt2
          refine st (s_load one44 rfl hc2 (j := 0) rfl ?_)
          refine st (s_convk (M := 18446744073709551616) rfl rfl intk44 intk76 rfl (by omega) ?_)
          refine st (s_or (M := 18446744073709551616) rfl rfl rfl rfl (by omega) (by omega) ?_)
          refine st (s_move rfl ?_)
          refine st (s_remk rfl rfl (by omega) (by omega) ?_)
          refine st (s_shrk (p := (2 ^ ((n % 32)).toNat)) rfl rfl (by omega) (by rw [Nat.min_eq_left (by show ((n % 32)).toNat ≤ 64; omega)]) ?_)
          refine st (s_convm (M := 4294967296) rfl rfl intk76 intk44 rfl ?_)
          refine st (s_oidx sl32 rfl rfl hO (by omega) (by first | omega | (simp; done) | (simp; omega)) ?_)
          intro g1 hg1 hl_1 hl_2
          refine st0 (s_ostore one44 rfl rfl rfl rfl hO hg1 (by omega) (by first | omega | (simp; done) | (simp; omega)) ⟨rfl, by omega⟩ ?_)
          intro w4 hO3 k3 hs1
          have hb4 := below_g hb3 k3 (by omega)
          refine r_end ?_
          refine n_block ?_
          refine n_then ?_
          refine w_region ?_
          refine st (s_add rfl rfl (by omega) ?_)
          refine st (s_move rfl ?_)
          refine r_end ?_
          exact n_round (((i + 1)), (os.set (i).toNat (((ior (((ix os (i + 1)) * 4294967296) % 18446744073709551616) (ix os i)) / (2 ^ ((n % 32)).toNat)) % 4294967296))) ⟨hb4, by omega, by rw [List.length_set]; exact hol, hO3, shr_step (lim_sl ha |>.drop _) hn hi.1 (by omega) hol (two_pos _) (two_part (by omega) (by omega)) (hd i (by omega)) (hd (i + 1) (by omega)), fun j hj => by rw [ix_set_ne hi.1 (by omega) (by omega)]; exact hd j (by omega)⟩ (by omega) (by exact ⟨rfl, rfl, rfl, rfl, rfl, trivial⟩)
        · refine w_skip' ?_
          refine n_then ?_
          refine w_region ?_
          refine st (s_move rfl ?_)
          refine st (s_move rfl ?_)
          refine st (s_move rfl ?_)
          refine st (s_convk (M := 18446744073709551616) rfl rfl intk44 intk76 rfl (by omega) ?_)
          refine st (s_shlk (M := 18446744073709551616) (p := 4294967296) rfl rfl rfl rfl (by decide) (by decide) ?_)
          refine st (s_move rfl ?_)
          refine st (s_move rfl ?_)
          refine st (s_idx sl32 rfl rfl hO.sl (by omega) (by omega) ?_)
          rintro b3 o3 _ ⟨rfl, hr3⟩ hc3 hF3 hlt3
          refine st (s_load one44 rfl hc3 (j := 0) rfl ?_)
          refine st (s_convk (M := 18446744073709551616) rfl rfl intk44 intk76 rfl (by omega) ?_)
          refine st (s_or (M := 18446744073709551616) rfl rfl rfl rfl (by omega) (by omega) ?_)
          refine st (s_move rfl ?_)
          refine st (s_remk rfl rfl (by omega) (by omega) ?_)
          refine st (s_shrk (p := (2 ^ ((n % 32)).toNat)) rfl rfl (by omega) (by rw [Nat.min_eq_left (by show ((n % 32)).toNat ≤ 64; omega)]) ?_)
          refine st (s_convm (M := 4294967296) rfl rfl intk76 intk44 rfl ?_)
          refine st (s_oidx sl32 rfl rfl hO (by omega) (by first | omega | (simp; done) | (simp; omega)) ?_)
          intro g2 hg2 hl_3 hl_4
          refine st0 (s_ostore one44 rfl rfl rfl rfl hO hg2 (by omega) (by first | omega | (simp; done) | (simp; omega)) ⟨rfl, by omega⟩ ?_)
          intro w5 hO4 k4 hs2
          have hb5 := below_g hb3 k4 (by omega)
          refine r_end ?_
          refine n_block ?_
          refine n_then ?_
          refine w_region ?_
          refine st (s_add rfl rfl (by omega) ?_)
          refine st (s_move rfl ?_)
          refine r_end ?_
          exact n_round (((i + 1)), (os.set (i).toNat (((ior ((0 * 4294967296) % 18446744073709551616) (ix os i)) / (2 ^ ((n % 32)).toNat)) % 4294967296))) ⟨hb5, by omega, by rw [List.length_set]; exact hol, hO4, shr_step (lim_sl ha |>.drop _) hn hi.1 (by omega) hol (two_pos _) (two_part (by omega) (by omega)) (hd i (by omega)) (ix_over (by omega)).symm, fun j hj => by rw [ix_set_ne hi.1 (by omega) (by omega)]; exact hd j (by omega)⟩ (by omega) (by exact ⟨rfl, rfl, rfl, rfl, rfl, trivial⟩)
      · refine w_exit' ?_
        refine n_then_exit ?_
        refine n_then_exit ?_
        refine n_block_exit ?_
        refine n_then ?_
        refine w_seq ?_
        refine w_region ?_
        refine st (s_move rfl ?_)
        refine st (s_call fn74 rfl (cut_any hO.sl) ?_)
        rintro v3 w6 ⟨hq3, hS2⟩
        have k5 := grown_of_below hq3 none
        have hz6 := hq3.size
        have hb6 := below_g0 hb3 k5
        have hz7 := hb6.size
        have hO5 := hO.g0 k5
        have hS3 := hS2.none.g0 k5
        refine st (s_assign rfl ?_)
        refine r_end ?_
        refine n_then ?_
        refine w_ret1 rfl rfl ?_
        have hend := shr_end hn (by omega) hol
        exact ⟨_, rfl, hb6, by unfold shrL; rw [if_pos hft, ← nv_shr (lim_sl ha) hnb.1 (by omega), ← hend]; exact hS3⟩
end Go.Proofs.Ytencmmhfiepojaa
