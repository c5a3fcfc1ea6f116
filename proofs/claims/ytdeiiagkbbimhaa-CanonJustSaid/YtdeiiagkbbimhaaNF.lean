/- Part of the proof that is named in YtdeiiagkbbimhaaNRowCanJust: a library for walks, or a function's walk. -/
import Derived.Test.YtdeiiagkbbimhaaNE
set_option maxRecDepth 20000
set_option linter.unusedSimpArgs false
set_option linter.unusedVariables false
namespace Go.Proofs.Ytdeiiagkbbimhaa
open Go.RowKit Go.Gw
theorem through_any {a : World} {g : Nat} {va vm : Value} {l : List Nd} {F : Nat → Prop} (hl : Sl Kd.node a F va l) (hl_ok : looseB l = true) (hll : l.length ≤ 1000000) (hga : a.heap.size ≤ g) :
    ∀ (f : Nat) {w : World} {vo : Value} {E : List Int} {M : List Bool} {n : Int}, n ≤ f → 1 ≤ n → n ≤ l.length → Below a.heap.size a w → Blk w g 66 [va, vm, vo].toArray → Own Kd.bool 4 a.heap.size w (fun _ => False) vm M → Own (Kd.num .i64) 3 a.heap.size w (fun _ => False) vo E →
    M.length = l.length + 1 → Met M E n → E.length ≤ M.count true → Calls Try.prog 41 [.pointer (some ⟨g, 0, none⟩), .int .i64 n].toArray w (Ret fun _ w' => ∃ vo' M', Below a.heap.size a w' ∧ Blk w' g 66 [va, vm, vo'].toArray ∧ Own Kd.bool 4 a.heap.size w' (fun _ => False) vm M' ∧
      Own (Kd.num .i64) 3 a.heap.size w' (fun _ => False) vo' (endF l f n E) ∧ M'.length = M.length ∧ (endF l f n E).length + M.count true ≤ M'.count true + E.length ∧ (∀ m : Int, n < m → ix M' m = ix M m) ∧ Met M' (endF l f n E) n) := by
  intro f
  induction f with
  | zero => intro w vo E M n h1 h2; omega
  | succ f ih =>
    intro w vo E M n hnf hn0 hn1 hb0 hB hM hE hMl hmet hcnt
    have hnf2 : n ≤ (f : Int) + 1 := by omega
    have hgl := hB.lt
    have hz0 := hb0.size
    refine enter Try.func41 rfl rfl ?_
    refine w_seq ?_
    refine w_seq ?_
    refine w_region ?_
    refine st (s_move rfl ?_)
    refine st (s_nilp rfl ?_)
    refine st (s_faddr fld66_1 rfl ?_)
    refine st (s_load one43 rfl hB.range (j := 1) rfl ?_)
    refine st (s_move rfl ?_)
    refine st (s_idx sl43 rfl rfl hM.sl (by omega) (by omega) ?_)
    rintro b1 o1 _ ⟨rfl, _⟩ hc1 hF1 hlt1
    refine st (s_load one4 rfl hc1 (j := 0) rfl ?_)
    refine r_end ?_
    refine n_then ?_
    refine w_cond rfl (fun h1 => ?_) (fun h1 => ?_)
    · refine w_ret0 (fn := Try.f41) rfl ?_
      refine ⟨_, rfl, vo, M, hb0, hB, hM, ?_, rfl, by rw [endF_in (met_yes hmet hn0 h1)]; omega, fun _ _ => rfl, ?_⟩
      · rw [endF_in (met_yes hmet hn0 h1)]; exact hE
      · rw [endF_in (met_yes hmet hn0 h1)]; exact hmet
    · have hS := mid_set hn0 (by omega) hmet h1
      have hno := met_no hmet hn0 h1
      refine w_skip' ?_
      refine n_then ?_
      refine w_seq ?_
      refine w_region ?_
      refine st (s_move rfl ?_)
      refine st (s_nilp rfl ?_)
      refine st (s_faddr fld66_1 rfl ?_)
      refine st (s_load one43 rfl hB.range (j := 1) rfl ?_)
      refine st (s_move rfl ?_)
      refine st (s_oidx sl43 rfl rfl hM (by omega) (by omega) ?_)
      intro g1 hg1 hl_1 hl_2
      refine st0 (s_ostore one4 rfl rfl rfl rfl hM hg1 (by omega) (by omega) ⟨rfl, trivial⟩ ?_)
      intro w1 hO1 k1 hs1
      have hb1 := below_g hb0 k1 (by omega)
      have hO2 := Own.keptF (num_flat _) hE k1 (by rw [← hg1]; exact hE.ne_own hM (by decide))
      refine r_end ?_
      refine n_then ?_
      refine w_seq ?_
      refine w_seq ?_
      refine w_region ?_
      refine st (s_move rfl ?_)
      refine st (s_nilp rfl ?_)
      refine st (s_faddr fld66_0 rfl ?_)
      refine st (s_load one22 rfl (hB.gne k1 (hM.blk_ne hB (by decide) hg1)).range (j := 0) rfl ?_)
      refine st (s_move rfl ?_)
      refine st (s_sub rfl rfl (by omega) ?_)
      refine st (s_idx sl22 rfl rfl (hl.at0 hb1) (by omega) (by omega) ?_)
      rintro b2 o2 _ ⟨rfl, _⟩ hc2 hF2 hlt2
      have hl_3 := Loc.lt hF2
      refine st (s_loadW row35 rfl hc2 rfl ?_)
      refine st (s_alloc zero35 ?_)
      intro g2 w2 hg2 hB1 k2 hs2
      have hb2 := below_g0 hb1 k2
      have hO3 := hO1.g0 k2
      have hO4 := hO2.g0 k2
      refine st0 (s_storeN row35 rfl rfl hB1 rfl rfl rfl ?_)
      intro w3 hB2 k3 hs3
      have hb3 := below_g hb2 k3 (by omega)
      have hO5 := Own.keptF bool_flat hO3 k3 (hO3.ne_blk hB1 (by decide))
      have hO6 := Own.keptF (num_flat _) hO4 k3 (hO4.ne_blk hB1 (by decide))
      clear hB1
      refine r_end ?_
      refine n_then ?_
      refine w_seq ?_
      refine w_region ?_
      refine st (s_faddr fld35_0 rfl ?_)
      refine st (s_load one3 rfl hB2.range (j := 0) rfl ?_)
      refine st (s_gt rfl rfl ?_)
      refine r_end ?_
      refine n_then ?_
      refine w_condP rfl (fun h2 => ?_) (fun h2 => ?_)
      · have hkin := fun k k0 k1 e => kid_in hl_ok (i := n - 1) (k := k) (by omega) (by omega) k0 k1 (by omega) e
        refine w_seq ?_
        refine w_region ?_
        refine st (s_faddr fld35_1 rfl ?_)
        refine st (s_loadN (us := [.int .i64 ((ix l (n - 1)).k0), .int .i64 ((ix l (n - 1)).k1), .int .i64 ((ix l (n - 1)).k2), .int .i64 ((ix l (n - 1)).k3)]) row33 rfl hB2.range (j := 1) rfl rfl ?_)
        refine st (s_move rfl ?_)
        refine r_end ?_
        refine n_then ?_
        refine w_block ?_
        refine w_loop (α := Int × List Int × List Bool × Value) (fun ((k, Ek, Mk, vk) : Int × List Int × List Bool × Value) => [(0, .pointer (some ⟨g, 0, none⟩)), (1, .int .i64 n), (32, .agg [.int .i64 ((ix l (n - 1)).k0), .int .i64 ((ix l (n - 1)).k1), .int .i64 ((ix l (n - 1)).k2), .int .i64 ((ix l (n - 1)).k3)].toArray), (33, .int .i64 k)]) (fun ((k, Ek, Mk, vk) : Int × List Int × List Bool × Value) W => Below a.heap.size a W ∧ (0 ≤ k ∧ k ≤ 4) ∧ (Ek = endK l f (ix l (n - 1)) E k) ∧ (Blk W g 66 [va, vm, vk].toArray) ∧ (Own Kd.bool 4 a.heap.size W (fun _ => False) vm Mk) ∧ (Own (Kd.num .i64) 3 a.heap.size W (fun _ => False) vk Ek) ∧ (Walked M Mk E Ek n)) (fun ((k, Ek, Mk, vk) : Int × List Int × List Bool × Value) => (4 - k).toNat) ((0), (E), (M.set (n).toNat true), (vo)) ⟨hb3, by omega, rfl, (((hB.gne k1 (hM.blk_ne hB (by decide) hg1)).g0 k2).gne k3 (by omega)), hO5, hO6, hS⟩ (by exact ⟨rfl, rfl, rfl, rfl, trivial⟩) ?_
        rintro ⟨k, Ek, Mk, vk⟩ w4 ⟨hb4, hk, hEe, hBk, hMk, hEk, hW⟩
        dsimp only at *
        have hz1 := hb4.size
        refine w_seq ?_
        refine w_region ?_
        refine st (s_lt rfl rfl ?_)
        refine r_end ?_
        refine n_then ?_
        refine w_seq ?_
        refine w_condP rfl (fun h3 => ?_) (fun h3 => ?_)
        · refine w_skip' ?_
          refine n_then ?_
          refine w_seq ?_
          refine w_block ?_
          refine w_seq ?_
          refine w_region ?_
          refine st (s_iarr4 arr33 one3 rfl rfl (by omega) (by omega) ?_)
          refine st (s_assign rfl ?_)
          refine r_end ?_
          refine n_then ?_
          refine w_seq ?_
          refine w_region ?_
          refine st (s_move rfl ?_)
          refine st (s_gt rfl rfl ?_)
          refine r_end ?_
          refine n_then ?_
          refine w_condP rfl (fun h4 => ?_) (fun h4 => ?_)
          · have hkid := hkin k hk.1 (by omega) (by unfold Nd.kid; omega)
            unfold Nd.kid at hkid
            refine w_region ?_
            refine st (s_move rfl ?_)
            refine st (s_move rfl ?_)
            refine st (s_call fn41 rfl (ih (n := (sel4 ((ix l (n - 1)).k0) ((ix l (n - 1)).k1) ((ix l (n - 1)).k2) ((ix l (n - 1)).k3) k)) (by omega) (by omega) (by omega) hb4 hBk hMk hEk (by have := hW.len; omega) (mid_met hW (by omega)) (by have := hW.cnt; omega)) ?_)
            rintro _ w5 ⟨ve1, M1, hb5, hB3, hO7, hO8, hp1, hp2, hp3, hp4⟩
            have hz2 := hb5.size
            have hW2 := mid_call hl_ok (c := (sel4 ((ix l (n - 1)).k0) ((ix l (n - 1)).k1) ((ix l (n - 1)).k2) ((ix l (n - 1)).k3) k)) hW (by omega) (by omega) (by omega) hp4 hp3 hp1 hp2
            refine r_end ?_
            refine n_block ?_
            refine n_then ?_
            refine w_region ?_
            refine st (s_add rfl rfl (by omega) ?_)
            refine st (s_move rfl ?_)
            refine r_end ?_
            exact n_round (((k + 1)), ((endF l f ((sel4 ((ix l (n - 1)).k0) ((ix l (n - 1)).k1) ((ix l (n - 1)).k2) ((ix l (n - 1)).k3) k)) Ek)), ((M1)), (ve1)) ⟨hb5, by omega, by rw [hEe]; exact (endK_yes hk.1 (by omega) (by simpa [Nd.kid] using h4)).symm, hB3, hO7, hO8, hW2⟩ (by omega) (by exact ⟨rfl, rfl, rfl, rfl, trivial⟩)
          · refine w_skip' ?_
            refine n_block ?_
            refine n_then ?_
            refine w_region ?_
            refine st (s_add rfl rfl (by omega) ?_)
            refine st (s_move rfl ?_)
            refine r_end ?_
            exact n_round (((k + 1)), ((Ek)), ((Mk)), (vk)) ⟨hb4, by omega, by rw [hEe]; exact (endK_no hk.1 (by omega) (by simpa [Nd.kid] using h4)).symm, hBk, hMk, hEk, hW⟩ (by omega) (by exact ⟨rfl, rfl, rfl, rfl, trivial⟩)
        · refine w_exit' ?_
          refine n_then_exit ?_
          refine n_then_exit ?_
          refine n_block_exit ?_
          refine n_then ?_
          refine w_region ?_
          refine st (s_move rfl ?_)
          refine st (s_move rfl ?_)
          refine st (s_nilp rfl ?_)
          refine st (s_faddr fld66_2 rfl ?_)
          refine st (s_load one46 rfl hBk.range (j := 2) rfl ?_)
          refine st (s_move rfl ?_)
          refine st (s_bslice (ps := [(0, .tmp 47)]) (ccs := [#[.int .i64 n]]) (e := 3) (cells := [.int .i64 n]) rfl rfl (by kernel_rfl) (by decide) nz3 ?_)
          intro g3 w6 hg3 hB4 k5 hs4
          have hb6 := below_g0 hb4 k5
          have hz3 := hb6.size
          have hO9 := hMk.g0 k5
          have hO10 := hEk.g0 k5
          refine st (s_append (K := (Kd.num .i64)) sl46 rfl rfl hO10 (lit_num hB4 hEk (fun h => h) hg3) (num_ones _) (by first | (have := mid_len hW hcnt; simp; omega) | (have := mid_len hS hcnt; simp; omega)) (by first | (have := mid_len hW hcnt; simp; omega) | (have := mid_len hS hcnt; simp; omega)) (by first | exact Nat.le_refl _ | omega) (fun _ h => h.elim) ?_)
          intro v1 w7 hO11 k6 hr3
          have hb7 := hb6.grown k6 hb6.size (fun k_ hk_ => (hO10.lt k_ hk_).1)
          have hz4 := hb7.size
          have hO12 := Own.keptF bool_flat hO9 k6 (hO9.ne_own hO10 (by decide))
          refine st (s_nilp rfl ?_)
          refine st (s_faddr fld66_2 rfl ?_)
          refine st0 (s_store one46 rfl rfl (hO11.one) ((hBk.g0 k5).grown k6 (fun e => by have := hO10.ne_blk (hBk.g0 k5) (by decide); simp_all)) (of_decide_eq_true rfl) ?_)
          intro w8 hB5 k7 hs5
          have hb8 := below_g hb7 k7 (by omega)
          have hO13 := Own.keptF bool_flat hO12 k7 (hO12.ne_blk ((hBk.g0 k5).grown k6 (fun e => by have := hO10.ne_blk (hBk.g0 k5) (by decide); simp_all)) (by decide))
          have hO14 := Own.keptF (num_flat _) hO11 k7 (hO11.ne_blk ((hBk.g0 k5).grown k6 (fun e => by have := hO10.ne_blk (hBk.g0 k5) (by decide); simp_all)) (by decide))
          refine r_end ?_
          refine n_end0 (fn := Try.f41) rfl ?_
          have e4 : k = 4 := by omega
          subst e4
          have hend : endF l (f + 1) n E = Ek ++ [n] := by rw [endF_out hno (by simpa using h2), hEe]
          refine ⟨_, rfl, _, _, hb8, hB5, hO13, ?_, hW.len, ?_, hW.high, ?_⟩
          · rw [hend]; exact hO14
          · rw [hend]; have := hW.cnt; simp; omega
          · rw [hend]; exact mid_end hW
      · refine w_skip' ?_
        refine n_then ?_
        refine w_region ?_
        refine st (s_move rfl ?_)
        refine st (s_move rfl ?_)
        refine st (s_nilp rfl ?_)
        refine st (s_faddr fld66_2 rfl ?_)
        refine st (s_load one46 rfl (((hB.gne k1 (hM.blk_ne hB (by decide) hg1)).g0 k2).gne k3 (by omega)).range (j := 2) rfl ?_)
        refine st (s_move rfl ?_)
        refine st (s_bslice (ps := [(0, .tmp 47)]) (ccs := [#[.int .i64 n]]) (e := 3) (cells := [.int .i64 n]) rfl rfl (by kernel_rfl) (by decide) nz3 ?_)
        intro g4 w9 hg4 hB6 k8 hs6
        have hb9 := below_g0 hb3 k8
        have hz5 := hb9.size
        have hO15 := hO5.g0 k8
        have hO16 := hO6.g0 k8
        refine st (s_append (K := (Kd.num .i64)) sl46 rfl rfl hO16 (lit_num hB6 hO6 (fun h => h) hg4) (num_ones _) (by first | (have := mid_len hW hcnt; simp; omega) | (have := mid_len hS hcnt; simp; omega)) (by first | (have := mid_len hW hcnt; simp; omega) | (have := mid_len hS hcnt; simp; omega)) (by first | exact Nat.le_refl _ | omega) (fun _ h => h.elim) ?_)
        intro v2 w10 hO17 k9 hr4
        have hb10 := hb9.grown k9 hb9.size (fun k_ hk_ => (hO16.lt k_ hk_).1)
        have hz6 := hb10.size
        have hO18 := Own.keptF bool_flat hO15 k9 (hO15.ne_own hO16 (by decide))
        refine st (s_nilp rfl ?_)
        refine st (s_faddr fld66_2 rfl ?_)
        refine st0 (s_store one46 rfl rfl (hO17.one) (((((hB.gne k1 (hM.blk_ne hB (by decide) hg1)).g0 k2).gne k3 (by omega)).g0 k8).grown k9 (fun e => by have := hO16.ne_blk ((((hB.gne k1 (hM.blk_ne hB (by decide) hg1)).g0 k2).gne k3 (by omega)).g0 k8) (by decide); simp_all)) (of_decide_eq_true rfl) ?_)
        intro w11 hB7 k10 hs7
        have hb11 := below_g hb10 k10 (by omega)
        have hO19 := Own.keptF bool_flat hO18 k10 (hO18.ne_blk (((((hB.gne k1 (hM.blk_ne hB (by decide) hg1)).g0 k2).gne k3 (by omega)).g0 k8).grown k9 (fun e => by have := hO16.ne_blk ((((hB.gne k1 (hM.blk_ne hB (by decide) hg1)).g0 k2).gne k3 (by omega)).g0 k8) (by decide); simp_all)) (by decide))
        have hO20 := Own.keptF (num_flat _) hO17 k10 (hO17.ne_blk (((((hB.gne k1 (hM.blk_ne hB (by decide) hg1)).g0 k2).gne k3 (by omega)).g0 k8).grown k9 (fun e => by have := hO16.ne_blk ((((hB.gne k1 (hM.blk_ne hB (by decide) hg1)).g0 k2).gne k3 (by omega)).g0 k8) (by decide); simp_all)) (by decide))
        refine r_end ?_
        refine n_end0 (fn := Try.f41) rfl ?_
        have hend : endF l (f + 1) n E = E ++ [n] := by rw [endF_low hno (by simpa using h2)]
        refine ⟨_, rfl, _, _, hb11, hB7, hO19, ?_, hS.len, ?_, hS.high, ?_⟩
        · rw [hend]; exact hO20
        · rw [hend]; have := hS.cnt; simp; omega
        · rw [hend]; exact mid_end hS
end Go.Proofs.Ytdeiiagkbbimhaa
