/- Part of the proof that is named in YtencmmhfiepojaaLRowBack: a library for walks, or a function's walk. -/
import Derived.Test.YtencmmhfiepojaaLC
import Derived.Test.YtencmmhfiepojaaLimbSpec3
set_option maxRecDepth 20000
set_option linter.unusedSimpArgs false
set_option linter.unusedVariables false
namespace Go.Proofs.Ytencmmhfiepojaa
open Go.RowKit Go.Gw
theorem shl_any {w : World} {a : Value} {n : Int} {xs : List Int} (ha : Sl Kd.u32 w (fun _ => False) a xs) (hla : xs.length ≤ 100000) :
    Calls Try.prog 30 [a, .int .i64 n].toArray w (Pure w fun v W => Sl Kd.u32 W (fun _ => False) v (shlL xs n)) := by
  have hb0 := Below.refl w.heap.size w
  have hln1 := ha.lenle
  refine enter Try.func30 rfl rfl ?_
  refine w_seq ?_
  refine w_region ?_
  refine st (s_assign rfl ?_)
  refine r_end ?_
  refine n_then ?_
  refine w_seq ?_
  refine w_seq ?_
  refine w_region ?_
  refine st (s_move rfl ?_)
  refine st (s_call fn80 rfl (fits_any) ?_)
  rintro _ w1 ⟨hq1, rfl⟩
  have k1 := grown_of_below hq1 none
  have hz1 := hq1.size
  have hb1 := below_g0 hb0 k1
  have hz2 := hb1.size
  refine st (s_not rfl ?_)
  refine r_end ?_
  refine n_then ?_
  refine w_cond rfl (fun h1 => ?_) (fun h1 => ?_)
  · have hft : fitB n = false := by simpa using h1
    refine w_seq ?_
    refine w_region ?_
    refine st (s_assign rfl ?_)
    refine r_end ?_
    refine n_then ?_
    refine w_ret1 rfl rfl ?_
    exact ⟨_, rfl, hb1, by unfold shlL; rw [if_neg (by rw [hft]; decide)]; exact (Own.nil Kd.u32 44 w.heap.size _ (fun _ => False)).sl⟩
  · have hft : fitB n = true := by simpa using h1
    have hnb : 0 ≤ n ∧ n ≤ 10000 := by simpa [fitB] using hft
    refine w_skip' ?_
    refine n_then ?_
    refine w_seq ?_
    refine w_region ?_
    refine st (s_move rfl ?_)
    refine st (s_len sl32 rfl (ha.at0 hb1) ?_)
    refine st (s_move rfl ?_)
    refine st (s_quoi rfl rfl (by omega) (by omega) ?_)
    refine st (s_add rfl rfl (by omega) ?_)
    refine st (s_add rfl rfl (by omega) ?_)
    refine st (s_make (K := Kd.u32) (base := w.heap.size) (F := (fun _ => False)) sl32 rfl (by omega) (by omega) (by omega) (fun _ _ => ⟨rfl, by decide⟩) (by omega) (fun _ h => h.elim) ?_)
    intro v1 w2 hO1 k2
    have hb2 := below_g0 hb1 k2
    have hz3 := hb2.size
    refine st (s_assign rfl ?_)
    refine r_end ?_
    refine n_then ?_
    refine w_seq ?_
    refine w_seq ?_
    refine w_region ?_
    refine st (s_move rfl ?_)
    refine st (s_len sl32 rfl (ha.at0 hb2) ?_)
    refine st (s_move rfl ?_)
    refine r_end ?_
    refine n_then ?_
    refine w_block ?_
    refine w_loop (α := Int × List Int) (fun ((i, os) : Int × List Int) => [(1, .int .i64 n), (4, .slice none 0 0), (5, v1), (19, a), (20, .int .i64 (xs.length : Int)), (21, .int .i64 i)]) (fun ((i, os) : Int × List Int) W => Below w.heap.size w W ∧ (0 ≤ i ∧ i ≤ xs.length) ∧ ((os.length : Int) = xs.length + n / 32 + 1) ∧ (Gw.Own Kd.u32 44 w.heap.size W (fun _ => False) v1 os) ∧ (nv (os.take (i + n / 32 + 1).toNat) = nv (xs.take i.toNat) * 2 ^ n.toNat) ∧ (ix os (i + n / 32) < 2 ^ (n % 32).toNat) ∧ (∀ j : Int, i + n / 32 < j → ix os j = 0)) (fun ((i, os) : Int × List Int) => (xs.length - i).toNat) ((0), (List.replicate ((((xs.length : Int) + (n / 32)) + 1)).toNat 0)) ⟨hb2, by omega, by rw [List.length_replicate]; omega, hO1, by rw [nv_zeros]; simp [nv], by rw [ix_zeros]; exact two_pos _, fun j _ => ix_zeros _ _⟩ (by exact ⟨rfl, rfl, rfl, rfl, rfl, rfl, trivial⟩) ?_
    rintro ⟨i, os⟩ w3 ⟨hb3, hi, hol, hO, hn, hp, hz⟩
    dsimp only at *
    have hz4 := hb3.size
    have hxa := (lim_sl ha).ix i
    have hxo := (lim_sl hO.sl).ix (i + (n / 32))
    have hstep := fun (h1 : i < xs.length) => shl_step (lim_sl ha) (lim_sl hO.sl) hi.1 h1 hnb.1 hol hz hp hn
    refine w_seq ?_
    refine w_region ?_
    refine st (s_lt rfl rfl ?_)
    refine r_end ?_
    refine n_then ?_
    refine w_seq ?_
    refine w_condP rfl (fun h2 => ?_) (fun h2 => ?_)
    · have hstep := hstep (by omega)
      refine w_skip' ?_
      refine n_then ?_
      refine w_seq ?_
      refine w_block ?_
      refine w_seq ?_
      refine w_region ?_
      refine st (s_move rfl ?_)
      refine st (s_idx sl32 rfl rfl (ha.at0 hb3) (by omega) (by first | omega | (rw [List.length_set]; omega)) ?_)
      rintro b1 o1 _ ⟨rfl, hr1⟩ hc1 hF1 hlt1
      have hl_1 := Loc.lt hF1
      refine st (s_load one44 rfl hc1 (j := 0) rfl ?_)
      refine st (s_assign rfl ?_)
      refine st (s_assign rfl ?_)
      refine r_end ?_
      refine n_then ?_
      refine w_seq ?_
      refine w_region ?_
      refine st (s_move rfl ?_)
      refine st (s_move rfl ?_)
      refine st (s_quoi rfl rfl (by omega) (by omega) ?_)
      refine st (s_add rfl rfl (by omega) ?_)
      refine st (s_assign rfl ?_)
      refine r_end ?_
      refine n_then ?_
      refine w_seq ?_
      obtain ⟨b2, o2, _, hat1, ⟨rfl, hr2⟩, hc2, hF2, hlt2⟩ := hO.sl.elem (i + (n / 32)) (by omega) (by first | omega | (rw [List.length_set]; omega))
      refine w_draw 9 (fun a b => a.grownBy b none) [(some 30, fun v _ => v = v1), (some 31, fun v _ => v = .int .i64 (i + (n / 32))), (some 32, fun v _ => v = .pointer (some ⟨b2, o2, none⟩)), (some 33, fun v _ => v = .int .u32 (ix os (i + (n / 32)))), (some 34, fun v _ => v = .int .u32 (ix xs i)), (some 35, fun v _ => v = .int .i64 n), (some 36, fun v _ => v = .int .i64 (n % 32)), (some 37, fun v _ => v = .int .u32 (((ix xs i) * (2 ^ ((n % 32)).toNat)) % 4294967296)), (some 38, fun v _ => v = .int .u32 (ior (ix os (i + (n / 32))) (((ix xs i) * (2 ^ ((n % 32)).toNat)) % 4294967296)))] [[], [], [0, 1], [2], [], [], [5], [4, 6], [3, 7]] [(1, .int .i64 n), (4, .slice none 0 0), (5, v1), (7, .int .u32 (ix xs i)), (8, .int .i64 (i + (n / 32))), (19, a), (20, .int .i64 (xs.length : Int)), (21, .int .i64 i)] (by exact ⟨rfl, rfl, rfl, rfl, rfl, rfl, rfl, rfl, trivial⟩) (by kernel_rfl) (by kernel_rfl) grown_none_refl (fun _ _ _ => grown_none_trans) ⟨fun _ _ _ h _ => h, fun _ _ _ h _ => h, fun _ _ _ h _ => h, fun _ _ _ h _ => h, fun _ _ _ h _ => h, fun _ _ _ h _ => h, fun _ _ _ h _ => h, fun _ _ _ h _ => h, fun _ _ _ h _ => h, trivial⟩ ?_
      intro w4 k3 hs1
      have hb4 := below_g0 hb3 k3
      have hO2 := hO.g0 k3
      refine ⟨⟨?_, ?_, ?_, ?_, ?_, ?_, ?_, ?_, ?_, trivial⟩, ?_⟩
      · intro w5 k4
        have hb5 := below_g0 hb4 k4
        have hO3 := hO2.g0 k4
        refine op1 (s_move rfl ?_)
        exact ⟨rfl, grown_none_refl _⟩
      · intro w6 k5
        have hb6 := below_g0 hb4 k5
        have hO4 := hO2.g0 k5
        refine op1 (s_move rfl ?_)
        exact ⟨rfl, grown_none_refl _⟩
      · intro w7 k6
        have hb7 := below_g0 hb4 k6
        have hO5 := hO2.g0 k6
        intro v_ hv_; subst v_
        rintro _ rfl
        refine op1 (s_idxat sl32 rfl rfl hat1 ?_)
        exact ⟨rfl, grown_none_refl _⟩
      · intro w8 k7
        have hb8 := below_g0 hb4 k7
        have hO6 := hO2.g0 k7
        rintro _ rfl
        refine op1 (s_load one44 rfl (range_g0 (range_g0 hc2 k3) k7) (j := 0) rfl ?_)
        exact ⟨rfl, grown_none_refl _⟩
      · intro w9 k8
        have hb9 := below_g0 hb4 k8
        have hO7 := hO2.g0 k8
        refine op1 (s_move rfl ?_)
        exact ⟨rfl, grown_none_refl _⟩
      · intro w10 k9
        have hb10 := below_g0 hb4 k9
        have hO8 := hO2.g0 k9
        refine op1 (s_move rfl ?_)
        exact ⟨rfl, grown_none_refl _⟩
      · intro w11 k10
        have hb11 := below_g0 hb4 k10
        have hO9 := hO2.g0 k10
        rintro _ rfl
        refine op1 (s_remk rfl rfl (by omega) (by omega) ?_)
        exact ⟨rfl, grown_none_refl _⟩
      · intro w12 k11
        have hb12 := below_g0 hb4 k11
        have hO10 := hO2.g0 k11
        rintro _ rfl
        rintro _ rfl
        refine op1 (s_shlk (M := 4294967296) (p := (2 ^ ((n % 32)).toNat)) rfl rfl rfl rfl (by omega) (by rw [Nat.min_eq_left (by show ((n % 32)).toNat ≤ 32; omega)]) ?_)
        exact ⟨rfl, grown_none_refl _⟩
      · intro w13 k12
        have hb13 := below_g0 hb4 k12
        have hO11 := hO2.g0 k12
        rintro _ rfl
        rintro _ rfl
        refine op1 (s_or (M := 4294967296) rfl rfl rfl rfl (by omega) (by omega) ?_)
        exact ⟨rfl, grown_none_refl _⟩
      · intro w14 k13
        have hb14 := below_g0 hb4 k13
        have hO12 := hO2.g0 k13
        intro v_ hv_; subst v_
        rintro _ rfl
        rintro _ rfl
        rintro _ rfl
        rintro _ rfl
        rintro _ rfl
        rintro _ rfl
        rintro _ rfl
        rintro _ rfl
        refine st (s_oidx sl32 rfl rfl hO12 (by omega) (by first | omega | (rw [List.length_set]; omega) | (simp; omega)) ?_)
        intro g1 hg1 hl_2 hl_3
        refine st0 (s_ostore one44 rfl rfl rfl rfl hO12 hg1 (by omega) (by first | omega | (rw [List.length_set]; omega) | (simp; omega)) ⟨rfl, by first | omega | exact ior_lt (by omega) (by omega)⟩ ?_)
        intro w15 hO13 k14 hs2
        have hb15 := below_g hb14 k14 (by omega)
        refine r_end ?_
        refine n_then ?_
        have hxo2 := (lim_sl hO13.sl).ix (i + (n / 32) + 1)
        obtain ⟨b3, o3, _, hat2, ⟨rfl, hr3⟩, hc3, hF3, hlt3⟩ := hO13.sl.elem ((i + (n / 32)) + 1) (by omega) (by first | omega | (rw [List.length_set]; omega))
        refine w_draw 13 (fun a b => a.grownBy b none) [(some 40, fun v _ => v = v1), (some 41, fun v _ => v = .int .i64 (i + (n / 32))), (some 42, fun v _ => v = .int .i64 ((i + (n / 32)) + 1)), (some 43, fun v _ => v = .pointer (some ⟨b3, o3, none⟩)), (some 44, fun v _ => v = .int .u32 (ix (os.set ((i + (n / 32))).toNat (ior (ix os (i + (n / 32))) (((ix xs i) * (2 ^ ((n % 32)).toNat)) % 4294967296))) ((i + (n / 32)) + 1))), (some 45, fun v _ => v = .int .u32 (ix xs i)), (some 46, fun v _ => v = .int .u64 (ix xs i)), (some 47, fun v _ => v = .int .i64 n), (some 48, fun v _ => v = .int .i64 (n % 32)), (some 49, fun v _ => v = .int .u64 (((ix xs i) * (2 ^ ((n % 32)).toNat)) % 18446744073709551616)), (some 50, fun v _ => v = .int .u64 ((((ix xs i) * (2 ^ ((n % 32)).toNat)) % 18446744073709551616) / 4294967296)), (some 51, fun v _ => v = .int .u32 (((((ix xs i) * (2 ^ ((n % 32)).toNat)) % 18446744073709551616) / 4294967296) % 4294967296)), (some 52, fun v _ => v = .int .u32 (ior (ix (os.set ((i + (n / 32))).toNat (ior (ix os (i + (n / 32))) (((ix xs i) * (2 ^ ((n % 32)).toNat)) % 4294967296))) ((i + (n / 32)) + 1)) (((((ix xs i) * (2 ^ ((n % 32)).toNat)) % 18446744073709551616) / 4294967296) % 4294967296)))] [[], [], [1], [0, 2], [3], [], [5], [], [7], [6, 8], [9], [10], [4, 11]] [(1, .int .i64 n), (4, .slice none 0 0), (5, v1), (7, .int .u32 (ix xs i)), (8, .int .i64 (i + (n / 32))), (19, a), (20, .int .i64 (xs.length : Int)), (21, .int .i64 i)] (by exact ⟨rfl, rfl, rfl, rfl, rfl, rfl, rfl, rfl, trivial⟩) (by kernel_rfl) (by kernel_rfl) grown_none_refl (fun _ _ _ => grown_none_trans) ⟨fun _ _ _ h _ => h, fun _ _ _ h _ => h, fun _ _ _ h _ => h, fun _ _ _ h _ => h, fun _ _ _ h _ => h, fun _ _ _ h _ => h, fun _ _ _ h _ => h, fun _ _ _ h _ => h, fun _ _ _ h _ => h, fun _ _ _ h _ => h, fun _ _ _ h _ => h, fun _ _ _ h _ => h, fun _ _ _ h _ => h, trivial⟩ ?_
        intro w16 k15 hs3
        have hb16 := below_g0 hb15 k15
        have hO14 := hO13.g0 k15
        refine ⟨⟨?_, ?_, ?_, ?_, ?_, ?_, ?_, ?_, ?_, ?_, ?_, ?_, ?_, trivial⟩, ?_⟩
        · intro w17 k16
          have hb17 := below_g0 hb16 k16
          have hO15 := hO14.g0 k16
          refine op1 (s_move rfl ?_)
          exact ⟨rfl, grown_none_refl _⟩
        · intro w18 k17
          have hb18 := below_g0 hb16 k17
          have hO16 := hO14.g0 k17
          refine op1 (s_move rfl ?_)
          exact ⟨rfl, grown_none_refl _⟩
        · intro w19 k18
          have hb19 := below_g0 hb16 k18
          have hO17 := hO14.g0 k18
          rintro _ rfl
          refine op1 (s_add rfl rfl (by omega) ?_)
          exact ⟨rfl, grown_none_refl _⟩
        · intro w20 k19
          have hb20 := below_g0 hb16 k19
          have hO18 := hO14.g0 k19
          intro v_ hv_; subst v_
          rintro _ rfl
          refine op1 (s_idxat sl32 rfl rfl hat2 ?_)
          exact ⟨rfl, grown_none_refl _⟩
        · intro w21 k20
          have hb21 := below_g0 hb16 k20
          have hO19 := hO14.g0 k20
          rintro _ rfl
          refine op1 (s_load one44 rfl (range_g0 (range_g0 hc3 k15) k20) (j := 0) rfl ?_)
          exact ⟨rfl, grown_none_refl _⟩
        · intro w22 k21
          have hb22 := below_g0 hb16 k21
          have hO20 := hO14.g0 k21
          refine op1 (s_move rfl ?_)
          exact ⟨rfl, grown_none_refl _⟩
        · intro w23 k22
          have hb23 := below_g0 hb16 k22
          have hO21 := hO14.g0 k22
          rintro _ rfl
          refine op1 (s_convk (M := 18446744073709551616) rfl rfl intk44 intk76 rfl (by omega) ?_)
          exact ⟨rfl, grown_none_refl _⟩
        · intro w24 k23
          have hb24 := below_g0 hb16 k23
          have hO22 := hO14.g0 k23
          refine op1 (s_move rfl ?_)
          exact ⟨rfl, grown_none_refl _⟩
        · intro w25 k24
          have hb25 := below_g0 hb16 k24
          have hO23 := hO14.g0 k24
          rintro _ rfl
          refine op1 (s_remk rfl rfl (by omega) (by omega) ?_)
          exact ⟨rfl, grown_none_refl _⟩
        · intro w26 k25
          have hb26 := below_g0 hb16 k25
          have hO24 := hO14.g0 k25
          rintro _ rfl
          rintro _ rfl
          refine op1 (s_shlk (M := 18446744073709551616) (p := (2 ^ ((n % 32)).toNat)) rfl rfl rfl rfl (by omega) (by rw [Nat.min_eq_left (by show ((n % 32)).toNat ≤ 64; omega)]) ?_)
          exact ⟨rfl, grown_none_refl _⟩
        · intro w27 k26
          have hb27 := below_g0 hb16 k26
          have hO25 := hO14.g0 k26
          rintro _ rfl
          refine op1 (s_shrk (p := 4294967296) rfl rfl (by decide) (by decide) ?_)
          exact ⟨rfl, grown_none_refl _⟩
        · intro w28 k27
          have hb28 := below_g0 hb16 k27
          have hO26 := hO14.g0 k27
          rintro _ rfl
          refine op1 (s_convm (M := 4294967296) rfl rfl intk76 intk44 rfl ?_)
          exact ⟨rfl, grown_none_refl _⟩
        · intro w29 k28
          have hb29 := below_g0 hb16 k28
          have hO27 := hO14.g0 k28
          rintro _ rfl
          rintro _ rfl
          refine op1 (s_or (M := 4294967296) rfl rfl rfl rfl (by omega) (by omega) ?_)
          exact ⟨rfl, grown_none_refl _⟩
        · intro w30 k29
          have hb30 := below_g0 hb16 k29
          have hO28 := hO14.g0 k29
          intro v_ hv_; subst v_
          rintro _ rfl
          rintro _ rfl
          rintro _ rfl
          rintro _ rfl
          rintro _ rfl
          rintro _ rfl
          rintro _ rfl
          rintro _ rfl
          rintro _ rfl
          rintro _ rfl
          rintro _ rfl
          rintro _ rfl
          refine st (s_oidx sl32 rfl rfl hO28 (by omega) (by first | omega | (rw [List.length_set]; omega) | (simp; omega)) ?_)
          intro g2 hg2 hl_4 hl_5
          refine st0 (s_ostore one44 rfl rfl rfl rfl hO28 hg2 (by omega) (by first | omega | (rw [List.length_set]; omega) | (simp; omega)) ⟨rfl, by first | omega | exact ior_lt (by omega) (by omega)⟩ ?_)
          intro w31 hO29 k30 hs4
          have hb31 := below_g hb30 k30 (by omega)
          refine r_end ?_
          refine n_block ?_
          refine n_then ?_
          refine w_region ?_
          refine st (s_add rfl rfl (by omega) ?_)
          refine st (s_move rfl ?_)
          refine r_end ?_
          exact n_round (((i + 1)), ((os.set ((i + (n / 32))).toNat (ior (ix os (i + (n / 32))) (((ix xs i) * (2 ^ ((n % 32)).toNat)) % 4294967296))).set (((i + (n / 32)) + 1)).toNat (ior (ix (os.set ((i + (n / 32))).toNat (ior (ix os (i + (n / 32))) (((ix xs i) * (2 ^ ((n % 32)).toNat)) % 4294967296))) ((i + (n / 32)) + 1)) (((((ix xs i) * (2 ^ ((n % 32)).toNat)) % 18446744073709551616) / 4294967296) % 4294967296)))) ⟨hb31, by omega, by rw [List.length_set, List.length_set]; exact hol, hO29, hstep.1, hstep.2.1, hstep.2.2⟩ (by omega) (by exact ⟨rfl, rfl, rfl, rfl, rfl, rfl, trivial⟩)
    · refine w_exit' ?_
      refine n_then_exit ?_
      refine n_then_exit ?_
      refine n_block_exit ?_
      refine n_then ?_
      refine w_seq ?_
      refine w_region ?_
      refine st (s_move rfl ?_)
      refine st (s_call fn74 rfl (cut_any hO.sl) ?_)
      rintro v2 w32 ⟨hq2, hS1⟩
      have k31 := grown_of_below hq2 none
      have hz5 := hq2.size
      have hb32 := below_g0 hb3 k31
      have hz6 := hb32.size
      have hO30 := hO.g0 k31
      have hS2 := hS1.none.g0 k31
      refine st (s_assign rfl ?_)
      refine r_end ?_
      refine n_then ?_
      refine w_ret1 rfl rfl ?_
      have hend := shl_end hn (by omega) hol
      exact ⟨_, rfl, hb32, by unfold shlL; rw [if_pos hft, ← hend]; exact hS2⟩
end Go.Proofs.Ytencmmhfiepojaa
