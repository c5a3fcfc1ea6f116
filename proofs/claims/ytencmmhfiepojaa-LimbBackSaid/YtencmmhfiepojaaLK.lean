/- Part of the proof that is named in YtencmmhfiepojaaLRowBack: a library for walks, or a function's walk. -/
import Derived.Test.YtencmmhfiepojaaLJ
set_option maxRecDepth 20000
set_option linter.unusedSimpArgs false
set_option linter.unusedVariables false
namespace Go.Proofs.Ytencmmhfiepojaa
open Go.RowKit Go.Gw
theorem rmul_any {w : World} {a : Value} {m c : Int} {xs : List Int} (ha : Sl Kd.u32 w (fun _ => False) a xs) (hm : 0 ≤ m ∧ m < 4294967296) (hc : 0 ≤ c ∧ c < 4294967296) (hla : xs.length ≤ 99999) :
    Calls Try.prog 45 [a, .int .u32 m, .int .u32 c].toArray w (Pure w fun v W => Sl Kd.u32 W (fun _ => False) v (tl (nv xs * m + c))) := by
  have hb0 := Below.refl w.heap.size w
  have hln1 := ha.lenle
  refine enter Try.func45 rfl rfl ?_
  refine w_seq ?_
  refine w_region ?_
  refine st (s_assign rfl ?_)
  refine r_end ?_
  refine n_then ?_
  refine w_seq ?_
  refine w_region ?_
  refine st (s_assign rfl ?_)
  refine r_end ?_
  refine n_then ?_
  refine w_seq ?_
  refine w_region ?_
  refine st (s_move rfl ?_)
  refine st (s_convk (M := 18446744073709551616) rfl rfl intk44 intk76 rfl (by omega) ?_)
  refine st (s_assign rfl ?_)
  refine r_end ?_
  refine n_then ?_
  refine w_seq ?_
  refine w_seq ?_
  refine w_region ?_
  refine st (s_assign rfl ?_)
  refine r_end ?_
  refine n_then ?_
  refine w_block ?_
  refine w_loop (α := Int × Value × List Int × Int) (fun ((i, v, os, k) : Int × Value × List Int × Int) => [(0, a), (1, .int .u32 m), (6, .slice none 0 0), (7, v), (8, .int .u64 k), (9, .int .i64 i)]) (fun ((i, v, os, k) : Int × Value × List Int × Int) W => Below w.heap.size w W ∧ (0 ≤ i ∧ i ≤ xs.length) ∧ (Gw.Own Kd.u32 44 w.heap.size W (fun _ => False) v os) ∧ ((os.length : Int) = i) ∧ (0 ≤ k ∧ k < 4294967296) ∧ (nv os + PW i.toNat * k = nv (xs.take i.toNat) * m + c)) (fun ((i, v, os, k) : Int × Value × List Int × Int) => (xs.length - i).toNat) ((0), (.slice none 0 0), ([]), (c)) ⟨hb0, by omega, Own.nil Kd.u32 44 _ _ _, rfl, by omega, by simp [nv, PW_zero]⟩ (by exact ⟨rfl, rfl, rfl, rfl, rfl, rfl, trivial⟩) ?_
  rintro ⟨i, v, os, k⟩ w1 ⟨hb1, hi, hO, hol, hk, hn⟩
  dsimp only at *
  have hz1 := hb1.size
  have hxa := (lim_sl ha).ix i
  have hmb := mul_bd hxa hm
  refine w_seq ?_
  refine w_seq ?_
  refine w_region ?_
  refine st (s_move rfl ?_)
  refine st (s_move rfl ?_)
  refine st (s_len sl32 rfl (ha.at0 hb1) ?_)
  refine st (s_lt rfl rfl ?_)
  refine r_end ?_
  refine n_then ?_
  refine w_condP rfl (fun h1 => ?_) (fun h1 => ?_)
  · refine w_skip' ?_
    refine n_then ?_
    refine w_seq ?_
    refine w_block ?_
    refine w_seq ?_
    refine w_region ?_
    refine st (s_move rfl ?_)
    refine st (s_move rfl ?_)
    refine st (s_idx sl32 rfl rfl (ha.at0 hb1) (by omega) (by omega) ?_)
    rintro b1 o1 _ ⟨rfl, hr1⟩ hc1 hF1 hlt1
    have hl_1 := Loc.lt hF1
    refine st (s_load one44 rfl hc1 (j := 0) rfl ?_)
    refine st (s_convk (M := 18446744073709551616) rfl rfl intk44 intk76 rfl (by omega) ?_)
    refine st (s_move rfl ?_)
    refine st (s_convk (M := 18446744073709551616) rfl rfl intk44 intk76 rfl (by omega) ?_)
    refine st (s_mulk (M := 18446744073709551616) rfl rfl rfl rfl (by omega) ?_)
    refine st (s_move rfl ?_)
    refine st (s_addk (M := 18446744073709551616) rfl rfl rfl rfl (by omega) ?_)
    refine st (s_assign rfl ?_)
    refine r_end ?_
    refine n_then ?_
    refine w_region ?_
    refine st (s_move rfl ?_)
    refine st (s_move rfl ?_)
    refine st (s_remk rfl rfl (by omega) (by omega) ?_)
    refine st (s_convm (M := 4294967296) rfl rfl intk76 intk44 rfl ?_)
    refine st (s_bslice (ps := [(0, .tmp 32)]) (ccs := [#[.int .u32 (((((ix xs i) * m) + k) % 4294967296) % 4294967296)]]) (e := 44) (cells := [.int .u32 (((((ix xs i) * m) + k) % 4294967296) % 4294967296)]) rfl rfl (by kernel_rfl) (by decide) nz44 ?_)
    intro g1 w2 hg1 hB1 k1 hs1
    have hb2 := below_g0 hb1 k1
    have hz2 := hb2.size
    have hO1 := hO.g0 k1
    refine st (s_append (K := Kd.u32) sl32 rfl rfl hO1 (lit_u32 hB1 hO (fun h => h) hg1 (by omega)) u32_ones (by simp; omega) (by simp; omega) (by first | exact Nat.le_refl _ | omega) (fun _ h => h.elim) ?_)
    intro v1 w3 hO2 k2 hr2
    have hb3 := hb2.grown k2 hb2.size (fun k_ hk_ => (hO1.lt k_ hk_).1)
    have hz3 := hb3.size
    refine st (s_move rfl ?_)
    refine st (s_quok (M := 18446744073709551616) rfl rfl rfl rfl (by omega) (by omega) ?_)
    refine st (s_assign rfl ?_)
    refine st (s_assign rfl ?_)
    refine r_end ?_
    refine n_block ?_
    refine n_then ?_
    refine w_region ?_
    refine st (s_move rfl ?_)
    refine st (s_add rfl rfl (by omega) ?_)
    refine st (s_assign rfl ?_)
    refine r_end ?_
    exact n_round (((i + 1)), (v1), (os ++ [(((((ix xs i) * m) + k) % 4294967296) % 4294967296)]), (((((ix xs i) * m) + k) / 4294967296))) ⟨hb3, by omega, hO2, by simp; omega, by dsimp only; omega, (by have e9 := rmul_step hn hi.1 hol; rwa [show ((ix xs i * m + k) % 4294967296) % 4294967296 = (ix xs i * m + k) % 4294967296 by omega])⟩ (by omega) (by exact ⟨rfl, rfl, rfl, rfl, rfl, rfl, trivial⟩)
  · refine w_exit' ?_
    refine n_then_exit ?_
    refine n_then_exit ?_
    refine n_block_exit ?_
    refine n_then ?_
    refine w_seq ?_
    refine w_region ?_
    refine st (s_move rfl ?_)
    refine st (s_move rfl ?_)
    refine st (s_convm (M := 4294967296) rfl rfl intk76 intk44 rfl ?_)
    refine st (s_bslice (ps := [(0, .tmp 39)]) (ccs := [#[.int .u32 (k % 4294967296)]]) (e := 44) (cells := [.int .u32 (k % 4294967296)]) rfl rfl (by kernel_rfl) (by decide) nz44 ?_)
    intro g2 w4 hg2 hB2 k3 hs2
    have hb4 := below_g0 hb1 k3
    have hz4 := hb4.size
    have hO3 := hO.g0 k3
    refine st (s_append (K := Kd.u32) sl32 rfl rfl hO3 (lit_u32 hB2 hO (fun h => h) hg2 (by omega)) u32_ones (by simp; omega) (by simp; omega) (by first | exact Nat.le_refl _ | omega) (fun _ h => h.elim) ?_)
    intro v2 w5 hO4 k4 hr3
    have hb5 := hb4.grown k4 hb4.size (fun k_ hk_ => (hO3.lt k_ hk_).1)
    have hz5 := hb5.size
    refine st (s_call fn41 rfl (rnorm_any hO4.sl.none (by first | omega | (simp; done) | (simp; omega))) ?_)
    rintro v3 w6 ⟨hq1, hS1⟩
    have k5 := grown_of_below hq1 none
    have hz6 := hq1.size
    have hb6 := below_g0 hb5 k5
    have hz7 := hb6.size
    have hO5 := hO4.g0 k5
    refine st (s_assign rfl ?_)
    refine r_end ?_
    refine n_then ?_
    refine w_ret1 rfl rfl ?_
    have he := rmul_end hn hi.1 (by omega) hol
    refine ⟨_, rfl, hb6, ?_⟩
    rw [← he]
    have h9 := hS1
    rwa [show k % 4294967296 = k by omega] at h9

theorem rdiv_any {w : World} {a : Value} {m : Int} {xs : List Int} (ha : Sl Kd.u32 w (fun _ => False) a xs) (hm : 0 ≤ m ∧ m < 4294967296) (hla : xs.length ≤ 100000) :
    Calls Try.prog 43 [a, .int .u32 m].toArray w (Pure w fun r W => ∃ v, r = .tuple #[v, .int .u32 (if m = 0 then 0 else nv xs % m)] ∧ Sl Kd.u32 W (fun _ => False) v (tl (nv xs / m))) := by
  have hb0 := Below.refl w.heap.size w
  have hln1 := ha.lenle
  refine enter Try.func43 rfl rfl ?_
  refine w_seq ?_
  refine w_region ?_
  refine st (s_assign rfl ?_)
  refine st (s_assign rfl ?_)
  refine r_end ?_
  refine n_then ?_
  refine w_seq ?_
  refine w_seq ?_
  refine w_region ?_
  refine st (s_move rfl ?_)
  refine st (s_eq rfl rfl ?_)
  refine r_end ?_
  refine n_then ?_
  refine w_condP rfl (fun h1 => ?_) (fun h1 => ?_)
  · refine w_seq ?_
    refine w_region ?_
    refine st (s_assign rfl ?_)
    refine st (s_assign rfl ?_)
    refine r_end ?_
    refine n_then ?_
    refine w_ret2 rfl rfl rfl ?_
    have hm0 : m = 0 := h1
    subst hm0
    exact ⟨_, rfl, hb0, _, rfl, by rw [Int.ediv_zero, tl_zero (Int.le_refl _)]; exact (Own.nil Kd.u32 44 w.heap.size _ (fun _ => False)).sl⟩
  · refine w_skip' ?_
    refine n_then ?_
    refine w_seq ?_
    refine w_region ?_
    refine st (s_move rfl ?_)
    refine st (s_len sl32 rfl (ha.at0 hb0) ?_)
    refine st (s_make (K := Kd.u32) (base := w.heap.size) (F := (fun _ => False)) sl32 rfl (by omega) (by omega) (by omega) (fun _ _ => ⟨rfl, by decide⟩) (by omega) (fun _ h => h.elim) ?_)
    intro v1 w1 hO1 k1
    have hb1 := below_g0 hb0 k1
    have hz1 := hb1.size
    refine st (s_assign rfl ?_)
    refine r_end ?_
    refine n_then ?_
    refine w_seq ?_
    refine w_region ?_
    refine st (s_assign rfl ?_)
    refine r_end ?_
    refine n_then ?_
    refine w_seq ?_
    refine w_seq ?_
    refine w_region ?_
    refine st (s_move rfl ?_)
    refine st (s_len sl32 rfl (ha.at0 hb1) ?_)
    refine st (s_sub rfl rfl (by omega) ?_)
    refine st (s_assign rfl ?_)
    refine r_end ?_
    refine n_then ?_
    refine w_block ?_
    refine w_loop (α := Int × List Int × Int) (fun ((i, os, l) : Int × List Int × Int) => [(0, a), (1, .int .u32 m), (4, .slice none 0 0), (5, .int .u32 0), (6, v1), (7, .int .u64 l), (8, .int .i64 i)]) (fun ((i, os, l) : Int × List Int × Int) W => Below w.heap.size w W ∧ (-1 ≤ i ∧ i < xs.length) ∧ (os.length = xs.length) ∧ (0 ≤ l ∧ l < m) ∧ (Gw.Own Kd.u32 44 w.heap.size W (fun _ => False) v1 os) ∧ (l = nv (xs.drop (i + 1).toNat) % m) ∧ (nv (os.drop (i + 1).toNat) = nv (xs.drop (i + 1).toNat) / m)) (fun ((i, os, l) : Int × List Int × Int) => (i + 1).toNat) (((xs.length : Int) - 1), (List.replicate ((xs.length : Int)).toNat 0), (0)) ⟨hb1, by omega, by simp, by omega, hO1, by rw [List.drop_of_length_le (by omega)]; simp [nv], by rw [List.drop_of_length_le (by simp), List.drop_of_length_le (by omega)]; simp [nv]⟩ (by exact ⟨rfl, rfl, rfl, rfl, rfl, rfl, rfl, trivial⟩) ?_
    rintro ⟨i, os, l⟩ w2 ⟨hb2, hi, hol, hl, hO, e1, e2⟩
    dsimp only at *
    have hz2 := hb2.size
    have hxa := (lim_sl ha).ix i
    have hq := div32_q (l := ix xs i) hl.1 hxa hl.2
    have hr := div32_r (l := ix xs i) hl.1 hxa hl.2
    refine w_seq ?_
    refine w_seq ?_
    refine w_region ?_
    refine st (s_move rfl ?_)
    refine st (s_ge rfl rfl ?_)
    refine r_end ?_
    refine n_then ?_
    refine w_condP rfl (fun h2 => ?_) (fun h2 => ?_)
    · refine w_skip' ?_
      refine n_then ?_
      refine w_seq ?_
      refine w_block ?_
      refine w_seq ?_
      refine w_region ?_
      refine st (s_move rfl ?_)
      refine st (s_mulk (M := 18446744073709551616) rfl rfl rfl rfl (by omega) ?_)
      refine st (s_move rfl ?_)
      refine st (s_move rfl ?_)
      refine st (s_idx sl32 rfl rfl (ha.at0 hb2) (by omega) (by omega) ?_)
      rintro b1 o1 _ ⟨rfl, hr1⟩ hc1 hF1 hlt1
      have hl_1 := Loc.lt hF1
      refine st (s_load one44 rfl hc1 (j := 0) rfl ?_)
      refine st (s_convk (M := 18446744073709551616) rfl rfl intk44 intk76 rfl (by omega) ?_)
      refine st (s_addk (M := 18446744073709551616) rfl rfl rfl rfl (by omega) ?_)
      refine st (s_assign rfl ?_)
      refine r_end ?_
      refine n_then ?_
      obtain ⟨gD1, hgD1, hl_2, hl_3⟩ := own_block hO (by omega)
      refine w_drawD 13 (fun a b => a.grownBy b (some gD1)) (fun a b => a.grownBy b none) (fun a b => a.grownBy b (some gD1)) [(some 30, fun v _ => v = v1), (some 31, fun v _ => v = .int .i64 i), (some 32, fun v _ => v = .int .u64 ((l * 4294967296) + (ix xs i))), (some 33, fun v _ => v = .int .u32 m), (some 34, fun v _ => v = .int .u64 m), (some 35, fun v _ => v = .int .u64 (((l * 4294967296) + (ix xs i)) / m)), (some 36, fun v _ => v = .int .u32 ((((l * 4294967296) + (ix xs i)) / m) % 4294967296)), (some 37, fun v _ => v = .int .u64 ((l * 4294967296) + (ix xs i))), (some 38, fun v _ => v = .int .u32 m), (some 39, fun v _ => v = .int .u64 m), (some 40, fun v _ => v = .int .u64 (((l * 4294967296) + (ix xs i)) % m)), (some 41, fun v _ => v = .pointer (some ⟨gD1, (i).toNat * 1, none⟩)), (none, fun _ W => Gw.Own Kd.u32 44 w.heap.size W (fun _ => False) v1 (os.set (i).toNat ((((l * 4294967296) + (ix xs i)) / m) % 4294967296)))] [[], [], [], [], [3], [2, 4], [5], [], [], [8], [7, 9], [0, 1], [6, 11]] [[], [], [], [], [3], [2, 3, 4], [2, 3, 4, 5], [], [], [8], [7, 8, 9], [0, 1, 2, 3, 4, 5, 6], [0, 1, 2, 3, 4, 5, 6, 11]] [[], [], [], [], [], [], [], [], [], [], [], [], []] [false, false, false, false, false, false, false, false, false, false, false, false, true] [true, true, true, true, true, true, true, true, true, true, true, true, false] [true, true, true, true, true, true, true, false, false, false, false, true, true] [(0, a), (1, .int .u32 m), (4, .slice none 0 0), (5, .int .u32 0), (6, v1), (7, .int .u64 l), (8, .int .i64 i), (9, .int .u64 ((l * 4294967296) + (ix xs i)))] (by exact ⟨rfl, rfl, rfl, rfl, rfl, rfl, rfl, rfl, trivial⟩) (by kernel_rfl) (by kernel_rfl) (by kernel_rfl) rfl (grown_some_refl gD1) grown_some_trans (fun _ _ h => grown_none_row h) (fun _ _ h => h) ⟨fun _ _ _ h _ => by exact h, fun _ _ _ h _ => by exact h, fun _ _ _ h _ => by exact h, fun _ _ _ h _ => by exact h, fun _ _ _ h _ => by exact h, fun _ _ _ h _ => by exact h, fun _ _ _ h _ => by exact h, fun _ _ _ h _ => by exact h, fun _ _ _ h _ => by exact h, fun _ _ _ h _ => by exact h, fun _ _ _ h _ => by exact h, fun _ _ _ h _ => by exact h, fun _ _ _ h _ => by exact h, fun _ _ _ h _ => by exact h, fun _ _ _ h _ => by exact h, fun _ _ _ h _ => by exact h, fun _ _ _ h _ => by exact h, fun _ _ _ h _ => by exact h, fun _ _ _ h _ => by exact h, fun _ _ _ h _ => by exact h, fun _ _ _ h _ => by exact h, fun _ _ _ h _ => by exact h, fun _ _ _ h _ => by exact h, fun _ _ _ h _ => by exact h, fun _ _ _ h k => h.g0 k, trivial⟩ grown_none_refl (fun _ _ _ => grown_none_trans) rfl ?_
      intro w4 k3 hs2
      have hb3 := below_g0 hb2 k3
      have hO3 := hO.g0 k3
      refine ⟨⟨?_, ?_, ?_, ?_, ?_, ?_, ?_, ?_, ?_, ?_, ?_, ?_, ?_, trivial⟩, ?_⟩
      · intro w5 k4
        have hb4 := below_g0 hb3 k4
        have hz3 := hb4.size
        have hO4 := hO3.g0 k4
        refine op1 (s_move rfl ?_)
        exact ⟨rfl, grown_none_refl _⟩
      · intro w6 k5
        have hb5 := below_g0 hb3 k5
        have hz4 := hb5.size
        have hO5 := hO3.g0 k5
        refine op1 (s_move rfl ?_)
        exact ⟨rfl, grown_none_refl _⟩
      · intro w7 k6
        have hb6 := below_g0 hb3 k6
        have hz5 := hb6.size
        have hO6 := hO3.g0 k6
        refine op1 (s_move rfl ?_)
        exact ⟨rfl, grown_none_refl _⟩
      · intro w8 k7
        have hb7 := below_g0 hb3 k7
        have hz6 := hb7.size
        have hO7 := hO3.g0 k7
        refine op1 (s_move rfl ?_)
        exact ⟨rfl, grown_none_refl _⟩
      · intro w9 k8
        have hb8 := below_g0 hb3 k8
        have hz7 := hb8.size
        have hO8 := hO3.g0 k8
        rintro _ rfl
        refine op1 (s_convk (M := 18446744073709551616) rfl rfl intk44 intk76 rfl (by omega) ?_)
        exact ⟨rfl, grown_none_refl _⟩
      · intro w10 k9
        have hb9 := below_g0 hb3 k9
        have hz8 := hb9.size
        have hO9 := hO3.g0 k9
        rintro _ rfl
        rintro _ rfl
        refine op1 (s_quok (M := 18446744073709551616) rfl rfl rfl rfl (by omega) (by omega) ?_)
        exact ⟨rfl, grown_none_refl _⟩
      · intro w11 k10
        have hb10 := below_g0 hb3 k10
        have hz9 := hb10.size
        have hO10 := hO3.g0 k10
        rintro _ rfl
        refine op1 (s_convm (M := 4294967296) rfl rfl intk76 intk44 rfl ?_)
        exact ⟨rfl, grown_none_refl _⟩
      · intro w12 k11
        refine op1 (s_move rfl ?_)
        exact ⟨rfl, grown_none_refl _⟩
      · intro w13 k12
        refine op1 (s_move rfl ?_)
        exact ⟨rfl, grown_none_refl _⟩
      · intro w14 k13
        rintro _ rfl
        refine op1 (s_convk (M := 18446744073709551616) rfl rfl intk44 intk76 rfl (by omega) ?_)
        exact ⟨rfl, grown_none_refl _⟩
      · intro w15 k14
        rintro _ rfl
        rintro _ rfl
        refine op1 (s_remk rfl rfl (by omega) (by omega) ?_)
        exact ⟨rfl, grown_none_refl _⟩
      · intro w16 k15
        have hb11 := below_g0 hb3 k15
        have hz10 := hb11.size
        have hO11 := hO3.g0 k15
        intro v_ hv_; subst v_
        rintro _ rfl
        refine op1 (s_oidx sl32 rfl rfl hO11 (by omega) (by omega) ?_)
        intro g2 hg2 hl_6 hl_7
        obtain rfl := Option.some.inj (hg2.symm.trans hgD1)
        exact ⟨rfl, grown_none_refl _⟩
      · intro w17 k16
        have hb12 := below_g0 hb3 k16
        have hz11 := hb12.size
        have hO12 := hO3.g0 k16
        rintro _ rfl
        rintro _ rfl
        refine op1 (s_ostore one44 rfl rfl rfl rfl hO12 hgD1 (by omega) (by omega) ⟨rfl, by omega⟩ ?_)
        intro w18 hO13 k17 hs3
        have hb13 := below_g hb12 k17 (by omega)
        exact ⟨hO13, k17⟩
      · intro w19 k18
        intro v_ hv_; subst v_
        rintro _ rfl
        rintro _ rfl
        rintro _ rfl
        rintro _ rfl
        rintro _ rfl
        rintro _ rfl
        rintro _ rfl
        rintro _ rfl
        rintro _ rfl
        rintro _ rfl
        rintro _ rfl
        intro v_ hO14
        have hb14 := below_g hb3 k18 (by omega)
        have hz12 := hb14.size
        refine st (s_assign rfl ?_)
        refine r_end ?_
        refine n_block ?_
        refine n_then ?_
        refine w_region ?_
        refine st (s_move rfl ?_)
        refine st (s_sub rfl rfl (by omega) ?_)
        refine st (s_assign rfl ?_)
        refine r_end ?_
        exact n_round (((i - 1)), (os.set (i).toNat ((((l * 4294967296) + (ix xs i)) / m) % 4294967296)), ((((l * 4294967296) + (ix xs i)) % m))) ⟨hb14, by omega, by rw [List.length_set]; exact hol, by dsimp only; omega, hO14, by rw [show i - 1 + 1 = i by omega]; exact (rdiv_step (by omega) (by omega) hi.2 hol e1 e2).1, by rw [show i - 1 + 1 = i by omega, Int.emod_eq_of_lt hq.1 hq.2]; exact (rdiv_step (by omega) (by omega) hi.2 hol e1 e2).2⟩ (by omega) (by exact ⟨rfl, rfl, rfl, rfl, rfl, rfl, rfl, trivial⟩)
    · refine w_exit' ?_
      refine n_then_exit ?_
      refine n_then_exit ?_
      refine n_block_exit ?_
      refine n_then ?_
      refine w_seq ?_
      refine w_region ?_
      refine st (s_move rfl ?_)
      refine st (s_call fn41 rfl (rnorm_any hO.sl.none (by first | omega | (simp; done) | (simp; omega))) ?_)
      rintro v2 w20 ⟨hq1, hS1⟩
      have k19 := grown_of_below hq1 none
      have hz13 := hq1.size
      have hb15 := below_g0 hb2 k19
      have hz14 := hb15.size
      have hO15 := hO.g0 k19
      refine st (s_move rfl ?_)
      refine st (s_convm (M := 4294967296) rfl rfl intk76 intk44 rfl ?_)
      refine st (s_assign rfl ?_)
      refine st (s_assign rfl ?_)
      refine r_end ?_
      refine n_then ?_
      refine w_ret2 rfl rfl rfl ?_
      obtain ⟨f1, f2⟩ := rdiv_end (by omega) e1 e2
      exact ⟨_, rfl, hb15, _, by rw [if_neg (by omega), show l % 4294967296 = l by omega, f1], by rw [← f2]; exact hS1⟩

theorem same_any {w : World} {a b : Value} {xs ys : List Int} (ha : Sl Kd.u32 w (fun _ => False) a xs) (hb : Sl Kd.u32 w (fun _ => False) b ys) :
    Calls Try.prog 25 [a, b].toArray w (Pure w fun v _ => v = .bool (decide (xs = ys))) := by
  have hb0 := Below.refl w.heap.size w
  have hln1 := ha.lenle
  have hln2 := hb.lenle
  refine enter Try.func25 rfl rfl ?_
  refine w_seq ?_
  refine w_region ?_
  refine st (s_assign rfl ?_)
  refine r_end ?_
  refine n_then ?_
  refine w_seq ?_
  refine w_seq ?_
  refine w_region ?_
  refine st (s_move rfl ?_)
  refine st (s_len sl32 rfl (ha.at0 hb0) ?_)
  refine st (s_move rfl ?_)
  refine st (s_len sl32 rfl (hb.at0 hb0) ?_)
  refine st (s_ne rfl rfl ?_)
  refine r_end ?_
  refine n_then ?_
  refine w_condP rfl (fun h1 => ?_) (fun h1 => ?_)
  · refine w_seq ?_
    refine w_region ?_
    refine st (s_assign rfl ?_)
    refine r_end ?_
    refine n_then ?_
    refine w_ret1 rfl rfl ?_
    exact ⟨_, rfl, hb0, by rw [decide_eq_false fun e => h1 (by rw [e])]⟩
  · refine w_skip' ?_
    refine n_then ?_
    refine w_seq ?_
    refine w_seq ?_
    refine w_region ?_
    refine st (s_assign rfl ?_)
    refine r_end ?_
    refine n_then ?_
    refine w_block ?_
    refine w_loop (α := Int) (fun (i : Int) => [(0, a), (1, b), (5, .int .i64 i)]) (fun (i : Int) W => Below w.heap.size w W ∧ (0 ≤ i ∧ i ≤ xs.length) ∧ (∀ j : Int, 0 ≤ j → j < i → ix xs j = ix ys j)) (fun (i : Int) => (xs.length - i).toNat) (0) ⟨hb0, by omega, fun j _ _ => by omega⟩ (by exact ⟨rfl, rfl, rfl, trivial⟩) ?_
    rintro i w1 ⟨hb1, hi, hs⟩
    have hz1 := hb1.size
    refine w_seq ?_
    refine w_seq ?_
    refine w_region ?_
    refine st (s_move rfl ?_)
    refine st (s_move rfl ?_)
    refine st (s_len sl32 rfl (ha.at0 hb1) ?_)
    refine st (s_lt rfl rfl ?_)
    refine r_end ?_
    refine n_then ?_
    refine w_condP rfl (fun h2 => ?_) (fun h2 => ?_)
    · refine w_skip' ?_
      refine n_then ?_
      refine w_seq ?_
      refine w_block ?_
      refine w_seq ?_
      obtain ⟨b1, o1, _, hat1, ⟨rfl, hr1⟩, hc1, hF1, hlt1⟩ := (ha.at0 hb1).elem i (by omega) (by omega)
      have hl_1 := Loc.lt hF1
      obtain ⟨b2, o2, _, hat2, ⟨rfl, hr2⟩, hc2, hF2, hlt2⟩ := (hb.at0 hb1).elem i (by omega) (by omega)
      have hl_2 := Loc.lt hF2
      refine w_draw 9 (fun a b => a.grownBy b none) [(some 17, fun v _ => v = a), (some 18, fun v _ => v = .int .i64 i), (some 19, fun v _ => v = .pointer (some ⟨b1, o1, none⟩)), (some 20, fun v _ => v = .int .u32 (ix xs i)), (some 21, fun v _ => v = b), (some 22, fun v _ => v = .int .i64 i), (some 23, fun v _ => v = .pointer (some ⟨b2, o2, none⟩)), (some 24, fun v _ => v = .int .u32 (ix ys i)), (some 25, fun v _ => v = .bool (decide ((ix xs i) ≠ (ix ys i))))] [[], [], [0, 1], [2], [], [], [4, 5], [6], [3, 7]] [(0, a), (1, b), (5, .int .i64 i)] (by exact ⟨rfl, rfl, rfl, trivial⟩) (by kernel_rfl) (by kernel_rfl) grown_none_refl (fun _ _ _ => grown_none_trans) ⟨fun _ _ _ h _ => h, fun _ _ _ h _ => h, fun _ _ _ h _ => h, fun _ _ _ h _ => h, fun _ _ _ h _ => h, fun _ _ _ h _ => h, fun _ _ _ h _ => h, fun _ _ _ h _ => h, fun _ _ _ h _ => h, trivial⟩ ?_
      intro w2 k1 hs1
      have hb2 := below_g0 hb1 k1
      refine ⟨⟨?_, ?_, ?_, ?_, ?_, ?_, ?_, ?_, ?_, trivial⟩, ?_⟩
      · intro w3 k2
        have hb3 := below_g0 hb2 k2
        refine op1 (s_move rfl ?_)
        exact ⟨rfl, grown_none_refl _⟩
      · intro w4 k3
        have hb4 := below_g0 hb2 k3
        refine op1 (s_move rfl ?_)
        exact ⟨rfl, grown_none_refl _⟩
      · intro w5 k4
        have hb5 := below_g0 hb2 k4
        intro v_ hv_; subst v_
        rintro _ rfl
        refine op1 (s_idxat sl32 rfl rfl hat1 ?_)
        exact ⟨rfl, grown_none_refl _⟩
      · intro w6 k5
        have hb6 := below_g0 hb2 k5
        rintro _ rfl
        refine op1 (s_load one44 rfl (range_g0 (range_g0 hc1 k1) k5) (j := 0) rfl ?_)
        exact ⟨rfl, grown_none_refl _⟩
      · intro w7 k6
        have hb7 := below_g0 hb2 k6
        refine op1 (s_move rfl ?_)
        exact ⟨rfl, grown_none_refl _⟩
      · intro w8 k7
        have hb8 := below_g0 hb2 k7
        refine op1 (s_move rfl ?_)
        exact ⟨rfl, grown_none_refl _⟩
      · intro w9 k8
        have hb9 := below_g0 hb2 k8
        intro v_ hv_; subst v_
        rintro _ rfl
        refine op1 (s_idxat sl32 rfl rfl hat2 ?_)
        exact ⟨rfl, grown_none_refl _⟩
      · intro w10 k9
        have hb10 := below_g0 hb2 k9
        rintro _ rfl
        refine op1 (s_load one44 rfl (range_g0 (range_g0 hc2 k1) k9) (j := 0) rfl ?_)
        exact ⟨rfl, grown_none_refl _⟩
      · intro w11 k10
        have hb11 := below_g0 hb2 k10
        rintro _ rfl
        rintro _ rfl
        refine op1 (s_ne rfl rfl ?_)
        exact ⟨rfl, grown_none_refl _⟩
      · intro w12 k11
        have hb12 := below_g0 hb2 k11
        intro v_ hv_; subst v_
        rintro _ rfl
        rintro _ rfl
        rintro _ rfl
        intro v_ hv_; subst v_
        rintro _ rfl
        rintro _ rfl
        rintro _ rfl
        rintro _ rfl
        refine r_end ?_
        refine n_then ?_
        refine w_condP rfl (fun h3 => ?_) (fun h3 => ?_)
        · refine w_seq ?_
          refine w_region ?_
          refine st (s_assign rfl ?_)
          refine r_end ?_
          refine n_then ?_
          refine w_ret1 rfl rfl ?_
          exact ⟨_, rfl, hb12, by rw [decide_eq_false fun e => h3 (by rw [e])]⟩
        · refine w_skip' ?_
          refine n_block ?_
          refine n_then ?_
          refine w_region ?_
          refine st (s_move rfl ?_)
          refine st (s_add rfl rfl (by omega) ?_)
          refine st (s_assign rfl ?_)
          refine r_end ?_
          exact n_round ((i + 1)) ⟨hb12, by omega, fun j j0 j1 => if q : j = i then by rw [q]; simpa using h3 else hs j j0 (by omega)⟩ (by omega) (by exact ⟨rfl, rfl, rfl, trivial⟩)
    · refine w_exit' ?_
      refine n_then_exit ?_
      refine n_then_exit ?_
      refine n_block_exit ?_
      refine n_then ?_
      refine w_seq ?_
      refine w_region ?_
      refine st (s_assign rfl ?_)
      refine r_end ?_
      refine n_then ?_
      refine w_ret1 rfl rfl ?_
      exact ⟨_, rfl, hb1, by rw [decide_eq_true (same_all (by omega) fun j j0 j1 => hs j j0 (by omega))]⟩
end Go.Proofs.Ytencmmhfiepojaa
