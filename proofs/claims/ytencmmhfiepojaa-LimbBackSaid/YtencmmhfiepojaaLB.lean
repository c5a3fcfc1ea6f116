/- Part of the proof that is named in YtencmmhfiepojaaLRowBack: a library for walks, or a function's walk. -/
import Derived.Test.YtencmmhfiepojaaLA
set_option maxRecDepth 20000
set_option linter.unusedSimpArgs false
set_option linter.unusedVariables false
namespace Go.Proofs.Ytencmmhfiepojaa
open Go.RowKit Go.Gw
theorem add32_any {w : World} {x y c : Int} (hx : 0 ≤ x ∧ x < 4294967296) (hy : 0 ≤ y ∧ y < 4294967296) (hc : 0 ≤ c ∧ c ≤ 1) :
    Calls Try.prog 78 [.int .u32 x, .int .u32 y, .int .u32 c].toArray w (Pure w fun v _ => v = .tuple #[.int .u32 ((x + y + c) % 4294967296), .int .u32 ((x + y + c) / 4294967296)]) := by
  have hb0 := Below.refl w.heap.size w
  refine enter Try.func78 rfl rfl ?_
  refine w_seq ?_
  refine w_region ?_
  refine st (s_assign rfl ?_)
  refine st (s_assign rfl ?_)
  refine r_end ?_
  refine n_then ?_
  refine w_seq ?_
  refine w_region ?_
  refine st (s_move rfl ?_)
  refine st (s_convk (M := 18446744073709551616) rfl rfl intk44 intk76 rfl (by omega) ?_)
  refine st (s_move rfl ?_)
  refine st (s_convk (M := 18446744073709551616) rfl rfl intk44 intk76 rfl (by omega) ?_)
  refine st (s_addk (M := 18446744073709551616) rfl rfl rfl rfl (by omega) ?_)
  refine st (s_move rfl ?_)
  refine st (s_convk (M := 18446744073709551616) rfl rfl intk44 intk76 rfl (by omega) ?_)
  refine st (s_addk (M := 18446744073709551616) rfl rfl rfl rfl (by omega) ?_)
  refine st (s_assign rfl ?_)
  refine r_end ?_
  refine n_then ?_
  refine w_seq ?_
  refine w_region ?_
  refine st (s_move rfl ?_)
  refine st (s_convm (M := 4294967296) rfl rfl intk76 intk44 rfl ?_)
  refine st (s_assign rfl ?_)
  refine r_end ?_
  refine n_then ?_
  refine w_seq ?_
  refine w_region ?_
  refine st (s_move rfl ?_)
  refine st (s_shrk (p := 4294967296) rfl rfl (by decide) (by decide) ?_)
  refine st (s_convm (M := 4294967296) rfl rfl intk76 intk44 rfl ?_)
  refine st (s_assign rfl ?_)
  refine r_end ?_
  refine n_then ?_
  refine w_ret2 rfl rfl rfl ?_
  exact ⟨_, rfl, hb0, by rw [show (x + y + c) / 4294967296 % 4294967296 = (x + y + c) / 4294967296 by omega]⟩

theorem sub32_any {w : World} {x y c : Int} (hx : 0 ≤ x ∧ x < 4294967296) (hy : 0 ≤ y ∧ y < 4294967296) (hc : 0 ≤ c ∧ c ≤ 1) :
    Calls Try.prog 73 [.int .u32 x, .int .u32 y, .int .u32 c].toArray w (Pure w fun v _ => v = .tuple #[.int .u32 ((x - y - c) % 4294967296), .int .u32 (if x < y + c then 1 else 0)]) := by
  have hb0 := Below.refl w.heap.size w
  refine enter Try.func73 rfl rfl ?_
  refine w_seq ?_
  refine w_region ?_
  refine st (s_assign rfl ?_)
  refine st (s_assign rfl ?_)
  refine r_end ?_
  refine n_then ?_
  refine w_seq ?_
  refine w_region ?_
  refine st (s_move rfl ?_)
  refine st (s_move rfl ?_)
  refine st (s_subk (M := 4294967296) rfl rfl rfl rfl ?_)
  refine st (s_move rfl ?_)
  refine st (s_subk (M := 4294967296) rfl rfl rfl rfl ?_)
  refine st (s_assign rfl ?_)
  refine r_end ?_
  refine n_then ?_
  refine w_seq ?_
  refine w_region ?_
  refine st (s_move rfl ?_)
  refine st (s_com32 rfl (by first | omega | exact ixor_lt (by omega) (by omega) | exact iand_lt (by omega) | exact iand_lt (ixor_lt (by omega) (by omega)) | exact ixor_lt (by omega) (ixor_lt (by omega) (by omega))) ?_)
  refine st (s_move rfl ?_)
  refine st (s_and (M := 4294967296) rfl rfl rfl rfl (by first | omega | exact ixor_lt (by omega) (by omega) | exact iand_lt (by omega) | exact iand_lt (ixor_lt (by omega) (by omega)) | exact ixor_lt (by omega) (ixor_lt (by omega) (by omega))) (by first | omega | exact ixor_lt (by omega) (by omega) | exact iand_lt (by omega) | exact iand_lt' (by omega)) ?_)
  refine st (s_move rfl ?_)
  refine st (s_move rfl ?_)
  refine st (s_xor (M := 4294967296) rfl rfl rfl rfl (by first | omega | exact ixor_lt (by omega) (by omega) | exact iand_lt (by omega) | exact iand_lt (ixor_lt (by omega) (by omega)) | exact ixor_lt (by omega) (ixor_lt (by omega) (by omega))) (by first | omega | exact ixor_lt (by omega) (by omega) | exact iand_lt (by omega) | exact iand_lt' (by omega)) ?_)
  refine st (s_com32 rfl (by first | omega | exact ixor_lt (by omega) (by omega) | exact iand_lt (by omega) | exact iand_lt (ixor_lt (by omega) (by omega)) | exact ixor_lt (by omega) (ixor_lt (by omega) (by omega))) ?_)
  refine st (s_move rfl ?_)
  refine st (s_and (M := 4294967296) rfl rfl rfl rfl (by first | omega | exact ixor_lt (by omega) (by omega) | exact iand_lt (by omega) | exact iand_lt (ixor_lt (by omega) (by omega)) | exact ixor_lt (by omega) (ixor_lt (by omega) (by omega))) (by first | omega | exact ixor_lt (by omega) (by omega) | exact iand_lt (by omega) | exact iand_lt' (by omega)) ?_)
  refine st (s_or (M := 4294967296) rfl rfl rfl rfl (by first | omega | exact ixor_lt (by omega) (by omega) | exact iand_lt (by omega) | exact iand_lt (ixor_lt (by omega) (by omega)) | exact ixor_lt (by omega) (ixor_lt (by omega) (by omega))) (by first | omega | exact ixor_lt (by omega) (by omega) | exact iand_lt (by omega) | exact iand_lt' (by omega)) ?_)
  refine st (s_shrk (p := 2147483648) rfl rfl (by decide) (by decide) ?_)
  refine st (s_assign rfl ?_)
  refine r_end ?_
  refine n_then ?_
  refine w_ret2 rfl rfl rfl ?_
  exact ⟨_, rfl, hb0, by rw [borrow_bit hx hy hc, show ((x - y) % 4294967296 - c) % 4294967296 = (x - y - c) % 4294967296 by omega]⟩

theorem add_any {w : World} {a b : Value} {xs ys : List Int} (ha : Sl Kd.u32 w (fun _ => False) a xs) (hb : Sl Kd.u32 w (fun _ => False) b ys) (hla : xs.length ≤ 100000) (hlb : ys.length ≤ 100000) :
    Calls Try.prog 26 [a, b].toArray w (Pure w fun v W => Sl Kd.u32 W (fun _ => False) v (tl (nv xs + nv ys))) := by
  have hb0 := Below.refl w.heap.size w
  have hln1 := ha.lenle
  have hln2 := hb.lenle
  refine enter Try.func26 rfl rfl ?_
  refine w_seq ?_
  refine w_region ?_
  refine st (s_assign rfl ?_)
  refine r_end ?_
  refine n_then ?_
  refine w_seq ?_
  refine w_seq ?_
  refine w_region ?_
  refine st (s_move rfl ?_)
  refine st (s_len sl32 rfl (ha.at0 hb0) ?_)
  refine st (s_move rfl ?_)
  refine st (s_len sl32 rfl (hb.at0 hb0) ?_)
  refine st (s_lt rfl rfl ?_)
  refine r_end ?_
  refine n_then ?_
  refine w_condP rfl (fun h1 => ?_) (fun h1 => ?_)
  · refine w_region ?_
    refine st (s_move rfl ?_)
    refine st (s_move rfl ?_)
    refine st (s_assign rfl ?_)
    refine st (s_assign rfl ?_)
    refine r_end ?_
    refine n_then ?_
    refine w_seq ?_
    refine w_region ?_
    refine st (s_move rfl ?_)
    refine st (s_len sl32 rfl (hb.at0 hb0) ?_)
    refine st (s_add rfl rfl (by omega) ?_)
    refine st (s_make (K := Kd.u32) (base := w.heap.size) (F := (fun _ => False)) sl32 rfl (by omega) (by omega) (by omega) (fun _ _ => ⟨rfl, by decide⟩) (by omega) (fun _ h => h.elim) ?_)
    intro v1 w1 hO1 k1
    have hb1 := below_g0 hb0 k1
    have hz1 := hb1.size
    refine st (s_assign rfl ?_)
    refine r_end ?_
    refine n_then ?_
    refine w_seq ?_
    refine w_region ?_
    refine st (s_assign rfl ?_)
    refine r_end ?_
    refine n_then ?_
    refine w_seq ?_
    refine w_seq ?_
    refine w_region ?_
    refine st (s_move rfl ?_)
    refine st (s_len sl32 rfl (hb.at0 hb1) ?_)
    refine st (s_move rfl ?_)
    refine r_end ?_
    refine n_then ?_
    refine w_block ?_
    refine w_loop (α := Int × List Int × Int) (fun ((i, os, c) : Int × List Int × Int) => [(0, b), (1, a), (4, .slice none 0 0), (5, v1), (6, .int .u32 c), (21, b), (22, .int .i64 (ys.length : Int)), (23, .int .i64 i)]) (fun ((i, os, c) : Int × List Int × Int) W => Below w.heap.size w W ∧ (0 ≤ i ∧ i ≤ (ys).length) ∧ ((os.length : Int) = (ys).length + 1) ∧ (0 ≤ c ∧ c ≤ 1) ∧ (Gw.Own Kd.u32 44 w.heap.size W (fun _ => False) v1 os) ∧ (nv (os.take i.toNat) + PW i.toNat * c = nv ((ys).take i.toNat) + nv ((xs).take i.toNat))) (fun ((i, os, c) : Int × List Int × Int) => ((ys).length - i).toNat) ((0), (List.replicate (((ys.length : Int) + 1)).toNat 0), (0)) ⟨hb1, by omega, by first | (simp; done) | (simp; omega), by omega, hO1, by simp [nv]⟩ (by exact ⟨rfl, rfl, rfl, rfl, rfl, rfl, rfl, rfl, trivial⟩) ?_
    rintro ⟨i, os, c⟩ w2 ⟨hb2, hi, hol, hc, hO, hn⟩
    dsimp only at *
    have hz2 := hb2.size
    have hxa := (lim_sl hb).ix i
    have hxb := (lim_sl ha).ix i
    refine w_seq ?_
    refine w_region ?_
    refine st (s_lt rfl rfl ?_)
    refine r_end ?_
    refine n_then ?_
    refine w_seq ?_
    refine w_condP rfl (fun h2 => ?_) (fun h2 => ?_)
    · refine w_skip' ?_
      refine n_then ?_
      refine w_seq ?_
      refine w_block ?_
      refine w_seq ?_
      refine w_region ?_
      refine st (s_move rfl ?_)
      refine st (s_idx sl32 rfl rfl (hb.at0 hb2) (by omega) (by omega) ?_)
      rintro b1 o1 _ ⟨rfl, hr1⟩ hc1 hF1 hlt1
      have hl_1 := Loc.lt hF1
      refine st (s_load one44 rfl hc1 (j := 0) rfl ?_)
      refine st (s_assign rfl ?_)
      refine st (s_assign rfl ?_)
      refine r_end ?_
      refine n_then ?_
      refine w_seq ?_
      refine w_region ?_
      refine st (s_assign rfl ?_)
      refine r_end ?_
      refine n_then ?_
      refine w_seq ?_
      refine w_seq ?_
      refine w_region ?_
      refine st (s_move rfl ?_)
      refine st (s_move rfl ?_)
      refine st (s_len sl32 rfl (ha.at0 hb2) ?_)
      refine st (s_lt rfl rfl ?_)
      refine r_end ?_
      refine n_then ?_
      refine w_condP rfl (fun h3 => ?_) (fun h3 => ?_)
      · refine w_region ?_
        refine st (s_move rfl ?_)
        refine st (s_move rfl ?_)
        refine st (s_idx sl32 rfl rfl (ha.at0 hb2) (by omega) (by omega) ?_)
        rintro b2 o2 _ ⟨rfl, hr2⟩ hc2 hF2 hlt2
        have hl_2 := Loc.lt hF2
        refine st (s_load one44 rfl hc2 (j := 0) rfl ?_)
        refine st (s_assign rfl ?_)
        refine r_end ?_
        refine n_then ?_
        refine w_region ?_
        refine st (s_move rfl ?_)
        refine st (s_move rfl ?_)
        refine st (s_move rfl ?_)
        refine st (s_move rfl ?_)
        refine st (s_move rfl ?_)
        refine st (s_call fn78 rfl (add32_any (by omega) (by omega) (by omega)) ?_)
        rintro _ w3 ⟨hq1, rfl⟩
        have k2 := grown_of_below hq1 none
        have hz3 := hq1.size
        have hb3 := below_g0 hb2 k2
        have hz4 := hb3.size
        have hO2 := hO.g0 k2
        refine st (s_move rfl ?_)
        refine st (s_extract rfl rfl ?_)
        refine st (s_extract rfl rfl ?_)
        refine st (s_oidx sl32 rfl rfl hO2 (by omega) (by first | omega | (simp; done) | (simp; omega)) ?_)
        intro g1 hg1 hl_3 hl_4
        refine st0 (s_ostore one44 rfl rfl rfl rfl hO2 hg1 (by omega) (by first | omega | (simp; done) | (simp; omega)) ⟨rfl, by omega⟩ ?_)
        intro w4 hO3 k3 hs1
        have hb4 := below_g hb3 k3 (by omega)
        refine st (s_assign rfl ?_)
        refine r_end ?_
        refine n_block ?_
        refine n_then ?_
        refine w_region ?_
        refine st (s_add rfl rfl (by omega) ?_)
        refine st (s_move rfl ?_)
        refine r_end ?_
        exact n_round (((i + 1)), (os.set (i).toNat (((ix ys i) + (ix xs i) + c) % 4294967296)), ((((ix ys i) + (ix xs i) + c) / 4294967296))) ⟨hb4, by omega, by simp; omega, by dsimp only; exact ⟨by omega, by omega⟩, hO3, add_step hn hi.1 (by omega) rfl rfl⟩ (by omega) (by exact ⟨rfl, rfl, rfl, rfl, rfl, rfl, rfl, rfl, trivial⟩)
      · refine w_skip' ?_
        refine n_then ?_
        refine w_region ?_
        refine st (s_move rfl ?_)
        refine st (s_move rfl ?_)
        refine st (s_move rfl ?_)
        refine st (s_move rfl ?_)
        refine st (s_move rfl ?_)
        refine st (s_call fn78 rfl (add32_any (by omega) (by omega) (by omega)) ?_)
        rintro _ w5 ⟨hq2, rfl⟩
        have k4 := grown_of_below hq2 none
        have hz5 := hq2.size
        have hb5 := below_g0 hb2 k4
        have hz6 := hb5.size
        have hO4 := hO.g0 k4
        refine st (s_move rfl ?_)
        refine st (s_extract rfl rfl ?_)
        refine st (s_extract rfl rfl ?_)
        refine st (s_oidx sl32 rfl rfl hO4 (by omega) (by first | omega | (simp; done) | (simp; omega)) ?_)
        intro g2 hg2 hl_5 hl_6
        refine st0 (s_ostore one44 rfl rfl rfl rfl hO4 hg2 (by omega) (by first | omega | (simp; done) | (simp; omega)) ⟨rfl, by omega⟩ ?_)
        intro w6 hO5 k5 hs2
        have hb6 := below_g hb5 k5 (by omega)
        refine st (s_assign rfl ?_)
        refine r_end ?_
        refine n_block ?_
        refine n_then ?_
        refine w_region ?_
        refine st (s_add rfl rfl (by omega) ?_)
        refine st (s_move rfl ?_)
        refine r_end ?_
        exact n_round (((i + 1)), (os.set (i).toNat (((ix ys i) + (0 : Int) + c) % 4294967296)), ((((ix ys i) + (0 : Int) + c) / 4294967296))) ⟨hb6, by omega, by simp; omega, by dsimp only; exact ⟨by omega, by omega⟩, hO5, add_step hn hi.1 (by omega) rfl (ix_over (by omega)).symm⟩ (by omega) (by exact ⟨rfl, rfl, rfl, rfl, rfl, rfl, rfl, rfl, trivial⟩)
    · refine w_exit' ?_
      refine n_then_exit ?_
      refine n_then_exit ?_
      refine n_block_exit ?_
      refine n_then ?_
      refine w_seq ?_
      refine w_region ?_
      refine st (s_move rfl ?_)
      refine st (s_move rfl ?_)
      refine st (s_len sl32 rfl (hb.at0 hb2) ?_)
      refine st (s_move rfl ?_)
      refine st (s_oidx sl32 rfl rfl hO (by omega) (by first | omega | (simp; done) | (simp; omega)) ?_)
      intro g3 hg3 hl_7 hl_8
      refine st0 (s_ostore one44 rfl rfl rfl rfl hO hg3 (by omega) (by first | omega | (simp; done) | (simp; omega)) ⟨rfl, by omega⟩ ?_)
      intro w7 hO6 k6 hs3
      have hb7 := below_g hb2 k6 (by omega)
      refine r_end ?_
      refine n_then ?_
      refine w_seq ?_
      refine w_region ?_
      refine st (s_move rfl ?_)
      refine st (s_call fn74 rfl (cut_any hO6.sl) ?_)
      rintro v2 w8 ⟨hq3, hS1⟩
      have k7 := grown_of_below hq3 none
      have hz7 := hq3.size
      have hb8 := below_g0 hb7 k7
      have hz8 := hb8.size
      have hO7 := hO6.g0 k7
      have hS2 := hS1.none.g0 k7
      refine st (s_assign rfl ?_)
      refine r_end ?_
      refine n_then ?_
      refine w_ret1 rfl rfl ?_
      have hend := add_end hn hi.1 (by omega) (by omega) (by omega)
      refine ⟨_, rfl, hb8, ?_⟩
      rw [Int.add_comm (nv xs), ← hend]
      exact hS2
  · refine w_skip' ?_
    refine n_then ?_
    refine w_seq ?_
    refine w_region ?_
    refine st (s_move rfl ?_)
    refine st (s_len sl32 rfl (ha.at0 hb0) ?_)
    refine st (s_add rfl rfl (by omega) ?_)
    refine st (s_make (K := Kd.u32) (base := w.heap.size) (F := (fun _ => False)) sl32 rfl (by omega) (by omega) (by omega) (fun _ _ => ⟨rfl, by decide⟩) (by omega) (fun _ h => h.elim) ?_)
    intro v3 w9 hO8 k8
    have hb9 := below_g0 hb0 k8
    have hz9 := hb9.size
    refine st (s_assign rfl ?_)
    refine r_end ?_
    refine n_then ?_
    refine w_seq ?_
    refine w_region ?_
    refine st (s_assign rfl ?_)
    refine r_end ?_
    refine n_then ?_
    refine w_seq ?_
    refine w_seq ?_
    refine w_region ?_
    refine st (s_move rfl ?_)
    refine st (s_len sl32 rfl (ha.at0 hb9) ?_)
    refine st (s_move rfl ?_)
    refine r_end ?_
    refine n_then ?_
    refine w_block ?_
    refine w_loop (α := Int × List Int × Int) (fun ((i, os, c) : Int × List Int × Int) => [(0, a), (1, b), (4, .slice none 0 0), (5, v3), (6, .int .u32 c), (21, a), (22, .int .i64 (xs.length : Int)), (23, .int .i64 i)]) (fun ((i, os, c) : Int × List Int × Int) W => Below w.heap.size w W ∧ (0 ≤ i ∧ i ≤ (xs).length) ∧ ((os.length : Int) = (xs).length + 1) ∧ (0 ≤ c ∧ c ≤ 1) ∧ (Gw.Own Kd.u32 44 w.heap.size W (fun _ => False) v3 os) ∧ (nv (os.take i.toNat) + PW i.toNat * c = nv ((xs).take i.toNat) + nv ((ys).take i.toNat))) (fun ((i, os, c) : Int × List Int × Int) => ((xs).length - i).toNat) ((0), (List.replicate (((xs.length : Int) + 1)).toNat 0), (0)) ⟨hb9, by omega, by first | (simp; done) | (simp; omega), by omega, hO8, by simp [nv]⟩ (by exact ⟨rfl, rfl, rfl, rfl, rfl, rfl, rfl, rfl, trivial⟩) ?_
    rintro ⟨i, os, c⟩ w10 ⟨hb10, hi, hol, hc, hO, hn⟩
    dsimp only at *
    have hz10 := hb10.size
    have hxa := (lim_sl ha).ix i
    have hxb := (lim_sl hb).ix i
    refine w_seq ?_
    refine w_region ?_
    refine st (s_lt rfl rfl ?_)
    refine r_end ?_
    refine n_then ?_
    refine w_seq ?_
    refine w_condP rfl (fun h4 => ?_) (fun h4 => ?_)
    · refine w_skip' ?_
      refine n_then ?_
      refine w_seq ?_
      refine w_block ?_
      refine w_seq ?_
      refine w_region ?_
      refine st (s_move rfl ?_)
      refine st (s_idx sl32 rfl rfl (ha.at0 hb10) (by omega) (by omega) ?_)
      rintro b3 o3 _ ⟨rfl, hr3⟩ hc3 hF3 hlt3
      have hl_9 := Loc.lt hF3
      refine st (s_load one44 rfl hc3 (j := 0) rfl ?_)
      refine st (s_assign rfl ?_)
      refine st (s_assign rfl ?_)
      refine r_end ?_
      refine n_then ?_
      refine w_seq ?_
      refine w_region ?_
      refine st (s_assign rfl ?_)
      refine r_end ?_
      refine n_then ?_
      refine w_seq ?_
      refine w_seq ?_
      refine w_region ?_
      refine st (s_move rfl ?_)
      refine st (s_move rfl ?_)
      refine st (s_len sl32 rfl (hb.at0 hb10) ?_)
      refine st (s_lt rfl rfl ?_)
      refine r_end ?_
      refine n_then ?_
      refine w_condP rfl (fun h5 => ?_) (fun h5 => ?_)
      · refine w_region ?_
        refine st (s_move rfl ?_)
        refine st (s_move rfl ?_)
        refine st (s_idx sl32 rfl rfl (hb.at0 hb10) (by omega) (by omega) ?_)
        rintro b4 o4 _ ⟨rfl, hr4⟩ hc4 hF4 hlt4
        have hl_10 := Loc.lt hF4
        refine st (s_load one44 rfl hc4 (j := 0) rfl ?_)
        refine st (s_assign rfl ?_)
        refine r_end ?_
        refine n_then ?_
        refine w_region ?_
        refine st (s_move rfl ?_)
        refine st (s_move rfl ?_)
        refine st (s_move rfl ?_)
        refine st (s_move rfl ?_)
        refine st (s_move rfl ?_)
        refine st (s_call fn78 rfl (add32_any (by omega) (by omega) (by omega)) ?_)
        rintro _ w11 ⟨hq4, rfl⟩
        have k9 := grown_of_below hq4 none
        have hz11 := hq4.size
        have hb11 := below_g0 hb10 k9
        have hz12 := hb11.size
        have hO9 := hO.g0 k9
        refine st (s_move rfl ?_)
        refine st (s_extract rfl rfl ?_)
        refine st (s_extract rfl rfl ?_)
        refine st (s_oidx sl32 rfl rfl hO9 (by omega) (by first | omega | (simp; done) | (simp; omega)) ?_)
        intro g4 hg4 hl_11 hl_12
        refine st0 (s_ostore one44 rfl rfl rfl rfl hO9 hg4 (by omega) (by first | omega | (simp; done) | (simp; omega)) ⟨rfl, by omega⟩ ?_)
        intro w12 hO10 k10 hs4
        have hb12 := below_g hb11 k10 (by omega)
        refine st (s_assign rfl ?_)
        refine r_end ?_
        refine n_block ?_
        refine n_then ?_
        refine w_region ?_
        refine st (s_add rfl rfl (by omega) ?_)
        refine st (s_move rfl ?_)
        refine r_end ?_
        exact n_round (((i + 1)), (os.set (i).toNat (((ix xs i) + (ix ys i) + c) % 4294967296)), ((((ix xs i) + (ix ys i) + c) / 4294967296))) ⟨hb12, by omega, by simp; omega, by dsimp only; exact ⟨by omega, by omega⟩, hO10, add_step hn hi.1 (by omega) rfl rfl⟩ (by omega) (by exact ⟨rfl, rfl, rfl, rfl, rfl, rfl, rfl, rfl, trivial⟩)
      · refine w_skip' ?_
        refine n_then ?_
        refine w_region ?_
        refine st (s_move rfl ?_)
        refine st (s_move rfl ?_)
        refine st (s_move rfl ?_)
        refine st (s_move rfl ?_)
        refine st (s_move rfl ?_)
        refine st (s_call fn78 rfl (add32_any (by omega) (by omega) (by omega)) ?_)
        rintro _ w13 ⟨hq5, rfl⟩
        have k11 := grown_of_below hq5 none
        have hz13 := hq5.size
        have hb13 := below_g0 hb10 k11
        have hz14 := hb13.size
        have hO11 := hO.g0 k11
        refine st (s_move rfl ?_)
        refine st (s_extract rfl rfl ?_)
        refine st (s_extract rfl rfl ?_)
        refine st (s_oidx sl32 rfl rfl hO11 (by omega) (by first | omega | (simp; done) | (simp; omega)) ?_)
        intro g5 hg5 hl_13 hl_14
        refine st0 (s_ostore one44 rfl rfl rfl rfl hO11 hg5 (by omega) (by first | omega | (simp; done) | (simp; omega)) ⟨rfl, by omega⟩ ?_)
        intro w14 hO12 k12 hs5
        have hb14 := below_g hb13 k12 (by omega)
        refine st (s_assign rfl ?_)
        refine r_end ?_
        refine n_block ?_
        refine n_then ?_
        refine w_region ?_
        refine st (s_add rfl rfl (by omega) ?_)
        refine st (s_move rfl ?_)
        refine r_end ?_
        exact n_round (((i + 1)), (os.set (i).toNat (((ix xs i) + (0 : Int) + c) % 4294967296)), ((((ix xs i) + (0 : Int) + c) / 4294967296))) ⟨hb14, by omega, by simp; omega, by dsimp only; exact ⟨by omega, by omega⟩, hO12, add_step hn hi.1 (by omega) rfl (ix_over (by omega)).symm⟩ (by omega) (by exact ⟨rfl, rfl, rfl, rfl, rfl, rfl, rfl, rfl, trivial⟩)
    · refine w_exit' ?_
      refine n_then_exit ?_
      refine n_then_exit ?_
      refine n_block_exit ?_
      refine n_then ?_
      refine w_seq ?_
      refine w_region ?_
      refine st (s_move rfl ?_)
      refine st (s_move rfl ?_)
      refine st (s_len sl32 rfl (ha.at0 hb10) ?_)
      refine st (s_move rfl ?_)
      refine st (s_oidx sl32 rfl rfl hO (by omega) (by first | omega | (simp; done) | (simp; omega)) ?_)
      intro g6 hg6 hl_15 hl_16
      refine st0 (s_ostore one44 rfl rfl rfl rfl hO hg6 (by omega) (by first | omega | (simp; done) | (simp; omega)) ⟨rfl, by omega⟩ ?_)
      intro w15 hO13 k13 hs6
      have hb15 := below_g hb10 k13 (by omega)
      refine r_end ?_
      refine n_then ?_
      refine w_seq ?_
      refine w_region ?_
      refine st (s_move rfl ?_)
      refine st (s_call fn74 rfl (cut_any hO13.sl) ?_)
      rintro v4 w16 ⟨hq6, hS3⟩
      have k14 := grown_of_below hq6 none
      have hz15 := hq6.size
      have hb16 := below_g0 hb15 k14
      have hz16 := hb16.size
      have hO14 := hO13.g0 k14
      have hS4 := hS3.none.g0 k14
      refine st (s_assign rfl ?_)
      refine r_end ?_
      refine n_then ?_
      refine w_ret1 rfl rfl ?_
      have hend := add_end hn hi.1 (by omega) (by omega) (by omega)
      refine ⟨_, rfl, hb16, ?_⟩
      rw [← hend]
      exact hS4
end Go.Proofs.Ytencmmhfiepojaa
