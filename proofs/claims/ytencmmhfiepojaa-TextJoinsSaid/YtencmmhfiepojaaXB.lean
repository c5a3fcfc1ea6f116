/- Part of the proof that is named in YtencmmhfiepojaaXRowJoins: a library for walks, or a function's walk. -/
import Derived.Test.YtencmmhfiepojaaXA
set_option maxRecDepth 20000
set_option linter.unusedSimpArgs false
set_option linter.unusedVariables false
namespace Go.Proofs.Ytencmmhfiepojaa
open Go.RowKit Go.Gw
theorem count_any {w : World} {s : ByteArray} {c : ByteArray} (hc : bl c = [10]) :
    Calls Try.prog 70 [.string s, .string c].toArray w (Pure w fun v _ => v = .int .i64 (((bl s).count 10 : Nat) : Int)) := by
  have hb0 := Below.refl w.heap.size w
  have hcl : (bl c).length = 1 := by rw [hc]; rfl
  refine enter Try.func70 rfl rfl ?_
  refine w_seq ?_
  refine w_region ?_
  refine st (s_assign rfl ?_)
  refine r_end ?_
  refine n_then ?_
  refine w_seq ?_
  refine w_seq ?_
  refine w_region ?_
  refine st (s_move rfl ?_)
  refine st (s_slen str9 rfl ?_)
  refine st (s_eq rfl rfl ?_)
  refine r_end ?_
  refine n_then ?_
  refine w_condP rfl (fun h1 => absurd h1 (by omega)) (fun h1 => ?_)
  refine w_skip' ?_
  refine n_then ?_
  refine w_seq ?_
  refine w_seq ?_
  refine w_region ?_
  refine st (s_move rfl ?_)
  refine st (s_slen str9 rfl ?_)
  refine st (s_eq rfl rfl ?_)
  refine r_end ?_
  refine n_then ?_
  refine w_condP rfl (fun h2 => ?_) (fun h2 => absurd h2 (by omega))
  refine w_seq ?_
  refine w_region ?_
  refine st (s_move rfl ?_)
  refine st (s_move rfl ?_)
  refine st (s_sidx str9 rfl rfl (by omega) (by omega) ?_)
  refine st (s_count ext87 rfl rfl (by first | omega | exact (bl_range _ _).1) (by first | omega | exact (bl_range _ _).2) ?_)
  refine st (s_assign rfl ?_)
  refine r_end ?_
  refine n_then ?_
  refine w_ret1 rfl rfl ?_
  exact ⟨_, rfl, hb0, by rw [hc]; rfl⟩

theorem last_any {w : World} {s : ByteArray} {c : Int} (hs : ((bl s).length : Int) ≤ 4611686018427387904) :
    Calls Try.prog 89 [.string s, .int .u8 c].toArray w (Pure w fun v _ => v = .int .i64 (lastN (bl s) c (bl s).length)) := by
  have hb0 := Below.refl w.heap.size w
  refine enter Try.func89 rfl rfl ?_
  refine w_seq ?_
  refine w_region ?_
  refine st (s_assign rfl ?_)
  refine r_end ?_
  refine n_then ?_
  refine w_seq ?_
  refine w_seq ?_
  refine w_region ?_
  refine st (s_move rfl ?_)
  refine st (s_slen str9 rfl ?_)
  refine st (s_sub rfl rfl (by omega) ?_)
  refine st (s_assign rfl ?_)
  refine r_end ?_
  refine n_then ?_
  refine w_block ?_
  refine w_loop (α := Int) (fun (i : Int) => [(0, .string s), (1, .int .u8 c), (5, .int .i64 i)]) (fun (i : Int) W => Below w.heap.size w W ∧ (-1 ≤ i ∧ i < (bl s).length) ∧ (lastN (bl s) c (i + 1).toNat = lastN (bl s) c (bl s).length)) (fun (i : Int) => (i + 1).toNat) (((bl s).length : Int) - 1) ⟨hb0, by omega, by rw [show (((bl s).length : Int) - 1 + 1).toNat = (bl s).length by omega]⟩ (by exact ⟨rfl, rfl, rfl, trivial⟩) ?_
  rintro i w1 ⟨hb1, hi, ha⟩
  have hz1 := hb1.size
  refine w_seq ?_
  refine w_seq ?_
  refine w_region ?_
  refine st (s_move rfl ?_)
  refine st (s_ge rfl rfl ?_)
  refine r_end ?_
  refine n_then ?_
  refine w_condP rfl (fun h1 => ?_) (fun h1 => ?_)
  · refine w_skip' ?_
    refine n_then ?_
    refine w_seq ?_
    refine w_block ?_
    refine w_seq ?_
    refine w_region ?_
    refine st (s_move rfl ?_)
    refine st (s_move rfl ?_)
    refine st (s_sidx str9 rfl rfl (by omega) (by omega) ?_)
    refine st (s_move rfl ?_)
    refine st (s_eq rfl rfl ?_)
    refine r_end ?_
    refine n_then ?_
    refine w_condP rfl (fun h2 => ?_) (fun h2 => ?_)
    · refine w_seq ?_
      refine w_region ?_
      refine st (s_move rfl ?_)
      refine st (s_assign rfl ?_)
      refine r_end ?_
      refine n_then ?_
      refine w_ret1 rfl rfl ?_
      exact ⟨_, rfl, hb1, by rw [← ha, last_next (by omega), if_pos h2]⟩
    · refine w_skip' ?_
      refine n_block ?_
      refine n_then ?_
      refine w_region ?_
      refine st (s_move rfl ?_)
      refine st (s_sub rfl rfl (by omega) ?_)
      refine st (s_assign rfl ?_)
      refine r_end ?_
      exact n_round ((i - 1)) ⟨hb1, by omega, by rw [show i - 1 + 1 = i by omega, ← ha, last_next (by omega), if_neg h2]⟩ (by omega) (by exact ⟨rfl, rfl, rfl, trivial⟩)
  · refine w_exit' ?_
    refine n_then_exit ?_
    refine n_then_exit ?_
    refine n_block_exit ?_
    refine n_then ?_
    refine w_seq ?_
    refine w_region ?_
    refine st (s_assign rfl ?_)
    refine r_end ?_
    refine n_then ?_
    refine w_ret1 rfl rfl ?_
    have e : i = -1 := by omega
    subst e
    exact ⟨_, rfl, hb1, by rw [← ha]; rfl⟩

theorem lastb_any {w : World} {s : ByteArray} {c : Int} (hs : ((bl s).length : Int) ≤ 4611686018427387904) :
    Calls Try.prog 71 [.string s, .int .u8 c].toArray w (Pure w fun v _ => v = .int .i64 (lastN (bl s) c (bl s).length)) := by
  have hb0 := Below.refl w.heap.size w
  refine enter Try.func71 rfl rfl ?_
  refine w_seq ?_
  refine w_region ?_
  refine st (s_assign rfl ?_)
  refine r_end ?_
  refine n_then ?_
  refine w_seq ?_
  refine w_region ?_
  refine st (s_move rfl ?_)
  refine st (s_move rfl ?_)
  refine st (s_call fn89 rfl (last_any (by omega)) ?_)
  rintro _ w1 ⟨hq1, rfl⟩
  have k1 := grown_of_below hq1 none
  have hz1 := hq1.size
  have hb1 := below_g0 hb0 k1
  have hz2 := hb1.size
  refine st (s_assign rfl ?_)
  refine r_end ?_
  refine n_then ?_
  refine w_ret1 rfl rfl ?_
  exact ⟨_, rfl, hb1, rfl⟩

theorem place_any {w : World} {s : ByteArray} {p : Int} (hs : ((bl s).length : Int) ≤ 4611686018427387904) :
    Calls Try.prog 14 [.string s, .int .i64 p].toArray w (Pure w fun v _ => v = .tuple #[.int .i64 (plL (bl s) p), .int .i64 (plC (bl s) p)]) := by
  have hb0 := Below.refl w.heap.size w
  refine enter Try.func14 rfl rfl ?_
  refine w_seq ?_
  refine w_region ?_
  refine st (s_assign rfl ?_)
  refine st (s_assign rfl ?_)
  refine r_end ?_
  refine n_then ?_
  refine w_seq ?_
  refine w_seq ?_
  refine w_region ?_
  refine st (s_move rfl ?_)
  refine st (s_lt rfl rfl ?_)
  refine st (s_move rfl ?_)
  refine r_caseP 9 rfl (fun h1 => ?_) (fun h1 => ?_)
  · refine s_pass rfl rfl ?_
    refine s_pass rfl rfl ?_
    refine s_pass rfl rfl ?_
    refine s_pass rfl rfl ?_
    refine st (s_pick rfl rfl ?_)
    refine r_end ?_
    refine n_then ?_
    refine w_condT rfl ?_
    refine w_seq ?_
    refine w_region ?_
    refine st (s_assign rfl ?_)
    refine st (s_assign rfl ?_)
    refine r_end ?_
    refine n_then ?_
    refine w_ret2 rfl rfl rfl ?_
    exact ⟨_, rfl, hb0, by rw [(pl_out (by omega)).1, (pl_out (by omega)).2]⟩
  · refine stg (s_move rfl ?_)
    refine stg (s_move rfl ?_)
    refine stg (s_slen str9 rfl ?_)
    refine stg (s_gt rfl rfl ?_)
    refine st (s_pick rfl rfl ?_)
    refine r_end ?_
    refine n_then ?_
    refine w_condP rfl (fun h2 => ?_) (fun h2 => ?_)
    · refine w_seq ?_
      refine w_region ?_
      refine st (s_assign rfl ?_)
      refine st (s_assign rfl ?_)
      refine r_end ?_
      refine n_then ?_
      refine w_ret2 rfl rfl rfl ?_
      exact ⟨_, rfl, hb0, by rw [(pl_out (by omega)).1, (pl_out (by omega)).2]⟩
    · have hp1 := pl_cut (s := s) (p := p) (by omega) (by omega)
      have hp2 := cnt_rng (bl s) 10 p.toNat
      have hp3 := last_rng (bl s) 10 p.toNat
      rw [← hp1.1] at hp2
      rw [← hp1.2] at hp3
      refine w_skip' ?_
      refine n_then ?_
      refine w_seq ?_
      refine w_region ?_
      refine st (s_move rfl ?_)
      refine st (s_move rfl ?_)
      refine st (s_scut str9 rfl rfl (by omega) (by omega) ?_)
      refine st (s_assign rfl ?_)
      refine r_end ?_
      refine n_then ?_
      refine w_seq ?_
      refine w_region ?_
      refine st (s_move rfl ?_)
      refine st (s_call fn70 rfl (count_any rfl) ?_)
      rintro _ w1 ⟨hq1, rfl⟩
      have k1 := grown_of_below hq1 none
      have hz1 := hq1.size
      have hb1 := below_g0 hb0 k1
      have hz2 := hb1.size
      refine st (s_add rfl rfl (by omega) ?_)
      refine st (s_move rfl ?_)
      refine st (s_move rfl ?_)
      refine st (s_call fn71 rfl (lastb_any (by first | omega | (simp [bl_extract]; omega))) ?_)
      rintro _ w2 ⟨hq2, rfl⟩
      have k2 := grown_of_below hq2 none
      have hz3 := hq2.size
      have hb2 := below_g0 hb1 k2
      have hz4 := hb2.size
      refine st (s_sub rfl rfl (by omega) ?_)
      refine st (s_assign rfl ?_)
      refine st (s_assign rfl ?_)
      refine r_end ?_
      refine n_then ?_
      refine w_ret2 rfl rfl rfl ?_
      exact ⟨_, rfl, hb2, by rw [(pl_in (xs := bl s) (p := p) (by omega) (by omega)).1, (pl_in (xs := bl s) (p := p) (by omega) (by omega)).2, ← (pl_cut (s := s) (p := p) (by omega) (by omega)).1, ← (pl_cut (s := s) (p := p) (by omega) (by omega)).2]⟩

theorem rplace_any {w : World} {s : ByteArray} {p : Int} (hs : ((bl s).length : Int) ≤ 4611686018427387904) :
    Calls Try.prog 15 [.string s, .int .i64 p].toArray w (Pure w fun v _ => v = .tuple #[.int .i64 (plL (bl s) p), .int .i64 (plC (bl s) p)]) := by
  have hb0 := Below.refl w.heap.size w
  refine enter Try.func15 rfl rfl ?_
  refine w_seq ?_
  refine w_region ?_
  refine st (s_assign rfl ?_)
  refine st (s_assign rfl ?_)
  refine r_end ?_
  refine n_then ?_
  refine w_seq ?_
  refine w_seq ?_
  refine w_region ?_
  refine st (s_move rfl ?_)
  refine st (s_lt rfl rfl ?_)
  refine st (s_move rfl ?_)
  refine r_caseP 11 rfl (fun h1 => ?_) (fun h1 => ?_)
  · refine s_pass rfl rfl ?_
    refine s_pass rfl rfl ?_
    refine s_pass rfl rfl ?_
    refine s_pass rfl rfl ?_
    refine st (s_pick rfl rfl ?_)
    refine r_end ?_
    refine n_then ?_
    refine w_condT rfl ?_
    refine w_seq ?_
    refine w_region ?_
    refine st (s_assign rfl ?_)
    refine st (s_assign rfl ?_)
    refine r_end ?_
    refine n_then ?_
    refine w_ret2 rfl rfl rfl ?_
    exact ⟨_, rfl, hb0, by rw [(pl_out (by omega)).1, (pl_out (by omega)).2]⟩
  · refine stg (s_move rfl ?_)
    refine stg (s_move rfl ?_)
    refine stg (s_slen str9 rfl ?_)
    refine stg (s_gt rfl rfl ?_)
    refine st (s_pick rfl rfl ?_)
    refine r_end ?_
    refine n_then ?_
    refine w_condP rfl (fun h2 => ?_) (fun h2 => ?_)
    · refine w_seq ?_
      refine w_region ?_
      refine st (s_assign rfl ?_)
      refine st (s_assign rfl ?_)
      refine r_end ?_
      refine n_then ?_
      refine w_ret2 rfl rfl rfl ?_
      exact ⟨_, rfl, hb0, by rw [(pl_out (by omega)).1, (pl_out (by omega)).2]⟩
    · refine w_skip' ?_
      refine n_then ?_
      refine w_seq ?_
      refine w_region ?_
      refine st (s_assign rfl ?_)
      refine st (s_assign rfl ?_)
      refine r_end ?_
      refine n_then ?_
      refine w_seq ?_
      refine w_seq ?_
      refine w_region ?_
      refine st (s_assign rfl ?_)
      refine r_end ?_
      refine n_then ?_
      refine w_block ?_
      refine w_loop (α := Int × Int × Int) (fun ((i, line, col) : Int × Int × Int) => [(0, .string s), (1, .int .i64 p), (4, .int .i64 0), (5, .int .i64 0), (6, .int .i64 line), (7, .int .i64 col), (8, .int .i64 i)]) (fun ((i, line, col) : Int × Int × Int) W => Below w.heap.size w W ∧ (0 ≤ i ∧ i ≤ p) ∧ (line = 1 + cntN (bl s) 10 i.toNat) ∧ (col = i - lastN (bl s) 10 i.toNat) ∧ (0 ≤ line ∧ line ≤ i + 1 ∧ 0 ≤ col ∧ col ≤ i + 1)) (fun ((i, line, col) : Int × Int × Int) => (p - i).toNat) ((0), (1), (1)) ⟨hb0, by omega, rfl, rfl, by omega⟩ (by exact ⟨rfl, rfl, rfl, rfl, rfl, rfl, rfl, trivial⟩) ?_
      rintro ⟨i, line, col⟩ w1 ⟨hb1, hi, hl, hc, hr⟩
      dsimp only at *
      have hz1 := hb1.size
      refine w_seq ?_
      refine w_seq ?_
      refine w_region ?_
      refine st (s_move rfl ?_)
      refine st (s_move rfl ?_)
      refine st (s_lt rfl rfl ?_)
      refine r_end ?_
      refine n_then ?_
      refine w_condP rfl (fun h3 => ?_) (fun h3 => ?_)
      · refine w_skip' ?_
        refine n_then ?_
        refine w_seq ?_
        refine w_block ?_
        refine w_seq ?_
        refine w_region ?_
        refine st (s_move rfl ?_)
        refine st (s_add rfl rfl (by omega) ?_)
        refine st (s_assign rfl ?_)
        refine r_end ?_
        refine n_then ?_
        refine w_seq ?_
        refine w_region ?_
        refine st (s_move rfl ?_)
        refine st (s_move rfl ?_)
        refine st (s_sidx str9 rfl rfl (by omega) (by omega) ?_)
        refine st (s_eq rfl rfl ?_)
        refine r_end ?_
        refine n_then ?_
        refine w_condP rfl (fun h4 => ?_) (fun h4 => ?_)
        · refine w_region ?_
          refine st (s_move rfl ?_)
          refine st (s_add rfl rfl (by omega) ?_)
          refine st (s_assign rfl ?_)
          refine st (s_assign rfl ?_)
          refine r_end ?_
          refine n_block ?_
          refine n_then ?_
          refine w_region ?_
          refine st (s_move rfl ?_)
          refine st (s_add rfl rfl (by omega) ?_)
          refine st (s_assign rfl ?_)
          refine r_end ?_
          exact n_round (((i + 1)), ((line + 1)), (1)) ⟨hb1, by omega, by dsimp only; rw [cnt_next (by omega)]; rw [if_pos h4]; omega, by dsimp only; rw [last_next (by omega)]; rw [if_pos h4]; omega, by dsimp only; omega⟩ (by omega) (by exact ⟨rfl, rfl, rfl, rfl, rfl, rfl, rfl, trivial⟩)
        · refine w_skip' ?_
          refine n_block ?_
          refine n_then ?_
          refine w_region ?_
          refine st (s_move rfl ?_)
          refine st (s_add rfl rfl (by omega) ?_)
          refine st (s_assign rfl ?_)
          refine r_end ?_
          exact n_round (((i + 1)), (line), ((col + 1))) ⟨hb1, by omega, by dsimp only; rw [cnt_next (by omega)]; rw [if_neg h4]; omega, by dsimp only; rw [last_next (by omega)]; rw [if_neg h4]; omega, by dsimp only; omega⟩ (by omega) (by exact ⟨rfl, rfl, rfl, rfl, rfl, rfl, rfl, trivial⟩)
      · refine w_exit' ?_
        refine n_then_exit ?_
        refine n_then_exit ?_
        refine n_block_exit ?_
        refine n_then ?_
        refine w_seq ?_
        refine w_region ?_
        refine st (s_move rfl ?_)
        refine st (s_move rfl ?_)
        refine st (s_assign rfl ?_)
        refine st (s_assign rfl ?_)
        refine r_end ?_
        refine n_then ?_
        refine w_ret2 rfl rfl rfl ?_
        have e : i = p := by omega
        subst e
        exact ⟨_, rfl, hb1, by rw [(pl_in (xs := bl s) (p := i) (by omega) (by omega)).1, (pl_in (xs := bl s) (p := i) (by omega) (by omega)).2, ← hl, ← hc]⟩
end Go.Proofs.Ytencmmhfiepojaa
