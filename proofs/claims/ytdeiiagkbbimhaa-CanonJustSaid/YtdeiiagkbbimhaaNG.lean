/- Part of the proof that is named in YtdeiiagkbbimhaaNRowCanJust: a library for walks, or a function's walk. -/
import Derived.Test.YtdeiiagkbbimhaaNF
set_option maxRecDepth 20000
set_option linter.unusedSimpArgs false
set_option linter.unusedVariables false
namespace Go.Proofs.Ytdeiiagkbbimhaa
open Go.RowKit Go.Gw
theorem ordered_any {va : Value} {l : List Nd} {F : Nat → Prop} {w : World} (hl : Sl Kd.node w F va l) (hl_ok : looseB l = true) (hll : l.length ≤ 1000000) (hpos : 1 ≤ l.length) :
    Calls Try.prog 28 [va].toArray w (Pure w fun v _ => v = .bool (ordB l)) := by
  have hb0 := Below.refl w.heap.size w
  have hln1 := hl.lenle
  refine enter Try.func28 rfl rfl ?_
  refine w_seq ?_
  refine w_region ?_
  refine st (s_assign rfl ?_)
  refine r_end ?_
  refine n_then ?_
  refine w_seq ?_
  refine w_region ?_
  refine st (s_move rfl ?_)
  refine st (s_move rfl ?_)
  refine st (s_len sl22 rfl (hl.at0 hb0) ?_)
  refine st (s_add rfl rfl (by omega) ?_)
  refine st (s_make (K := Kd.bool) (base := w.heap.size) (F := (fun _ => False)) sl43 rfl (by omega) (by omega) (by omega) (fun _ _ => ⟨rfl, trivial⟩) (by omega) (fun _ h => h.elim) ?_)
  intro v1 w1 hO1 k1
  have hb1 := below_g0 hb0 k1
  have hz1 := hb1.size
  refine st (s_build (ps := [(0, .tmp 6), (1, .tmp 10)]) (ccs := [#[va], #[v1]]) (cells := [va, v1, .slice none 0 0]) rfl (by simp only [List.map_cons, List.map_nil, hl.cells1, hO1.cells1] <;> rfl) (by kernel_rfl) ?_)
  refine st (s_box rfl ?_)
  intro g1 w2 hg1 hB1 k2 hs1
  have hb2 := below_g0 hb1 k2
  have hO2 := hO1.g0 k2
  refine st (s_assign rfl ?_)
  refine r_end ?_
  refine n_then ?_
  refine w_seq ?_
  refine w_region ?_
  refine st (s_move rfl ?_)
  refine st (s_move rfl ?_)
  refine st (s_len sl22 rfl (hl.at0 hb2) ?_)
  refine st (s_call fn41 rfl (through_any hl hl_ok hll (by omega) l.length (n := l.length) (by omega) (by omega) (by omega) hb2 hB1 hO2 (Own.nil _ _ _ _ _) (by first | (simp; done) | (simp; omega)) (met_none _ _) (by simp)) ?_)
  rintro _ w3 ⟨ve1, M1, hb3, hB2, hO3, hO4, hp1, hp2, hp3, hp4⟩
  have hz2 := hb3.size
  change Own _ _ _ _ _ _ (endL l) at hO4
  have hlenE := hO4.lenle
  refine r_end ?_
  refine n_then ?_
  refine w_seq ?_
  refine w_seq ?_
  refine w_region ?_
  refine st (s_move rfl ?_)
  refine st (s_nilp rfl ?_)
  refine st (s_faddr fld66_2 rfl ?_)
  refine st (s_load one46 rfl hB2.range (j := 2) rfl ?_)
  refine st (s_len sl46 rfl hO4.sl ?_)
  refine st (s_move rfl ?_)
  refine r_end ?_
  refine n_then ?_
  refine w_block ?_
  refine w_loop (α := Int) (fun (i : Int) => [(0, va), (3, .pointer (some ⟨g1, 0, none⟩)), (20, ve1), (21, .int .i64 ((endL l).length : Int)), (22, .int .i64 i)]) (fun (i : Int) W => Below w.heap.size w W ∧ (0 ≤ i ∧ i ≤ (endL l).length) ∧ (∀ j : Int, 0 ≤ j → j < i → ix (endL l) j = j + 1) ∧ (Blk W g1 66 #[va, v1, ve1]) ∧ (Own (Kd.num .i64) 3 w.heap.size W (fun _ => False) ve1 (endL l))) (fun (i : Int) => ((endL l).length - i).toNat) (0) ⟨hb3, by omega, fun j _ _ => by omega, hB2, hO4⟩ (by exact ⟨rfl, rfl, rfl, rfl, rfl, trivial⟩) ?_
  rintro i w4 ⟨hb4, hi, ha, hB, hE⟩
  have hz3 := hb4.size
  refine w_seq ?_
  refine w_region ?_
  refine st (s_lt rfl rfl ?_)
  refine r_end ?_
  refine n_then ?_
  refine w_seq ?_
  refine w_condP rfl (fun h1 => ?_) (fun h1 => ?_)
  · refine w_skip' ?_
    refine n_then ?_
    refine w_seq ?_
    refine w_block ?_
    refine w_seq ?_
    refine w_region ?_
    refine st (s_move rfl ?_)
    refine st (s_idx sl46 rfl rfl hE.sl (by omega) (by omega) ?_)
    rintro b1 o1 _ ⟨rfl, _⟩ hc1 hF1 hlt1
    refine st (s_load one3 rfl hc1 (j := 0) rfl ?_)
    refine st (s_assign rfl ?_)
    refine st (s_assign rfl ?_)
    refine r_end ?_
    refine n_then ?_
    refine w_seq ?_
    refine w_region ?_
    refine st (s_move rfl ?_)
    refine st (s_move rfl ?_)
    refine st (s_add rfl rfl (by omega) ?_)
    refine st (s_ne rfl rfl ?_)
    refine r_end ?_
    refine n_then ?_
    refine w_condP rfl (fun h2 => ?_) (fun h2 => ?_)
    · refine w_seq ?_
      refine w_region ?_
      refine st (s_assign rfl ?_)
      refine r_end ?_
      refine n_then ?_
      refine w_ret1 rfl rfl ?_
      exact ⟨_, rfl, hb4, by rw [ord_no i hi.1 (by omega) h2]⟩
    · refine w_skip' ?_
      refine n_block ?_
      refine n_then ?_
      refine w_region ?_
      refine st (s_add rfl rfl (by omega) ?_)
      refine st (s_move rfl ?_)
      refine r_end ?_
      exact n_round ((i + 1)) ⟨hb4, by omega, fun j j0 j1 => if e : j = i then by rw [e]; exact Decidable.not_not.1 h2 else ha j j0 (by omega), hB, hE⟩ (by omega) (by exact ⟨rfl, rfl, rfl, rfl, rfl, trivial⟩)
  · refine w_exit' ?_
    refine n_then_exit ?_
    refine n_then_exit ?_
    refine n_block_exit ?_
    refine n_then ?_
    refine w_seq ?_
    refine w_region ?_
    refine st (s_move rfl ?_)
    refine st (s_nilp rfl ?_)
    refine st (s_faddr fld66_2 rfl ?_)
    refine st (s_load one46 rfl hB.range (j := 2) rfl ?_)
    refine st (s_len sl46 rfl hE.sl ?_)
    refine st (s_move rfl ?_)
    refine st (s_len sl22 rfl (hl.at0 hb4) ?_)
    refine st (s_eq rfl rfl ?_)
    refine st (s_assign rfl ?_)
    refine r_end ?_
    refine n_then ?_
    refine w_ret1 rfl rfl ?_
    refine ⟨_, rfl, hb4, ?_⟩
    rw [ord_yes (fun j j0 j1 => ha j j0 (by omega))]
    simp only [Int.natCast_inj]
end Go.Proofs.Ytdeiiagkbbimhaa
