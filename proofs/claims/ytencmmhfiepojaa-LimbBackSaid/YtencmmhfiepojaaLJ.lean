/- Part of the proof that is named in YtencmmhfiepojaaLRowBack: a library for walks, or a function's walk. -/
import Derived.Test.YtencmmhfiepojaaLH
import Derived.Test.YtencmmhfiepojaaLimbSpec8
set_option maxRecDepth 20000
set_option linter.unusedSimpArgs false
set_option linter.unusedVariables false
namespace Go.Proofs.Ytencmmhfiepojaa
open Go.RowKit Go.Gw
theorem rshl_any {w : World} {a : Value} {n : Int} {xs : List Int} (ha : Sl Kd.u32 w (fun _ => False) a xs) (hla : xs.length ≤ 100000) :
    Calls Try.prog 31 [a, .int .i64 n].toArray w (Pure w fun v W => Sl Kd.u32 W (fun _ => False) v (shlL xs n)) := by
  have hb0 := Below.refl w.heap.size w
  have hln1 := ha.lenle
  have hla2 := tb_nv_len (lim_sl ha)
  refine enter Try.func31 rfl rfl ?_
  refine w_seq ?_
  refine w_region ?_
  refine st (s_assign rfl ?_)
  refine r_end ?_
  refine n_then ?_
  refine w_seq ?_
  refine w_seq ?_
  refine w_region ?_
  refine st (s_move rfl ?_)
  refine st (s_lt rfl rfl ?_)
  refine st (s_move rfl ?_)
  refine r_caseP 7 rfl (fun h1 => ?_) (fun h1 => ?_)
  · refine s_pass rfl rfl ?_
    refine s_pass rfl rfl ?_
    refine st (s_pick rfl rfl ?_)
    refine r_end ?_
    refine n_then ?_
    refine w_condT rfl ?_
    refine w_seq ?_
    refine w_region ?_
    refine st (s_assign rfl ?_)
    refine r_end ?_
    refine n_then ?_
    refine w_ret1 rfl rfl ?_
    exact ⟨_, rfl, hb0, by unfold shlL; rw [if_neg (by rw [fit_no (by omega)]; decide)]; exact (Own.nil Kd.u32 44 w.heap.size _ (fun _ => False)).sl⟩
  · refine stg (s_move rfl ?_)
    refine stg (s_gt rfl rfl ?_)
    refine st (s_pick rfl rfl ?_)
    refine r_end ?_
    refine n_then ?_
    refine w_condP rfl (fun h2 => ?_) (fun h2 => ?_)
    · refine w_seq ?_
      refine w_region ?_
      refine st (s_assign rfl ?_)
      refine r_end ?_
      refine n_then ?_
      refine w_ret1 rfl rfl ?_
      exact ⟨_, rfl, hb0, by unfold shlL; rw [if_neg (by rw [fit_no (by omega)]; decide)]; exact (Own.nil Kd.u32 44 w.heap.size _ (fun _ => False)).sl⟩
    · refine w_skip' ?_
      refine n_then ?_
      refine w_seq ?_
      refine w_drawC 6 (fun a b => Below (w.heap.size) a b) (Big0 (w.heap.size)) (Big (w.heap.size)) [(some 11, fun v _ => v = .int .i64 n), (some 12, fun v W => Gw.Own Kd.bool 4 w.heap.size W (fun _ => False) v (List.replicate (n).toNat false)), (some 13, fun v _ => v = a), (some 14, fun v W => Sl Kd.bool W (fun _ => False) v (tb (nv xs))), (some 15, fun v W => Gw.Own Kd.bool 4 w.heap.size W (fun _ => False) v (List.replicate (n).toNat false ++ tb (nv xs))), (some 16, fun v W => Sl Kd.u32 W (fun _ => False) v (tl (bv (List.replicate (n).toNat false ++ tb (nv xs)))))] [[], [0], [], [2], [1, 3], [4]] [[], [0], [], [2], [1, 3, 0, 2], [4, 1, 3, 0, 2]] [[], [4], [], [4], [], []] [false, false, false, false, true, false] [true, false, true, false, false, false] [(0, a), (1, .int .i64 n), (4, .slice none 0 0)] (by exact ⟨rfl, rfl, rfl, trivial⟩) (by kernel_rfl) (by kernel_rfl) (by kernel_rfl) rfl (Below.refl _) (fun _ _ _ h k => h.trans k) (fun _ _ h => h.below) (fun _ _ h => h.below) ⟨fun _ _ _ h _ => by exact h, fun _ _ _ h _ => by exact h, fun _ _ _ h k => h.g0 k.2, fun _ _ _ h _ => by exact h, fun _ _ _ h _ => by exact h, fun _ _ _ h k => h.g0 k.2, fun _ _ _ h k => h.g0 k.2, fun _ _ _ h k => h.g0 k.2, trivial⟩ ?_
      intro w1 k1 hs1
      have hb1 := below_g0 hb0 k1
      refine ⟨⟨?_, ?_, ?_, ?_, ?_, ?_, trivial⟩, ?_⟩
      · intro w8z_ kb
        have kgz_ := grown_of_below (show Below w1.heap.size w1 w8z_ by rw [hs1]; exact kb) none
        have hbz_ := below_g0 hb1 kgz_
        have hzz_ := hbz_.size
        have hez_ := kb.size
        exact op1 (s_move rfl ⟨rfl, ⟨by omega, World.grownBy.refl _ _⟩⟩)
      · intro w8z_ kb
        have kgz_ := grown_of_below (show Below w1.heap.size w1 w8z_ by rw [hs1]; exact kb) none
        have hbz_ := below_g0 hb1 kgz_
        have hzz_ := hbz_.size
        have hez_ := kb.size
        rintro _ rfl
        refine op1 (s_make (K := Kd.bool) (base := w.heap.size) (F := fun _ => False) sl68 rfl (by omega) (by omega) (by omega) (fun _ _ => ⟨rfl, trivial⟩) (by omega) (fun _ h => h.elim) ?_)
        intro vz_ wz_ hOz_ kz_
        exact ⟨hOz_, ⟨by omega, kz_⟩⟩
      · intro w8z_ kb
        have kgz_ := grown_of_below (show Below w1.heap.size w1 w8z_ by rw [hs1]; exact kb) none
        have hbz_ := below_g0 hb1 kgz_
        have hzz_ := hbz_.size
        have hez_ := kb.size
        exact op1 (s_move rfl ⟨rfl, ⟨by omega, World.grownBy.refl _ _⟩⟩)
      · intro w8z_ kb
        have kgz_ := grown_of_below (show Below w1.heap.size w1 w8z_ by rw [hs1]; exact kb) none
        have hbz_ := below_g0 hb1 kgz_
        have hzz_ := hbz_.size
        have hez_ := kb.size
        intro v_ hv_; subst v_
        refine op1 (s_call fn75 rfl (rbits_any ((ha.at0 hbz_)).none (by omega)) ?_)
        rintro vz_ wz_ ⟨hqz_, hSz_⟩
        exact ⟨hSz_, ⟨by omega, grown_of_below hqz_ none⟩⟩
      · intro w8z_ kb
        have kgz_ := grown_of_below (show Below w1.heap.size w1 w8z_ by rw [hs1]; exact kb) none
        have hbz_ := below_g0 hb1 kgz_
        have hzz_ := hbz_.size
        have hez_ := kb.size
        intro v12z_ h12z_ v14z_ h14z_
        refine op1 (s_appendF (K := Kd.bool) sl68 rfl rfl h12z_ bool_flat h14z_ bool_ones (by simp; omega) (by simp; omega) (by omega) (fun _ h => h.elim) ?_)
        intro vz_ wz_ hPz_ kz_ horz_ hzz2_
        exact ⟨hPz_, ⟨by omega, _, kz_, fun g hg => (h12z_.lt g hg).1⟩⟩
      · intro w8z_ kb
        have kgz_ := grown_of_below (show Below w1.heap.size w1 w8z_ by rw [hs1]; exact kb) none
        have hbz_ := below_g0 hb1 kgz_
        have hzz_ := hbz_.size
        have hez_ := kb.size
        intro v15z_ h15z_
        refine op1 (s_call fn77 rfl (rof_any h15z_.sl (by simp; omega)) ?_)
        rintro vz_ wz_ ⟨hqz_, hSz_⟩
        exact ⟨hSz_, ⟨by omega, grown_of_below hqz_ none⟩⟩
      intro w2 kb
      have k2 := grown_of_below (show Below w1.heap.size w1 w2 by rw [hs1]; exact kb) none
      have hb2 := below_g0 hb1 k2
      have hz1 := hb2.size
      rintro _ rfl
      intro v12 _
      intro v_ hv_; subst v_
      intro v14 _
      intro v15 h15
      intro v16 h16
      refine st (s_assign rfl ?_)
      refine r_end ?_
      refine n_then ?_
      refine w_ret1 rfl rfl ?_
      exact ⟨_, rfl, hb2, by unfold shlL; rw [if_pos (fit_yes (by omega) (by omega)), ← shl_bits (nv_nonneg (lim_sl ha))]; exact h16⟩

theorem rshr_any {w : World} {a : Value} {n : Int} {xs : List Int} (ha : Sl Kd.u32 w (fun _ => False) a xs) (hla : xs.length ≤ 100000) :
    Calls Try.prog 33 [a, .int .i64 n].toArray w (Pure w fun v W => Sl Kd.u32 W (fun _ => False) v (shrL xs n)) := by
  have hb0 := Below.refl w.heap.size w
  have hln1 := ha.lenle
  have hla2 := tb_nv_len (lim_sl ha)
  refine enter Try.func33 rfl rfl ?_
  refine w_seq ?_
  refine w_region ?_
  refine st (s_assign rfl ?_)
  refine r_end ?_
  refine n_then ?_
  refine w_seq ?_
  refine w_region ?_
  refine st (s_move rfl ?_)
  refine st (s_call fn75 rfl (rbits_any ((ha.at0 hb0)).none (by first | omega | (simp; done) | (simp; omega))) ?_)
  rintro v1 w1 ⟨hq1, hS1⟩
  have k1 := grown_of_below hq1 none
  have hz1 := hq1.size
  have hb1 := below_g0 hb0 k1
  have hz2 := hb1.size
  refine st (s_assign rfl ?_)
  refine r_end ?_
  refine n_then ?_
  refine w_seq ?_
  refine w_seq ?_
  refine w_region ?_
  refine st (s_move rfl ?_)
  refine st (s_lt rfl rfl ?_)
  refine st (s_move rfl ?_)
  refine r_caseP 10 rfl (fun h1 => ?_) (fun h1 => ?_)
  · refine s_pass rfl rfl ?_
    refine s_pass rfl rfl ?_
    refine st (s_pick rfl rfl ?_)
    refine st (s_move rfl ?_)
    refine s_pass rfl rfl ?_
    refine s_pass rfl rfl ?_
    refine s_pass rfl rfl ?_
    refine s_pass rfl rfl ?_
    refine st (s_pick rfl rfl ?_)
    refine r_end ?_
    refine n_then ?_
    refine w_condT rfl ?_
    refine w_seq ?_
    refine w_region ?_
    refine st (s_assign rfl ?_)
    refine r_end ?_
    refine n_then ?_
    refine w_ret1 rfl rfl ?_
    exact ⟨_, rfl, hb1, by unfold shrL; rw [if_neg (by rw [fit_no (by omega)]; decide)]; exact (Own.nil Kd.u32 44 w.heap.size _ (fun _ => False)).sl⟩
  · refine stg (s_move rfl ?_)
    refine stg (s_gt rfl rfl ?_)
    refine st (s_pick rfl rfl ?_)
    refine st (s_move rfl ?_)
    refine r_caseP 14 rfl (fun h2 => ?_) (fun h2 => ?_)
    · refine s_pass rfl rfl ?_
      refine s_pass rfl rfl ?_
      refine s_pass rfl rfl ?_
      refine s_pass rfl rfl ?_
      refine st (s_pick rfl rfl ?_)
      refine r_end ?_
      refine n_then ?_
      refine w_condT rfl ?_
      refine w_seq ?_
      refine w_region ?_
      refine st (s_assign rfl ?_)
      refine r_end ?_
      refine n_then ?_
      refine w_ret1 rfl rfl ?_
      exact ⟨_, rfl, hb1, by unfold shrL; rw [if_neg (by rw [fit_no (by omega)]; decide)]; exact (Own.nil Kd.u32 44 w.heap.size _ (fun _ => False)).sl⟩
    · refine stg (s_move rfl ?_)
      refine stg (s_move rfl ?_)
      refine stg (s_len sl68 rfl hS1 ?_)
      refine stg (s_ge rfl rfl ?_)
      refine st (s_pick rfl rfl ?_)
      refine r_end ?_
      refine n_then ?_
      refine w_condP rfl (fun h3 => ?_) (fun h3 => ?_)
      · refine w_seq ?_
        refine w_region ?_
        refine st (s_assign rfl ?_)
        refine r_end ?_
        refine n_then ?_
        refine w_ret1 rfl rfl ?_
        exact ⟨_, rfl, hb1, by unfold shrL; rw [if_pos (fit_yes (by omega) (by omega)), shr_small (nv_nonneg (lim_sl ha)) (by omega)]; exact (Own.nil Kd.u32 44 w.heap.size _ (fun _ => False)).sl⟩
      · refine w_skip' ?_
        refine n_then ?_
        refine w_seq ?_
        refine w_region ?_
        refine st (s_move rfl ?_)
        refine st (s_move rfl ?_)
        refine st (s_sllo sl68 rfl rfl hS1 (by first | omega | (simp; omega)) (by first | omega | (simp; omega)) ?_)
        intro v2 hS2
        refine st (s_call fn77 rfl (rof_any (hS2).none (by first | omega | (simp; done) | (simp; omega))) ?_)
        rintro v3 w2 ⟨hq2, hS3⟩
        have k2 := grown_of_below hq2 none
        have hz3 := hq2.size
        have hb2 := below_g0 hb1 k2
        have hz4 := hb2.size
        refine st (s_assign rfl ?_)
        refine r_end ?_
        refine n_then ?_
        refine w_ret1 rfl rfl ?_
        exact ⟨_, rfl, hb2, by unfold shrL; rw [if_pos (fit_yes (by omega) (by omega)), ← shr_bits (nv_nonneg (lim_sl ha))]; exact hS3⟩
end Go.Proofs.Ytencmmhfiepojaa
