/- Part of the proof that is named in YtdeiiagkbbimhaaNRowCanJust: a library for walks, or a function's walk. -/
import Derived.Test.YtdeiiagkbbimhaaNB
set_option maxRecDepth 20000
set_option linter.unusedSimpArgs false
set_option linter.unusedVariables false
namespace Go.Proofs.Ytdeiiagkbbimhaa
open Go.RowKit Go.Gw
theorem hollow_any {va : Value} {l : List Nd} {F : Nat → Prop} {w : World} (hl : Sl Kd.node w F va l) {n : Int} (hl_ok : looseB l = true) (hll : l.length ≤ 1000000) (h0 : 0 ≤ n) (h1 : n ≤ l.length) :
    Calls Try.prog 17 [va, .int .i64 n].toArray w (Pure w fun v _ => v = .bool (hollowB l n)) := by
  have hb0 := Below.refl w.heap.size w
  have hln1 := hl.lenle
  have hlen := hasL_length l
  refine enter Try.func17 rfl rfl ?_
  refine w_seq ?_
  refine w_region ?_
  refine st (s_assign rfl ?_)
  refine r_end ?_
  refine n_then ?_
  refine w_seq ?_
  refine w_seq ?_
  refine w_region ?_
  refine st (s_move rfl ?_)
  refine st (s_eq rfl rfl ?_)
  refine st (s_move rfl ?_)
  refine r_caseP 12 rfl (fun h1 => ?_) (fun h1 => ?_)
  · refine s_pass rfl rfl ?_
    refine s_pass rfl rfl ?_
    refine s_pass rfl rfl ?_
    refine s_pass rfl rfl ?_
    refine s_pass rfl rfl ?_
    refine s_pass rfl rfl ?_
    refine s_pass rfl rfl ?_
    refine st (s_pick rfl rfl ?_)
    refine r_end ?_
    refine n_then ?_
    refine w_condT rfl ?_
    refine w_seq ?_
    refine w_region ?_
    refine st (s_assign rfl ?_)
    refine r_end ?_
    refine n_then ?_
    refine w_ret1 rfl rfl ?_
    exact ⟨_, rfl, hb0, by rw [hollow_no]; rintro ⟨e1, e2, e3⟩; omega⟩
  · refine stg (s_move rfl ?_)
    refine stg (s_move rfl ?_)
    refine stg (s_sub rfl rfl (by omega) ?_)
    refine stg (s_idx sl22 rfl rfl (hl.at0 hb0) (by omega) (by omega) ?_)
    rintro b1 o1 _ ⟨rfl, _⟩ hc1 hF1 hlt1
    have hl_1 := Loc.lt hF1
    refine stg (s_faddr fld35_0 rfl ?_)
    refine stg (s_load one3 rfl hc1 (j := 0) rfl ?_)
    refine stg (s_eq rfl rfl ?_)
    refine st (s_pick rfl rfl ?_)
    refine r_end ?_
    refine n_then ?_
    refine w_condP rfl (fun h2 => ?_) (fun h2 => ?_)
    · refine w_seq ?_
      refine w_region ?_
      refine st (s_assign rfl ?_)
      refine r_end ?_
      refine n_then ?_
      refine w_ret1 rfl rfl ?_
      exact ⟨_, rfl, hb0, by rw [hollow_no]; rintro ⟨e1, e2, e3⟩; omega⟩
    · refine w_skip' ?_
      refine n_then ?_
      refine w_seq ?_
      refine w_region ?_
      refine st (s_move rfl ?_)
      refine st (s_call fn27 rfl (full_any (hl.at0 hb0) hl_ok hll) ?_)
      rintro v1 w1 ⟨hq1, hS1⟩
      have k1 := grown_of_below hq1 none
      have hz1 := hq1.size
      have hb1 := below_g0 hb0 k1
      have hz2 := hb1.size
      refine st (s_assign rfl ?_)
      refine r_end ?_
      refine n_then ?_
      refine w_seq ?_
      refine w_seq ?_
      refine w_region ?_
      refine st (s_move rfl ?_)
      refine st (s_move rfl ?_)
      refine st (s_sub rfl rfl (by omega) ?_)
      refine st (s_idx sl22 rfl rfl (hl.at0 hb1) (by omega) (by omega) ?_)
      rintro b2 o2 _ ⟨rfl, _⟩ hc2 hF2 hlt2
      have hl_2 := Loc.lt hF2
      refine st (s_faddr fld35_1 rfl ?_)
      refine st (s_loadN (us := [.int .i64 ((ix l (n - 1)).k0), .int .i64 ((ix l (n - 1)).k1), .int .i64 ((ix l (n - 1)).k2), .int .i64 ((ix l (n - 1)).k3)]) row33 rfl hc2 (j := 1) rfl rfl ?_)
      refine st (s_move rfl ?_)
      refine r_end ?_
      refine n_then ?_
      refine w_block ?_
      refine w_loop (α := Int) (fun (k : Int) => [(0, va), (5, v1), (28, .agg [.int .i64 ((ix l (n - 1)).k0), .int .i64 ((ix l (n - 1)).k1), .int .i64 ((ix l (n - 1)).k2), .int .i64 ((ix l (n - 1)).k3)].toArray), (29, .int .i64 k)]) (fun (k : Int) W => Below w.heap.size w W ∧ (0 ≤ k ∧ k ≤ 4) ∧ (∀ k' : Int, 0 ≤ k' → k' < k → holK l n k') ∧ (Sl Kd.bool W (fun _ => False) v1 (hasL l))) (fun (k : Int) => (4 - k).toNat) (0) ⟨hb1, by omega, fun k' _ _ => by omega, hS1⟩ (by exact ⟨rfl, rfl, rfl, rfl, trivial⟩) ?_
      rintro k w2 ⟨hb2, hk, ha, hS2⟩
      have hz3 := hb2.size
      refine w_seq ?_
      refine w_region ?_
      refine st (s_lt rfl rfl ?_)
      refine r_end ?_
      refine n_then ?_
      refine w_seq ?_
      refine w_condP rfl (fun h3 => ?_) (fun h3 => ?_)
      · refine w_skip' ?_
        refine n_then ?_
        refine w_seq ?_
        refine w_block ?_
        refine w_seq ?_
        refine w_region ?_
        refine st (s_move rfl ?_)
        refine st (s_iarr4 arr33 one3 rfl rfl (by omega) (by omega) ?_)
        refine st (s_assign rfl ?_)
        refine st (s_assign rfl ?_)
        refine r_end ?_
        refine n_then ?_
        refine w_seq ?_
        refine w_seq ?_
        refine w_region ?_
        refine st (s_move rfl ?_)
        refine st (s_eq rfl rfl ?_)
        refine r_end ?_
        refine n_then ?_
        refine w_condP rfl (fun h4 => ?_) (fun h4 => ?_)
        · refine w_exit' ?_
          refine n_then_exit ?_
          refine n_block_exit ?_
          refine n_then ?_
          refine w_region ?_
          refine st (s_add rfl rfl (by omega) ?_)
          refine st (s_move rfl ?_)
          refine r_end ?_
          exact n_round ((k + 1)) ⟨hb2, by omega, fun k' k0 k1 => if e : k' = k then by rw [e]; intro e2; exact absurd h4 e2 else ha k' k0 (by omega), hS2⟩ (by omega) (by exact ⟨rfl, rfl, rfl, rfl, trivial⟩)
        · have hkid := kid_in hl_ok (i := n - 1) (k := k) (by omega) (by omega) hk.1 (by omega) (by omega) (by simpa [Nd.kid] using h4)
          unfold Nd.kid at hkid
          refine w_skip' ?_
          refine n_then ?_
          refine w_seq ?_
          refine w_region ?_
          refine st (s_move rfl ?_)
          refine st (s_move rfl ?_)
          refine st (s_sub rfl rfl (by omega) ?_)
          refine st (s_idx sl22 rfl rfl (hl.at0 hb2) (by omega) (by omega) ?_)
          rintro b3 o3 _ ⟨rfl, _⟩ hc3 hF3 hlt3
          have hl_3 := Loc.lt hF3
          refine st (s_faddr fld35_1 rfl ?_)
          refine st (s_loadN (us := [.int .i64 ((ix l ((sel4 ((ix l (n - 1)).k0) ((ix l (n - 1)).k1) ((ix l (n - 1)).k2) ((ix l (n - 1)).k3) k) - 1)).k0), .int .i64 ((ix l ((sel4 ((ix l (n - 1)).k0) ((ix l (n - 1)).k1) ((ix l (n - 1)).k2) ((ix l (n - 1)).k3) k) - 1)).k1), .int .i64 ((ix l ((sel4 ((ix l (n - 1)).k0) ((ix l (n - 1)).k1) ((ix l (n - 1)).k2) ((ix l (n - 1)).k3) k) - 1)).k2), .int .i64 ((ix l ((sel4 ((ix l (n - 1)).k0) ((ix l (n - 1)).k1) ((ix l (n - 1)).k2) ((ix l (n - 1)).k3) k) - 1)).k3)]) row33 rfl hc3 (j := 1) rfl rfl ?_)
          refine st (s_move rfl ?_)
          refine r_end ?_
          refine n_then ?_
          refine w_block ?_
          refine w_loop (α := Int) (fun (j : Int) => [(0, va), (5, v1), (6, .int .i64 k), (7, .int .i64 (sel4 ((ix l (n - 1)).k0) ((ix l (n - 1)).k1) ((ix l (n - 1)).k2) ((ix l (n - 1)).k3) k)), (28, .agg [.int .i64 ((ix l (n - 1)).k0), .int .i64 ((ix l (n - 1)).k1), .int .i64 ((ix l (n - 1)).k2), .int .i64 ((ix l (n - 1)).k3)].toArray), (29, .int .i64 k), (40, .agg [.int .i64 ((ix l ((sel4 ((ix l (n - 1)).k0) ((ix l (n - 1)).k1) ((ix l (n - 1)).k2) ((ix l (n - 1)).k3) k) - 1)).k0), .int .i64 ((ix l ((sel4 ((ix l (n - 1)).k0) ((ix l (n - 1)).k1) ((ix l (n - 1)).k2) ((ix l (n - 1)).k3) k) - 1)).k1), .int .i64 ((ix l ((sel4 ((ix l (n - 1)).k0) ((ix l (n - 1)).k1) ((ix l (n - 1)).k2) ((ix l (n - 1)).k3) k) - 1)).k2), .int .i64 ((ix l ((sel4 ((ix l (n - 1)).k0) ((ix l (n - 1)).k1) ((ix l (n - 1)).k2) ((ix l (n - 1)).k3) k) - 1)).k3)].toArray), (41, .int .i64 j)]) (fun (j : Int) W => Below w.heap.size w W ∧ (0 ≤ j ∧ j ≤ 4) ∧ (∀ j' : Int, 0 ≤ j' → j' < j → j' ≠ 3 - k → hasK (ix l ((ix l (n - 1)).kid k - 1)) (hasL l) ((ix l ((ix l (n - 1)).kid k - 1)).kid j') = false) ∧ (Sl Kd.bool W (fun _ => False) v1 (hasL l))) (fun (j : Int) => (4 - j).toNat) (0) ⟨hb2, by omega, fun j' _ _ _ => by omega, hS2⟩ (by exact ⟨rfl, rfl, rfl, rfl, rfl, rfl, rfl, rfl, trivial⟩) ?_
          rintro j w3 ⟨hb3, hj, hb, hS3⟩
          have hz4 := hb3.size
          refine w_seq ?_
          refine w_region ?_
          refine st (s_lt rfl rfl ?_)
          refine r_end ?_
          refine n_then ?_
          refine w_seq ?_
          refine w_condP rfl (fun h5 => ?_) (fun h5 => ?_)
          · refine w_skip' ?_
            refine n_then ?_
            refine w_seq ?_
            refine w_block ?_
            refine w_seq ?_
            refine w_region ?_
            refine st (s_move rfl ?_)
            refine st (s_iarr4 arr33 one3 rfl rfl (by omega) (by omega) ?_)
            refine st (s_assign rfl ?_)
            refine st (s_assign rfl ?_)
            refine r_end ?_
            refine n_then ?_
            refine w_seq ?_
            refine w_region ?_
            refine st (s_move rfl ?_)
            refine st (s_move rfl ?_)
            refine st (s_sub rfl rfl (by omega) ?_)
            refine st (s_ne rfl rfl ?_)
            refine st (s_move rfl ?_)
            refine r_caseP 49 rfl (fun h6 => ?_) (fun h6 => ?_)
            · refine stg (s_move rfl ?_)
              refine stg (s_ne rfl rfl ?_)
              refine st (s_pick rfl rfl ?_)
              refine st (s_move rfl ?_)
              refine r_caseP 53 rfl (fun h7 => ?_) (fun h7 => ?_)
              · refine stg (s_move rfl ?_)
                refine stg (s_move rfl ?_)
                refine stg (s_sub rfl rfl (by omega) ?_)
                refine stg (s_idx sl22 rfl rfl (hl.at0 hb3) (by omega) (by omega) ?_)
                rintro b4 o4 _ ⟨rfl, _⟩ hc4 hF4 hlt4
                have hl_4 := Loc.lt hF4
                refine stg (s_faddr fld35_0 rfl ?_)
                refine stg (s_load one3 rfl hc4 (j := 0) rfl ?_)
                refine stg (s_eq rfl rfl ?_)
                refine stg (s_move rfl ?_)
                refine r_caseP 61 rfl (fun h8 => ?_) (fun h8 => ?_)
                · refine s_pass rfl rfl ?_
                  refine s_pass rfl rfl ?_
                  refine s_pass rfl rfl ?_
                  refine s_pass rfl rfl ?_
                  refine stg (s_pick rfl rfl ?_)
                  refine st (s_pick rfl rfl ?_)
                  refine r_end ?_
                  refine n_then ?_
                  refine w_condT rfl ?_
                  refine w_seq ?_
                  refine w_region ?_
                  refine st (s_assign rfl ?_)
                  refine r_end ?_
                  refine n_then ?_
                  refine w_ret1 rfl rfl ?_
                  refine ⟨_, rfl, hb3, ?_⟩
                  rw [hollow_no]
                  rintro ⟨e1, e2, e3⟩
                  have e4 := e3 k (by omega) (by omega) (by unfold Nd.kid; omega) j (by omega) (by omega) (by omega)
                  rw [hasK_yes (by unfold Nd.kid; omega) (by unfold Nd.kid; first | exact .inl (by omega) | exact .inr (by assumption))] at e4
                  cases e4
                · have hkid2 := kid_in hl_ok (i := (sel4 (ix l (n - 1)).k0 (ix l (n - 1)).k1 (ix l (n - 1)).k2 (ix l (n - 1)).k3 k) - 1) (k := j) (by omega) (by omega) hj.1 (by omega) h8
                  unfold Nd.kid at hkid2
                  refine stg (s_move rfl ?_)
                  refine stg (s_move rfl ?_)
                  refine stg (s_idx sl43 rfl rfl hS3 (by omega) (by omega) ?_)
                  rintro b5 o5 _ ⟨rfl, _⟩ hc5 hF5 hlt5
                  refine stg (s_load one4 rfl hc5 (j := 0) rfl ?_)
                  refine stg (s_pick rfl rfl ?_)
                  refine st (s_pick rfl rfl ?_)
                  refine r_end ?_
                  refine n_then ?_
                  refine w_cond rfl (fun h9 => ?_) (fun h9 => ?_)
                  · refine w_seq ?_
                    refine w_region ?_
                    refine st (s_assign rfl ?_)
                    refine r_end ?_
                    refine n_then ?_
                    refine w_ret1 rfl rfl ?_
                    refine ⟨_, rfl, hb3, ?_⟩
                    rw [hollow_no]
                    rintro ⟨e1, e2, e3⟩
                    have e4 := e3 k (by omega) (by omega) (by unfold Nd.kid; omega) j (by omega) (by omega) (by omega)
                    rw [hasK_yes (by unfold Nd.kid; omega) (by unfold Nd.kid; first | exact .inl (by omega) | exact .inr (by assumption))] at e4
                    cases e4
                  · refine w_skip' ?_
                    refine n_block ?_
                    refine n_then ?_
                    refine w_region ?_
                    refine st (s_add rfl rfl (by omega) ?_)
                    refine st (s_move rfl ?_)
                    refine r_end ?_
                    exact n_round ((j + 1)) ⟨hb3, by omega, fun j' j0 j1 j2 => if e : j' = j then by rw [e] at j2 ⊢; first | (exfalso; omega) | exact hasK_no (.inl (by unfold Nd.kid; omega)) | exact hasK_no (.inr ⟨by unfold Nd.kid; omega, by unfold Nd.kid; assumption⟩) else hb j' j0 (by omega) j2, hS3⟩ (by omega) (by exact ⟨rfl, rfl, rfl, rfl, rfl, rfl, rfl, rfl, trivial⟩)
              · refine s_pass rfl rfl ?_
                refine s_pass rfl rfl ?_
                refine s_pass rfl rfl ?_
                refine s_pass rfl rfl ?_
                refine s_pass rfl rfl ?_
                refine s_pass rfl rfl ?_
                refine s_pass rfl rfl ?_
                refine s_pass rfl rfl ?_
                refine s_passU rfl rfl ?_
                refine s_passU rfl rfl ?_
                refine s_passU rfl rfl ?_
                refine s_passU rfl rfl ?_
                refine s_pass rfl rfl ?_
                refine st (s_pick rfl rfl ?_)
                refine r_end ?_
                refine n_then ?_
                refine w_condF rfl ?_
                refine w_skip' ?_
                refine n_block ?_
                refine n_then ?_
                refine w_region ?_
                refine st (s_add rfl rfl (by omega) ?_)
                refine st (s_move rfl ?_)
                refine r_end ?_
                exact n_round ((j + 1)) ⟨hb3, by omega, fun j' j0 j1 j2 => if e : j' = j then by rw [e] at j2 ⊢; first | (exfalso; omega) | exact hasK_no (.inl (by unfold Nd.kid; omega)) | exact hasK_no (.inr ⟨by unfold Nd.kid; omega, by unfold Nd.kid; assumption⟩) else hb j' j0 (by omega) j2, hS3⟩ (by omega) (by exact ⟨rfl, rfl, rfl, rfl, rfl, rfl, rfl, rfl, trivial⟩)
            · refine s_pass rfl rfl ?_
              refine s_pass rfl rfl ?_
              refine st (s_pick rfl rfl ?_)
              refine st (s_move rfl ?_)
              refine s_pass rfl rfl ?_
              refine s_pass rfl rfl ?_
              refine s_pass rfl rfl ?_
              refine s_pass rfl rfl ?_
              refine s_pass rfl rfl ?_
              refine s_pass rfl rfl ?_
              refine s_pass rfl rfl ?_
              refine s_pass rfl rfl ?_
              refine s_passU rfl rfl ?_
              refine s_passU rfl rfl ?_
              refine s_passU rfl rfl ?_
              refine s_passU rfl rfl ?_
              refine s_pass rfl rfl ?_
              refine st (s_pick rfl rfl ?_)
              refine r_end ?_
              refine n_then ?_
              refine w_condF rfl ?_
              refine w_skip' ?_
              refine n_block ?_
              refine n_then ?_
              refine w_region ?_
              refine st (s_add rfl rfl (by omega) ?_)
              refine st (s_move rfl ?_)
              refine r_end ?_
              exact n_round ((j + 1)) ⟨hb3, by omega, fun j' j0 j1 j2 => if e : j' = j then by rw [e] at j2 ⊢; first | (exfalso; omega) | exact hasK_no (.inl (by unfold Nd.kid; omega)) | exact hasK_no (.inr ⟨by unfold Nd.kid; omega, by unfold Nd.kid; assumption⟩) else hb j' j0 (by omega) j2, hS3⟩ (by omega) (by exact ⟨rfl, rfl, rfl, rfl, rfl, rfl, rfl, rfl, trivial⟩)
          · refine w_exit' ?_
            refine n_then_exit ?_
            refine n_then_exit ?_
            refine n_block_exit ?_
            refine n_block ?_
            refine n_then ?_
            refine w_region ?_
            refine st (s_add rfl rfl (by omega) ?_)
            refine st (s_move rfl ?_)
            refine r_end ?_
            exact n_round ((k + 1)) ⟨hb3, by omega, fun k' k0 k1 => if e : k' = k then by rw [e]; intro _ j j0 j1 j2; exact hb j j0 (by omega) j2 else ha k' k0 (by omega), hS3⟩ (by omega) (by exact ⟨rfl, rfl, rfl, rfl, trivial⟩)
      · refine w_exit' ?_
        refine n_then_exit ?_
        refine n_then_exit ?_
        refine n_block_exit ?_
        refine n_then ?_
        refine w_seq ?_
        refine w_region ?_
        refine st (s_assign rfl ?_)
        refine r_end ?_
        refine n_then ?_
        refine w_ret1 rfl rfl ?_
        exact ⟨_, rfl, hb2, by rw [(hollowB_iff l n).2]; exact ⟨by omega, by omega, fun k k0 k1 => ha k k0 (by omega)⟩⟩
end Go.Proofs.Ytdeiiagkbbimhaa
