/- Part of the proof that is named in YtdeiiagkbbimhaaNRowCanJust: a library for walks, or a function's walk. -/
import Derived.Test.YtdeiiagkbbimhaaNH
set_option maxRecDepth 20000
set_option linter.unusedSimpArgs false
set_option linter.unusedVariables false
namespace Go.Proofs.Ytdeiiagkbbimhaa
open Go.RowKit Go.Gw
theorem end_any {a : World} {va : Value} {l : List Nd} {F : Nat → Prop} (hl : Sl Kd.node a F va l) (hl_ok : looseB l = true) (hll : l.length ≤ 1000000) :
    ∀ (f : Nat) {w : World} {vo : Value} {E : List Int} {n : Int}, n ≤ f → 1 ≤ n → n ≤ l.length → Below a.heap.size a w → Own (Kd.num .i64) 3 a.heap.size w (fun _ => False) vo E → OkE l.length E →
    Calls Try.prog 30 [va, .int .i64 n, vo].toArray w (Ret fun v w' => Below a.heap.size a w' ∧ Own (Kd.num .i64) 3 a.heap.size w' (fun _ => False) v (endF l f n E)) := by
  intro f
  induction f with
  | zero => intro w vo E n h1 h2; omega
  | succ f ih =>
    intro w vo E n hnf hn0 hn1 hb0 hE hok
    have hnf2 : n ≤ (f : Int) + 1 := by omega
    have hz0 := hb0.size
    have hln1 := hl.lenle
    have hlenE := hE.lenle
    refine enter Try.func30 rfl rfl ?_
    refine w_seq ?_
    refine w_region ?_
    refine st (s_assign rfl ?_)
    refine r_end ?_
    refine n_then ?_
    refine w_seq ?_
    refine w_seq ?_
    refine w_region ?_
    refine st (s_assign rfl ?_)
    refine r_end ?_
    refine n_then ?_
    refine w_block ?_
    refine w_loop (α := Int) (fun (i : Int) => [(0, va), (1, .int .i64 n), (2, vo), (7, .int .i64 i)]) (fun (i : Int) W => Below a.heap.size a W ∧ (0 ≤ i ∧ i ≤ E.length) ∧ (∀ j : Int, 0 ≤ j → j < i → ix E j ≠ n) ∧ (Own (Kd.num .i64) 3 a.heap.size W (fun _ => False) vo E)) (fun (i : Int) => (E.length - i).toNat) (0) ⟨hb0, by omega, fun j _ _ => by omega, hE⟩ (by exact ⟨rfl, rfl, rfl, rfl, trivial⟩) ?_
    rintro i w1 ⟨hb1, hi, ha, hE1⟩
    have hz1 := hb1.size
    refine w_seq ?_
    refine w_seq ?_
    refine w_region ?_
    refine st (s_move rfl ?_)
    refine st (s_move rfl ?_)
    refine st (s_len sl46 rfl hE1.sl ?_)
    refine st (s_lt rfl rfl ?_)
    refine r_end ?_
    refine n_then ?_
    refine w_condP rfl (fun h1 => ?_) (fun h1 => ?_)
    · refine w_skip' ?_
      refine n_then ?_
      refine w_seq ?_
      refine w_block ?_
      refine w_seq ?_
      refine w_region ?_
      refine st (s_move rfl ?_)
      refine st (s_move rfl ?_)
      refine st (s_idx sl46 rfl rfl hE1.sl (by omega) (by omega) ?_)
      rintro b1 o1 _ ⟨rfl, _⟩ hc1 hF1 hlt1
      refine st (s_load one3 rfl hc1 (j := 0) rfl ?_)
      refine st (s_move rfl ?_)
      refine st (s_eq rfl rfl ?_)
      refine r_end ?_
      refine n_then ?_
      refine w_condP rfl (fun h2 => ?_) (fun h2 => ?_)
      · refine w_seq ?_
        refine w_region ?_
        refine st (s_move rfl ?_)
        refine st (s_assign rfl ?_)
        refine r_end ?_
        refine n_then ?_
        refine w_ret1 rfl rfl ?_
        refine ⟨_, rfl, hb1, ?_⟩
        rw [endF_in (by rw [← h2]; exact ix_mem (by omega) (by omega))]
        exact hE1
      · refine w_skip' ?_
        refine n_block ?_
        refine n_then ?_
        refine w_region ?_
        refine st (s_move rfl ?_)
        refine st (s_add rfl rfl (by omega) ?_)
        refine st (s_assign rfl ?_)
        refine r_end ?_
        exact n_round ((i + 1)) ⟨hb1, by omega, fun j j0 j1 => if e : j = i then by rw [e]; exact h2 else ha j j0 (by omega), hE1⟩ (by omega) (by exact ⟨rfl, rfl, rfl, rfl, trivial⟩)
    · refine w_exit' ?_
      refine n_then_exit ?_
      refine n_then_exit ?_
      refine n_block_exit ?_
      refine n_then ?_
      refine w_seq ?_
      refine w_seq ?_
      refine w_region ?_
      refine st (s_assign rfl ?_)
      refine r_end ?_
      refine n_then ?_
      refine w_block ?_
      have hno := not_mem_ix (by omega : i = (E.length : Int)) ha
      refine w_loop (α := Int × List Int × Value) (fun ((k, Ek, vk) : Int × List Int × Value) => [(0, va), (1, .int .i64 n), (2, vk), (8, .int .i64 k)]) (fun ((k, Ek, vk) : Int × List Int × Value) W => Below a.heap.size a W ∧ (0 ≤ k ∧ k ≤ 4) ∧ (Ek = endV l f (ix l (n - 1)) E k) ∧ (Own (Kd.num .i64) 3 a.heap.size W (fun _ => False) vk Ek) ∧ (OkE l.length Ek) ∧ (¬ n ∈ Ek)) (fun ((k, Ek, vk) : Int × List Int × Value) => (4 - k).toNat) ((0), (E), (vo)) ⟨hb1, by omega, by rw [endV_zero], hE1, hok, hno⟩ (by exact ⟨rfl, rfl, rfl, rfl, trivial⟩) ?_
      rintro ⟨k, Ek, vk⟩ w2 ⟨hb2, hk, hEe, hEk, hok2, hno2⟩
      dsimp only at *
      have hz2 := hb2.size
      refine w_seq ?_
      refine w_seq ?_
      refine w_region ?_
      refine st (s_move rfl ?_)
      refine st (s_lt rfl rfl ?_)
      refine r_end ?_
      refine n_then ?_
      refine w_condP rfl (fun h3 => ?_) (fun h3 => ?_)
      · refine w_skip' ?_
        refine n_then ?_
        refine w_seq ?_
        refine w_block ?_
        refine w_seq ?_
        refine w_region ?_
        refine st (s_move rfl ?_)
        refine st (s_move rfl ?_)
        refine st (s_sub rfl rfl (by omega) ?_)
        refine st (s_idx sl22 rfl rfl (hl.at0 hb2) (by omega) (by omega) ?_)
        rintro b2 o2 _ ⟨rfl, _⟩ hc2 hF2 hlt2
        have hl_1 := Loc.lt hF2
        refine st (s_faddr fld35_0 rfl ?_)
        refine st (s_load one3 rfl hc2 (j := 0) rfl ?_)
        refine st (s_gt rfl rfl ?_)
        refine st (s_move rfl ?_)
        refine r_caseP 33 rfl (fun h4 => ?_) (fun h4 => ?_)
        · have hkin := fun k k0 k1 e => kid_in hl_ok (i := n - 1) (k := k) (by omega) (by omega) k0 k1 (by omega) e
          refine stg (s_move rfl ?_)
          refine stg (s_move rfl ?_)
          refine stg (s_sub rfl rfl (by omega) ?_)
          refine stg (s_move rfl ?_)
          refine stg (s_idx sl22 rfl rfl (hl.at0 hb2) (by omega) (by omega) ?_)
          rintro b3 o3 _ ⟨rfl, _⟩ hc3 hF3 hlt3
          have hl_2 := Loc.lt hF3
          refine stg (s_faddr fld35_1 rfl ?_)
          refine stg (s_iaddr arr33 rfl rfl (by omega) (by omega) ?_)
          refine stg (s_load4 one3 rfl hc3 (j := 1) rfl rfl (by omega) (by omega) ?_)
          refine stg (s_gt rfl rfl ?_)
          refine st (s_pick rfl rfl ?_)
          refine r_end ?_
          refine n_then ?_
          refine w_condP rfl (fun h5 => ?_) (fun h5 => ?_)
          · have hkid := hkin k hk.1 (by omega) (by unfold Nd.kid; omega)
            unfold Nd.kid at hkid
            refine w_region ?_
            refine st (s_move rfl ?_)
            refine st (s_move rfl ?_)
            refine st (s_move rfl ?_)
            refine st (s_sub rfl rfl (by omega) ?_)
            refine st (s_move rfl ?_)
            refine st (s_idx sl22 rfl rfl (hl.at0 hb2) (by omega) (by omega) ?_)
            rintro b4 o4 _ ⟨rfl, _⟩ hc4 hF4 hlt4
            have hl_3 := Loc.lt hF4
            refine st (s_faddr fld35_1 rfl ?_)
            refine st (s_iaddr arr33 rfl rfl (by omega) (by omega) ?_)
            refine st (s_load4 one3 rfl hc4 (j := 1) rfl rfl (by omega) (by omega) ?_)
            refine st (s_move rfl ?_)
            refine st (s_call fn30 rfl (ih (n := (sel4 ((ix l (n - 1)).k0) ((ix l (n - 1)).k1) ((ix l (n - 1)).k2) ((ix l (n - 1)).k3) k)) (by omega) (by omega) (by omega) hb2 hEk hok2) ?_)
            rintro ve1 w3 ⟨hb3, hO1⟩
            have hz3 := hb3.size
            refine st (s_assign rfl ?_)
            refine r_end ?_
            refine n_block ?_
            refine n_then ?_
            refine w_region ?_
            refine st (s_move rfl ?_)
            refine st (s_add rfl rfl (by omega) ?_)
            refine st (s_assign rfl ?_)
            refine r_end ?_
            exact n_round (((k + 1)), ((endF l f ((sel4 ((ix l (n - 1)).k0) ((ix l (n - 1)).k1) ((ix l (n - 1)).k2) ((ix l (n - 1)).k3) k)) Ek)), (ve1)) ⟨hb3, by omega, by rw [hEe]; exact (endV_yes hk.1 (by omega) (by simpa using h4) (by simpa [Nd.kid] using h5)).symm, hO1, endF_ok hl_ok f _ _ (by omega) (by omega) hok2, endF_new hl_ok (n := n) (by omega) (by omega) hn1 hno2⟩ (by omega) (by exact ⟨rfl, rfl, rfl, rfl, trivial⟩)
          · refine w_skip' ?_
            refine n_block ?_
            refine n_then ?_
            refine w_region ?_
            refine st (s_move rfl ?_)
            refine st (s_add rfl rfl (by omega) ?_)
            refine st (s_assign rfl ?_)
            refine r_end ?_
            exact n_round (((k + 1)), ((Ek)), (vk)) ⟨hb2, by omega, by rw [hEe]; exact (endV_no hk.1 (by omega) (fun _ => by unfold Nd.kid; omega)).symm, hEk, hok2, hno2⟩ (by omega) (by exact ⟨rfl, rfl, rfl, rfl, trivial⟩)
        · refine s_pass rfl rfl ?_
          refine s_pass rfl rfl ?_
          refine s_pass rfl rfl ?_
          refine s_pass rfl rfl ?_
          refine s_pass rfl rfl ?_
          refine s_pass rfl rfl ?_
          refine s_pass rfl rfl ?_
          refine s_pass rfl rfl ?_
          refine s_pass rfl rfl ?_
          refine st (s_pick rfl rfl ?_)
          refine r_end ?_
          refine n_then ?_
          refine w_condF rfl ?_
          refine w_skip' ?_
          refine n_block ?_
          refine n_then ?_
          refine w_region ?_
          refine st (s_move rfl ?_)
          refine st (s_add rfl rfl (by omega) ?_)
          refine st (s_assign rfl ?_)
          refine r_end ?_
          exact n_round (((k + 1)), ((Ek)), (vk)) ⟨hb2, by omega, by rw [hEe]; exact (endV_no hk.1 (by omega) (fun h => absurd h h4)).symm, hEk, hok2, hno2⟩ (by omega) (by exact ⟨rfl, rfl, rfl, rfl, trivial⟩)
      · refine w_exit' ?_
        refine n_then_exit ?_
        refine n_then_exit ?_
        refine n_block_exit ?_
        refine n_then ?_
        refine w_seq ?_
        refine w_region ?_
        refine st (s_move rfl ?_)
        refine st (s_move rfl ?_)
        refine st (s_bslice (ps := [(0, .tmp 56)]) (ccs := [#[.int .i64 n]]) (e := 3) (cells := [.int .i64 n]) rfl rfl (by kernel_rfl) (by decide) nz3 ?_)
        intro g1 w4 hg1 hB1 k2 hs1
        have hb4 := below_g0 hb2 k2
        have hz4 := hb4.size
        have hO2 := hEk.g0 k2
        refine st (s_append (K := (Kd.num .i64)) sl46 rfl rfl hO2 (lit_num hB1 hEk (fun h => h) hg1) (num_ones _) (by have := hok2.len; simp; omega) (by have := hok2.len; simp; omega) (by first | exact Nat.le_refl _ | omega) (fun _ h => h.elim) ?_)
        intro v1 w5 hO3 k3 hr5
        have hb5 := hb4.grown k3 hb4.size (fun k_ hk_ => (hO2.lt k_ hk_).1)
        have hz5 := hb5.size
        refine st (s_assign rfl ?_)
        refine r_end ?_
        refine n_then ?_
        refine w_ret1 rfl rfl ?_
        have e4 : k = 4 := by omega
        subst e4
        refine ⟨_, rfl, hb5, ?_⟩
        rw [endF_eq hno, ← hEe]
        exact hO3
end Go.Proofs.Ytdeiiagkbbimhaa
