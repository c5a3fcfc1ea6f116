/- Part of the proof that is named in YtdeiiagkbbimhaaNRowCanJust: a library for walks, or a function's walk. -/
import Derived.Test.YtdeiiagkbbimhaaNR
set_option maxRecDepth 20000
set_option linter.unusedSimpArgs false
set_option linter.unusedVariables false
namespace Go.Proofs.Ytdeiiagkbbimhaa
open Go.RowKit Go.Gw
theorem intern_any {a w : World} {ga gk : Nat} {vo : Value} {o : List Nd} {M : List (Nd × Int)} {x : Nd} (hb0 : Below a.heap.size a w) (hga : a.heap.size ≤ ga) (hgk : a.heap.size ≤ gk) (hBA : Blk w ga 54 [vo, .map (some gk)].toArray) (hMK : IsMap Nd.val ekI w gk M) (hE : Own Kd.node 35 a.heap.size w (fun _ => False) vo o)
    (hMI : MInv M o) (hol : o.length ≤ 200000) : Calls Try.prog 35 [.pointer (some ⟨ga, 0, none⟩), .agg x.cells.toArray].toArray w (Ret fun v w' => v = .int .i64 (intr o x).2 ∧ ∃ vo' M', Below a.heap.size a w' ∧ Blk w' ga 54 [vo', .map (some gk)].toArray ∧ IsMap Nd.val ekI w' gk M' ∧ Own Kd.node 35 a.heap.size w' (fun _ => False) vo' (intr o x).1 ∧ MInv M' (intr o x).1 ∧ Frm (fun g => g = ga ∨ g = gk) w vo w' vo') := by
  have hz0 := hb0.size
  have hF0 := Frm.refl (fun g => g = ga ∨ g = gk) w vo
  have hgal := hBA.lt
  refine enter Try.func35 rfl rfl ?_
  refine w_seq ?_
  refine w_region ?_
  refine st (s_box rfl ?_)
  intro g1 w1 hg1 hB1 k1 hs1
  have hn1 := own_new hE hg1
  have hb1 := below_g0 hb0 k1
  have hF1 := hF0.none k1
  have hO1 := hE.g0 k1
  have hM1 := hMK.g0 k1
  refine st (s_assign rfl ?_)
  refine r_end ?_
  refine n_then ?_
  refine w_seq ?_
  refine w_seq ?_
  refine w_region ?_
  refine st (s_faddr fld35_1 rfl ?_)
  refine st (s_loadN (us := [.int .i64 x.k0, .int .i64 x.k1, .int .i64 x.k2, .int .i64 x.k3]) row33 rfl hB1.range (j := 1) rfl rfl ?_)
  refine st (s_build (ps := []) (ccs := []) (cells := [.int .i64 0, .int .i64 0, .int .i64 0, .int .i64 0]) rfl rfl (by kernel_rfl) ?_)
  refine st (s_eq4 four33 (by kernel_rfl) (by kernel_rfl) (by kernel_rfl) rfl rfl ?_)
  refine r_end ?_
  refine n_then ?_
  refine w_condP rfl (fun h1 => ?_) (fun h1 => ?_)
  · refine w_seq ?_
    refine w_region ?_
    refine st (s_assign rfl ?_)
    refine r_end ?_
    refine n_then ?_
    refine w_ret1 rfl rfl ?_
    have hv : intr o x = (o, 0) := intr_zero h1
    refine ⟨_, rfl, ?_, vo, _, hb1, (hBA.g0 k1), hM1, ?_, ?_, hF1⟩
    · rw [hv]
    · rw [hv]; exact hO1
    · rw [hv]; exact hMI
  · refine w_skip' ?_
    refine n_then ?_
    refine w_seq ?_
    refine w_seq ?_
    refine w_draw 10 (fun a b => a.grownBy b none) [(some 12, fun v _ => v = .pointer (some ⟨ga, 0, none⟩)), (some 13, fun v _ => v = .pointer (some ⟨ga, 0, none⟩)), (some 14, fun v _ => v = .pointer (some ⟨ga, 0 + 1, none⟩)), (some 15, fun v _ => v = .map (some gk)), (some 16, fun v _ => v = .agg [.int .i64 x.lv, .int .i64 x.k0, .int .i64 x.k1, .int .i64 x.k2, .int .i64 x.k3].toArray), (some 17, fun v _ => v = .tuple #[.int .i64 ((mget M x).getD 0), .bool ((mget M x).isSome)]), (some 11, fun v _ => v = .tuple #[.int .i64 ((mget M x).getD 0), .bool ((mget M x).isSome)]), (some 18, fun v _ => v = .int .i64 ((mget M x).getD 0)), (some 19, fun v _ => v = .bool ((mget M x).isSome)), (some 5, fun v _ => v = .int .i64 ((mget M x).getD 0))] [[], [0], [1], [2], [], [3, 4], [5], [6], [6], [7]] [(0, .pointer (some ⟨ga, 0, none⟩)), (3, .pointer (some ⟨g1, 0, none⟩)), (4, .int .i64 0)] (by exact ⟨rfl, rfl, rfl, trivial⟩) (by kernel_rfl) (by kernel_rfl) grown_none_refl (fun _ _ _ => grown_none_trans) ⟨fun _ _ _ h _ => h, fun _ _ _ h _ => h, fun _ _ _ h _ => h, fun _ _ _ h _ => h, fun _ _ _ h _ => h, fun _ _ _ h _ => h, fun _ _ _ h _ => h, fun _ _ _ h _ => h, fun _ _ _ h _ => h, fun _ _ _ h _ => h, trivial⟩ ?_
    intro w2 k2 hs2
    have hb2 := below_g0 hb1 k2
    have hF2 := hF1.none k2
    have hO2 := hO1.g0 k2
    have hM2 := hM1.g0 k2
    refine ⟨⟨?_, ?_, ?_, ?_, ?_, ?_, ?_, ?_, ?_, ?_, trivial⟩, ?_⟩
    · intro w3 k3
      have hb3 := below_g0 hb2 k3
      have hF3 := hF2.none k3
      have hO3 := hO2.g0 k3
      have hM3 := hM2.g0 k3
      refine op1 (s_move rfl ?_)
      exact ⟨rfl, grown_none_refl _⟩
    · intro w4 k4
      have hb4 := below_g0 hb2 k4
      have hF4 := hF2.none k4
      have hO4 := hO2.g0 k4
      have hM4 := hM2.g0 k4
      rintro _ rfl
      refine op1 (s_nilp rfl ?_)
      exact ⟨rfl, grown_none_refl _⟩
    · intro w5 k5
      have hb5 := below_g0 hb2 k5
      have hF5 := hF2.none k5
      have hO5 := hO2.g0 k5
      have hM5 := hM2.g0 k5
      rintro _ rfl
      refine op1 (s_faddr fld54_1 rfl ?_)
      exact ⟨rfl, grown_none_refl _⟩
    · intro w6 k6
      have hb6 := below_g0 hb2 k6
      have hF6 := hF2.none k6
      have hO6 := hO2.g0 k6
      have hM6 := hM2.g0 k6
      rintro _ rfl
      refine op1 (s_load one52 rfl (((hBA.g0 k1).g0 k2).g0 k6).range (j := 1) rfl ?_)
      exact ⟨rfl, grown_none_refl _⟩
    · intro w7 k7
      have hb7 := below_g0 hb2 k7
      have hF7 := hF2.none k7
      have hO7 := hO2.g0 k7
      have hM7 := hM2.g0 k7
      refine op1 (s_loadW row35 rfl ((hB1.g0 k2).g0 k7).range rfl ?_)
      exact ⟨rfl, grown_none_refl _⟩
    · intro w8 k8
      have hb8 := below_g0 hb2 k8
      have hF8 := hF2.none k8
      have hO8 := hO2.g0 k8
      have hM8 := hM2.g0 k8
      rintro _ rfl
      rintro _ rfl
      refine op1 (s_lookupI2 map52 keyNode rfl rfl hM8 (by kernel_rfl) ?_)
      exact ⟨rfl, grown_none_refl _⟩
    · intro w9 k9
      have hb9 := below_g0 hb2 k9
      have hF9 := hF2.none k9
      have hO9 := hO2.g0 k9
      have hM9 := hM2.g0 k9
      rintro _ rfl
      refine op1 (s_move rfl ?_)
      exact ⟨rfl, grown_none_refl _⟩
    · intro w10 k10
      have hb10 := below_g0 hb2 k10
      have hF10 := hF2.none k10
      have hO10 := hO2.g0 k10
      have hM10 := hM2.g0 k10
      rintro _ rfl
      refine op1 (s_extract rfl rfl ?_)
      exact ⟨rfl, grown_none_refl _⟩
    · intro w11 k11
      have hb11 := below_g0 hb2 k11
      have hF11 := hF2.none k11
      have hO11 := hO2.g0 k11
      have hM11 := hM2.g0 k11
      rintro _ rfl
      refine op1 (s_extract rfl rfl ?_)
      exact ⟨rfl, grown_none_refl _⟩
    · intro w12 k12
      have hb12 := below_g0 hb2 k12
      have hF12 := hF2.none k12
      have hO12 := hO2.g0 k12
      have hM12 := hM2.g0 k12
      rintro _ rfl
      refine op1 (s_assign rfl ?_)
      exact ⟨rfl, grown_none_refl _⟩
    · intro w13 k13
      have hb13 := below_g0 hb2 k13
      have hF13 := hF2.none k13
      have hO13 := hO2.g0 k13
      have hM13 := hM2.g0 k13
      rintro _ rfl
      rintro _ rfl
      rintro _ rfl
      rintro _ rfl
      rintro _ rfl
      rintro _ rfl
      rintro _ rfl
      rintro _ rfl
      rintro _ rfl
      rintro _ rfl
      refine st (s_assign rfl ?_)
      refine r_end ?_
      refine n_then ?_
      refine w_seq ?_
      refine w_region ?_
      refine st (s_move rfl ?_)
      refine r_end ?_
      refine n_then ?_
      refine w_cond rfl (fun h2 => ?_) (fun h2 => ?_)
      · refine w_seq ?_
        refine w_region ?_
        refine st (s_move rfl ?_)
        refine st (s_assign rfl ?_)
        refine r_end ?_
        refine n_then ?_
        refine w_ret1 rfl rfl ?_
        have hv := minv_yes hMI h2 h1
        refine ⟨_, rfl, ?_, vo, _, hb13, (((hBA.g0 k1).g0 k2).g0 k13), hM13, ?_, ?_, hF13⟩
        · rw [hv]
        · rw [hv]; exact hO13
        · rw [hv]; exact hMI
      · refine w_skip' ?_
        refine n_then ?_
        refine w_seq ?_
        refine w_drawD 11 (Two (fun i => i = ga ∨ vo.ownBlock = some i)) (fun a b => a.grownBy b none) (Two (fun i => i = ga ∨ vo.ownBlock = some i)) [(some 22, fun v _ => v = .pointer (some ⟨ga, 0, none⟩)), (some 23, fun v _ => v = .pointer (some ⟨ga, 0, none⟩)), (some 24, fun v _ => v = .pointer (some ⟨ga, 0, none⟩)), (some 25, fun v _ => v = .pointer (some ⟨ga, 0 + 0, none⟩)), (some 26, fun v _ => v = vo), (some 27, fun v _ => v = .agg [.int .i64 x.lv, .int .i64 x.k0, .int .i64 x.k1, .int .i64 x.k2, .int .i64 x.k3].toArray), (some 28, fun v W => Sl Kd.node W (fun _ => False) v [x]), (some 29, fun v W => (Own Kd.node 35 a.heap.size W (fun _ => False) v (o ++ [x]) ∧ (v.ownBlock = vo.ownBlock ∨ ∃ q, v.ownBlock = some q ∧ w13.heap.size ≤ q)) ∧ Blk W ga 54 [vo, .map (some gk)].toArray), (some 30, fun v _ => v = .pointer (some ⟨ga, 0, none⟩)), (some 31, fun v _ => v = .pointer (some ⟨ga, 0 + 0, none⟩)), (none, fun _ W => ∃ u, (Own Kd.node 35 a.heap.size W (fun _ => False) u (o ++ [x]) ∧ (u.ownBlock = vo.ownBlock ∨ ∃ q, u.ownBlock = some q ∧ w13.heap.size ≤ q)) ∧ Blk W ga 54 [u, .map (some gk)].toArray)] [[], [], [1], [2], [3], [], [5], [4, 6], [0], [8], [7, 9]] [[], [], [1], [2, 1], [3, 2, 1], [], [5], [4, 6, 3, 2, 1, 5], [], [], [7, 6, 5, 4, 3, 2, 1]] [[], [], [], [], [], [], [7], [10], [], [], []] [false, false, false, false, false, false, false, true, false, false, true] [true, true, true, true, true, true, false, false, true, true, false] [false, true, true, true, true, true, true, true, false, false, false] [(0, .pointer (some ⟨ga, 0, none⟩)), (3, .pointer (some ⟨g1, 0, none⟩)), (4, .int .i64 0)] (by exact ⟨rfl, rfl, rfl, trivial⟩) (by kernel_rfl) (by kernel_rfl) (by kernel_rfl) rfl (Two.refl _) (fun _ _ _ h k => h.trans k) (fun _ _ h => Two.none h) (fun _ _ h => h) ⟨fun _ _ _ h _ => by exact h, fun _ _ _ h _ => by exact h, fun _ _ _ h _ => by exact h, fun _ _ _ h _ => by exact h, fun _ _ _ h _ => by exact h, fun _ _ _ h _ => by exact h, fun _ _ _ h _ => by exact h, fun _ _ _ h _ => by exact h, fun _ _ _ h _ => by exact h, fun _ _ _ h _ => by exact h, fun _ _ _ h _ => by exact h, fun _ _ _ h _ => by exact h, fun _ _ _ h k => h.g0 k, fun _ _ _ h k => ⟨⟨h.1.1.g0 k, h.1.2⟩, h.2.g0 k⟩, fun _ _ _ h _ => by exact h, fun _ _ _ h _ => by exact h, fun _ _ _ h _ => by exact h, fun _ _ _ h _ => by exact h, fun _ _ _ h k => by obtain ⟨u, h⟩ := h; exact ⟨u, ⟨h.1.1.g0 k, h.1.2⟩, h.2.g0 k⟩, trivial⟩ grown_none_refl (fun _ _ _ => grown_none_trans) rfl ?_
        intro w14 k14 hs3
        have hb14 := below_g0 hb13 k14
        have hF14 := hF13.none k14
        have hO14 := hO13.g0 k14
        have hM14 := hM13.g0 k14
        refine ⟨⟨?_, ?_, ?_, ?_, ?_, ?_, ?_, ?_, ?_, ?_, ?_, trivial⟩, ?_⟩
        · intro w8z_ kb_
          exact op1 (s_move rfl ⟨rfl, grown_none_refl _⟩)
        · intro w8z_ kb_
          have hb_ := below_g0 hb14 kb_
          have hz_ := hb_.size
          have he_ := kb_.size
          exact op1 (s_move rfl ⟨rfl, grown_none_refl _⟩)
        · intro w8z_ kb_
          have hb_ := below_g0 hb14 kb_
          have hz_ := hb_.size
          have he_ := kb_.size
          rintro _ rfl
          exact op1 (s_nilp rfl ⟨rfl, grown_none_refl _⟩)
        · intro w8z_ kb_
          have hb_ := below_g0 hb14 kb_
          have hz_ := hb_.size
          have he_ := kb_.size
          rintro _ rfl
          exact op1 (s_faddr fld54_0 rfl ⟨rfl, grown_none_refl _⟩)
        · intro w8z_ kb_
          have hb_ := below_g0 hb14 kb_
          have hz_ := hb_.size
          have he_ := kb_.size
          rintro _ rfl
          exact op1 (s_load one22 rfl (((((hBA.g0 k1).g0 k2).g0 k13).g0 k14).g0 kb_).range (j := 0) rfl ⟨rfl, grown_none_refl _⟩)
        · intro w8z_ kb_
          have hb_ := below_g0 hb14 kb_
          have hz_ := hb_.size
          have he_ := kb_.size
          exact op1 (s_loadW row35 rfl ((((hB1.g0 k2).g0 k13).g0 k14).g0 kb_).range rfl ⟨rfl, grown_none_refl _⟩)
        · intro w8z_ kb_
          have hb_ := below_g0 hb14 kb_
          have hz_ := hb_.size
          have he_ := kb_.size
          rintro _ rfl
          refine op1 (s_bslice (ps := [(0, .tmp 27)]) (ccs := [(Nd.cells x).toArray]) (e := 35) (cells := Nd.cells x) rfl rfl (by kernel_rfl) (by decide) nz35 ?_)
          intro gz_ wz_ hgz_ hBz_ kz_ hsz_
          exact ⟨lit_nodes [x] hBz_ (fun h => h) rfl (by decide), kz_⟩
        · intro w8z_ kb_
          have hb_ := below_g0 hb14 kb_
          have hz_ := hb_.size
          have he_ := kb_.size
          intro v_ hv_; subst v_
          intro vl_ hl_
          refine op1 (s_appendF (K := Kd.node) sl22 rfl rfl (hO14.g0 kb_) node_flat hl_ node_ones (by simp; omega) (by simp; omega) (by omega) (fun _ h => h.elim) ?_)
          intro vz_ wz_ hPz_ kz_ hor_ _
          refine ⟨⟨⟨hPz_, ?_⟩, ?_⟩, Two.of kz_ (fun r hr => .inr hr)⟩
          · rcases hor_ with h_ | h_
            · exact .inl h_
            · exact .inr ⟨_, h_, by omega⟩
          · exact (((((hBA.g0 k1).g0 k2).g0 k13).g0 k14).g0 kb_).grown kz_ (fun e => ne_of (hO14.ne_blk ((((hBA.g0 k1).g0 k2).g0 k13).g0 k14) (by decide)) e.symm)
        · intro w8z_ kb_
          rintro _ rfl
          exact op1 (s_nilp rfl ⟨rfl, grown_none_refl _⟩)
        · intro w8z_ kb_
          rintro _ rfl
          exact op1 (s_faddr fld54_0 rfl ⟨rfl, grown_none_refl _⟩)
        · intro w8z_ kb_
          rintro v29 ⟨⟨h29, hr29⟩, hB29⟩
          rintro _ rfl
          refine op1 (s_store one22 rfl rfl h29.one hB29 (by simp) ?_)
          intro wz_ hBz_ kz_ _
          exact ⟨⟨v29, ⟨h29.keptF node_flat kz_ (.inr (ne_of (h29.ne_blk hB29 (by decide)))), hr29⟩, hBz_⟩, Two.of kz_ (by rintro r ⟨⟩; exact .inl rfl)⟩
        intro w15 k15
        rintro _ rfl
        rintro _ rfl
        rintro _ rfl
        rintro _ rfl
        intro v_ hv_; subst v_
        rintro _ rfl
        intro v28 _
        intro v29 _
        rintro _ rfl
        rintro _ rfl
        rintro _ ⟨v30, ⟨h30, hr30⟩, hB30⟩
        have hgax : g1 ≠ ga := (blk_ne_blk (((hB1.g0 k2).g0 k13).g0 k14) ((((hBA.g0 k1).g0 k2).g0 k13).g0 k14) (by decide))
        have hgkx : gk ≠ ga := hM14.ne_blk ((((hBA.g0 k1).g0 k2).g0 k13).g0 k14)
        have hr1 : v30.ownBlock = vo.ownBlock ∨ ∃ q, v30.ownBlock = some q ∧ w14.heap.size ≤ q := by rw [hs3]; exact hr30
        have hb15 := k15.below hb14 hb14.size (fun i hi h_ => h_.elim (fun h_ => by omega) (fun h_ => by have := (hO14.lt i h_).1; omega))
        have hB2 := (((hB1.g0 k2).g0 k13).g0 k14).two k15 (fun h_ => h_.elim hgax hn1)
        have hM15 := hM14.two k15 (fun h_ => h_.elim hgkx (ne_of_map hM14 hO14))
        have hF15 := hF14.two k15 (fun i h_ => h_.imp .inl id) hr1
        have hz1 := hb15.size
        have hn2 := own_app2 hn1 hr1 (by have := (((hB1.g0 k2).g0 k13).g0 k14).lt; omega)
        refine r_end ?_
        refine n_then ?_
        refine w_seq ?_
        refine w_draw 10 (fun a b => a.grownBy b none) [(some 32, fun v _ => v = .pointer (some ⟨ga, 0, none⟩)), (some 33, fun v _ => v = .pointer (some ⟨ga, 0, none⟩)), (some 34, fun v _ => v = .pointer (some ⟨ga, 0 + 1, none⟩)), (some 35, fun v _ => v = .map (some gk)), (some 36, fun v _ => v = .agg [.int .i64 x.lv, .int .i64 x.k0, .int .i64 x.k1, .int .i64 x.k2, .int .i64 x.k3].toArray), (some 37, fun v _ => v = .pointer (some ⟨ga, 0, none⟩)), (some 38, fun v _ => v = .pointer (some ⟨ga, 0, none⟩)), (some 39, fun v _ => v = .pointer (some ⟨ga, 0 + 0, none⟩)), (some 40, fun v _ => v = v30), (some 41, fun v _ => v = .int .i64 ((o ++ [x]).length : Int))] [[], [0], [1], [2], [], [], [5], [6], [7], [8]] [(0, .pointer (some ⟨ga, 0, none⟩)), (3, .pointer (some ⟨g1, 0, none⟩)), (4, .int .i64 0)] (by exact ⟨rfl, rfl, rfl, trivial⟩) (by kernel_rfl) (by kernel_rfl) grown_none_refl (fun _ _ _ => grown_none_trans) ⟨fun _ _ _ h _ => h, fun _ _ _ h _ => h, fun _ _ _ h _ => h, fun _ _ _ h _ => h, fun _ _ _ h _ => h, fun _ _ _ h _ => h, fun _ _ _ h _ => h, fun _ _ _ h _ => h, fun _ _ _ h _ => h, fun _ _ _ h _ => h, trivial⟩ ?_
        intro w16 k16 hs4
        have hb16 := below_g0 hb15 k16
        have hF16 := hF15.none k16
        have hO15 := h30.g0 k16
        have hM16 := hM15.g0 k16
        refine ⟨⟨?_, ?_, ?_, ?_, ?_, ?_, ?_, ?_, ?_, ?_, trivial⟩, ?_⟩
        · intro w17 k17
          have hb17 := below_g0 hb16 k17
          have hF17 := hF16.none k17
          have hO16 := hO15.g0 k17
          have hM17 := hM16.g0 k17
          refine op1 (s_move rfl ?_)
          exact ⟨rfl, grown_none_refl _⟩
        · intro w18 k18
          have hb18 := below_g0 hb16 k18
          have hF18 := hF16.none k18
          have hO17 := hO15.g0 k18
          have hM18 := hM16.g0 k18
          rintro _ rfl
          refine op1 (s_nilp rfl ?_)
          exact ⟨rfl, grown_none_refl _⟩
        · intro w19 k19
          have hb19 := below_g0 hb16 k19
          have hF19 := hF16.none k19
          have hO18 := hO15.g0 k19
          have hM19 := hM16.g0 k19
          rintro _ rfl
          refine op1 (s_faddr fld54_1 rfl ?_)
          exact ⟨rfl, grown_none_refl _⟩
        · intro w20 k20
          have hb20 := below_g0 hb16 k20
          have hF20 := hF16.none k20
          have hO19 := hO15.g0 k20
          have hM20 := hM16.g0 k20
          rintro _ rfl
          refine op1 (s_load one52 rfl ((hB30.g0 k16).g0 k20).range (j := 1) rfl ?_)
          exact ⟨rfl, grown_none_refl _⟩
        · intro w21 k21
          have hb21 := below_g0 hb16 k21
          have hF21 := hF16.none k21
          have hO20 := hO15.g0 k21
          have hM21 := hM16.g0 k21
          refine op1 (s_loadW row35 rfl ((hB2.g0 k16).g0 k21).range rfl ?_)
          exact ⟨rfl, grown_none_refl _⟩
        · intro w22 k22
          have hb22 := below_g0 hb16 k22
          have hF22 := hF16.none k22
          have hO21 := hO15.g0 k22
          have hM22 := hM16.g0 k22
          refine op1 (s_move rfl ?_)
          exact ⟨rfl, grown_none_refl _⟩
        · intro w23 k23
          have hb23 := below_g0 hb16 k23
          have hF23 := hF16.none k23
          have hO22 := hO15.g0 k23
          have hM23 := hM16.g0 k23
          rintro _ rfl
          refine op1 (s_nilp rfl ?_)
          exact ⟨rfl, grown_none_refl _⟩
        · intro w24 k24
          have hb24 := below_g0 hb16 k24
          have hF24 := hF16.none k24
          have hO23 := hO15.g0 k24
          have hM24 := hM16.g0 k24
          rintro _ rfl
          refine op1 (s_faddr fld54_0 rfl ?_)
          exact ⟨rfl, grown_none_refl _⟩
        · intro w25 k25
          have hb25 := below_g0 hb16 k25
          have hF25 := hF16.none k25
          have hO24 := hO15.g0 k25
          have hM25 := hM16.g0 k25
          rintro _ rfl
          refine op1 (s_load one22 rfl ((hB30.g0 k16).g0 k25).range (j := 0) rfl ?_)
          exact ⟨rfl, grown_none_refl _⟩
        · intro w26 k26
          have hb26 := below_g0 hb16 k26
          have hF26 := hF16.none k26
          have hO25 := hO15.g0 k26
          have hM26 := hM16.g0 k26
          intro v_ hv_; subst v_
          refine op1 (s_len sl22 rfl hO25.sl ?_)
          exact ⟨rfl, grown_none_refl _⟩
        · intro w27 k27
          have hb27 := below_g0 hb16 k27
          have hF27 := hF16.none k27
          have hO26 := hO15.g0 k27
          have hM27 := hM16.g0 k27
          rintro _ rfl
          rintro _ rfl
          rintro _ rfl
          rintro _ rfl
          rintro _ rfl
          rintro _ rfl
          rintro _ rfl
          rintro _ rfl
          intro v_ hv_; subst v_
          rintro _ rfl
          refine st0 (s_mapput (a := x) (v := ((o ++ [x]).length : Int)) map52 keyNode rfl rfl rfl hM27 ?_)
          intro w28 hM28 k28 hs5
          have hb28 := below_g hb27 k28 (by omega)
          have hF28 := hF27.put k28 (by first | exact .inr (by omega) | exact .inl (by assumption) | exact .inl (.inl rfl) | exact .inl (.inr rfl) | exact .inl (.inr (.inl rfl)) | exact .inl (.inr (.inr rfl)))
          have hO27 := Own.keptF node_flat hO26 k28 (hM27.ne_own hO26)
          refine r_end ?_
          refine n_then ?_
          refine w_seq ?_
          refine w_region ?_
          refine st (s_move rfl ?_)
          refine st (s_nilp rfl ?_)
          refine st (s_faddr fld54_0 rfl ?_)
          refine st (s_load one22 rfl (((hB30.g0 k16).g0 k27).gne k28 (hM27.ne_blk ((hB30.g0 k16).g0 k27)).symm).range (j := 0) rfl ?_)
          refine st (s_len sl22 rfl hO27.sl ?_)
          refine st (s_assign rfl ?_)
          refine r_end ?_
          refine n_then ?_
          refine w_ret1 rfl rfl ?_
          have hv := minv_no hMI h2 h1
          refine ⟨_, rfl, ?_, v30, _, hb28, (((hB30.g0 k16).g0 k27).gne k28 (hM27.ne_blk ((hB30.g0 k16).g0 k27)).symm), hM28, ?_, ?_, hF28⟩
          · rw [hv.1]; simp
          · rw [hv.1]; exact hO27
          · rw [hv.1]; exact minv_push hMI hv.2 (by simp)
end Go.Proofs.Ytdeiiagkbbimhaa
