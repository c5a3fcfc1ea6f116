/- Part of the proof that is named in YtdeiiagkbbimhaaNRowCanJust: a library for walks, or a function's walk. -/
import Derived.Test.YtdeiiagkbbimhaaNS
set_option maxRecDepth 20000
set_option linter.unusedSimpArgs false
set_option linter.unusedVariables false
namespace Go.Proofs.Ytdeiiagkbbimhaa
open Go.RowKit Go.Gw
theorem visit1_any {a0 : World} {vl : Value} {L : List Nd} {F : Nat → Prop} {g7 g2 g8 g6 ga gd gk : Nat} (hl : Sl Kd.node a0 F vl L) (hl_ok : looseB L = true) (hll : L.length ≤ 110000) (hne0 : a0.heap.size ≤ ga ∧ a0.heap.size ≤ gd ∧ a0.heap.size ≤ gk) (hdst : Dist g7 g2 g8 g6 ga gd gk) :
    ∀ (f : Nat) {w : World} {vo : Value} {o : List Nd} {D : List (Int × Int)} {M : List (Nd × Int)} {n : Int}, n < f → 0 ≤ n → n ≤ L.length → Below a0.heap.size a0 w → Blk w g7 55 [.map (some gd)].toArray → Blk w g2 22 [vl].toArray → Blk w g8 56 [.func (.func 34) [].toArray [.pointer (some ⟨g7, 0, none⟩), .pointer (some ⟨g2, 0, none⟩), .pointer (some ⟨g8, 0, none⟩), .pointer (some ⟨g6, 0, none⟩)].toArray].toArray → Blk w g6 51 [Value.pointer (some ⟨ga, 0, none⟩)].toArray → Blk w ga 54 [vo, .map (some gk)].toArray → IsMap ekI ekI w gd D → IsMap Nd.val ekI w gk M → Own Kd.node 35 a0.heap.size w (fun _ => False) vo o → DOk L D o → MInv M o → CanL o →
    Calls Try.prog 34 ([] ++ [Value.int .i64 n] ++ [Value.pointer (some ⟨g7, 0, none⟩), Value.pointer (some ⟨g2, 0, none⟩), Value.pointer (some ⟨g8, 0, none⟩), Value.pointer (some ⟨g6, 0, none⟩)]).toArray w (Ret fun v w' => v = .int .i64 (vis (tr L n) o).2 ∧ ∃ vo' D' M', Below a0.heap.size a0 w' ∧ Blk w' ga 54 [vo', .map (some gk)].toArray ∧ IsMap ekI ekI w' gd D' ∧ IsMap Nd.val ekI w' gk M' ∧ Own Kd.node 35 a0.heap.size w' (fun _ => False) vo' (vis (tr L n) o).1 ∧
      DOk L D' (vis (tr L n) o).1 ∧ MInv M' (vis (tr L n) o).1 ∧ CanL (vis (tr L n) o).1 ∧ (∀ i : Int, n < i → mget D' i = mget D i) ∧ Frm (fun g => g = ga ∨ g = gd ∨ g = gk) w vo w' vo') := by
  intro f
  induction f with
  | zero => intro w vo o D M n hnf hn0; omega
  | succ f ih =>
    intro w vo o D M n hnf hn0 hn1b hb0 hQ7 hQ2 hQ8 hQ6 hBA hMD hMK hE hdok0 hmi0 hcan0
    have hnf2 : n ≤ (f : Int) := by omega
    have hgl7 := hQ7.lt
    have hgl2 := hQ2.lt
    have hgl8 := hQ8.lt
    have hgl6 := hQ6.lt
    have hgla := hBA.lt
    have hgld := hMD.lt
    have hglk := hMK.lt
    have hdk_ : gd ≠ gk := fun e => hdst.dx (.inr e)
    have hz0 := hb0.size
    have hF0 := Frm.refl (fun g => g = ga ∨ g = gd ∨ g = gk) w vo
    refine enter Try.func34 rfl rfl ?_
    refine w_seq ?_
    refine w_region ?_
    refine st (s_assign rfl ?_)
    refine r_end ?_
    refine n_then ?_
    refine w_seq ?_
    refine w_seq ?_
    refine w_region ?_
    refine st (s_load one55 rfl hQ7.range (j := 0) rfl ?_)
    refine st (s_move rfl ?_)
    refine st (s_lookupI2 map55 keyI rfl rfl hMD (by kernel_rfl) ?_)
    refine st (s_move rfl ?_)
    refine st (s_extract rfl rfl ?_)
    refine st (s_extract rfl rfl ?_)
    refine st (s_assign rfl ?_)
    refine st (s_assign rfl ?_)
    refine r_end ?_
    refine n_then ?_
    refine w_seq ?_
    refine w_region ?_
    refine st (s_move rfl ?_)
    refine r_end ?_
    refine n_then ?_
    refine w_cond rfl (fun h1 => ?_) (fun h1 => ?_)
    · obtain ⟨m_, hm_⟩ := Option.isSome_iff_exists.1 h1
      have hv_ := (hdok0.ok n m_ hm_).2.2
      refine w_seq ?_
      refine w_region ?_
      refine st (s_move rfl ?_)
      refine st (s_assign rfl ?_)
      refine r_end ?_
      refine n_then ?_
      refine w_ret1 rfl rfl ?_
      rw [hm_]
      refine ⟨_, rfl, ?_, vo, D, M, hb0, hBA, hMD, hMK, ?_, ?_, ?_, ?_, fun _ _ => rfl, hF0⟩
      · rw [hv_]; rfl
      · rw [hv_]; exact hE
      · rw [hv_]; exact hdok0
      · rw [hv_]; exact hmi0
      · rw [hv_]; exact hcan0
    · have hn1p : 1 ≤ n := by
        rcases Int.lt_or_le 0 n with q | q
        · omega
        · exfalso; have e : n = 0 := by omega
          rw [e, hdok0.zero] at h1; cases h1
      have hkr := kid_rng hl_ok (i := n - 1) (by omega) (by omega)
      have hno_ : mget D n = none := by simpa using h1
      refine w_skip' ?_
      refine n_then ?_
      refine w_seq ?_
      refine w_region ?_
      refine st (s_load one22 rfl hQ2.range (j := 0) rfl ?_)
      refine st (s_move rfl ?_)
      refine st (s_sub rfl rfl (by omega) ?_)
      refine st (s_idx sl22 rfl rfl (hl.at0 hb0) (by omega) (by omega) ?_)
      rintro b1 o1 _ ⟨rfl, _⟩ hc1 hF1 hlt1
      have hl_1 := Loc.lt hF1
      refine st (s_loadW row35 rfl hc1 rfl ?_)
      refine st (s_alloc zero35 ?_)
      intro g1 w1 hg1 hB1 k1 hs1
      have hn1 := own_new hE hg1
      have hb1 := below_g0 hb0 k1
      have hF2 := hF0.none k1
      have hO1 := hE.g0 k1
      have hM1 := hMK.g0 k1
      have hM2 := hMD.g0 k1
      refine st0 (s_storeN row35 rfl rfl hB1 rfl rfl rfl ?_)
      intro w2 hB2 k2 hs2
      have hb2 := below_g hb1 k2 (by omega)
      have hF3 := hF2.put k2 (by first | exact .inr (by omega) | exact .inl (by assumption) | exact .inl (.inl rfl) | exact .inl (.inr rfl) | exact .inl (.inr (.inl rfl)) | exact .inl (.inr (.inr rfl)))
      have hO2 := Own.keptN node_flat hO1 k2 hn1
      have hM3 := hM1.kept k2 (by simpa using hM1.ne_blk hB1)
      have hM4 := hM2.kept k2 (by simpa using hM2.ne_blk hB1)
      clear hB1
      refine r_end ?_
      refine n_then ?_
      refine w_seq ?_
      refine w_seq ?_
      refine w_region ?_
      refine st (s_faddr fld35_0 rfl ?_)
      refine st (s_load one3 rfl hB2.range (j := 0) rfl ?_)
      refine st (s_gt rfl rfl ?_)
      refine r_end ?_
      refine n_then ?_
      refine w_condP rfl (fun h2 => ?_) (fun h2 => ?_)
      · refine w_seq ?_
        refine w_region ?_
        refine st (s_faddr fld35_1 rfl ?_)
        refine st (s_loadN (us := [.int .i64 ((ix L (n - 1)).k0), .int .i64 ((ix L (n - 1)).k1), .int .i64 ((ix L (n - 1)).k2), .int .i64 ((ix L (n - 1)).k3)]) row33 rfl hB2.range (j := 1) rfl rfl ?_)
        refine st (s_move rfl ?_)
        refine r_end ?_
        refine n_then ?_
        refine w_block ?_
        refine w_loop (α := Int × List Nd × Value × List (Int × Int) × List (Nd × Int) × Int × Int × Int × Int) (fun ((k, ok, vk, Dk, Mk, a, b, c, e) : Int × List Nd × Value × List (Int × Int) × List (Nd × Int) × Int × Int × Int × Int) => [(0, .int .i64 n), (1, .pointer (some ⟨g7, 0, none⟩)), (3, .pointer (some ⟨g8, 0, none⟩)), (4, .pointer (some ⟨g6, 0, none⟩)), (6, .int .i64 0), (9, .pointer (some ⟨g1, 0, none⟩)), (30, .agg [.int .i64 ((ix L (n - 1)).k0), .int .i64 ((ix L (n - 1)).k1), .int .i64 ((ix L (n - 1)).k2), .int .i64 ((ix L (n - 1)).k3)].toArray), (31, .int .i64 k)]) (fun ((k, ok, vk, Dk, Mk, a, b, c, e) : Int × List Nd × Value × List (Int × Int) × List (Nd × Int) × Int × Int × Int × Int) W => Below a0.heap.size a0 W ∧ (0 ≤ k ∧ k ≤ 4) ∧ (St4 L (ix L (n - 1)) o k ok a b c e) ∧ (Blk W g7 55 [.map (some gd)].toArray) ∧ (Blk W g2 22 [vl].toArray) ∧ (Blk W g8 56 [.func (.func 34) [].toArray [.pointer (some ⟨g7, 0, none⟩), .pointer (some ⟨g2, 0, none⟩), .pointer (some ⟨g8, 0, none⟩), .pointer (some ⟨g6, 0, none⟩)].toArray].toArray) ∧ (Blk W g6 51 [.pointer (some ⟨ga, 0, none⟩)].toArray) ∧ (Blk W ga 54 [vk, .map (some gk)].toArray) ∧ (Blk W g1 35 [.int .i64 ((ix L (n - 1)).lv), .int .i64 a, .int .i64 b, .int .i64 c, .int .i64 e].toArray) ∧ (IsMap ekI ekI W gd Dk) ∧ (IsMap Nd.val ekI W gk Mk) ∧ (Own Kd.node 35 a0.heap.size W (fun _ => False) vk ok) ∧ (DOk L Dk ok) ∧ (MInv Mk ok) ∧ (CanL ok) ∧ (∀ i : Int, n ≤ i → mget Dk i = mget D i) ∧ (Frm (fun g => g = ga ∨ g = gd ∨ g = gk) w vo W vk) ∧ (vk.ownBlock ≠ some g1)) (fun ((k, ok, vk, Dk, Mk, a, b, c, e) : Int × List Nd × Value × List (Int × Int) × List (Nd × Int) × Int × Int × Int × Int) => (4 - k).toNat) ((0), (o), (vo), (D), (M), ((ix L (n - 1)).k0), ((ix L (n - 1)).k1), ((ix L (n - 1)).k2), ((ix L (n - 1)).k3)) ⟨hb2, by omega, st4_zero L (ix L (n - 1)) o, ((hQ7.g0 k1).gne k2 (by omega)), ((hQ2.g0 k1).gne k2 (by omega)), ((hQ8.g0 k1).gne k2 (by omega)), ((hQ6.g0 k1).gne k2 (by omega)), ((hBA.g0 k1).gne k2 (by omega)), hB2, hM4, hM3, hO2, hdok0, hmi0, hcan0, fun _ _ => rfl, hF3, hn1⟩ (by exact ⟨rfl, rfl, rfl, rfl, rfl, rfl, rfl, rfl, trivial⟩) ?_
        rintro ⟨k, ok, vk, Dk, Mk, a, b, c, e⟩ w3 ⟨hb3, hk, hst, hC7, hC2, hC8, hC6, hCA, hCx, hMDk, hMKk, hOk, hdok, hmi, hcan, hhi, hFk, hne⟩
        dsimp only at *
        have hz1 := hb3.size
        refine w_seq ?_
        refine w_region ?_
        refine st (s_lt rfl rfl ?_)
        refine r_end ?_
        refine n_then ?_
        refine w_seq ?_
        refine w_condP rfl (fun h3 => ?_) (fun h3 => ?_)
        · refine w_skip' ?_
          refine n_then ?_
          refine w_seq ?_
          refine w_block ?_
          refine w_seq ?_
          refine w_region ?_
          refine st (s_move rfl ?_)
          refine st (s_iarr4 arr33 one3 rfl rfl (by omega) (by omega) ?_)
          refine st (s_assign rfl ?_)
          refine st (s_assign rfl ?_)
          refine r_end ?_
          refine n_then ?_
          refine w_region ?_
          refine st (s_move rfl ?_)
          refine st (s_load one56 rfl hC8.range (j := 0) rfl ?_)
          refine st (s_move rfl ?_)
          have hkr2 := hkr (by omega) k hk.1 (by omega)
          unfold Nd.kid at hkr2
          refine st (s_callc fn34 rfl rfl (ih (n := (sel4 ((ix L (n - 1)).k0) ((ix L (n - 1)).k1) ((ix L (n - 1)).k2) ((ix L (n - 1)).k3) k)) (by omega) (by omega) (by omega) hb3 hC7 hC2 hC8 hC6 hCA hMDk hMKk hOk hdok hmi hcan) ?_)
          rintro _ w4 ⟨rfl, vo1, D1, M1, hb4, hB3, hM5, hM6, hO3, hp1, hp2, hp3, hp4, hp5⟩
          have hz2 := hb4.size
          have hB4 := Blk.frm hC7 hp5 hdst.x7 (ne_of (hOk.ne_blk hC7 (by decide)))
          have hB5 := Blk.frm hC2 hp5 hdst.x2 (ne_of (hOk.ne_blk hC2 (by decide)))
          have hB6 := Blk.frm hC8 hp5 hdst.x8 (ne_of (hOk.ne_blk hC8 (by decide)))
          have hB7 := Blk.frm hC6 hp5 hdst.x6 (ne_of (hOk.ne_blk hC6 (by decide)))
          have hB8 := Blk.frm hCx hp5 (fun h_ => by rcases h_ with h_ | h_ | h_ <;> omega) (hne)
          have hn2 := (hp5.2 _ hCx.lt (fun h_ => by rcases h_ with h_ | h_ | h_ <;> omega) hne).2
          have hF4 := hFk.trans hp5
          refine st (s_faddr fld35_1 rfl ?_)
          refine st (s_iaddr arr33 rfl rfl (by omega) (by omega) ?_)
          refine st0 (s_storeK one3 rfl rfl hB8 (by omega) (by omega) ?_)
          intro w5 hB9 k4 hs3
          have hb5 := below_g hb4 k4 (by omega)
          have hF5 := hF4.put k4 (by first | exact .inr (by omega) | exact .inl (by assumption) | exact .inl (.inl rfl) | exact .inl (.inr rfl) | exact .inl (.inr (.inl rfl)) | exact .inl (.inr (.inr rfl)))
          have hO4 := Own.keptN node_flat hO3 k4 hn2
          have hM7 := hM5.kept k4 (by simpa using hM5.ne_blk hB8)
          have hM8 := hM6.kept k4 (by simpa using hM6.ne_blk hB8)
          clear hB8
          refine r_end ?_
          refine n_block ?_
          refine n_then ?_
          refine w_region ?_
          refine st (s_add rfl rfl (by omega) ?_)
          refine st (s_move rfl ?_)
          refine r_end ?_
          exact n_round (((k + 1)), ((vis (tr L ((sel4 ((ix L (n - 1)).k0) ((ix L (n - 1)).k1) ((ix L (n - 1)).k2) ((ix L (n - 1)).k3) k))) ok).1), (vo1), (D1), (M1), ((if k = 0 then (vis (tr L ((sel4 ((ix L (n - 1)).k0) ((ix L (n - 1)).k1) ((ix L (n - 1)).k2) ((ix L (n - 1)).k3) k))) ok).2 else a)), ((if k = 1 then (vis (tr L ((sel4 ((ix L (n - 1)).k0) ((ix L (n - 1)).k1) ((ix L (n - 1)).k2) ((ix L (n - 1)).k3) k))) ok).2 else b)), ((if k = 2 then (vis (tr L ((sel4 ((ix L (n - 1)).k0) ((ix L (n - 1)).k1) ((ix L (n - 1)).k2) ((ix L (n - 1)).k3) k))) ok).2 else c)), ((if k = 3 then (vis (tr L ((sel4 ((ix L (n - 1)).k0) ((ix L (n - 1)).k1) ((ix L (n - 1)).k2) ((ix L (n - 1)).k3) k))) ok).2 else e))) ⟨hb5, by dsimp only; omega, st4_step hst hk.1 (by omega) rfl, (hB4.gne k4 (by omega)), (hB5.gne k4 (by omega)), (hB6.gne k4 (by omega)), (hB7.gne k4 (by omega)), (hB3.gne k4 (by omega)), hB9, hM7, hM8, hO4, hp1, hp2, hp3, fun i_ hi_ => (hp4 i_ (by omega)).trans (hhi i_ hi_), hF5, hn2⟩ (by omega) (by exact ⟨rfl, rfl, rfl, rfl, rfl, rfl, rfl, rfl, trivial⟩)
        · refine w_exit' ?_
          refine n_then_exit ?_
          refine n_then_exit ?_
          refine n_block_exit ?_
          refine n_then ?_
          refine w_seq ?_
          refine w_region ?_
          refine st (s_load one51 rfl hC6.range (j := 0) rfl ?_)
          refine st (s_loadW row35 rfl hCx.range rfl ?_)
          have hlen9 := hdok.len
          have hcnt9 := hdok.cnt
          refine st (s_call fn35 rfl (intern_any (x := (⟨(ix L (n - 1)).lv, a, b, c, e⟩ : Nd)) hb3 (by omega) (by omega) hCA hMKk hOk hmi (by omega)) ?_)
          rintro _ w6 ⟨rfl, vo2, M2, hb6, hB10, hM9, hO5, hp6, hp7⟩
          have hz3 := hb6.size
          have hB11 := Blk.frm hC7 hp7 (not3 hdst.x7) (ne_of (hOk.ne_blk hC7 (by decide)))
          have hB12 := Blk.frm hC2 hp7 (not3 hdst.x2) (ne_of (hOk.ne_blk hC2 (by decide)))
          have hB13 := Blk.frm hC8 hp7 (not3 hdst.x8) (ne_of (hOk.ne_blk hC8 (by decide)))
          have hB14 := Blk.frm hC6 hp7 (not3 hdst.x6) (ne_of (hOk.ne_blk hC6 (by decide)))
          have hM10 := IsMap.frm hMDk hp7 hdst.dx (ne_of_map hMDk hOk)
          have hF6 := hFk.trans (hp7.mono (fun g_ h_ => h_.elim .inl (fun h_ => .inr (.inr h_))))
          refine st (s_assign rfl ?_)
          refine r_end ?_
          refine n_then ?_
          refine w_seq ?_
          refine w_region ?_
          refine st (s_load one55 rfl hB11.range (j := 0) rfl ?_)
          refine st (s_move rfl ?_)
          refine st (s_move rfl ?_)
          refine st0 (s_mapput (a := n) (v := (intr ok (⟨(ix L (n - 1)).lv, a, b, c, e⟩ : Nd)).2) map55 keyI rfl rfl rfl hM10 ?_)
          intro w7 hM11 k6 hs4
          have hb7 := below_g hb6 k6 (by omega)
          have hF7 := hF6.put k6 (by first | exact .inr (by omega) | exact .inl (by assumption) | exact .inl (.inl rfl) | exact .inl (.inr rfl) | exact .inl (.inr (.inl rfl)) | exact .inl (.inr (.inr rfl)))
          have hO6 := Own.keptF node_flat hO5 k6 (hM10.ne_own hO5)
          have hM12 := hM9.kept k6 (by simp; omega)
          refine r_end ?_
          refine n_then ?_
          refine w_seq ?_
          refine w_region ?_
          refine st (s_move rfl ?_)
          refine st (s_assign rfl ?_)
          refine r_end ?_
          refine n_then ?_
          refine w_ret1 rfl rfl ?_
          have hv : vis (tr L n) o = intr ok (⟨(ix L (n - 1)).lv, a, b, c, e⟩ : Nd) := st4_end hl_ok hn1p hn1b hst (.inl ⟨by omega, by assumption⟩)
          have hs9 := vis_self (t := tr L n) o
          have hc9 := (vis_can (tr L n) (wf_tr hl_ok n hn0 hn1b (ix L (n - 1)).lv (fun _ => rfl)) hcan0).1
          rw [hv] at hs9 hc9
          refine ⟨_, rfl, ?_, vo2, _, M2, hb7, (hB10.gne k6 (hM10.ne_blk hB10).symm), hM11, hM12, ?_, ?_, ?_, ?_, fun i_ hi_ => ?_, hF7⟩
          · rw [hv]
          · rw [hv]; exact hO6
          · rw [hv]; exact hdok.put (intr_pre _ _) (intr_len _ _) hn0 hn1b ((hhi n (Int.le_refl _)).trans hno_) hs9
          · rw [hv]; exact hp6
          · rw [hv]; exact hc9
          · rw [mget_mput, if_neg (by omega)]; exact hhi i_ (by omega)
      · refine w_skip' ?_
        refine n_then ?_
        refine w_seq ?_
        refine w_region ?_
        refine st (s_load one51 rfl ((hQ6.g0 k1).gne k2 (by omega)).range (j := 0) rfl ?_)
        refine st (s_loadW row35 rfl hB2.range rfl ?_)
        have hlen9 := hdok0.len
        have hcnt9 := hdok0.cnt
        refine st (s_call fn35 rfl (intern_any (x := (⟨(ix L (n - 1)).lv, (ix L (n - 1)).k0, (ix L (n - 1)).k1, (ix L (n - 1)).k2, (ix L (n - 1)).k3⟩ : Nd)) hb2 (by omega) (by omega) ((hBA.g0 k1).gne k2 (by omega)) hM3 hO2 hmi0 (by omega)) ?_)
        rintro _ w8 ⟨rfl, vo3, M3, hb8, hB15, hM13, hO7, hp8, hp9⟩
        have hz4 := hb8.size
        have hB16 := Blk.frm ((hQ7.g0 k1).gne k2 (by omega)) hp9 (not3 hdst.x7) (ne_of (hO2.ne_blk ((hQ7.g0 k1).gne k2 (by omega)) (by decide)))
        have hB17 := Blk.frm ((hQ2.g0 k1).gne k2 (by omega)) hp9 (not3 hdst.x2) (ne_of (hO2.ne_blk ((hQ2.g0 k1).gne k2 (by omega)) (by decide)))
        have hB18 := Blk.frm ((hQ8.g0 k1).gne k2 (by omega)) hp9 (not3 hdst.x8) (ne_of (hO2.ne_blk ((hQ8.g0 k1).gne k2 (by omega)) (by decide)))
        have hB19 := Blk.frm ((hQ6.g0 k1).gne k2 (by omega)) hp9 (not3 hdst.x6) (ne_of (hO2.ne_blk ((hQ6.g0 k1).gne k2 (by omega)) (by decide)))
        have hM14 := IsMap.frm hM4 hp9 hdst.dx (ne_of_map hM4 hO2)
        have hF8 := hF3.trans (hp9.mono (fun g_ h_ => h_.elim .inl (fun h_ => .inr (.inr h_))))
        refine st (s_assign rfl ?_)
        refine r_end ?_
        refine n_then ?_
        refine w_seq ?_
        refine w_region ?_
        refine st (s_load one55 rfl hB16.range (j := 0) rfl ?_)
        refine st (s_move rfl ?_)
        refine st (s_move rfl ?_)
        refine st0 (s_mapput (a := n) (v := (intr o (⟨(ix L (n - 1)).lv, (ix L (n - 1)).k0, (ix L (n - 1)).k1, (ix L (n - 1)).k2, (ix L (n - 1)).k3⟩ : Nd)).2) map55 keyI rfl rfl rfl hM14 ?_)
        intro w9 hM15 k8 hs5
        have hb9 := below_g hb8 k8 (by omega)
        have hF9 := hF8.put k8 (by first | exact .inr (by omega) | exact .inl (by assumption) | exact .inl (.inl rfl) | exact .inl (.inr rfl) | exact .inl (.inr (.inl rfl)) | exact .inl (.inr (.inr rfl)))
        have hO8 := Own.keptF node_flat hO7 k8 (hM14.ne_own hO7)
        have hM16 := hM13.kept k8 (by simp; omega)
        refine r_end ?_
        refine n_then ?_
        refine w_seq ?_
        refine w_region ?_
        refine st (s_move rfl ?_)
        refine st (s_assign rfl ?_)
        refine r_end ?_
        refine n_then ?_
        refine w_ret1 rfl rfl ?_
        have hv : vis (tr L n) o = intr o (⟨(ix L (n - 1)).lv, (ix L (n - 1)).k0, (ix L (n - 1)).k1, (ix L (n - 1)).k2, (ix L (n - 1)).k3⟩ : Nd) := st4_end hl_ok hn1p hn1b (st4_zero L (ix L (n - 1)) o) (.inr ⟨rfl, by assumption⟩)
        have hs9 := vis_self (t := tr L n) o
        have hc9 := (vis_can (tr L n) (wf_tr hl_ok n hn0 hn1b (ix L (n - 1)).lv (fun _ => rfl)) hcan0).1
        rw [hv] at hs9 hc9
        refine ⟨_, rfl, ?_, vo3, _, M3, hb9, (hB15.gne k8 (hM14.ne_blk hB15).symm), hM15, hM16, ?_, ?_, ?_, ?_, fun i_ hi_ => ?_, hF9⟩
        · rw [hv]
        · rw [hv]; exact hO8
        · rw [hv]; exact hdok0.put (intr_pre _ _) (intr_len _ _) hn0 hn1b hno_ hs9
        · rw [hv]; exact hp8
        · rw [hv]; exact hc9
        · rw [mget_mput, if_neg (by omega)]
end Go.Proofs.Ytdeiiagkbbimhaa
