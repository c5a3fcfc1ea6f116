/- Part of the proof: a library for walks, plain laws, and functions' walks. -/
import Derived.Test.YtfljelnfjbbknaaM6
import Derived.Test.YtfljelnfjbbknaaM7
set_option maxRecDepth 20000
set_option linter.unusedSimpArgs false
set_option linter.unusedVariables false
namespace Go.Proofs.Ytfljelnfjbbknaa.Lm
open Go.RowKit Go.Gw
set_option maxHeartbeats 1000000 in
theorem least_any0 {w : World} {n0 : Nat} (hn0 : n0 ≤ w.heap.size)  {a : Value} {n : Int} {b : Value} {m : Int} (ha : Sl Kd.u32 w (G 83 n0 w) a (ml n)) (hb : Sl Kd.u32 w (G 83 n0 w) b (ml m))  :
    Calls Try.prog 96 [.agg [.bool (decide (n < 0)), a].toArray, .agg [.bool (decide (m < 0)), b].toArray].toArray w (Pure w fun v W => IsBig 83 n0 W v (if m < n then m else n)) := by
  have hb0 := Below.refl w.heap.size w
  have hnn := nv_ml n
  have hnm := nv_ml m
  refine enter Try.func96 rfl rfl (w_seq (w_region (st (s_box rfl ?_))))
  intro g1 w1 hg1 hB1 k1 hs1
  change Blk w1 g1 31 [.bool (decide (n < 0)), a].toArray at hB1
  have hb1 := below_g0 hb0 k1
  refine st (s_box rfl ?_)
  intro g2 w2 hg2 hB2 k2 hs2
  change Blk w2 g2 31 [.bool (decide (m < 0)), b].toArray at hB2
  have hb2 := below_g0 hb1 k2
  have hlt_1 := ((hB1.g0 k2)).lt
  have hlt_2 := (hB2).lt
  refine st (s_alloc zero31 ?_)
  intro g3 w3 hg3 hB3 k3 hs3
  have hz1 := hb2.size
  have hb3 := below_g0 hb2 k3
  refine r_end (n_then (w_seq (w_seq (w_region (st (s_loadW row31 rfl (hB2.g0 k3).range rfl (st (s_loadW row31 rfl ((hB1.g0 k2).g0 k3).range rfl ?_))))))))
  refine st (s_call fn50 rfl (bcmp_any0 ((hb.at0 hb3)).none ((ha.at0 hb3)).none) ?_)
  rintro _ w4 ⟨hq1, rfl⟩
  have k4 := grown_of_below hq1 none
  have hz2 := hq1.size
  have hb4 := below_g0 hb3 k4
  have hz3 := hb4.size
  refine st (s_lt rfl rfl (r_end (n_then ?_)))
  refine w_condP rfl (fun h1 => ?_) (fun h1 => ?_)
  · refine w_seq (w_region (st (s_loadW row31 rfl ((hB2.g0 k3).g0 k4).range rfl (st0 (s_storeN row31 rfl rfl (hB3.g0 k4) (by simp only [List.all_cons, List.all_nil, hb.one, Bool.and_true, Bool.and_self] <;> rfl) rfl rfl ?_)))))
    intro w5 hB4 k5 hs4
    have hb5 := below_g hb4 k5 (by first | omega | (have h9 := (hb4).size; omega))
    refine r_end (n_then (w_retc1 rfl row31 rfl hB4.range rfl ?_))
    exact ⟨_, rfl, hb5, big_of ((if_pos (cmpI_neg h1)).symm) (((hb.at0 hb5)).unlocG hb5)⟩
  refine w_skip' (n_then (w_seq (w_region (st (s_loadW row31 rfl (((hB1.g0 k2).g0 k3).g0 k4).range rfl (st0 (s_storeN row31 rfl rfl (hB3.g0 k4) (by simp only [List.all_cons, List.all_nil, ha.one, Bool.and_true, Bool.and_self] <;> rfl) rfl rfl ?_)))))))
  intro w6 hB5 k6 hs5
  have hb6 := below_g hb4 k6 (by first | omega | (have h9 := (hb4).size; omega))
  refine r_end (n_then (w_retc1 rfl row31 rfl hB5.range rfl ?_))
  exact ⟨_, rfl, hb6, big_of ((if_neg (by have := cmpI_nneg h1; omega)).symm) (((ha.at0 hb6)).unlocG hb6)⟩

theorem least_any {w : World} {n0 : Nat} (hn0 : n0 ≤ w.heap.size)  {vn : Value} {n : Int} {vm : Value} {m : Int} (hn : IsBig 83 n0 w vn n) (hm : IsBig 83 n0 w vm m)  :
    Calls Try.prog 96 [vn, vm].toArray w (Pure w fun v W => IsBig 83 n0 W v (if m < n then m else n)) := by
  obtain ⟨sn, rfl, kn⟩ := hn
  obtain ⟨sm, rfl, km⟩ := hm
  exact least_any0 hn0 kn km

set_option maxHeartbeats 1000000 in
theorem greatest_any0 {w : World} {n0 : Nat} (hn0 : n0 ≤ w.heap.size)  {a : Value} {n : Int} {b : Value} {m : Int} (ha : Sl Kd.u32 w (G 83 n0 w) a (ml n)) (hb : Sl Kd.u32 w (G 83 n0 w) b (ml m))  :
    Calls Try.prog 97 [.agg [.bool (decide (n < 0)), a].toArray, .agg [.bool (decide (m < 0)), b].toArray].toArray w (Pure w fun v W => IsBig 83 n0 W v (if n < m then m else n)) := by
  have hb0 := Below.refl w.heap.size w
  have hnn := nv_ml n
  have hnm := nv_ml m
  refine enter Try.func97 rfl rfl (w_seq (w_region (st (s_box rfl ?_))))
  intro g1 w1 hg1 hB1 k1 hs1
  change Blk w1 g1 31 [.bool (decide (n < 0)), a].toArray at hB1
  have hb1 := below_g0 hb0 k1
  refine st (s_box rfl ?_)
  intro g2 w2 hg2 hB2 k2 hs2
  change Blk w2 g2 31 [.bool (decide (m < 0)), b].toArray at hB2
  have hb2 := below_g0 hb1 k2
  have hlt_1 := ((hB1.g0 k2)).lt
  have hlt_2 := (hB2).lt
  refine st (s_alloc zero31 ?_)
  intro g3 w3 hg3 hB3 k3 hs3
  have hz1 := hb2.size
  have hb3 := below_g0 hb2 k3
  refine r_end (n_then (w_seq (w_seq (w_region (st (s_loadW row31 rfl (hB2.g0 k3).range rfl (st (s_loadW row31 rfl ((hB1.g0 k2).g0 k3).range rfl ?_))))))))
  refine st (s_call fn50 rfl (bcmp_any0 ((hb.at0 hb3)).none ((ha.at0 hb3)).none) ?_)
  rintro _ w4 ⟨hq1, rfl⟩
  have k4 := grown_of_below hq1 none
  have hz2 := hq1.size
  have hb4 := below_g0 hb3 k4
  have hz3 := hb4.size
  refine st (s_gt rfl rfl (r_end (n_then ?_)))
  refine w_condP rfl (fun h1 => ?_) (fun h1 => ?_)
  · refine w_seq (w_region (st (s_loadW row31 rfl ((hB2.g0 k3).g0 k4).range rfl (st0 (s_storeN row31 rfl rfl (hB3.g0 k4) (by simp only [List.all_cons, List.all_nil, hb.one, Bool.and_true, Bool.and_self] <;> rfl) rfl rfl ?_)))))
    intro w5 hB4 k5 hs4
    have hb5 := below_g hb4 k5 (by first | omega | (have h9 := (hb4).size; omega))
    refine r_end (n_then (w_retc1 rfl row31 rfl hB4.range rfl ?_))
    exact ⟨_, rfl, hb5, big_of ((if_pos (cmpI_gt0 h1)).symm) (((hb.at0 hb5)).unlocG hb5)⟩
  refine w_skip' (n_then (w_seq (w_region (st (s_loadW row31 rfl (((hB1.g0 k2).g0 k3).g0 k4).range rfl (st0 (s_storeN row31 rfl rfl (hB3.g0 k4) (by simp only [List.all_cons, List.all_nil, ha.one, Bool.and_true, Bool.and_self] <;> rfl) rfl rfl ?_)))))))
  intro w6 hB5 k6 hs5
  have hb6 := below_g hb4 k6 (by first | omega | (have h9 := (hb4).size; omega))
  refine r_end (n_then (w_retc1 rfl row31 rfl hB5.range rfl ?_))
  exact ⟨_, rfl, hb6, big_of ((if_neg (by have := cmpI_le0 h1; omega)).symm) (((ha.at0 hb6)).unlocG hb6)⟩

theorem greatest_any {w : World} {n0 : Nat} (hn0 : n0 ≤ w.heap.size)  {vn : Value} {n : Int} {vm : Value} {m : Int} (hn : IsBig 83 n0 w vn n) (hm : IsBig 83 n0 w vm m)  :
    Calls Try.prog 97 [vn, vm].toArray w (Pure w fun v W => IsBig 83 n0 W v (if n < m then m else n)) := by
  obtain ⟨sn, rfl, kn⟩ := hn
  obtain ⟨sm, rfl, km⟩ := hm
  exact greatest_any0 hn0 kn km

set_option maxHeartbeats 1000000 in
theorem join_any {a0 w : World} {n0 : Nat} (hn0 : n0 ≤ a0.heap.size) {g : Nat} {s t : Spn} {a b : Int} {pa pb : Value} (hb0 : Below a0.heap.size a0 w) (hga : a0.heap.size ≤ g) {ufx : Value} {ufy : Value} {utx : Value} {uty : Value} (hufx : Sl Kd.u32 w (G 83 n0 w) ufx (ml s.fx)) (hufy : Sl Kd.u32 w (G 83 n0 w) ufy (ml s.fy)) (hutx : Sl Kd.u32 w (G 83 n0 w) utx (ml s.tx)) (huty : Sl Kd.u32 w (G 83 n0 w) uty (ml s.ty)) {vfx : Value} {vfy : Value} {vtx : Value} {vty : Value} (hvfx : Sl Kd.u32 w (G 83 n0 w) vfx (ml t.fx)) (hvfy : Sl Kd.u32 w (G 83 n0 w) vfy (ml t.fy)) (hvtx : Sl Kd.u32 w (G 83 n0 w) vtx (ml t.tx)) (hvty : Sl Kd.u32 w (G 83 n0 w) vty (ml t.ty)) (hB : Blk w g 72 [.bool s.some, .bool (decide (s.fx < 0)), ufx, .bool (decide (s.fy < 0)), ufy, .bool (decide (s.tx < 0)), utx, .bool (decide (s.ty < 0)), uty].toArray) (hpa : Sl Kd.u32 w (G 83 n0 w) pa (ml a)) (hpb : Sl Kd.u32 w (G 83 n0 w) pb (ml b)) (hsb : SpBd 43 s) (htb : SpBd 43 t) (hab : Bd 43 a) (hbb : Bd 43 b) :
    Calls Try.prog 75 [.pointer (some ⟨g, 0, none⟩), .agg [.bool t.some, .bool (decide (t.fx < 0)), vfx, .bool (decide (t.fy < 0)), vfy, .bool (decide (t.tx < 0)), vtx, .bool (decide (t.ty < 0)), vty].toArray, .agg [.bool (decide (a < 0)), pa, .bool (decide (b < 0)), pb].toArray].toArray w (Ret fun r W => r = .tuple #[] ∧ w.grownBy W (some g) ∧ ∃ a1 a2 a3 a4, Blk W g 72 [.bool (joinS s t a b).some, .bool (decide ((joinS s t a b).fx < 0)), a1, .bool (decide ((joinS s t a b).fy < 0)), a2, .bool (decide ((joinS s t a b).tx < 0)), a3, .bool (decide ((joinS s t a b).ty < 0)), a4].toArray ∧ Sl Kd.u32 W (G 83 n0 W) a1 (ml (joinS s t a b).fx) ∧ Sl Kd.u32 W (G 83 n0 W) a2 (ml (joinS s t a b).fy) ∧ Sl Kd.u32 W (G 83 n0 W) a3 (ml (joinS s t a b).tx) ∧ Sl Kd.u32 W (G 83 n0 W) a4 (ml (joinS s t a b).ty)) := by
  have hz0 := hb0.size
  have hgl := hB.lt
  refine enter Try.func75 rfl rfl (w_seq (w_region (st (s_box rfl ?_))))
  intro g1 w1 hg1 hB1 k1 hs1
  change Blk w1 g1 72 [.bool t.some, .bool (decide (t.fx < 0)), vfx, .bool (decide (t.fy < 0)), vfy, .bool (decide (t.tx < 0)), vtx, .bool (decide (t.ty < 0)), vty].toArray at hB1
  have hb1 := below_g0 hb0 k1
  refine st (s_box rfl ?_)
  intro g2 w2 hg2 hB2 k2 hs2
  change Blk w2 g2 70 [.bool (decide (a < 0)), pa, .bool (decide (b < 0)), pb].toArray at hB2
  have hb2 := below_g0 hb1 k2
  refine r_end (n_then (w_seq (w_seq (w_region (st (s_faddr fld72_0 rfl (st (s_load one4 rfl (hB1.g0 k2).range (j := 0) rfl ?_))))))))
  refine st (s_not rfl (r_end (n_then ?_)))
  refine w_cond rfl (fun h1 => ?_) (fun h1 => ?_)
  · refine w_ret0 (fn := Try.f75) rfl ?_
    have q0 : w.grownBy w2 (some g) := (kj_none (kj_none (kj_refl g _) k1) k2)
    have q1 := ((hB.g0 k1).g0 k2)
    have q2 := ((hufx.gg0 k1).gg0 k2)
    have q3 := ((hufy.gg0 k1).gg0 k2)
    have q4 := ((hutx.gg0 k1).gg0 k2)
    have q5 := ((huty.gg0 k1).gg0 k2)
    have e : s = joinS s t a b := by unfold joinS; rw [show t.some = false by simpa using h1]; rfl
    rw [← e]
    exact ⟨_, rfl, rfl, q0, _, _, _, _, q1, q2, q3, q4, q5⟩
  refine w_skip' (n_then (w_seq (w_seq (w_region (st (s_move rfl (r_end ?_)))))))
  refine n_then (w_block (w_unroll 2 (w_seq (w_region (st (s_lt rfl rfl ?_))))))
  rw [show decide ((0 : Int) < 2) = true from rfl]
  refine r_end (n_then (w_seq (w_condT rfl (w_skip' (n_then (w_seq ?_))))))
  refine w_block (w_seq (w_region (st (s_move rfl (st (s_assign rfl (r_end (n_then ?_))))))))
  refine w_seq ?_
  have hlt_8 := (((hB.g0 k1).g0 k2)).lt
  have hlt_9 := ((hB1.g0 k2)).lt
  have hlt_10 := (hB2).lt
  refine w_drawF 18 (fun a b => a.grownBy b none) [(some 15, Is <| .int .i64 0), (some 16, Is <| .pointer (some ⟨g1, 0 + 1, none⟩)), (some 17, Is <| .pointer (some ⟨g1, 0 + 1 + (0 : Int).toNat * 2, none⟩)), (some 18, Is <| .agg [.bool (decide (t.fx < 0)), vfx].toArray), (some 19, Is <| .int .i64 0), (some 20, Is <| .pointer (some ⟨g2, 0 + (0 : Int).toNat * 2, none⟩)), (some 21, Is <| .agg [.bool (decide (a < 0)), pa].toArray), (some 22, fun v W => IsBig 83 n0 W v ((t.fx + a))), (some 23, Is <| .int .i64 0), (some 24, Is <| .pointer (some ⟨g1, 0 + 5, none⟩)), (some 25, Is <| .pointer (some ⟨g1, 0 + 5 + (0 : Int).toNat * 2, none⟩)), (some 26, Is <| .agg [.bool (decide (t.tx < 0)), vtx].toArray), (some 27, Is <| .int .i64 0), (some 28, Is <| .pointer (some ⟨g2, 0 + (0 : Int).toNat * 2, none⟩)), (some 29, Is <| .agg [.bool (decide (a < 0)), pa].toArray), (some 30, fun v W => IsBig 83 n0 W v ((t.tx + a))), (some 7, fun v W => ∃ g, v = .pointer (some ⟨g, 0, none⟩) ∧ Blk W g 31 #[.bool false, .slice none 0 0] ∧ w2.heap.size ≤ g), (some 8, fun v W => ∃ g, v = .pointer (some ⟨g, 0, none⟩) ∧ Blk W g 31 #[.bool false, .slice none 0 0] ∧ w2.heap.size ≤ g)] [[], [], [0, 1], [2], [], [4], [5], [3, 6], [], [], [8, 9], [10], [], [12], [13], [11, 14], [], []] [false, false, false, false, false, false, false, false, false, false, false, false, false, false, false, false, true, true] [(0, .pointer (some ⟨g, 0, none⟩)), (4, .pointer (some ⟨g1, 0, none⟩)), (5, .pointer (some ⟨g2, 0, none⟩)), (6, .int .i64 0), (12, .int .i64 0), (13, .bool true), (14, .int .i64 0)] (by exact ⟨rfl, rfl, rfl, rfl, rfl, rfl, rfl, trivial⟩) (by kernel_rfl) (by kernel_rfl) grown_none_refl (fun _ _ _ => grown_none_trans) ⟨kv, kv, kv, kv, kv, kv, kv, fun _ _ _ h k => h.g0 k, kv, kv, kv, kv, kv, kv, kv, fun _ _ _ h k => h.g0 k, fun _ _ _ h k => by obtain ⟨g, e, hB, hg⟩ := h; exact ⟨g, e, hB.g0 k, hg⟩, fun _ _ _ h k => by obtain ⟨g, e, hB, hg⟩ := h; exact ⟨g, e, hB.g0 k, hg⟩, trivial⟩ ⟨(fun h => by cases h), (fun h => by cases h), (fun h => by cases h), (fun h => by cases h), (fun h => by cases h), (fun h => by cases h), (fun h => by cases h), (fun h => by cases h), (fun h => by cases h), (fun h => by cases h), (fun h => by cases h), (fun h => by cases h), (fun h => by cases h), (fun h => by cases h), (fun h => by cases h), (fun h => by cases h), fun _ _ _ ⟨g, e, hB, _⟩ => ⟨g, e, hB.lt⟩, fun _ _ _ ⟨g, e, hB, _⟩ => ⟨g, e, hB.lt⟩, trivial⟩ ?_
  intro w7 k7 hs5
  have hb3 := below_g0 hb2 k7
  refine ⟨⟨?_, ?_, ?_, ?_, ?_, ?_, ?_, ?_, ?_, ?_, ?_, ?_, ?_, ?_, ?_, ?_, ?_, ?_, trivial⟩, ?_⟩
  · intro w8 k8
    refine op1 (s_move rfl ?_)
    exact ⟨rfl, grown_none_refl _, fun h => by cases h⟩
  · intro w9 k9
    refine op1 (s_faddr fld72_1 rfl ?_)
    exact ⟨rfl, grown_none_refl _, fun h => by cases h⟩
  · intro w10 k10
    rintro _ rfl _ rfl
    refine op1 (s_iaddr arr70 rfl rfl (by omega) (by omega) ?_)
    exact ⟨rfl, grown_none_refl _, fun h => by cases h⟩
  · intro w11 k11
    rintro _ rfl
    refine op1 (s_loadN (us := [.bool (decide (t.fx < 0)), vfx]) row31 rfl (((hB1.g0 k2).g0 k7).g0 k11).range (j := 1) rfl rfl ?_)
    exact ⟨rfl, grown_none_refl _, fun h => by cases h⟩
  · intro w12 k12
    refine op1 (s_move rfl ?_)
    exact ⟨rfl, grown_none_refl _, fun h => by cases h⟩
  · intro w13 k13
    rintro _ rfl
    refine op1 (s_iaddr arr70 rfl rfl (by omega) (by omega) ?_)
    exact ⟨rfl, grown_none_refl _, fun h => by cases h⟩
  · intro w14 k14
    rintro _ rfl
    refine op1 (s_loadN (us := [.bool (decide (a < 0)), pa]) row31 rfl ((hB2.g0 k7).g0 k14).range (j := 0) rfl rfl ?_)
    exact ⟨rfl, grown_none_refl _, fun h => by cases h⟩
  · intro w15 k15
    have hb11 := below_g0 hb3 k15
    rintro _ rfl _ rfl
    refine op1 (s_call fn78 rfl (badd_any (n0 := n0) (below_n0 hn0 hb11) (big_of rfl ((((hvfx.gg0 k1).gg0 k2).gg0 k7).gg0 k15)) (big_of rfl ((((hpa.gg0 k1).gg0 k2).gg0 k7).gg0 k15)) (Bd.le htb.fx (show 43 ≤ 90000 by decide)) (Bd.le hab (show 43 ≤ 90000 by decide))) ?_)
    rintro _ w16 ⟨hq3, v3, rfl, hS3⟩
    have k16 := grown_of_below hq3 none
    have hz1 := hq3.size
    have hb12 := below_g0 hb11 k16
    have hz2 := hb12.size
    exact ⟨⟨_, rfl, hS3⟩, k16, fun h => by cases h⟩
  · intro w17 k17
    refine op1 (s_move rfl ?_)
    exact ⟨rfl, grown_none_refl _, fun h => by cases h⟩
  · intro w18 k18
    refine op1 (s_faddr fld72_2 rfl ?_)
    exact ⟨rfl, grown_none_refl _, fun h => by cases h⟩
  · intro w19 k19
    rintro _ rfl _ rfl
    refine op1 (s_iaddr arr70 rfl rfl (by omega) (by omega) ?_)
    exact ⟨rfl, grown_none_refl _, fun h => by cases h⟩
  · intro w20 k20
    rintro _ rfl
    refine op1 (s_loadN (us := [.bool (decide (t.tx < 0)), vtx]) row31 rfl (((hB1.g0 k2).g0 k7).g0 k20).range (j := 5) rfl rfl ?_)
    exact ⟨rfl, grown_none_refl _, fun h => by cases h⟩
  · intro w21 k21
    refine op1 (s_move rfl ?_)
    exact ⟨rfl, grown_none_refl _, fun h => by cases h⟩
  · intro w22 k22
    rintro _ rfl
    refine op1 (s_iaddr arr70 rfl rfl (by omega) (by omega) ?_)
    exact ⟨rfl, grown_none_refl _, fun h => by cases h⟩
  · intro w23 k23
    rintro _ rfl
    refine op1 (s_loadN (us := [.bool (decide (a < 0)), pa]) row31 rfl ((hB2.g0 k7).g0 k23).range (j := 0) rfl rfl ?_)
    exact ⟨rfl, grown_none_refl _, fun h => by cases h⟩
  · intro w24 k24
    have hb20 := below_g0 hb3 k24
    rintro _ rfl _ rfl
    refine op1 (s_call fn78 rfl (badd_any (n0 := n0) (below_n0 hn0 hb20) (big_of rfl ((((hvtx.gg0 k1).gg0 k2).gg0 k7).gg0 k24)) (big_of rfl ((((hpa.gg0 k1).gg0 k2).gg0 k7).gg0 k24)) (Bd.le htb.tx (show 43 ≤ 90000 by decide)) (Bd.le hab (show 43 ≤ 90000 by decide))) ?_)
    rintro _ w25 ⟨hq4, v4, rfl, hS4⟩
    have k25 := grown_of_below hq4 none
    have hz3 := hq4.size
    have hb21 := below_g0 hb20 k25
    have hz4 := hb21.size
    exact ⟨⟨_, rfl, hS4⟩, k25, fun h => by cases h⟩
  · intro w26 k26
    have hb22 := below_g0 hb3 k26
    have hlt_11 := (((((hB.g0 k1).g0 k2).g0 k7).g0 k26)).lt
    have hlt_12 := ((((hB1.g0 k2).g0 k7).g0 k26)).lt
    have hlt_13 := (((hB2.g0 k7).g0 k26)).lt
    refine op1 (s_alloc zero31 ?_)
    intro g5 w27 hg5 hB5 k27 hs6
    have hz5 := hb22.size
    exact ⟨⟨_, rfl, hB5, by have h0_ := k7.size; have h1_ := k26.size; have h2_ := k27.size; omega⟩, k27, fun _ => ⟨_, rfl, by omega⟩⟩
  · intro w28 k28
    have hb24 := below_g0 hb3 k28
    have hlt_14 := (((((hB.g0 k1).g0 k2).g0 k7).g0 k28)).lt
    have hlt_15 := ((((hB1.g0 k2).g0 k7).g0 k28)).lt
    have hlt_16 := (((hB2.g0 k7).g0 k28)).lt
    refine op1 (s_alloc zero31 ?_)
    intro g6 w29 hg6 hB6 k29 hs7
    have hz6 := hb24.size
    exact ⟨⟨_, rfl, hB6, by have h0_ := k7.size; have h1_ := k28.size; have h2_ := k29.size; omega⟩, k29, fun _ => ⟨_, rfl, by omega⟩⟩
  intro w30 k30
  have hb26 := below_g0 hb3 k30
  rintro _ rfl _ rfl _ rfl _ rfl _ rfl _ rfl _ rfl _ ⟨v5, rfl, hS5⟩ _ rfl _ rfl _ rfl _ rfl _ rfl _ rfl _ rfl _ ⟨v6, rfl, hS6⟩ _ ⟨g7, rfl, hB7, hg7⟩
  have hlt_17 := hB7.lt
  rintro hnf1 _ ⟨g8, rfl, hB8, hg8⟩
  have hlt_18 := hB8.lt
  intro hnf2
  have hne1 : g7 ≠ g8 := fresh_ne (hnf2 _ (by simp))
  refine st0 (s_storeN row31 rfl rfl hB7 (by simp only [List.all_cons, List.all_nil, hS5.one, Bool.and_true, Bool.and_self] <;> rfl) rfl rfl ?_)
  intro w31 hB9 k31 hs8
  have hb27 := below_g hb26 k31 (by first | omega | (have h9 := (hb26).size; omega))
  refine st0 (s_storeN row31 rfl rfl (hB8.gne k31 (by omega)) (by simp only [List.all_cons, List.all_nil, hS6.one, Bool.and_true, Bool.and_self] <;> rfl) rfl rfl ?_)
  intro w32 hB10 k32 hs9
  have hb28 := below_g hb27 k32 (by first | omega | (have h9 := (hb27).size; omega))
  refine r_end (n_then ?_)
  refine w_cut (α := Int × Value × Int × Value) (fun ((jA1, pjA1, jB1, pjB1) : Int × Value × Int × Value) => [(0, .pointer (some ⟨g, 0, none⟩)), (4, .pointer (some ⟨g1, 0, none⟩)), (5, .pointer (some ⟨g2, 0, none⟩)), (6, .int .i64 0), (7, .pointer (some ⟨g7, 0, none⟩)), (8, .pointer (some ⟨g8, 0, none⟩)), (12, .int .i64 0), (13, .bool true), (14, .int .i64 0), (15, .int .i64 0), (16, .pointer (some ⟨g1, 0 + 1, none⟩)), (17, .pointer (some ⟨g1, 0 + 1 + (0 : Int).toNat * 2, none⟩)), (18, .agg [.bool (decide (t.fx < 0)), vfx].toArray), (19, .int .i64 0), (20, .pointer (some ⟨g2, 0 + (0 : Int).toNat * 2, none⟩)), (21, .agg [.bool (decide (a < 0)), pa].toArray), (22, .agg [.bool (decide ((t.fx + a) < 0)), v5].toArray), (23, .int .i64 0), (24, .pointer (some ⟨g1, 0 + 5, none⟩)), (25, .pointer (some ⟨g1, 0 + 5 + (0 : Int).toNat * 2, none⟩)), (26, .agg [.bool (decide (t.tx < 0)), vtx].toArray), (27, .int .i64 0), (28, .pointer (some ⟨g2, 0 + (0 : Int).toNat * 2, none⟩)), (29, .agg [.bool (decide (a < 0)), pa].toArray), (30, .agg [.bool (decide ((t.tx + a) < 0)), v6].toArray)]) (fun ((jA1, pjA1, jB1, pjB1)) W => Below a0.heap.size a0 W ∧ (jA1 = if s.some then (if t.fx + a < s.fx then t.fx + a else s.fx) else t.fx + a) ∧ (jB1 = if s.some then (if s.tx < t.tx + a then t.tx + a else s.tx) else t.tx + a) ∧ (Bd 44 jA1) ∧ (Bd 44 jB1) ∧ (w.grownBy W (some g)) ∧ (Blk W g 72 [.bool s.some, .bool (decide (s.fx < 0)), ufx, .bool (decide (s.fy < 0)), ufy, .bool (decide (s.tx < 0)), utx, .bool (decide (s.ty < 0)), uty].toArray) ∧ (Blk W g1 72 [.bool t.some, .bool (decide (t.fx < 0)), vfx, .bool (decide (t.fy < 0)), vfy, .bool (decide (t.tx < 0)), vtx, .bool (decide (t.ty < 0)), vty].toArray) ∧ (Blk W g2 70 [.bool (decide (a < 0)), pa, .bool (decide (b < 0)), pb].toArray) ∧ (Blk W g7 31 [.bool (decide (jA1 < 0)), pjA1].toArray) ∧ (Blk W g8 31 [.bool (decide (jB1 < 0)), pjB1].toArray) ∧ (Sl Kd.u32 W (G 83 n0 W) ufx (ml s.fx)) ∧ (Sl Kd.u32 W (G 83 n0 W) ufy (ml s.fy)) ∧ (Sl Kd.u32 W (G 83 n0 W) utx (ml s.tx)) ∧ (Sl Kd.u32 W (G 83 n0 W) uty (ml s.ty)) ∧ (Sl Kd.u32 W (G 83 n0 W) vfx (ml t.fx)) ∧ (Sl Kd.u32 W (G 83 n0 W) vfy (ml t.fy)) ∧ (Sl Kd.u32 W (G 83 n0 W) vtx (ml t.tx)) ∧ (Sl Kd.u32 W (G 83 n0 W) vty (ml t.ty)) ∧ (Sl Kd.u32 W (G 83 n0 W) pa (ml a)) ∧ (Sl Kd.u32 W (G 83 n0 W) pb (ml b)) ∧ (Sl Kd.u32 W (G 83 n0 W) pjA1 (ml jA1)) ∧ (Sl Kd.u32 W (G 83 n0 W) pjB1 (ml jB1))) ?_ ?_
  · refine w_seq (w_region (st (s_move rfl (st (s_nilp rfl (st (s_faddr fld72_0 rfl (st (s_load one4 rfl ((((((hB.g0 k1).g0 k2).g0 k7).g0 k30).gne k31 (by omega)).gne k32 (by omega)).range (j := 0) rfl (r_end ?_))))))))))
    refine n_then ?_
    refine w_cond rfl (fun h2 => ?_) (fun h2 => ?_)
    rotate_left
    · refine w_skip' ?_
      exact n_meet (((t.fx + a)), (v5), ((t.tx + a)), (v6)) ⟨hb28, by rw [h2]; rfl, by rw [h2]; rfl, (Bd.le (bd_add htb.fx hab (show 43 < 44 by decide) (show 43 < 44 by decide)) (show 44 ≤ 44 by decide)), (Bd.le (bd_add htb.tx hab (show 43 < 44 by decide) (show 43 < 44 by decide)) (show 44 ≤ 44 by decide)), (kj_new (kj_new (kj_none (kj_none (kj_none (kj_none (kj_refl g _) k1) k2) k7) k30) k31 (by omega)) k32 (by omega)), ((((((hB.g0 k1).g0 k2).g0 k7).g0 k30).gne k31 (by omega)).gne k32 (by omega)), (((((hB1.g0 k2).g0 k7).g0 k30).gne k31 (by omega)).gne k32 (by omega)), ((((hB2.g0 k7).g0 k30).gne k31 (by omega)).gne k32 (by omega)), (hB9.gne k32 (by omega)), hB10, ((((((hufx.gg0 k1).gg0 k2).gg0 k7).gg0 k30).ggB k31 hB7 (by decide) (by omega)).ggB k32 (hB8.gne k31 (by omega)) (by decide) (by omega)), ((((((hufy.gg0 k1).gg0 k2).gg0 k7).gg0 k30).ggB k31 hB7 (by decide) (by omega)).ggB k32 (hB8.gne k31 (by omega)) (by decide) (by omega)), ((((((hutx.gg0 k1).gg0 k2).gg0 k7).gg0 k30).ggB k31 hB7 (by decide) (by omega)).ggB k32 (hB8.gne k31 (by omega)) (by decide) (by omega)), ((((((huty.gg0 k1).gg0 k2).gg0 k7).gg0 k30).ggB k31 hB7 (by decide) (by omega)).ggB k32 (hB8.gne k31 (by omega)) (by decide) (by omega)), ((((((hvfx.gg0 k1).gg0 k2).gg0 k7).gg0 k30).ggB k31 hB7 (by decide) (by omega)).ggB k32 (hB8.gne k31 (by omega)) (by decide) (by omega)), ((((((hvfy.gg0 k1).gg0 k2).gg0 k7).gg0 k30).ggB k31 hB7 (by decide) (by omega)).ggB k32 (hB8.gne k31 (by omega)) (by decide) (by omega)), ((((((hvtx.gg0 k1).gg0 k2).gg0 k7).gg0 k30).ggB k31 hB7 (by decide) (by omega)).ggB k32 (hB8.gne k31 (by omega)) (by decide) (by omega)), ((((((hvty.gg0 k1).gg0 k2).gg0 k7).gg0 k30).ggB k31 hB7 (by decide) (by omega)).ggB k32 (hB8.gne k31 (by omega)) (by decide) (by omega)), ((((((hpa.gg0 k1).gg0 k2).gg0 k7).gg0 k30).ggB k31 hB7 (by decide) (by omega)).ggB k32 (hB8.gne k31 (by omega)) (by decide) (by omega)), ((((((hpb.gg0 k1).gg0 k2).gg0 k7).gg0 k30).ggB k31 hB7 (by decide) (by omega)).ggB k32 (hB8.gne k31 (by omega)) (by decide) (by omega)), ((hS5.ggB k31 hB7 (by decide) (by omega)).ggB k32 (hB8.gne k31 (by omega)) (by decide) (by omega)), ((hS6.ggB k31 hB7 (by decide) (by omega)).ggB k32 (hB8.gne k31 (by omega)) (by decide) (by omega))⟩ (by exact ⟨rfl, rfl, rfl, rfl, rfl, rfl, rfl, rfl, rfl, rfl, rfl, rfl, rfl, rfl, rfl, rfl, rfl, rfl, rfl, rfl, rfl, rfl, rfl, rfl, rfl, trivial⟩)
    refine w_drawT 16 (fun a b => a.grownBy b none) [(some 35, Is <| .pointer (some ⟨g, 0, none⟩)), (some 36, Is <| .int .i64 0), (some 37, Is <| .pointer (some ⟨g, 0, none⟩)), (some 38, Is <| .pointer (some ⟨g, 0 + 1, none⟩)), (some 39, Is <| .pointer (some ⟨g, 0 + 1 + (0 : Int).toNat * 2, none⟩)), (some 40, Is <| .agg [.bool (decide (s.fx < 0)), ufx].toArray), (some 41, Is <| .agg [.bool (decide ((t.fx + a) < 0)), v5].toArray), (some 42, fun v W => IsBig 83 n0 W v ((if (t.fx + a) < s.fx then (t.fx + a) else s.fx))), (some 43, Is <| .pointer (some ⟨g, 0, none⟩)), (some 44, Is <| .int .i64 0), (some 45, Is <| .pointer (some ⟨g, 0, none⟩)), (some 46, Is <| .pointer (some ⟨g, 0 + 5, none⟩)), (some 47, Is <| .pointer (some ⟨g, 0 + 5 + (0 : Int).toNat * 2, none⟩)), (some 48, Is <| .agg [.bool (decide (s.tx < 0)), utx].toArray), (some 49, Is <| .agg [.bool (decide ((t.tx + a) < 0)), v6].toArray), (some 50, fun v W => IsBig 83 n0 W v ((if s.tx < (t.tx + a) then (t.tx + a) else s.tx)))] [[], [], [0], [2], [1, 3], [4], [], [5, 6], [], [], [8], [10], [9, 11], [12], [], [13, 14]] [(0, .pointer (some ⟨g, 0, none⟩)), (4, .pointer (some ⟨g1, 0, none⟩)), (5, .pointer (some ⟨g2, 0, none⟩)), (6, .int .i64 0), (7, .pointer (some ⟨g7, 0, none⟩)), (8, .pointer (some ⟨g8, 0, none⟩)), (12, .int .i64 0), (13, .bool true), (14, .int .i64 0), (15, .int .i64 0), (16, .pointer (some ⟨g1, 0 + 1, none⟩)), (17, .pointer (some ⟨g1, 0 + 1 + (0 : Int).toNat * 2, none⟩)), (18, .agg [.bool (decide (t.fx < 0)), vfx].toArray), (19, .int .i64 0), (20, .pointer (some ⟨g2, 0 + (0 : Int).toNat * 2, none⟩)), (21, .agg [.bool (decide (a < 0)), pa].toArray), (22, .agg [.bool (decide ((t.fx + a) < 0)), v5].toArray), (23, .int .i64 0), (24, .pointer (some ⟨g1, 0 + 5, none⟩)), (25, .pointer (some ⟨g1, 0 + 5 + (0 : Int).toNat * 2, none⟩)), (26, .agg [.bool (decide (t.tx < 0)), vtx].toArray), (27, .int .i64 0), (28, .pointer (some ⟨g2, 0 + (0 : Int).toNat * 2, none⟩)), (29, .agg [.bool (decide (a < 0)), pa].toArray), (30, .agg [.bool (decide ((t.tx + a) < 0)), v6].toArray), (31, .pointer (some ⟨g, 0, none⟩)), (32, .pointer (some ⟨g, 0, none⟩)), (33, .pointer (some ⟨g, 0 + 0, none⟩)), (34, .bool s.some)] (by exact ⟨rfl, rfl, rfl, rfl, rfl, rfl, rfl, rfl, rfl, rfl, rfl, rfl, rfl, rfl, rfl, rfl, rfl, rfl, rfl, rfl, rfl, rfl, rfl, rfl, rfl, rfl, rfl, rfl, rfl, trivial⟩) (by kernel_rfl) (by kernel_rfl) grown_none_refl (fun _ _ _ => grown_none_trans) ⟨kv, kv, kv, kv, kv, kv, kv, fun _ _ _ h k => h.g0 k, kv, kv, kv, kv, kv, kv, kv, fun _ _ _ h k => h.g0 k, trivial⟩ ?_
    intro w35 k35 hs10
    have hb29 := below_g0 hb28 k35
    refine ⟨⟨?_, ?_, ?_, ?_, ?_, ?_, ?_, ?_, ?_, ?_, ?_, ?_, ?_, ?_, ?_, ?_, trivial⟩, ?_⟩
    · intro w36 k36
      refine op1 (s_move rfl ?_)
      exact ⟨rfl, grown_none_refl _⟩
    · intro w37 k37
      refine op1 (s_move rfl ?_)
      exact ⟨rfl, grown_none_refl _⟩
    · intro w38 k38
      rintro _ rfl
      refine op1 (s_nilp rfl ?_)
      exact ⟨rfl, grown_none_refl _⟩
    · intro w39 k39
      rintro _ rfl
      refine op1 (s_faddr fld72_1 rfl ?_)
      exact ⟨rfl, grown_none_refl _⟩
    · intro w40 k40
      rintro _ rfl _ rfl
      refine op1 (s_iaddr arr70 rfl rfl (by omega) (by omega) ?_)
      exact ⟨rfl, grown_none_refl _⟩
    · intro w41 k41
      rintro _ rfl
      refine op1 (s_loadN (us := [.bool (decide (s.fx < 0)), ufx]) row31 rfl ((((((((hB.g0 k1).g0 k2).g0 k7).g0 k30).gne k31 (by omega)).gne k32 (by omega)).g0 k35).g0 k41).range (j := 1) rfl rfl ?_)
      exact ⟨rfl, grown_none_refl _⟩
    · intro w42 k42
      refine op1 (s_loadW row31 rfl (((hB9.gne k32 (by omega)).g0 k35).g0 k42).range rfl ?_)
      exact ⟨rfl, grown_none_refl _⟩
    · intro w43 k43
      have hb37 := below_g0 hb29 k43
      rintro _ rfl _ rfl
      refine op1 (s_call fn96 rfl (least_any (n0 := n0) (below_n0 hn0 hb37) (big_of rfl ((((((((hufx.gg0 k1).gg0 k2).gg0 k7).gg0 k30).ggB k31 hB7 (by decide) (by omega)).ggB k32 (hB8.gne k31 (by omega)) (by decide) (by omega)).gg0 k35).gg0 k43)) (big_of rfl ((((hS5.ggB k31 hB7 (by decide) (by omega)).ggB k32 (hB8.gne k31 (by omega)) (by decide) (by omega)).gg0 k35).gg0 k43))) ?_)
      rintro _ w44 ⟨hq7, v9, rfl, hS9⟩
      have k44 := grown_of_below hq7 none
      have hz7 := hq7.size
      have hb38 := below_g0 hb37 k44
      have hz8 := hb38.size
      exact ⟨⟨_, rfl, hS9⟩, k44⟩
    · intro w45 k45
      refine op1 (s_move rfl ?_)
      exact ⟨rfl, grown_none_refl _⟩
    · intro w46 k46
      refine op1 (s_move rfl ?_)
      exact ⟨rfl, grown_none_refl _⟩
    · intro w47 k47
      rintro _ rfl
      refine op1 (s_nilp rfl ?_)
      exact ⟨rfl, grown_none_refl _⟩
    · intro w48 k48
      rintro _ rfl
      refine op1 (s_faddr fld72_2 rfl ?_)
      exact ⟨rfl, grown_none_refl _⟩
    · intro w49 k49
      rintro _ rfl _ rfl
      refine op1 (s_iaddr arr70 rfl rfl (by omega) (by omega) ?_)
      exact ⟨rfl, grown_none_refl _⟩
    · intro w50 k50
      rintro _ rfl
      refine op1 (s_loadN (us := [.bool (decide (s.tx < 0)), utx]) row31 rfl ((((((((hB.g0 k1).g0 k2).g0 k7).g0 k30).gne k31 (by omega)).gne k32 (by omega)).g0 k35).g0 k50).range (j := 5) rfl rfl ?_)
      exact ⟨rfl, grown_none_refl _⟩
    · intro w51 k51
      refine op1 (s_loadW row31 rfl ((hB10.g0 k35).g0 k51).range rfl ?_)
      exact ⟨rfl, grown_none_refl _⟩
    · intro w52 k52
      have hb46 := below_g0 hb29 k52
      rintro _ rfl _ rfl
      refine op1 (s_call fn97 rfl (greatest_any (n0 := n0) (below_n0 hn0 hb46) (big_of rfl ((((((((hutx.gg0 k1).gg0 k2).gg0 k7).gg0 k30).ggB k31 hB7 (by decide) (by omega)).ggB k32 (hB8.gne k31 (by omega)) (by decide) (by omega)).gg0 k35).gg0 k52)) (big_of rfl ((((hS6.ggB k31 hB7 (by decide) (by omega)).ggB k32 (hB8.gne k31 (by omega)) (by decide) (by omega)).gg0 k35).gg0 k52))) ?_)
      rintro _ w53 ⟨hq8, v10, rfl, hS10⟩
      have k53 := grown_of_below hq8 none
      have hz9 := hq8.size
      have hb47 := below_g0 hb46 k53
      have hz10 := hb47.size
      exact ⟨⟨_, rfl, hS10⟩, k53⟩
    intro w54 k54
    have hb48 := below_g0 hb29 k54
    rintro _ rfl _ rfl _ rfl _ rfl _ rfl _ rfl _ rfl _ ⟨v11, rfl, hS11⟩ _ rfl _ rfl _ rfl _ rfl _ rfl _ rfl _ rfl _ ⟨v12, rfl, hS12⟩
    refine st0 (s_storeN row31 rfl rfl (((hB9.gne k32 (by omega)).g0 k35).g0 k54) (by simp only [List.all_cons, List.all_nil, hS11.one, Bool.and_true, Bool.and_self] <;> rfl) rfl rfl ?_)
    intro w55 hB11 k55 hs11
    have hb49 := below_g hb48 k55 (by first | omega | (have h9 := (hb48).size; omega))
    refine st0 (s_storeN row31 rfl rfl (((hB10.g0 k35).g0 k54).gne k55 (by omega)) (by simp only [List.all_cons, List.all_nil, hS12.one, Bool.and_true, Bool.and_self] <;> rfl) rfl rfl ?_)
    intro w56 hB12 k56 hs12
    have hb50 := below_g hb49 k56 (by first | omega | (have h9 := (hb49).size; omega))
    refine r_end ?_
    exact n_meet (((if (t.fx + a) < s.fx then (t.fx + a) else s.fx)), (v11), ((if s.tx < (t.tx + a) then (t.tx + a) else s.tx)), (v12)) ⟨hb50, by rw [h2]; rfl, by rw [h2]; rfl, (Bd.le (bd_if (Bd.le hsb.fx (show 43 ≤ 44 by decide)) (Bd.le (bd_add htb.fx hab (show 43 < 44 by decide) (show 43 < 44 by decide)) (show 44 ≤ 44 by decide))) (show 44 ≤ 44 by decide)), (Bd.le (bd_if (Bd.le hsb.tx (show 43 ≤ 44 by decide)) (Bd.le (bd_add htb.tx hab (show 43 < 44 by decide) (show 43 < 44 by decide)) (show 44 ≤ 44 by decide))) (show 44 ≤ 44 by decide)), (kj_new (kj_new (kj_none (kj_none (kj_new (kj_new (kj_none (kj_none (kj_none (kj_none (kj_refl g _) k1) k2) k7) k30) k31 (by omega)) k32 (by omega)) k35) k54) k55 (by omega)) k56 (by omega)), ((((((((((hB.g0 k1).g0 k2).g0 k7).g0 k30).gne k31 (by omega)).gne k32 (by omega)).g0 k35).g0 k54).gne k55 (by omega)).gne k56 (by omega)), (((((((((hB1.g0 k2).g0 k7).g0 k30).gne k31 (by omega)).gne k32 (by omega)).g0 k35).g0 k54).gne k55 (by omega)).gne k56 (by omega)), ((((((((hB2.g0 k7).g0 k30).gne k31 (by omega)).gne k32 (by omega)).g0 k35).g0 k54).gne k55 (by omega)).gne k56 (by omega)), (hB11.gne k56 (by omega)), hB12, ((((((((((hufx.gg0 k1).gg0 k2).gg0 k7).gg0 k30).ggB k31 hB7 (by decide) (by omega)).ggB k32 (hB8.gne k31 (by omega)) (by decide) (by omega)).gg0 k35).gg0 k54).ggB k55 (((hB9.gne k32 (by omega)).g0 k35).g0 k54) (by decide) (by omega)).ggB k56 (((hB10.g0 k35).g0 k54).gne k55 (by omega)) (by decide) (by omega)), ((((((((((hufy.gg0 k1).gg0 k2).gg0 k7).gg0 k30).ggB k31 hB7 (by decide) (by omega)).ggB k32 (hB8.gne k31 (by omega)) (by decide) (by omega)).gg0 k35).gg0 k54).ggB k55 (((hB9.gne k32 (by omega)).g0 k35).g0 k54) (by decide) (by omega)).ggB k56 (((hB10.g0 k35).g0 k54).gne k55 (by omega)) (by decide) (by omega)), ((((((((((hutx.gg0 k1).gg0 k2).gg0 k7).gg0 k30).ggB k31 hB7 (by decide) (by omega)).ggB k32 (hB8.gne k31 (by omega)) (by decide) (by omega)).gg0 k35).gg0 k54).ggB k55 (((hB9.gne k32 (by omega)).g0 k35).g0 k54) (by decide) (by omega)).ggB k56 (((hB10.g0 k35).g0 k54).gne k55 (by omega)) (by decide) (by omega)), ((((((((((huty.gg0 k1).gg0 k2).gg0 k7).gg0 k30).ggB k31 hB7 (by decide) (by omega)).ggB k32 (hB8.gne k31 (by omega)) (by decide) (by omega)).gg0 k35).gg0 k54).ggB k55 (((hB9.gne k32 (by omega)).g0 k35).g0 k54) (by decide) (by omega)).ggB k56 (((hB10.g0 k35).g0 k54).gne k55 (by omega)) (by decide) (by omega)), ((((((((((hvfx.gg0 k1).gg0 k2).gg0 k7).gg0 k30).ggB k31 hB7 (by decide) (by omega)).ggB k32 (hB8.gne k31 (by omega)) (by decide) (by omega)).gg0 k35).gg0 k54).ggB k55 (((hB9.gne k32 (by omega)).g0 k35).g0 k54) (by decide) (by omega)).ggB k56 (((hB10.g0 k35).g0 k54).gne k55 (by omega)) (by decide) (by omega)), ((((((((((hvfy.gg0 k1).gg0 k2).gg0 k7).gg0 k30).ggB k31 hB7 (by decide) (by omega)).ggB k32 (hB8.gne k31 (by omega)) (by decide) (by omega)).gg0 k35).gg0 k54).ggB k55 (((hB9.gne k32 (by omega)).g0 k35).g0 k54) (by decide) (by omega)).ggB k56 (((hB10.g0 k35).g0 k54).gne k55 (by omega)) (by decide) (by omega)), ((((((((((hvtx.gg0 k1).gg0 k2).gg0 k7).gg0 k30).ggB k31 hB7 (by decide) (by omega)).ggB k32 (hB8.gne k31 (by omega)) (by decide) (by omega)).gg0 k35).gg0 k54).ggB k55 (((hB9.gne k32 (by omega)).g0 k35).g0 k54) (by decide) (by omega)).ggB k56 (((hB10.g0 k35).g0 k54).gne k55 (by omega)) (by decide) (by omega)), ((((((((((hvty.gg0 k1).gg0 k2).gg0 k7).gg0 k30).ggB k31 hB7 (by decide) (by omega)).ggB k32 (hB8.gne k31 (by omega)) (by decide) (by omega)).gg0 k35).gg0 k54).ggB k55 (((hB9.gne k32 (by omega)).g0 k35).g0 k54) (by decide) (by omega)).ggB k56 (((hB10.g0 k35).g0 k54).gne k55 (by omega)) (by decide) (by omega)), ((((((((((hpa.gg0 k1).gg0 k2).gg0 k7).gg0 k30).ggB k31 hB7 (by decide) (by omega)).ggB k32 (hB8.gne k31 (by omega)) (by decide) (by omega)).gg0 k35).gg0 k54).ggB k55 (((hB9.gne k32 (by omega)).g0 k35).g0 k54) (by decide) (by omega)).ggB k56 (((hB10.g0 k35).g0 k54).gne k55 (by omega)) (by decide) (by omega)), ((((((((((hpb.gg0 k1).gg0 k2).gg0 k7).gg0 k30).ggB k31 hB7 (by decide) (by omega)).ggB k32 (hB8.gne k31 (by omega)) (by decide) (by omega)).gg0 k35).gg0 k54).ggB k55 (((hB9.gne k32 (by omega)).g0 k35).g0 k54) (by decide) (by omega)).ggB k56 (((hB10.g0 k35).g0 k54).gne k55 (by omega)) (by decide) (by omega)), ((hS11.ggB k55 (((hB9.gne k32 (by omega)).g0 k35).g0 k54) (by decide) (by omega)).ggB k56 (((hB10.g0 k35).g0 k54).gne k55 (by omega)) (by decide) (by omega)), ((hS12.ggB k55 (((hB9.gne k32 (by omega)).g0 k35).g0 k54) (by decide) (by omega)).ggB k56 (((hB10.g0 k35).g0 k54).gne k55 (by omega)) (by decide) (by omega))⟩ (by exact ⟨rfl, rfl, rfl, rfl, rfl, rfl, rfl, rfl, rfl, rfl, rfl, rfl, rfl, rfl, rfl, rfl, rfl, rfl, rfl, rfl, rfl, rfl, rfl, rfl, rfl, trivial⟩)
  rintro ⟨jA1, pjA1, jB1, pjB1⟩ w57 ⟨hb51, hjA1, hjB1, hbjA1, hbjB1, hkjx, hbjx0, hbjx1, hbjx2, hbjx3, hbjx4, hsjx0_2, hsjx0_4, hsjx0_6, hsjx0_8, hsjx1_2, hsjx1_4, hsjx1_6, hsjx1_8, hsjx2_1, hsjx2_3, hsjx3_1, hsjx4_1⟩
  dsimp only at *
  have hz11 := hb51.size
  have hbjx0l := hbjx0.lt
  have hbjx1l := hbjx1.lt
  have hbjx2l := hbjx2.lt
  have hbjx3l := hbjx3.lt
  have hbjx4l := hbjx4.lt
  refine w_drawDT 13 (fun a b => a.grownBy b (some g)) (fun a b => a.grownBy b none) (fun a b => a.grownBy b (some g)) [(some 51, Is <| .pointer (some ⟨g, 0, none⟩)), (some 52, Is <| .int .i64 0), (some 53, Is <| .pointer (some ⟨g, 0, none⟩)), (some 54, Is <| .int .i64 0), (some 55, Is <| .agg [.bool (decide (jA1 < 0)), pjA1].toArray), (some 56, Is <| .agg [.bool (decide (jB1 < 0)), pjB1].toArray), (some 57, Is <| .pointer (some ⟨g, 0, none⟩)), (some 58, Is <| .pointer (some ⟨g, 0 + 1, none⟩)), (some 59, Is <| .pointer (some ⟨g, 0 + 1 + (0 : Int).toNat * 2, none⟩)), (none, fun _ W => Blk W g 72 ([.bool s.some, .bool (decide (jA1 < 0)), pjA1, .bool (decide (s.fy < 0)), ufy, .bool (decide (s.tx < 0)), utx, .bool (decide (s.ty < 0)), uty] : List Value).toArray), (some 60, Is <| .pointer (some ⟨g, 0, none⟩)), (some 61, Is <| .pointer (some ⟨g, 0 + 5, none⟩)), (some 62, Is <| .pointer (some ⟨g, 0 + 5 + (0 : Int).toNat * 2, none⟩))] [[], [], [], [], [], [], [0], [6], [1, 7], [4, 8], [2], [10], [3, 11]] [[], [], [], [], [], [], [0], [0, 6], [0, 1, 4, 6, 7], [0, 1, 4, 6, 7, 8], [2], [2, 10], [0, 1, 2, 3, 4, 5, 6, 7, 8, 9, 10, 11]] [[], [], [], [], [], [], [], [], [], [], [], [], []] [false, false, false, false, false, false, false, false, false, true, false, false, false] [true, true, true, true, true, true, true, true, true, false, true, true, true] [true, true, false, false, true, false, true, true, true, true, false, false, false] [(0, .pointer (some ⟨g, 0, none⟩)), (4, .pointer (some ⟨g1, 0, none⟩)), (5, .pointer (some ⟨g2, 0, none⟩)), (6, .int .i64 0), (7, .pointer (some ⟨g7, 0, none⟩)), (8, .pointer (some ⟨g8, 0, none⟩)), (12, .int .i64 0), (13, .bool true), (14, .int .i64 0), (15, .int .i64 0), (16, .pointer (some ⟨g1, 0 + 1, none⟩)), (17, .pointer (some ⟨g1, 0 + 1 + (0 : Int).toNat * 2, none⟩)), (18, .agg [.bool (decide (t.fx < 0)), vfx].toArray), (19, .int .i64 0), (20, .pointer (some ⟨g2, 0 + (0 : Int).toNat * 2, none⟩)), (21, .agg [.bool (decide (a < 0)), pa].toArray), (22, .agg [.bool (decide ((t.fx + a) < 0)), v5].toArray), (23, .int .i64 0), (24, .pointer (some ⟨g1, 0 + 5, none⟩)), (25, .pointer (some ⟨g1, 0 + 5 + (0 : Int).toNat * 2, none⟩)), (26, .agg [.bool (decide (t.tx < 0)), vtx].toArray), (27, .int .i64 0), (28, .pointer (some ⟨g2, 0 + (0 : Int).toNat * 2, none⟩)), (29, .agg [.bool (decide (a < 0)), pa].toArray), (30, .agg [.bool (decide ((t.tx + a) < 0)), v6].toArray)] (by exact ⟨rfl, rfl, rfl, rfl, rfl, rfl, rfl, rfl, rfl, rfl, rfl, rfl, rfl, rfl, rfl, rfl, rfl, rfl, rfl, rfl, rfl, rfl, rfl, rfl, rfl, trivial⟩) (by kernel_rfl) (by kernel_rfl) (by kernel_rfl) rfl (grown_some_refl g) grown_some_trans (fun _ _ h => grown_none_row h) (fun _ _ h => h) ⟨kv, kv, kv, kv, kv, kv, kv, kv, kv, kv, kv, kv, kv, kv, kv, kv, kv, kv, fun _ _ _ h k => h.g0 k, kv, kv, kv, kv, kv, kv, trivial⟩ grown_none_refl (fun _ _ _ => grown_none_trans) rfl ?_
  intro w59 k58 hs14
  have hb52 := below_g0 hb51 k58
  refine ⟨⟨?_, ?_, ?_, ?_, ?_, ?_, ?_, ?_, ?_, ?_, ?_, ?_, ?_, trivial⟩, ?_⟩
  · intro w60 k59
    have hb53 := below_g0 hb52 k59
    have hz12 := hb53.size
    refine op1 (s_move rfl ?_)
    exact ⟨rfl, grown_none_refl _⟩
  · intro w61 k60
    have hb54 := below_g0 hb52 k60
    have hz13 := hb54.size
    refine op1 (s_move rfl ?_)
    exact ⟨rfl, grown_none_refl _⟩
  · intro w62 k61
    have hb55 := below_g hb52 k61 (by first | omega | (have h9 := (hb52).size; omega))
    have hz14 := hb55.size
    refine op1 (s_move rfl ?_)
    exact ⟨rfl, grown_none_refl _⟩
  · intro w63 k62
    have hb56 := below_g hb52 k62 (by first | omega | (have h9 := (hb52).size; omega))
    have hz15 := hb56.size
    refine op1 (s_move rfl ?_)
    exact ⟨rfl, grown_none_refl _⟩
  · intro w64 k63
    have hb57 := below_g0 hb52 k63
    have hz16 := hb57.size
    refine op1 (s_loadW row31 rfl ((hbjx3.g0 k58).g0 k63).range rfl ?_)
    exact ⟨rfl, grown_none_refl _⟩
  · intro w65 k64
    have hb58 := below_g hb52 k64 (by first | omega | (have h9 := (hb52).size; omega))
    have hz17 := hb58.size
    refine op1 (s_loadW row31 rfl ((hbjx4.g0 k58).gne k64 (by omega)).range rfl ?_)
    exact ⟨rfl, grown_none_refl _⟩
  · intro w66 k65
    have hb59 := below_g0 hb52 k65
    have hz18 := hb59.size
    rintro _ rfl
    refine op1 (s_nilp rfl ?_)
    exact ⟨rfl, grown_none_refl _⟩
  · intro w67 k66
    have hb60 := below_g0 hb52 k66
    have hz19 := hb60.size
    rintro _ rfl
    refine op1 (s_faddr fld72_1 rfl ?_)
    exact ⟨rfl, grown_none_refl _⟩
  · intro w68 k67
    have hb61 := below_g0 hb52 k67
    have hz20 := hb61.size
    rintro _ rfl _ rfl
    refine op1 (s_iaddr arr70 rfl rfl (by omega) (by omega) ?_)
    exact ⟨rfl, grown_none_refl _⟩
  · intro w69 k68
    have hb62 := below_g0 hb52 k68
    have hz21 := hb62.size
    rintro _ rfl _ rfl
    refine op1 (s_storeP (o := 1) row31 rfl rfl ((hbjx0.g0 k58).g0 k68) (by simp only [List.all_cons, List.all_nil, hsjx3_1.one, Bool.and_true, Bool.and_self] <;> rfl) rfl rfl (of_decide_eq_true rfl) ?_)
    intro w70 hB14 k69 hs15
    change Blk w70 g 72 [.bool s.some, .bool (decide (jA1 < 0)), pjA1, .bool (decide (s.fy < 0)), ufy, .bool (decide (s.tx < 0)), utx, .bool (decide (s.ty < 0)), uty].toArray at hB14
    exact ⟨hB14, k69⟩
  · intro w71 k70
    have hb64 := below_g hb52 k70 (by first | omega | (have h9 := (hb52).size; omega))
    have hz22 := hb64.size
    rintro _ rfl
    refine op1 (s_nilp rfl ?_)
    exact ⟨rfl, grown_none_refl _⟩
  · intro w72 k71
    have hb65 := below_g hb52 k71 (by first | omega | (have h9 := (hb52).size; omega))
    have hz23 := hb65.size
    rintro _ rfl
    refine op1 (s_faddr fld72_2 rfl ?_)
    exact ⟨rfl, grown_none_refl _⟩
  · intro w73 k72
    have hb66 := below_g hb52 k72 (by first | omega | (have h9 := (hb52).size; omega))
    have hz24 := hb66.size
    rintro _ rfl _ rfl
    refine op1 (s_iaddr arr70 rfl rfl (by omega) (by omega) ?_)
    exact ⟨rfl, grown_none_refl _⟩
  rintro w74 k73 _ rfl _ rfl _ rfl _ rfl _ rfl _ rfl _ rfl _ rfl _ rfl v_ hB15 _ rfl _ rfl _ rfl
  have hb67 := below_g hb52 k73 (by first | omega | (have h9 := (hb52).size; omega))
  have hz25 := hb67.size
  refine st0 (s_storeP (o := 5) row31 rfl rfl hB15 (by simp only [List.all_cons, List.all_nil, hsjx4_1.one, Bool.and_true, Bool.and_self] <;> rfl) rfl rfl (of_decide_eq_true rfl) ?_)
  intro w75 hB16 k74 hs16
  change Blk w75 g 72 [.bool s.some, .bool (decide (jA1 < 0)), pjA1, .bool (decide (s.fy < 0)), ufy, .bool (decide (jB1 < 0)), pjB1, .bool (decide (s.ty < 0)), uty].toArray at hB16
  have hb68 := below_g hb67 k74 (by first | omega | (have h9 := (hb67).size; omega))
  refine r_end (n_block (n_then (w_region (st (s_addl (c := 1) rfl rfl rfl (by decide) (st (s_move rfl (r_end ?_))))))))
  refine n_again (w_seq (w_region (st (s_lt rfl rfl ?_))))
  rw [show decide ((1 : Int) < 2) = true from rfl]
  refine r_end (n_then (w_seq (w_condT rfl (w_skip' (n_then (w_seq ?_))))))
  refine w_block (w_seq (w_region (st (s_move rfl (st (s_assign rfl (r_end (n_then ?_))))))))
  refine w_seq ?_
  have hlt_30 := (hB16).lt
  have hlt_31 := ((((hbjx1.g0 k58).gne k73 (by omega)).gne k74 (by omega))).lt
  have hlt_32 := ((((hbjx2.g0 k58).gne k73 (by omega)).gne k74 (by omega))).lt
  have hlt_33 := ((((hbjx3.g0 k58).gne k73 (by omega)).gne k74 (by omega))).lt
  have hlt_34 := ((((hbjx4.g0 k58).gne k73 (by omega)).gne k74 (by omega))).lt
  refine w_drawF 18 (fun a b => a.grownBy b none) [(some 15, Is <| .int .i64 1), (some 16, Is <| .pointer (some ⟨g1, 0 + 1, none⟩)), (some 17, Is <| .pointer (some ⟨g1, 0 + 1 + (1 : Int).toNat * 2, none⟩)), (some 18, Is <| .agg [.bool (decide (t.fy < 0)), vfy].toArray), (some 19, Is <| .int .i64 1), (some 20, Is <| .pointer (some ⟨g2, 0 + (1 : Int).toNat * 2, none⟩)), (some 21, Is <| .agg [.bool (decide (b < 0)), pb].toArray), (some 22, fun v W => IsBig 83 n0 W v ((t.fy + b))), (some 23, Is <| .int .i64 1), (some 24, Is <| .pointer (some ⟨g1, 0 + 5, none⟩)), (some 25, Is <| .pointer (some ⟨g1, 0 + 5 + (1 : Int).toNat * 2, none⟩)), (some 26, Is <| .agg [.bool (decide (t.ty < 0)), vty].toArray), (some 27, Is <| .int .i64 1), (some 28, Is <| .pointer (some ⟨g2, 0 + (1 : Int).toNat * 2, none⟩)), (some 29, Is <| .agg [.bool (decide (b < 0)), pb].toArray), (some 30, fun v W => IsBig 83 n0 W v ((t.ty + b))), (some 7, fun v W => ∃ g, v = .pointer (some ⟨g, 0, none⟩) ∧ Blk W g 31 #[.bool false, .slice none 0 0] ∧ w75.heap.size ≤ g), (some 8, fun v W => ∃ g, v = .pointer (some ⟨g, 0, none⟩) ∧ Blk W g 31 #[.bool false, .slice none 0 0] ∧ w75.heap.size ≤ g)] [[], [], [0, 1], [2], [], [4], [5], [3, 6], [], [], [8, 9], [10], [], [12], [13], [11, 14], [], []] [false, false, false, false, false, false, false, false, false, false, false, false, false, false, false, false, true, true] [(0, .pointer (some ⟨g, 0, none⟩)), (4, .pointer (some ⟨g1, 0, none⟩)), (5, .pointer (some ⟨g2, 0, none⟩)), (6, .int .i64 1), (12, .int .i64 1), (13, .bool true), (14, .int .i64 1), (51, .pointer (some ⟨g, 0, none⟩)), (52, .int .i64 0), (53, .pointer (some ⟨g, 0, none⟩)), (54, .int .i64 0), (55, .agg [.bool (decide (jA1 < 0)), pjA1].toArray), (56, .agg [.bool (decide (jB1 < 0)), pjB1].toArray), (57, .pointer (some ⟨g, 0, none⟩)), (58, .pointer (some ⟨g, 0 + 1, none⟩)), (59, .pointer (some ⟨g, 0 + 1 + (0 : Int).toNat * 2, none⟩)), (60, .pointer (some ⟨g, 0, none⟩)), (61, .pointer (some ⟨g, 0 + 5, none⟩)), (62, .pointer (some ⟨g, 0 + 5 + (0 : Int).toNat * 2, none⟩)), (63, .int .i64 1)] (by exact ⟨rfl, rfl, rfl, rfl, rfl, rfl, rfl, rfl, rfl, rfl, rfl, rfl, rfl, rfl, rfl, rfl, rfl, rfl, rfl, rfl, trivial⟩) (by kernel_rfl) (by kernel_rfl) grown_none_refl (fun _ _ _ => grown_none_trans) ⟨kv, kv, kv, kv, kv, kv, kv, fun _ _ _ h k => h.g0 k, kv, kv, kv, kv, kv, kv, kv, fun _ _ _ h k => h.g0 k, fun _ _ _ h k => by obtain ⟨g, e, hB, hg⟩ := h; exact ⟨g, e, hB.g0 k, hg⟩, fun _ _ _ h k => by obtain ⟨g, e, hB, hg⟩ := h; exact ⟨g, e, hB.g0 k, hg⟩, trivial⟩ ⟨(fun h => by cases h), (fun h => by cases h), (fun h => by cases h), (fun h => by cases h), (fun h => by cases h), (fun h => by cases h), (fun h => by cases h), (fun h => by cases h), (fun h => by cases h), (fun h => by cases h), (fun h => by cases h), (fun h => by cases h), (fun h => by cases h), (fun h => by cases h), (fun h => by cases h), (fun h => by cases h), fun _ _ _ ⟨g, e, hB, _⟩ => ⟨g, e, hB.lt⟩, fun _ _ _ ⟨g, e, hB, _⟩ => ⟨g, e, hB.lt⟩, trivial⟩ ?_
  intro w80 k79 hs19
  have hb69 := below_g0 hb68 k79
  refine ⟨⟨?_, ?_, ?_, ?_, ?_, ?_, ?_, ?_, ?_, ?_, ?_, ?_, ?_, ?_, ?_, ?_, ?_, ?_, trivial⟩, ?_⟩
  · intro w81 k80
    refine op1 (s_move rfl ?_)
    exact ⟨rfl, grown_none_refl _, fun h => by cases h⟩
  · intro w82 k81
    refine op1 (s_faddr fld72_1 rfl ?_)
    exact ⟨rfl, grown_none_refl _, fun h => by cases h⟩
  · intro w83 k82
    rintro _ rfl _ rfl
    refine op1 (s_iaddr arr70 rfl rfl (by omega) (by omega) ?_)
    exact ⟨rfl, grown_none_refl _, fun h => by cases h⟩
  · intro w84 k83
    rintro _ rfl
    refine op1 (s_loadN (us := [.bool (decide (t.fy < 0)), vfy]) row31 rfl (((((hbjx1.g0 k58).gne k73 (by omega)).gne k74 (by omega)).g0 k79).g0 k83).range (j := 3) rfl rfl ?_)
    exact ⟨rfl, grown_none_refl _, fun h => by cases h⟩
  · intro w85 k84
    refine op1 (s_move rfl ?_)
    exact ⟨rfl, grown_none_refl _, fun h => by cases h⟩
  · intro w86 k85
    rintro _ rfl
    refine op1 (s_iaddr arr70 rfl rfl (by omega) (by omega) ?_)
    exact ⟨rfl, grown_none_refl _, fun h => by cases h⟩
  · intro w87 k86
    rintro _ rfl
    refine op1 (s_loadN (us := [.bool (decide (b < 0)), pb]) row31 rfl (((((hbjx2.g0 k58).gne k73 (by omega)).gne k74 (by omega)).g0 k79).g0 k86).range (j := 2) rfl rfl ?_)
    exact ⟨rfl, grown_none_refl _, fun h => by cases h⟩
  · intro w88 k87
    have hb77 := below_g0 hb69 k87
    rintro _ rfl _ rfl
    refine op1 (s_call fn78 rfl (badd_any (n0 := n0) (below_n0 hn0 hb77) (big_of rfl (((((hsjx1_4.gg0 k58).ggB k73 (hbjx0.g0 k58) (by decide) (by omega)).ggB k74 hB15 (by decide) (by omega)).gg0 k79).gg0 k87)) (big_of rfl (((((hsjx2_3.gg0 k58).ggB k73 (hbjx0.g0 k58) (by decide) (by omega)).ggB k74 hB15 (by decide) (by omega)).gg0 k79).gg0 k87)) (Bd.le htb.fy (show 43 ≤ 90000 by decide)) (Bd.le hbb (show 43 ≤ 90000 by decide))) ?_)
    rintro _ w89 ⟨hq11, v15, rfl, hS15⟩
    have k88 := grown_of_below hq11 none
    have hz26 := hq11.size
    have hb78 := below_g0 hb77 k88
    have hz27 := hb78.size
    exact ⟨⟨_, rfl, hS15⟩, k88, fun h => by cases h⟩
  · intro w90 k89
    refine op1 (s_move rfl ?_)
    exact ⟨rfl, grown_none_refl _, fun h => by cases h⟩
  · intro w91 k90
    refine op1 (s_faddr fld72_2 rfl ?_)
    exact ⟨rfl, grown_none_refl _, fun h => by cases h⟩
  · intro w92 k91
    rintro _ rfl _ rfl
    refine op1 (s_iaddr arr70 rfl rfl (by omega) (by omega) ?_)
    exact ⟨rfl, grown_none_refl _, fun h => by cases h⟩
  · intro w93 k92
    rintro _ rfl
    refine op1 (s_loadN (us := [.bool (decide (t.ty < 0)), vty]) row31 rfl (((((hbjx1.g0 k58).gne k73 (by omega)).gne k74 (by omega)).g0 k79).g0 k92).range (j := 7) rfl rfl ?_)
    exact ⟨rfl, grown_none_refl _, fun h => by cases h⟩
  · intro w94 k93
    refine op1 (s_move rfl ?_)
    exact ⟨rfl, grown_none_refl _, fun h => by cases h⟩
  · intro w95 k94
    rintro _ rfl
    refine op1 (s_iaddr arr70 rfl rfl (by omega) (by omega) ?_)
    exact ⟨rfl, grown_none_refl _, fun h => by cases h⟩
  · intro w96 k95
    rintro _ rfl
    refine op1 (s_loadN (us := [.bool (decide (b < 0)), pb]) row31 rfl (((((hbjx2.g0 k58).gne k73 (by omega)).gne k74 (by omega)).g0 k79).g0 k95).range (j := 2) rfl rfl ?_)
    exact ⟨rfl, grown_none_refl _, fun h => by cases h⟩
  · intro w97 k96
    have hb86 := below_g0 hb69 k96
    rintro _ rfl _ rfl
    refine op1 (s_call fn78 rfl (badd_any (n0 := n0) (below_n0 hn0 hb86) (big_of rfl (((((hsjx1_8.gg0 k58).ggB k73 (hbjx0.g0 k58) (by decide) (by omega)).ggB k74 hB15 (by decide) (by omega)).gg0 k79).gg0 k96)) (big_of rfl (((((hsjx2_3.gg0 k58).ggB k73 (hbjx0.g0 k58) (by decide) (by omega)).ggB k74 hB15 (by decide) (by omega)).gg0 k79).gg0 k96)) (Bd.le htb.ty (show 43 ≤ 90000 by decide)) (Bd.le hbb (show 43 ≤ 90000 by decide))) ?_)
    rintro _ w98 ⟨hq12, v16, rfl, hS16⟩
    have k97 := grown_of_below hq12 none
    have hz28 := hq12.size
    have hb87 := below_g0 hb86 k97
    have hz29 := hb87.size
    exact ⟨⟨_, rfl, hS16⟩, k97, fun h => by cases h⟩
  · intro w99 k98
    have hb88 := below_g0 hb69 k98
    have hlt_35 := (((hB16.g0 k79).g0 k98)).lt
    have hlt_36 := ((((((hbjx1.g0 k58).gne k73 (by omega)).gne k74 (by omega)).g0 k79).g0 k98)).lt
    have hlt_37 := ((((((hbjx2.g0 k58).gne k73 (by omega)).gne k74 (by omega)).g0 k79).g0 k98)).lt
    have hlt_38 := ((((((hbjx3.g0 k58).gne k73 (by omega)).gne k74 (by omega)).g0 k79).g0 k98)).lt
    have hlt_39 := ((((((hbjx4.g0 k58).gne k73 (by omega)).gne k74 (by omega)).g0 k79).g0 k98)).lt
    refine op1 (s_alloc zero31 ?_)
    intro g11 w100 hg11 hB19 k99 hs20
    have hz30 := hb88.size
    exact ⟨⟨_, rfl, hB19, by have h0_ := k79.size; have h1_ := k98.size; have h2_ := k99.size; omega⟩, k99, fun _ => ⟨_, rfl, by omega⟩⟩
  · intro w101 k100
    have hb90 := below_g0 hb69 k100
    have hlt_40 := (((hB16.g0 k79).g0 k100)).lt
    have hlt_41 := ((((((hbjx1.g0 k58).gne k73 (by omega)).gne k74 (by omega)).g0 k79).g0 k100)).lt
    have hlt_42 := ((((((hbjx2.g0 k58).gne k73 (by omega)).gne k74 (by omega)).g0 k79).g0 k100)).lt
    have hlt_43 := ((((((hbjx3.g0 k58).gne k73 (by omega)).gne k74 (by omega)).g0 k79).g0 k100)).lt
    have hlt_44 := ((((((hbjx4.g0 k58).gne k73 (by omega)).gne k74 (by omega)).g0 k79).g0 k100)).lt
    refine op1 (s_alloc zero31 ?_)
    intro g12 w102 hg12 hB20 k101 hs21
    have hz31 := hb90.size
    exact ⟨⟨_, rfl, hB20, by have h0_ := k79.size; have h1_ := k100.size; have h2_ := k101.size; omega⟩, k101, fun _ => ⟨_, rfl, by omega⟩⟩
  intro w103 k102
  have hb92 := below_g0 hb69 k102
  rintro _ rfl _ rfl _ rfl _ rfl _ rfl _ rfl _ rfl _ ⟨v17, rfl, hS17⟩ _ rfl _ rfl _ rfl _ rfl _ rfl _ rfl _ rfl _ ⟨v18, rfl, hS18⟩ _ ⟨g13, rfl, hB21, hg13⟩
  have hlt_45 := hB21.lt
  rintro hnf3 _ ⟨g14, rfl, hB22, hg14⟩
  have hlt_46 := hB22.lt
  intro hnf4
  have hne2 : g13 ≠ g14 := fresh_ne (hnf4 _ (by simp))
  refine st0 (s_storeN row31 rfl rfl hB21 (by simp only [List.all_cons, List.all_nil, hS17.one, Bool.and_true, Bool.and_self] <;> rfl) rfl rfl ?_)
  intro w104 hB23 k103 hs22
  have hb93 := below_g hb92 k103 (by first | omega | (have h9 := (hb92).size; omega))
  refine st0 (s_storeN row31 rfl rfl (hB22.gne k103 (by omega)) (by simp only [List.all_cons, List.all_nil, hS18.one, Bool.and_true, Bool.and_self] <;> rfl) rfl rfl ?_)
  intro w105 hB24 k104 hs23
  have hb94 := below_g hb93 k104 (by first | omega | (have h9 := (hb93).size; omega))
  refine r_end (n_then ?_)
  refine w_cut (α := Int × Value × Int × Value) (fun ((jA2, pjA2, jB2, pjB2) : Int × Value × Int × Value) => [(0, .pointer (some ⟨g, 0, none⟩)), (4, .pointer (some ⟨g1, 0, none⟩)), (5, .pointer (some ⟨g2, 0, none⟩)), (6, .int .i64 1), (7, .pointer (some ⟨g13, 0, none⟩)), (8, .pointer (some ⟨g14, 0, none⟩)), (12, .int .i64 1), (13, .bool true), (14, .int .i64 1), (15, .int .i64 1), (16, .pointer (some ⟨g1, 0 + 1, none⟩)), (17, .pointer (some ⟨g1, 0 + 1 + (1 : Int).toNat * 2, none⟩)), (18, .agg [.bool (decide (t.fy < 0)), vfy].toArray), (19, .int .i64 1), (20, .pointer (some ⟨g2, 0 + (1 : Int).toNat * 2, none⟩)), (21, .agg [.bool (decide (b < 0)), pb].toArray), (22, .agg [.bool (decide ((t.fy + b) < 0)), v17].toArray), (23, .int .i64 1), (24, .pointer (some ⟨g1, 0 + 5, none⟩)), (25, .pointer (some ⟨g1, 0 + 5 + (1 : Int).toNat * 2, none⟩)), (26, .agg [.bool (decide (t.ty < 0)), vty].toArray), (27, .int .i64 1), (28, .pointer (some ⟨g2, 0 + (1 : Int).toNat * 2, none⟩)), (29, .agg [.bool (decide (b < 0)), pb].toArray), (30, .agg [.bool (decide ((t.ty + b) < 0)), v18].toArray), (51, .pointer (some ⟨g, 0, none⟩)), (52, .int .i64 0), (53, .pointer (some ⟨g, 0, none⟩)), (54, .int .i64 0), (55, .agg [.bool (decide (jA1 < 0)), pjA1].toArray), (56, .agg [.bool (decide (jB1 < 0)), pjB1].toArray), (57, .pointer (some ⟨g, 0, none⟩)), (58, .pointer (some ⟨g, 0 + 1, none⟩)), (59, .pointer (some ⟨g, 0 + 1 + (0 : Int).toNat * 2, none⟩)), (60, .pointer (some ⟨g, 0, none⟩)), (61, .pointer (some ⟨g, 0 + 5, none⟩)), (62, .pointer (some ⟨g, 0 + 5 + (0 : Int).toNat * 2, none⟩)), (63, .int .i64 1)]) (fun ((jA2, pjA2, jB2, pjB2)) W => Below a0.heap.size a0 W ∧ (jA2 = if s.some then (if t.fy + b < s.fy then t.fy + b else s.fy) else t.fy + b) ∧ (jB2 = if s.some then (if s.ty < t.ty + b then t.ty + b else s.ty) else t.ty + b) ∧ (Bd 44 jA2) ∧ (Bd 44 jB2) ∧ (w.grownBy W (some g)) ∧ (Blk W g 72 [.bool s.some, .bool (decide (jA1 < 0)), pjA1, .bool (decide (s.fy < 0)), ufy, .bool (decide (jB1 < 0)), pjB1, .bool (decide (s.ty < 0)), uty].toArray) ∧ (Blk W g1 72 [.bool t.some, .bool (decide (t.fx < 0)), vfx, .bool (decide (t.fy < 0)), vfy, .bool (decide (t.tx < 0)), vtx, .bool (decide (t.ty < 0)), vty].toArray) ∧ (Blk W g2 70 [.bool (decide (a < 0)), pa, .bool (decide (b < 0)), pb].toArray) ∧ (Blk W g7 31 [.bool (decide (jA1 < 0)), pjA1].toArray) ∧ (Blk W g8 31 [.bool (decide (jB1 < 0)), pjB1].toArray) ∧ (Blk W g13 31 [.bool (decide (jA2 < 0)), pjA2].toArray) ∧ (Blk W g14 31 [.bool (decide (jB2 < 0)), pjB2].toArray) ∧ (Sl Kd.u32 W (G 83 n0 W) pjA1 (ml jA1)) ∧ (Sl Kd.u32 W (G 83 n0 W) ufy (ml s.fy)) ∧ (Sl Kd.u32 W (G 83 n0 W) pjB1 (ml jB1)) ∧ (Sl Kd.u32 W (G 83 n0 W) uty (ml s.ty)) ∧ (Sl Kd.u32 W (G 83 n0 W) vfx (ml t.fx)) ∧ (Sl Kd.u32 W (G 83 n0 W) vfy (ml t.fy)) ∧ (Sl Kd.u32 W (G 83 n0 W) vtx (ml t.tx)) ∧ (Sl Kd.u32 W (G 83 n0 W) vty (ml t.ty)) ∧ (Sl Kd.u32 W (G 83 n0 W) pa (ml a)) ∧ (Sl Kd.u32 W (G 83 n0 W) pb (ml b)) ∧ (Sl Kd.u32 W (G 83 n0 W) pjA1 (ml jA1)) ∧ (Sl Kd.u32 W (G 83 n0 W) pjB1 (ml jB1)) ∧ (Sl Kd.u32 W (G 83 n0 W) pjA2 (ml jA2)) ∧ (Sl Kd.u32 W (G 83 n0 W) pjB2 (ml jB2))) ?_ ?_
  · refine w_seq (w_region (st (s_move rfl (st (s_nilp rfl (st (s_faddr fld72_0 rfl (st (s_load one4 rfl ((((hB16.g0 k79).g0 k102).gne k103 (by omega)).gne k104 (by omega)).range (j := 0) rfl (r_end ?_))))))))))
    refine n_then ?_
    refine w_cond rfl (fun h3 => ?_) (fun h3 => ?_)
    rotate_left
    · refine w_skip' ?_
      exact n_meet (((t.fy + b)), (v17), ((t.ty + b)), (v18)) ⟨hb94, by rw [h3]; rfl, by rw [h3]; rfl, (Bd.le (bd_add htb.fy hbb (show 43 < 44 by decide) (show 43 < 44 by decide)) (show 44 ≤ 44 by decide)), (Bd.le (bd_add htb.ty hbb (show 43 < 44 by decide) (show 43 < 44 by decide)) (show 44 ≤ 44 by decide)), (kj_new (kj_new (kj_none (kj_none (kj_own (kj_own (kj_none hkjx k58) k73) k74) k79) k102) k103 (by omega)) k104 (by omega)), ((((hB16.g0 k79).g0 k102).gne k103 (by omega)).gne k104 (by omega)), (((((((hbjx1.g0 k58).gne k73 (by omega)).gne k74 (by omega)).g0 k79).g0 k102).gne k103 (by omega)).gne k104 (by omega)), (((((((hbjx2.g0 k58).gne k73 (by omega)).gne k74 (by omega)).g0 k79).g0 k102).gne k103 (by omega)).gne k104 (by omega)), (((((((hbjx3.g0 k58).gne k73 (by omega)).gne k74 (by omega)).g0 k79).g0 k102).gne k103 (by omega)).gne k104 (by omega)), (((((((hbjx4.g0 k58).gne k73 (by omega)).gne k74 (by omega)).g0 k79).g0 k102).gne k103 (by omega)).gne k104 (by omega)), (hB23.gne k104 (by omega)), hB24, (((((((hsjx3_1.gg0 k58).ggB k73 (hbjx0.g0 k58) (by decide) (by omega)).ggB k74 hB15 (by decide) (by omega)).gg0 k79).gg0 k102).ggB k103 hB21 (by decide) (by omega)).ggB k104 (hB22.gne k103 (by omega)) (by decide) (by omega)), (((((((hsjx0_4.gg0 k58).ggB k73 (hbjx0.g0 k58) (by decide) (by omega)).ggB k74 hB15 (by decide) (by omega)).gg0 k79).gg0 k102).ggB k103 hB21 (by decide) (by omega)).ggB k104 (hB22.gne k103 (by omega)) (by decide) (by omega)), (((((((hsjx4_1.gg0 k58).ggB k73 (hbjx0.g0 k58) (by decide) (by omega)).ggB k74 hB15 (by decide) (by omega)).gg0 k79).gg0 k102).ggB k103 hB21 (by decide) (by omega)).ggB k104 (hB22.gne k103 (by omega)) (by decide) (by omega)), (((((((hsjx0_8.gg0 k58).ggB k73 (hbjx0.g0 k58) (by decide) (by omega)).ggB k74 hB15 (by decide) (by omega)).gg0 k79).gg0 k102).ggB k103 hB21 (by decide) (by omega)).ggB k104 (hB22.gne k103 (by omega)) (by decide) (by omega)), (((((((hsjx1_2.gg0 k58).ggB k73 (hbjx0.g0 k58) (by decide) (by omega)).ggB k74 hB15 (by decide) (by omega)).gg0 k79).gg0 k102).ggB k103 hB21 (by decide) (by omega)).ggB k104 (hB22.gne k103 (by omega)) (by decide) (by omega)), (((((((hsjx1_4.gg0 k58).ggB k73 (hbjx0.g0 k58) (by decide) (by omega)).ggB k74 hB15 (by decide) (by omega)).gg0 k79).gg0 k102).ggB k103 hB21 (by decide) (by omega)).ggB k104 (hB22.gne k103 (by omega)) (by decide) (by omega)), (((((((hsjx1_6.gg0 k58).ggB k73 (hbjx0.g0 k58) (by decide) (by omega)).ggB k74 hB15 (by decide) (by omega)).gg0 k79).gg0 k102).ggB k103 hB21 (by decide) (by omega)).ggB k104 (hB22.gne k103 (by omega)) (by decide) (by omega)), (((((((hsjx1_8.gg0 k58).ggB k73 (hbjx0.g0 k58) (by decide) (by omega)).ggB k74 hB15 (by decide) (by omega)).gg0 k79).gg0 k102).ggB k103 hB21 (by decide) (by omega)).ggB k104 (hB22.gne k103 (by omega)) (by decide) (by omega)), (((((((hsjx2_1.gg0 k58).ggB k73 (hbjx0.g0 k58) (by decide) (by omega)).ggB k74 hB15 (by decide) (by omega)).gg0 k79).gg0 k102).ggB k103 hB21 (by decide) (by omega)).ggB k104 (hB22.gne k103 (by omega)) (by decide) (by omega)), (((((((hsjx2_3.gg0 k58).ggB k73 (hbjx0.g0 k58) (by decide) (by omega)).ggB k74 hB15 (by decide) (by omega)).gg0 k79).gg0 k102).ggB k103 hB21 (by decide) (by omega)).ggB k104 (hB22.gne k103 (by omega)) (by decide) (by omega)), (((((((hsjx3_1.gg0 k58).ggB k73 (hbjx0.g0 k58) (by decide) (by omega)).ggB k74 hB15 (by decide) (by omega)).gg0 k79).gg0 k102).ggB k103 hB21 (by decide) (by omega)).ggB k104 (hB22.gne k103 (by omega)) (by decide) (by omega)), (((((((hsjx4_1.gg0 k58).ggB k73 (hbjx0.g0 k58) (by decide) (by omega)).ggB k74 hB15 (by decide) (by omega)).gg0 k79).gg0 k102).ggB k103 hB21 (by decide) (by omega)).ggB k104 (hB22.gne k103 (by omega)) (by decide) (by omega)), ((hS17.ggB k103 hB21 (by decide) (by omega)).ggB k104 (hB22.gne k103 (by omega)) (by decide) (by omega)), ((hS18.ggB k103 hB21 (by decide) (by omega)).ggB k104 (hB22.gne k103 (by omega)) (by decide) (by omega))⟩ (by exact ⟨rfl, rfl, rfl, rfl, rfl, rfl, rfl, rfl, rfl, rfl, rfl, rfl, rfl, rfl, rfl, rfl, rfl, rfl, rfl, rfl, rfl, rfl, rfl, rfl, rfl, rfl, rfl, rfl, rfl, rfl, rfl, rfl, rfl, rfl, rfl, rfl, rfl, rfl, trivial⟩)
    refine w_drawT 16 (fun a b => a.grownBy b none) [(some 35, Is <| .pointer (some ⟨g, 0, none⟩)), (some 36, Is <| .int .i64 1), (some 37, Is <| .pointer (some ⟨g, 0, none⟩)), (some 38, Is <| .pointer (some ⟨g, 0 + 1, none⟩)), (some 39, Is <| .pointer (some ⟨g, 0 + 1 + (1 : Int).toNat * 2, none⟩)), (some 40, Is <| .agg [.bool (decide (s.fy < 0)), ufy].toArray), (some 41, Is <| .agg [.bool (decide ((t.fy + b) < 0)), v17].toArray), (some 42, fun v W => IsBig 83 n0 W v ((if (t.fy + b) < s.fy then (t.fy + b) else s.fy))), (some 43, Is <| .pointer (some ⟨g, 0, none⟩)), (some 44, Is <| .int .i64 1), (some 45, Is <| .pointer (some ⟨g, 0, none⟩)), (some 46, Is <| .pointer (some ⟨g, 0 + 5, none⟩)), (some 47, Is <| .pointer (some ⟨g, 0 + 5 + (1 : Int).toNat * 2, none⟩)), (some 48, Is <| .agg [.bool (decide (s.ty < 0)), uty].toArray), (some 49, Is <| .agg [.bool (decide ((t.ty + b) < 0)), v18].toArray), (some 50, fun v W => IsBig 83 n0 W v ((if s.ty < (t.ty + b) then (t.ty + b) else s.ty)))] [[], [], [0], [2], [1, 3], [4], [], [5, 6], [], [], [8], [10], [9, 11], [12], [], [13, 14]] [(0, .pointer (some ⟨g, 0, none⟩)), (4, .pointer (some ⟨g1, 0, none⟩)), (5, .pointer (some ⟨g2, 0, none⟩)), (6, .int .i64 1), (7, .pointer (some ⟨g13, 0, none⟩)), (8, .pointer (some ⟨g14, 0, none⟩)), (12, .int .i64 1), (13, .bool true), (14, .int .i64 1), (15, .int .i64 1), (16, .pointer (some ⟨g1, 0 + 1, none⟩)), (17, .pointer (some ⟨g1, 0 + 1 + (1 : Int).toNat * 2, none⟩)), (18, .agg [.bool (decide (t.fy < 0)), vfy].toArray), (19, .int .i64 1), (20, .pointer (some ⟨g2, 0 + (1 : Int).toNat * 2, none⟩)), (21, .agg [.bool (decide (b < 0)), pb].toArray), (22, .agg [.bool (decide ((t.fy + b) < 0)), v17].toArray), (23, .int .i64 1), (24, .pointer (some ⟨g1, 0 + 5, none⟩)), (25, .pointer (some ⟨g1, 0 + 5 + (1 : Int).toNat * 2, none⟩)), (26, .agg [.bool (decide (t.ty < 0)), vty].toArray), (27, .int .i64 1), (28, .pointer (some ⟨g2, 0 + (1 : Int).toNat * 2, none⟩)), (29, .agg [.bool (decide (b < 0)), pb].toArray), (30, .agg [.bool (decide ((t.ty + b) < 0)), v18].toArray), (31, .pointer (some ⟨g, 0, none⟩)), (32, .pointer (some ⟨g, 0, none⟩)), (33, .pointer (some ⟨g, 0 + 0, none⟩)), (34, .bool s.some), (51, .pointer (some ⟨g, 0, none⟩)), (52, .int .i64 0), (53, .pointer (some ⟨g, 0, none⟩)), (54, .int .i64 0), (55, .agg [.bool (decide (jA1 < 0)), pjA1].toArray), (56, .agg [.bool (decide (jB1 < 0)), pjB1].toArray), (57, .pointer (some ⟨g, 0, none⟩)), (58, .pointer (some ⟨g, 0 + 1, none⟩)), (59, .pointer (some ⟨g, 0 + 1 + (0 : Int).toNat * 2, none⟩)), (60, .pointer (some ⟨g, 0, none⟩)), (61, .pointer (some ⟨g, 0 + 5, none⟩)), (62, .pointer (some ⟨g, 0 + 5 + (0 : Int).toNat * 2, none⟩)), (63, .int .i64 1)] (by exact ⟨rfl, rfl, rfl, rfl, rfl, rfl, rfl, rfl, rfl, rfl, rfl, rfl, rfl, rfl, rfl, rfl, rfl, rfl, rfl, rfl, rfl, rfl, rfl, rfl, rfl, rfl, rfl, rfl, rfl, rfl, rfl, rfl, rfl, rfl, rfl, rfl, rfl, rfl, rfl, rfl, rfl, rfl, trivial⟩) (by kernel_rfl) (by kernel_rfl) grown_none_refl (fun _ _ _ => grown_none_trans) ⟨kv, kv, kv, kv, kv, kv, kv, fun _ _ _ h k => h.g0 k, kv, kv, kv, kv, kv, kv, kv, fun _ _ _ h k => h.g0 k, trivial⟩ ?_
    intro w108 k107 hs24
    have hb95 := below_g0 hb94 k107
    refine ⟨⟨?_, ?_, ?_, ?_, ?_, ?_, ?_, ?_, ?_, ?_, ?_, ?_, ?_, ?_, ?_, ?_, trivial⟩, ?_⟩
    · intro w109 k108
      refine op1 (s_move rfl ?_)
      exact ⟨rfl, grown_none_refl _⟩
    · intro w110 k109
      refine op1 (s_move rfl ?_)
      exact ⟨rfl, grown_none_refl _⟩
    · intro w111 k110
      rintro _ rfl
      refine op1 (s_nilp rfl ?_)
      exact ⟨rfl, grown_none_refl _⟩
    · intro w112 k111
      rintro _ rfl
      refine op1 (s_faddr fld72_1 rfl ?_)
      exact ⟨rfl, grown_none_refl _⟩
    · intro w113 k112
      rintro _ rfl _ rfl
      refine op1 (s_iaddr arr70 rfl rfl (by omega) (by omega) ?_)
      exact ⟨rfl, grown_none_refl _⟩
    · intro w114 k113
      rintro _ rfl
      refine op1 (s_loadN (us := [.bool (decide (s.fy < 0)), ufy]) row31 rfl ((((((hB16.g0 k79).g0 k102).gne k103 (by omega)).gne k104 (by omega)).g0 k107).g0 k113).range (j := 3) rfl rfl ?_)
      exact ⟨rfl, grown_none_refl _⟩
    · intro w115 k114
      refine op1 (s_loadW row31 rfl (((hB23.gne k104 (by omega)).g0 k107).g0 k114).range rfl ?_)
      exact ⟨rfl, grown_none_refl _⟩
    · intro w116 k115
      have hb103 := below_g0 hb95 k115
      rintro _ rfl _ rfl
      refine op1 (s_call fn96 rfl (least_any (n0 := n0) (below_n0 hn0 hb103) (big_of rfl (((((((((hsjx0_4.gg0 k58).ggB k73 (hbjx0.g0 k58) (by decide) (by omega)).ggB k74 hB15 (by decide) (by omega)).gg0 k79).gg0 k102).ggB k103 hB21 (by decide) (by omega)).ggB k104 (hB22.gne k103 (by omega)) (by decide) (by omega)).gg0 k107).gg0 k115)) (big_of rfl ((((hS17.ggB k103 hB21 (by decide) (by omega)).ggB k104 (hB22.gne k103 (by omega)) (by decide) (by omega)).gg0 k107).gg0 k115))) ?_)
      rintro _ w117 ⟨hq15, v21, rfl, hS21⟩
      have k116 := grown_of_below hq15 none
      have hz32 := hq15.size
      have hb104 := below_g0 hb103 k116
      have hz33 := hb104.size
      exact ⟨⟨_, rfl, hS21⟩, k116⟩
    · intro w118 k117
      refine op1 (s_move rfl ?_)
      exact ⟨rfl, grown_none_refl _⟩
    · intro w119 k118
      refine op1 (s_move rfl ?_)
      exact ⟨rfl, grown_none_refl _⟩
    · intro w120 k119
      rintro _ rfl
      refine op1 (s_nilp rfl ?_)
      exact ⟨rfl, grown_none_refl _⟩
    · intro w121 k120
      rintro _ rfl
      refine op1 (s_faddr fld72_2 rfl ?_)
      exact ⟨rfl, grown_none_refl _⟩
    · intro w122 k121
      rintro _ rfl _ rfl
      refine op1 (s_iaddr arr70 rfl rfl (by omega) (by omega) ?_)
      exact ⟨rfl, grown_none_refl _⟩
    · intro w123 k122
      rintro _ rfl
      refine op1 (s_loadN (us := [.bool (decide (s.ty < 0)), uty]) row31 rfl ((((((hB16.g0 k79).g0 k102).gne k103 (by omega)).gne k104 (by omega)).g0 k107).g0 k122).range (j := 7) rfl rfl ?_)
      exact ⟨rfl, grown_none_refl _⟩
    · intro w124 k123
      refine op1 (s_loadW row31 rfl ((hB24.g0 k107).g0 k123).range rfl ?_)
      exact ⟨rfl, grown_none_refl _⟩
    · intro w125 k124
      have hb112 := below_g0 hb95 k124
      rintro _ rfl _ rfl
      refine op1 (s_call fn97 rfl (greatest_any (n0 := n0) (below_n0 hn0 hb112) (big_of rfl (((((((((hsjx0_8.gg0 k58).ggB k73 (hbjx0.g0 k58) (by decide) (by omega)).ggB k74 hB15 (by decide) (by omega)).gg0 k79).gg0 k102).ggB k103 hB21 (by decide) (by omega)).ggB k104 (hB22.gne k103 (by omega)) (by decide) (by omega)).gg0 k107).gg0 k124)) (big_of rfl ((((hS18.ggB k103 hB21 (by decide) (by omega)).ggB k104 (hB22.gne k103 (by omega)) (by decide) (by omega)).gg0 k107).gg0 k124))) ?_)
      rintro _ w126 ⟨hq16, v22, rfl, hS22⟩
      have k125 := grown_of_below hq16 none
      have hz34 := hq16.size
      have hb113 := below_g0 hb112 k125
      have hz35 := hb113.size
      exact ⟨⟨_, rfl, hS22⟩, k125⟩
    intro w127 k126
    have hb114 := below_g0 hb95 k126
    rintro _ rfl _ rfl _ rfl _ rfl _ rfl _ rfl _ rfl _ ⟨v23, rfl, hS23⟩ _ rfl _ rfl _ rfl _ rfl _ rfl _ rfl _ rfl _ ⟨v24, rfl, hS24⟩
    refine st0 (s_storeN row31 rfl rfl (((hB23.gne k104 (by omega)).g0 k107).g0 k126) (by simp only [List.all_cons, List.all_nil, hS23.one, Bool.and_true, Bool.and_self] <;> rfl) rfl rfl ?_)
    intro w128 hB25 k127 hs25
    have hb115 := below_g hb114 k127 (by first | omega | (have h9 := (hb114).size; omega))
    refine st0 (s_storeN row31 rfl rfl (((hB24.g0 k107).g0 k126).gne k127 (by omega)) (by simp only [List.all_cons, List.all_nil, hS24.one, Bool.and_true, Bool.and_self] <;> rfl) rfl rfl ?_)
    intro w129 hB26 k128 hs26
    have hb116 := below_g hb115 k128 (by first | omega | (have h9 := (hb115).size; omega))
    refine r_end ?_
    exact n_meet (((if (t.fy + b) < s.fy then (t.fy + b) else s.fy)), (v23), ((if s.ty < (t.ty + b) then (t.ty + b) else s.ty)), (v24)) ⟨hb116, by rw [h3]; rfl, by rw [h3]; rfl, (Bd.le (bd_if (Bd.le hsb.fy (show 43 ≤ 44 by decide)) (Bd.le (bd_add htb.fy hbb (show 43 < 44 by decide) (show 43 < 44 by decide)) (show 44 ≤ 44 by decide))) (show 44 ≤ 44 by decide)), (Bd.le (bd_if (Bd.le hsb.ty (show 43 ≤ 44 by decide)) (Bd.le (bd_add htb.ty hbb (show 43 < 44 by decide) (show 43 < 44 by decide)) (show 44 ≤ 44 by decide))) (show 44 ≤ 44 by decide)), (kj_new (kj_new (kj_none (kj_none (kj_new (kj_new (kj_none (kj_none (kj_own (kj_own (kj_none hkjx k58) k73) k74) k79) k102) k103 (by omega)) k104 (by omega)) k107) k126) k127 (by omega)) k128 (by omega)), ((((((((hB16.g0 k79).g0 k102).gne k103 (by omega)).gne k104 (by omega)).g0 k107).g0 k126).gne k127 (by omega)).gne k128 (by omega)), (((((((((((hbjx1.g0 k58).gne k73 (by omega)).gne k74 (by omega)).g0 k79).g0 k102).gne k103 (by omega)).gne k104 (by omega)).g0 k107).g0 k126).gne k127 (by omega)).gne k128 (by omega)), (((((((((((hbjx2.g0 k58).gne k73 (by omega)).gne k74 (by omega)).g0 k79).g0 k102).gne k103 (by omega)).gne k104 (by omega)).g0 k107).g0 k126).gne k127 (by omega)).gne k128 (by omega)), (((((((((((hbjx3.g0 k58).gne k73 (by omega)).gne k74 (by omega)).g0 k79).g0 k102).gne k103 (by omega)).gne k104 (by omega)).g0 k107).g0 k126).gne k127 (by omega)).gne k128 (by omega)), (((((((((((hbjx4.g0 k58).gne k73 (by omega)).gne k74 (by omega)).g0 k79).g0 k102).gne k103 (by omega)).gne k104 (by omega)).g0 k107).g0 k126).gne k127 (by omega)).gne k128 (by omega)), (hB25.gne k128 (by omega)), hB26, (((((((((((hsjx3_1.gg0 k58).ggB k73 (hbjx0.g0 k58) (by decide) (by omega)).ggB k74 hB15 (by decide) (by omega)).gg0 k79).gg0 k102).ggB k103 hB21 (by decide) (by omega)).ggB k104 (hB22.gne k103 (by omega)) (by decide) (by omega)).gg0 k107).gg0 k126).ggB k127 (((hB23.gne k104 (by omega)).g0 k107).g0 k126) (by decide) (by omega)).ggB k128 (((hB24.g0 k107).g0 k126).gne k127 (by omega)) (by decide) (by omega)), (((((((((((hsjx0_4.gg0 k58).ggB k73 (hbjx0.g0 k58) (by decide) (by omega)).ggB k74 hB15 (by decide) (by omega)).gg0 k79).gg0 k102).ggB k103 hB21 (by decide) (by omega)).ggB k104 (hB22.gne k103 (by omega)) (by decide) (by omega)).gg0 k107).gg0 k126).ggB k127 (((hB23.gne k104 (by omega)).g0 k107).g0 k126) (by decide) (by omega)).ggB k128 (((hB24.g0 k107).g0 k126).gne k127 (by omega)) (by decide) (by omega)), (((((((((((hsjx4_1.gg0 k58).ggB k73 (hbjx0.g0 k58) (by decide) (by omega)).ggB k74 hB15 (by decide) (by omega)).gg0 k79).gg0 k102).ggB k103 hB21 (by decide) (by omega)).ggB k104 (hB22.gne k103 (by omega)) (by decide) (by omega)).gg0 k107).gg0 k126).ggB k127 (((hB23.gne k104 (by omega)).g0 k107).g0 k126) (by decide) (by omega)).ggB k128 (((hB24.g0 k107).g0 k126).gne k127 (by omega)) (by decide) (by omega)), (((((((((((hsjx0_8.gg0 k58).ggB k73 (hbjx0.g0 k58) (by decide) (by omega)).ggB k74 hB15 (by decide) (by omega)).gg0 k79).gg0 k102).ggB k103 hB21 (by decide) (by omega)).ggB k104 (hB22.gne k103 (by omega)) (by decide) (by omega)).gg0 k107).gg0 k126).ggB k127 (((hB23.gne k104 (by omega)).g0 k107).g0 k126) (by decide) (by omega)).ggB k128 (((hB24.g0 k107).g0 k126).gne k127 (by omega)) (by decide) (by omega)), (((((((((((hsjx1_2.gg0 k58).ggB k73 (hbjx0.g0 k58) (by decide) (by omega)).ggB k74 hB15 (by decide) (by omega)).gg0 k79).gg0 k102).ggB k103 hB21 (by decide) (by omega)).ggB k104 (hB22.gne k103 (by omega)) (by decide) (by omega)).gg0 k107).gg0 k126).ggB k127 (((hB23.gne k104 (by omega)).g0 k107).g0 k126) (by decide) (by omega)).ggB k128 (((hB24.g0 k107).g0 k126).gne k127 (by omega)) (by decide) (by omega)), (((((((((((hsjx1_4.gg0 k58).ggB k73 (hbjx0.g0 k58) (by decide) (by omega)).ggB k74 hB15 (by decide) (by omega)).gg0 k79).gg0 k102).ggB k103 hB21 (by decide) (by omega)).ggB k104 (hB22.gne k103 (by omega)) (by decide) (by omega)).gg0 k107).gg0 k126).ggB k127 (((hB23.gne k104 (by omega)).g0 k107).g0 k126) (by decide) (by omega)).ggB k128 (((hB24.g0 k107).g0 k126).gne k127 (by omega)) (by decide) (by omega)), (((((((((((hsjx1_6.gg0 k58).ggB k73 (hbjx0.g0 k58) (by decide) (by omega)).ggB k74 hB15 (by decide) (by omega)).gg0 k79).gg0 k102).ggB k103 hB21 (by decide) (by omega)).ggB k104 (hB22.gne k103 (by omega)) (by decide) (by omega)).gg0 k107).gg0 k126).ggB k127 (((hB23.gne k104 (by omega)).g0 k107).g0 k126) (by decide) (by omega)).ggB k128 (((hB24.g0 k107).g0 k126).gne k127 (by omega)) (by decide) (by omega)), (((((((((((hsjx1_8.gg0 k58).ggB k73 (hbjx0.g0 k58) (by decide) (by omega)).ggB k74 hB15 (by decide) (by omega)).gg0 k79).gg0 k102).ggB k103 hB21 (by decide) (by omega)).ggB k104 (hB22.gne k103 (by omega)) (by decide) (by omega)).gg0 k107).gg0 k126).ggB k127 (((hB23.gne k104 (by omega)).g0 k107).g0 k126) (by decide) (by omega)).ggB k128 (((hB24.g0 k107).g0 k126).gne k127 (by omega)) (by decide) (by omega)), (((((((((((hsjx2_1.gg0 k58).ggB k73 (hbjx0.g0 k58) (by decide) (by omega)).ggB k74 hB15 (by decide) (by omega)).gg0 k79).gg0 k102).ggB k103 hB21 (by decide) (by omega)).ggB k104 (hB22.gne k103 (by omega)) (by decide) (by omega)).gg0 k107).gg0 k126).ggB k127 (((hB23.gne k104 (by omega)).g0 k107).g0 k126) (by decide) (by omega)).ggB k128 (((hB24.g0 k107).g0 k126).gne k127 (by omega)) (by decide) (by omega)), (((((((((((hsjx2_3.gg0 k58).ggB k73 (hbjx0.g0 k58) (by decide) (by omega)).ggB k74 hB15 (by decide) (by omega)).gg0 k79).gg0 k102).ggB k103 hB21 (by decide) (by omega)).ggB k104 (hB22.gne k103 (by omega)) (by decide) (by omega)).gg0 k107).gg0 k126).ggB k127 (((hB23.gne k104 (by omega)).g0 k107).g0 k126) (by decide) (by omega)).ggB k128 (((hB24.g0 k107).g0 k126).gne k127 (by omega)) (by decide) (by omega)), (((((((((((hsjx3_1.gg0 k58).ggB k73 (hbjx0.g0 k58) (by decide) (by omega)).ggB k74 hB15 (by decide) (by omega)).gg0 k79).gg0 k102).ggB k103 hB21 (by decide) (by omega)).ggB k104 (hB22.gne k103 (by omega)) (by decide) (by omega)).gg0 k107).gg0 k126).ggB k127 (((hB23.gne k104 (by omega)).g0 k107).g0 k126) (by decide) (by omega)).ggB k128 (((hB24.g0 k107).g0 k126).gne k127 (by omega)) (by decide) (by omega)), (((((((((((hsjx4_1.gg0 k58).ggB k73 (hbjx0.g0 k58) (by decide) (by omega)).ggB k74 hB15 (by decide) (by omega)).gg0 k79).gg0 k102).ggB k103 hB21 (by decide) (by omega)).ggB k104 (hB22.gne k103 (by omega)) (by decide) (by omega)).gg0 k107).gg0 k126).ggB k127 (((hB23.gne k104 (by omega)).g0 k107).g0 k126) (by decide) (by omega)).ggB k128 (((hB24.g0 k107).g0 k126).gne k127 (by omega)) (by decide) (by omega)), ((hS23.ggB k127 (((hB23.gne k104 (by omega)).g0 k107).g0 k126) (by decide) (by omega)).ggB k128 (((hB24.g0 k107).g0 k126).gne k127 (by omega)) (by decide) (by omega)), ((hS24.ggB k127 (((hB23.gne k104 (by omega)).g0 k107).g0 k126) (by decide) (by omega)).ggB k128 (((hB24.g0 k107).g0 k126).gne k127 (by omega)) (by decide) (by omega))⟩ (by exact ⟨rfl, rfl, rfl, rfl, rfl, rfl, rfl, rfl, rfl, rfl, rfl, rfl, rfl, rfl, rfl, rfl, rfl, rfl, rfl, rfl, rfl, rfl, rfl, rfl, rfl, rfl, rfl, rfl, rfl, rfl, rfl, rfl, rfl, rfl, rfl, rfl, rfl, rfl, trivial⟩)
  rintro ⟨jA2, pjA2, jB2, pjB2⟩ w130 ⟨hb117, hjA2, hjB2, hbjA2, hbjB2, hkjy, hbjy0, hbjy1, hbjy2, hbjy3, hbjy4, hbjy5, hbjy6, hsjy0_2, hsjy0_4, hsjy0_6, hsjy0_8, hsjy1_2, hsjy1_4, hsjy1_6, hsjy1_8, hsjy2_1, hsjy2_3, hsjy3_1, hsjy4_1, hsjy5_1, hsjy6_1⟩
  dsimp only at *
  have hz36 := hb117.size
  have hbjy0l := hbjy0.lt
  have hbjy1l := hbjy1.lt
  have hbjy2l := hbjy2.lt
  have hbjy3l := hbjy3.lt
  have hbjy4l := hbjy4.lt
  have hbjy5l := hbjy5.lt
  have hbjy6l := hbjy6.lt
  refine w_drawDT 13 (fun a b => a.grownBy b (some g)) (fun a b => a.grownBy b none) (fun a b => a.grownBy b (some g)) [(some 51, Is <| .pointer (some ⟨g, 0, none⟩)), (some 52, Is <| .int .i64 1), (some 53, Is <| .pointer (some ⟨g, 0, none⟩)), (some 54, Is <| .int .i64 1), (some 55, Is <| .agg [.bool (decide (jA2 < 0)), pjA2].toArray), (some 56, Is <| .agg [.bool (decide (jB2 < 0)), pjB2].toArray), (some 57, Is <| .pointer (some ⟨g, 0, none⟩)), (some 58, Is <| .pointer (some ⟨g, 0 + 1, none⟩)), (some 59, Is <| .pointer (some ⟨g, 0 + 1 + (1 : Int).toNat * 2, none⟩)), (none, fun _ W => Blk W g 72 ([.bool s.some, .bool (decide (jA1 < 0)), pjA1, .bool (decide (jA2 < 0)), pjA2, .bool (decide (jB1 < 0)), pjB1, .bool (decide (s.ty < 0)), uty] : List Value).toArray), (some 60, Is <| .pointer (some ⟨g, 0, none⟩)), (some 61, Is <| .pointer (some ⟨g, 0 + 5, none⟩)), (some 62, Is <| .pointer (some ⟨g, 0 + 5 + (1 : Int).toNat * 2, none⟩))] [[], [], [], [], [], [], [0], [6], [1, 7], [4, 8], [2], [10], [3, 11]] [[], [], [], [], [], [], [0], [0, 6], [0, 1, 4, 6, 7], [0, 1, 4, 6, 7, 8], [2], [2, 10], [0, 1, 2, 3, 4, 5, 6, 7, 8, 9, 10, 11]] [[], [], [], [], [], [], [], [], [], [], [], [], []] [false, false, false, false, false, false, false, false, false, true, false, false, false] [true, true, true, true, true, true, true, true, true, false, true, true, true] [true, true, false, false, true, false, true, true, true, true, false, false, false] [(0, .pointer (some ⟨g, 0, none⟩)), (4, .pointer (some ⟨g1, 0, none⟩)), (5, .pointer (some ⟨g2, 0, none⟩)), (6, .int .i64 1), (7, .pointer (some ⟨g13, 0, none⟩)), (8, .pointer (some ⟨g14, 0, none⟩)), (12, .int .i64 1), (13, .bool true), (14, .int .i64 1), (15, .int .i64 1), (16, .pointer (some ⟨g1, 0 + 1, none⟩)), (17, .pointer (some ⟨g1, 0 + 1 + (1 : Int).toNat * 2, none⟩)), (18, .agg [.bool (decide (t.fy < 0)), vfy].toArray), (19, .int .i64 1), (20, .pointer (some ⟨g2, 0 + (1 : Int).toNat * 2, none⟩)), (21, .agg [.bool (decide (b < 0)), pb].toArray), (22, .agg [.bool (decide ((t.fy + b) < 0)), v17].toArray), (23, .int .i64 1), (24, .pointer (some ⟨g1, 0 + 5, none⟩)), (25, .pointer (some ⟨g1, 0 + 5 + (1 : Int).toNat * 2, none⟩)), (26, .agg [.bool (decide (t.ty < 0)), vty].toArray), (27, .int .i64 1), (28, .pointer (some ⟨g2, 0 + (1 : Int).toNat * 2, none⟩)), (29, .agg [.bool (decide (b < 0)), pb].toArray), (30, .agg [.bool (decide ((t.ty + b) < 0)), v18].toArray), (63, .int .i64 1)] (by exact ⟨rfl, rfl, rfl, rfl, rfl, rfl, rfl, rfl, rfl, rfl, rfl, rfl, rfl, rfl, rfl, rfl, rfl, rfl, rfl, rfl, rfl, rfl, rfl, rfl, rfl, rfl, trivial⟩) (by kernel_rfl) (by kernel_rfl) (by kernel_rfl) rfl (grown_some_refl g) grown_some_trans (fun _ _ h => grown_none_row h) (fun _ _ h => h) ⟨kv, kv, kv, kv, kv, kv, kv, kv, kv, kv, kv, kv, kv, kv, kv, kv, kv, kv, fun _ _ _ h k => h.g0 k, kv, kv, kv, kv, kv, kv, trivial⟩ grown_none_refl (fun _ _ _ => grown_none_trans) rfl ?_
  intro w132 k130 hs28
  have hb118 := below_g0 hb117 k130
  refine ⟨⟨?_, ?_, ?_, ?_, ?_, ?_, ?_, ?_, ?_, ?_, ?_, ?_, ?_, trivial⟩, ?_⟩
  · intro w133 k131
    have hb119 := below_g0 hb118 k131
    have hz37 := hb119.size
    refine op1 (s_move rfl ?_)
    exact ⟨rfl, grown_none_refl _⟩
  · intro w134 k132
    have hb120 := below_g0 hb118 k132
    have hz38 := hb120.size
    refine op1 (s_move rfl ?_)
    exact ⟨rfl, grown_none_refl _⟩
  · intro w135 k133
    have hb121 := below_g hb118 k133 (by first | omega | (have h9 := (hb118).size; omega))
    have hz39 := hb121.size
    refine op1 (s_move rfl ?_)
    exact ⟨rfl, grown_none_refl _⟩
  · intro w136 k134
    have hb122 := below_g hb118 k134 (by first | omega | (have h9 := (hb118).size; omega))
    have hz40 := hb122.size
    refine op1 (s_move rfl ?_)
    exact ⟨rfl, grown_none_refl _⟩
  · intro w137 k135
    have hb123 := below_g0 hb118 k135
    have hz41 := hb123.size
    refine op1 (s_loadW row31 rfl ((hbjy5.g0 k130).g0 k135).range rfl ?_)
    exact ⟨rfl, grown_none_refl _⟩
  · intro w138 k136
    have hb124 := below_g hb118 k136 (by first | omega | (have h9 := (hb118).size; omega))
    have hz42 := hb124.size
    refine op1 (s_loadW row31 rfl ((hbjy6.g0 k130).gne k136 (by omega)).range rfl ?_)
    exact ⟨rfl, grown_none_refl _⟩
  · intro w139 k137
    have hb125 := below_g0 hb118 k137
    have hz43 := hb125.size
    rintro _ rfl
    refine op1 (s_nilp rfl ?_)
    exact ⟨rfl, grown_none_refl _⟩
  · intro w140 k138
    have hb126 := below_g0 hb118 k138
    have hz44 := hb126.size
    rintro _ rfl
    refine op1 (s_faddr fld72_1 rfl ?_)
    exact ⟨rfl, grown_none_refl _⟩
  · intro w141 k139
    have hb127 := below_g0 hb118 k139
    have hz45 := hb127.size
    rintro _ rfl _ rfl
    refine op1 (s_iaddr arr70 rfl rfl (by omega) (by omega) ?_)
    exact ⟨rfl, grown_none_refl _⟩
  · intro w142 k140
    have hb128 := below_g0 hb118 k140
    have hz46 := hb128.size
    rintro _ rfl _ rfl
    refine op1 (s_storeP (o := 3) row31 rfl rfl ((hbjy0.g0 k130).g0 k140) (by simp only [List.all_cons, List.all_nil, hsjy5_1.one, Bool.and_true, Bool.and_self] <;> rfl) rfl rfl (of_decide_eq_true rfl) ?_)
    intro w143 hB28 k141 hs29
    change Blk w143 g 72 [.bool s.some, .bool (decide (jA1 < 0)), pjA1, .bool (decide (jA2 < 0)), pjA2, .bool (decide (jB1 < 0)), pjB1, .bool (decide (s.ty < 0)), uty].toArray at hB28
    exact ⟨hB28, k141⟩
  · intro w144 k142
    have hb130 := below_g hb118 k142 (by first | omega | (have h9 := (hb118).size; omega))
    have hz47 := hb130.size
    rintro _ rfl
    refine op1 (s_nilp rfl ?_)
    exact ⟨rfl, grown_none_refl _⟩
  · intro w145 k143
    have hb131 := below_g hb118 k143 (by first | omega | (have h9 := (hb118).size; omega))
    have hz48 := hb131.size
    rintro _ rfl
    refine op1 (s_faddr fld72_2 rfl ?_)
    exact ⟨rfl, grown_none_refl _⟩
  · intro w146 k144
    have hb132 := below_g hb118 k144 (by first | omega | (have h9 := (hb118).size; omega))
    have hz49 := hb132.size
    rintro _ rfl _ rfl
    refine op1 (s_iaddr arr70 rfl rfl (by omega) (by omega) ?_)
    exact ⟨rfl, grown_none_refl _⟩
  rintro w147 k145 _ rfl _ rfl _ rfl _ rfl _ rfl _ rfl _ rfl _ rfl _ rfl v_ hB29 _ rfl _ rfl _ rfl
  have hb133 := below_g hb118 k145 (by first | omega | (have h9 := (hb118).size; omega))
  have hz50 := hb133.size
  refine st0 (s_storeP (o := 7) row31 rfl rfl hB29 (by simp only [List.all_cons, List.all_nil, hsjy6_1.one, Bool.and_true, Bool.and_self] <;> rfl) rfl rfl (of_decide_eq_true rfl) ?_)
  intro w148 hB30 k146 hs30
  change Blk w148 g 72 [.bool s.some, .bool (decide (jA1 < 0)), pjA1, .bool (decide (jA2 < 0)), pjA2, .bool (decide (jB1 < 0)), pjB1, .bool (decide (jB2 < 0)), pjB2].toArray at hB30
  refine r_end (n_block (n_then (w_region (st (s_addl (c := 2) rfl rfl rfl (by decide) (st (s_move rfl (r_end ?_))))))))
  refine n_again (w_seq (w_region (st (s_lt rfl rfl ?_))))
  rw [show decide ((2 : Int) < 2) = false from rfl]
  refine r_end (n_then (w_seq (w_condF rfl (w_exit' (n_then_exit (n_then_exit ?_))))))
  refine n_block_exit (n_then (w_region (st (s_move rfl (st (s_nilp rfl (st (s_faddr fld72_0 rfl (st0 (s_store one4 rfl rfl rfl hB30 (of_decide_eq_true rfl) ?_))))))))))
  intro w149 hB31 k147 hs31
  refine r_end (n_end0 (fn := Try.f75) rfl ?_)
  have q0 : w.grownBy w149 (some g) := (kj_own (kj_own (kj_own (kj_none hkjy k130) k145) k146) k147)
  have q1 := hB31
  have q2 := ((((hsjy0_2.gg0 k130).ggB k145 (hbjy0.g0 k130) (by decide) (by omega)).ggB k146 hB29 (by decide) (by omega)).ggB k147 hB30 (by decide) (by omega))
  have q3 := ((((hsjy5_1.gg0 k130).ggB k145 (hbjy0.g0 k130) (by decide) (by omega)).ggB k146 hB29 (by decide) (by omega)).ggB k147 hB30 (by decide) (by omega))
  have q4 := ((((hsjy0_6.gg0 k130).ggB k145 (hbjy0.g0 k130) (by decide) (by omega)).ggB k146 hB29 (by decide) (by omega)).ggB k147 hB30 (by decide) (by omega))
  have q5 := ((((hsjy6_1.gg0 k130).ggB k145 (hbjy0.g0 k130) (by decide) (by omega)).ggB k146 hB29 (by decide) (by omega)).ggB k147 hB30 (by decide) (by omega))
  have e : joinS s t a b = ⟨true, jA1, jA2, jB1, jB2⟩ := by unfold joinS; rw [show t.some = true by simpa using h1, hjA1, hjA2, hjB1, hjB2]; rfl
  rw [e]
  exact ⟨_, rfl, rfl, q0, _, _, _, _, q1, q2, q3, q4, q5⟩
end Go.Proofs.Ytfljelnfjbbknaa.Lm

set_option maxRecDepth 20000
set_option linter.unusedSimpArgs false
set_option linter.unusedVariables false
namespace Go.Proofs.Ytfljelnfjbbknaa.Lm
open Go.RowKit Go.Gw
set_option maxHeartbeats 1000000 in
theorem spans_any {w : World} {F : Nat → Prop} {va : Value} {l : List Nd} {n0 : Nat} (hn0 : n0 ≤ w.heap.size) (hl : Sl Kd.node w F va l) (hl_ok : looseB l = true) (hll : l.length ≤ 100000) :
    Calls Try.prog 41 [va].toArray w (Pure w fun v W => Gw.Own (Kd.span 83 n0) 72 w.heap.size W (fun _ => False) v (spansL l)) := by
  have hb0 := Below.refl w.heap.size w
  have hln1 := hl.lenle
  refine enter Try.func41 rfl rfl (w_seq (w_region (st (s_assign rfl (r_end (n_then (w_seq ?_)))))))
  refine w_region (st (s_call fn49 rfl (of_any (n0 := n0) (below_n0 hn0 hb0) (by omega)) ?_))
  rintro _ w1 ⟨hq1, v1, rfl, hS1⟩
  have k1 := grown_of_below hq1 none
  have hz1 := hq1.size
  have hb1 := below_g0 hb0 k1
  have hz2 := hb1.size
  refine st (s_call fn49 rfl (of_any (n0 := n0) (below_n0 hn0 hb1) (by omega)) ?_)
  rintro _ w2 ⟨hq2, v2, rfl, hS2⟩
  have k2 := grown_of_below hq2 none
  have hz3 := hq2.size
  have hb2 := below_g0 hb1 k2
  have hz4 := hb2.size
  refine st (s_build (ps := [(0, .tmp 12), (1, .tmp 13)]) (ccs := [#[.bool (decide ((1 : Int) < 0)), v1], #[.bool (decide ((1 : Int) < 0)), v2]]) (cells := [.bool (decide ((1 : Int) < 0)), v1, .bool (decide ((1 : Int) < 0)), v2]) rfl rfl (by kernel_rfl) (st (s_build (ps := [(0, .const (.bool true)), (2, .tmp 14)]) (ccs := [#[.bool true], #[.bool (decide ((1 : Int) < 0)), v1, .bool (decide ((1 : Int) < 0)), v2]]) (cells := [.bool true, .bool false, .slice none 0 0, .bool false, .slice none 0 0, .bool (decide ((1 : Int) < 0)), v1, .bool (decide ((1 : Int) < 0)), v2]) rfl rfl (by kernel_rfl) (st (s_alloc zero72 ?_)))))
  intro g1 w3 hg1 hB1 k3 hs1
  have hz5 := hb2.size
  have hb3 := below_g0 hb2 k3
  refine st0 (s_storeN row72 rfl rfl hB1 (by simp only [List.all_cons, List.all_nil, hS1.one, hS2.one, Bool.and_true, Bool.and_self] <;> rfl) rfl rfl ?_)
  intro w4 hB2 k4 hs2
  have hb4 := below_g hb3 k4 (by first | omega | (have h9 := (hb3).size; omega))
  refine r_end (n_then (w_seq (w_region (st (s_move rfl (st (s_len sl22 rfl (hl.at0 hb4) (st (s_add rfl rfl (by omega) ?_)))))))))
  refine st (s_makeC (K := (Kd.span 83 n0)) (base := w4.heap.size) (F := fun _ => False) sl73 rfl rfl (by omega) (by omega) (by omega) (by omega) (fun w F => span_zero _ _ w F) (Nat.le_refl _) (fun _ h => h.elim) ?_)
  intro v3 w5 hO1 k5
  have hn1 := own_fresh hO1 (g := g1) (by have := hB2.lt; omega)
  have hO2 := hO1.rebase (b' := w.heap.size) (by omega)
  have hb5 := below_g0 hb4 k5
  have hz6 := hb5.size
  refine st (s_assign rfl (r_end (n_then (w_seq (w_seq (w_region (st (s_move rfl ?_))))))))
  refine st (s_len sl22 rfl (hl.at0 hb5) (st (s_move rfl (r_end (n_then (w_block ?_))))))
  refine w_loop (α := Int × Value × List Spn) (fun ((i, vo, os) : Int × Value × List Spn) => [(2, .slice none 0 0), (3, .pointer (some ⟨g1, 0, none⟩)), (4, vo), (20, va), (21, .int .i64 (l.length : Int)), (22, .int .i64 i)]) (fun ((i, vo, os) : Int × Value × List Spn) W => Below w.heap.size w W ∧ (0 ≤ i ∧ i ≤ l.length) ∧ (Gw.Own (Kd.span 83 n0) 72 w.heap.size W (fun _ => False) vo os) ∧ ((os.length : Int) = i + 1) ∧ (∀ j : Int, 0 ≤ j → j ≤ i → ix os j = spn (tr l j)) ∧ (Blk W g1 72 [.bool true, .bool false, .slice none 0 0, .bool false, .slice none 0 0, .bool (decide ((1 : Int) < 0)), v1, .bool (decide ((1 : Int) < 0)), v2].toArray) ∧ (vo.ownBlock ≠ some g1) ∧ (Sl Kd.u32 W (G 83 n0 W) v1 (ml (1 : Int))) ∧ (Sl Kd.u32 W (G 83 n0 W) v2 (ml (1 : Int)))) (fun ((i, vo, os) : Int × Value × List Spn) => (l.length - i).toNat) ((0), (v3), (List.replicate (1 : Int).toNat ⟨false, 0, 0, 0, 0⟩)) ⟨hb5, by omega, hO2, rfl, fun j j0 j1 => by rw [show j = 0 by omega, tr_zero]; rfl, (hB2.g0 k5), hn1, ((((hS1.gg0 k2).gg0 k3).ggB k4 hB1 (by decide) (by omega)).gg0 k5), (((hS2.gg0 k3).ggB k4 hB1 (by decide) (by omega)).gg0 k5)⟩ (by exact ⟨rfl, rfl, rfl, rfl, rfl, rfl, trivial⟩) ?_
  rintro ⟨i, vo, os⟩ w6 ⟨hb6, hi, hO, hol, hos, hone, hnv, ho0, ho1⟩
  dsimp only at *
  have hz7 := hb6.size
  have hg1l := hone.lt
  refine w_seq (w_region (st (s_lt rfl rfl (r_end (n_then (w_seq ?_))))))
  refine w_condP rfl (fun h1 => ?_) (fun h1 => ?_)
  rotate_left
  · refine w_exit' (n_then_exit (n_then_exit (n_block_exit (n_then (w_seq (w_region ?_))))))
    refine st (s_move rfl (st (s_assign rfl (r_end (n_then (w_ret1 rfl rfl ?_))))))
    rw [← spans_eq (os := os) (by omega) (fun j j0 j1 => hos j j0 (by omega))]
    exact ⟨_, rfl, hb6, hO⟩
  have hlt := h1
  have hlv := lv_in hl_ok hi.1 hlt
  refine w_skip' (n_then (w_seq (w_block (w_seq (w_region (st (s_idx sl22 rfl rfl (hl.at0 hb6) (by omega) (by omega) ?_)))))))
  rintro b1 o1 _ ⟨rfl, _⟩ hc1 hF1 hlt1
  have hl_1 := Loc.lt hF1
  refine st (s_loadW row101 rfl hc1 rfl ?_)
  have hlt_1 := (hone).lt
  refine st (s_alloc zero101 ?_)
  intro g2 w7 hg2 hB3 k6 hs3
  have hz8 := hb6.size
  have hb7 := below_g0 hb6 k6
  have hO3 := hO.g0 k6
  refine st0 (s_storeN row101 rfl rfl hB3 rfl rfl rfl ?_)
  intro w8 hB4 k7 hs4
  have hb8 := below_g hb7 k7 (by first | omega | (have h9 := (hb7).size; omega))
  have hO4 := Own.keptG (span_gk 83 n0) hO3 k7 (Blk.isG hB3 (by decide) (by omega)) (hO3.neB hB3 (by decide))
  refine r_end (n_then (w_seq (w_region (st (s_faddr fld101_0 rfl (st (s_load one3 rfl hB4.range (j := 0) rfl (st (s_sub rfl rfl (by omega) ?_)))))))))
  refine st (s_call fn42 rfl (bpow_any (n0 := n0) (below_n0 hn0 hb8)) ?_)
  rintro v5 w9 ⟨hq3, hv1⟩
  rw [show (shlN 1 ((ix l i).lv - 1)) = (hf (ix l i).lv) from (shl_hf hlv)] at hv1
  obtain ⟨v4, rfl, hS3⟩ := hv1
  have k8 := grown_of_below hq3 none
  have hz9 := hq3.size
  have hb9 := below_g0 hb8 k8
  have hz10 := hb9.size
  have hO5 := hO4.g0 k8
  have hlt_2 := ((((hone.g0 k6).gne k7 (by omega)).g0 k8)).lt
  have hlt_3 := ((hB4.g0 k8)).lt
  refine st (s_alloc zero31 ?_)
  intro g3 w10 hg3 hB5 k9 hs5
  have hz11 := hb9.size
  have hb10 := below_g0 hb9 k9
  have hO6 := hO5.g0 k9
  refine st0 (s_storeN row31 rfl rfl hB5 (by simp only [List.all_cons, List.all_nil, hS3.one, Bool.and_true, Bool.and_self] <;> rfl) rfl rfl ?_)
  intro w11 hB6 k10 hs6
  have hb11 := below_g hb10 k10 (by first | omega | (have h9 := (hb10).size; omega))
  have hO7 := Own.keptG (span_gk 83 n0) hO6 k10 (Blk.isG hB5 (by decide) (by omega)) (hO6.neB hB5 (by decide))
  refine r_end (n_then (w_seq (w_region ?_)))
  have hlt_4 := ((((((hone.g0 k6).gne k7 (by omega)).g0 k8).g0 k9).gne k10 (by omega))).lt
  have hlt_5 := ((((hB4.g0 k8).g0 k9).gne k10 (by omega))).lt
  have hlt_6 := (hB6).lt
  refine st (s_alloc zero72 ?_)
  intro g4 w12 hg4 hB7 k11 hs7
  have hz12 := hb11.size
  have hn2 := own_new hO7 hg4
  have hb12 := below_g0 hb11 k11
  have hO8 := hO7.g0 k11
  refine r_end (n_then (w_seq (w_seq (w_region (st (s_faddr fld101_1 rfl (st (s_loadN (us := [.int .i64 ((ix l i).k0), .int .i64 ((ix l i).k1), .int .i64 ((ix l i).k2), .int .i64 ((ix l i).k3)]) row99 rfl ((((hB4.g0 k8).g0 k9).gne k10 (by omega)).g0 k11).range (j := 1) rfl rfl ?_))))))))
  refine st (s_move rfl (r_end (n_then (w_block ?_))))
  refine w_loop (α := Int × Value × Value × Value × Value) (fun ((k, afx, afy, atx, aty) : Int × Value × Value × Value × Value) => [(2, .slice none 0 0), (3, .pointer (some ⟨g1, 0, none⟩)), (4, vo), (6, .pointer (some ⟨g2, 0, none⟩)), (7, .pointer (some ⟨g3, 0, none⟩)), (8, .pointer (some ⟨g4, 0, none⟩)), (20, va), (21, .int .i64 (l.length : Int)), (22, .int .i64 i), (31, .agg [.int .i64 ((ix l i).k0), .int .i64 ((ix l i).k1), .int .i64 ((ix l i).k2), .int .i64 ((ix l i).k3)].toArray), (32, .int .i64 k)]) (fun ((k, afx, afy, atx, aty) : Int × Value × Value × Value × Value) W => Below w.heap.size w W ∧ (0 ≤ k ∧ k ≤ 4) ∧ (Gw.Own (Kd.span 83 n0) 72 w.heap.size W (fun _ => False) vo os) ∧ (Blk W g1 72 [.bool true, .bool false, .slice none 0 0, .bool false, .slice none 0 0, .bool (decide ((1 : Int) < 0)), v1, .bool (decide ((1 : Int) < 0)), v2].toArray) ∧ (Sl Kd.u32 W (G 83 n0 W) v1 (ml (1 : Int))) ∧ (Sl Kd.u32 W (G 83 n0 W) v2 (ml (1 : Int))) ∧ (Blk W g2 101 [.int .i64 ((ix l i).lv), .int .i64 ((ix l i).k0), .int .i64 ((ix l i).k1), .int .i64 ((ix l i).k2), .int .i64 ((ix l i).k3)].toArray) ∧ (Blk W g3 31 [.bool (decide ((hf (ix l i).lv) < 0)), v4].toArray) ∧ (Sl Kd.u32 W (G 83 n0 W) v4 (ml (hf (ix l i).lv))) ∧ (Blk W g4 72 [.bool ((spK l (ix l i) k.toNat).some), .bool (decide ((spK l (ix l i) k.toNat).fx < 0)), afx, .bool (decide ((spK l (ix l i) k.toNat).fy < 0)), afy, .bool (decide ((spK l (ix l i) k.toNat).tx < 0)), atx, .bool (decide ((spK l (ix l i) k.toNat).ty < 0)), aty].toArray) ∧ (Sl Kd.u32 W (G 83 n0 W) afx (ml ((spK l (ix l i) k.toNat).fx))) ∧ (Sl Kd.u32 W (G 83 n0 W) afy (ml ((spK l (ix l i) k.toNat).fy))) ∧ (Sl Kd.u32 W (G 83 n0 W) atx (ml ((spK l (ix l i) k.toNat).tx))) ∧ (Sl Kd.u32 W (G 83 n0 W) aty (ml ((spK l (ix l i) k.toNat).ty)))) (fun ((k, afx, afy, atx, aty) : Int × Value × Value × Value × Value) => (4 - k).toNat) ((0), (.slice none 0 0), (.slice none 0 0), (.slice none 0 0), (.slice none 0 0)) ⟨hb12, by omega, hO8, ((((((hone.g0 k6).gne k7 (by omega)).g0 k8).g0 k9).gne k10 (by omega)).g0 k11), ((((((ho0.gg0 k6).ggB k7 hB3 (by decide) (by omega)).gg0 k8).gg0 k9).ggB k10 hB5 (by decide) (by omega)).gg0 k11), ((((((ho1.gg0 k6).ggB k7 hB3 (by decide) (by omega)).gg0 k8).gg0 k9).ggB k10 hB5 (by decide) (by omega)).gg0 k11), ((((hB4.g0 k8).g0 k9).gne k10 (by omega)).g0 k11), (hB6.g0 k11), (((hS3.gg0 k9).ggB k10 hB5 (by decide) (by omega)).gg0 k11), (by rw [show (0 : Int).toNat = 0 from rfl, spK_zero]; exact hB7), (by rw [show (0 : Int).toNat = 0 from rfl, spK_zero]; exact (show Sl Kd.u32 _ (G 83 n0 _) (.slice none 0 0) (ml 0) by rw [ml_zero]; exact nilG)), (by rw [show (0 : Int).toNat = 0 from rfl, spK_zero]; exact (show Sl Kd.u32 _ (G 83 n0 _) (.slice none 0 0) (ml 0) by rw [ml_zero]; exact nilG)), (by rw [show (0 : Int).toNat = 0 from rfl, spK_zero]; exact (show Sl Kd.u32 _ (G 83 n0 _) (.slice none 0 0) (ml 0) by rw [ml_zero]; exact nilG)), (by rw [show (0 : Int).toNat = 0 from rfl, spK_zero]; exact (show Sl Kd.u32 _ (G 83 n0 _) (.slice none 0 0) (ml 0) by rw [ml_zero]; exact nilG))⟩ (by exact ⟨rfl, rfl, rfl, rfl, rfl, rfl, rfl, rfl, rfl, rfl, rfl, trivial⟩) ?_
  rintro ⟨k, afx, afy, atx, aty⟩ w13 ⟨hb13, hk, hOk, honek, ho0k, ho1k, hnk, hhk, hhalf, hsk, hafx, hafy, hatx, haty⟩
  dsimp only at *
  have hz13 := hb13.size
  have hl1k := honek.lt
  have hl2k := hnk.lt
  have hl3k := hhk.lt
  have hl4k := hsk.lt
  refine w_seq (w_region (st (s_lt rfl rfl (r_end (n_then (w_seq ?_))))))
  refine w_condP rfl (fun h2 => ?_) (fun h2 => ?_)
  rotate_left
  · refine w_exit' (n_then_exit (n_then_exit (n_block_exit (n_then (w_region (st (s_move rfl ?_)))))))
    refine st (s_loadW row72 rfl hsk.range rfl (st (s_bslice (ps := [(0, .tmp 64)]) (ccs := [#[.bool ((spK l (ix l i) k.toNat).some), .bool (decide ((spK l (ix l i) k.toNat).fx < 0)), afx, .bool (decide ((spK l (ix l i) k.toNat).fy < 0)), afy, .bool (decide ((spK l (ix l i) k.toNat).tx < 0)), atx, .bool (decide ((spK l (ix l i) k.toNat).ty < 0)), aty]]) (e := 72) (cells := [.bool ((spK l (ix l i) k.toNat).some), .bool (decide ((spK l (ix l i) k.toNat).fx < 0)), afx, .bool (decide ((spK l (ix l i) k.toNat).fy < 0)), afy, .bool (decide ((spK l (ix l i) k.toNat).tx < 0)), atx, .bool (decide ((spK l (ix l i) k.toNat).ty < 0)), aty]) rfl rfl (by kernel_rfl) (by decide) nz72 ?_)))
    intro g6 w28 hg6 hB13 k24 hs12
    have hb28 := below_g0 hb13 k24
    have hz21 := hb28.size
    have hO21 := hOk.g0 k24
    refine st (s_append (K := (Kd.span 83 n0)) sl73 rfl rfl hO21 (lit_span (x := (spK l (ix l i) k.toNat)) hB13 (hafx.gg0 k24) (hafy.gg0 k24) (hatx.gg0 k24) (haty.gg0 k24) hO21 (own_new hOk hg6) (by decide) hn0) (span_gk 83 n0).ones (by simp; omega) (by simp; omega) (by first | exact Nat.le_refl _ | omega) (fun _ h => h.elim) ?_)
    intro v14 w29 hO22 k25 hr3
    have hn3 := own_app hnv hr3 (by have := (honek.g0 k24).lt; omega)
    have hn4 := own_app hn2 hr3 (by have := (hsk.g0 k24).lt; omega)
    have hb29 := hb28.grown k25 hb28.size (fun k_ hk_ => (hO21.lt k_ hk_).1)
    have hz22 := hb29.size
    refine st (s_assign rfl (r_end (n_block (n_then (w_region (st (s_add rfl rfl (by omega) (st (s_move rfl ?_)))))))))
    refine r_end ?_
    exact n_round (((i + 1)), (v14), (os ++ [(spK l (ix l i) k.toNat)])) ⟨hb29, by omega, hO22, by simp; omega, spans_snoc hi.1 hol hos (by rw [show k = 4 by omega]; have h9 := spK_four hl_ok (n := i + 1) (by omega) (by omega); rw [show i + 1 - 1 = i by omega] at h9; exact h9), ((honek.g0 k24).grown k25 (fun e => hnv e.symm)), hn3, ((ho0k.gg0 k24).ggO k25 hO21 (by decide) hn0), ((ho1k.gg0 k24).ggO k25 hO21 (by decide) hn0)⟩ (by dsimp only; omega) (by exact ⟨rfl, rfl, rfl, rfl, rfl, rfl, trivial⟩)
  refine w_skip' (n_then (w_seq (w_block (w_seq (w_region (st (s_move rfl ?_)))))))
  refine st (s_iarr4 arr99 one3 rfl rfl (by omega) (by omega) (st (s_assign rfl (st (s_assign rfl (r_end (n_then (w_seq (w_region ?_)))))))))
  have hlt_7 := (honek).lt
  have hlt_8 := (hnk).lt
  have hlt_9 := (hhk).lt
  have hlt_10 := (hsk).lt
  refine st (s_alloc zero70 ?_)
  intro g5 w14 hg5 hB8 k12 hs8
  have hz14 := hb13.size
  have hb14 := below_g0 hb13 k12
  have hO9 := hOk.g0 k12
  refine r_end (n_then ?_)
  refine w_cut (α := Int × Value) (fun ((A, pA) : Int × Value) => [(2, .slice none 0 0), (3, .pointer (some ⟨g1, 0, none⟩)), (4, vo), (6, .pointer (some ⟨g2, 0, none⟩)), (7, .pointer (some ⟨g3, 0, none⟩)), (8, .pointer (some ⟨g4, 0, none⟩)), (9, .int .i64 k), (10, .int .i64 (sel4 ((ix l i).k0) ((ix l i).k1) ((ix l i).k2) ((ix l i).k3) k)), (11, .pointer (some ⟨g5, 0, none⟩)), (20, va), (21, .int .i64 (l.length : Int)), (22, .int .i64 i), (31, .agg [.int .i64 ((ix l i).k0), .int .i64 ((ix l i).k1), .int .i64 ((ix l i).k2), .int .i64 ((ix l i).k3)].toArray), (32, .int .i64 k)]) (fun ((A, pA)) W => Below w.heap.size w W ∧ (A = if fX k then hf (ix l i).lv else 0) ∧ (Bd 42 A) ∧ (Gw.Own (Kd.span 83 n0) 72 w.heap.size W (fun _ => False) vo os) ∧ (vo.ownBlock ≠ some g1) ∧ (vo.ownBlock ≠ some g4) ∧ (Blk W g1 72 [.bool true, .bool false, .slice none 0 0, .bool false, .slice none 0 0, .bool (decide ((1 : Int) < 0)), v1, .bool (decide ((1 : Int) < 0)), v2].toArray) ∧ (Blk W g2 101 [.int .i64 ((ix l i).lv), .int .i64 ((ix l i).k0), .int .i64 ((ix l i).k1), .int .i64 ((ix l i).k2), .int .i64 ((ix l i).k3)].toArray) ∧ (Blk W g3 31 [.bool (decide ((hf (ix l i).lv) < 0)), v4].toArray) ∧ (Blk W g4 72 [.bool ((spK l (ix l i) k.toNat).some), .bool (decide ((spK l (ix l i) k.toNat).fx < 0)), afx, .bool (decide ((spK l (ix l i) k.toNat).fy < 0)), afy, .bool (decide ((spK l (ix l i) k.toNat).tx < 0)), atx, .bool (decide ((spK l (ix l i) k.toNat).ty < 0)), aty].toArray) ∧ (Blk W g5 70 [.bool (decide (A < 0)), pA, .bool false, .slice none 0 0].toArray) ∧ (Sl Kd.u32 W (G 83 n0 W) v1 (ml (1 : Int))) ∧ (Sl Kd.u32 W (G 83 n0 W) v2 (ml (1 : Int))) ∧ (Sl Kd.u32 W (G 83 n0 W) v4 (ml (hf (ix l i).lv))) ∧ (Sl Kd.u32 W (G 83 n0 W) afx (ml ((spK l (ix l i) k.toNat).fx))) ∧ (Sl Kd.u32 W (G 83 n0 W) afy (ml ((spK l (ix l i) k.toNat).fy))) ∧ (Sl Kd.u32 W (G 83 n0 W) atx (ml ((spK l (ix l i) k.toNat).tx))) ∧ (Sl Kd.u32 W (G 83 n0 W) aty (ml ((spK l (ix l i) k.toNat).ty))) ∧ (Sl Kd.u32 W (G 83 n0 W) pA (ml A))) ?_ ?_
  · refine w_seq (w_region (st (s_move rfl (st (s_andi rfl rfl (by omega) (by omega) (st (s_ne rfl rfl (r_end (n_then ?_)))))))))
    refine w_condP rfl (fun h3 => ?_) (fun h3 => ?_)
    rotate_left
    · refine w_skip' ?_
      exact n_meet ((0), (.slice none 0 0)) ⟨hb14, fX_no hk.1 (by omega) h3, (bd_zero 42), hO9, hnv, hn2, (honek.g0 k12), (hnk.g0 k12), (hhk.g0 k12), (hsk.g0 k12), hB8, (ho0k.gg0 k12), (ho1k.gg0 k12), (hhalf.gg0 k12), (hafx.gg0 k12), (hafy.gg0 k12), (hatx.gg0 k12), (haty.gg0 k12), (show Sl Kd.u32 _ (G 83 n0 _) (.slice none 0 0) (ml 0) by rw [ml_zero]; exact nilG)⟩ (by exact ⟨rfl, rfl, rfl, rfl, rfl, rfl, rfl, rfl, rfl, rfl, rfl, rfl, rfl, rfl, trivial⟩)
    refine w_region (st (s_loadW row31 rfl (hhk.g0 k12).range rfl (st (s_iaddr arr70 rfl rfl (by omega) (by omega) (st0 (s_storeP (o := 0) row31 rfl rfl hB8 (by simp only [List.all_cons, List.all_nil, hhalf.one, Bool.and_true, Bool.and_self] <;> rfl) rfl rfl (of_decide_eq_true rfl) ?_))))))
    intro w15 hB9 k13 hs9
    change Blk w15 g5 70 [.bool (decide ((hf (ix l i).lv) < 0)), v4, .bool false, .slice none 0 0].toArray at hB9
    have hb15 := below_g hb14 k13 (by first | omega | (have h9 := (hb14).size; omega))
    have hO10 := Own.keptG (span_gk 83 n0) hO9 k13 (Blk.isG hB8 (by decide) (by omega)) (hO9.neB hB8 (by decide))
    refine r_end ?_
    exact n_meet (((hf (ix l i).lv)), (v4)) ⟨hb15, fX_yes hk.1 (by omega) h3, (Bd.le (bd_hf hlv.2) (show 42 ≤ 42 by decide)), hO10, hnv, hn2, ((honek.g0 k12).gne k13 (by omega)), ((hnk.g0 k12).gne k13 (by omega)), ((hhk.g0 k12).gne k13 (by omega)), ((hsk.g0 k12).gne k13 (by omega)), hB9, ((ho0k.gg0 k12).ggB k13 hB8 (by decide) (by omega)), ((ho1k.gg0 k12).ggB k13 hB8 (by decide) (by omega)), ((hhalf.gg0 k12).ggB k13 hB8 (by decide) (by omega)), ((hafx.gg0 k12).ggB k13 hB8 (by decide) (by omega)), ((hafy.gg0 k12).ggB k13 hB8 (by decide) (by omega)), ((hatx.gg0 k12).ggB k13 hB8 (by decide) (by omega)), ((haty.gg0 k12).ggB k13 hB8 (by decide) (by omega)), ((hhalf.gg0 k12).ggB k13 hB8 (by decide) (by omega))⟩ (by exact ⟨rfl, rfl, rfl, rfl, rfl, rfl, rfl, rfl, rfl, rfl, rfl, rfl, rfl, rfl, trivial⟩)
  rintro ⟨A, pA⟩ w16 ⟨hb16, hA, hAb, hOxa, hnxa0, hnxa1, hbxa0, hbxa1, hbxa2, hbxa3, hbxa4, hsxa0_6, hsxa0_8, hsxa2_1, hsxa3_2, hsxa3_4, hsxa3_6, hsxa3_8, hsxa4_1⟩
  dsimp only at *
  have hz15 := hb16.size
  have hbxa0l := hbxa0.lt
  have hbxa1l := hbxa1.lt
  have hbxa2l := hbxa2.lt
  have hbxa3l := hbxa3.lt
  have hbxa4l := hbxa4.lt
  refine w_cut (α := Int × Value) (fun ((B, pB) : Int × Value) => [(2, .slice none 0 0), (3, .pointer (some ⟨g1, 0, none⟩)), (4, vo), (6, .pointer (some ⟨g2, 0, none⟩)), (7, .pointer (some ⟨g3, 0, none⟩)), (8, .pointer (some ⟨g4, 0, none⟩)), (10, .int .i64 (sel4 ((ix l i).k0) ((ix l i).k1) ((ix l i).k2) ((ix l i).k3) k)), (11, .pointer (some ⟨g5, 0, none⟩)), (20, va), (21, .int .i64 (l.length : Int)), (22, .int .i64 i), (31, .agg [.int .i64 ((ix l i).k0), .int .i64 ((ix l i).k1), .int .i64 ((ix l i).k2), .int .i64 ((ix l i).k3)].toArray), (32, .int .i64 k)]) (fun ((B, pB)) W => Below w.heap.size w W ∧ (B = if fY k then hf (ix l i).lv else 0) ∧ (Bd 42 B) ∧ (Gw.Own (Kd.span 83 n0) 72 w.heap.size W (fun _ => False) vo os) ∧ (vo.ownBlock ≠ some g1) ∧ (vo.ownBlock ≠ some g4) ∧ (Blk W g1 72 [.bool true, .bool false, .slice none 0 0, .bool false, .slice none 0 0, .bool (decide ((1 : Int) < 0)), v1, .bool (decide ((1 : Int) < 0)), v2].toArray) ∧ (Blk W g2 101 [.int .i64 ((ix l i).lv), .int .i64 ((ix l i).k0), .int .i64 ((ix l i).k1), .int .i64 ((ix l i).k2), .int .i64 ((ix l i).k3)].toArray) ∧ (Blk W g3 31 [.bool (decide ((hf (ix l i).lv) < 0)), v4].toArray) ∧ (Blk W g4 72 [.bool ((spK l (ix l i) k.toNat).some), .bool (decide ((spK l (ix l i) k.toNat).fx < 0)), afx, .bool (decide ((spK l (ix l i) k.toNat).fy < 0)), afy, .bool (decide ((spK l (ix l i) k.toNat).tx < 0)), atx, .bool (decide ((spK l (ix l i) k.toNat).ty < 0)), aty].toArray) ∧ (Blk W g5 70 [.bool (decide (A < 0)), pA, .bool (decide (B < 0)), pB].toArray) ∧ (Sl Kd.u32 W (G 83 n0 W) v1 (ml (1 : Int))) ∧ (Sl Kd.u32 W (G 83 n0 W) v2 (ml (1 : Int))) ∧ (Sl Kd.u32 W (G 83 n0 W) v4 (ml (hf (ix l i).lv))) ∧ (Sl Kd.u32 W (G 83 n0 W) afx (ml ((spK l (ix l i) k.toNat).fx))) ∧ (Sl Kd.u32 W (G 83 n0 W) afy (ml ((spK l (ix l i) k.toNat).fy))) ∧ (Sl Kd.u32 W (G 83 n0 W) atx (ml ((spK l (ix l i) k.toNat).tx))) ∧ (Sl Kd.u32 W (G 83 n0 W) aty (ml ((spK l (ix l i) k.toNat).ty))) ∧ (Sl Kd.u32 W (G 83 n0 W) pA (ml A)) ∧ (Sl Kd.u32 W (G 83 n0 W) pB (ml B))) ?_ ?_
  · refine w_seq (w_region (st (s_move rfl (st (s_andi rfl rfl (by omega) (by omega) (st (s_ne rfl rfl (r_end (n_then ?_)))))))))
    refine w_condP rfl (fun h4 => ?_) (fun h4 => ?_)
    rotate_left
    · refine w_skip' ?_
      exact n_meet ((0), (.slice none 0 0)) ⟨hb16, fY_no hk.1 (by omega) h4, (bd_zero 42), hOxa, hnxa0, hnxa1, hbxa0, hbxa1, hbxa2, hbxa3, hbxa4, hsxa0_6, hsxa0_8, hsxa2_1, hsxa3_2, hsxa3_4, hsxa3_6, hsxa3_8, hsxa4_1, (show Sl Kd.u32 _ (G 83 n0 _) (.slice none 0 0) (ml 0) by rw [ml_zero]; exact nilG)⟩ (by exact ⟨rfl, rfl, rfl, rfl, rfl, rfl, rfl, rfl, rfl, rfl, rfl, rfl, rfl, trivial⟩)
    refine w_region (st (s_loadW row31 rfl hbxa2.range rfl (st (s_iaddr arr70 rfl rfl (by omega) (by omega) (st0 (s_storeP (o := 2) row31 rfl rfl hbxa4 (by simp only [List.all_cons, List.all_nil, hsxa2_1.one, Bool.and_true, Bool.and_self] <;> rfl) rfl rfl (of_decide_eq_true rfl) ?_))))))
    intro w17 hB10 k14 hs10
    change Blk w17 g5 70 [.bool (decide (A < 0)), pA, .bool (decide ((hf (ix l i).lv) < 0)), v4].toArray at hB10
    have hb17 := below_g hb16 k14 (by first | omega | (have h9 := (hb16).size; omega))
    have hO11 := Own.keptG (span_gk 83 n0) hOxa k14 (Blk.isG hbxa4 (by decide) (by omega)) (hOxa.neB hbxa4 (by decide))
    refine r_end ?_
    exact n_meet (((hf (ix l i).lv)), (v4)) ⟨hb17, fY_yes hk.1 (by omega) h4, (Bd.le (bd_hf hlv.2) (show 42 ≤ 42 by decide)), hO11, hnxa0, hnxa1, (hbxa0.gne k14 (by omega)), (hbxa1.gne k14 (by omega)), (hbxa2.gne k14 (by omega)), (hbxa3.gne k14 (by omega)), hB10, (hsxa0_6.ggB k14 hbxa4 (by decide) (by omega)), (hsxa0_8.ggB k14 hbxa4 (by decide) (by omega)), (hsxa2_1.ggB k14 hbxa4 (by decide) (by omega)), (hsxa3_2.ggB k14 hbxa4 (by decide) (by omega)), (hsxa3_4.ggB k14 hbxa4 (by decide) (by omega)), (hsxa3_6.ggB k14 hbxa4 (by decide) (by omega)), (hsxa3_8.ggB k14 hbxa4 (by decide) (by omega)), (hsxa4_1.ggB k14 hbxa4 (by decide) (by omega)), (hsxa2_1.ggB k14 hbxa4 (by decide) (by omega))⟩ (by exact ⟨rfl, rfl, rfl, rfl, rfl, rfl, rfl, rfl, rfl, rfl, rfl, rfl, rfl, trivial⟩)
  rintro ⟨B, pB⟩ w18 ⟨hb18, hB, hBb, hOyb, hnyb0, hnyb1, hbyb0, hbyb1, hbyb2, hbyb3, hbyb4, hsyb0_6, hsyb0_8, hsyb2_1, hsyb3_2, hsyb3_4, hsyb3_6, hsyb3_8, hsyb4_1, hsyb4_3⟩
  dsimp only at *
  have hz16 := hb18.size
  have hbyb0l := hbyb0.lt
  have hbyb1l := hbyb1.lt
  have hbyb2l := hbyb2.lt
  have hbyb3l := hbyb3.lt
  have hbyb4l := hbyb4.lt
  refine w_block (w_seq (w_region (st (s_faddr fld101_0 rfl (st (s_load one3 rfl hbyb1.range (j := 0) rfl (st (s_gt rfl rfl (st (s_assign rfl ?_))))))))))
  refine r_end (n_then ?_)
  refine w_condP rfl (fun h5 => ?_) (fun h5 => ?_)
  rotate_left
  · refine w_seq (w_region (st (s_move rfl (st (s_gt rfl rfl (st (s_assign rfl (r_end (n_then ?_)))))))))
    refine w_condP rfl (fun h6 => ?_) (fun h6 => ?_)
    rotate_left
    · have hk1 := kid1_in hl_ok hi.1 hlt hk.1 (by omega) (by omega)
      refine w_skip' (n_block (n_block (n_then (w_region (st (s_add rfl rfl (by omega) (st (s_move rfl ?_))))))))
      refine r_end ?_
      exact n_round (((k + 1)), (afx), (afy), (atx), (aty)) ⟨hb18, by omega, hOyb, hbyb0, hsyb0_6, hsyb0_8, hbyb1, hbyb2, hsyb2_1, (by rw [← spK_noneI hk.1 (by omega) (by show sel4 _ _ _ _ _ = 0; have := hk1; unfold Nd.kid at this; omega)]; exact hbyb3), (by rw [← spK_noneI hk.1 (by omega) (by show sel4 _ _ _ _ _ = 0; have := hk1; unfold Nd.kid at this; omega)]; exact hsyb3_2), (by rw [← spK_noneI hk.1 (by omega) (by show sel4 _ _ _ _ _ = 0; have := hk1; unfold Nd.kid at this; omega)]; exact hsyb3_4), (by rw [← spK_noneI hk.1 (by omega) (by show sel4 _ _ _ _ _ = 0; have := hk1; unfold Nd.kid at this; omega)]; exact hsyb3_6), (by rw [← spK_noneI hk.1 (by omega) (by show sel4 _ _ _ _ _ = 0; have := hk1; unfold Nd.kid at this; omega)]; exact hsyb3_8)⟩ (by dsimp only; omega) (by exact ⟨rfl, rfl, rfl, rfl, rfl, rfl, rfl, rfl, rfl, rfl, rfl, trivial⟩)
    refine w_region (st (s_loadW row72 rfl hbyb0.range rfl (st (s_loadW row70 rfl hbyb4.range rfl (st (s_call fn75 rfl (join_any (s := (spK l (ix l i) k.toNat)) (t := (⟨true, 0, 0, 1, 1⟩ : Spn)) (a := A) (b := B) hn0 hb18 (by omega) hsyb3_2 hsyb3_4 hsyb3_6 hsyb3_8 (show Sl Kd.u32 _ (G 83 n0 _) (.slice none 0 0) (ml 0) by rw [ml_zero]; exact nilG) (show Sl Kd.u32 _ (G 83 n0 _) (.slice none 0 0) (ml 0) by rw [ml_zero]; exact nilG) hsyb0_6 hsyb0_8 hbyb3 hsyb4_1 hsyb4_3 (spK_bd hl_ok hi.1 hlt k.toNat (by omega)) one_bd (Bd.le hAb (show 42 ≤ 43 by decide)) (Bd.le hBb (show 42 ≤ 43 by decide))) ?_))))))
    rintro _ w27 ⟨rfl, k23, v10, v11, v12, v13, hB12, hS8, hS9, hS10, hS11⟩
    rw [show joinS (spK l (ix l i) k.toNat) (⟨true, 0, 0, 1, 1⟩ : Spn) A B = (spK l (ix l i) (k + 1).toNat) from spK_leafI hk.1 (by omega) (by show sel4 _ _ _ _ _ ≠ 0; omega) hA hB] at hB12 hS8 hS9 hS10 hS11
    have hz19 := k23.size
    have hb27 := below_g hb18 k23 (by first | omega | (have h9 := (hb18).size; omega))
    have hz20 := hb27.size
    have hO20 := Own.keptG (span_gk 83 n0) hOyb k23 (Blk.isG hbyb3 (by decide) (by omega)) hnyb1
    refine r_end (n_block (n_block (n_then (w_region (st (s_add rfl rfl (by omega) (st (s_move rfl ?_))))))))
    refine r_end ?_
    exact n_round (((k + 1)), (v10), (v11), (v12), (v13)) ⟨hb27, by omega, hO20, (hbyb0.gne k23 (by omega)), (hsyb0_6.ggB k23 hbyb3 (by decide) (by omega)), (hsyb0_8.ggB k23 hbyb3 (by decide) (by omega)), (hbyb1.gne k23 (by omega)), (hbyb2.gne k23 (by omega)), (hsyb2_1.ggB k23 hbyb3 (by decide) (by omega)), hB12, hS8, hS9, hS10, hS11⟩ (by dsimp only; omega) (by exact ⟨rfl, rfl, rfl, rfl, rfl, rfl, rfl, rfl, rfl, rfl, rfl, trivial⟩)
  have hkr := kid_rng hl_ok hi.1 hlt (by omega) k hk.1 (by omega)
  have hkr0 : 0 ≤ sel4 (ix l i).k0 (ix l i).k1 (ix l i).k2 (ix l i).k3 k ∧ sel4 (ix l i).k0 (ix l i).k1 (ix l i).k2 (ix l i).k3 k ≤ i := hkr
  obtain ⟨b2, o2, _, hat1, ⟨sp1, sp2, sp3, sp4, rfl, hsp1, hsp2, hsp3, hsp4⟩, hc2, hF2, hlt2⟩ := hOyb.sl.elem (sel4 ((ix l i).k0) ((ix l i).k1) ((ix l i).k2) ((ix l i).k3) k) (by omega) (by omega)
  replace hsp1 := hsp1.ofGF
  replace hsp2 := hsp2.ofGF
  replace hsp3 := hsp3.ofGF
  replace hsp4 := hsp4.ofGF
  refine w_drawT 5 (fun a b => a.grownBy b none) [(some 50, Is <| vo), (some 51, Is <| .int .i64 (sel4 ((ix l i).k0) ((ix l i).k1) ((ix l i).k2) ((ix l i).k3) k)), (some 52, Is <| .pointer (some ⟨b2, o2, none⟩)), (some 53, Is <| .agg [.bool ((ix os (sel4 ((ix l i).k0) ((ix l i).k1) ((ix l i).k2) ((ix l i).k3) k)).some), .bool (decide ((ix os (sel4 ((ix l i).k0) ((ix l i).k1) ((ix l i).k2) ((ix l i).k3) k)).fx < 0)), sp1, .bool (decide ((ix os (sel4 ((ix l i).k0) ((ix l i).k1) ((ix l i).k2) ((ix l i).k3) k)).fy < 0)), sp2, .bool (decide ((ix os (sel4 ((ix l i).k0) ((ix l i).k1) ((ix l i).k2) ((ix l i).k3) k)).tx < 0)), sp3, .bool (decide ((ix os (sel4 ((ix l i).k0) ((ix l i).k1) ((ix l i).k2) ((ix l i).k3) k)).ty < 0)), sp4].toArray), (some 54, Is <| .agg [.bool (decide (A < 0)), pA, .bool (decide (B < 0)), pB].toArray)] [[], [], [0, 1], [2], []] [(2, .slice none 0 0), (3, .pointer (some ⟨g1, 0, none⟩)), (4, vo), (6, .pointer (some ⟨g2, 0, none⟩)), (7, .pointer (some ⟨g3, 0, none⟩)), (8, .pointer (some ⟨g4, 0, none⟩)), (10, .int .i64 (sel4 ((ix l i).k0) ((ix l i).k1) ((ix l i).k2) ((ix l i).k3) k)), (11, .pointer (some ⟨g5, 0, none⟩)), (20, va), (21, .int .i64 (l.length : Int)), (22, .int .i64 i), (31, .agg [.int .i64 ((ix l i).k0), .int .i64 ((ix l i).k1), .int .i64 ((ix l i).k2), .int .i64 ((ix l i).k3)].toArray), (32, .int .i64 k)] (by exact ⟨rfl, rfl, rfl, rfl, rfl, rfl, rfl, rfl, rfl, rfl, rfl, rfl, rfl, trivial⟩) (by kernel_rfl) (by kernel_rfl) grown_none_refl (fun _ _ _ => grown_none_trans) ⟨kv, kv, kv, kv, kv, trivial⟩ ?_
  intro w19 k15 hs11
  have hb19 := below_g0 hb18 k15
  have hO12 := hOyb.g0 k15
  refine ⟨⟨?_, ?_, ?_, ?_, ?_, trivial⟩, ?_⟩
  · intro w20 k16
    refine op1 (s_move rfl ?_)
    exact ⟨rfl, grown_none_refl _⟩
  · intro w21 k17
    refine op1 (s_move rfl ?_)
    exact ⟨rfl, grown_none_refl _⟩
  · intro w22 k18
    intro v_ hv_; subst v_
    rintro _ rfl
    refine op1 (s_idxat sl73 rfl rfl hat1 ?_)
    exact ⟨rfl, grown_none_refl _⟩
  · intro w23 k19
    rintro _ rfl
    refine op1 (s_loadW row72 rfl (range_g0 (range_g0 hc2 k15) k19) rfl ?_)
    exact ⟨rfl, grown_none_refl _⟩
  · intro w24 k20
    refine op1 (s_loadW row70 rfl ((hbyb4.g0 k15).g0 k20).range rfl ?_)
    exact ⟨rfl, grown_none_refl _⟩
  intro w25 k21
  have hb25 := below_g0 hb19 k21
  have hO18 := hO12.g0 k21
  intro v_ hv_; subst v_
  rintro _ rfl _ rfl _ rfl _ rfl
  refine st (s_call fn75 rfl (join_any (s := (spK l (ix l i) k.toNat)) (t := (ix os (sel4 ((ix l i).k0) ((ix l i).k1) ((ix l i).k2) ((ix l i).k3) k))) (a := A) (b := B) hn0 hb25 (by omega) ((hsyb3_2.gg0 k15).gg0 k21) ((hsyb3_4.gg0 k15).gg0 k21) ((hsyb3_6.gg0 k15).gg0 k21) ((hsyb3_8.gg0 k15).gg0 k21) ((hsp1.gg0 k15).gg0 k21) ((hsp2.gg0 k15).gg0 k21) ((hsp3.gg0 k15).gg0 k21) ((hsp4.gg0 k15).gg0 k21) ((hbyb3.g0 k15).g0 k21) ((hsyb4_1.gg0 k15).gg0 k21) ((hsyb4_3.gg0 k15).gg0 k21) (spK_bd hl_ok hi.1 hlt k.toNat (by omega)) (by rw [hos _ hkr0.1 hkr0.2]; exact spn_bd hl_ok hkr0.1 (by omega)) (Bd.le hAb (show 42 ≤ 43 by decide)) (Bd.le hBb (show 42 ≤ 43 by decide))) ?_)
  rintro _ w26 ⟨rfl, k22, v6, v7, v8, v9, hB11, hS4, hS5, hS6, hS7⟩
  rw [show joinS (spK l (ix l i) k.toNat) (ix os (sel4 ((ix l i).k0) ((ix l i).k1) ((ix l i).k2) ((ix l i).k3) k)) A B = (spK l (ix l i) (k + 1).toNat) from spK_ndI hk.1 (by omega) hA hB (hos _ hkr0.1 hkr0.2)] at hB11 hS4 hS5 hS6 hS7
  have hz17 := k22.size
  have hb26 := below_g hb25 k22 (by first | omega | (have h9 := (hb25).size; omega))
  have hz18 := hb26.size
  have hO19 := Own.keptG (span_gk 83 n0) hO18 k22 (Blk.isG ((hbyb3.g0 k15).g0 k21) (by decide) (by omega)) hnyb1
  refine r_end (n_block (n_block (n_then (w_region (st (s_add rfl rfl (by omega) (st (s_move rfl ?_))))))))
  refine r_end ?_
  exact n_round (((k + 1)), (v6), (v7), (v8), (v9)) ⟨hb26, by omega, hO19, (((hbyb0.g0 k15).g0 k21).gne k22 (by omega)), (((hsyb0_6.gg0 k15).gg0 k21).ggB k22 ((hbyb3.g0 k15).g0 k21) (by decide) (by omega)), (((hsyb0_8.gg0 k15).gg0 k21).ggB k22 ((hbyb3.g0 k15).g0 k21) (by decide) (by omega)), (((hbyb1.g0 k15).g0 k21).gne k22 (by omega)), (((hbyb2.g0 k15).g0 k21).gne k22 (by omega)), (((hsyb2_1.gg0 k15).gg0 k21).ggB k22 ((hbyb3.g0 k15).g0 k21) (by decide) (by omega)), hB11, hS4, hS5, hS6, hS7⟩ (by dsimp only; omega) (by exact ⟨rfl, rfl, rfl, rfl, rfl, rfl, rfl, rfl, rfl, rfl, rfl, trivial⟩)
end Go.Proofs.Ytfljelnfjbbknaa.Lm
