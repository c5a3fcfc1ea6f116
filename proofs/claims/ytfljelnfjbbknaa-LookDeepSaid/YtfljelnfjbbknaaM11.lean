/- Part of the proof: a library for walks, plain laws, and functions' walks. -/
import Derived.Test.YtfljelnfjbbknaaM10
import Derived.Test.YtfljelnfjbbknaaM6
import Derived.Test.YtfljelnfjbbknaaM5
set_option linter.unusedSimpArgs false
set_option linter.unusedVariables false
/-! ### Quads in regions that draw; the look's fixed fact -/
namespace Go.Gw
open Go.RowKit
theorem Sl.nq {w : World} {F : Nat → Prop} {v : Value} {xs : List Nd} {t : Nat} (h : Sl Kd.node w F v xs) : Sl Kd.node w (fun g => BlkN w g t 1) v xs := by
  obtain ⟨A, c, e, h1, h2, h3⟩ := h
  refine ⟨A, c, e, h1, h2, fun i x hx => ?_⟩
  obtain ⟨g, o, us, ea, hg, hF, hr, hc⟩ := h3 i x hx
  refine ⟨g, o, us, ea, hg, ?_, hr, hc⟩
  rintro ⟨cs, hs, hB⟩
  have hu : us = x.cells := hr.1
  have h4 := hc 4 (.int .i64 x.k3) (by rw [hu]; rfl)
  have h5 : w.cell? ⟨g, o + i * Kd.node.sz + 4, Option.none⟩ = cs[o + i * Kd.node.sz + 4]? := hB.cell _
  rw [h5, Array.getElem?_eq_none (by omega)] at h4
  cases h4
section
variable {N t U n0 : Nat} {Q : World → Array Value → Prop} {a b : World}
theorem Rg.nodes (k : Rg N t 1 Q a b) {F : Nat → Prop} {v : Value} {xs : List Nd} (h : Sl Kd.node a F v xs) : Sl Kd.node b (fun _ => False) v xs :=
  (Sl.keep (h.nq (t := t)) (fun i hi hF => (k.block i hi).resolve_right (fun h => hF h.2.1))).weak (fun _ _ h => h.elim)
theorem nodes_sto {g : Nat} (hB : BlkN a g t 1) (k : a.grownBy b (some g)) {F : Nat → Prop} {v : Value} {xs : List Nd} (h : Sl Kd.node a F v xs) : Sl Kd.node b (fun _ => False) v xs :=
  (Sl.keep (h.nq (t := t)) (fun i hi hF => k.block i hi (by rintro ⟨⟩; exact hF hB))).weak (fun _ _ h => h.elim)
def QuadSl (xs : List Nd) (w : World) (cs : Array Value) : Prop := ∃ s, cs = [s].toArray ∧ Sl Kd.node w (fun _ => False) s xs
theorem quad_st {xs : List Nd} (a b : World) (cs : Array Value) (k : Rg N t 1 Q a b) (h : QuadSl xs a cs) : QuadSl xs b cs := by
  obtain ⟨s, rfl, h⟩ := h
  exact ⟨s, rfl, k.nodes h⟩
end
def Q8 : List Nd := (setQ [] 5 (-7) 9).1
theorem set8a : setQ [] 5 (-7) 9 = (Q8, 0) := Prod.ext rfl (by decide +kernel)
theorem set8b : setQ Q8 5 (-7) 0 = ([], 0) := by decide +kernel
theorem set8c : (setQ Q8 (hf 1329) (-7) 1).2 = 4 := by decide +kernel
theorem most8 : mostN Q8 = 9 := by decide +kernel
theorem len8 : Q8.length ≤ 100 := by decide +kernel
theorem can8 : Can Q8 := (set_ok can_nil_q (x := 5) (y := -7) (s := 9) ⟨by decide, by decide⟩ (by decide +kernel)).1
theorem get8 (X Y : Int) : celQ Q8 X Y = if X = 5 ∧ Y = -7 then 9 else celQ [] X Y := (set_ok can_nil_q (x := 5) (y := -7) (s := 9) ⟨by decide, by decide⟩ (by decide +kernel)).2 X Y
theorem get8a : celQ Q8 5 (-7) = 9 := by rw [get8]; rfl
theorem get8b : celQ Q8 (-7) 5 = 0 := by rw [get8]; rfl
theorem get8c : celQ [] 5 (-7) = 0 := rfl
theorem right8 : rightB Q8 = true := by decide +kernel
end Go.Gw

set_option maxRecDepth 20000
set_option linter.unusedSimpArgs false
set_option linter.unusedVariables false
namespace Go.Proofs.Ytfljelnfjbbknaa.Lm
open Go.RowKit Go.Gw
set_option maxHeartbeats 1000000 in
theorem alive8_any {w : World} {n0 : Nat} (hn0 : n0 ≤ w.heap.size)  :
    Calls Try.prog 25 [].toArray w (Pure w fun v _ => v = .bool true) := by
  have hb0 := Below.refl w.heap.size w
  refine enter Try.func25 rfl rfl (w_seq (w_region (st (s_assign rfl (r_end (n_then (w_seq ?_)))))))
  refine w_region (st (s_call fn20 rfl (rof2_any (n0 := n0) (below_n0 hn0 hb0) (by omega)) ?_))
  rintro _ w1 ⟨hq1, v1, rfl, hS1⟩
  have k1 := grown_of_below hq1 none
  have hz1 := hq1.size
  have hb1 := below_g0 hb0 k1
  have hz2 := hb1.size
  refine st (s_call fn20 rfl (rof2_any (n0 := n0) (below_n0 hn0 hb1) (by omega)) ?_)
  rintro _ w2 ⟨hq2, v2, rfl, hS2⟩
  have k2 := grown_of_below hq2 none
  have hz3 := hq2.size
  have hb2 := below_g0 hb1 k2
  have hz4 := hb2.size
  refine st (s_alloc zero31 ?_)
  intro g1 w3 hg1 hB1 k3 hs1
  have hz5 := hb2.size
  have hb3 := below_g0 hb2 k3
  have hlt_1 := (hB1).lt
  refine st (s_alloc zero31 ?_)
  intro g2 w4 hg2 hB2 k4 hs2
  have hz6 := hb3.size
  have hb4 := below_g0 hb3 k4
  refine st0 (s_storeN row31 rfl rfl (hB1.g0 k4) (by simp only [List.all_cons, List.all_nil, hS1.one, Bool.and_true, Bool.and_self] <;> rfl) rfl rfl ?_)
  intro w5 hB3 k5 hs3
  have hb5 := below_g hb4 k5 (by first | omega | (have h9 := (hb4).size; omega))
  refine st0 (s_storeN row31 rfl rfl (hB2.gne k5 (by omega)) (by simp only [List.all_cons, List.all_nil, hS2.one, Bool.and_true, Bool.and_self] <;> rfl) rfl rfl ?_)
  intro w6 hB4 k6 hs4
  have hb6 := below_g hb5 k6 (by first | omega | (have h9 := (hb5).size; omega))
  refine r_end (n_then (w_seq (w_region (st (s_build (ps := []) (ccs := []) (cells := [.slice none 0 0]) rfl rfl (by kernel_rfl) (st (s_loadW row31 rfl (hB3.gne k6 (by omega)).range rfl (st (s_loadW row31 rfl hB4.range rfl ?_)))))))))
  refine st (s_call fn28 rfl (set_any (x := (5 : Int)) (y := (-7 : Int)) (s := 9) (n0 := n0) (below_n0 hn0 hb6) ((Sl.nil0 (K := Kd.node) (F := fun _ => False)).at0 hb6) can_nil_q (by decide) (((((hS1.gg0 k2).gg0 k3).gg0 k4).ggB k5 (hB1.g0 k4) (by decide) (by omega)).ggB k6 (hB2.gne k5 (by omega)) (by decide) (by omega)) ((((hS2.gg0 k3).gg0 k4).ggB k5 (hB1.g0 k4) (by decide) (by omega)).ggB k6 (hB2.gne k5 (by omega)) (by decide) (by omega)) (Bd.le (bd_small (by omega)) (show 2 ≤ 50 by decide)) (Bd.le (bd_small (by omega)) (show 2 ≤ 50 by decide)) (by first | omega | decide)) ?_)
  rintro v_ w7 ⟨hq3, sv1, hv1, hS3⟩
  rw [set8a] at hv1 hS3
  subst hv1
  dsimp only at hS3
  have k7 := grown_of_below hq3 none
  have hz7 := hq3.size
  have hb7 := below_g0 hb6 k7
  have hz8 := hb7.size
  refine st (s_move rfl (st (s_extract rfl rfl (st (s_extract rfl rfl ?_)))))
  have hlt_2 := (((hB3.gne k6 (by omega)).g0 k7)).lt
  have hlt_3 := ((hB4.g0 k7)).lt
  refine st (s_alloc zero25 ?_)
  intro g3 w8 hg3 hB5 k8 hs5
  have hz9 := hb7.size
  have hb8 := below_g0 hb7 k8
  refine st0 (s_storeN row25 rfl rfl hB5 (by simp only [List.all_cons, List.all_nil, hS3.one, Bool.and_true, Bool.and_self] <;> rfl) rfl rfl ?_)
  intro w9 hB6 k9 hs6
  have hb9 := below_g hb8 k9 (by first | omega | (have h9 := (hb8).size; omega))
  refine st (s_assign rfl (r_end (n_then (w_seq (w_region (st (s_loadW row25 rfl hB6.range rfl (st (s_loadW row31 rfl ((((hB3.gne k6 (by omega)).g0 k7).g0 k8).gne k9 (by omega)).range rfl ?_)))))))))
  refine st (s_loadW row31 rfl (((hB4.g0 k7).g0 k8).gne k9 (by omega)).range rfl ?_)
  refine st (s_call fn28 rfl (set_any (x := (5 : Int)) (y := (-7 : Int)) (s := 0) (n0 := n0) (below_n0 hn0 hb9) (Sl.gSmall node_flat (hS3.g0 k8) k9 hB5 (by decide)) can8 (by have := len8; omega) ((((((((hS1.gg0 k2).gg0 k3).gg0 k4).ggB k5 (hB1.g0 k4) (by decide) (by omega)).ggB k6 (hB2.gne k5 (by omega)) (by decide) (by omega)).gg0 k7).gg0 k8).ggB k9 hB5 (by decide) (by omega)) (((((((hS2.gg0 k3).gg0 k4).ggB k5 (hB1.g0 k4) (by decide) (by omega)).ggB k6 (hB2.gne k5 (by omega)) (by decide) (by omega)).gg0 k7).gg0 k8).ggB k9 hB5 (by decide) (by omega)) (Bd.le (bd_small (by omega)) (show 2 ≤ 50 by decide)) (Bd.le (bd_small (by omega)) (show 2 ≤ 50 by decide)) (by first | omega | decide)) ?_)
  rintro v_ w10 ⟨hq4, sv2, hv2, hS4⟩
  rw [set8b] at hv2 hS4
  subst hv2
  dsimp only at hS4
  have k10 := grown_of_below hq4 none
  have hz10 := hq4.size
  have hb10 := below_g0 hb9 k10
  have hz11 := hb10.size
  refine st (s_move rfl (st (s_extract rfl rfl (st (s_extract rfl rfl ?_)))))
  have hlt_4 := ((((((hB3.gne k6 (by omega)).g0 k7).g0 k8).gne k9 (by omega)).g0 k10)).lt
  have hlt_5 := (((((hB4.g0 k7).g0 k8).gne k9 (by omega)).g0 k10)).lt
  have hlt_6 := ((hB6.g0 k10)).lt
  refine st (s_alloc zero25 ?_)
  intro g4 w11 hg4 hB7 k11 hs7
  have hz12 := hb10.size
  have hb11 := below_g0 hb10 k11
  refine st0 (s_storeN row25 rfl rfl hB7 (by simp only [List.all_cons, List.all_nil, hS4.one, Bool.and_true, Bool.and_self] <;> rfl) rfl rfl ?_)
  intro w12 hB8 k12 hs8
  have hb12 := below_g hb11 k12 (by first | omega | (have h9 := (hb11).size; omega))
  refine st (s_assign rfl (r_end (n_then (w_seq ?_))))
  refine w_drawS (dd := 7) (td := 7) (cs := [false, false, false, false, false, false, false, false, true]) (ψ := PtrG w12.heap.size 25 1 (QuadSl ((setQ Q8 (hf 1329) (-7 : Int) 1).1))) 9 (Rg w12.heap.size 25 1 (QuadSl ((setQ Q8 (hf 1329) (-7 : Int) 1).1))) [(some 26, Is <| .agg [sv1].toArray), (some 27, fun v W => IsBig 83 n0 W v ((hf 1329))), (some 28, Is <| .agg [.bool (decide ((-7 : Int) < 0)), v2].toArray), (some 29, fun v W => ∃ sv3 : Value, v = .tuple #[.agg [sv3].toArray, .int .i64 4] ∧ Sl Kd.node W (fun _ => False) sv3 ((setQ Q8 (hf 1329) (-7 : Int) 1).1)), (some 25, fun v W => ∃ sv3 : Value, v = .tuple #[.agg [sv3].toArray, .int .i64 4] ∧ Sl Kd.node W (fun _ => False) sv3 ((setQ Q8 (hf 1329) (-7 : Int) 1).1)), (some 30, fun v W => ∃ sv3 : Value, v = .agg [sv3].toArray ∧ Sl Kd.node W (fun _ => False) sv3 ((setQ Q8 (hf 1329) (-7 : Int) 1).1)), (some 31, Is <| .int .i64 4), (some 7, PtrN w12.heap.size 25 1), (none, fun _ _ => True)] [[], [], [], [0, 1, 2], [3], [4], [4], [], [7, 5]] [false, false, false, false, false, false, false, false, false] [(0, .bool false), (1, .pointer (some ⟨g1, 0, none⟩)), (2, .pointer (some ⟨g2, 0, none⟩)), (3, .pointer (some ⟨g3, 0, none⟩)), (4, .int .i64 0), (5, .pointer (some ⟨g4, 0, none⟩)), (6, .int .i64 0)] (by exact ⟨rfl, rfl, rfl, rfl, rfl, rfl, rfl, trivial⟩) (by kernel_rfl) (by kernel_rfl) Rg.refl (Rg.trans quad_st) ⟨fun _ _ _ h _ => h, fun _ _ _ h k => by obtain ⟨a, e, h⟩ := h; exact ⟨a, e, k.nums (by decide) (show n0 ≤ w12.heap.size by omega) h⟩, fun _ _ _ h _ => h, fun _ _ _ h k => by obtain ⟨sv3, e, h0⟩ := h; exact ⟨sv3, e, k.nodes h0⟩, fun _ _ _ h k => by obtain ⟨sv3, e, h0⟩ := h; exact ⟨sv3, e, k.nodes h0⟩, fun _ _ _ h k => by obtain ⟨sv3, e, h0⟩ := h; exact ⟨sv3, e, k.nodes h0⟩, fun _ _ _ h _ => h, PtrN.stG, fun _ _ _ h _ => h, trivial⟩ ⟨(fun h => by cases h), (fun h => by cases h), (fun h => by cases h), (fun h => by cases h), (fun h => by cases h), (fun h => by cases h), (fun h => by cases h), (fun h => by cases h), (fun h => by cases h), trivial⟩ rfl (fun i h _ => by rcases i with _ | _ | _ | _ | _ | _ | _ | _ | _ | i <;> simp at h ⊢) (PtrG.st quad_st) ⟨8, rfl, by decide⟩ ?_
  intro w17 k17 hs11
  have hb13 := below_g0 hb12 k17
  refine ⟨⟨?_, ?_, ?_, ?_, ?_, ?_, ?_, ?_, ?_, trivial⟩, ?_⟩
  · intro w18 k18r
    have k18 := Rg.grown k18r (by omega)
    refine op1 (s_loadW row25 rfl (((((hB6.g0 k10).g0 k11).gne k12 (by omega)).g0 k17).g0 k18).range rfl ?_)
    exact ⟨rfl, Rg.refl _, (fun h => by cases h), (fun h => by cases h)⟩
  · intro w19 k19r
    have k19 := Rg.grown k19r (by omega)
    have hb15 := below_g0 hb13 k19
    refine op1 (s_call fn47 rfl (rbpow_any (n0 := n0) (below_n0 hn0 hb15)) ?_)
    rintro v6 w20 ⟨hq7, hv5⟩
    rw [show (shlN 1 (1328 : Int)) = (hf 1329) from (shl_hf (v := 1329) (by decide))] at hv5
    obtain ⟨v5, rfl, hS7⟩ := hv5
    have k20 := grown_of_below hq7 none
    have hz13 := hq7.size
    have hb16 := below_g0 hb15 k20
    have hz14 := hb16.size
    exact ⟨⟨_, rfl, hS7⟩, Rg.of (k20), (fun h => by cases h), (fun h => by cases h)⟩
  · intro w21 k21r
    have k21 := Rg.grown k21r (by omega)
    refine op1 (s_loadW row31 rfl ((((((((hB4.g0 k7).g0 k8).gne k9 (by omega)).g0 k10).g0 k11).gne k12 (by omega)).g0 k17).g0 k21).range rfl ?_)
    exact ⟨rfl, Rg.refl _, (fun h => by cases h), (fun h => by cases h)⟩
  · intro w22 k22r
    have k22 := Rg.grown k22r (by omega)
    have hb18 := below_g0 hb13 k22
    rintro _ rfl _ ⟨v7, rfl, hS8⟩ _ rfl
    refine op1 (s_call fn28 rfl (set_any (x := (hf 1329)) (y := (-7 : Int)) (s := 1) (n0 := n0) (below_n0 hn0 hb18) (((Sl.gSmall node_flat (((Sl.gSmall node_flat (hS3.g0 k8) k9 hB5 (by decide)).g0 k10).g0 k11) k12 hB7 (by decide)).g0 k17).g0 k22) can8 (by have := len8; omega) hS8 ((((((((((((hS2.gg0 k3).gg0 k4).ggB k5 (hB1.g0 k4) (by decide) (by omega)).ggB k6 (hB2.gne k5 (by omega)) (by decide) (by omega)).gg0 k7).gg0 k8).ggB k9 hB5 (by decide) (by omega)).gg0 k10).gg0 k11).ggB k12 hB7 (by decide) (by omega)).gg0 k17).gg0 k22) (Bd.le (bd_hf (by decide)) (show 42 ≤ 50 by decide)) (Bd.le (bd_small (by omega)) (show 2 ≤ 50 by decide)) (by first | omega | decide)) ?_)
    rintro v_ w23 ⟨hq8, sv4, hv6, hS9⟩
    rw [set8c] at hv6
    subst hv6
    have k23 := grown_of_below hq8 none
    have hz15 := hq8.size
    have hb19 := below_g0 hb18 k23
    have hz16 := hb19.size
    exact ⟨⟨_, rfl, hS9⟩, Rg.of (k23), (fun h => by cases h), (fun h => by cases h)⟩
  · intro w24 k24r
    have k24 := Rg.grown k24r (by omega)
    rintro _ ⟨v8, rfl, hS10⟩
    refine op1 (s_move rfl ?_)
    exact ⟨⟨_, rfl, hS10⟩, Rg.refl _, (fun h => by cases h), (fun h => by cases h)⟩
  · intro w25 k25r
    have k25 := Rg.grown k25r (by omega)
    rintro _ ⟨v9, rfl, hS11⟩
    refine op1 (s_extract rfl rfl ?_)
    exact ⟨⟨_, rfl, hS11⟩, Rg.refl _, (fun h => by cases h), (fun h => by cases h)⟩
  · intro w26 k26r
    have k26 := Rg.grown k26r (by omega)
    rintro _ ⟨v10, rfl, hS12⟩
    refine op1 (s_extract rfl rfl ?_)
    exact ⟨rfl, Rg.refl _, (fun h => by cases h), (fun h => by cases h)⟩
  · intro w27 k27r
    have k27 := Rg.grown k27r (by omega)
    refine op1 (s_alloc zero25 ?_)
    intro g6 w28 hg6 hB11 k28 hs12
    have hz_ := k27.size
    exact ⟨⟨g6, rfl, by omega, _, rfl, hB11⟩, Rg.of k28, (fun h => by cases h), (fun h => by cases h)⟩
  · intro w29 k29r
    have k29 := Rg.grown k29r (by omega)
    rintro _ ⟨g7, rfl, hg7, hB12, hc1, hB13⟩ _ ⟨v11, rfl, hS13⟩
    refine op1 (s_storeN row25 rfl rfl hB13 (by simp only [List.all_cons, List.all_nil, (hS13).none.one, Bool.and_true, Bool.and_self] <;> rfl) rfl hc1 ?_)
    intro w30 hB14 k30 hs13
    have hT1 : QuadSl ((setQ Q8 (hf 1329) (-7 : Int) 1).1) _ [v11].toArray := ⟨v11, rfl, nodes_sto ⟨_, hc1, hB13⟩ k30 (hS13).none⟩
    exact ⟨trivial, Rg.sto ⟨_, hc1, hB13⟩ hB14 rfl hT1 k30 hg7, (fun h => by cases h), fun _ => ⟨_, rfl, _, rfl, hg7, _, hB14, rfl, hT1⟩⟩
  intro w31 k31r
  have k31 := Rg.grown k31r (by omega)
  have hb25 := below_g0 hb13 k31
  rintro _ rfl _ ⟨v12, rfl, hS14⟩ _ rfl _ ⟨v13, rfl, hS15⟩ _ ⟨v14, rfl, hS16⟩ _ ⟨v15, rfl, hS17⟩ _ rfl _ ⟨g8, rfl, hg8, hB15, hc2, hB16⟩ hp1
  obtain ⟨_, he1, _, _, hB17, _, v16, rfl, hS18⟩ := hp1 _ rfl
  cases he1
  have hlt_11 := hB17.lt
  refine st (s_assign rfl (r_end (n_then (w_seq (w_region (st (s_move rfl (st (s_eq rfl rfl ?_)))))))))
  rw [show decide ((0 : Int) = 0) = true from rfl]
  refine st (s_move rfl (stg (s_move rfl (stg (s_eq rfl rfl ?_)))))
  rw [show decide ((0 : Int) = 0) = true from rfl]
  refine st (s_pick rfl rfl (st (s_move rfl (stg (s_move rfl (stg (s_eq rfl rfl ?_)))))))
  rw [show decide ((4 : Int) = 4) = true from rfl]
  refine st (s_pick rfl rfl (st (s_move rfl (stg (s_loadW row25 rfl (((((hB6.g0 k10).g0 k11).gne k12 (by omega)).g0 k17).g0 k31).range rfl (stg (s_loadW row31 rfl (((((((((hB3.gne k6 (by omega)).g0 k7).g0 k8).gne k9 (by omega)).g0 k10).g0 k11).gne k12 (by omega)).g0 k17).g0 k31).range rfl (stg (s_loadW row31 rfl ((((((((hB4.g0 k7).g0 k8).gne k9 (by omega)).g0 k10).g0 k11).gne k12 (by omega)).g0 k17).g0 k31).range rfl ?_)))))))))
  refine stg (s_call fn30 rfl (get_any (x := (5 : Int)) (y := (-7 : Int)) (n0 := n0) (below_n0 hn0 hb25) (((Sl.gSmall node_flat (((Sl.gSmall node_flat (hS3.g0 k8) k9 hB5 (by decide)).g0 k10).g0 k11) k12 hB7 (by decide)).g0 k17).g0 k31) can8 (by have := len8; omega) (((((((((((((hS1.gg0 k2).gg0 k3).gg0 k4).ggB k5 (hB1.g0 k4) (by decide) (by omega)).ggB k6 (hB2.gne k5 (by omega)) (by decide) (by omega)).gg0 k7).gg0 k8).ggB k9 hB5 (by decide) (by omega)).gg0 k10).gg0 k11).ggB k12 hB7 (by decide) (by omega)).gg0 k17).gg0 k31) ((((((((((((hS2.gg0 k3).gg0 k4).ggB k5 (hB1.g0 k4) (by decide) (by omega)).ggB k6 (hB2.gne k5 (by omega)) (by decide) (by omega)).gg0 k7).gg0 k8).ggB k9 hB5 (by decide) (by omega)).gg0 k10).gg0 k11).ggB k12 hB7 (by decide) (by omega)).gg0 k17).gg0 k31) (Bd.le (bd_small (by omega)) (show 2 ≤ 50 by decide)) (Bd.le (bd_small (by omega)) (show 2 ≤ 50 by decide))) ?_)
  rintro v17 w32 ⟨hq9, hv7⟩
  rw [show (celQ Q8 (5 : Int) (-7 : Int)) = 9 from get8a] at hv7
  subst hv7
  have k32 := grown_of_below hq9 none
  have hz17 := hq9.size
  have hb26 := below_g0 hb25 k32
  have hz18 := hb26.size
  refine stg (s_eq rfl rfl ?_)
  rw [show decide ((9 : Int) = 9) = true from rfl]
  refine st (s_pick rfl rfl (st (s_move rfl (stg (s_loadW row25 rfl ((((((hB6.g0 k10).g0 k11).gne k12 (by omega)).g0 k17).g0 k31).g0 k32).range rfl (stg (s_loadW row31 rfl (((((((((hB4.g0 k7).g0 k8).gne k9 (by omega)).g0 k10).g0 k11).gne k12 (by omega)).g0 k17).g0 k31).g0 k32).range rfl (stg (s_loadW row31 rfl ((((((((((hB3.gne k6 (by omega)).g0 k7).g0 k8).gne k9 (by omega)).g0 k10).g0 k11).gne k12 (by omega)).g0 k17).g0 k31).g0 k32).range rfl ?_)))))))))
  refine stg (s_call fn30 rfl (get_any (x := (-7 : Int)) (y := (5 : Int)) (n0 := n0) (below_n0 hn0 hb26) ((((Sl.gSmall node_flat (((Sl.gSmall node_flat (hS3.g0 k8) k9 hB5 (by decide)).g0 k10).g0 k11) k12 hB7 (by decide)).g0 k17).g0 k31).g0 k32) can8 (by have := len8; omega) (((((((((((((hS2.gg0 k3).gg0 k4).ggB k5 (hB1.g0 k4) (by decide) (by omega)).ggB k6 (hB2.gne k5 (by omega)) (by decide) (by omega)).gg0 k7).gg0 k8).ggB k9 hB5 (by decide) (by omega)).gg0 k10).gg0 k11).ggB k12 hB7 (by decide) (by omega)).gg0 k17).gg0 k31).gg0 k32) ((((((((((((((hS1.gg0 k2).gg0 k3).gg0 k4).ggB k5 (hB1.g0 k4) (by decide) (by omega)).ggB k6 (hB2.gne k5 (by omega)) (by decide) (by omega)).gg0 k7).gg0 k8).ggB k9 hB5 (by decide) (by omega)).gg0 k10).gg0 k11).ggB k12 hB7 (by decide) (by omega)).gg0 k17).gg0 k31).gg0 k32) (Bd.le (bd_small (by omega)) (show 2 ≤ 50 by decide)) (Bd.le (bd_small (by omega)) (show 2 ≤ 50 by decide))) ?_)
  rintro v18 w33 ⟨hq10, hv8⟩
  rw [show (celQ Q8 (-7 : Int) (5 : Int)) = 0 from get8b] at hv8
  subst hv8
  have k33 := grown_of_below hq10 none
  have hz19 := hq10.size
  have hb27 := below_g0 hb26 k33
  have hz20 := hb27.size
  refine stg (s_eq rfl rfl ?_)
  rw [show decide ((0 : Int) = 0) = true from rfl]
  refine st (s_pick rfl rfl (st (s_move rfl (stg (s_loadW row25 rfl (((((((hB6.g0 k10).g0 k11).gne k12 (by omega)).g0 k17).g0 k31).g0 k32).g0 k33).range rfl (stg (s_call fn33 rfl (most_any (n0 := n0) (below_n0 hn0 hb27) (((((Sl.gSmall node_flat (((Sl.gSmall node_flat (hS3.g0 k8) k9 hB5 (by decide)).g0 k10).g0 k11) k12 hB7 (by decide)).g0 k17).g0 k31).g0 k32).g0 k33) can8 (by have := len8; omega)) ?_)))))))
  rintro v19 w34 ⟨hq11, hv9⟩
  rw [show (mostN Q8) = 9 from most8] at hv9
  subst hv9
  have k34 := grown_of_below hq11 none
  have hz21 := hq11.size
  have hb28 := below_g0 hb27 k34
  have hz22 := hb28.size
  refine stg (s_eq rfl rfl ?_)
  rw [show decide ((9 : Int) = 9) = true from rfl]
  refine st (s_pick rfl rfl (st (s_move rfl (stg (s_faddr fld25_0 rfl (stg (s_load one22 rfl (((((hB8.g0 k17).g0 k31).g0 k32).g0 k33).g0 k34).range (j := 0) rfl (stg (s_len sl22 rfl ((((((Sl.gSmall node_flat (hS4.g0 k11) k12 hB7 (by decide)).g0 k17).g0 k31).g0 k32).g0 k33).g0 k34) ?_)))))))))
  rw [show ((([] : List Nd).length : Nat) : Int) = 0 from rfl]
  refine stg (s_eq rfl rfl ?_)
  rw [show decide ((0 : Int) = 0) = true from rfl]
  refine st (s_pick rfl rfl (st (s_move rfl (stg (s_build (ps := []) (ccs := []) (cells := [.slice none 0 0]) rfl rfl (by kernel_rfl) (stg (s_loadW row31 rfl ((((((((((((hB3.gne k6 (by omega)).g0 k7).g0 k8).gne k9 (by omega)).g0 k10).g0 k11).gne k12 (by omega)).g0 k17).g0 k31).g0 k32).g0 k33).g0 k34).range rfl (stg (s_loadW row31 rfl (((((((((((hB4.g0 k7).g0 k8).gne k9 (by omega)).g0 k10).g0 k11).gne k12 (by omega)).g0 k17).g0 k31).g0 k32).g0 k33).g0 k34).range rfl ?_)))))))))
  refine stg (s_call fn30 rfl (get_any (x := (5 : Int)) (y := (-7 : Int)) (n0 := n0) (below_n0 hn0 hb28) ((Sl.nil0 (K := Kd.node) (F := fun _ => False)).at0 hb28) can_nil_q (by decide) ((((((((((((((((hS1.gg0 k2).gg0 k3).gg0 k4).ggB k5 (hB1.g0 k4) (by decide) (by omega)).ggB k6 (hB2.gne k5 (by omega)) (by decide) (by omega)).gg0 k7).gg0 k8).ggB k9 hB5 (by decide) (by omega)).gg0 k10).gg0 k11).ggB k12 hB7 (by decide) (by omega)).gg0 k17).gg0 k31).gg0 k32).gg0 k33).gg0 k34) (((((((((((((((hS2.gg0 k3).gg0 k4).ggB k5 (hB1.g0 k4) (by decide) (by omega)).ggB k6 (hB2.gne k5 (by omega)) (by decide) (by omega)).gg0 k7).gg0 k8).ggB k9 hB5 (by decide) (by omega)).gg0 k10).gg0 k11).ggB k12 hB7 (by decide) (by omega)).gg0 k17).gg0 k31).gg0 k32).gg0 k33).gg0 k34) (Bd.le (bd_small (by omega)) (show 2 ≤ 50 by decide)) (Bd.le (bd_small (by omega)) (show 2 ≤ 50 by decide))) ?_)
  rintro v20 w35 ⟨hq12, hv10⟩
  rw [show (celQ ([] : List Nd) (5 : Int) (-7 : Int)) = 0 from get8c] at hv10
  subst hv10
  have k35 := grown_of_below hq12 none
  have hz23 := hq12.size
  have hb29 := below_g0 hb28 k35
  have hz24 := hb29.size
  refine stg (s_eq rfl rfl ?_)
  rw [show decide ((0 : Int) = 0) = true from rfl]
  refine st (s_pick rfl rfl (st (s_move rfl (stg (s_loadW row25 rfl (((((((((hB6.g0 k10).g0 k11).gne k12 (by omega)).g0 k17).g0 k31).g0 k32).g0 k33).g0 k34).g0 k35).range rfl (stg (s_call fn35 rfl (Nd.rright_any (((((((Sl.gSmall node_flat (((Sl.gSmall node_flat (hS3.g0 k8) k9 hB5 (by decide)).g0 k10).g0 k11) k12 hB7 (by decide)).g0 k17).g0 k31).g0 k32).g0 k33).g0 k34).g0 k35) (by have := len8; omega)) ?_)))))))
  rintro v21 w36 ⟨hq13, hv11⟩
  rw [show (rightB Q8) = true from right8] at hv11
  subst hv11
  have k36 := grown_of_below hq13 none
  have hz25 := hq13.size
  have hb30 := below_g0 hb29 k36
  have hz26 := hb30.size
  refine st (s_pick rfl rfl (st (s_assign rfl (r_end (n_then (w_ret1 rfl rfl ?_))))))
  exact ⟨_, rfl, hb30, rfl⟩
end Go.Proofs.Ytfljelnfjbbknaa.Lm

set_option linter.unusedSimpArgs false
set_option linter.unusedVariables false
/-! ### The look's laws -/
namespace Go.Gw
open Go.RowKit
theorem great_in {l : List RCl} {m : Int} (h : greatB l m = false) {c : RCl} (hc : c ∈ l) (hx : Lim c.xs) (hy : Lim c.ys) : Bd 50 (toCl c).x ∧ Bd 50 (toCl c).y := by
  unfold greatB at h
  rw [Bool.or_eq_false_iff] at h
  have hg := List.any_eq_false.1 h.2 c hc
  unfold greatC at hg
  simp at hg
  exact ⟨sg_bd hx (by omega) _, sg_bd hy (by omega) _⟩
end Go.Gw

set_option maxRecDepth 20000
set_option linter.unusedSimpArgs false
set_option linter.unusedVariables false
namespace Go.Proofs.Ytfljelnfjbbknaa.Lm
open Go.RowKit Go.Gw
set_option maxHeartbeats 1000000 in
theorem deep_any {w : World} {F : Nat → Prop} {va : Value} {l : List Nd} {n : Int} {n0 : Nat} (hn0 : n0 ≤ w.heap.size) (hl : Sl Kd.node w F va l) {ca cb : Value} {c : RCl} (hca : Sl Kd.u32 w (G 83 n0 w) ca c.xs) (hcb : Sl Kd.u32 w (G 83 n0 w) cb c.ys) (hstc : 0 ≤ c.st ∧ c.st ≤ 255)  :
    Calls Try.prog 7 [va, .int .i64 n, .agg [.bool c.xn, ca, .bool c.yn, cb, .int .u8 c.st].toArray].toArray w (Pure w fun v _ => v = .bool true) := by
  have hb0 := Below.refl w.heap.size w
  have hln1 := hl.lenle
  refine enter Try.func7 rfl rfl (w_seq (w_region (st (s_box rfl ?_))))
  intro g1 w1 hg1 hB1 k1 hs1
  change Blk w1 g1 47 [.bool c.xn, ca, .bool c.yn, cb, .int .u8 c.st].toArray at hB1
  have hb1 := below_g0 hb0 k1
  refine st (s_assign rfl (r_end (n_then (w_seq (w_seq (w_region (st (s_call fn25 rfl (alive8_any (n0 := n0) (below_n0 hn0 hb1)) ?_))))))))
  rintro _ w2 ⟨hq1, rfl⟩
  have k2 := grown_of_below hq1 none
  have hz1 := hq1.size
  have hb2 := below_g0 hb1 k2
  have hz2 := hb2.size
  refine st (s_not rfl (r_end (n_then (w_condF rfl (w_skip' (n_then (w_seq ?_)))))))
  refine w_seq (w_region (st (s_move rfl (st (s_len sl22 rfl (hl.at0 hb2) (st (s_gt rfl rfl (st (s_move rfl ?_)))))))))
  refine r_caseP 18 rfl (fun h1 => ?_) (fun h1 => ?_)
  · refine s_pass rfl rfl (s_pass rfl rfl (s_pass rfl rfl (st (s_pick rfl rfl (st (s_move rfl (s_pass rfl rfl (s_pass rfl rfl ?_))))))))
    refine s_pass rfl rfl (s_pass rfl rfl (st (s_pick rfl rfl (st (s_move rfl (s_pass rfl rfl (s_pass rfl rfl (s_pass rfl rfl ?_))))))))
    refine s_pass rfl rfl (st (s_pick rfl rfl (r_end (n_then (w_condT rfl (w_seq (w_region ?_)))))))
    refine st (s_assign rfl (r_end (n_then (w_ret1 rfl rfl ?_))))
    exact ⟨_, rfl, hb2, rfl⟩
  refine stg (s_loadW row47 rfl (hB1.g0 k2).range rfl (stg (s_bslice (ps := [(0, .tmp 19)]) (ccs := [#[.bool c.xn, ca, .bool c.yn, cb, .int .u8 c.st]]) (e := 47) (cells := [.bool c.xn, ca, .bool c.yn, cb, .int .u8 c.st]) rfl rfl (by kernel_rfl) (by decide) nz47 ?_)))
  intro g2 w3 hg2 hB2 k3 hs2
  have hb3 := below_g0 hb2 k3
  have hz3 := hb3.size
  have hS1 : Sl (Kd.rcell 83 n0) w3 (fun _ => False) (.slice (some ⟨g2, 0, none⟩) 1 1) [c] := lit_rcell (c := c) hB2 (((hca.gg0 k1).gg0 k2).gg0 k3) (((hcb.gg0 k1).gg0 k2).gg0 k3) hstc
  refine stg (s_call fn26 rfl (great_any hS1) ?_)
  rintro _ w4 ⟨hq2, rfl⟩
  have k4 := grown_of_below hq2 none
  have hz4 := hq2.size
  have hb4 := below_g0 hb3 k4
  have hz5 := hb4.size
  refine st (s_pick rfl rfl (st (s_move rfl ?_)))
  refine r_case 23 rfl (fun h2 => ?_) (fun h2 => ?_)
  · refine s_pass rfl rfl (s_pass rfl rfl (s_pass rfl rfl (s_pass rfl rfl (st (s_pick rfl rfl (st (s_move rfl (s_pass rfl rfl ?_))))))))
    refine s_pass rfl rfl (s_pass rfl rfl (s_pass rfl rfl (st (s_pick rfl rfl (r_end (n_then (w_condT rfl ?_)))))))
    refine w_seq (w_region (st (s_assign rfl (r_end (n_then (w_ret1 rfl rfl ?_))))))
    exact ⟨_, rfl, hb4, rfl⟩
  have hgr := h2
  refine stg (s_faddr fld47_0 rfl (stg (s_loadN (us := [.bool c.xn, ca]) row31 rfl (((hB1.g0 k2).g0 k3).g0 k4).range (j := 0) rfl rfl (stg (s_call fn27 rfl (rbright_any (((((hca.gg0 k1).gg0 k2).gg0 k3).gg0 k4)).none) ?_)))))
  rintro _ w5 ⟨hq3, rfl⟩
  have k5 := grown_of_below hq3 none
  have hz6 := hq3.size
  have hb5 := below_g0 hb4 k5
  have hz7 := hb5.size
  refine stg (s_not rfl (st (s_pick rfl rfl (st (s_move rfl ?_)))))
  refine r_case 29 rfl (fun h3 => ?_) (fun h3 => ?_)
  · refine s_pass rfl rfl (s_pass rfl rfl (s_pass rfl rfl (s_pass rfl rfl (st (s_pick rfl rfl (r_end (n_then ?_)))))))
    refine w_condT rfl (w_seq (w_region (st (s_assign rfl (r_end (n_then (w_ret1 rfl rfl ?_)))))))
    exact ⟨_, rfl, hb5, rfl⟩
  have hrxc : bigR c.xn c.xs = true := by simpa using h3
  refine stg (s_faddr fld47_1 rfl (stg (s_loadN (us := [.bool c.yn, cb]) row31 rfl ((((hB1.g0 k2).g0 k3).g0 k4).g0 k5).range (j := 2) rfl rfl (stg (s_call fn27 rfl (rbright_any ((((((hcb.gg0 k1).gg0 k2).gg0 k3).gg0 k4).gg0 k5)).none) ?_)))))
  rintro _ w6 ⟨hq4, rfl⟩
  have k6 := grown_of_below hq4 none
  have hz8 := hq4.size
  have hb6 := below_g0 hb5 k6
  have hz9 := hb6.size
  refine stg (s_not rfl (st (s_pick rfl rfl (r_end (n_then ?_)))))
  refine w_cond rfl (fun h4 => ?_) (fun h4 => ?_)
  · refine w_seq (w_region (st (s_assign rfl (r_end (n_then (w_ret1 rfl rfl ?_))))))
    exact ⟨_, rfl, hb6, rfl⟩
  have hryc : bigR c.yn c.ys = true := by simpa using h4
  obtain ⟨hxnc, hxsc⟩ := sg_right (lim_sl hca) hrxc
  obtain ⟨hync, hysc⟩ := sg_right (lim_sl hcb) hryc
  change c.xn = decide ((toCl c).x < 0) at hxnc
  change c.xs = ml (toCl c).x at hxsc
  change c.yn = decide ((toCl c).y < 0) at hync
  change c.ys = ml (toCl c).y at hysc
  have hB3 := (((((hB1.g0 k2).g0 k3).g0 k4).g0 k5).g0 k6)
  rw [hxnc, hync] at hB3
  have hS2 := ((((((hca.gg0 k1).gg0 k2).gg0 k3).gg0 k4).gg0 k5).gg0 k6)
  rw [hxsc] at hS2
  have hS3 := ((((((hcb.gg0 k1).gg0 k2).gg0 k3).gg0 k4).gg0 k5).gg0 k6)
  rw [hysc] at hS3
  have hbdc := great_in hgr (c := c) (by simp) (lim_sl hca) (lim_sl hcb)
  refine w_skip' (n_then (w_seq (w_region (st (s_move rfl (st (s_move rfl (st (s_call fn11 rfl (Nd.rof_any (n := n) (hl.at0 hb6) (by omega)) ?_)))))))))
  rintro _ w7 ⟨hq5, sv1, rfl, hS4⟩
  have hS5 := hS4.loc
  have k7 := grown_of_below hq5 none
  have hz10 := hq5.size
  have hb7 := below_g0 hb6 k7
  have hz11 := hb7.size
  refine st (s_move rfl (st (s_extract rfl rfl (st (s_extract rfl rfl ?_)))))
  have hlt_1 := ((hB3.g0 k7)).lt
  have hlt_2 := (((((hB2.g0 k4).g0 k5).g0 k6).g0 k7)).lt
  refine st (s_alloc zero25 ?_)
  intro g3 w8 hg3 hB4 k8 hs3
  have hz12 := hb7.size
  have hb8 := below_g0 hb7 k8
  refine st0 (s_storeN row25 rfl rfl hB4 (by simp only [List.all_cons, List.all_nil, hS5.one, Bool.and_true, Bool.and_self] <;> rfl) rfl rfl ?_)
  intro w9 hB5 k9 hs4
  have hb9 := below_g hb8 k9 (by first | omega | (have h9 := (hb8).size; omega))
  refine st (s_assign rfl (r_end (n_then (w_seq (w_seq (w_region (st (s_move rfl ?_))))))))
  refine st (s_ne rfl rfl (r_end (n_then ?_)))
  refine w_condP rfl (fun h5 => ?_) (fun h5 => ?_)
  · refine w_seq (w_region (st (s_assign rfl (r_end (n_then (w_ret1 rfl rfl ?_))))))
    exact ⟨_, rfl, hb9, rfl⟩
  refine w_skip' (n_then (w_seq (w_region (st (s_loadW row25 rfl hB5.range rfl (st (s_faddr fld47_0 rfl (st (s_loadN (us := [.bool (decide ((toCl c).x < 0)), ca]) row31 rfl (((hB3.g0 k7).g0 k8).gne k9 (by omega)).range (j := 0) rfl rfl ?_)))))))))
  refine st (s_faddr fld47_1 rfl (st (s_loadN (us := [.bool (decide ((toCl c).y < 0)), cb]) row31 rfl (((hB3.g0 k7).g0 k8).gne k9 (by omega)).range (j := 2) rfl rfl (st (s_faddr fld47_2 rfl (st (s_load one5 rfl (((hB3.g0 k7).g0 k8).gne k9 (by omega)).range (j := 4) rfl ?_)))))))
  refine st (s_call fn28 rfl (set_any (x := (toCl c).x) (y := (toCl c).y) (s := c.st) (n0 := n0) (below_n0 hn0 hb9) (Sl.gSmall node_flat (hS5.g0 k8) k9 hB4 (by decide)) (ofL_any l n) (by have := ofL_len l n; omega) (((hS2.gg0 k7).gg0 k8).ggB k9 hB4 (by decide) (by omega)) (((hS3.gg0 k7).gg0 k8).ggB k9 hB4 (by decide) (by omega)) (Bd.le hbdc.1 (show 50 ≤ 50 by decide)) (Bd.le hbdc.2 (show 50 ≤ 50 by decide)) (by first | omega | decide)) ?_)
  rintro _ w10 ⟨hq6, sv2, rfl, hS6⟩
  have k10 := grown_of_below hq6 none
  have hz13 := hq6.size
  have hb10 := below_g0 hb9 k10
  have hz14 := hb10.size
  refine st (s_move rfl (st (s_extract rfl rfl (st (s_extract rfl rfl ?_)))))
  have hlt_3 := (((((hB3.g0 k7).g0 k8).gne k9 (by omega)).g0 k10)).lt
  have hlt_4 := ((((((((hB2.g0 k4).g0 k5).g0 k6).g0 k7).g0 k8).gne k9 (by omega)).g0 k10)).lt
  have hlt_5 := ((hB5.g0 k10)).lt
  refine st (s_alloc zero25 ?_)
  intro g4 w11 hg4 hB6 k11 hs5
  have hz15 := hb10.size
  have hb11 := below_g0 hb10 k11
  refine st0 (s_storeN row25 rfl rfl hB6 (by simp only [List.all_cons, List.all_nil, hS6.one, Bool.and_true, Bool.and_self] <;> rfl) rfl rfl ?_)
  intro w12 hB7 k12 hs6
  have hb12 := below_g hb11 k12 (by first | omega | (have h9 := (hb11).size; omega))
  refine st (s_assign rfl (r_end (n_then (w_seq (w_region (st (s_loadW row25 rfl (((hB5.g0 k10).g0 k11).gne k12 (by omega)).range rfl (st (s_faddr fld47_0 rfl ?_)))))))))
  refine st (s_loadN (us := [.bool (decide ((toCl c).x < 0)), ca]) row31 rfl ((((((hB3.g0 k7).g0 k8).gne k9 (by omega)).g0 k10).g0 k11).gne k12 (by omega)).range (j := 0) rfl rfl (st (s_faddr fld47_1 rfl (st (s_loadN (us := [.bool (decide ((toCl c).y < 0)), cb]) row31 rfl ((((((hB3.g0 k7).g0 k8).gne k9 (by omega)).g0 k10).g0 k11).gne k12 (by omega)).range (j := 2) rfl rfl (st (s_faddr fld47_2 rfl (st (s_load one5 rfl ((((((hB3.g0 k7).g0 k8).gne k9 (by omega)).g0 k10).g0 k11).gne k12 (by omega)).range (j := 4) rfl ?_)))))))))
  refine st (s_call fn29 rfl (rset_any (x := (toCl c).x) (y := (toCl c).y) (s := c.st) (n0 := n0) (below_n0 hn0 hb12) (Sl.gSmall node_flat (((Sl.gSmall node_flat (hS5.g0 k8) k9 hB4 (by decide)).g0 k10).g0 k11) k12 hB6 (by decide)) (ofL_any l n) (by have := ofL_len l n; omega) ((((((hS2.gg0 k7).gg0 k8).ggB k9 hB4 (by decide) (by omega)).gg0 k10).gg0 k11).ggB k12 hB6 (by decide) (by omega)) ((((((hS3.gg0 k7).gg0 k8).ggB k9 hB4 (by decide) (by omega)).gg0 k10).gg0 k11).ggB k12 hB6 (by decide) (by omega)) (Bd.le hbdc.1 (show 50 ≤ 50 by decide)) (Bd.le hbdc.2 (show 50 ≤ 50 by decide)) (by first | omega | decide)) ?_)
  rintro _ w13 ⟨hq7, sv3, rfl, hS7⟩
  have k13 := grown_of_below hq7 none
  have hz16 := hq7.size
  have hb13 := below_g0 hb12 k13
  have hz17 := hb13.size
  refine st (s_move rfl (st (s_extract rfl rfl (st (s_extract rfl rfl ?_)))))
  have hlt_6 := ((((((((hB3.g0 k7).g0 k8).gne k9 (by omega)).g0 k10).g0 k11).gne k12 (by omega)).g0 k13)).lt
  have hlt_7 := (((((((((((hB2.g0 k4).g0 k5).g0 k6).g0 k7).g0 k8).gne k9 (by omega)).g0 k10).g0 k11).gne k12 (by omega)).g0 k13)).lt
  have hlt_8 := (((((hB5.g0 k10).g0 k11).gne k12 (by omega)).g0 k13)).lt
  have hlt_9 := ((hB7.g0 k13)).lt
  refine st (s_alloc zero25 ?_)
  intro g5 w14 hg5 hB8 k14 hs7
  have hz18 := hb13.size
  have hb14 := below_g0 hb13 k14
  refine st0 (s_storeN row25 rfl rfl hB8 (by simp only [List.all_cons, List.all_nil, hS7.one, Bool.and_true, Bool.and_self] <;> rfl) rfl rfl ?_)
  intro w15 hB9 k15 hs8
  have hb15 := below_g hb14 k15 (by first | omega | (have h9 := (hb14).size; omega))
  refine st (s_assign rfl (r_end (n_then (w_seq ?_))))
  have h6 : ((celQ ((ofL l n).1) ((toCl c).x) ((toCl c).y)) = (celQ ((ofL l n).1) ((toCl c).x) ((toCl c).y))) := Classical.byContradiction fun h6 => absurd rfl h6
  have h7 : ((setQ ((ofL l n).1) ((toCl c).x) ((toCl c).y) c.st).2 = (setQ ((ofL l n).1) ((toCl c).x) ((toCl c).y) c.st).2) := Classical.byContradiction fun h7 => absurd rfl h7
  refine w_draw 30 (fun a b => a.grownBy b none) [(some 65, Is <| .agg [sv1].toArray), (some 66, Is <| .pointer (some ⟨g1, 0 + 0, none⟩)), (some 67, Is <| .agg [.bool (decide ((toCl c).x < 0)), ca].toArray), (some 68, Is <| .pointer (some ⟨g1, 0 + 2, none⟩)), (some 69, Is <| .agg [.bool (decide ((toCl c).y < 0)), cb].toArray), (some 70, Is <| .int .u8 (celQ ((ofL l n).1) ((toCl c).x) ((toCl c).y))), (some 71, Is <| .agg [sv1].toArray), (some 72, Is <| .pointer (some ⟨g1, 0 + 0, none⟩)), (some 73, Is <| .agg [.bool (decide ((toCl c).x < 0)), ca].toArray), (some 74, Is <| .pointer (some ⟨g1, 0 + 2, none⟩)), (some 75, Is <| .agg [.bool (decide ((toCl c).y < 0)), cb].toArray), (some 76, Is <| .int .u8 (celQ ((ofL l n).1) ((toCl c).x) ((toCl c).y))), (some 77, Is <| .bool (decide ((celQ ((ofL l n).1) ((toCl c).x) ((toCl c).y)) = (celQ ((ofL l n).1) ((toCl c).x) ((toCl c).y))))), (some 78, Is <| .bool true), (some 79, Is <| .agg [sv2].toArray), (some 80, Is <| .agg [sv3].toArray), (some 81, Is <| .bool true), (some 82, Is <| .bool true), (some 83, Is <| .bool true), (some 84, Is <| .int .i64 ((setQ ((ofL l n).1) ((toCl c).x) ((toCl c).y) c.st).2)), (some 85, Is <| .int .i64 ((setQ ((ofL l n).1) ((toCl c).x) ((toCl c).y) c.st).2)), (some 86, Is <| .bool (decide ((setQ ((ofL l n).1) ((toCl c).x) ((toCl c).y) c.st).2 = (setQ ((ofL l n).1) ((toCl c).x) ((toCl c).y) c.st).2))), (some 87, Is <| .bool (decide ((setQ ((ofL l n).1) ((toCl c).x) ((toCl c).y) c.st).2 = (setQ ((ofL l n).1) ((toCl c).x) ((toCl c).y) c.st).2))), (some 88, Is <| .bool true), (some 89, Is <| .agg [sv1].toArray), (some 90, Is <| .int .u8 (mostN ((ofL l n).1))), (some 91, Is <| .agg [sv1].toArray), (some 92, Is <| .int .u8 (mostN ((ofL l n).1))), (some 93, Is <| .bool (decide ((mostN ((ofL l n).1)) = (mostN ((ofL l n).1))))), (some 94, Is <| .bool (decide ((mostN ((ofL l n).1)) = (mostN ((ofL l n).1)))))] [[], [], [1], [], [3], [0, 2, 4], [], [], [7], [], [9], [6, 8, 10], [5, 11], [12], [13], [13], [13, 14, 15], [13, 16], [17], [18], [18], [18, 19, 20], [18, 21], [22], [23], [23, 24], [23], [23, 26], [23, 25, 27], [23, 28]] [(5, .pointer (some ⟨g1, 0, none⟩)), (6, .bool false), (7, .pointer (some ⟨g3, 0, none⟩)), (9, .pointer (some ⟨g4, 0, none⟩)), (10, .int .i64 ((setQ ((ofL l n).1) ((toCl c).x) ((toCl c).y) c.st).2)), (11, .pointer (some ⟨g5, 0, none⟩)), (12, .int .i64 ((setQ ((ofL l n).1) ((toCl c).x) ((toCl c).y) c.st).2))] (by exact ⟨rfl, rfl, rfl, rfl, rfl, rfl, rfl, trivial⟩) (by kernel_rfl) (by kernel_rfl) grown_none_refl (fun _ _ _ => grown_none_trans) ⟨kv, kv, kv, kv, kv, kv, kv, kv, kv, kv, kv, kv, kv, kv, kv, kv, kv, kv, kv, kv, kv, kv, kv, kv, kv, kv, kv, kv, kv, kv, trivial⟩ ?_
  intro w21 k21 hs9
  have hb16 := below_g0 hb15 k21
  refine ⟨⟨?_, ?_, ?_, ?_, ?_, ?_, ?_, ?_, ?_, ?_, ?_, ?_, ?_, ?_, ?_, ?_, ?_, ?_, ?_, ?_, ?_, ?_, ?_, ?_, ?_, ?_, ?_, ?_, ?_, ?_, trivial⟩, ?_⟩
  · intro w22 k22
    refine op1 (s_loadW row25 rfl ((((((((hB5.g0 k10).g0 k11).gne k12 (by omega)).g0 k13).g0 k14).gne k15 (by omega)).g0 k21).g0 k22).range rfl ?_)
    exact ⟨rfl, grown_none_refl _⟩
  · intro w23 k23
    refine op1 (s_faddr fld47_0 rfl ?_)
    exact ⟨rfl, grown_none_refl _⟩
  · intro w24 k24
    rintro _ rfl
    refine op1 (s_loadN (us := [.bool (decide ((toCl c).x < 0)), ca]) row31 rfl (((((((((((hB3.g0 k7).g0 k8).gne k9 (by omega)).g0 k10).g0 k11).gne k12 (by omega)).g0 k13).g0 k14).gne k15 (by omega)).g0 k21).g0 k24).range (j := 0) rfl rfl ?_)
    exact ⟨rfl, grown_none_refl _⟩
  · intro w25 k25
    refine op1 (s_faddr fld47_1 rfl ?_)
    exact ⟨rfl, grown_none_refl _⟩
  · intro w26 k26
    rintro _ rfl
    refine op1 (s_loadN (us := [.bool (decide ((toCl c).y < 0)), cb]) row31 rfl (((((((((((hB3.g0 k7).g0 k8).gne k9 (by omega)).g0 k10).g0 k11).gne k12 (by omega)).g0 k13).g0 k14).gne k15 (by omega)).g0 k21).g0 k26).range (j := 2) rfl rfl ?_)
    exact ⟨rfl, grown_none_refl _⟩
  · intro w27 k27
    have hb22 := below_g0 hb16 k27
    rintro _ rfl _ rfl _ rfl
    refine op1 (s_call fn30 rfl (get_any (x := (toCl c).x) (y := (toCl c).y) (n0 := n0) (below_n0 hn0 hb22) (((Sl.gSmall node_flat (((Sl.gSmall node_flat (((Sl.gSmall node_flat (hS5.g0 k8) k9 hB4 (by decide)).g0 k10).g0 k11) k12 hB6 (by decide)).g0 k13).g0 k14) k15 hB8 (by decide)).g0 k21).g0 k27) (ofL_any l n) (by have := ofL_len l n; omega) (((((((((((hS2.gg0 k7).gg0 k8).ggB k9 hB4 (by decide) (by omega)).gg0 k10).gg0 k11).ggB k12 hB6 (by decide) (by omega)).gg0 k13).gg0 k14).ggB k15 hB8 (by decide) (by omega)).gg0 k21).gg0 k27) (((((((((((hS3.gg0 k7).gg0 k8).ggB k9 hB4 (by decide) (by omega)).gg0 k10).gg0 k11).ggB k12 hB6 (by decide) (by omega)).gg0 k13).gg0 k14).ggB k15 hB8 (by decide) (by omega)).gg0 k21).gg0 k27) (Bd.le hbdc.1 (show 50 ≤ 50 by decide)) (Bd.le hbdc.2 (show 50 ≤ 50 by decide))) ?_)
    rintro _ w28 ⟨hq13, rfl⟩
    have k28 := grown_of_below hq13 none
    have hz19 := hq13.size
    have hb23 := below_g0 hb22 k28
    have hz20 := hb23.size
    have hcr1 := celQ_rng (ofL_any l n) ((toCl c).x) ((toCl c).y)
    exact ⟨rfl, k28⟩
  · intro w29 k29
    refine op1 (s_loadW row25 rfl ((((((((hB5.g0 k10).g0 k11).gne k12 (by omega)).g0 k13).g0 k14).gne k15 (by omega)).g0 k21).g0 k29).range rfl ?_)
    exact ⟨rfl, grown_none_refl _⟩
  · intro w30 k30
    refine op1 (s_faddr fld47_0 rfl ?_)
    exact ⟨rfl, grown_none_refl _⟩
  · intro w31 k31
    rintro _ rfl
    refine op1 (s_loadN (us := [.bool (decide ((toCl c).x < 0)), ca]) row31 rfl (((((((((((hB3.g0 k7).g0 k8).gne k9 (by omega)).g0 k10).g0 k11).gne k12 (by omega)).g0 k13).g0 k14).gne k15 (by omega)).g0 k21).g0 k31).range (j := 0) rfl rfl ?_)
    exact ⟨rfl, grown_none_refl _⟩
  · intro w32 k32
    refine op1 (s_faddr fld47_1 rfl ?_)
    exact ⟨rfl, grown_none_refl _⟩
  · intro w33 k33
    rintro _ rfl
    refine op1 (s_loadN (us := [.bool (decide ((toCl c).y < 0)), cb]) row31 rfl (((((((((((hB3.g0 k7).g0 k8).gne k9 (by omega)).g0 k10).g0 k11).gne k12 (by omega)).g0 k13).g0 k14).gne k15 (by omega)).g0 k21).g0 k33).range (j := 2) rfl rfl ?_)
    exact ⟨rfl, grown_none_refl _⟩
  · intro w34 k34
    have hb29 := below_g0 hb16 k34
    rintro _ rfl _ rfl _ rfl
    refine op1 (s_call fn31 rfl (rget_any (x := (toCl c).x) (y := (toCl c).y) (n0 := n0) (below_n0 hn0 hb29) (((Sl.gSmall node_flat (((Sl.gSmall node_flat (((Sl.gSmall node_flat (hS5.g0 k8) k9 hB4 (by decide)).g0 k10).g0 k11) k12 hB6 (by decide)).g0 k13).g0 k14) k15 hB8 (by decide)).g0 k21).g0 k34) (ofL_any l n) (by have := ofL_len l n; omega) (((((((((((hS2.gg0 k7).gg0 k8).ggB k9 hB4 (by decide) (by omega)).gg0 k10).gg0 k11).ggB k12 hB6 (by decide) (by omega)).gg0 k13).gg0 k14).ggB k15 hB8 (by decide) (by omega)).gg0 k21).gg0 k34) (((((((((((hS3.gg0 k7).gg0 k8).ggB k9 hB4 (by decide) (by omega)).gg0 k10).gg0 k11).ggB k12 hB6 (by decide) (by omega)).gg0 k13).gg0 k14).ggB k15 hB8 (by decide) (by omega)).gg0 k21).gg0 k34) (Bd.le hbdc.1 (show 50 ≤ 50 by decide)) (Bd.le hbdc.2 (show 50 ≤ 50 by decide))) ?_)
    rintro _ w35 ⟨hq14, rfl⟩
    have k35 := grown_of_below hq14 none
    have hz21 := hq14.size
    have hb30 := below_g0 hb29 k35
    have hz22 := hb30.size
    have hcr2 := celQ_rng (ofL_any l n) ((toCl c).x) ((toCl c).y)
    exact ⟨rfl, k35⟩
  · intro w36 k36
    rintro _ rfl _ rfl
    refine op1 (s_eq rfl rfl ?_)
    exact ⟨rfl, grown_none_refl _⟩
  · intro w37 k37
    rintro _ rfl
    refine op1 (s_move rfl ?_)
    exact ⟨(by rw [decide_eq_true h6]), grown_none_refl _⟩
  · intro w38 k38
    rintro _ rfl
    refine op1g (s_loadW row25 rfl (((((hB7.g0 k13).g0 k14).gne k15 (by omega)).g0 k21).g0 k38).range rfl ?_)
    exact ⟨rfl, grown_none_refl _⟩
  · intro w39 k39
    rintro _ rfl
    refine op1g (s_loadW row25 rfl ((hB9.g0 k21).g0 k39).range rfl ?_)
    exact ⟨rfl, grown_none_refl _⟩
  · intro w40 k40
    have hb35 := below_g0 hb16 k40
    rintro _ rfl _ rfl _ rfl
    refine op1g (s_call fn32 rfl (Nd.rsame_any (((Sl.gSmall node_flat (((Sl.gSmall node_flat (hS6.g0 k11) k12 hB6 (by decide)).g0 k13).g0 k14) k15 hB8 (by decide)).g0 k21).g0 k40) (((Sl.gSmall node_flat (hS7.g0 k14) k15 hB8 (by decide)).g0 k21).g0 k40)) ?_)
    rintro v2 w41 ⟨hq15, hv2⟩
    rw [show (Nd.eqv ((setQ ((ofL l n).1) ((toCl c).x) ((toCl c).y) c.st).1) ((setQ ((ofL l n).1) ((toCl c).x) ((toCl c).y) c.st).1)) = true from (eqv_self _)] at hv2
    subst hv2
    have k41 := grown_of_below hq15 none
    have hz23 := hq15.size
    have hb36 := below_g0 hb35 k41
    have hz24 := hb36.size
    exact ⟨rfl, k41⟩
  · intro w42 k42
    rintro _ rfl _ rfl
    refine op1 (s_pick rfl rfl ?_)
    exact ⟨rfl, grown_none_refl _⟩
  · intro w43 k43
    rintro _ rfl
    refine op1 (s_move rfl ?_)
    exact ⟨rfl, grown_none_refl _⟩
  · intro w44 k44
    rintro _ rfl
    refine op1g (s_move rfl ?_)
    exact ⟨rfl, grown_none_refl _⟩
  · intro w45 k45
    rintro _ rfl
    refine op1g (s_move rfl ?_)
    exact ⟨rfl, grown_none_refl _⟩
  · intro w46 k46
    rintro _ rfl _ rfl _ rfl
    refine op1g (s_eq rfl rfl ?_)
    exact ⟨rfl, grown_none_refl _⟩
  · intro w47 k47
    rintro _ rfl _ rfl
    refine op1 (s_pick rfl rfl ?_)
    exact ⟨rfl, grown_none_refl _⟩
  · intro w48 k48
    rintro _ rfl
    refine op1 (s_move rfl ?_)
    exact ⟨(by rw [decide_eq_true h7]), grown_none_refl _⟩
  · intro w49 k49
    rintro _ rfl
    refine op1g (s_loadW row25 rfl ((((((((hB5.g0 k10).g0 k11).gne k12 (by omega)).g0 k13).g0 k14).gne k15 (by omega)).g0 k21).g0 k49).range rfl ?_)
    exact ⟨rfl, grown_none_refl _⟩
  · intro w50 k50
    have hb45 := below_g0 hb16 k50
    rintro _ rfl _ rfl
    refine op1g (s_call fn33 rfl (most_any (n0 := n0) (below_n0 hn0 hb45) (((Sl.gSmall node_flat (((Sl.gSmall node_flat (((Sl.gSmall node_flat (hS5.g0 k8) k9 hB4 (by decide)).g0 k10).g0 k11) k12 hB6 (by decide)).g0 k13).g0 k14) k15 hB8 (by decide)).g0 k21).g0 k50) (ofL_any l n) (by have := ofL_len l n; omega)) ?_)
    rintro _ w51 ⟨hq16, rfl⟩
    have k51 := grown_of_below hq16 none
    have hz25 := hq16.size
    have hb46 := below_g0 hb45 k51
    have hz26 := hb46.size
    exact ⟨rfl, k51⟩
  · intro w52 k52
    rintro _ rfl
    refine op1g (s_loadW row25 rfl ((((((((hB5.g0 k10).g0 k11).gne k12 (by omega)).g0 k13).g0 k14).gne k15 (by omega)).g0 k21).g0 k52).range rfl ?_)
    exact ⟨rfl, grown_none_refl _⟩
  · intro w53 k53
    have hb48 := below_g0 hb16 k53
    rintro _ rfl _ rfl
    refine op1g (s_call fn34 rfl (rmost_any (((Sl.gSmall node_flat (((Sl.gSmall node_flat (((Sl.gSmall node_flat (hS5.g0 k8) k9 hB4 (by decide)).g0 k10).g0 k11) k12 hB6 (by decide)).g0 k13).g0 k14) k15 hB8 (by decide)).g0 k21).g0 k53) (ofL_any l n) (by have := ofL_len l n; omega)) ?_)
    rintro _ w54 ⟨hq17, rfl⟩
    have k54 := grown_of_below hq17 none
    have hz27 := hq17.size
    have hb49 := below_g0 hb48 k54
    have hz28 := hb49.size
    exact ⟨rfl, k54⟩
  · intro w55 k55
    rintro _ rfl _ rfl _ rfl
    refine op1g (s_eq rfl rfl ?_)
    exact ⟨rfl, grown_none_refl _⟩
  · intro w56 k56
    rintro _ rfl _ rfl
    refine op1 (s_pick rfl rfl ?_)
    exact ⟨rfl, grown_none_refl _⟩
  intro w57 k57
  have hb52 := below_g0 hb16 k57
  have hz29 := k21.size
  have hz30 := k57.size
  rintro _ rfl _ rfl _ rfl _ rfl _ rfl _ rfl _ rfl _ rfl _ rfl _ rfl _ rfl _ rfl _ rfl _ rfl _ rfl _ rfl _ rfl _ rfl _ rfl _ rfl _ rfl _ rfl _ rfl _ rfl _ rfl _ rfl _ rfl _ rfl _ rfl _ rfl
  refine st (s_assign rfl (r_end (n_then (w_ret1 rfl rfl ?_))))
  exact ⟨_, rfl, hb52, congrArg Value.bool (decide_eq_true rfl)⟩
end Go.Proofs.Ytfljelnfjbbknaa.Lm
