/- Part of the proof: a library for walks, plain laws, and functions' walks. -/
import Derived.Test.YtfljelnfjbbknaaM9
import Derived.Test.YtfljelnfjbbknaaM4
import Derived.Test.YtfljelnfjbbknaaM3
import Derived.Test.YtfljelnfjbbknaaM5
import Derived.Test.YtfljelnfjbbknaaM6
set_option maxRecDepth 20000
set_option linter.unusedSimpArgs false
set_option linter.unusedVariables false
namespace Go.Proofs.Ytfljelnfjbbknaa.Lm
open Go.RowKit Go.Gw
set_option maxHeartbeats 1000000 in
theorem rin_any {w : World} {x lv : Int} {px : Value} {n0 : Nat} (hn0 : n0 ≤ w.heap.size) (hpx : Sl Kd.u32 w (G 83 n0 w) px (ml x)) (hbx : Bd 50 x) (hlv : 1 ≤ lv ∧ lv ≤ 1329) :
  Calls Try.prog 62 [.agg [.bool (decide (x < 0)), px].toArray, .int .i64 lv].toArray w (Zbh w fun v _ => v = .bool (inR x lv)) := by
 have hb0 := Below.refl w.heap.size w
 refine enter Try.func62 rfl rfl (Zh (Zb (st (Zbs rfl ?_))))
 intro g1 w1 hg1 hB1 k1 hs1
 change Blk w1 g1 31 [.bool (decide (x < 0)), px].toArray at hB1
 have hb1 := Zf hb0 k1
 refine st (Ze rfl (Zg (Zd (Zh (Zb (st (Zc rfl (st (Za7 rfl rfl om ?_)))))))))
 refine st (Zq fn47 rfl (Zfa (n0 := n0) (Zu hn0 hb1)) ?_)
 rintro v2 w2 ⟨hq1, hv1⟩
 rw [show (Zfm 1 (lv - 1)) = (hf lv) from (Ziq hlv)] at hv1
 obtain ⟨v1, rfl, hS1⟩ := hv1
 have k2 := Zi hq1 none
 have hz1 := hq1.size
 have hb2 := Zf hb1 k2
 have hz2 := hb2.size
 have hlt_1 := ((hB1.g0 k2)).lt
 refine st (Zan Zb3 ?_)
 intro g2 w3 hg2 hB2 k3 hs2
 have hz3 := hb2.size
 have hb3 := Zf hb2 k3
 refine st0 (Zv Zx rfl rfl hB2 (by simp only [List.all_cons, List.all_nil, hS1.one, Bool.and_true, Bool.and_self] <;> rfl) rfl rfl ?_)
 intro w4 hB3 k4 hs3
 have hb4 := belowa hb3 k4
 refine Zg (Zd (Zh ?_))
 by_cases h1 : 0 ≤ (Zbt x (-(hf lv)))
 rotate_left
 ·refine Zce 11 GN [xi 9 <| .agg [.bool (decide (x < 0)), px].toArray, xi 10 <| .agg [.bool (decide ((hf lv) < 0)), v1].toArray, (some 11, fun v W => Zbw 83 n0 W v ((-(hf lv)))), xi 12 <| .int .i64 (Zbt x (-(hf lv))), xi 13 <| .bool (decide (0 ≤ (Zbt x (-(hf lv))))), xi 14 <| .bool false, xu 15, xu 16, xu 17, xu 18, xi 19 <| .bool false] [[], [], [1], [0, 2], [3], [4], [5], [5], [5, 6, 7], [5, 8], [5, 9]] [(2, (pp g1)), (4, .bool false), (5, (pp g2))] sb kr kr Za gnt ⟨kv, kv, fun _ _ _ h k => h.g0 k, kv, kv, kv, kv, kv, kv, kv, kv, trivial⟩ ?_
  intro w26 k26 hs5
  have hb21 := Zf hb4 k26
  refine ⟨⟨?_, ?_, ?_, ?_, ?_, ?_, ?_, ?_, ?_, ?_, ?_, trivial⟩, ?_⟩
  ·intro w27 k27
   refine op1 (Zp Zx rfl (((((hB1.g0 k2).g0 k3).gne k4 om).g0 k26).g0 k27).range rfl ?_)
   exact ⟨rfl, Za _⟩
  ·intro w28 k28
   refine op1 (Zp Zx rfl ((hB3.g0 k26).g0 k28).range rfl ?_)
   exact ⟨rfl, Za _⟩
  ·intro w29 k29
   have hb24 := Zf hb21 k29
   rintro _ rfl
   refine op1 (Zq fn48 rfl (Zgu (n0 := n0) (Zu hn0 hb24) (Zai rfl ((((hS1.gg0 k3).ggB k4 hB2 dc om).gg0 k26).gg0 k29)) (Bd.le (Zci hlv.2) (show 42 ≤ 90000 by decide))) ?_)
   rintro _ w30 ⟨hq10, v8, rfl, hS7⟩
   have k30 := Zi hq10 none
   have hz10 := hq10.size
   have hb25 := Zf hb24 k30
   have hz11 := hb25.size
   exact ⟨⟨_, rfl, hS7⟩, k30⟩
  ·intro w31 k31
   have hb26 := Zf hb21 k31
   rintro _ rfl _ ⟨v9, rfl, hS8⟩
   refine op1 (Zq Zg4 rfl (Zbq (n0 := n0) (Zu hn0 hb26) (Zai rfl ((((((hpx.gg0 k1).gg0 k2).gg0 k3).ggB k4 hB2 dc om).gg0 k26).gg0 k31)) (Zai rfl hS8) (Bd.le hbx (show 50 ≤ 90000 by decide)) (Bd.le (Zlj (Zci hlv.2)) (show 42 ≤ 90000 by decide))) ?_)
   rintro _ w32 ⟨hq11, rfl⟩
   have k32 := Zi hq11 none
   have hz12 := hq11.size
   have hb27 := Zf hb26 k32
   have hz13 := hb27.size
   exact ⟨rfl, k32⟩
  ·intro w33 k33
   rintro _ rfl
   refine op1 (Zg3 rfl rfl ?_)
   exact ⟨rfl, Za _⟩
  ·intro w34 k34
   rintro _ rfl
   refine op1 (Zc rfl ?_)
   exact ⟨(by rw [decide_eq_false h1]), Za _⟩
  ·intro w35 k35
   rintro _ rfl
   refine Za0 ⟨rfl, Za _⟩
  ·intro w36 k36
   rintro _ rfl
   refine Za0 ⟨rfl, Za _⟩
  ·intro w37 k37
   rintro _ rfl
   intro v_ hv_; subst v_
   intro v_ hv_; subst v_
   refine Za0 ⟨rfl, Za _⟩
  ·intro w38 k38
   rintro _ rfl
   intro v_ hv_; subst v_
   refine Za0 ⟨rfl, Za _⟩
  ·intro w39 k39
   rintro _ rfl
   intro v_ hv_; subst v_
   refine op1 (Zr rfl rfl ?_)
   exact ⟨rfl, Za _⟩
  intro w40 k40
  have hb35 := Zf hb21 k40
  rintro _ rfl _ rfl _ ⟨v10, rfl, hS9⟩ _ rfl _ rfl _ rfl
  intro v_ hv_; subst v_
  intro v_ hv_; subst v_
  intro v_ hv_; subst v_
  intro v_ hv_; subst v_
  rintro _ rfl
  refine st (Ze rfl (Zg (Zd (Zaa rfl rfl ?_))))
  exact ⟨_, rfl, hb35, by rw [show inR x lv = false from by unfold inR; rw [decide_eq_false_iff_not]; rintro ⟨h1_, h2_⟩; have h5_ := Zbj.2 h1_; omega]⟩
 refine Zce 11 GN [xi 9 <| .agg [.bool (decide (x < 0)), px].toArray, xi 10 <| .agg [.bool (decide ((hf lv) < 0)), v1].toArray, (some 11, fun v W => Zbw 83 n0 W v ((-(hf lv)))), xi 12 <| .int .i64 (Zbt x (-(hf lv))), xi 13 <| .bool (decide (0 ≤ (Zbt x (-(hf lv))))), xi 14 <| .bool true, xi 15 <| .agg [.bool (decide (x < 0)), px].toArray, xi 16 <| .agg [.bool (decide ((hf lv) < 0)), v1].toArray, xi 17 <| .int .i64 (Zbt x (hf lv)), xi 18 <| .bool (decide ((Zbt x (hf lv)) < 0)), xi 19 <| .bool (decide ((Zbt x (hf lv)) < 0))] [[], [], [1], [0, 2], [3], [4], [5], [5], [5, 6, 7], [5, 8], [5, 9]] [(2, (pp g1)), (4, .bool false), (5, (pp g2))] sb kr kr Za gnt ⟨kv, kv, fun _ _ _ h k => h.g0 k, kv, kv, kv, kv, kv, kv, kv, kv, trivial⟩ ?_
 intro w8 k8 hs4
 have hb5 := Zf hb4 k8
 refine ⟨⟨?_, ?_, ?_, ?_, ?_, ?_, ?_, ?_, ?_, ?_, ?_, trivial⟩, ?_⟩
 ·intro w9 k9
  refine op1 (Zp Zx rfl (((((hB1.g0 k2).g0 k3).gne k4 om).g0 k8).g0 k9).range rfl ?_)
  exact ⟨rfl, Za _⟩
 ·intro w10 k10
  refine op1 (Zp Zx rfl ((hB3.g0 k8).g0 k10).range rfl ?_)
  exact ⟨rfl, Za _⟩
 ·intro w11 k11
  have hb8 := Zf hb5 k11
  rintro _ rfl
  refine op1 (Zq fn48 rfl (Zgu (n0 := n0) (Zu hn0 hb8) (Zai rfl ((((hS1.gg0 k3).ggB k4 hB2 dc om).gg0 k8).gg0 k11)) (Bd.le (Zci hlv.2) (show 42 ≤ 90000 by decide))) ?_)
  rintro _ w12 ⟨hq5, v4, rfl, hS3⟩
  have k12 := Zi hq5 none
  have hz4 := hq5.size
  have hb9 := Zf hb8 k12
  have hz5 := hb9.size
  exact ⟨⟨_, rfl, hS3⟩, k12⟩
 ·intro w13 k13
  have hb10 := Zf hb5 k13
  rintro _ rfl _ ⟨v5, rfl, hS4⟩
  refine op1 (Zq Zg4 rfl (Zbq (n0 := n0) (Zu hn0 hb10) (Zai rfl ((((((hpx.gg0 k1).gg0 k2).gg0 k3).ggB k4 hB2 dc om).gg0 k8).gg0 k13)) (Zai rfl hS4) (Bd.le hbx (show 50 ≤ 90000 by decide)) (Bd.le (Zlj (Zci hlv.2)) (show 42 ≤ 90000 by decide))) ?_)
  rintro _ w14 ⟨hq6, rfl⟩
  have k14 := Zi hq6 none
  have hz6 := hq6.size
  have hb11 := Zf hb10 k14
  have hz7 := hb11.size
  exact ⟨rfl, k14⟩
 ·intro w15 k15
  rintro _ rfl
  refine op1 (Zg3 rfl rfl ?_)
  exact ⟨rfl, Za _⟩
 ·intro w16 k16
  rintro _ rfl
  refine op1 (Zc rfl ?_)
  exact ⟨(by rw [decide_eq_true h1]), Za _⟩
 ·intro w17 k17
  rintro _ rfl
  refine Zas (Zp Zx rfl (((((hB1.g0 k2).g0 k3).gne k4 om).g0 k8).g0 k17).range rfl ?_)
  exact ⟨rfl, Za _⟩
 ·intro w18 k18
  rintro _ rfl
  refine Zas (Zp Zx rfl ((hB3.g0 k8).g0 k18).range rfl ?_)
  exact ⟨rfl, Za _⟩
 ·intro w19 k19
  have hb16 := Zf hb5 k19
  rintro _ rfl _ rfl _ rfl
  refine Zas (Zq Zg4 rfl (Zbq (n0 := n0) (Zu hn0 hb16) (Zai rfl ((((((hpx.gg0 k1).gg0 k2).gg0 k3).ggB k4 hB2 dc om).gg0 k8).gg0 k19)) (Zai rfl ((((hS1.gg0 k3).ggB k4 hB2 dc om).gg0 k8).gg0 k19)) (Bd.le hbx (show 50 ≤ 90000 by decide)) (Bd.le (Zci hlv.2) (show 42 ≤ 90000 by decide))) ?_)
  rintro _ w20 ⟨hq7, rfl⟩
  have k20 := Zi hq7 none
  have hz8 := hq7.size
  have hb17 := Zf hb16 k20
  have hz9 := hb17.size
  exact ⟨rfl, k20⟩
 ·intro w21 k21
  rintro _ rfl _ rfl
  refine Zas (Zbd rfl rfl ?_)
  exact ⟨rfl, Za _⟩
 ·intro w22 k22
  rintro _ rfl _ rfl
  refine op1 (Zr rfl rfl ?_)
  exact ⟨rfl, Za _⟩
 intro w23 k23
 have hb20 := Zf hb5 k23
 rintro _ rfl _ rfl _ ⟨v6, rfl, hS5⟩ _ rfl _ rfl _ rfl _ rfl _ rfl _ rfl _ rfl _ rfl
 refine st (Ze rfl (Zg (Zd (Zaa rfl rfl ?_))))
 exact ⟨_, rfl, hb20, congrArg Value.bool (decide_eq_decide.2 ⟨fun h => ⟨Zbj.1 h1, Zb7.1 h⟩, fun h => Zb7.2 h.2⟩)⟩
set_option maxHeartbeats 1000000 in
theorem Zkx {w : World} {x y lv : Int} {n0 : Nat} (hn0 : n0 ≤ w.heap.size) {px py : Value} (hpx : Sl Kd.u32 w (G 83 n0 w) px (ml x)) (hpy : Sl Kd.u32 w (G 83 n0 w) py (ml y)) (hbx : Bd 50 x) (hby : Bd 50 y) (hlv : 1 ≤ lv ∧ lv ≤ 1329) :
  Calls Try.prog 66 [.int .i64 lv, .agg [.bool (decide (x < 0)), px].toArray, .agg [.bool (decide (y < 0)), py].toArray].toArray w (Zbh w fun r W => ∃ a b, r = .tuple #[.int .i64 (kq lv x y), .agg [.bool (decide (Zao lv x < 0)), a].toArray, .agg [.bool (decide (Zao lv y < 0)), b].toArray] ∧ Sl Kd.u32 W (G 83 n0 W) a (ml (Zao lv x)) ∧ Sl Kd.u32 W (G 83 n0 W) b (ml (Zao lv y))) := by
 have hb0 := Below.refl w.heap.size w
 refine enter Try.func66 rfl rfl (Zh (Zb (st (Zbs rfl ?_))))
 intro g1 w1 hg1 hB1 k1 hs1
 change Blk w1 g1 31 [.bool (decide (x < 0)), px].toArray at hB1
 have hb1 := Zf hb0 k1
 refine st (Zbs rfl ?_)
 intro g2 w2 hg2 hB2 k2 hs2
 change Blk w2 g2 31 [.bool (decide (y < 0)), py].toArray at hB2
 have hb2 := Zf hb1 k2
 refine st (Ze rfl ?_)
 have hlt_1 := ((hB1.g0 k2)).lt
 have hlt_2 := (hB2).lt
 refine st (Zan Zb3 ?_)
 intro g3 w3 hg3 hB3 k3 hs3
 have hz1 := hb2.size
 have hb3 := Zf hb2 k3
 have hlt_3 := (((hB1.g0 k2).g0 k3)).lt
 have hlt_4 := ((hB2.g0 k3)).lt
 have hlt_5 := (hB3).lt
 refine st (Zan Zb3 ?_)
 intro g4 w4 hg4 hB4 k4 hs4
 have hz2 := hb3.size
 have hb4 := Zf hb3 k4
 refine Zg (Zd (Zh (Zb (st (Zc rfl (st (Za7 rfl rfl om (st (Zq fn47 rfl (Zfa (n0 := n0) (Zu hn0 hb4)) ?_)))))))))
 rintro v2 w5 ⟨hq1, hv1⟩
 rw [show (Zfm 1 (lv - 1)) = (hf lv) from (Ziq hlv)] at hv1
 obtain ⟨v1, rfl, hS1⟩ := hv1
 have k5 := Zi hq1 none
 have hz3 := hq1.size
 have hb5 := Zf hb4 k5
 have hz4 := hb5.size
 have hlt_6 := (((((hB1.g0 k2).g0 k3).g0 k4).g0 k5)).lt
 have hlt_7 := ((((hB2.g0 k3).g0 k4).g0 k5)).lt
 have hlt_8 := (((hB3.g0 k4).g0 k5)).lt
 have hlt_9 := ((hB4.g0 k5)).lt
 refine st (Zan Zb3 ?_)
 intro g5 w6 hg5 hB5 k6 hs5
 have hz5 := hb5.size
 have hb6 := Zf hb5 k6
 refine st0 (Zv Zx rfl rfl hB5 (by simp only [List.all_cons, List.all_nil, hS1.one, Bool.and_true, Bool.and_self] <;> rfl) rfl rfl ?_)
 intro w7 hB6 k7 hs6
 have hb7 := belowa hb6 k7
 refine Zg (Zd (Zh (Zb (st (Ze rfl (Zg (Zd ?_)))))))
 refine Zh (Zh (Zb (st (Zp Zx rfl ((((((hB1.g0 k2).g0 k3).g0 k4).g0 k5).g0 k6).gne k7 om).range rfl (st (Zp Zx rfl hB6.range rfl (st (Zq Zg4 rfl (Zbq (n0 := n0) (Zu hn0 hb7) (Zai rfl (((((((hpx.gg0 k1).gg0 k2).gg0 k3).gg0 k4).gg0 k5).gg0 k6).ggB k7 hB5 dc om)) (Zai rfl ((hS1.gg0 k6).ggB k7 hB5 dc om)) (Bd.le hbx (show 50 ≤ 90000 by decide)) (Bd.le (Zci hlv.2) (show 42 ≤ 90000 by decide))) ?_))))))))
 rintro _ w8 ⟨hq2, rfl⟩
 have k8 := Zi hq2 none
 have hz6 := hq2.size
 have hb8 := Zf hb7 k8
 have hz7 := hb8.size
 refine st (Zg3 rfl rfl (Zg (Zd ?_)))
 refine Zw rfl (fun h1 => ?_) (fun h1 => ?_)
 rotate_left
 ·refine Zo (Zd (Zh (Zh (Zb (st (Zp Zx rfl ((((((hB2.g0 k3).g0 k4).g0 k5).g0 k6).gne k7 om).g0 k8).range rfl (st (Zp Zx rfl (hB6.g0 k8).range rfl ?_))))))))
  refine st (Zq Zg4 rfl (Zbq (n0 := n0) (Zu hn0 hb8) (Zai rfl ((((((((hpy.gg0 k1).gg0 k2).gg0 k3).gg0 k4).gg0 k5).gg0 k6).ggB k7 hB5 dc om).gg0 k8)) (Zai rfl (((hS1.gg0 k6).ggB k7 hB5 dc om).gg0 k8)) (Bd.le hby (show 50 ≤ 90000 by decide)) (Bd.le (Zci hlv.2) (show 42 ≤ 90000 by decide))) ?_)
  rintro _ w34 ⟨hq6, rfl⟩
  have k34 := Zi hq6 none
  have hz26 := hq6.size
  have hb32 := Zf hb8 k34
  have hz27 := hb32.size
  refine st (Zg3 rfl rfl (Zg (Zd ?_)))
  refine Zw rfl (fun h3 => ?_) (fun h3 => ?_)
  rotate_left
  ·refine Zo (Zd (Zh ?_))
   refine Zhe 5 (fun a b => a.grownBy b (some g3)) GN (fun a b => a.grownBy b (some g3)) [xi 32 <| .int .i64 0, xi 33 <| .agg [.bool (decide (x < 0)), px].toArray, xi 34 <| .agg [.bool (decide (y < 0)), py].toArray, xi 6 <| .int .i64 0, (none, fun _ W => Blk W g3 31 ([.bool (decide (x < 0)), px] : List Value).toArray)] [[], [], [], [0], [1]] [[], [], [], [0], [0, 1, 3]] [[], [], [], [], []] [false, false, false, false, true] [true, true, true, true, false] [true, true, false, true, true] [(4, (pp g1)), (5, (pp g2)), (7, (pp g3)), (8, (pp g4)), (10, .int .i64 0)] sb kr kr kr rfl (Zdw g3) Zdq (fun _ _ h => Zea h) (fun _ _ h => h) ⟨kv, kv, kv, kv, kv, kv, kv, kv, fun _ _ _ h k => h.g0 k, trivial⟩ Za gnt rfl ?_
   intro w48 k48 hs23
   have hb44 := Zf hb32 k48
   refine ⟨⟨?_, ?_, ?_, ?_, ?_, trivial⟩, ?_⟩
   ·intro w49 k49
    have hb45 := Zf hb44 k49
    have hz36 := hb45.size
    refine op1 (Zc rfl ?_)
    exact ⟨rfl, Za _⟩
   ·intro w50 k50
    have hb46 := Zf hb44 k50
    have hz37 := hb46.size
    refine op1 (Zp Zx rfl ((((((((((hB1.g0 k2).g0 k3).g0 k4).g0 k5).g0 k6).gne k7 om).g0 k8).g0 k34).g0 k48).g0 k50).range rfl ?_)
    exact ⟨rfl, Za _⟩
   ·intro w51 k51
    have hb47 := belowa hb44 k51
    have hz38 := hb47.size
    refine op1 (Zp Zx rfl (((((((((hB2.g0 k3).g0 k4).g0 k5).g0 k6).gne k7 om).g0 k8).g0 k34).g0 k48).gne k51 om).range rfl ?_)
    exact ⟨rfl, Za _⟩
   ·intro w52 k52
    have hb48 := Zf hb44 k52
    have hz39 := hb48.size
    rintro _ rfl
    refine op1 (Ze rfl ?_)
    exact ⟨rfl, Za _⟩
   ·intro w53 k53
    have hb49 := Zf hb44 k53
    have hz40 := hb49.size
    rintro _ rfl
    refine op1 (Zv Zx rfl rfl ((((((((hB3.g0 k4).g0 k5).g0 k6).gne k7 om).g0 k8).g0 k34).g0 k48).g0 k53) (by simp only [List.all_cons, List.all_nil, hpx.one, Bool.and_true, Bool.and_self] <;> rfl) rfl rfl ?_)
    intro w54 hB23 k54 hs24
    exact ⟨hB23, k54⟩
   rintro w55 k55 _ rfl _ rfl _ rfl _ rfl v_ hB24
   have hb51 := belowa hb44 k55
   have hz41 := hb51.size
   refine st0 (Zv Zx rfl rfl (((((((hB4.g0 k5).g0 k6).gne k7 om).g0 k8).g0 k34).g0 k48).gne k55 om) (by simp only [List.all_cons, List.all_nil, hpy.one, Bool.and_true, Bool.and_self] <;> rfl) rfl rfl ?_)
   intro w56 hB25 k56 hs25
   have hb52 := belowa hb51 k56
   refine Zg (Zd (w_retc3 rfl Zx Zx rfl rfl rfl (hB24.gne k56 om).range rfl hB25.range rfl ?_))
   have e1_ : Zao lv x = x := if_neg (fun e_ => h1 (Zbj.2 e_))
   have e2_ : Zao lv y = y := if_neg (fun e_ => h3 (Zbj.2 e_))
   have e3_ : kq lv x y = 0 := by unfold kq; rw [if_neg (fun e_ => h1 (Zbj.2 e_)), if_neg (fun e_ => h3 (Zbj.2 e_))] <;> rfl
   rw [e1_, e2_, e3_]
   exact ⟨_, rfl, hb52, _, _, rfl, ((((((((((((hpx.gg0 k1).gg0 k2).gg0 k3).gg0 k4).gg0 k5).gg0 k6).ggB k7 hB5 dc om).gg0 k8).gg0 k34).gg0 k48).ggB k55 (((((((hB3.g0 k4).g0 k5).g0 k6).gne k7 om).g0 k8).g0 k34).g0 k48) dc om).ggB k56 (((((((hB4.g0 k5).g0 k6).gne k7 om).g0 k8).g0 k34).g0 k48).gne k55 om) dc om), ((((((((((((hpy.gg0 k1).gg0 k2).gg0 k3).gg0 k4).gg0 k5).gg0 k6).ggB k7 hB5 dc om).gg0 k8).gg0 k34).gg0 k48).ggB k55 (((((((hB3.g0 k4).g0 k5).g0 k6).gne k7 om).g0 k8).g0 k34).g0 k48) dc om).ggB k56 (((((((hB4.g0 k5).g0 k6).gne k7 om).g0 k8).g0 k34).g0 k48).gne k55 om) dc om)⟩
  refine Zb (st (Zc rfl (st (Zah rfl rfl om (st (Zp Zx rfl (((((((hB2.g0 k3).g0 k4).g0 k5).g0 k6).gne k7 om).g0 k8).g0 k34).range rfl (st (Zp Zx rfl ((hB6.g0 k8).g0 k34).range rfl (st (Zq fn21 rfl (Zje (n0 := n0) (Zu hn0 hb32) (Zai rfl (((((((((hpy.gg0 k1).gg0 k2).gg0 k3).gg0 k4).gg0 k5).gg0 k6).ggB k7 hB5 dc om).gg0 k8).gg0 k34)) (Zai rfl ((((hS1.gg0 k6).ggB k7 hB5 dc om).gg0 k8).gg0 k34)) (Bd.le hby (show 50 ≤ 90000 by decide)) (Bd.le (Zci hlv.2) (show 42 ≤ 90000 by decide))) ?_))))))))))
  rintro _ w35 ⟨hq7, v5, rfl, hS4⟩
  have k35 := Zi hq7 none
  have hz28 := hq7.size
  have hb33 := Zf hb32 k35
  have hz29 := hb33.size
  refine st (Ze rfl (st0 (Zv Zx rfl rfl ((((((((hB2.g0 k3).g0 k4).g0 k5).g0 k6).gne k7 om).g0 k8).g0 k34).g0 k35) (by simp only [List.all_cons, List.all_nil, hS4.one, Bool.and_true, Bool.and_self] <;> rfl) rfl rfl ?_)))
  intro w36 hB17 k36 hs17
  have hb34 := belowa hb33 k36
  refine Zg (Zd (Zh ?_))
  refine Zhe 5 (fun a b => a.grownBy b (some g3)) GN (fun a b => a.grownBy b (some g3)) [xi 32 <| .int .i64 (0 + 2), xi 33 <| .agg [.bool (decide (x < 0)), px].toArray, xi 34 <| .agg [.bool (decide ((y - (hf lv)) < 0)), v5].toArray, xi 6 <| .int .i64 (0 + 2), (none, fun _ W => Blk W g3 31 ([.bool (decide (x < 0)), px] : List Value).toArray)] [[], [], [], [0], [1]] [[], [], [], [0], [0, 1, 3]] [[], [], [], [], []] [false, false, false, false, true] [true, true, true, true, false] [true, true, false, true, true] [(4, (pp g1)), (5, (pp g2)), (7, (pp g3)), (8, (pp g4)), (10, .int .i64 (0 + 2))] sb kr kr kr rfl (Zdw g3) Zdq (fun _ _ h => Zea h) (fun _ _ h => h) ⟨kv, kv, kv, kv, kv, kv, kv, kv, fun _ _ _ h k => h.g0 k, trivial⟩ Za gnt rfl ?_
  intro w38 k38 hs19
  have hb35 := Zf hb34 k38
  refine ⟨⟨?_, ?_, ?_, ?_, ?_, trivial⟩, ?_⟩
  ·intro w39 k39
   have hb36 := Zf hb35 k39
   have hz30 := hb36.size
   refine op1 (Zc rfl ?_)
   exact ⟨rfl, Za _⟩
  ·intro w40 k40
   have hb37 := Zf hb35 k40
   have hz31 := hb37.size
   refine op1 (Zp Zx rfl ((((((((((((hB1.g0 k2).g0 k3).g0 k4).g0 k5).g0 k6).gne k7 om).g0 k8).g0 k34).g0 k35).gne k36 om).g0 k38).g0 k40).range rfl ?_)
   exact ⟨rfl, Za _⟩
  ·intro w41 k41
   have hb38 := belowa hb35 k41
   have hz32 := hb38.size
   refine op1 (Zp Zx rfl ((hB17.g0 k38).gne k41 om).range rfl ?_)
   exact ⟨rfl, Za _⟩
  ·intro w42 k42
   have hb39 := Zf hb35 k42
   have hz33 := hb39.size
   rintro _ rfl
   refine op1 (Ze rfl ?_)
   exact ⟨rfl, Za _⟩
  ·intro w43 k43
   have hb40 := Zf hb35 k43
   have hz34 := hb40.size
   rintro _ rfl
   refine op1 (Zv Zx rfl rfl ((((((((((hB3.g0 k4).g0 k5).g0 k6).gne k7 om).g0 k8).g0 k34).g0 k35).gne k36 om).g0 k38).g0 k43) (by simp only [List.all_cons, List.all_nil, hpx.one, Bool.and_true, Bool.and_self] <;> rfl) rfl rfl ?_)
   intro w44 hB19 k44 hs20
   exact ⟨hB19, k44⟩
  rintro w45 k45 _ rfl _ rfl _ rfl _ rfl v_ hB20
  have hb42 := belowa hb35 k45
  have hz35 := hb42.size
  refine st0 (Zv Zx rfl rfl (((((((((hB4.g0 k5).g0 k6).gne k7 om).g0 k8).g0 k34).g0 k35).gne k36 om).g0 k38).gne k45 om) (by simp only [List.all_cons, List.all_nil, hS4.one, Bool.and_true, Bool.and_self] <;> rfl) rfl rfl ?_)
  intro w46 hB21 k46 hs21
  have hb43 := belowa hb42 k46
  refine Zg (Zd (w_retc3 rfl Zx Zx rfl rfl rfl (hB20.gne k46 om).range rfl hB21.range rfl ?_))
  have e1_ : Zao lv x = x := if_neg (fun e_ => h1 (Zbj.2 e_))
  have e2_ : Zao lv y = (y - (hf lv)) := if_pos (Zbj.1 h3)
  have e3_ : kq lv x y = (0 + 2) := by unfold kq; rw [if_neg (fun e_ => h1 (Zbj.2 e_)), if_pos (Zbj.1 h3)] <;> rfl
  rw [e1_, e2_, e3_]
  exact ⟨_, rfl, hb43, _, _, rfl, ((((((((((((((hpx.gg0 k1).gg0 k2).gg0 k3).gg0 k4).gg0 k5).gg0 k6).ggB k7 hB5 dc om).gg0 k8).gg0 k34).gg0 k35).ggB k36 ((((((((hB2.g0 k3).g0 k4).g0 k5).g0 k6).gne k7 om).g0 k8).g0 k34).g0 k35) dc om).gg0 k38).ggB k45 (((((((((hB3.g0 k4).g0 k5).g0 k6).gne k7 om).g0 k8).g0 k34).g0 k35).gne k36 om).g0 k38) dc om).ggB k46 (((((((((hB4.g0 k5).g0 k6).gne k7 om).g0 k8).g0 k34).g0 k35).gne k36 om).g0 k38).gne k45 om) dc om), ((((hS4.ggB k36 ((((((((hB2.g0 k3).g0 k4).g0 k5).g0 k6).gne k7 om).g0 k8).g0 k34).g0 k35) dc om).gg0 k38).ggB k45 (((((((((hB3.g0 k4).g0 k5).g0 k6).gne k7 om).g0 k8).g0 k34).g0 k35).gne k36 om).g0 k38) dc om).ggB k46 (((((((((hB4.g0 k5).g0 k6).gne k7 om).g0 k8).g0 k34).g0 k35).gne k36 om).g0 k38).gne k45 om) dc om)⟩
 refine Zb (st (Zc rfl (st (Zah rfl rfl om (st (Zp Zx rfl (((((((hB1.g0 k2).g0 k3).g0 k4).g0 k5).g0 k6).gne k7 om).g0 k8).range rfl (st (Zp Zx rfl (hB6.g0 k8).range rfl (st (Zq fn21 rfl (Zje (n0 := n0) (Zu hn0 hb8) (Zai rfl ((((((((hpx.gg0 k1).gg0 k2).gg0 k3).gg0 k4).gg0 k5).gg0 k6).ggB k7 hB5 dc om).gg0 k8)) (Zai rfl (((hS1.gg0 k6).ggB k7 hB5 dc om).gg0 k8)) (Bd.le hbx (show 50 ≤ 90000 by decide)) (Bd.le (Zci hlv.2) (show 42 ≤ 90000 by decide))) ?_))))))))))
 rintro _ w9 ⟨hq3, v3, rfl, hS2⟩
 have k9 := Zi hq3 none
 have hz8 := hq3.size
 have hb9 := Zf hb8 k9
 have hz9 := hb9.size
 refine st (Ze rfl (st0 (Zv Zx rfl rfl ((((((((hB1.g0 k2).g0 k3).g0 k4).g0 k5).g0 k6).gne k7 om).g0 k8).g0 k9) (by simp only [List.all_cons, List.all_nil, hS2.one, Bool.and_true, Bool.and_self] <;> rfl) rfl rfl ?_)))
 intro w10 hB7 k10 hs7
 have hb10 := belowa hb9 k10
 refine Zg (Zd (Zh (Zh (Zb (st (Zp Zx rfl ((((((((hB2.g0 k3).g0 k4).g0 k5).g0 k6).gne k7 om).g0 k8).g0 k9).gne k10 om).range rfl (st (Zp Zx rfl (((hB6.g0 k8).g0 k9).gne k10 om).range rfl ?_))))))))
 refine st (Zq Zg4 rfl (Zbq (n0 := n0) (Zu hn0 hb10) (Zai rfl ((((((((((hpy.gg0 k1).gg0 k2).gg0 k3).gg0 k4).gg0 k5).gg0 k6).ggB k7 hB5 dc om).gg0 k8).gg0 k9).ggB k10 ((((((((hB1.g0 k2).g0 k3).g0 k4).g0 k5).g0 k6).gne k7 om).g0 k8).g0 k9) dc om)) (Zai rfl (((((hS1.gg0 k6).ggB k7 hB5 dc om).gg0 k8).gg0 k9).ggB k10 ((((((((hB1.g0 k2).g0 k3).g0 k4).g0 k5).g0 k6).gne k7 om).g0 k8).g0 k9) dc om)) (Bd.le hby (show 50 ≤ 90000 by decide)) (Bd.le (Zci hlv.2) (show 42 ≤ 90000 by decide))) ?_)
 rintro _ w11 ⟨hq4, rfl⟩
 have k11 := Zi hq4 none
 have hz10 := hq4.size
 have hb11 := Zf hb10 k11
 have hz11 := hb11.size
 refine st (Zg3 rfl rfl (Zg (Zd ?_)))
 refine Zw rfl (fun h2 => ?_) (fun h2 => ?_)
 rotate_left
 ·refine Zo (Zd (Zh ?_))
  refine Zhe 5 (fun a b => a.grownBy b (some g3)) GN (fun a b => a.grownBy b (some g3)) [xi 32 <| .int .i64 (0 + 1), xi 33 <| .agg [.bool (decide ((x - (hf lv)) < 0)), v3].toArray, xi 34 <| .agg [.bool (decide (y < 0)), py].toArray, xi 6 <| .int .i64 (0 + 1), (none, fun _ W => Blk W g3 31 ([.bool (decide ((x - (hf lv)) < 0)), v3] : List Value).toArray)] [[], [], [], [0], [1]] [[], [], [], [0], [0, 1, 3]] [[], [], [], [], []] [false, false, false, false, true] [true, true, true, true, false] [true, true, false, true, true] [(4, (pp g1)), (5, (pp g2)), (7, (pp g3)), (8, (pp g4)), (10, .int .i64 (0 + 1))] sb kr kr kr rfl (Zdw g3) Zdq (fun _ _ h => Zea h) (fun _ _ h => h) ⟨kv, kv, kv, kv, kv, kv, kv, kv, fun _ _ _ h k => h.g0 k, trivial⟩ Za gnt rfl ?_
  intro w25 k25 hs14
  have hb23 := Zf hb11 k25
  refine ⟨⟨?_, ?_, ?_, ?_, ?_, trivial⟩, ?_⟩
  ·intro w26 k26
   have hb24 := Zf hb23 k26
   have hz20 := hb24.size
   refine op1 (Zc rfl ?_)
   exact ⟨rfl, Za _⟩
  ·intro w27 k27
   have hb25 := Zf hb23 k27
   have hz21 := hb25.size
   refine op1 (Zp Zx rfl (((hB7.g0 k11).g0 k25).g0 k27).range rfl ?_)
   exact ⟨rfl, Za _⟩
  ·intro w28 k28
   have hb26 := belowa hb23 k28
   have hz22 := hb26.size
   refine op1 (Zp Zx rfl (((((((((((hB2.g0 k3).g0 k4).g0 k5).g0 k6).gne k7 om).g0 k8).g0 k9).gne k10 om).g0 k11).g0 k25).gne k28 om).range rfl ?_)
   exact ⟨rfl, Za _⟩
  ·intro w29 k29
   have hb27 := Zf hb23 k29
   have hz23 := hb27.size
   rintro _ rfl
   refine op1 (Ze rfl ?_)
   exact ⟨rfl, Za _⟩
  ·intro w30 k30
   have hb28 := Zf hb23 k30
   have hz24 := hb28.size
   rintro _ rfl
   refine op1 (Zv Zx rfl rfl ((((((((((hB3.g0 k4).g0 k5).g0 k6).gne k7 om).g0 k8).g0 k9).gne k10 om).g0 k11).g0 k25).g0 k30) (by simp only [List.all_cons, List.all_nil, hS2.one, Bool.and_true, Bool.and_self] <;> rfl) rfl rfl ?_)
   intro w31 hB14 k31 hs15
   exact ⟨hB14, k31⟩
  rintro w32 k32 _ rfl _ rfl _ rfl _ rfl v_ hB15
  have hb30 := belowa hb23 k32
  have hz25 := hb30.size
  refine st0 (Zv Zx rfl rfl (((((((((hB4.g0 k5).g0 k6).gne k7 om).g0 k8).g0 k9).gne k10 om).g0 k11).g0 k25).gne k32 om) (by simp only [List.all_cons, List.all_nil, hpy.one, Bool.and_true, Bool.and_self] <;> rfl) rfl rfl ?_)
  intro w33 hB16 k33 hs16
  have hb31 := belowa hb30 k33
  refine Zg (Zd (w_retc3 rfl Zx Zx rfl rfl rfl (hB15.gne k33 om).range rfl hB16.range rfl ?_))
  have e1_ : Zao lv x = (x - (hf lv)) := if_pos (Zbj.1 h1)
  have e2_ : Zao lv y = y := if_neg (fun e_ => h2 (Zbj.2 e_))
  have e3_ : kq lv x y = (0 + 1) := by unfold kq; rw [if_pos (Zbj.1 h1), if_neg (fun e_ => h2 (Zbj.2 e_))] <;> rfl
  rw [e1_, e2_, e3_]
  exact ⟨_, rfl, hb31, _, _, rfl, (((((hS2.ggB k10 ((((((((hB1.g0 k2).g0 k3).g0 k4).g0 k5).g0 k6).gne k7 om).g0 k8).g0 k9) dc om).gg0 k11).gg0 k25).ggB k32 (((((((((hB3.g0 k4).g0 k5).g0 k6).gne k7 om).g0 k8).g0 k9).gne k10 om).g0 k11).g0 k25) dc om).ggB k33 (((((((((hB4.g0 k5).g0 k6).gne k7 om).g0 k8).g0 k9).gne k10 om).g0 k11).g0 k25).gne k32 om) dc om), ((((((((((((((hpy.gg0 k1).gg0 k2).gg0 k3).gg0 k4).gg0 k5).gg0 k6).ggB k7 hB5 dc om).gg0 k8).gg0 k9).ggB k10 ((((((((hB1.g0 k2).g0 k3).g0 k4).g0 k5).g0 k6).gne k7 om).g0 k8).g0 k9) dc om).gg0 k11).gg0 k25).ggB k32 (((((((((hB3.g0 k4).g0 k5).g0 k6).gne k7 om).g0 k8).g0 k9).gne k10 om).g0 k11).g0 k25) dc om).ggB k33 (((((((((hB4.g0 k5).g0 k6).gne k7 om).g0 k8).g0 k9).gne k10 om).g0 k11).g0 k25).gne k32 om) dc om)⟩
 refine Zb (st (Zc rfl (st (Zah rfl rfl om (st (Zp Zx rfl (((((((((hB2.g0 k3).g0 k4).g0 k5).g0 k6).gne k7 om).g0 k8).g0 k9).gne k10 om).g0 k11).range rfl (st (Zp Zx rfl ((((hB6.g0 k8).g0 k9).gne k10 om).g0 k11).range rfl ?_))))))))
 refine st (Zq fn21 rfl (Zje (n0 := n0) (Zu hn0 hb11) (Zai rfl (((((((((((hpy.gg0 k1).gg0 k2).gg0 k3).gg0 k4).gg0 k5).gg0 k6).ggB k7 hB5 dc om).gg0 k8).gg0 k9).ggB k10 ((((((((hB1.g0 k2).g0 k3).g0 k4).g0 k5).g0 k6).gne k7 om).g0 k8).g0 k9) dc om).gg0 k11)) (Zai rfl ((((((hS1.gg0 k6).ggB k7 hB5 dc om).gg0 k8).gg0 k9).ggB k10 ((((((((hB1.g0 k2).g0 k3).g0 k4).g0 k5).g0 k6).gne k7 om).g0 k8).g0 k9) dc om).gg0 k11)) (Bd.le hby (show 50 ≤ 90000 by decide)) (Bd.le (Zci hlv.2) (show 42 ≤ 90000 by decide))) ?_)
 rintro _ w12 ⟨hq5, v4, rfl, hS3⟩
 have k12 := Zi hq5 none
 have hz12 := hq5.size
 have hb12 := Zf hb11 k12
 have hz13 := hb12.size
 refine st (Ze rfl (st0 (Zv Zx rfl rfl ((((((((((hB2.g0 k3).g0 k4).g0 k5).g0 k6).gne k7 om).g0 k8).g0 k9).gne k10 om).g0 k11).g0 k12) (by simp only [List.all_cons, List.all_nil, hS3.one, Bool.and_true, Bool.and_self] <;> rfl) rfl rfl ?_)))
 intro w13 hB8 k13 hs8
 have hb13 := belowa hb12 k13
 refine Zg (Zd (Zh ?_))
 refine Zhe 5 (fun a b => a.grownBy b (some g3)) GN (fun a b => a.grownBy b (some g3)) [xi 32 <| .int .i64 ((0 + 1) + 2), xi 33 <| .agg [.bool (decide ((x - (hf lv)) < 0)), v3].toArray, xi 34 <| .agg [.bool (decide ((y - (hf lv)) < 0)), v4].toArray, xi 6 <| .int .i64 ((0 + 1) + 2), (none, fun _ W => Blk W g3 31 ([.bool (decide ((x - (hf lv)) < 0)), v3] : List Value).toArray)] [[], [], [], [0], [1]] [[], [], [], [0], [0, 1, 3]] [[], [], [], [], []] [false, false, false, false, true] [true, true, true, true, false] [true, true, false, true, true] [(4, (pp g1)), (5, (pp g2)), (7, (pp g3)), (8, (pp g4)), (10, .int .i64 ((0 + 1) + 2))] sb kr kr kr rfl (Zdw g3) Zdq (fun _ _ h => Zea h) (fun _ _ h => h) ⟨kv, kv, kv, kv, kv, kv, kv, kv, fun _ _ _ h k => h.g0 k, trivial⟩ Za gnt rfl ?_
 intro w15 k15 hs10
 have hb14 := Zf hb13 k15
 refine ⟨⟨?_, ?_, ?_, ?_, ?_, trivial⟩, ?_⟩
 ·intro w16 k16
  have hb15 := Zf hb14 k16
  have hz14 := hb15.size
  refine op1 (Zc rfl ?_)
  exact ⟨rfl, Za _⟩
 ·intro w17 k17
  have hb16 := Zf hb14 k17
  have hz15 := hb16.size
  refine op1 (Zp Zx rfl (((((hB7.g0 k11).g0 k12).gne k13 om).g0 k15).g0 k17).range rfl ?_)
  exact ⟨rfl, Za _⟩
 ·intro w18 k18
  have hb17 := belowa hb14 k18
  have hz16 := hb17.size
  refine op1 (Zp Zx rfl ((hB8.g0 k15).gne k18 om).range rfl ?_)
  exact ⟨rfl, Za _⟩
 ·intro w19 k19
  have hb18 := Zf hb14 k19
  have hz17 := hb18.size
  rintro _ rfl
  refine op1 (Ze rfl ?_)
  exact ⟨rfl, Za _⟩
 ·intro w20 k20
  have hb19 := Zf hb14 k20
  have hz18 := hb19.size
  rintro _ rfl
  refine op1 (Zv Zx rfl rfl ((((((((((((hB3.g0 k4).g0 k5).g0 k6).gne k7 om).g0 k8).g0 k9).gne k10 om).g0 k11).g0 k12).gne k13 om).g0 k15).g0 k20) (by simp only [List.all_cons, List.all_nil, hS2.one, Bool.and_true, Bool.and_self] <;> rfl) rfl rfl ?_)
  intro w21 hB10 k21 hs11
  exact ⟨hB10, k21⟩
 rintro w22 k22 _ rfl _ rfl _ rfl _ rfl v_ hB11
 have hb21 := belowa hb14 k22
 have hz19 := hb21.size
 refine st0 (Zv Zx rfl rfl (((((((((((hB4.g0 k5).g0 k6).gne k7 om).g0 k8).g0 k9).gne k10 om).g0 k11).g0 k12).gne k13 om).g0 k15).gne k22 om) (by simp only [List.all_cons, List.all_nil, hS3.one, Bool.and_true, Bool.and_self] <;> rfl) rfl rfl ?_)
 intro w23 hB12 k23 hs12
 have hb22 := belowa hb21 k23
 refine Zg (Zd (w_retc3 rfl Zx Zx rfl rfl rfl (hB11.gne k23 om).range rfl hB12.range rfl ?_))
 have e1_ : Zao lv x = (x - (hf lv)) := if_pos (Zbj.1 h1)
 have e2_ : Zao lv y = (y - (hf lv)) := if_pos (Zbj.1 h2)
 have e3_ : kq lv x y = ((0 + 1) + 2) := by unfold kq; rw [if_pos (Zbj.1 h1), if_pos (Zbj.1 h2)] <;> rfl
 rw [e1_, e2_, e3_]
 exact ⟨_, rfl, hb22, _, _, rfl, (((((((hS2.ggB k10 ((((((((hB1.g0 k2).g0 k3).g0 k4).g0 k5).g0 k6).gne k7 om).g0 k8).g0 k9) dc om).gg0 k11).gg0 k12).ggB k13 ((((((((((hB2.g0 k3).g0 k4).g0 k5).g0 k6).gne k7 om).g0 k8).g0 k9).gne k10 om).g0 k11).g0 k12) dc om).gg0 k15).ggB k22 (((((((((((hB3.g0 k4).g0 k5).g0 k6).gne k7 om).g0 k8).g0 k9).gne k10 om).g0 k11).g0 k12).gne k13 om).g0 k15) dc om).ggB k23 (((((((((((hB4.g0 k5).g0 k6).gne k7 om).g0 k8).g0 k9).gne k10 om).g0 k11).g0 k12).gne k13 om).g0 k15).gne k22 om) dc om), ((((hS3.ggB k13 ((((((((((hB2.g0 k3).g0 k4).g0 k5).g0 k6).gne k7 om).g0 k8).g0 k9).gne k10 om).g0 k11).g0 k12) dc om).gg0 k15).ggB k22 (((((((((((hB3.g0 k4).g0 k5).g0 k6).gne k7 om).g0 k8).g0 k9).gne k10 om).g0 k11).g0 k12).gne k13 om).g0 k15) dc om).ggB k23 (((((((((((hB4.g0 k5).g0 k6).gne k7 om).g0 k8).g0 k9).gne k10 om).g0 k11).g0 k12).gne k13 om).g0 k15).gne k22 om) dc om)⟩
set_option maxHeartbeats 1000000 in
theorem rmost_any {w : World} {va : Value} {l : List Nd} {F : Nat → Prop} (hl : Sl Kd.node w F va l) (hcan : Gw.Can l) (hll : l.length ≤ 100000)  :
  Calls Try.prog 34 [.agg [va].toArray].toArray w (Zbh w fun v _ => v = .int .u8 (Zer l)) := by
 have hb0 := Below.refl w.heap.size w
 refine enter Try.func34 rfl rfl (Zh (Zb (st (Zbs rfl ?_))))
 intro g1 w1 hg1 hB1 k1 hs1
 change Blk w1 g1 25 [va].toArray at hB1
 have hb1 := Zf hb0 k1
 refine st (Ze rfl (Zg (Zd (Zh (Zb (st (Ze rfl (Zg ?_))))))))
 refine Zd (Zh (Zh (Zb (st (Ze rfl (Zg (Zd ?_)))))))
 refine Zz (Za2 (α := Int × Int) (fun ((i, m) : Int × Int) => [(1, (pp g1)), (2, .int .u8 0), (3, .int .i64 m), (4, .int .i64 i)]) (fun ((i, m) : Int × Int) W => Below w.heap.size w W ∧ (0 ≤ i ∧ i ≤ l.length) ∧ (m = Zer (l.take i.toNat)) ∧ (0 ≤ m ∧ m ≤ 255) ∧ (Blk W g1 25 [va].toArray)) (fun ((i, m) : Int × Int) => (l.length - i).toNat) ((0), (0)) ⟨hb1, by omega, rfl, by omega, hB1⟩ sb ?_)
 rintro ⟨i, m⟩ w2 ⟨hb2, hi, hm, hmr, hBl1⟩
 dsimp only at *
 have hz1 := hb2.size
 refine Zh (Zh (Zb (st (Zc rfl (st (Zn Zcb rfl (st (Zt Zb8 rfl hBl1.range (j := 0) rfl (st (Zaq Zaw rfl (hl.at0 hb2) ?_))))))))))
 refine st (Zbd rfl rfl (Zg (Zd ?_)))
 refine Zw rfl (fun h1 => ?_) (fun h1 => ?_)
 rotate_left
 ·refine Zak (Zk (Zk (Zs (Zd (Zh (Zb ?_))))))
  refine st (Zc rfl (st (Zco (M := 256) rfl rfl Zh5 Zgs rfl (st (Ze rfl (Zg (Zd (Zaa rfl rfl ?_))))))))
  exact ⟨_, rfl, hb2, by rw [← most_all (l := l) (i := i) om, ← hm, Int.emod_eq_of_lt om om]⟩
 have hlt := h1
 refine Zo (Zd (Zh (Zz (Zh (Zb (st (Ze rfl ?_)))))))
 refine Zg (Zd (Zz (Za2 (α := Int × Int) (fun ((k, m2) : Int × Int) => [(1, (pp g1)), (2, .int .u8 0), (3, .int .i64 m2), (4, .int .i64 i), (5, .int .i64 k)]) (fun ((k, m2) : Int × Int) W => Below w.heap.size w W ∧ (0 ≤ k ∧ k ≤ 4) ∧ (m2 = mx4 (Zer (l.take i.toNat)) (ix l i) k) ∧ (k = 0 ∨ (ix l i).lv = 1) ∧ (0 ≤ m2 ∧ m2 ≤ 255) ∧ (Blk W g1 25 [va].toArray)) (fun ((k, m2) : Int × Int) => (4 - k).toNat) ((0), (m)) ⟨hb2, by omega, by rw [hm]; rfl, by omega, by omega, hBl1⟩ sb ?_)))
 rintro ⟨k, m2⟩ w3 ⟨hb3, hk, hm2, hkl, hmr2, hBl2⟩
 dsimp only at *
 have hz2 := hb3.size
 refine Zh (Zh (Zb (st (Zc rfl (st (Zbd rfl rfl (st (Zc rfl ?_))))))))
 refine Zax 15 rfl (fun h2 => ?_) (fun h2 => ?_)
 rotate_left
 ·refine Zj rfl rfl (Zj rfl rfl (Zj rfl rfl (Zj rfl rfl (Zj rfl rfl (Zj rfl rfl (Zj rfl rfl ?_))))))
  refine st (Zr rfl rfl (Zg (Zd (Zbv rfl (Zak (Zk (Zk ?_)))))))
  refine Zs (Zab (Zd (Zb (st (Zc rfl (st (Zah rfl rfl om (st (Ze rfl ?_)))))))))
  refine Zg ?_
  exact Zac (((i + 1)), (m2)) ⟨hb3, by omega, by rw [Zlz hi.1 hlt, hm2]; exact mx4_end hk hkl (by first | omega | (right; omega) | (left; omega)), by omega, hBl2⟩ om sb
 refine stg (Zn Zcb rfl (stg (Zt Zb8 rfl hBl2.range (j := 0) rfl (stg (Zc rfl (stg (Zat Zaw rfl rfl (hl.at0 hb3) om om ?_)))))))
 rintro b1 o1 _ ⟨rfl, _⟩ hc1 hF1 hlt1
 have hl_1 := Loc.lt hF1
 refine stg (Zn Zaz rfl (stg (Zt Za9 rfl hc1 (j := 0) rfl (stg (Zbu rfl rfl (st (Zr rfl rfl (Zg (Zd ?_)))))))))
 refine Zw rfl (fun h3 => ?_) (fun h3 => ?_)
 rotate_left
 ·refine Zak (Zk (Zk (Zs (Zab (Zd (Zb ?_))))))
  refine st (Zc rfl (st (Zah rfl rfl om (st (Ze rfl (Zg ?_))))))
  exact Zac (((i + 1)), (m2)) ⟨hb3, by omega, by rw [Zlz hi.1 hlt, hm2]; exact mx4_end hk hkl (by first | omega | (right; omega) | (left; omega)), by omega, hBl2⟩ om sb
 obtain ⟨hk0, hk1, hk2, hk3⟩ := leaf_ks hcan.ok hi.1 hlt h3
 refine Zo (Zd (Zh (Zz (Zb (st (Zc rfl (st (Zn Zcb rfl ?_))))))))
 refine st (Zt Zb8 rfl hBl2.range (j := 0) rfl (st (Zc rfl (st (Zc rfl (st (Zat Zaw rfl rfl (hl.at0 hb3) om om ?_)))))))
 rintro b2 o2 _ ⟨rfl, _⟩ hc2 hF2 hlt2
 have hl_2 := Loc.lt hF2
 refine st (Zn Zav rfl (st (Zbi Zb9 rfl rfl om om (st (Zc3 Za9 rfl hc2 (j := 1) rfl rfl om om (st (s_max rfl rfl (st (Ze rfl (Zg (Zab ?_)))))))))))
 refine Zd (Zb (st (Zc rfl (st (Zah rfl rfl om (st (Ze rfl (Zg ?_))))))))
 exact Zac (((k + 1)), ((max m2 (Zae ((ix l i).k0) ((ix l i).k1) ((ix l i).k2) ((ix l i).k3) k)))) ⟨hb3, by omega, by rw [mx4_step hk.1 om, hm2]; rfl, by right; assumption, by have h_ := Zhh hcan.ok hi.1 hlt hk.1 om (by assumption); unfold Nd.kid at h_; omega, hBl2⟩ om sb
end Go.Proofs.Ytfljelnfjbbknaa.Lm
namespace Go.Proofs.Ytfljelnfjbbknaa.Lm
open Go.RowKit Go.Gw
set_option maxHeartbeats 1000000 in
theorem rget_any {w : World} {x y : Int} {n0 : Nat} (hn0 : n0 ≤ w.heap.size) {va : Value} {l : List Nd} {F : Nat → Prop} (hl : Sl Kd.node w F va l) (hcan : Gw.Can l) (hll : l.length ≤ 100000) {px py : Value} (hpx : Sl Kd.u32 w (G 83 n0 w) px (ml x)) (hpy : Sl Kd.u32 w (G 83 n0 w) py (ml y)) (hbx : Bd 50 x) (hby : Bd 50 y) :
  Calls Try.prog 31 [.agg [va].toArray, .agg [.bool (decide (x < 0)), px].toArray, .agg [.bool (decide (y < 0)), py].toArray].toArray w (Zbh w fun v _ => v = .int .u8 (Zcy l x y)) := by
 have hb0 := Below.refl w.heap.size w
 refine enter Try.func31 rfl rfl (Zh (Zb (st (Zbs rfl ?_))))
 intro g1 w1 hg1 hB1 k1 hs1
 change Blk w1 g1 25 [va].toArray at hB1
 have hb1 := Zf hb0 k1
 refine st (Zbs rfl ?_)
 intro g2 w2 hg2 hB2 k2 hs2
 change Blk w2 g2 31 [.bool (decide (x < 0)), px].toArray at hB2
 have hb2 := Zf hb1 k2
 refine st (Zbs rfl ?_)
 intro g3 w3 hg3 hB3 k3 hs3
 change Blk w3 g3 31 [.bool (decide (y < 0)), py].toArray at hB3
 have hb3 := Zf hb2 k3
 refine st (Ze rfl (Zg (Zd (Zh (Zb (st (Zp Za6 rfl ((hB1.g0 k2).g0 k3).range rfl (st (Zq fn46 rfl (Zmo (hl.at0 hb3)) ?_)))))))))
 rintro _ w4 ⟨hq1, rfl⟩
 have k4 := Zi hq1 none
 have hz1 := hq1.size
 have hb4 := Zf hb3 k4
 have hz2 := hb4.size
 refine st (Ze rfl (Zg (Zd (Zh (Zh (Zb (st (Zc rfl ?_))))))))
 refine st (Zbu rfl rfl (st (Zc rfl ?_)))
 refine Zax 18 rfl (fun h1 => ?_) (fun h1 => ?_)
 ·have hnil := level_nil hcan.ok h1
  refine Zj rfl rfl (Zj rfl rfl (Zj rfl rfl (Zj rfl rfl (st (Zr rfl rfl (st (Zc rfl (Zj rfl rfl ?_))))))))
  refine Zj rfl rfl (Zj rfl rfl (Zj rfl rfl (st (Zr rfl rfl (Zg (Zd (Zb0 rfl ?_)))))))
  refine Zh (Zb (st (Ze rfl (Zg (Zd (Zaa rfl rfl ?_))))))
  subst hnil
  exact ⟨_, rfl, hb4, rfl⟩
 have hnn : l ≠ [] := by rintro rfl; exact h1 rfl
 have hlv := Zhq hcan.ok hnn
 refine stg (Zp Zx rfl ((hB2.g0 k3).g0 k4).range rfl (stg (Zc rfl (stg (Zq fn62 rfl (rin_any (x := x) (n0 := n0) (Zu hn0 hb4) ((((hpx.gg0 k1).gg0 k2).gg0 k3).gg0 k4) (Bd.le hbx (show 50 ≤ 50 by decide)) om) ?_)))))
 rintro _ w5 ⟨hq2, rfl⟩
 have k5 := Zi hq2 none
 have hz3 := hq2.size
 have hb5 := Zf hb4 k5
 have hz4 := hb5.size
 refine stg (Zdd rfl (st (Zr rfl rfl (st (Zc rfl ?_)))))
 refine Zd7 24 rfl (fun h2 => ?_) (fun h2 => ?_)
 ·have hinx : inR x (Zag l) = false := by simpa using h2
  refine Zj rfl rfl (Zj rfl rfl (Zj rfl rfl (Zj rfl rfl (st (Zr rfl rfl (Zg (Zd ?_)))))))
  refine Zb0 rfl (Zh (Zb (st (Ze rfl (Zg (Zd (Zaa rfl rfl ?_)))))))
  exact ⟨_, rfl, hb5, by rw [rget_none hcan (.inl hinx)]⟩
 have hinx : inR x (Zag l) = true := by simpa using h2
 refine stg (Zp Zx rfl ((hB3.g0 k4).g0 k5).range rfl (stg (Zc rfl (stg (Zq fn62 rfl (rin_any (x := y) (n0 := n0) (Zu hn0 hb5) (((((hpy.gg0 k1).gg0 k2).gg0 k3).gg0 k4).gg0 k5) (Bd.le hby (show 50 ≤ 50 by decide)) om) ?_)))))
 rintro _ w6 ⟨hq3, rfl⟩
 have k6 := Zi hq3 none
 have hz5 := hq3.size
 have hb6 := Zf hb5 k6
 have hz6 := hb6.size
 refine stg (Zdd rfl (st (Zr rfl rfl (Zg (Zd ?_)))))
 refine Zba rfl (fun h3 => ?_) (fun h3 => ?_)
 ·have hiny : inR y (Zag l) = false := by simpa using h3
  refine Zh (Zb (st (Ze rfl (Zg (Zd (Zaa rfl rfl ?_))))))
  exact ⟨_, rfl, hb6, by rw [rget_none hcan (.inr hiny)]⟩
 have hiny : inR y (Zag l) = true := by simpa using h3
 have hrx : 0 ≤ x + hf (Zag l) := by unfold inR at hinx; simp at hinx; omega
 have hry : 0 ≤ y + hf (Zag l) := by unfold inR at hiny; simp at hiny; omega
 refine Zo (Zd (Zh (Zb (st (Zc rfl (st (Za7 rfl rfl om (st (Zq fn47 rfl (Zfa (n0 := n0) (Zu hn0 hb6)) ?_)))))))))
 rintro v2 w7 ⟨hq4, hv1⟩
 rw [show (Zfm 1 ((Zag l) - 1)) = (hf (Zag l)) from (Ziq hlv)] at hv1
 obtain ⟨v1, rfl, hS1⟩ := hv1
 have k7 := Zi hq4 none
 have hz7 := hq4.size
 have hb7 := Zf hb6 k7
 have hz8 := hb7.size
 have hlt_1 := (((((((hB1.g0 k2).g0 k3).g0 k4).g0 k5).g0 k6).g0 k7)).lt
 have hlt_2 := ((((((hB2.g0 k3).g0 k4).g0 k5).g0 k6).g0 k7)).lt
 have hlt_3 := (((((hB3.g0 k4).g0 k5).g0 k6).g0 k7)).lt
 refine st (Zan Zb3 ?_)
 intro g4 w8 hg4 hB4 k8 hs4
 have hz9 := hb7.size
 have hb8 := Zf hb7 k8
 refine st0 (Zv Zx rfl rfl hB4 (by simp only [List.all_cons, List.all_nil, hS1.one, Bool.and_true, Bool.and_self] <;> rfl) rfl rfl ?_)
 intro w9 hB5 k9 hs5
 have hb9 := belowa hb8 k9
 refine Zg (Zd (Zh ?_))
 refine w_drawT 6 GN [xi 33 <| .agg [.bool (decide (x < 0)), px].toArray, xi 34 <| .agg [.bool (decide ((hf (Zag l)) < 0)), v1].toArray, (some 35, fun v W => Zbw 83 n0 W v ((x + (hf (Zag l))))), xi 36 <| .agg [.bool (decide (y < 0)), py].toArray, xi 37 <| .agg [.bool (decide ((hf (Zag l)) < 0)), v1].toArray, (some 38, fun v W => Zbw 83 n0 W v ((y + (hf (Zag l)))))] [[], [], [0, 1], [], [], [3, 4]] [(3, (pp g1)), (4, (pp g2)), (5, (pp g3)), (6, .int .u8 0), (8, (pp g4))] sb kr kr Za gnt ⟨kv, kv, fun _ _ _ h k => h.g0 k, kv, kv, fun _ _ _ h k => h.g0 k, trivial⟩ ?_
 intro w12 k12 hs6
 have hb10 := Zf hb9 k12
 refine ⟨⟨?_, ?_, ?_, ?_, ?_, ?_, trivial⟩, ?_⟩
 ·intro w13 k13
  refine op1 (Zp Zx rfl (((((((((hB2.g0 k3).g0 k4).g0 k5).g0 k6).g0 k7).g0 k8).gne k9 om).g0 k12).g0 k13).range rfl ?_)
  exact ⟨rfl, Za _⟩
 ·intro w14 k14
  refine op1 (Zp Zx rfl ((hB5.g0 k12).g0 k14).range rfl ?_)
  exact ⟨rfl, Za _⟩
 ·intro w15 k15
  have hb13 := Zf hb10 k15
  rintro _ rfl _ rfl
  refine op1 (Zq fn22 rfl (Zdn (n0 := n0) (Zu hn0 hb13) (Zai rfl (((((((((((hpx.gg0 k1).gg0 k2).gg0 k3).gg0 k4).gg0 k5).gg0 k6).gg0 k7).gg0 k8).ggB k9 hB4 dc om).gg0 k12).gg0 k15)) (Zai rfl ((((hS1.gg0 k8).ggB k9 hB4 dc om).gg0 k12).gg0 k15)) (Bd.le hbx (show 50 ≤ 90000 by decide)) (Bd.le (Zci hlv.2) (show 42 ≤ 90000 by decide))) ?_)
  rintro _ w16 ⟨hq7, v5, rfl, hS4⟩
  have k16 := Zi hq7 none
  have hz10 := hq7.size
  have hb14 := Zf hb13 k16
  have hz11 := hb14.size
  exact ⟨⟨_, rfl, hS4⟩, k16⟩
 ·intro w17 k17
  refine op1 (Zp Zx rfl ((((((((hB3.g0 k4).g0 k5).g0 k6).g0 k7).g0 k8).gne k9 om).g0 k12).g0 k17).range rfl ?_)
  exact ⟨rfl, Za _⟩
 ·intro w18 k18
  refine op1 (Zp Zx rfl ((hB5.g0 k12).g0 k18).range rfl ?_)
  exact ⟨rfl, Za _⟩
 ·intro w19 k19
  have hb17 := Zf hb10 k19
  rintro _ rfl _ rfl
  refine op1 (Zq fn22 rfl (Zdn (n0 := n0) (Zu hn0 hb17) (Zai rfl (((((((((((hpy.gg0 k1).gg0 k2).gg0 k3).gg0 k4).gg0 k5).gg0 k6).gg0 k7).gg0 k8).ggB k9 hB4 dc om).gg0 k12).gg0 k19)) (Zai rfl ((((hS1.gg0 k8).ggB k9 hB4 dc om).gg0 k12).gg0 k19)) (Bd.le hby (show 50 ≤ 90000 by decide)) (Bd.le (Zci hlv.2) (show 42 ≤ 90000 by decide))) ?_)
  rintro _ w20 ⟨hq8, v6, rfl, hS5⟩
  have k20 := Zi hq8 none
  have hz12 := hq8.size
  have hb18 := Zf hb17 k20
  have hz13 := hb18.size
  exact ⟨⟨_, rfl, hS5⟩, k20⟩
 intro w21 k21
 have hb19 := Zf hb10 k21
 rintro _ rfl _ rfl _ ⟨v7, rfl, hS6⟩ _ rfl _ rfl _ ⟨v8, rfl, hS7⟩
 refine st0 (Zv Zx rfl rfl (((((((((hB2.g0 k3).g0 k4).g0 k5).g0 k6).g0 k7).g0 k8).gne k9 om).g0 k12).g0 k21) (by simp only [List.all_cons, List.all_nil, hS6.one, Bool.and_true, Bool.and_self] <;> rfl) rfl rfl ?_)
 intro w22 hB6 k22 hs7
 have hb20 := belowa hb19 k22
 refine st0 (Zv Zx rfl rfl (((((((((hB3.g0 k4).g0 k5).g0 k6).g0 k7).g0 k8).gne k9 om).g0 k12).g0 k21).gne k22 om) (by simp only [List.all_cons, List.all_nil, hS7.one, Bool.and_true, Bool.and_self] <;> rfl) rfl rfl ?_)
 intro w23 hB7 k23 hs8
 have hb21 := belowa hb20 k23
 refine Zg (Zd (Zh (Zb (st (Zn Zcb rfl (st (Zt Zb8 rfl ((((((((((((hB1.g0 k2).g0 k3).g0 k4).g0 k5).g0 k6).g0 k7).g0 k8).gne k9 om).g0 k12).g0 k21).gne k22 om).gne k23 om).range (j := 0) rfl (st (Zaq Zaw rfl (hl.at0 hb21) ?_)))))))))
 refine st (Ze rfl (Zg (Zd (Zh (Zz ?_)))))
 refine Za2 (α := Int × Int × Value × Int × Value) (fun ((n, A, pA, B, pB) : Int × Int × Value × Int × Value) => [(3, (pp g1)), (4, (pp g2)), (5, (pp g3)), (9, .int .i64 n)]) (fun ((n, A, pA, B, pB) : Int × Int × Value × Int × Value) W => Below w.heap.size w W ∧ (0 ≤ n ∧ n ≤ l.length) ∧ (RAt l n A B (Zcy l x y)) ∧ (Blk W g1 25 [va].toArray) ∧ (Blk W g2 31 [.bool (decide (A < 0)), pA].toArray) ∧ (Blk W g3 31 [.bool (decide (B < 0)), pB].toArray) ∧ (Blk W g4 31 [.bool (decide ((hf (Zag l)) < 0)), v1].toArray) ∧ (Sl Kd.u32 W (G 83 n0 W) pA (ml A)) ∧ (Sl Kd.u32 W (G 83 n0 W) pB (ml B)) ∧ (Sl Kd.u32 W (G 83 n0 W) v1 (ml (hf (Zag l))))) (fun ((n, A, pA, B, pB) : Int × Int × Value × Int × Value) => n.toNat) (((l.length : Int)), (_), (v7), (_), (v8)) ⟨hb21, by omega, rat_start hnn hinx hiny, ((((((((((((hB1.g0 k2).g0 k3).g0 k4).g0 k5).g0 k6).g0 k7).g0 k8).gne k9 om).g0 k12).g0 k21).gne k22 om).gne k23 om), (hB6.gne k23 om), hB7, ((((hB5.g0 k12).g0 k21).gne k22 om).gne k23 om), ((hS6.ggB k22 (((((((((hB2.g0 k3).g0 k4).g0 k5).g0 k6).g0 k7).g0 k8).gne k9 om).g0 k12).g0 k21) dc om).ggB k23 (((((((((hB3.g0 k4).g0 k5).g0 k6).g0 k7).g0 k8).gne k9 om).g0 k12).g0 k21).gne k22 om) dc om), ((hS7.ggB k22 (((((((((hB2.g0 k3).g0 k4).g0 k5).g0 k6).g0 k7).g0 k8).gne k9 om).g0 k12).g0 k21) dc om).ggB k23 (((((((((hB3.g0 k4).g0 k5).g0 k6).g0 k7).g0 k8).gne k9 om).g0 k12).g0 k21).gne k22 om) dc om), ((((((hS1.gg0 k8).ggB k9 hB4 dc om).gg0 k12).gg0 k21).ggB k22 (((((((((hB2.g0 k3).g0 k4).g0 k5).g0 k6).g0 k7).g0 k8).gne k9 om).g0 k12).g0 k21) dc om).ggB k23 (((((((((hB3.g0 k4).g0 k5).g0 k6).g0 k7).g0 k8).gne k9 om).g0 k12).g0 k21).gne k22 om) dc om)⟩ sb ?_
 rintro ⟨n, A, pA, B, pB⟩ w24 ⟨hb22, hn, hat, hbl0, hbl1, hbl2, hbl3, hsl1_1, hsl2_1, hsl3_1⟩
 dsimp only at *
 have hz14 := hb22.size
 have hbl0l := hbl0.lt
 have hbl1l := hbl1.lt
 have hbl2l := hbl2.lt
 have hbl3l := hbl3.lt
 refine Zh (Zh (Zb (st (Zc rfl (st (Zch rfl rfl (Zg (Zd ?_))))))))
 refine Zw rfl (fun h4 => ?_) (fun h4 => ?_)
 rotate_left
 ·refine Zak (Zk (Zk (Zs (Zd (Zh (Zb ?_))))))
  refine st (Ze rfl (Zg (Zd (Zaa rfl rfl ?_))))
  exact ⟨_, rfl, hb22, by rw [hat.no om]⟩
 have hnp := h4
 have hlvn := Ze9 hcan.ok (i := n - 1) om om
 have hrg := hat.rg hnp
 have hkq := Zey (ix l (n - 1)).lv A B
 refine Zo (Zd (Zz (Zh ?_)))
 obtain ⟨b1, o1, _, hat1, ⟨rfl, _⟩, hc1, hF1, hlt1⟩ := (hl.at0 hb22).elem (n - 1) om om
 have hl_1 := Loc.lt hF1
 refine w_drawS (dd := 14) (td := 11) (cs := [false, false, false, false, false, false, false, false, false, false, false, false, false, false, false, false, false, true]) (ψ := PtrG w24.heap.size 31 2 (OneSl 83 n0 (decide ((Zao ((ix l (n - 1)).lv) A) < 0)) (ml (Zao ((ix l (n - 1)).lv) A)))) 18 (Rg w24.heap.size 31 2 (OneSl 83 n0 (decide ((Zao ((ix l (n - 1)).lv) A) < 0)) (ml (Zao ((ix l (n - 1)).lv) A)))) [xi 45 <| .pointer (some ⟨g1, 0 + 0, none⟩), (some 46, fun v _ => v = va), xi 47 <| .int .i64 n, xi 48 <| .int .i64 (n - 1), xi 49 <| .pointer (some ⟨b1, o1, none⟩), xi 50 <| .pointer (some ⟨b1, o1 + 0, none⟩), xi 51 <| .int .i64 ((ix l (n - 1)).lv), xi 52 <| .agg [.bool (decide (A < 0)), pA].toArray, xi 53 <| .agg [.bool (decide (B < 0)), pB].toArray, (some 54, fun v W => ∃ v9 v10 : Value, v = .tuple #[.int .i64 (kq ((ix l (n - 1)).lv) A B), .agg [.bool (decide ((Zao ((ix l (n - 1)).lv) A) < 0)), v9].toArray, .agg [.bool (decide ((Zao ((ix l (n - 1)).lv) B) < 0)), v10].toArray] ∧ Sl Kd.u32 W (G 83 n0 W) v9 (ml (Zao ((ix l (n - 1)).lv) A)) ∧ Sl Kd.u32 W (G 83 n0 W) v10 (ml (Zao ((ix l (n - 1)).lv) B))), (some 44, fun v W => ∃ v9 v10 : Value, v = .tuple #[.int .i64 (kq ((ix l (n - 1)).lv) A B), .agg [.bool (decide ((Zao ((ix l (n - 1)).lv) A) < 0)), v9].toArray, .agg [.bool (decide ((Zao ((ix l (n - 1)).lv) B) < 0)), v10].toArray] ∧ Sl Kd.u32 W (G 83 n0 W) v9 (ml (Zao ((ix l (n - 1)).lv) A)) ∧ Sl Kd.u32 W (G 83 n0 W) v10 (ml (Zao ((ix l (n - 1)).lv) B))), xi 55 <| .int .i64 (kq ((ix l (n - 1)).lv) A B), (some 56, fun v W => ∃ v9 : Value, v = .agg [.bool (decide ((Zao ((ix l (n - 1)).lv) A) < 0)), v9].toArray ∧ Sl Kd.u32 W (G 83 n0 W) v9 (ml (Zao ((ix l (n - 1)).lv) A))), (some 57, fun v W => ∃ v10 : Value, v = .agg [.bool (decide ((Zao ((ix l (n - 1)).lv) B) < 0)), v10].toArray ∧ Sl Kd.u32 W (G 83 n0 W) v10 (ml (Zao ((ix l (n - 1)).lv) B))), (some 11, Zg2 w24.heap.size 31 2), (some 12, Zg2 w24.heap.size 31 2), xi 10 <| .int .i64 (kq ((ix l (n - 1)).lv) A B), (none, fun _ _ => True)] [[], [0], [], [2], [1, 3], [4], [5], [], [], [6, 7, 8], [9], [10], [10], [10], [], [], [11], [14, 12]] [false, false, false, false, false, false, false, false, false, false, false, false, false, false, true, true, false, false] [(3, (pp g1)), (4, (pp g2)), (5, (pp g3)), (9, .int .i64 n)] sb kr kr Rg.refl (Rg.trans (one_st dc (show n0 ≤ w24.heap.size by omega))) ⟨fun _ _ _ h _ => h, fun _ _ _ h _ => h, fun _ _ _ h _ => h, fun _ _ _ h _ => h, fun _ _ _ h _ => h, fun _ _ _ h _ => h, fun _ _ _ h _ => h, fun _ _ _ h _ => h, fun _ _ _ h _ => h, fun _ _ _ h k => by obtain ⟨v9, v10, e, h0, h1⟩ := h; exact ⟨v9, v10, e, k.nums dc (show n0 ≤ w24.heap.size by omega) h0, k.nums dc (show n0 ≤ w24.heap.size by omega) h1⟩, fun _ _ _ h k => by obtain ⟨v9, v10, e, h0, h1⟩ := h; exact ⟨v9, v10, e, k.nums dc (show n0 ≤ w24.heap.size by omega) h0, k.nums dc (show n0 ≤ w24.heap.size by omega) h1⟩, fun _ _ _ h _ => h, fun _ _ _ h k => by obtain ⟨v9, e, h0⟩ := h; exact ⟨v9, e, k.nums dc (show n0 ≤ w24.heap.size by omega) h0⟩, fun _ _ _ h k => by obtain ⟨v10, e, h0⟩ := h; exact ⟨v10, e, k.nums dc (show n0 ≤ w24.heap.size by omega) h0⟩, Zg2.stG, Zg2.stG, fun _ _ _ h _ => h, fun _ _ _ h _ => h, trivial⟩ ⟨nofun, nofun, nofun, nofun, nofun, nofun, nofun, nofun, nofun, nofun, nofun, nofun, nofun, nofun, fun _ _ _ h => h.oldG, fun _ _ _ h => h.oldG, nofun, nofun, trivial⟩ rfl (fun i h _ => by rcases i with _ | _ | _ | _ | _ | _ | _ | _ | _ | _ | _ | _ | _ | _ | _ | _ | _ | _ | i <;> simp at h ⊢) (PtrG.st (one_st dc (show n0 ≤ w24.heap.size by omega))) ⟨17, rfl, by decide⟩ ?_
 intro w29 k28 hs12
 have hb23 := Zf hb22 k28
 refine ⟨⟨?_, ?_, ?_, ?_, ?_, ?_, ?_, ?_, ?_, ?_, ?_, ?_, ?_, ?_, ?_, ?_, ?_, ?_, trivial⟩, ?_⟩
 ·intro w30 k29r
  have k29 := Rg.grown k29r om
  refine op1 (Zn Zcb rfl ?_)
  exact ⟨rfl, Rg.refl _, nofun, nofun⟩
 ·intro w31 k30r
  have k30 := Rg.grown k30r om
  rintro _ rfl
  refine op1 (Zt Zb8 rfl ((hbl0.g0 k28).g0 k30).range (j := 0) rfl ?_)
  exact ⟨rfl, Rg.refl _, nofun, nofun⟩
 ·intro w32 k31r
  have k31 := Rg.grown k31r om
  refine op1 (Zc rfl ?_)
  exact ⟨rfl, Rg.refl _, nofun, nofun⟩
 ·intro w33 k32r
  have k32 := Rg.grown k32r om
  rintro _ rfl
  refine op1 (Za7 rfl rfl om ?_)
  exact ⟨rfl, Rg.refl _, nofun, nofun⟩
 ·intro w34 k33r
  have k33 := Rg.grown k33r om
  intro v_ hv_; subst v_
  rintro _ rfl
  refine op1 (Zbo Zaw rfl rfl hat1 ?_)
  exact ⟨rfl, Rg.refl _, nofun, nofun⟩
 ·intro w35 k34r
  have k34 := Rg.grown k34r om
  rintro _ rfl
  refine op1 (Zn Zaz rfl ?_)
  exact ⟨rfl, Rg.refl _, nofun, nofun⟩
 ·intro w36 k35r
  have k35 := Rg.grown k35r om
  rintro _ rfl
  refine op1 (Zt Za9 rfl (Zaj (Zaj hc1 k28) k35) (j := 0) rfl ?_)
  exact ⟨rfl, Rg.refl _, nofun, nofun⟩
 ·intro w37 k36r
  have k36 := Rg.grown k36r om
  refine op1 (Zp Zx rfl ((hbl1.g0 k28).g0 k36).range rfl ?_)
  exact ⟨rfl, Rg.refl _, nofun, nofun⟩
 ·intro w38 k37r
  have k37 := Rg.grown k37r om
  refine op1 (Zp Zx rfl ((hbl2.g0 k28).g0 k37).range rfl ?_)
  exact ⟨rfl, Rg.refl _, nofun, nofun⟩
 ·intro w39 k38r
  have k38 := Rg.grown k38r om
  have hb33 := Zf hb23 k38
  rintro _ rfl _ rfl _ rfl
  refine op1 (Zq fn66 rfl (Zkx (x := A) (y := B) (n0 := n0) (Zu hn0 hb33) ((hsl1_1.gg0 k28).gg0 k38) ((hsl2_1.gg0 k28).gg0 k38) (Bd.le (bd_rng hrg.1 hlvn.2) (show 43 ≤ 50 by decide)) (Bd.le (bd_rng hrg.2 hlvn.2) (show 43 ≤ 50 by decide)) om) ?_)
  rintro _ w40 ⟨hq10, v11, v12, rfl, hS10, hS11⟩
  have k39 := Zi hq10 none
  have hz15 := hq10.size
  have hb34 := Zf hb33 k39
  have hz16 := hb34.size
  have hkq1 := Zey ((ix l (n - 1)).lv) A B
  exact ⟨⟨_, _, rfl, hS10, hS11⟩, Rg.of (k39), nofun, nofun⟩
 ·intro w41 k40r
  have k40 := Rg.grown k40r om
  rintro _ ⟨v13, v14, rfl, hS12, hS13⟩
  refine op1 (Zc rfl ?_)
  exact ⟨⟨_, _, rfl, hS12, hS13⟩, Rg.refl _, nofun, nofun⟩
 ·intro w42 k41r
  have k41 := Rg.grown k41r om
  rintro _ ⟨v15, v16, rfl, hS14, hS15⟩
  refine op1 (Zad rfl rfl ?_)
  exact ⟨rfl, Rg.refl _, nofun, nofun⟩
 ·intro w43 k42r
  have k42 := Rg.grown k42r om
  rintro _ ⟨v17, v18, rfl, hS16, hS17⟩
  refine op1 (Zad rfl rfl ?_)
  exact ⟨⟨_, rfl, hS16⟩, Rg.refl _, nofun, nofun⟩
 ·intro w44 k43r
  have k43 := Rg.grown k43r om
  rintro _ ⟨v19, v20, rfl, hS18, hS19⟩
  refine op1 (Zad rfl rfl ?_)
  exact ⟨⟨_, rfl, hS19⟩, Rg.refl _, nofun, nofun⟩
 ·intro w45 k44r
  have k44 := Rg.grown k44r om
  refine op1 (Zan Zb3 ?_)
  intro g7 w46 hg7 hB11 k45 hs13
  have hz_ := k44.size
  exact ⟨⟨g7, rfl, by omega, _, rfl, hB11⟩, Rg.of k45, fun _ => ⟨_, rfl, by omega⟩, nofun⟩
 ·intro w47 k46r
  have k46 := Rg.grown k46r om
  refine op1 (Zan Zb3 ?_)
  intro g8 w48 hg8 hB12 k47 hs14
  have hz_ := k46.size
  exact ⟨⟨g8, rfl, by omega, _, rfl, hB12⟩, Rg.of k47, fun _ => ⟨_, rfl, by omega⟩, nofun⟩
 ·intro w49 k48r
  have k48 := Rg.grown k48r om
  rintro _ rfl
  refine op1 (Ze rfl ?_)
  exact ⟨rfl, Rg.refl _, nofun, nofun⟩
 ·intro w50 k49r
  have k49 := Rg.grown k49r om
  rintro _ ⟨g9, rfl, hg9, hB13, hc2, hB14⟩ _ ⟨v21, rfl, hS20⟩
  refine op1 (Zv Zx rfl rfl hB14 (by simp only [List.all_cons, List.all_nil, hS20.one, Bool.and_true, Bool.and_self] <;> rfl) rfl hc2 ?_)
  intro w51 hB15 k50 hs15
  have hT1 : OneSl 83 n0 (decide ((Zao ((ix l (n - 1)).lv) A) < 0)) (ml (Zao ((ix l (n - 1)).lv) A)) _ [.bool (decide ((Zao ((ix l (n - 1)).lv) A) < 0)), v21].toArray := ⟨v21, rfl, nums_sto dc om ⟨_, hc2, hB14⟩ k50 hS20⟩
  exact ⟨trivial, Rg.sto ⟨_, hc2, hB14⟩ hB15 rfl hT1 k50 hg9, nofun, fun _ => ⟨_, rfl, _, rfl, hg9, _, hB15, rfl, hT1⟩⟩
 intro w52 k51r
 have k51 := Rg.grown k51r om
 have hb43 := Zf hb23 k51
 rintro _ rfl
 intro v_ hv_; subst v_
 rintro _ rfl _ rfl _ rfl _ rfl _ rfl _ rfl _ rfl _ ⟨v22, v23, rfl, hS21, hS22⟩ _ ⟨v24, v25, rfl, hS23, hS24⟩ _ rfl _ ⟨v26, rfl, hS25⟩ _ ⟨v27, rfl, hS26⟩ _ ⟨g10, rfl, hg10, hB16, hc3, hB17⟩ hnf1 _ ⟨g11, rfl, hg11, hB18, hc4, hB19⟩ hnf2
 have hne1 : g10 ≠ g11 := fresh_ne (hnf2 _ (by simp))
 rintro _ rfl hp1
 obtain ⟨_, he1, _, _, hB20, _, v28, rfl, hS27⟩ := hp1 _ rfl
 cases he1
 have hlt_13 := hB20.lt
 refine st0 (Zv Zx rfl rfl hB19 (by simp only [List.all_cons, List.all_nil, hS26.one, Bool.and_true, Bool.and_self] <;> rfl) rfl hc4 ?_)
 intro w53 hB21 k52 hs16
 have hb44 := belowa hb43 k52
 refine Zg (Zd (Zh (Zb (st (Zn Zcb rfl (st (Zt Zb8 rfl (((hbl0.g0 k28).g0 k51).gne k52 om).range (j := 0) rfl (st (Zc rfl ?_)))))))))
 refine st (Za7 rfl rfl om (st (Zc rfl (st (Zat Zaw rfl rfl (hl.at0 hb44) om om ?_)))))
 rintro b2 o2 _ ⟨rfl, _⟩ hc5 hF2 hlt2
 have hl_2 := Loc.lt hF2
 refine st (Zn Zav rfl (st (Zbi Zb9 rfl rfl om om (st (Zc3 Za9 rfl hc5 (j := 1) rfl rfl om om (st (Ze rfl (Zg (Zd (Zh ?_))))))))))
 refine Zh (Zb (st (Zn Zcb rfl (st (Zt Zb8 rfl (((hbl0.g0 k28).g0 k51).gne k52 om).range (j := 0) rfl (st (Zc rfl (st (Za7 rfl rfl om (st (Zat Zaw rfl rfl (hl.at0 hb44) om om ?_)))))))))))
 rintro b3 o3 _ ⟨rfl, _⟩ hc6 hF3 hlt3
 have hl_3 := Loc.lt hF3
 refine st (Zn Zaz rfl (st (Zt Za9 rfl hc6 (j := 0) rfl (st (Zbu rfl rfl (Zg (Zd ?_)))))))
 refine Zw rfl (fun h5 => ?_) (fun h5 => ?_)
 ·refine Zh (Zb (st (Zc rfl (st (Zco (M := 256) rfl rfl Zh5 Zgs rfl (st (Ze rfl (Zg (Zd ?_)))))))))
  refine Zaa rfl rfl ?_
  obtain ⟨e1, e2, e3⟩ := rat_leaf hcan.ok hat hnp h5
  unfold Nd.kid at e1
  exact ⟨_, rfl, hb44, by rw [e1, Int.emod_eq_of_lt om om]⟩
 have hkr := Zc1 hcan.ok (i := n - 1) om om om _ hkq.1 hkq.2
 unfold Nd.kid at hkr
 refine Zo (Zd ?_)
 refine Zhe 5 (fun a b => a.grownBy b (some g2)) GN (fun a b => a.grownBy b (some g2)) [xi 77 <| .int .i64 (Zae ((ix l (n - 1)).k0) ((ix l (n - 1)).k1) ((ix l (n - 1)).k2) ((ix l (n - 1)).k3) (kq ((ix l (n - 1)).lv) A B)), xi 78 <| .agg [.bool (decide ((Zao ((ix l (n - 1)).lv) A) < 0)), v28].toArray, xi 79 <| .agg [.bool (decide ((Zao ((ix l (n - 1)).lv) B) < 0)), v27].toArray, xi 9 <| .int .i64 (Zae ((ix l (n - 1)).k0) ((ix l (n - 1)).k1) ((ix l (n - 1)).k2) ((ix l (n - 1)).k3) (kq ((ix l (n - 1)).lv) A B)), (none, fun _ W => Blk W g2 31 ([.bool (decide ((Zao ((ix l (n - 1)).lv) A) < 0)), v28] : List Value).toArray)] [[], [], [], [0], [1]] [[], [], [], [0], [0, 1, 3]] [[], [], [], [], []] [false, false, false, false, true] [true, true, true, true, false] [true, true, false, true, true] [(3, (pp g1)), (4, (pp g2)), (5, (pp g3)), (11, (pp g10)), (12, (pp g11)), (13, .int .i64 (Zae ((ix l (n - 1)).k0) ((ix l (n - 1)).k1) ((ix l (n - 1)).k2) ((ix l (n - 1)).k3) (kq ((ix l (n - 1)).lv) A B)))] sb kr kr kr rfl (Zdw g2) Zdq (fun _ _ h => Zea h) (fun _ _ h => h) ⟨kv, kv, kv, kv, kv, kv, kv, kv, fun _ _ _ h k => h.g0 k, trivial⟩ Za gnt rfl ?_
 intro w55 k54 hs18
 have hb45 := Zf hb44 k54
 refine ⟨⟨?_, ?_, ?_, ?_, ?_, trivial⟩, ?_⟩
 ·intro w56 k55
  have hb46 := Zf hb45 k55
  have hz17 := hb46.size
  refine op1 (Zc rfl ?_)
  exact ⟨rfl, Za _⟩
 ·intro w57 k56
  have hb47 := Zf hb45 k56
  have hz18 := hb47.size
  refine op1 (Zp Zx rfl (((hB20.gne k52 om).g0 k54).g0 k56).range rfl ?_)
  exact ⟨rfl, Za _⟩
 ·intro w58 k57
  have hb48 := belowa hb45 k57
  have hz19 := hb48.size
  refine op1 (Zp Zx rfl ((hB21.g0 k54).gne k57 om).range rfl ?_)
  exact ⟨rfl, Za _⟩
 ·intro w59 k58
  have hb49 := Zf hb45 k58
  have hz20 := hb49.size
  rintro _ rfl
  refine op1 (Ze rfl ?_)
  exact ⟨rfl, Za _⟩
 ·intro w60 k59
  have hb50 := Zf hb45 k59
  have hz21 := hb50.size
  rintro _ rfl
  refine op1 (Zv Zx rfl rfl (((((hbl1.g0 k28).g0 k51).gne k52 om).g0 k54).g0 k59) (by simp only [List.all_cons, List.all_nil, hS27.one, Bool.and_true, Bool.and_self] <;> rfl) rfl rfl ?_)
  intro w61 hB23 k60 hs19
  exact ⟨hB23, k60⟩
 rintro w62 k61 _ rfl _ rfl _ rfl _ rfl v_ hB24
 have hb52 := belowa hb45 k61
 have hz22 := hb52.size
 refine st0 (Zv Zx rfl rfl (((((hbl2.g0 k28).g0 k51).gne k52 om).g0 k54).gne k61 om) (by simp only [List.all_cons, List.all_nil, hS26.one, Bool.and_true, Bool.and_self] <;> rfl) rfl rfl ?_)
 intro w63 hB25 k62 hs20
 have hb53 := belowa hb52 k62
 refine Zg (Zab ?_)
 exact Zac (((Zae ((ix l (n - 1)).k0) ((ix l (n - 1)).k1) ((ix l (n - 1)).k2) ((ix l (n - 1)).k3) (kq ((ix l (n - 1)).lv) A B))), (_), (v28), (_), (v27)) ⟨hb53, (rat_next hcan.ok hat hnp h5).r, (rat_next hcan.ok hat hnp h5), ((((((hbl0.g0 k28).g0 k51).gne k52 om).g0 k54).gne k61 om).gne k62 om), (hB24.gne k62 om), hB25, ((((((hbl3.g0 k28).g0 k51).gne k52 om).g0 k54).gne k61 om).gne k62 om), ((((hS27.ggB k52 hB19 dc om).gg0 k54).ggB k61 ((((hbl1.g0 k28).g0 k51).gne k52 om).g0 k54) dc om).ggB k62 (((((hbl2.g0 k28).g0 k51).gne k52 om).g0 k54).gne k61 om) dc om), ((((hS26.ggB k52 hB19 dc om).gg0 k54).ggB k61 ((((hbl1.g0 k28).g0 k51).gne k52 om).g0 k54) dc om).ggB k62 (((((hbl2.g0 k28).g0 k51).gne k52 om).g0 k54).gne k61 om) dc om), ((((((hsl3_1.gg0 k28).gg0 k51).ggB k52 hB19 dc om).gg0 k54).ggB k61 ((((hbl1.g0 k28).g0 k51).gne k52 om).g0 k54) dc om).ggB k62 (((((hbl2.g0 k28).g0 k51).gne k52 om).g0 k54).gne k61 om) dc om)⟩ om sb
end Go.Proofs.Ytfljelnfjbbknaa.Lm
namespace Go.Gw
open Go.RowKit
theorem Sl.ggTwo {U n0 : Nat} {S : Nat → Prop} {a b : World} {s : Value} {xs : List Int} (h : Sl Kd.u32 a (G U n0 a) s xs) (k : Two S a b) (hS : ∀ i, i < a.heap.size → S i → G U n0 a i) : Sl Kd.u32 b (G U n0 b) s xs :=
  h.gkeep (fun i hi hG => k.keep i hi (fun hs => hG (hS i hi hs))) Zd6
end Go.Gw
namespace Go.Proofs.Ytfljelnfjbbknaa.Lm
open Go.RowKit Go.Gw
set_option maxHeartbeats 4000000 in
theorem paint_any {a0 : World} {n0 : Nat} (hn0 : n0 ≤ a0.heap.size) {gp : Nat} (hgp : a0.heap.size ≤ gp) {pa pb : Value} {A B s : Int} (hA : 0 ≤ A) (hB_ : 0 ≤ B) (hs : 0 ≤ s ∧ s ≤ 255) :
  ∀ (f : Nat) {w : World} {vo : Value} {o : List Nd} {n lv : Int}, lv = f → 1 ≤ f ∧ f ≤ 1329 → Zaf o = true → NumIn o n lv → o.length + f ≤ 1000000 → Below a0.heap.size a0 w → Gw.Own Kd.node 101 a0.heap.size w (fun _ => False) vo o →
  Blk w gp 95 [vo, pa, pb, .int .u8 s].toArray → Sl Kd.u32 w (G 83 n0 w) pa (ml A) → Sl Kd.u32 w (G 83 n0 w) pb (ml B) →
  Calls Try.prog 60 [(pp gp), .int .i64 lv, .int .i64 n].toArray w (Ret fun r w' => r = .int .i64 (Zbk f o n (A % (2 * hf lv)) (B % (2 * hf lv)) s).2 ∧ ∃ vo', Below a0.heap.size a0 w' ∧ Gw.Own Kd.node 101 a0.heap.size w' (fun _ => False) vo' (Zbk f o n (A % (2 * hf lv)) (B % (2 * hf lv)) s).1 ∧
   Blk w' gp 95 [vo', pa, pb, .int .u8 s].toArray ∧ Sl Kd.u32 w' (G 83 n0 w') pa (ml A) ∧ Sl Kd.u32 w' (G 83 n0 w') pb (ml B) ∧ Frm (fun k => k = gp) w vo w' vo') := by
 intro f
 induction f with
 | zero =>
  intro w vo o n lv hlv0 hf9 ho hni hon hb0 hE hB hpa hpb
  omega
 | succ f ih =>
  intro w vo o n lv hlv0 hf9 ho hni hon hb0 hE hB hpa hpb
  have hz0 := hb0.size
  have hF0 := Frm.refl (fun k => k = gp) w vo
  have hsz := hb0.size
  have hlv2 : lv = (f : Int) + 1 := by omega
  have hlv : 1 ≤ lv ∧ lv ≤ 1329 := by omega
  have hgl := hB.lt
  have hnr := hni.1
  refine enter Try.func60 rfl rfl (Zh (Zb (st (Ze rfl (Zg (Zd (Zh ?_)))))))
  refine Zb (st (Zc rfl (st (Zbe (ps := [(0, .tmp 9)]) (ccs := [#[.int .i64 lv]]) (cells := [.int .i64 lv, .int .i64 0, .int .i64 0, .int .i64 0, .int .i64 0]) rfl rfl kr ?_))))
  have hlt_1 := (hB).lt
  refine st (Zan Zcw ?_)
  intro g1 w1 hg1 hB1 k1 hs1
  have hz1 := hb0.size
  have hn1 := Zdj hE hg1
  have hb1 := Zf hb0 k1
  have hF1 := hF0.none k1
  have hO1 := hE.g0 k1
  refine st0 (Zv Za1 rfl rfl hB1 rfl rfl rfl ?_)
  intro w2 hB2 k2 hs2
  have hb2 := belowa hb1 k2
  have hF2 := hF1.put k2 (by first | exact .inr om | exact .inl (by assumption) | exact .inl (.inl rfl) | exact .inl (.inr rfl) | exact .inl (.inr (.inl rfl)) | exact .inl (.inr (.inr rfl)))
  have hO2 := Own.keptN Zy hO1 k2 hn1
  refine Zg (Zd ?_)
  refine w_cut (α := Unit) (fun (_ : Unit) => [(0, (pp gp)), (1, .int .i64 lv), (6, .int .i64 0), (7, (pp g1))]) (fun (_ : Unit) W => Below a0.heap.size a0 W ∧ (Gw.Own Kd.node 101 a0.heap.size W (fun _ => False) vo o) ∧ (Blk W gp 95 [vo, pa, pb, .int .u8 s].toArray) ∧ (Sl Kd.u32 W (G 83 n0 W) pa (ml A)) ∧ (Sl Kd.u32 W (G 83 n0 W) pb (ml B)) ∧ (vo.ownBlock ≠ some g1) ∧ (Frm (fun k => k = gp) w vo W vo) ∧ (Blk W g1 101 [.int .i64 ((Zl o n lv).lv), .int .i64 ((Zl o n lv).k0), .int .i64 ((Zl o n lv).k1), .int .i64 ((Zl o n lv).k2), .int .i64 ((Zl o n lv).k3)].toArray)) ?_ ?_
  ·refine Zh (Zb (st (Zc rfl (st (Zch rfl rfl (Zg (Zd ?_)))))))
   refine Zw rfl (fun h1 => ?_) (fun h1 => ?_)
   rotate_left
   ·refine Zo ?_
    exact Ze2 () ⟨hb2, hO2, ((hB.g0 k1).gne k2 om), ((hpa.gg0 k1).ggB k2 hB1 dc om), ((hpb.gg0 k1).ggB k2 hB1 dc om), hn1, hF2, (by rw [show (Zl o n lv) = _ from if_neg h1]; exact hB2)⟩ sb
   refine Zb (st (Zc rfl (st (Zed rfl (st (Zn Zg7 rfl (st (Zt Zb8 rfl ((hB.g0 k1).gne k2 om).range (j := 0) rfl (st (Zc rfl (st (Za7 rfl rfl om ?_))))))))))))
   refine st (Zat Zaw rfl rfl hO2.sl om om ?_)
   rintro b1 o1 _ ⟨rfl, _⟩ hc1 hF3 hlt1
   refine st (Zp Za1 rfl hc1 rfl (st0 (Zv Za1 rfl rfl hB2 rfl rfl rfl ?_)))
   intro w3 hB3 k3 hs3
   have hb3 := belowa hb2 k3
   have hF4 := hF2.put k3 (by first | exact .inr om | exact .inl (by assumption) | exact .inl (.inl rfl) | exact .inl (.inr rfl) | exact .inl (.inr (.inl rfl)) | exact .inl (.inr (.inr rfl)))
   have hO3 := Own.keptN Zy hO2 k3 hn1
   refine Zg ?_
   exact Ze2 () ⟨hb3, hO3, (((hB.g0 k1).gne k2 om).gne k3 om), (((hpa.gg0 k1).ggB k2 hB1 dc om).ggB k3 hB2 dc om), (((hpb.gg0 k1).ggB k2 hB1 dc om).ggB k3 hB2 dc om), hn1, hF4, (by rw [show (Zl o n lv) = _ from if_pos h1]; exact hB3)⟩ sb
  rintro _ w4 ⟨hb4, hOh, hBh, hpah, hpbh, hn7, hFh, hbh1⟩
  have hz2 := hb4.size
  have hbh1l := hbh1.lt
  refine Zh (Zb (st (Zc rfl (st (Zc rfl (st (Zed rfl (st (Zn fld95_1 rfl (st (Zbf (us := [pa, pb]) Zg0 rfl hBh.range (j := 1) rfl rfl ?_)))))))))))
  refine st (Zq fn65 rfl (Zmf (A := A) (B := B) (n0 := n0) (Zu hn0 hb4) hpah hpbh hA hB_ om) ?_)
  rintro _ w5 ⟨hq1, rfl⟩
  have k4 := Zi hq1 none
  have hz3 := hq1.size
  have hb5 := Zf hb4 k4
  have hz4 := hb5.size
  have hF5 := hFh.none k4
  have hO4 := hOh.g0 k4
  have hkq1 := Zey lv (A % (2 * hf lv)) (B % (2 * hf lv))
  refine st (Ze rfl (Zg (Zd (Zh (Zh (Zb (st (Zc rfl ?_))))))))
  refine st (Zbu rfl rfl (Zg (Zd ?_)))
  refine Zw rfl (fun h2 => ?_) (fun h2 => ?_)
  ·have hlv1 := h2
   refine Zb (st (Zc rfl (st (Zc rfl (st (Zed rfl (st (Zn fld95_2 rfl (st (Zt one5 rfl (hBh.g0 k4).range (j := 3) rfl (st (Zgt Zgs Zh5 rfl om ?_))))))))))))
   refine st (Zn Zav rfl (st (Zbi Zb9 rfl rfl om om (st0 (Zda Za9 rfl rfl (hbh1.g0 k4) om om ?_)))))
   intro w6 hB4 k5 hs4
   have hb6 := belowa hb5 k5
   have hF6 := hF5.put k5 (by first | exact .inr om | exact .inl (by assumption) | exact .inl (.inl rfl) | exact .inl (.inr rfl) | exact .inl (.inr (.inl rfl)) | exact .inl (.inr (.inr rfl)))
   have hO5 := Own.keptN Zy hO4 k5 hn7
   refine Zg (Zd (Zh ?_))
   refine Zhe 11 (Two (fun i => i = gp ∨ vo.ownBlock = some i)) GN (Two (fun i => i = gp ∨ vo.ownBlock = some i)) [(some 48, fun v _ => v = (pp gp)), (some 49, fun v _ => v = (pp gp)), (some 50, fun v _ => v = (pp gp)), (some 51, fun v _ => v = .pointer (some ⟨gp, 0 + 0, none⟩)), (some 52, fun v _ => v = vo), (some 53, fun v _ => v = .agg (Nd.cells (⟨(Zl o n lv).lv, (if (kq lv (A % (2 * hf lv)) (B % (2 * hf lv))) = 0 then s else (Zl o n lv).k0), (if (kq lv (A % (2 * hf lv)) (B % (2 * hf lv))) = 1 then s else (Zl o n lv).k1), (if (kq lv (A % (2 * hf lv)) (B % (2 * hf lv))) = 2 then s else (Zl o n lv).k2), (if (kq lv (A % (2 * hf lv)) (B % (2 * hf lv))) = 3 then s else (Zl o n lv).k3)⟩ : Nd)).toArray), (some 54, fun v W => Sl Kd.node W (fun _ => False) v [(⟨(Zl o n lv).lv, (if (kq lv (A % (2 * hf lv)) (B % (2 * hf lv))) = 0 then s else (Zl o n lv).k0), (if (kq lv (A % (2 * hf lv)) (B % (2 * hf lv))) = 1 then s else (Zl o n lv).k1), (if (kq lv (A % (2 * hf lv)) (B % (2 * hf lv))) = 2 then s else (Zl o n lv).k2), (if (kq lv (A % (2 * hf lv)) (B % (2 * hf lv))) = 3 then s else (Zl o n lv).k3)⟩ : Nd)]), (some 55, fun v W => (Gw.Own Kd.node 101 a0.heap.size W (fun _ => False) v (o ++ [(⟨(Zl o n lv).lv, (if (kq lv (A % (2 * hf lv)) (B % (2 * hf lv))) = 0 then s else (Zl o n lv).k0), (if (kq lv (A % (2 * hf lv)) (B % (2 * hf lv))) = 1 then s else (Zl o n lv).k1), (if (kq lv (A % (2 * hf lv)) (B % (2 * hf lv))) = 2 then s else (Zl o n lv).k2), (if (kq lv (A % (2 * hf lv)) (B % (2 * hf lv))) = 3 then s else (Zl o n lv).k3)⟩ : Nd)]) ∧ (v.ownBlock = vo.ownBlock ∨ ∃ q, v.ownBlock = some q ∧ w6.heap.size ≤ q)) ∧ Blk W gp 95 [vo, pa, pb, .int .u8 s].toArray), (some 56, fun v _ => v = (pp gp)), (some 57, fun v _ => v = .pointer (some ⟨gp, 0 + 0, none⟩)), (none, fun _ W => ∃ u, (Gw.Own Kd.node 101 a0.heap.size W (fun _ => False) u (o ++ [(⟨(Zl o n lv).lv, (if (kq lv (A % (2 * hf lv)) (B % (2 * hf lv))) = 0 then s else (Zl o n lv).k0), (if (kq lv (A % (2 * hf lv)) (B % (2 * hf lv))) = 1 then s else (Zl o n lv).k1), (if (kq lv (A % (2 * hf lv)) (B % (2 * hf lv))) = 2 then s else (Zl o n lv).k2), (if (kq lv (A % (2 * hf lv)) (B % (2 * hf lv))) = 3 then s else (Zl o n lv).k3)⟩ : Nd)]) ∧ (u.ownBlock = vo.ownBlock ∨ ∃ q, u.ownBlock = some q ∧ w6.heap.size ≤ q)) ∧ Blk W gp 95 [u, pa, pb, .int .u8 s].toArray)] [[], [], [1], [2], [3], [], [5], [4, 6], [0], [8], [7, 9]] [[], [], [1], [2, 1], [3, 2, 1], [], [5], [4, 6, 3, 2, 1, 5], [], [], [7, 6, 5, 4, 3, 2, 1]] [[], [], [], [], [], [], [7], [10], [], [], []] [false, false, false, false, false, false, false, true, false, false, true] [true, true, true, true, true, true, false, false, true, true, false] [false, true, true, true, true, true, true, true, false, false, false] [(0, (pp gp)), (6, .int .i64 0), (7, (pp g1))] sb kr kr kr rfl (Two.refl _) (fun _ _ _ h k => h.trans k) (fun _ _ h => Two.none h) (fun _ _ h => h) ⟨fun _ _ _ h _ => by exact h, fun _ _ _ h _ => by exact h, fun _ _ _ h _ => by exact h, fun _ _ _ h _ => by exact h, fun _ _ _ h _ => by exact h, fun _ _ _ h _ => by exact h, fun _ _ _ h _ => by exact h, fun _ _ _ h _ => by exact h, fun _ _ _ h _ => by exact h, fun _ _ _ h _ => by exact h, fun _ _ _ h _ => by exact h, fun _ _ _ h _ => by exact h, fun _ _ _ h k => h.g0 k, fun _ _ _ h k => ⟨⟨h.1.1.g0 k, h.1.2⟩, h.2.g0 k⟩, fun _ _ _ h _ => by exact h, fun _ _ _ h _ => by exact h, fun _ _ _ h _ => by exact h, fun _ _ _ h _ => by exact h, fun _ _ _ h k => by obtain ⟨u, h⟩ := h; exact ⟨u, ⟨h.1.1.g0 k, h.1.2⟩, h.2.g0 k⟩, trivial⟩ Za gnt rfl ?_
   intro w7 k6 hs5
   have hb7 := Zf hb6 k6
   have hF7 := hF6.none k6
   have hO6 := hO5.g0 k6
   refine ⟨⟨?_, ?_, ?_, ?_, ?_, ?_, ?_, ?_, ?_, ?_, ?_, trivial⟩, ?_⟩
   ·intro w8z_ kb_
    exact op1 (Zc rfl ⟨rfl, Za _⟩)
   ·intro w8z_ kb_
    have hb_ := Zf hb7 kb_
    have hz_ := hb_.size
    have he_ := kb_.size
    exact op1 (Zc rfl ⟨rfl, Za _⟩)
   ·intro w8z_ kb_
    have hb_ := Zf hb7 kb_
    have hz_ := hb_.size
    have he_ := kb_.size
    rintro _ rfl
    exact op1 (Zed rfl ⟨rfl, Za _⟩)
   ·intro w8z_ kb_
    have hb_ := Zf hb7 kb_
    have hz_ := hb_.size
    have he_ := kb_.size
    rintro _ rfl
    exact op1 (Zn Zg7 rfl ⟨rfl, Za _⟩)
   ·intro w8z_ kb_
    have hb_ := Zf hb7 kb_
    have hz_ := hb_.size
    have he_ := kb_.size
    rintro _ rfl
    exact op1 (Zt Zb8 rfl ((((hBh.g0 k4).gne k5 om).g0 k6).g0 kb_).range (j := 0) rfl ⟨rfl, Za _⟩)
   ·intro w8z_ kb_
    have hb_ := Zf hb7 kb_
    have hz_ := hb_.size
    have he_ := kb_.size
    exact op1 (Zp Za1 rfl ((hB4.g0 k6).g0 kb_).range rfl ⟨rfl, Za _⟩)
   ·intro w8z_ kb_
    have hb_ := Zf hb7 kb_
    have hz_ := hb_.size
    have he_ := kb_.size
    rintro _ rfl
    refine op1 (Zau (ps := [(0, .tmp 53)]) (ccs := [(Nd.cells (⟨(Zl o n lv).lv, (if (kq lv (A % (2 * hf lv)) (B % (2 * hf lv))) = 0 then s else (Zl o n lv).k0), (if (kq lv (A % (2 * hf lv)) (B % (2 * hf lv))) = 1 then s else (Zl o n lv).k1), (if (kq lv (A % (2 * hf lv)) (B % (2 * hf lv))) = 2 then s else (Zl o n lv).k2), (if (kq lv (A % (2 * hf lv)) (B % (2 * hf lv))) = 3 then s else (Zl o n lv).k3)⟩ : Nd)).toArray]) (e := 101) (cells := Nd.cells (⟨(Zl o n lv).lv, (if (kq lv (A % (2 * hf lv)) (B % (2 * hf lv))) = 0 then s else (Zl o n lv).k0), (if (kq lv (A % (2 * hf lv)) (B % (2 * hf lv))) = 1 then s else (Zl o n lv).k1), (if (kq lv (A % (2 * hf lv)) (B % (2 * hf lv))) = 2 then s else (Zl o n lv).k2), (if (kq lv (A % (2 * hf lv)) (B % (2 * hf lv))) = 3 then s else (Zl o n lv).k3)⟩ : Nd)) rfl rfl kr dc Zgw ?_)
    intro gz_ wz_ hgz_ hBz_ kz_ hsz_
    exact ⟨Zbl [(⟨(Zl o n lv).lv, (if (kq lv (A % (2 * hf lv)) (B % (2 * hf lv))) = 0 then s else (Zl o n lv).k0), (if (kq lv (A % (2 * hf lv)) (B % (2 * hf lv))) = 1 then s else (Zl o n lv).k1), (if (kq lv (A % (2 * hf lv)) (B % (2 * hf lv))) = 2 then s else (Zl o n lv).k2), (if (kq lv (A % (2 * hf lv)) (B % (2 * hf lv))) = 3 then s else (Zl o n lv).k3)⟩ : Nd)] hBz_ (fun h => h) rfl dc, kz_⟩
   ·intro w8z_ kb_
    have hb_ := Zf hb7 kb_
    have hz_ := hb_.size
    have he_ := kb_.size
    intro v_ hv_; subst v_
    intro vl_ hl_
    refine op1 (Zjw (K := Kd.node) Zaw rfl rfl (hO6.g0 kb_) Zy hl_ Zb6 (by simp; omega) (by simp; omega) om (fun _ h => h.elim) ?_)
    intro vz_ wz_ hPz_ kz_ hor_ _
    refine ⟨⟨⟨hPz_, ?_⟩, ?_⟩, Two.of kz_ (fun r hr => .inr hr)⟩
    ·rcases hor_ with h_ | h_
     ·exact .inl h_
     ·exact .inr ⟨_, h_, by omega⟩
    ·exact ((((hBh.g0 k4).gne k5 om).g0 k6).g0 kb_).grown kz_ (fun e => Zfd (hO6.ne_blk (((hBh.g0 k4).gne k5 om).g0 k6) dc) e.symm)
   ·intro w8z_ kb_
    rintro _ rfl
    exact op1 (Zed rfl ⟨rfl, Za _⟩)
   ·intro w8z_ kb_
    rintro _ rfl
    exact op1 (Zn Zg7 rfl ⟨rfl, Za _⟩)
   ·intro w8z_ kb_
    rintro v29 ⟨⟨h29, hr29⟩, hB29⟩ _ rfl
    refine op1 (Zdt Zb8 rfl rfl h29.one hB29 (by simp) ?_)
    intro wz_ hBz_ kz_ _
    exact ⟨⟨v29, ⟨h29.keptF Zy kz_ (.inr (Zfd (h29.ne_blk hB29 dc))), hr29⟩, hBz_⟩, Two.of kz_ (by rintro r ⟨⟩; exact .inl rfl)⟩
   rintro w8 k7 _ rfl _ rfl _ rfl _ rfl
   intro v_ hv_; subst v_
   rintro _ rfl v28 _ v29 _ _ rfl _ rfl _ ⟨v30, ⟨h30, hr30⟩, hB30⟩
   have hgax : g1 ≠ gp := (Zgr (hB4.g0 k6) (((hBh.g0 k4).gne k5 om).g0 k6) dc)
   have hr2 : v30.ownBlock = vo.ownBlock ∨ ∃ q, v30.ownBlock = some q ∧ w7.heap.size ≤ q := by rw [hs5]; exact hr30
   have hb8 := k7.below hb7 hb7.size (fun i hi h_ => h_.elim (fun h_ => by omega) (fun h_ => by have := (hO6.lt i h_).1; omega))
   have hB5 := (hB4.g0 k6).two k7 (fun h_ => h_.elim hgax hn7)
   have hS1 := Sl.ggTwo (((hpah.gg0 k4).ggB k5 (hbh1.g0 k4) dc om).gg0 k6) k7 (fun i_ _ h_ => h_.elim (fun h_ => by subst h_; exact Blk.isG (((hBh.g0 k4).gne k5 om).g0 k6) dc om) (fun h_ => hO6.isG h_ dc om))
   have hS2 := Sl.ggTwo (((hpbh.gg0 k4).ggB k5 (hbh1.g0 k4) dc om).gg0 k6) k7 (fun i_ _ h_ => h_.elim (fun h_ => by subst h_; exact Blk.isG (((hBh.g0 k4).gne k5 om).g0 k6) dc om) (fun h_ => hO6.isG h_ dc om))
   have hF8 := hF7.two k7 (fun i h_ => h_.imp id id) hr2
   have hz5 := hb8.size
   have hn2 := Ziz hn7 hr2 (by have := ((hB4.g0 k6)).lt; omega)
   refine Zg (Zd (Zh (Zb (st (Zc rfl (st (Zed rfl (st (Zn Zg7 rfl ?_)))))))))
   refine st (Zt Zb8 rfl hB30.range (j := 0) rfl (st (Zaq Zaw rfl h30.sl (st (Ze rfl (Zg (Zd (Zaa rfl rfl ?_))))))))
   have hf0 : f = 0 := by omega
   subst hf0
   have e_ : Zbk (0 + 1) o n (A % (2 * hf lv)) (B % (2 * hf lv)) s = (o ++ [(Zl o n lv).setK (kq lv (A % (2 * hf lv)) (B % (2 * hf lv))) s], (o.length : Int) + 1) := by rw [hlv1]; exact Zk3
   rw [e_]
   refine ⟨_, rfl, by simp, v30, hb8, ?_, hB30, hS1, hS2, hF8⟩
   exact h30
  have hlv1 := h2
  refine Zb (st (Zc rfl (st (Zc rfl (st (Zc rfl (st (Za7 rfl rfl om (st (Zc rfl (st (Zn Zav rfl ?_))))))))))))
  refine st (Zbi Zb9 rfl rfl om om (st (Zc3 Za9 rfl (hbh1.g0 k4).range (j := 1) rfl rfl om om (st (Zq fn60 rfl (ih (lv := (lv - 1)) (n := (Zae ((Zl o n lv).k0) ((Zl o n lv).k1) ((Zl o n lv).k2) ((Zl o n lv).k3) (kq lv (A % (2 * hf lv)) (B % (2 * hf lv))))) om om ho (Zks ho hni hlv1 (Zey _ _ _).1 (Zey _ _ _).2) om hb5 hO4 (hBh.g0 k4) (hpah.gg0 k4) (hpbh.gg0 k4)) ?_)))))
  rintro _ w9 ⟨rfl, vo1, hb9, hO7, hB6, hS3, hS4, hF9⟩
  have hnp_ : g1 ≠ gp := Zgr (hbh1.g0 k4) (hBh.g0 k4) dc
  have hB7 := Blk.frm (hbh1.g0 k4) hF9 hnp_ hn7
  have hn3 := (hF9.2 _ ((hbh1.g0 k4)).lt hnp_ hn7).2
  have hz6 := hb9.size
  have hF10 := hF5.trans hF9
  have hlt_2 := hB7.lt
  have hpn_ := Zjr f o (Zae ((Zl o n lv).k0) ((Zl o n lv).k1) ((Zl o n lv).k2) ((Zl o n lv).k3) (kq lv (A % (2 * hf lv)) (B % (2 * hf lv)))) (A % (2 * hf (lv - 1))) (B % (2 * hf (lv - 1))) s
  refine st (Zn Zav rfl (st (Zbi Zb9 rfl rfl om om (st0 (Zda Za9 rfl rfl hB7 om om ?_)))))
  intro w10 hB8 k9 hs6
  have hb10 := belowa hb9 k9
  have hF11 := hF10.put k9 (by first | exact .inr om | exact .inl (by assumption) | exact .inl (.inl rfl) | exact .inl (.inr rfl) | exact .inl (.inr (.inl rfl)) | exact .inl (.inr (.inr rfl)))
  have hO8 := Own.keptN Zy hO7 k9 hn3
  refine Zg (Zd (Zh ?_))
  refine Zhe 11 (Two (fun i => i = gp ∨ vo1.ownBlock = some i)) GN (Two (fun i => i = gp ∨ vo1.ownBlock = some i)) [(some 48, fun v _ => v = (pp gp)), (some 49, fun v _ => v = (pp gp)), (some 50, fun v _ => v = (pp gp)), (some 51, fun v _ => v = .pointer (some ⟨gp, 0 + 0, none⟩)), (some 52, fun v _ => v = vo1), (some 53, fun v _ => v = .agg (Nd.cells (⟨(Zl o n lv).lv, (if (kq lv (A % (2 * hf lv)) (B % (2 * hf lv))) = 0 then (Zbk f o (Zae ((Zl o n lv).k0) ((Zl o n lv).k1) ((Zl o n lv).k2) ((Zl o n lv).k3) (kq lv (A % (2 * hf lv)) (B % (2 * hf lv)))) (A % (2 * hf (lv - 1))) (B % (2 * hf (lv - 1))) s).2 else (Zl o n lv).k0), (if (kq lv (A % (2 * hf lv)) (B % (2 * hf lv))) = 1 then (Zbk f o (Zae ((Zl o n lv).k0) ((Zl o n lv).k1) ((Zl o n lv).k2) ((Zl o n lv).k3) (kq lv (A % (2 * hf lv)) (B % (2 * hf lv)))) (A % (2 * hf (lv - 1))) (B % (2 * hf (lv - 1))) s).2 else (Zl o n lv).k1), (if (kq lv (A % (2 * hf lv)) (B % (2 * hf lv))) = 2 then (Zbk f o (Zae ((Zl o n lv).k0) ((Zl o n lv).k1) ((Zl o n lv).k2) ((Zl o n lv).k3) (kq lv (A % (2 * hf lv)) (B % (2 * hf lv)))) (A % (2 * hf (lv - 1))) (B % (2 * hf (lv - 1))) s).2 else (Zl o n lv).k2), (if (kq lv (A % (2 * hf lv)) (B % (2 * hf lv))) = 3 then (Zbk f o (Zae ((Zl o n lv).k0) ((Zl o n lv).k1) ((Zl o n lv).k2) ((Zl o n lv).k3) (kq lv (A % (2 * hf lv)) (B % (2 * hf lv)))) (A % (2 * hf (lv - 1))) (B % (2 * hf (lv - 1))) s).2 else (Zl o n lv).k3)⟩ : Nd)).toArray), (some 54, fun v W => Sl Kd.node W (fun _ => False) v [(⟨(Zl o n lv).lv, (if (kq lv (A % (2 * hf lv)) (B % (2 * hf lv))) = 0 then (Zbk f o (Zae ((Zl o n lv).k0) ((Zl o n lv).k1) ((Zl o n lv).k2) ((Zl o n lv).k3) (kq lv (A % (2 * hf lv)) (B % (2 * hf lv)))) (A % (2 * hf (lv - 1))) (B % (2 * hf (lv - 1))) s).2 else (Zl o n lv).k0), (if (kq lv (A % (2 * hf lv)) (B % (2 * hf lv))) = 1 then (Zbk f o (Zae ((Zl o n lv).k0) ((Zl o n lv).k1) ((Zl o n lv).k2) ((Zl o n lv).k3) (kq lv (A % (2 * hf lv)) (B % (2 * hf lv)))) (A % (2 * hf (lv - 1))) (B % (2 * hf (lv - 1))) s).2 else (Zl o n lv).k1), (if (kq lv (A % (2 * hf lv)) (B % (2 * hf lv))) = 2 then (Zbk f o (Zae ((Zl o n lv).k0) ((Zl o n lv).k1) ((Zl o n lv).k2) ((Zl o n lv).k3) (kq lv (A % (2 * hf lv)) (B % (2 * hf lv)))) (A % (2 * hf (lv - 1))) (B % (2 * hf (lv - 1))) s).2 else (Zl o n lv).k2), (if (kq lv (A % (2 * hf lv)) (B % (2 * hf lv))) = 3 then (Zbk f o (Zae ((Zl o n lv).k0) ((Zl o n lv).k1) ((Zl o n lv).k2) ((Zl o n lv).k3) (kq lv (A % (2 * hf lv)) (B % (2 * hf lv)))) (A % (2 * hf (lv - 1))) (B % (2 * hf (lv - 1))) s).2 else (Zl o n lv).k3)⟩ : Nd)]), (some 55, fun v W => (Gw.Own Kd.node 101 a0.heap.size W (fun _ => False) v ((Zbk f o (Zae ((Zl o n lv).k0) ((Zl o n lv).k1) ((Zl o n lv).k2) ((Zl o n lv).k3) (kq lv (A % (2 * hf lv)) (B % (2 * hf lv)))) (A % (2 * hf (lv - 1))) (B % (2 * hf (lv - 1))) s).1 ++ [(⟨(Zl o n lv).lv, (if (kq lv (A % (2 * hf lv)) (B % (2 * hf lv))) = 0 then (Zbk f o (Zae ((Zl o n lv).k0) ((Zl o n lv).k1) ((Zl o n lv).k2) ((Zl o n lv).k3) (kq lv (A % (2 * hf lv)) (B % (2 * hf lv)))) (A % (2 * hf (lv - 1))) (B % (2 * hf (lv - 1))) s).2 else (Zl o n lv).k0), (if (kq lv (A % (2 * hf lv)) (B % (2 * hf lv))) = 1 then (Zbk f o (Zae ((Zl o n lv).k0) ((Zl o n lv).k1) ((Zl o n lv).k2) ((Zl o n lv).k3) (kq lv (A % (2 * hf lv)) (B % (2 * hf lv)))) (A % (2 * hf (lv - 1))) (B % (2 * hf (lv - 1))) s).2 else (Zl o n lv).k1), (if (kq lv (A % (2 * hf lv)) (B % (2 * hf lv))) = 2 then (Zbk f o (Zae ((Zl o n lv).k0) ((Zl o n lv).k1) ((Zl o n lv).k2) ((Zl o n lv).k3) (kq lv (A % (2 * hf lv)) (B % (2 * hf lv)))) (A % (2 * hf (lv - 1))) (B % (2 * hf (lv - 1))) s).2 else (Zl o n lv).k2), (if (kq lv (A % (2 * hf lv)) (B % (2 * hf lv))) = 3 then (Zbk f o (Zae ((Zl o n lv).k0) ((Zl o n lv).k1) ((Zl o n lv).k2) ((Zl o n lv).k3) (kq lv (A % (2 * hf lv)) (B % (2 * hf lv)))) (A % (2 * hf (lv - 1))) (B % (2 * hf (lv - 1))) s).2 else (Zl o n lv).k3)⟩ : Nd)]) ∧ (v.ownBlock = vo1.ownBlock ∨ ∃ q, v.ownBlock = some q ∧ w10.heap.size ≤ q)) ∧ Blk W gp 95 [vo1, pa, pb, .int .u8 s].toArray), (some 56, fun v _ => v = (pp gp)), (some 57, fun v _ => v = .pointer (some ⟨gp, 0 + 0, none⟩)), (none, fun _ W => ∃ u, (Gw.Own Kd.node 101 a0.heap.size W (fun _ => False) u ((Zbk f o (Zae ((Zl o n lv).k0) ((Zl o n lv).k1) ((Zl o n lv).k2) ((Zl o n lv).k3) (kq lv (A % (2 * hf lv)) (B % (2 * hf lv)))) (A % (2 * hf (lv - 1))) (B % (2 * hf (lv - 1))) s).1 ++ [(⟨(Zl o n lv).lv, (if (kq lv (A % (2 * hf lv)) (B % (2 * hf lv))) = 0 then (Zbk f o (Zae ((Zl o n lv).k0) ((Zl o n lv).k1) ((Zl o n lv).k2) ((Zl o n lv).k3) (kq lv (A % (2 * hf lv)) (B % (2 * hf lv)))) (A % (2 * hf (lv - 1))) (B % (2 * hf (lv - 1))) s).2 else (Zl o n lv).k0), (if (kq lv (A % (2 * hf lv)) (B % (2 * hf lv))) = 1 then (Zbk f o (Zae ((Zl o n lv).k0) ((Zl o n lv).k1) ((Zl o n lv).k2) ((Zl o n lv).k3) (kq lv (A % (2 * hf lv)) (B % (2 * hf lv)))) (A % (2 * hf (lv - 1))) (B % (2 * hf (lv - 1))) s).2 else (Zl o n lv).k1), (if (kq lv (A % (2 * hf lv)) (B % (2 * hf lv))) = 2 then (Zbk f o (Zae ((Zl o n lv).k0) ((Zl o n lv).k1) ((Zl o n lv).k2) ((Zl o n lv).k3) (kq lv (A % (2 * hf lv)) (B % (2 * hf lv)))) (A % (2 * hf (lv - 1))) (B % (2 * hf (lv - 1))) s).2 else (Zl o n lv).k2), (if (kq lv (A % (2 * hf lv)) (B % (2 * hf lv))) = 3 then (Zbk f o (Zae ((Zl o n lv).k0) ((Zl o n lv).k1) ((Zl o n lv).k2) ((Zl o n lv).k3) (kq lv (A % (2 * hf lv)) (B % (2 * hf lv)))) (A % (2 * hf (lv - 1))) (B % (2 * hf (lv - 1))) s).2 else (Zl o n lv).k3)⟩ : Nd)]) ∧ (u.ownBlock = vo1.ownBlock ∨ ∃ q, u.ownBlock = some q ∧ w10.heap.size ≤ q)) ∧ Blk W gp 95 [u, pa, pb, .int .u8 s].toArray)] [[], [], [1], [2], [3], [], [5], [4, 6], [0], [8], [7, 9]] [[], [], [1], [2, 1], [3, 2, 1], [], [5], [4, 6, 3, 2, 1, 5], [], [], [7, 6, 5, 4, 3, 2, 1]] [[], [], [], [], [], [], [7], [10], [], [], []] [false, false, false, false, false, false, false, true, false, false, true] [true, true, true, true, true, true, false, false, true, true, false] [false, true, true, true, true, true, true, true, false, false, false] [(0, (pp gp)), (6, .int .i64 0), (7, (pp g1))] sb kr kr kr rfl (Two.refl _) (fun _ _ _ h k => h.trans k) (fun _ _ h => Two.none h) (fun _ _ h => h) ⟨fun _ _ _ h _ => by exact h, fun _ _ _ h _ => by exact h, fun _ _ _ h _ => by exact h, fun _ _ _ h _ => by exact h, fun _ _ _ h _ => by exact h, fun _ _ _ h _ => by exact h, fun _ _ _ h _ => by exact h, fun _ _ _ h _ => by exact h, fun _ _ _ h _ => by exact h, fun _ _ _ h _ => by exact h, fun _ _ _ h _ => by exact h, fun _ _ _ h _ => by exact h, fun _ _ _ h k => h.g0 k, fun _ _ _ h k => ⟨⟨h.1.1.g0 k, h.1.2⟩, h.2.g0 k⟩, fun _ _ _ h _ => by exact h, fun _ _ _ h _ => by exact h, fun _ _ _ h _ => by exact h, fun _ _ _ h _ => by exact h, fun _ _ _ h k => by obtain ⟨u, h⟩ := h; exact ⟨u, ⟨h.1.1.g0 k, h.1.2⟩, h.2.g0 k⟩, trivial⟩ Za gnt rfl ?_
  intro w11 k10 hs7
  have hb11 := Zf hb10 k10
  have hF12 := hF11.none k10
  have hO9 := hO8.g0 k10
  refine ⟨⟨?_, ?_, ?_, ?_, ?_, ?_, ?_, ?_, ?_, ?_, ?_, trivial⟩, ?_⟩
  ·intro w8z_ kb_
   exact op1 (Zc rfl ⟨rfl, Za _⟩)
  ·intro w8z_ kb_
   have hb_ := Zf hb11 kb_
   have hz_ := hb_.size
   have he_ := kb_.size
   exact op1 (Zc rfl ⟨rfl, Za _⟩)
  ·intro w8z_ kb_
   have hb_ := Zf hb11 kb_
   have hz_ := hb_.size
   have he_ := kb_.size
   rintro _ rfl
   exact op1 (Zed rfl ⟨rfl, Za _⟩)
  ·intro w8z_ kb_
   have hb_ := Zf hb11 kb_
   have hz_ := hb_.size
   have he_ := kb_.size
   rintro _ rfl
   exact op1 (Zn Zg7 rfl ⟨rfl, Za _⟩)
  ·intro w8z_ kb_
   have hb_ := Zf hb11 kb_
   have hz_ := hb_.size
   have he_ := kb_.size
   rintro _ rfl
   exact op1 (Zt Zb8 rfl (((hB6.gne k9 om).g0 k10).g0 kb_).range (j := 0) rfl ⟨rfl, Za _⟩)
  ·intro w8z_ kb_
   have hb_ := Zf hb11 kb_
   have hz_ := hb_.size
   have he_ := kb_.size
   exact op1 (Zp Za1 rfl ((hB8.g0 k10).g0 kb_).range rfl ⟨rfl, Za _⟩)
  ·intro w8z_ kb_
   have hb_ := Zf hb11 kb_
   have hz_ := hb_.size
   have he_ := kb_.size
   rintro _ rfl
   refine op1 (Zau (ps := [(0, .tmp 53)]) (ccs := [(Nd.cells (⟨(Zl o n lv).lv, (if (kq lv (A % (2 * hf lv)) (B % (2 * hf lv))) = 0 then (Zbk f o (Zae ((Zl o n lv).k0) ((Zl o n lv).k1) ((Zl o n lv).k2) ((Zl o n lv).k3) (kq lv (A % (2 * hf lv)) (B % (2 * hf lv)))) (A % (2 * hf (lv - 1))) (B % (2 * hf (lv - 1))) s).2 else (Zl o n lv).k0), (if (kq lv (A % (2 * hf lv)) (B % (2 * hf lv))) = 1 then (Zbk f o (Zae ((Zl o n lv).k0) ((Zl o n lv).k1) ((Zl o n lv).k2) ((Zl o n lv).k3) (kq lv (A % (2 * hf lv)) (B % (2 * hf lv)))) (A % (2 * hf (lv - 1))) (B % (2 * hf (lv - 1))) s).2 else (Zl o n lv).k1), (if (kq lv (A % (2 * hf lv)) (B % (2 * hf lv))) = 2 then (Zbk f o (Zae ((Zl o n lv).k0) ((Zl o n lv).k1) ((Zl o n lv).k2) ((Zl o n lv).k3) (kq lv (A % (2 * hf lv)) (B % (2 * hf lv)))) (A % (2 * hf (lv - 1))) (B % (2 * hf (lv - 1))) s).2 else (Zl o n lv).k2), (if (kq lv (A % (2 * hf lv)) (B % (2 * hf lv))) = 3 then (Zbk f o (Zae ((Zl o n lv).k0) ((Zl o n lv).k1) ((Zl o n lv).k2) ((Zl o n lv).k3) (kq lv (A % (2 * hf lv)) (B % (2 * hf lv)))) (A % (2 * hf (lv - 1))) (B % (2 * hf (lv - 1))) s).2 else (Zl o n lv).k3)⟩ : Nd)).toArray]) (e := 101) (cells := Nd.cells (⟨(Zl o n lv).lv, (if (kq lv (A % (2 * hf lv)) (B % (2 * hf lv))) = 0 then (Zbk f o (Zae ((Zl o n lv).k0) ((Zl o n lv).k1) ((Zl o n lv).k2) ((Zl o n lv).k3) (kq lv (A % (2 * hf lv)) (B % (2 * hf lv)))) (A % (2 * hf (lv - 1))) (B % (2 * hf (lv - 1))) s).2 else (Zl o n lv).k0), (if (kq lv (A % (2 * hf lv)) (B % (2 * hf lv))) = 1 then (Zbk f o (Zae ((Zl o n lv).k0) ((Zl o n lv).k1) ((Zl o n lv).k2) ((Zl o n lv).k3) (kq lv (A % (2 * hf lv)) (B % (2 * hf lv)))) (A % (2 * hf (lv - 1))) (B % (2 * hf (lv - 1))) s).2 else (Zl o n lv).k1), (if (kq lv (A % (2 * hf lv)) (B % (2 * hf lv))) = 2 then (Zbk f o (Zae ((Zl o n lv).k0) ((Zl o n lv).k1) ((Zl o n lv).k2) ((Zl o n lv).k3) (kq lv (A % (2 * hf lv)) (B % (2 * hf lv)))) (A % (2 * hf (lv - 1))) (B % (2 * hf (lv - 1))) s).2 else (Zl o n lv).k2), (if (kq lv (A % (2 * hf lv)) (B % (2 * hf lv))) = 3 then (Zbk f o (Zae ((Zl o n lv).k0) ((Zl o n lv).k1) ((Zl o n lv).k2) ((Zl o n lv).k3) (kq lv (A % (2 * hf lv)) (B % (2 * hf lv)))) (A % (2 * hf (lv - 1))) (B % (2 * hf (lv - 1))) s).2 else (Zl o n lv).k3)⟩ : Nd)) rfl rfl kr dc Zgw ?_)
   intro gz_ wz_ hgz_ hBz_ kz_ hsz_
   exact ⟨Zbl [(⟨(Zl o n lv).lv, (if (kq lv (A % (2 * hf lv)) (B % (2 * hf lv))) = 0 then (Zbk f o (Zae ((Zl o n lv).k0) ((Zl o n lv).k1) ((Zl o n lv).k2) ((Zl o n lv).k3) (kq lv (A % (2 * hf lv)) (B % (2 * hf lv)))) (A % (2 * hf (lv - 1))) (B % (2 * hf (lv - 1))) s).2 else (Zl o n lv).k0), (if (kq lv (A % (2 * hf lv)) (B % (2 * hf lv))) = 1 then (Zbk f o (Zae ((Zl o n lv).k0) ((Zl o n lv).k1) ((Zl o n lv).k2) ((Zl o n lv).k3) (kq lv (A % (2 * hf lv)) (B % (2 * hf lv)))) (A % (2 * hf (lv - 1))) (B % (2 * hf (lv - 1))) s).2 else (Zl o n lv).k1), (if (kq lv (A % (2 * hf lv)) (B % (2 * hf lv))) = 2 then (Zbk f o (Zae ((Zl o n lv).k0) ((Zl o n lv).k1) ((Zl o n lv).k2) ((Zl o n lv).k3) (kq lv (A % (2 * hf lv)) (B % (2 * hf lv)))) (A % (2 * hf (lv - 1))) (B % (2 * hf (lv - 1))) s).2 else (Zl o n lv).k2), (if (kq lv (A % (2 * hf lv)) (B % (2 * hf lv))) = 3 then (Zbk f o (Zae ((Zl o n lv).k0) ((Zl o n lv).k1) ((Zl o n lv).k2) ((Zl o n lv).k3) (kq lv (A % (2 * hf lv)) (B % (2 * hf lv)))) (A % (2 * hf (lv - 1))) (B % (2 * hf (lv - 1))) s).2 else (Zl o n lv).k3)⟩ : Nd)] hBz_ (fun h => h) rfl dc, kz_⟩
  ·intro w8z_ kb_
   have hb_ := Zf hb11 kb_
   have hz_ := hb_.size
   have he_ := kb_.size
   intro v_ hv_; subst v_
   intro vl_ hl_
   refine op1 (Zjw (K := Kd.node) Zaw rfl rfl (hO9.g0 kb_) Zy hl_ Zb6 (by simp; omega) (by simp; omega) om (fun _ h => h.elim) ?_)
   intro vz_ wz_ hPz_ kz_ hor_ _
   refine ⟨⟨⟨hPz_, ?_⟩, ?_⟩, Two.of kz_ (fun r hr => .inr hr)⟩
   ·rcases hor_ with h_ | h_
    ·exact .inl h_
    ·exact .inr ⟨_, h_, by omega⟩
   ·exact (((hB6.gne k9 om).g0 k10).g0 kb_).grown kz_ (fun e => Zfd (hO9.ne_blk ((hB6.gne k9 om).g0 k10) dc) e.symm)
  ·intro w8z_ kb_
   rintro _ rfl
   exact op1 (Zed rfl ⟨rfl, Za _⟩)
  ·intro w8z_ kb_
   rintro _ rfl
   exact op1 (Zn Zg7 rfl ⟨rfl, Za _⟩)
  ·intro w8z_ kb_
   rintro v29 ⟨⟨h29, hr29⟩, hB29⟩ _ rfl
   refine op1 (Zdt Zb8 rfl rfl h29.one hB29 (by simp) ?_)
   intro wz_ hBz_ kz_ _
   exact ⟨⟨v29, ⟨h29.keptF Zy kz_ (.inr (Zfd (h29.ne_blk hB29 dc))), hr29⟩, hBz_⟩, Two.of kz_ (by rintro r ⟨⟩; exact .inl rfl)⟩
  rintro w12 k11 _ rfl _ rfl _ rfl _ rfl
  intro v_ hv_; subst v_
  rintro _ rfl v28 _ v29 _ _ rfl _ rfl _ ⟨v30, ⟨h30, hr30⟩, hB30⟩
  have hgax : g1 ≠ gp := (Zgr (hB8.g0 k10) ((hB6.gne k9 om).g0 k10) dc)
  have hr3 : v30.ownBlock = vo1.ownBlock ∨ ∃ q, v30.ownBlock = some q ∧ w11.heap.size ≤ q := by rw [hs7]; exact hr30
  have hb12 := k11.below hb11 hb11.size (fun i hi h_ => h_.elim (fun h_ => by omega) (fun h_ => by have := (hO9.lt i h_).1; omega))
  have hB9 := (hB8.g0 k10).two k11 (fun h_ => h_.elim hgax hn3)
  have hS5 := Sl.ggTwo ((hS3.ggB k9 hB7 dc om).gg0 k10) k11 (fun i_ _ h_ => h_.elim (fun h_ => by subst h_; exact Blk.isG ((hB6.gne k9 om).g0 k10) dc om) (fun h_ => hO9.isG h_ dc om))
  have hS6 := Sl.ggTwo ((hS4.ggB k9 hB7 dc om).gg0 k10) k11 (fun i_ _ h_ => h_.elim (fun h_ => by subst h_; exact Blk.isG ((hB6.gne k9 om).g0 k10) dc om) (fun h_ => hO9.isG h_ dc om))
  have hF13 := hF12.two k11 (fun i h_ => h_.imp id id) hr3
  have hz7 := hb12.size
  have hn4 := Ziz hn3 hr3 (by have := ((hB8.g0 k10)).lt; omega)
  refine Zg (Zd (Zh (Zb (st (Zc rfl (st (Zed rfl (st (Zn Zg7 rfl ?_)))))))))
  refine st (Zt Zb8 rfl hB30.range (j := 0) rfl (st (Zaq Zaw rfl h30.sl (st (Ze rfl (Zg (Zd (Zaa rfl rfl ?_))))))))
  have e_ : Zbk (f + 1) o n (A % (2 * hf lv)) (B % (2 * hf lv)) s = ((Zbk f o (Zae ((Zl o n lv).k0) ((Zl o n lv).k1) ((Zl o n lv).k2) ((Zl o n lv).k3) (kq lv (A % (2 * hf lv)) (B % (2 * hf lv)))) (A % (2 * hf (lv - 1))) (B % (2 * hf (lv - 1))) s).1 ++ [(Zl o n lv).setK (kq lv (A % (2 * hf lv)) (B % (2 * hf lv))) (Zbk f o (Zae ((Zl o n lv).k0) ((Zl o n lv).k1) ((Zl o n lv).k2) ((Zl o n lv).k3) (kq lv (A % (2 * hf lv)) (B % (2 * hf lv)))) (A % (2 * hf (lv - 1))) (B % (2 * hf (lv - 1))) s).2], ((Zbk f o (Zae ((Zl o n lv).k0) ((Zl o n lv).k1) ((Zl o n lv).k2) ((Zl o n lv).k3) (kq lv (A % (2 * hf lv)) (B % (2 * hf lv)))) (A % (2 * hf (lv - 1))) (B % (2 * hf (lv - 1))) s).1.length : Int) + 1) := by rw [put_nd om, show (f : Int) + 1 = lv by omega, Zke om, Zke om]; rfl
  rw [e_]
  refine ⟨_, rfl, by simp, v30, hb12, ?_, hB30, hS5, hS6, hF13⟩
  exact h30
end Go.Proofs.Ytfljelnfjbbknaa.Lm
namespace Go.Gw
open Go.RowKit
def Zf0 (P : Program) (ops : Array Oper) (n : Nat) (D : List Deferred) (ρ0 ρe : Env) (w0 : World) (R R0 R1 : World → World → Prop) (sp : Zcf) : List Oper → List (List Nat) → List Bool → List Bool → List Bool → Zcf → Prop
  | o :: os, d :: ds, true :: bs, true :: cs, e :: es, (_, φ) :: r => (∀ w, R0 w0 w → Zd3 sp d (cond e (ρe ++ ρ0) ρ0) w (fun ρ => Op1 P ops o n D ρ w (fun v w' => φ v w' ∧ R1 w w'))) ∧ Zf0 P ops n D ρ0 ρe w0 R R0 R1 sp os ds bs cs es r
  | o :: os, d :: ds, true :: bs, false :: cs, e :: es, (_, φ) :: r => (∀ w, R w0 w → Zd3 sp d (cond e (ρe ++ ρ0) ρ0) w (fun ρ => Op1 P ops o n D ρ w (fun v w' => φ v w' ∧ R1 w w'))) ∧ Zf0 P ops n D ρ0 ρe w0 R R0 R1 sp os ds bs cs es r
  | o :: os, d :: ds, false :: bs, true :: cs, e :: es, (_, φ) :: r => (∀ w, R0 w0 w → Zd3 sp d (cond e (ρe ++ ρ0) ρ0) w (fun ρ => Op1 P ops o n D ρ w (fun v w' => φ v w' ∧ R0 w w'))) ∧ Zf0 P ops n D ρ0 ρe w0 R R0 R1 sp os ds bs cs es r
  | o :: os, d :: ds, false :: bs, false :: cs, e :: es, (_, φ) :: r => (∀ w, R w0 w → Zd3 sp d (cond e (ρe ++ ρ0) ρ0) w (fun ρ => Op1 P ops o n D ρ w (fun v w' => φ v w' ∧ R0 w w'))) ∧ Zf0 P ops n D ρ0 ρe w0 R R0 R1 sp os ds bs cs es r
  | _, _, _, _, _, [] => True
  | _, _, _, _, _, _ => False
section
variable {P : Program} {l : List Oper} {Q : Exit → Act → World → Prop} {n m : Nat} {D : List Deferred} {ρ0 ρe : Env} {w0 : World} {R R0 R1 : World → World → Prop} {sp : Zcf} {ds anc con : List (List Nat)} {big st1 cls es : List Bool}
theorem Zf0.at_ {ops : Array Oper} : ∀ {l' : List Oper} {ds' : List (List Nat)} {bs' cs' es' : List Bool} {sp' : Zcf}, Zf0 P ops n D ρ0 ρe w0 R R0 R1 sp l' ds' bs' cs' es' sp' → ∀ {i : Nat} {dst : Option Nat} {φ : Value → World → Prop} {o : Oper}, sp'[i]? = some (dst, φ) → l'[i]? = some o →
    ∀ w, Ze4 R R0 cs' i w0 w → Zd3 sp (ds'.getD i []) (cond (es'.getD i false) (ρe ++ ρ0) ρ0) w (fun ρ => Op1 P ops o n D ρ w (fun v w' => φ v w' ∧ Zcv R0 R1 bs' i w w')) := by
  intro l' ds' bs' cs' es' sp' h
  induction sp' generalizing l' ds' bs' cs' es' with
  | nil => intro i dst φ o hs; simp at hs
  | cons p r ih =>
    intro i dst φ o hs hl
    obtain ⟨pd, pφ⟩ := p
    match l', ds', bs', cs', es', h with
    | o' :: os, d :: dd, true :: bb, true :: cc, e :: ee, h =>
      obtain ⟨h1, h2⟩ := h
      cases i with
      | zero => simp at hs hl; obtain ⟨rfl, rfl⟩ := hs; subst hl; simpa [Zcv, Ze4] using h1
      | succ i => simp at hs hl; simpa [Zcv, Ze4] using ih h2 hs hl
    | o' :: os, d :: dd, true :: bb, false :: cc, e :: ee, h =>
      obtain ⟨h1, h2⟩ := h
      cases i with
      | zero => simp at hs hl; obtain ⟨rfl, rfl⟩ := hs; subst hl; simpa [Zcv, Ze4] using h1
      | succ i => simp at hs hl; simpa [Zcv, Ze4] using ih h2 hs hl
    | o' :: os, d :: dd, false :: bb, true :: cc, e :: ee, h =>
      obtain ⟨h1, h2⟩ := h
      cases i with
      | zero => simp at hs hl; obtain ⟨rfl, rfl⟩ := hs; subst hl; simpa [Zcv, Ze4] using h1
      | succ i => simp at hs hl; simpa [Zcv, Ze4] using ih h2 hs hl
    | o' :: os, d :: dd, false :: bb, false :: cc, e :: ee, h =>
      obtain ⟨h1, h2⟩ := h
      cases i with
      | zero => simp at hs hl; obtain ⟨rfl, rfl⟩ := hs; subst hl; simpa [Zcv, Ze4] using h1
      | succ i => simp at hs hl; simpa [Zcv, Ze4] using ih h2 hs hl
theorem mid_anyDE {keys : List Nat} (hA : Zhd l anc = true) (hC : conOk m ds anc con big st1 = true) (hR0 : ∀ a b, R0 a b → R a b) (hR1 : ∀ a b, R1 a b → R a b) (hF : DrawFactsT l m n keys sp ds) (hkeys : ∀ t v, look ρ0 t = some v → t ∈ keys) (hRt : ∀ a b c, R a b → R b c → R a c) (hst : Zhj R0 R1 sp st1) (hR00 : ∀ a, R0 a a) (hR0t : ∀ a b c, R0 a b → R0 b c → R0 a c) (hcl : Zjp m anc big cls = true) (hke : Zgf l m (Ze0 ρe) es = true) (hem : ∀ j, es.getD j false = true → j < m) (hobs : Zf0 P l.toArray n D ρ0 ρe w0 R R0 R1 sp l ds big cls es sp)
    (hend : ∀ w, R w0 w → AllV2 (finS sp con) ρ0 w (fun ρ => Reg P l.toArray Q (l.drop m) n D ρ w)) :
    ∀ (fuel : Nat) (listed : Array Bool) (vals : Nat → Value) (a : Act) (w : World), MidD l con n D ρ0 w0 R R0 big sp m l.length listed vals a w → ((∃ e, es.getD e false = true ∧ listed.getD e false = false) → ∀ t v, look ρe t = some v → a.tmps[t]? = some v) → cnt l.length listed ≤ fuel → wpAny P .any l.toArray Q fuel listed a w := by
  have hfin : ∀ (fuel : Nat) (listed : Array Bool) (vals : Nat → Value) (a : Act) (w : World), MidD l con n D ρ0 w0 R R0 big sp m l.length listed vals a w → (∀ i, i < m → listed.getD i false = true) → l.length - m ≤ fuel → wpAny P .any l.toArray Q fuel listed a w := by
    intro fuel listed vals a w hM hall hf
    obtain ⟨ρ', hFr, hReg⟩ := Zii (w := w) vals (finS sp con) 0 ρ0 _ hM.fr (fun i dst φ hs => by
      obtain ⟨φ0, hs0, hφ⟩ := finS_at hs
      have hi : i < m := by rw [← hF.spl]; exact (List.getElem?_eq_some_iff.1 hs0).1
      have hg := hM.got i dst φ0 hs0 (hall i hi)
      rw [Nat.zero_add]
      refine ⟨?_, hg.2⟩
      rcases hφ with ⟨rfl, hc⟩ | rfl
      · exact hg.1 (by rw [hc]; simp)
      · trivial) (hend w hM.wr)
    exact Zjk hF fuel m listed a w (Nat.le_refl _) hF.le hf hM.size hall hM.tail (hReg a hFr)
  have hcnt : ∀ listed : Array Bool, (∀ i, m ≤ i → listed.getD i false = false) → ∀ k, m ≤ k → k - m ≤ cnt k listed := by
    intro listed ht k
    induction k with
    | zero => intro _; omega
    | succ k ih =>
      intro hk
      unfold cnt
      rcases Nat.lt_or_ge k m with h | h
      · omega
      · rw [ht k h]; have := ih h; simp; omega
  intro fuel
  induction fuel with
  | zero =>
    intro listed vals a w hM hE hc
    have h0 : cnt l.length listed = 0 := by omega
    have hall := Zfc listed _ h0
    refine hfin 0 listed vals a w hM (fun i hi => hall i (by have := hF.le; omega)) ?_
    have := hcnt listed hM.tail l.length hF.le
    omega
  | succ fuel ih =>
    intro listed vals a w hM hE hc
    by_cases hall : ∀ i, i < m → listed.getD i false = true
    · refine hfin _ listed vals a w hM hall ?_
      have := hcnt listed hM.tail l.length hF.le
      omega
    · 
      refine ⟨fun h0 => absurd ?_ hall, fun i hi => ?_⟩
      · 
        intro i hi
        induction i using Nat.strongRecOn with
        | _ i ihh =>
          by_cases hb : listed.getD i false = true
          · exact hb
          · exfalso
            have hil : i < l.length := by have := hF.le; omega
            have hr : i ∈ Region.ready .any l.toArray listed := by
              refine (Zbm (by simpa using hM.size)).2 ⟨l[i], by simp [hil], by simpa using hb, ?_⟩
              rw [Array.all_eq_true]
              intro j hj
              by_cases hbd : Region.binds .any l[i].after[j] = true
              · have := hF.before i _ (List.getElem?_eq_getElem hil) _ (Array.getElem_mem hj) hbd
                rw [ihh _ this om]; simp
              · simp [hbd]
            rw [h0] at hr; simp at hr
      · obtain ⟨o, ho, hfi, hal⟩ := (Zbm (by simpa using hM.size)).1 hi
        have ho' : l[i]? = some o := by simpa using ho
        have hil : i < l.length := (List.getElem?_eq_some_iff.1 ho').1
        have him : i < m := by
          rcases Nat.lt_or_ge i m with h | h
          · exact h
          · exact absurd (fun j hj => Zff (fun i o j h1 h2 h3 => hM.cl i o h1 h2 j h3) 8 o j (fun k hk => Zam hk hal) ((hF.tail i o h ho').2 j hj)) hall
        have hsp : ∃ dst φ, sp[i]? = some (dst, φ) := by
          have : i < sp.length := by rw [hF.spl]; exact him
          exact ⟨_, _, List.getElem?_eq_getElem this⟩
        obtain ⟨dst, φ, hs⟩ := hsp
        have hdst := hF.dst i o dst φ ho' hs
        have hCi : (∀ j ∈ ds.getD i [], ∀ c ∈ con.getD j [], c = i ∨ (anc.getD c []).contains i = true) ∧ (big.getD i false = true → ∀ j, j < m → j ≠ i → (anc.getD j []).contains i = true ∨ st1.getD j false = true ∨ ∃ c ∈ con.getD j [], c = i ∨ (anc.getD i []).contains c = true) := by
          unfold conOk at hC
          rw [List.all_eq_true] at hC
          have h8 := hC i (by simpa using him)
          rw [Bool.and_eq_true] at h8
          refine ⟨fun j hj c hc => ?_, fun hb j hj hne => ?_⟩
          · have := (List.all_eq_true.1 ((List.all_eq_true.1 h8.1) j hj)) c hc
            rw [Bool.or_eq_true, beq_iff_eq] at this
            exact this
          · have h9 := h8.2
            rw [hb, Bool.not_true, Bool.false_or, List.all_eq_true] at h9
            have := h9 j (by simpa using hj)
            rw [Bool.or_eq_true, Bool.or_eq_true, Bool.or_eq_true, beq_iff_eq, List.any_eq_true] at this
            rcases this with ((this | this) | this) | ⟨c, hc, this⟩
            · exact absurd this hne
            · exact .inl this
            · exact .inr (.inl this)
            · rw [Bool.or_eq_true, beq_iff_eq] at this; exact .inr (.inr ⟨c, hc, this⟩)
        have hclean : ∀ i, i < m → cls.getD i false = true → ∀ b, b < m → big.getD b false = true → b = i ∨ (anc.getD b []).contains i = true := by
          intro i hi hc b hb1 hb2
          unfold Zjp at hcl
          rw [List.all_eq_true] at hcl
          have h1 := hcl i (by simpa using hi)
          rw [hc, Bool.not_true, Bool.false_or, List.all_eq_true] at h1
          have h2 := h1 b (by simpa using hb1)
          rw [hb2, Bool.not_true, Bool.false_or, Bool.or_eq_true, beq_iff_eq] at h2
          exact h2
        subst hdst
        have hsz : i < listed.size := by rw [hM.size]; exact hil
        have hFr0 : Fr n D (cond (es.getD i false) (ρe ++ ρ0) ρ0) a := by
          cases hes : es.getD i false
          · exact hM.fr
          ·
            refine ⟨hM.fr.defers, hM.fr.size, fun t v hl => ?_⟩
            have hap : ∀ (x y : Env), look (x ++ y) t = (look x t).or (look y t) := by
              intro x y
              induction x with
              | nil => simp [look]
              | cons p r ihx => obtain ⟨s, u⟩ := p; rw [List.cons_append, Zb1, Zb1, ihx]; split <;> simp
            rw [show cond true (ρe ++ ρ0) ρ0 = ρe ++ ρ0 from rfl, hap] at hl
            cases hle : look ρe t with
            | some u => rw [hle] at hl; simp at hl; subst hl; exact hE ⟨i, hes, hfi⟩ t u hle
            | none => rw [hle] at hl; simp at hl; exact hM.fr.slot t v hl
        obtain ⟨ρ', hFr, hOp⟩ := Zic hM (ds.getD i []) _ _ hFr0 (fun j hj => ⟨Zam (hF.deps i o him ho' j hj).2 hal, fun c hc => by
          have h7 := hCi.1 j hj c hc
          rcases h7 with h7 | h7
          · rw [h7]; exact hfi
          · by_cases hcl : listed.getD c false = true
            · have := hM.closed hA c i hcl h7; rw [hfi] at this; cases this
            · simpa using hcl⟩) (hobs.at_ hs ho' w (by
            unfold Ze4
            split
            · rename_i hci
              refine hM.cln fun b hb1 hb2 => ?_
              rcases hclean i him hci b hb1 hb2 with e | e
              · rw [e]; exact hfi
              · by_cases hbl : listed.getD b false = true
                · have := hM.closed hA b i hbl e; rw [hfi] at this; cases this
                · simpa using hbl
            · exact hM.wr))
        have hnew : ∀ (v : Value) (w' : World), φ v w' → Zcv R0 R1 big i w w' → MidD l con n D ρ0 w0 R R0 big sp m l.length (listed.setIfInBounds i true) (fun j => if j = i then v else vals j) (a.put o.dst v) w' := by
          intro v w' hv hR
          have hput : ∀ t, (∀ d, o.dst = some d → t ≠ d) → (a.put o.dst v).tmps[t]? = a.tmps[t]? := by
            intro t ht
            cases hd : o.dst with
            | none => rfl
            | some d => simp only [Act.put, Array.getElem?_setIfInBounds]; rw [if_neg (fun e => ht d hd e.symm)]
          have hputd : ∀ d, o.dst = some d → (a.put o.dst v).tmps[d]? = some v := by
            intro d hd
            have := (hF.ok i o d him ho' hd).1
            rw [hd]
            simp [Act.put, hM.fr.size, this]
          have hR' : R w w' := by unfold Zcv at hR; split at hR; exact hR1 _ _ hR; exact hR0 _ _ hR
          refine ⟨⟨?_, ?_, ?_⟩, hRt _ _ _ hM.wr hR', fun hnb => ?_, by simpa using hM.size, ?_, ?_, ?_⟩
          · rw [← hM.fr.defers]; cases o.dst <;> rfl
          · rw [← hM.fr.size]; cases o.dst <;> simp [Act.put]
          · intro t u hl
            rw [hput t (fun d hd e => (hF.ok i o d him ho' hd).2 (by rw [← e]; exact hkeys t u hl))]
            exact hM.fr.slot t u hl
          · have hbi : big.getD i false = false := by
              by_cases hb : big.getD i false = true
              · have := hnb i him hb; rw [Zar _ _ _ hsz, if_pos rfl] at this; cases this
              · simpa using hb
            refine hR0t _ _ _ (hM.cln fun b hb1 hb2 => ?_) (by unfold Zcv at hR; rw [if_neg (by rw [hbi]; simp)] at hR; exact hR)
            have := hnb b hb1 hb2
            rw [Zar _ _ _ hsz] at this
            by_cases e : i = b
            · rw [if_pos e] at this; cases this
            · rwa [if_neg e] at this
          · intro j hj
            rw [Zar _ _ _ hsz, if_neg om]; exact hM.tail j hj
          · intro j o' hj hlj k hk
            rw [Zar _ _ _ hsz]
            by_cases e2 : i = k
            · rw [if_pos e2]
            · rw [if_neg e2]
              rw [Zar _ _ _ hsz] at hlj
              by_cases e1 : i = j
              · subst e1
                rw [ho'] at hj; cases hj
                exact Zam hk hal
              · rw [if_neg e1] at hlj
                exact hM.cl j o' hj hlj k hk
          · intro j dst φ' hs' hl
            rw [Zar _ _ _ hsz] at hl
            by_cases e : j = i
            · subst e
              rw [hs] at hs'
              injection hs' with hs'
              injection hs' with e1 e2
              subst e1; subst e2
              rw [if_pos rfl]
              exact ⟨fun _ => hv, hputd⟩
            · rw [if_neg (fun e' => e e'.symm)] at hl
              rw [if_neg e]
              obtain ⟨g1, g2⟩ := hM.got j dst φ' hs' hl
              refine ⟨fun hcu => ?_, fun d hd => ?_⟩
              · have hcu' : ∀ c ∈ con.getD j [], listed.getD c false = false := fun c hc => by
                  have := hcu c hc
                  rw [Zar _ _ _ hsz] at this
                  by_cases e3 : i = c
                  · rw [if_pos e3] at this; cases this
                  · rwa [if_neg e3] at this
                have hs1 := hst.at_ hs'
                unfold Zcv at hR
                split at hR
                · rename_i hb
                  have hjm : j < m := by rw [← hF.spl]; exact (List.getElem?_eq_some_iff.1 hs').1
                  rcases hCi.2 hb j hjm e with h7 | h7 | ⟨c, hc, h7⟩
                  · exfalso; have := hM.closed hA j i hl h7; rw [hfi] at this; cases this
                  · exact hs1.2 h7 _ _ _ (g1 hcu') hR
                  · exfalso
                    rcases h7 with rfl | h7
                    · have := hcu c hc; rw [Zar _ _ _ hsz, if_pos rfl] at this; cases this
                    · have hci : listed.getD c false = false := hcu' c hc
                      have := hM.near hA ho' (fun j hj => Zam hj hal) h7
                      rw [hci] at this; cases this
                · exact hs1.1 _ _ _ (g1 hcu') hR
              have hj : j < m := by rw [← hF.spl]; exact (List.getElem?_eq_some_iff.1 hs').1
              have hjl : j < l.length := by have := hF.le; omega
              have hoj := List.getElem?_eq_getElem hjl
              have hdj := hF.dst j _ dst φ' hoj hs'
              rw [hput d (fun d' hd' e' => by subst e'; exact hF.apart j i _ o d hj him e hoj ho' (by rw [hdj, hd]) hd')]
              exact g2 d hd
        have hnewE : ∀ (v : Value), (∃ e, es.getD e false = true ∧ (listed.setIfInBounds i true).getD e false = false) → ∀ t u, look ρe t = some u → (a.put o.dst v).tmps[t]? = some u := by
          rintro v ⟨e, he, hle⟩ t u hl
          rw [Zar _ _ _ hsz] at hle
          by_cases hie : i = e
          · rw [if_pos hie] at hle; cases hle
          · rw [if_neg hie] at hle
            have h0 := hE ⟨e, he, hle⟩ t u hl
            cases hd : o.dst with
            | none => simpa [Act.put] using h0
            | some d =>
              simp only [Act.put, Array.getElem?_setIfInBounds]
              by_cases hdt : d = t
              · subst hdt
                have := Zam (Zgf.out hke him ho' hd (Zcp hl) (hem e he) he) hal
                rw [hle] at this; cases this
              · rw [if_neg hdt]; exact h0
        have hcnt' := Zgd listed i hsz hfi l.length hil
        unfold wpOp
        rw [ho]
        dsimp only
        have h1 := hOp a hFr
        split
        · rename_i hw
          rw [if_pos hw] at h1
          refine .inl (Oper.wp_mono ?_ (h1 Q))
          rintro a' w' ⟨v, rfl, hv, hR⟩
          exact ih _ _ _ _ (hnew v w' hv hR) (hnewE v) om
        · rename_i hw
          rw [if_neg hw] at h1
          exact ih _ _ _ _ (hnew undef w h1.1 h1.2) (hnewE undef) om
theorem w_drawDE {id : Nat} {w : World} {ρ : Env} (m : Nat) (R R0 R1 : World → World → Prop) (sp : Zcf) (ds anc con : List (List Nat)) (big st1 cls : List Bool) (ρ0 ρe : Env) (es : List Bool) (hsub : Sub ρ0 ρ) (hsube : Sub ρe ρ) (hke : Zgf l m (Ze0 ρe) es = true) (hem : Nat.ble es.length m = true) (hm : P.follows .mixedOrders = true)
    (hchk : Zjg l m n (Ze0 ρ0) (sp.map (·.1)) ds = true) (hA : Zhd l anc = true) (hC : conOk m ds anc con big st1 = true) (hR : ∀ a, R a a) (hRt : ∀ a b c, R a b → R b c → R a c) (hR0 : ∀ a b, R0 a b → R a b) (hR1 : ∀ a b, R1 a b → R a b) (hst : Zhj R0 R1 sp st1) (hR00 : ∀ a, R0 a a) (hR0t : ∀ a b c, R0 a b → R0 b c → R0 a c) (hcl : Zjp m anc big cls = true)
    (h : ∀ w0, w.grownBy w0 none → w0.heap.size = w.heap.size → Zf0 P l.toArray n D ρ0 ρe w0 R R0 R1 sp l ds big cls es sp ∧ (∀ w', R w0 w' → AllV2 (finS sp con) ρ0 w' (fun ρ => Reg P l.toArray Q (l.drop m) n D ρ w'))) :
    W P (.region id l.toArray true) Q n D ρ w := by
  intro a ha
  have hF := Zie hchk
  obtain ⟨h1, h2⟩ := h w.drew (Zef w) rfl
  refine wp_region_any hm ?_
  have hno : ∀ i, (Array.replicate l.length false).getD i false = false := fun i => by
    simp [Array.getD_eq_getD_getElem?, Array.getElem?_replicate]; split <;> rfl
  have hM : MidD l con n D ρ0 w.drew R R0 big sp m l.length (Array.replicate l.length false) (fun _ => undef) a w.drew :=
    { fr := ha.sub hsub, wr := hR _, cln := fun _ => hR00 _, size := by simp, tail := fun i _ => hno i,
      cl := fun i o _ hl j _ => (by rw [hno] at hl; cases hl),
      got := fun i dst φ hs hl => (by rw [hno] at hl; cases hl) }
  have := mid_anyDE hA hC hR0 hR1 hF (fun t v hl => Zcp hl) hRt hst hR00 hR0t hcl hke (fun j hj => by have := Nat.le_of_ble_eq_true hem; rcases Nat.lt_or_ge j es.length with h | h; omega; simp [List.getD_eq_getElem?_getD, h] at hj) h1 h2 l.length (Array.replicate l.length false) (fun _ => undef) a w.drew hM (fun _ t v hl => ha.slot t v (hsube.look hl)) (by
      have : ∀ k L, cnt k L ≤ k := by
        intro k L; induction k with
        | zero => exact Nat.le_refl _
        | succ k ih => unfold cnt; split <;> omega
      exact this _ _)
  simpa using this
end
end Go.Gw
namespace Go.Gw
open Go.RowKit
theorem two_frm {n : Nat} {a0 w w' : World} {v v' : Value} (h : Below n a0 w) (h' : Below n a0 w') (hF : Frm (fun _ => False) w v w' v') : Two (fun i => v.ownBlock = some i) w w' :=
  ⟨h'.os.trans h.os.symm, h'.tape.trans h.tape.symm, h'.output.trans h.output.symm, hF.1, fun i hi hn => (hF.2 i hi id hn).1⟩
theorem own_row {v v' : Value} {a b : Nat} (hr : v'.ownBlock = v.ownBlock ∨ ∃ q, v'.ownBlock = some q ∧ b ≤ q) (h : a ≤ b) : v'.ownBlock = v.ownBlock ∨ ∃ q, v'.ownBlock = some q ∧ a ≤ q := hr.imp id fun ⟨q, e, h1⟩ => ⟨q, e, Nat.le_trans h h1⟩
theorem own_one {v v' : Value} {n : Nat} (h : v'.ownBlock = v.ownBlock ∨ v'.ownBlock = some n) : v'.ownBlock = v.ownBlock ∨ ∃ q, v'.ownBlock = some q ∧ n ≤ q := h.imp id fun e => ⟨n, e, Nat.le_refl _⟩
theorem own_rowt {u v v' : Value} {a b : Nat} (h0 : v.ownBlock = u.ownBlock ∨ ∃ q, v.ownBlock = some q ∧ a ≤ q) (hr : v'.ownBlock = v.ownBlock ∨ ∃ q, v'.ownBlock = some q ∧ b ≤ q) (h : a ≤ b) : v'.ownBlock = u.ownBlock ∨ ∃ q, v'.ownBlock = some q ∧ a ≤ q := by
  rcases hr with e | ⟨q, e, h1⟩
  · rw [e]; exact h0
  · exact .inr ⟨q, e, Nat.le_trans h h1⟩
end Go.Gw
namespace Go.Proofs.Ytfljelnfjbbknaa.Lm
open Go.RowKit Go.Gw
set_option maxHeartbeats 4000000 in
theorem put_any {a0 : World} {n0 : Nat} (hn0 : n0 ≤ a0.heap.size) {s : Int} (hs : 0 ≤ s ∧ s ≤ 255) :
  ∀ (f : Nat) {w : World} {vo px py : Value} {o : List Nd} {n lv x y : Int}, lv = f → 1 ≤ f ∧ f ≤ 1329 → Zaf o = true → NumIn o n lv → o.length + f ≤ 1000000 → (0 ≤ x ∧ x < 2 * hf lv) → (0 ≤ y ∧ y < 2 * hf lv) → Below a0.heap.size a0 w → Gw.Own Kd.node 101 a0.heap.size w (fun _ => False) vo o →
  Sl Kd.u32 w (G 83 n0 w) px (ml x) → Sl Kd.u32 w (G 83 n0 w) py (ml y) →
  Calls Try.prog 64 [vo, .int .i64 lv, .int .i64 n, .agg [.bool (decide (x < 0)), px].toArray, .agg [.bool (decide (y < 0)), py].toArray, .int .u8 s].toArray w (Ret fun r w' => ∃ vo', r = .tuple #[vo', .int .i64 (Zbk f o n x y s).2] ∧ Below a0.heap.size a0 w' ∧ Gw.Own Kd.node 101 a0.heap.size w' (fun _ => False) vo' (Zbk f o n x y s).1 ∧
   (vo'.ownBlock = vo.ownBlock ∨ ∃ q, vo'.ownBlock = some q ∧ w.heap.size ≤ q) ∧ Two (fun i => vo.ownBlock = some i) w w') := by
 intro f
 induction f with
 | zero =>
  intro w vo px py o n lv x y hlv0 hf9 ho hni hon hx hy hb0 hE hx0 hy0
  omega
 | succ f ih =>
  intro w vo px py o n lv x y hlv0 hf9 ho hni hon hx hy hb0 hE hx0 hy0
  have hz0 := hb0.size
  have hF0 := Frm.refl (fun _ => False) w vo
  have hsz := hb0.size
  have hlv2 : lv = (f : Int) + 1 := by omega
  have hlv : 1 ≤ lv ∧ lv ≤ 1329 := by omega
  have hnr := hni.1
  refine enter Try.func64 rfl rfl (Zh (Zb (st (Zbs rfl ?_))))
  intro g1 w1 hg1 hB1 k1 hs1
  change Blk w1 g1 31 [.bool (decide (x < 0)), px].toArray at hB1
  have hb1 := Zf hb0 k1
  have hF1 := hF0.none k1
  have hO1 := hE.g0 k1
  refine st (Zbs rfl ?_)
  intro g2 w2 hg2 hB2 k2 hs2
  change Blk w2 g2 31 [.bool (decide (y < 0)), py].toArray at hB2
  have hb2 := Zf hb1 k2
  have hF2 := hF1.none k2
  have hO2 := hO1.g0 k2
  refine st (Ze rfl (st (Ze rfl (Zg (Zd (Zh (Zb (st (Zc rfl ?_)))))))))
  refine st (Zbe (ps := [(0, .tmp 18)]) (ccs := [#[.int .i64 lv]]) (cells := [.int .i64 lv, .int .i64 0, .int .i64 0, .int .i64 0, .int .i64 0]) rfl rfl kr ?_)
  have hlt_1 := ((hB1.g0 k2)).lt
  have hlt_2 := (hB2).lt
  refine st (Zan Zcw ?_)
  intro g3 w3 hg3 hB3 k3 hs3
  have hz1 := hb2.size
  have hn1 := Zdj hO2 hg3
  have hb3 := Zf hb2 k3
  have hF3 := hF2.none k3
  have hO3 := hO2.g0 k3
  refine st0 (Zv Za1 rfl rfl hB3 rfl rfl rfl ?_)
  intro w4 hB4 k4 hs4
  have hb4 := belowa hb3 k4
  have hF4 := hF3.put k4 (by first | exact .inr om | exact .inl (by assumption) | exact .inl (.inl rfl) | exact .inl (.inr rfl) | exact .inl (.inr (.inl rfl)) | exact .inl (.inr (.inr rfl)))
  have hO4 := Own.keptN Zy hO3 k4 hn1
  refine Zg (Zd ?_)
  refine w_cut (α := Unit) (fun (_ : Unit) => [(0, vo), (1, .int .i64 lv), (5, .int .u8 s), (9, (pp g1)), (10, (pp g2)), (12, .slice none 0 0), (13, .int .i64 0), (14, (pp g3))]) (fun (_ : Unit) W => Below a0.heap.size a0 W ∧ (Gw.Own Kd.node 101 a0.heap.size W (fun _ => False) vo o) ∧ (vo.ownBlock ≠ some g3) ∧ (Frm (fun _ => False) w vo W vo) ∧ (Blk W g1 31 [.bool (decide (x < 0)), px].toArray) ∧ (Blk W g2 31 [.bool (decide (y < 0)), py].toArray) ∧ (Blk W g3 101 [.int .i64 ((Zl o n lv).lv), .int .i64 ((Zl o n lv).k0), .int .i64 ((Zl o n lv).k1), .int .i64 ((Zl o n lv).k2), .int .i64 ((Zl o n lv).k3)].toArray) ∧ (Sl Kd.u32 W (G 83 n0 W) px (ml x)) ∧ (Sl Kd.u32 W (G 83 n0 W) py (ml y))) ?_ ?_
  ·refine Zh (Zb (st (Zc rfl (st (Zch rfl rfl (Zg (Zd ?_)))))))
   refine Zw rfl (fun h1 => ?_) (fun h1 => ?_)
   rotate_left
   ·refine Zo ?_
    exact Ze2 () ⟨hb4, hO4, hn1, hF4, (((hB1.g0 k2).g0 k3).gne k4 om), ((hB2.g0 k3).gne k4 om), (by rw [show (Zl o n lv) = _ from if_neg h1]; exact hB4), ((((hx0.gg0 k1).gg0 k2).gg0 k3).ggB k4 hB3 dc om), ((((hy0.gg0 k1).gg0 k2).gg0 k3).ggB k4 hB3 dc om)⟩ sb
   refine Zb (st (Zc rfl (st (Zc rfl (st (Za7 rfl rfl om (st (Zat Zaw rfl rfl hO4.sl om om ?_))))))))
   rintro b1 o1 _ ⟨rfl, _⟩ hc1 hF5 hlt1
   refine st (Zp Za1 rfl hc1 rfl (st0 (Zv Za1 rfl rfl hB4 rfl rfl rfl ?_)))
   intro w5 hB5 k5 hs5
   have hb5 := belowa hb4 k5
   have hF6 := hF4.put k5 (by first | exact .inr om | exact .inl (by assumption) | exact .inl (.inl rfl) | exact .inl (.inr rfl) | exact .inl (.inr (.inl rfl)) | exact .inl (.inr (.inr rfl)))
   have hO5 := Own.keptN Zy hO4 k5 hn1
   refine Zg ?_
   exact Ze2 () ⟨hb5, hO5, hn1, hF6, ((((hB1.g0 k2).g0 k3).gne k4 om).gne k5 om), (((hB2.g0 k3).gne k4 om).gne k5 om), (by rw [show (Zl o n lv) = _ from if_pos h1]; exact hB5), (((((hx0.gg0 k1).gg0 k2).gg0 k3).ggB k4 hB3 dc om).ggB k5 hB4 dc om), (((((hy0.gg0 k1).gg0 k2).gg0 k3).ggB k4 hB3 dc om).ggB k5 hB4 dc om)⟩ sb
  rintro _ w6 ⟨hb6, hOh, hn7, hFh, hbh0, hbh1, hbh2, hsh0_1, hsh1_1⟩
  have hz2 := hb6.size
  have hbh0l := hbh0.lt
  have hbh1l := hbh1.lt
  have hbh2l := hbh2.lt
  refine Zh (Zb (st (Zc rfl (st (Zp Zx rfl hbh0.range rfl (st (Zp Zx rfl hbh1.range rfl (st (Zq fn66 rfl (Zkx (x := x) (y := y) (n0 := n0) (Zu hn0 hb6) hsh0_1 hsh1_1 (Bd.le (bd_rng hx hlv.2) (show 43 ≤ 50 by decide)) (Bd.le (bd_rng hy hlv.2) (show 43 ≤ 50 by decide)) om) ?_)))))))))
  rintro _ w7 ⟨hq1, v1, v2, rfl, hS1, hS2⟩
  have k6 := Zi hq1 none
  have hz3 := hq1.size
  have hb7 := Zf hb6 k6
  have hz4 := hb7.size
  have hF7 := hFh.none k6
  have hO6 := hOh.g0 k6
  have hkq1 := Zey lv x y
  refine st (Zc rfl (st (Zad rfl rfl (st (Zad rfl rfl (st (Zad rfl rfl ?_)))))))
  have hlt_3 := ((hbh0.g0 k6)).lt
  have hlt_4 := ((hbh1.g0 k6)).lt
  have hlt_5 := ((hbh2.g0 k6)).lt
  refine st (Zan Zb3 ?_)
  intro g4 w8 hg4 hB6 k7 hs6
  have hz5 := hb7.size
  have hb8 := Zf hb7 k7
  have hF8 := hF7.none k7
  have hO7 := hO6.g0 k7
  have hlt_6 := (((hbh0.g0 k6).g0 k7)).lt
  have hlt_7 := (((hbh1.g0 k6).g0 k7)).lt
  have hlt_8 := (((hbh2.g0 k6).g0 k7)).lt
  have hlt_9 := (hB6).lt
  refine st (Zan Zb3 ?_)
  intro g5 w9 hg5 hB7 k8 hs7
  have hz6 := hb8.size
  have hb9 := Zf hb8 k8
  have hF9 := hF8.none k8
  have hO8 := hO7.g0 k8
  refine st (Ze rfl (st0 (Zv Zx rfl rfl (hB6.g0 k8) (by simp only [List.all_cons, List.all_nil, hS1.one, Bool.and_true, Bool.and_self] <;> rfl) rfl rfl ?_)))
  intro w10 hB8 k9 hs8
  have hb10 := belowa hb9 k9
  have hF10 := hF9.put k9 (by first | exact .inr om | exact .inl (by assumption) | exact .inl (.inl rfl) | exact .inl (.inr rfl) | exact .inl (.inr (.inl rfl)) | exact .inl (.inr (.inr rfl)))
  have hO9 := Own.keptF Zy hO8 k9 (hO8.ne_blk (hB6.g0 k8) dc)
  refine st0 (Zv Zx rfl rfl (hB7.gne k9 om) (by simp only [List.all_cons, List.all_nil, hS2.one, Bool.and_true, Bool.and_self] <;> rfl) rfl rfl ?_)
  intro w11 hB9 k10 hs9
  have hb11 := belowa hb10 k10
  have hF11 := hF10.put k10 (by first | exact .inr om | exact .inl (by assumption) | exact .inl (.inl rfl) | exact .inl (.inr rfl) | exact .inl (.inr (.inl rfl)) | exact .inl (.inr (.inr rfl)))
  have hO10 := Own.keptF Zy hO9 k10 (hO9.ne_blk (hB7.gne k9 om) dc)
  refine Zg (Zd (Zh (Zh (Zb (st (Zc rfl (st (Zbu rfl rfl ?_))))))))
  refine Zg (Zd ?_)
  refine Zw rfl (fun h2 => ?_) (fun h2 => ?_)
  ·have hlv1 := h2
   refine Zb (st (Zc rfl (st (Zc rfl (st (Zgt Zgs Zh5 rfl om (st (Zn Zav rfl (st (Zbi Zb9 rfl rfl om om (st0 (Zda Za9 rfl rfl (((((hbh2.g0 k6).g0 k7).g0 k8).gne k9 om).gne k10 om) om om ?_))))))))))))
   intro w12 hB10 k11 hs10
   have hb12 := belowa hb11 k11
   have hF12 := hF11.put k11 (by first | exact .inr om | exact .inl (by assumption) | exact .inl (.inl rfl) | exact .inl (.inr rfl) | exact .inl (.inr (.inl rfl)) | exact .inl (.inr (.inr rfl)))
   have hO11 := Own.keptN Zy hO10 k11 hn7
   refine Zg (Zd (Zh (Zb (st (Zc rfl (st (Zp Za1 rfl hB10.range rfl ?_)))))))
   refine st (Zau (ps := [(0, .tmp 60)]) (ccs := [#[.int .i64 ((Zl o n lv).lv), .int .i64 (if (kq lv x y) = 0 then s else (Zl o n lv).k0), .int .i64 (if (kq lv x y) = 1 then s else (Zl o n lv).k1), .int .i64 (if (kq lv x y) = 2 then s else (Zl o n lv).k2), .int .i64 (if (kq lv x y) = 3 then s else (Zl o n lv).k3)]]) (e := 101) (cells := [.int .i64 ((Zl o n lv).lv), .int .i64 (if (kq lv x y) = 0 then s else (Zl o n lv).k0), .int .i64 (if (kq lv x y) = 1 then s else (Zl o n lv).k1), .int .i64 (if (kq lv x y) = 2 then s else (Zl o n lv).k2), .int .i64 (if (kq lv x y) = 3 then s else (Zl o n lv).k3)]) rfl rfl kr dc Zgw ?_)
   intro g6 w13 hg6 hB11 k12 hs11
   have hb13 := Zf hb12 k12
   have hz7 := hb13.size
   have hF13 := hF12.none k12
   have hO12 := hO11.g0 k12
   have hS3 := Zbl (F := fun _ => False) ([⟨(Zl o n lv).lv, (if (kq lv x y) = 0 then s else (Zl o n lv).k0), (if (kq lv x y) = 1 then s else (Zl o n lv).k1), (if (kq lv x y) = 2 then s else (Zl o n lv).k2), (if (kq lv x y) = 3 then s else (Zl o n lv).k3)⟩] : List Nd) hB11 (fun h => h) rfl (by first | decide | simp)
   refine st (Za4 (K := Kd.node) Zaw rfl rfl hO12 (Zbl (F := Out (fun _ => False) vo) ([⟨(Zl o n lv).lv, (if (kq lv x y) = 0 then s else (Zl o n lv).k0), (if (kq lv x y) = 1 then s else (Zl o n lv).k1), (if (kq lv x y) = 2 then s else (Zl o n lv).k2), (if (kq lv x y) = 3 then s else (Zl o n lv).k3)⟩] : List Nd) hB11 (fun h => h.elim id (fun h => by have h9 := (hO11.lt _ h).2; omega)) rfl (by first | decide | simp)) Zb6 (by simp; omega) (by simp; omega) (by first | exact Nat.le_refl _ | omega | (have h0_ := k6.size; have h1_ := k7.size; have h2_ := k8.size; have h3_ := k9.size; have h4_ := k10.size; have h5_ := k11.size; have h6_ := k12.size; omega)) (fun _ h => h.elim) ?_)
   intro v3 w14 hO13 k13 hr2
   have hn2 := Zdk hn7 hr2 (by have := (hB10.g0 k12).lt; omega)
   have hb14 := hb13.grown k13 hb13.size (fun k_ hk_ => by have h9_ := (hO12.lt k_ hk_).1; omega)
   have hz8 := hb14.size
   have hF14 := hF13.row k13 hr2
   refine st (Ze rfl (Zg (Zd (Zh (Zb (st (Zc rfl (st (Zc rfl ?_)))))))))
   refine st (Zaq Zaw rfl hO13.sl (st (Ze rfl (st (Ze rfl (Zg (Zd (Zdl rfl rfl rfl ?_))))))))
   have hf0 : f = 0 := by omega
   subst hf0
   have e_ : Zbk (0 + 1) o n x y s = (o ++ [(Zl o n lv).setK (kq lv x y) s], (o.length : Int) + 1) := by rw [hlv1]; exact Zk3
   rw [e_]
   refine ⟨_, rfl, v3, by simp, hb14, ?_, ?_, two_frm hb0 hb14 hF14⟩
   ·exact hO13
   ·exact own_row (own_one hr2) om
  have hlv1 := h2
  refine w_drawDE 17 (Two (fun i => vo.ownBlock = some i)) GN (Two (fun i => vo.ownBlock = some i)) [xi 43 <| .int .i64 (kq lv x y), xi 44 <| vo, xi 45 <| .int .i64 lv, xi 46 <| .int .i64 (lv - 1), xi 47 <| .int .i64 (kq lv x y), xi 48 <| .pointer (some ⟨g3, 0 + 1, none⟩), xi 49 <| .pointer (some ⟨g3, 0 + 1 + ((kq lv x y)).toNat * 1, none⟩), xi 50 <| .int .i64 (Zae ((Zl o n lv).k0) ((Zl o n lv).k1) ((Zl o n lv).k2) ((Zl o n lv).k3) (kq lv x y)), xi 51 <| .agg [.bool (decide ((Zao lv x) < 0)), v1].toArray, xi 52 <| .agg [.bool (decide ((Zao lv y) < 0)), v2].toArray, xi 53 <| .int .u8 s, (some 54, fun v W => ∃ u, v = .tuple #[u, .int .i64 (Zbk f o (Zae ((Zl o n lv).k0) ((Zl o n lv).k1) ((Zl o n lv).k2) ((Zl o n lv).k3) (kq lv x y)) (Zao lv x) (Zao lv y) s).2] ∧ Gw.Own Kd.node 101 a0.heap.size W (fun _ => False) u (Zbk f o (Zae ((Zl o n lv).k0) ((Zl o n lv).k1) ((Zl o n lv).k2) ((Zl o n lv).k3) (kq lv x y)) (Zao lv x) (Zao lv y) s).1 ∧ (u.ownBlock = vo.ownBlock ∨ ∃ q, u.ownBlock = some q ∧ w11.heap.size ≤ q)), (some 42, fun v W => ∃ u, v = .tuple #[u, .int .i64 (Zbk f o (Zae ((Zl o n lv).k0) ((Zl o n lv).k1) ((Zl o n lv).k2) ((Zl o n lv).k3) (kq lv x y)) (Zao lv x) (Zao lv y) s).2] ∧ Gw.Own Kd.node 101 a0.heap.size W (fun _ => False) u (Zbk f o (Zae ((Zl o n lv).k0) ((Zl o n lv).k1) ((Zl o n lv).k2) ((Zl o n lv).k3) (kq lv x y)) (Zao lv x) (Zao lv y) s).1 ∧ (u.ownBlock = vo.ownBlock ∨ ∃ q, u.ownBlock = some q ∧ w11.heap.size ≤ q)), (some 55, fun v W => Gw.Own Kd.node 101 a0.heap.size W (fun _ => False) v (Zbk f o (Zae ((Zl o n lv).k0) ((Zl o n lv).k1) ((Zl o n lv).k2) ((Zl o n lv).k3) (kq lv x y)) (Zao lv x) (Zao lv y) s).1 ∧ (v.ownBlock = vo.ownBlock ∨ ∃ q, v.ownBlock = some q ∧ w11.heap.size ≤ q)), xi 56 <| .int .i64 (Zbk f o (Zae ((Zl o n lv).k0) ((Zl o n lv).k1) ((Zl o n lv).k2) ((Zl o n lv).k3) (kq lv x y)) (Zao lv x) (Zao lv y) s).2, (some 0, fun v W => Gw.Own Kd.node 101 a0.heap.size W (fun _ => False) v (Zbk f o (Zae ((Zl o n lv).k0) ((Zl o n lv).k1) ((Zl o n lv).k2) ((Zl o n lv).k3) (kq lv x y)) (Zao lv x) (Zao lv y) s).1 ∧ (v.ownBlock = vo.ownBlock ∨ ∃ q, v.ownBlock = some q ∧ w11.heap.size ≤ q)), xi 57 <| .pointer (some ⟨g3, 0 + 1, none⟩)] [[], [], [], [2], [], [], [4, 5], [6], [], [], [], [1, 3, 7, 8, 9, 10], [11], [12], [12], [13], []] [[], [], [], [2], [], [], [4, 5], [4, 5, 6], [], [], [], [1, 2, 3, 4, 5, 6, 7, 8, 9, 10], [1, 2, 3, 4, 5, 6, 7, 8, 9, 10, 11], [1, 2, 3, 4, 5, 6, 7, 8, 9, 10, 11, 12], [1, 2, 3, 4, 5, 6, 7, 8, 9, 10, 11, 12], [1, 2, 3, 4, 5, 6, 7, 8, 9, 10, 11, 12, 13], []] [[], [], [], [], [], [], [], [], [], [], [], [], [], [], [], [], []] [false, false, false, false, false, false, false, false, false, false, false, true, false, false, false, false, false] [true, true, true, true, true, true, true, true, true, true, true, false, false, false, true, false, true] [false, true, true, true, true, true, true, true, true, true, true, true, false, false, false, false, false] [(1, .int .i64 lv), (5, .int .u8 s), (12, .slice none 0 0), (13, .int .i64 0), (14, (pp g3)), (15, .int .i64 (kq lv x y)), (16, (pp g4)), (17, (pp g5))] [(0, vo)] [false, true, false, false, false, false, false, false, false, false, false, false, false, false, false, false, false] sb sb kr kr kr kr kr rfl (Two.refl _) (fun _ _ _ h k => h.trans k) (fun _ _ h => Two.none h) (fun _ _ h => h) ⟨kv, kv, kv, kv, kv, kv, kv, kv, kv, kv, kv, kv, kv, kv, kv, kv, kv, kv, kv, kv, kv, kv, fun _ _ _ h k => by obtain ⟨u, e, h, hr⟩ := h; exact ⟨u, e, h.g0 k, hr⟩, fun _ _ _ h k => by obtain ⟨u, e, h, hr⟩ := h; exact ⟨u, e, h.g0 k, hr⟩, fun _ _ _ h k => ⟨h.1.g0 k, h.2⟩, kv, kv, fun _ _ _ h k => ⟨h.1.g0 k, h.2⟩, kv, kv, trivial⟩ Za gnt rfl ?_
  intro w15 k14 hs12
  have hb15 := Zf hb11 k14
  have hF15 := hF11.none k14
  have hO14 := hO10.g0 k14
  refine ⟨⟨?_, ?_, ?_, ?_, ?_, ?_, ?_, ?_, ?_, ?_, ?_, ?_, ?_, ?_, ?_, ?_, ?_, trivial⟩, ?_⟩
  ·intro w8z_ kb_
   exact op1 (Zc rfl ⟨rfl, Za _⟩)
  ·intro w16 k15
   have hb16 := Zf hb15 k15
   have hz9 := hb16.size
   refine op1 (Zc rfl ?_)
   exact ⟨rfl, Za _⟩
  ·intro w17 k16
   have hb17 := Zf hb15 k16
   have hz10 := hb17.size
   refine op1 (Zc rfl ?_)
   exact ⟨rfl, Za _⟩
  ·intro w18 k17
   have hb18 := Zf hb15 k17
   have hz11 := hb18.size
   rintro _ rfl
   refine op1 (Za7 rfl rfl om ?_)
   exact ⟨rfl, Za _⟩
  ·intro w19 k18
   have hb19 := Zf hb15 k18
   have hz12 := hb19.size
   refine op1 (Zc rfl ?_)
   exact ⟨rfl, Za _⟩
  ·intro w20 k19
   have hb20 := Zf hb15 k19
   have hz13 := hb20.size
   refine op1 (Zn Zav rfl ?_)
   exact ⟨rfl, Za _⟩
  ·intro w21 k20
   have hb21 := Zf hb15 k20
   have hz14 := hb21.size
   rintro _ rfl _ rfl
   refine op1 (Zbi Zb9 rfl rfl om om ?_)
   exact ⟨rfl, Za _⟩
  ·intro w22 k21
   have hb22 := Zf hb15 k21
   have hz15 := hb22.size
   rintro _ rfl
   refine op1 (Zc3 Za9 rfl (((((((hbh2.g0 k6).g0 k7).g0 k8).gne k9 om).gne k10 om).g0 k14).g0 k21).range (j := 1) rfl rfl om om ?_)
   exact ⟨rfl, Za _⟩
  ·intro w23 k22
   have hb23 := Zf hb15 k22
   have hz16 := hb23.size
   refine op1 (Zp Zx rfl (((hB8.gne k10 om).g0 k14).g0 k22).range rfl ?_)
   exact ⟨rfl, Za _⟩
  ·intro w24 k23
   have hb24 := Zf hb15 k23
   have hz17 := hb24.size
   refine op1 (Zp Zx rfl ((hB9.g0 k14).g0 k23).range rfl ?_)
   exact ⟨rfl, Za _⟩
  ·intro w25 k24
   have hb25 := Zf hb15 k24
   have hz18 := hb25.size
   refine op1 (Zc rfl ?_)
   exact ⟨rfl, Za _⟩
  ·intro w26 k25
   have hb26 := Zf hb15 k25
   have hz19 := hb26.size
   have hO25 := hO14.g0 k25
   intro v_ hv_; subst v_
   rintro _ rfl _ rfl _ rfl _ rfl _ rfl
   refine op1 (Zq fn64 rfl (ih (lv := (lv - 1)) (n := (Zae ((Zl o n lv).k0) ((Zl o n lv).k1) ((Zl o n lv).k2) ((Zl o n lv).k3) (kq lv x y))) (x := (Zao lv x)) (y := (Zao lv y)) om om ho (Zks ho hni hlv1 (Zey _ _ _).1 (Zey _ _ _).2) om (Zh1 om hx) (Zh1 om hy) hb26 hO25 ((((((hS1.gg0 k7).gg0 k8).ggB k9 (hB6.g0 k8) dc om).ggB k10 (hB7.gne k9 om) dc om).gg0 k14).gg0 k25) ((((((hS2.gg0 k7).gg0 k8).ggB k9 (hB6.g0 k8) dc om).ggB k10 (hB7.gne k9 om) dc om).gg0 k14).gg0 k25)) ?_)
   rintro _ w27 ⟨vo1, rfl, hb27, hO26, hr3, hT1⟩
   have hz_ := k25.size
   exact ⟨⟨vo1, rfl, hO26, own_row hr3 om⟩, hT1⟩
  ·intro w8z_ kb_
   rintro _ ⟨u_, rfl, hu_⟩
   exact op1 (Zc rfl ⟨⟨u_, rfl, hu_⟩, Za _⟩)
  ·intro w8z_ kb_
   rintro _ ⟨u_, rfl, hu_⟩
   exact op1 (Zad rfl rfl ⟨hu_, Za _⟩)
  ·intro w8z_ kb_
   rintro _ ⟨u_, rfl, hu_⟩
   exact op1 (Zad rfl rfl ⟨rfl, Za _⟩)
  ·intro w8z_ kb_
   intro u_ hu_
   exact op1 (Ze rfl ⟨hu_, Za _⟩)
  ·intro w8z_ kb_
   exact op1 (Zn Zav rfl ⟨rfl, Za _⟩)
  intro w28 k26
  intro v_ hv_; subst v_
  intro v_ hv_; subst v_
  intro v_ hv_; subst v_
  intro v_ hv_; subst v_
  intro v_ hv_; subst v_
  intro v_ hv_; subst v_
  intro v_ hv_; subst v_
  intro v_ hv_; subst v_
  intro v_ hv_; subst v_
  intro v_ hv_; subst v_
  intro v_ hv_; subst v_
  rintro _ ⟨_, rfl, _⟩ _ ⟨_, rfl, _⟩ _ _ _ rfl vo2 ⟨hO27, hr4⟩
  intro v_ hv_; subst v_
  have hr_ : vo2.ownBlock = vo.ownBlock ∨ ∃ q, vo2.ownBlock = some q ∧ w15.heap.size ≤ q := by rw [hs12]; exact hr4
  have hb28 := k26.below hb15 hb15.size (fun i hi h_ => by have := (hO14.lt i h_).1; omega)
  have hB12 := ((((((hbh2.g0 k6).g0 k7).g0 k8).gne k9 om).gne k10 om).g0 k14).two k26 hn7
  have hF27 := hF15.two k26 (fun i h_ => .inr h_) hr_
  have hn3 := Ziz hn7 hr_ (by have := (((((((hbh2.g0 k6).g0 k7).g0 k8).gne k9 om).gne k10 om).g0 k14)).lt; omega)
  have hz20 := hb28.size
  have hz21 := hF27.1
  have hpn_ := Zjr f o (Zae ((Zl o n lv).k0) ((Zl o n lv).k1) ((Zl o n lv).k2) ((Zl o n lv).k3) (kq lv x y)) (Zao lv x) (Zao lv y) s
  refine st (Zbi Zb9 rfl rfl om om (st0 (Zda Za9 rfl rfl hB12 om om ?_)))
  intro w29 hB13 k27 hs13
  have hb29 := belowa hb28 k27
  have hF28 := hF27.put k27 (by first | exact .inr om | exact .inl (by assumption) | exact .inl (.inl rfl) | exact .inl (.inr rfl) | exact .inl (.inr (.inl rfl)) | exact .inl (.inr (.inr rfl)))
  have hO28 := Own.keptN Zy hO27 k27 hn3
  refine Zg (Zd (Zh (Zb (st (Zc rfl (st (Zp Za1 rfl hB13.range rfl ?_)))))))
  refine st (Zau (ps := [(0, .tmp 60)]) (ccs := [#[.int .i64 ((Zl o n lv).lv), .int .i64 (if (kq lv x y) = 0 then (Zbk f o (Zae ((Zl o n lv).k0) ((Zl o n lv).k1) ((Zl o n lv).k2) ((Zl o n lv).k3) (kq lv x y)) (Zao lv x) (Zao lv y) s).2 else (Zl o n lv).k0), .int .i64 (if (kq lv x y) = 1 then (Zbk f o (Zae ((Zl o n lv).k0) ((Zl o n lv).k1) ((Zl o n lv).k2) ((Zl o n lv).k3) (kq lv x y)) (Zao lv x) (Zao lv y) s).2 else (Zl o n lv).k1), .int .i64 (if (kq lv x y) = 2 then (Zbk f o (Zae ((Zl o n lv).k0) ((Zl o n lv).k1) ((Zl o n lv).k2) ((Zl o n lv).k3) (kq lv x y)) (Zao lv x) (Zao lv y) s).2 else (Zl o n lv).k2), .int .i64 (if (kq lv x y) = 3 then (Zbk f o (Zae ((Zl o n lv).k0) ((Zl o n lv).k1) ((Zl o n lv).k2) ((Zl o n lv).k3) (kq lv x y)) (Zao lv x) (Zao lv y) s).2 else (Zl o n lv).k3)]]) (e := 101) (cells := [.int .i64 ((Zl o n lv).lv), .int .i64 (if (kq lv x y) = 0 then (Zbk f o (Zae ((Zl o n lv).k0) ((Zl o n lv).k1) ((Zl o n lv).k2) ((Zl o n lv).k3) (kq lv x y)) (Zao lv x) (Zao lv y) s).2 else (Zl o n lv).k0), .int .i64 (if (kq lv x y) = 1 then (Zbk f o (Zae ((Zl o n lv).k0) ((Zl o n lv).k1) ((Zl o n lv).k2) ((Zl o n lv).k3) (kq lv x y)) (Zao lv x) (Zao lv y) s).2 else (Zl o n lv).k1), .int .i64 (if (kq lv x y) = 2 then (Zbk f o (Zae ((Zl o n lv).k0) ((Zl o n lv).k1) ((Zl o n lv).k2) ((Zl o n lv).k3) (kq lv x y)) (Zao lv x) (Zao lv y) s).2 else (Zl o n lv).k2), .int .i64 (if (kq lv x y) = 3 then (Zbk f o (Zae ((Zl o n lv).k0) ((Zl o n lv).k1) ((Zl o n lv).k2) ((Zl o n lv).k3) (kq lv x y)) (Zao lv x) (Zao lv y) s).2 else (Zl o n lv).k3)]) rfl rfl kr dc Zgw ?_)
  intro g7 w30 hg7 hB14 k28 hs14
  have hb30 := Zf hb29 k28
  have hz22 := hb30.size
  have hF29 := hF28.none k28
  have hO29 := hO28.g0 k28
  have hS4 := Zbl (F := fun _ => False) ([⟨(Zl o n lv).lv, (if (kq lv x y) = 0 then (Zbk f o (Zae ((Zl o n lv).k0) ((Zl o n lv).k1) ((Zl o n lv).k2) ((Zl o n lv).k3) (kq lv x y)) (Zao lv x) (Zao lv y) s).2 else (Zl o n lv).k0), (if (kq lv x y) = 1 then (Zbk f o (Zae ((Zl o n lv).k0) ((Zl o n lv).k1) ((Zl o n lv).k2) ((Zl o n lv).k3) (kq lv x y)) (Zao lv x) (Zao lv y) s).2 else (Zl o n lv).k1), (if (kq lv x y) = 2 then (Zbk f o (Zae ((Zl o n lv).k0) ((Zl o n lv).k1) ((Zl o n lv).k2) ((Zl o n lv).k3) (kq lv x y)) (Zao lv x) (Zao lv y) s).2 else (Zl o n lv).k2), (if (kq lv x y) = 3 then (Zbk f o (Zae ((Zl o n lv).k0) ((Zl o n lv).k1) ((Zl o n lv).k2) ((Zl o n lv).k3) (kq lv x y)) (Zao lv x) (Zao lv y) s).2 else (Zl o n lv).k3)⟩] : List Nd) hB14 (fun h => h) rfl (by first | decide | simp)
  refine st (Za4 (K := Kd.node) Zaw rfl rfl hO29 (Zbl (F := Out (fun _ => False) vo2) ([⟨(Zl o n lv).lv, (if (kq lv x y) = 0 then (Zbk f o (Zae ((Zl o n lv).k0) ((Zl o n lv).k1) ((Zl o n lv).k2) ((Zl o n lv).k3) (kq lv x y)) (Zao lv x) (Zao lv y) s).2 else (Zl o n lv).k0), (if (kq lv x y) = 1 then (Zbk f o (Zae ((Zl o n lv).k0) ((Zl o n lv).k1) ((Zl o n lv).k2) ((Zl o n lv).k3) (kq lv x y)) (Zao lv x) (Zao lv y) s).2 else (Zl o n lv).k1), (if (kq lv x y) = 2 then (Zbk f o (Zae ((Zl o n lv).k0) ((Zl o n lv).k1) ((Zl o n lv).k2) ((Zl o n lv).k3) (kq lv x y)) (Zao lv x) (Zao lv y) s).2 else (Zl o n lv).k2), (if (kq lv x y) = 3 then (Zbk f o (Zae ((Zl o n lv).k0) ((Zl o n lv).k1) ((Zl o n lv).k2) ((Zl o n lv).k3) (kq lv x y)) (Zao lv x) (Zao lv y) s).2 else (Zl o n lv).k3)⟩] : List Nd) hB14 (fun h => h.elim id (fun h => by have h9 := (hO28.lt _ h).2; omega)) rfl (by first | decide | simp)) Zb6 (by simp; omega) (by simp; omega) (by first | exact Nat.le_refl _ | omega | (have h0_ := k8.size; have h1_ := k9.size; have h2_ := k10.size; have h3_ := k14.size; have h4_ := k26.size; have h5_ := k27.size; have h6_ := k28.size; omega)) (fun _ h => h.elim) ?_)
  intro v4 w31 hO30 k29 hr5
  have hn4 := Zdk hn3 hr5 (by have := (hB13.g0 k28).lt; omega)
  have hb31 := hb30.grown k29 hb30.size (fun k_ hk_ => by have h9_ := (hO29.lt k_ hk_).1; omega)
  have hz23 := hb31.size
  have hF30 := hF29.row k29 hr5
  refine st (Ze rfl (Zg (Zd (Zh (Zb (st (Zc rfl (st (Zc rfl ?_)))))))))
  refine st (Zaq Zaw rfl hO30.sl (st (Ze rfl (st (Ze rfl (Zg (Zd (Zdl rfl rfl rfl ?_))))))))
  have e_ : Zbk (f + 1) o n x y s = ((Zbk f o (Zae ((Zl o n lv).k0) ((Zl o n lv).k1) ((Zl o n lv).k2) ((Zl o n lv).k3) (kq lv x y)) (Zao lv x) (Zao lv y) s).1 ++ [(Zl o n lv).setK (kq lv x y) (Zbk f o (Zae ((Zl o n lv).k0) ((Zl o n lv).k1) ((Zl o n lv).k2) ((Zl o n lv).k3) (kq lv x y)) (Zao lv x) (Zao lv y) s).2], ((Zbk f o (Zae ((Zl o n lv).k0) ((Zl o n lv).k1) ((Zl o n lv).k2) ((Zl o n lv).k3) (kq lv x y)) (Zao lv x) (Zao lv y) s).1.length : Int) + 1) := by rw [put_nd om, show (f : Int) + 1 = lv by omega]; rfl
  rw [e_]
  refine ⟨_, rfl, v4, by simp, hb31, ?_, ?_, two_frm hb0 hb31 hF30⟩
  ·exact hO30
  ·exact own_rowt (own_row hr_ om) (own_one hr5) om
end Go.Proofs.Ytfljelnfjbbknaa.Lm
namespace Go.Gw
open Go.RowKit
theorem rgs_step {o ok : List Nd} {k a b c e : Int} (hpx : ix ok ((o.length : Int) - 1) = Zm o) (h0 : 0 ≤ k) (h : (ok, a, b, c, e) = grS (Zm o) o k.toNat) (hc : Zae (ix ok ((o.length : Int) - 1)).k0 (ix ok ((o.length : Int) - 1)).k1 (ix ok ((o.length : Int) - 1)).k2 (ix ok ((o.length : Int) - 1)).k3 k = 0) :
    (ok, a, b, c, e) = grS (Zm o) o (k + 1).toNat := by
  rw [hpx] at hc
  exact grS_step h0 h hc
theorem rgs_put {o ok : List Nd} {k a b c e : Int} (hpx : ix ok ((o.length : Int) - 1) = Zm o) (h0 : 0 ≤ k) (h : (ok, a, b, c, e) = grS (Zm o) o k.toNat) (hc : ¬ Zae (ix ok ((o.length : Int) - 1)).k0 (ix ok ((o.length : Int) - 1)).k1 (ix ok ((o.length : Int) - 1)).k2 (ix ok ((o.length : Int) - 1)).k3 k = 0) :
    (ok ++ [yN (ix ok ((o.length : Int) - 1)).lv k ((ix ok ((o.length : Int) - 1)).kid k)], (if k = 0 then ((ok ++ [yN (ix ok ((o.length : Int) - 1)).lv k ((ix ok ((o.length : Int) - 1)).kid k)]).length : Int) else a), (if k = 1 then ((ok ++ [yN (ix ok ((o.length : Int) - 1)).lv k ((ix ok ((o.length : Int) - 1)).kid k)]).length : Int) else b), (if k = 2 then ((ok ++ [yN (ix ok ((o.length : Int) - 1)).lv k ((ix ok ((o.length : Int) - 1)).kid k)]).length : Int) else c), (if k = 3 then ((ok ++ [yN (ix ok ((o.length : Int) - 1)).lv k ((ix ok ((o.length : Int) - 1)).kid k)]).length : Int) else e)) = grS (Zm o) o (k + 1).toNat := by
  rw [hpx] at hc ⊢
  exact grS_put h0 h hc
theorem rgs_px {o ok : List Nd} {x : Nd} (hpx : ix ok ((o.length : Int) - 1) = Zm o) (h1 : 1 ≤ o.length) (h2 : o.length ≤ ok.length) : ix (ok ++ [x]) ((o.length : Int) - 1) = Zm o := by
  rw [← hpx]
  unfold ix
  rw [List.getD_eq_getElem?_getD, List.getD_eq_getElem?_getD, List.getElem?_append_left om]
end Go.Gw
namespace Go.Gw
open Go.RowKit
theorem Zlc {c : Cl} {u : Int} (h : inC c u = true) : ∀ (n : Nat) (v : Int), v ≤ u → upL c n v ≤ u
  | 0, v, hv => hv
  | n + 1, v, hv => by
    unfold upL
    split
    · rename_i hc
      refine Zlc h n (v + 1) ?_
      by_cases e : v = u
      · subst e; rw [h] at hc; exact absurd hc.2 dc
      · omega
    · exact hv
theorem lvUp_eq {q : List Nd} (h : Can q) {x y u : Int} (h1 : max (Zag q) 1 ≤ u) (h2 : u ≤ 1329) (hf : ∀ j : Int, max (Zag q) 1 ≤ j → j < u → inC ⟨x, y, 0⟩ j = false) (hin : inC ⟨x, y, 0⟩ u = true) : Zeo q x y = u := by
  obtain ⟨⟨a, b⟩, c⟩ := Zky h x y
  have d : Zeo q x y ≤ u := Zlc hin 1331 _ h1
  by_cases e : Zeo q x y = u
  · exact e
  · have := hf _ a om; rw [c om] at this; cases this
theorem lvUp_out {q : List Nd} (h : Can q) {x y : Int} (hf : ∀ j : Int, max (Zag q) 1 ≤ j → j < 1329 → inC ⟨x, y, 0⟩ j = false) (h9 : inC ⟨x, y, 0⟩ 1329 = false) : 1329 < Zeo q x y := by
  obtain ⟨⟨a, b⟩, c⟩ := Zky h x y
  refine Classical.byContradiction fun e => ?_
  have hi := c om
  by_cases e2 : Zeo q x y = 1329
  · rw [e2, h9] at hi; cases hi
  · rw [hf _ a om] at hi; cases hi
theorem out_cel {q : List Nd} (h : Can q) {x y : Int} (ho : 1329 < Zeo q x y) : Zcy q x y = 0 := by
  by_cases e : q = []
  · subst e; rfl
  · have hv := Zhq h.ok e
    refine get_none h ?_
    cases hi : inC ⟨x, y, 0⟩ (Zag q)
    · rfl
    · have := Zlc hi 1331 (max (Zag q) 1) om
      unfold Zeo at ho; omega
theorem set_out {q : List Nd} (h : Can q) {x y s : Int} (ho : 1329 < Zeo q x y) (hs : s ≠ Zcy q x y) : Zc6 q x y s = ([], 4) := by
  unfold Zc6; rw [if_pos ho, if_neg (by rw [← out_cel h ho]; exact hs)]
theorem set_up {q : List Nd} {x y s u : Int} (e : Zeo q x y = u) (hu : u ≤ 1329) (hin : inC ⟨x, y, 0⟩ u = true) :
    Zc6 q x y s = ofL (Zbk u.toNat (Zbb q u) (Zbb q u).length ((x + hf u) % (2 * hf u)) ((y + hf u) % (2 * hf u)) s).1 (Zbk u.toNat (Zbb q u) (Zbb q u).length ((x + hf u) % (2 * hf u)) ((y + hf u) % (2 * hf u)) s).2 := by
  unfold inC at hin; rw [decide_eq_true_eq] at hin; simp only at hin
  unfold Zc6; rw [if_neg om, e]; unfold putQ
  rw [Zjo om, Zjo om]
theorem set_up' {q : List Nd} {x y s u : Int} (e : Zeo q x y = u) (hu : u ≤ 1329) :
    Zc6 q x y s = ofL (Zbk u.toNat (Zbb q u) (Zbb q u).length (x + hf u) (y + hf u) s).1 (Zbk u.toNat (Zbb q u) (Zbb q u).length (x + hf u) (y + hf u) s).2 := by
  unfold Zc6; rw [if_neg om, e]; rfl
theorem set_far {q : List Nd} {x y s : Int} (ho : 1329 < Zeo q x y) (hs : s ≠ 0) : Zc6 q x y s = ([], 4) := by unfold Zc6; rw [if_pos ho, if_neg hs]
theorem set_far0 {q : List Nd} {x y s : Int} (ho : 1329 < Zeo q x y) (hs : s = 0) : Zc6 q x y s = (q, 0) := by unfold Zc6; rw [if_pos ho, if_pos hs]
theorem far_of {q : List Nd} (h : Can q) {x y u : Int} (hu : 1329 < u) (hf : ∀ j : Int, max (Zag q) 1 ≤ j → j < u → inC ⟨x, y, 0⟩ j = false) : 1329 < Zeo q x y :=
  lvUp_out h (fun j h0 h1 => hf j h0 om) (hf 1329 (by have := Zfo h; omega) hu)
theorem inR_out {x y u : Int} (h : inR x u = false ∨ inR y u = false) : inC ⟨x, y, 0⟩ u = false := by rw [← inR_inC]; rcases h with h | h <;> rw [h] <;> simp
theorem inR_in {x y u : Int} (h : inR x u = true) (k : inR y u = true) : inC ⟨x, y, 0⟩ u = true := by rw [← inR_inC, h, k]; rfl
theorem last_rng {q : List Nd} (h : Can q) : 0 ≤ (Zm q).lv ∧ (Zm q).lv ≤ 1329 := by
  by_cases e : q = []
  · subst e; exact ⟨by decide, by decide⟩
  · rw [lastN_lv e]; have := Zfo h; omega
end Go.Gw
