/- Part of the proof: a library for walks, plain laws, and functions' walks. -/
import Derived.Test.YtfljelnfjbbknaaM7
import Derived.Test.YtfljelnfjbbknaaM5
set_option maxRecDepth 20000
set_option linter.unusedSimpArgs false
set_option linter.unusedVariables false
namespace Go.Proofs.Ytfljelnfjbbknaa.Lm
open Go.RowKit Go.Gw
set_option maxHeartbeats 4000000 in
theorem place_any {a0 : World} {n0 : Nat} (hn0 : n0 ≤ a0.heap.size) :
  ∀ (f : Nat) {w : World} {vo px py va : Value} {o : List Nd} {x y lv : Int} {l : List Cl}, lv = f → 1 ≤ f ∧ f ≤ 1329 → PB lv x → PB lv y → CBd l → l.length ≤ 100000 → o.length + f * l.length ≤ 1000000 → Below a0.heap.size a0 w → Gw.Own Kd.node 101 a0.heap.size w (fun _ => False) vo o →
  Sl Kd.u32 w (G 83 n0 w) px (ml x) → Sl Kd.u32 w (G 83 n0 w) py (ml y) → Sl (Kd.cell 83 n0) w (fun k => vo.ownBlock = some k) va l →
  Calls Try.prog 71 [vo, .int .i64 lv, .agg [.bool (decide (x < 0)), px].toArray, .agg [.bool (decide (y < 0)), py].toArray, va].toArray w (Ret fun r w' => ∃ vo', r = .tuple #[vo', .int .i64 (Zcr f x y l o).2] ∧ Below a0.heap.size a0 w' ∧ Gw.Own Kd.node 101 a0.heap.size w' (fun _ => False) vo' (Zcr f x y l o).1 ∧ Frm (fun _ => False) w vo w' vo') := by
 intro f
 induction f with
 | zero =>
  intro w vo px py va o x y lv l hlv hf9 hpx hpy hcb hll hon hb0 hE hx0 hy0 hl0
  omega
 | succ f ih =>
  intro w vo px py va o x y lv l hlv hf9 hpx hpy hcb hll hon hb0 hE hx0 hy0 hl0
  have hmul : (f + 1) * l.length = f * l.length + l.length := Nat.succ_mul _ _
  have hz0 := hb0.size
  have hF0 := Frm.refl (fun _ => False) w vo
  have hlw := hl0.loc
  have hsz := hb0.size
  have hlvr : 1 ≤ lv ∧ lv ≤ 1329 := by omega
  have hlv2 : lv = (f : Int) + 1 := by omega
  have hlnl := hl0.lenle
  have hln1 := hlw.lenle
  refine enter Try.func71 rfl rfl (Zh (Zb (st (Zbs rfl ?_))))
  intro g1 w1 hg1 hB1 k1 hs1
  change Blk w1 g1 31 [.bool (decide (x < 0)), px].toArray at hB1
  have hb1 := Zf hb0 k1
  have hF1 := hF0.none k1
  have hz1 := hF1.1
  have hO1 := hE.g0 k1
  refine st (Zbs rfl ?_)
  intro g2 w2 hg2 hB2 k2 hs2
  change Blk w2 g2 31 [.bool (decide (y < 0)), py].toArray at hB2
  have hb2 := Zf hb1 k2
  have hF2 := hF1.none k2
  have hz2 := hF2.1
  have hO2 := hO1.g0 k2
  refine st (Ze rfl (st (Ze rfl (Zg (Zd (Zh (Zh (Zb ?_))))))))
  refine st (Zc rfl (st (Zaq Zct rfl ((hlw.g0 k1).g0 k2) (st (Zbu rfl rfl (Zg (Zd ?_)))))))
  refine Zw rfl (fun h1 => ?_) (fun h1 => ?_)
  ·refine Zh (Zb (st (Zc rfl (st (Ze rfl (st (Ze rfl (Zg (Zd ?_)))))))))
   refine Zdl rfl rfl rfl ?_
   have hnil : l = [] := List.eq_nil_of_length_eq_zero om
   subst hnil
   rw [Zlk]
   exact ⟨_, rfl, _, rfl, hb2, hO2, hF2⟩
  have hnn : l ≠ [] := by rintro rfl; exact h1 rfl
  refine Zo (Zd (Zh (Zb (st (Zc rfl (st (Za7 rfl rfl om (st (Zq fn47 rfl (Zfa (n0 := n0) (Zu hn0 hb2)) ?_)))))))))
  rintro v2 w3 ⟨hq1, hv1⟩
  rw [show (Zfm 1 (lv - 1)) = (hf lv) from (Ziq hlvr)] at hv1
  obtain ⟨v1, rfl, hS1⟩ := hv1
  have k3 := Zi hq1 none
  have hz3 := hq1.size
  have hb3 := Zf hb2 k3
  have hz4 := hb3.size
  have hF3 := hF2.none k3
  have hz5 := hF3.1
  have hO3 := hO2.g0 k3
  have hlt_1 := (((hB1.g0 k2).g0 k3)).lt
  have hlt_2 := ((hB2.g0 k3)).lt
  refine st (Zan Zb3 ?_)
  intro g3 w4 hg3 hB3 k4 hs3
  have hz6 := hb3.size
  have hb4 := Zf hb3 k4
  have hF4 := hF3.none k4
  have hz7 := hF4.1
  have hO4 := hO3.g0 k4
  refine st0 (Zv Zx rfl rfl hB3 (by simp only [List.all_cons, List.all_nil, hS1.one, Bool.and_true, Bool.and_self] <;> rfl) rfl rfl ?_)
  intro w5 hB4 k5 hs4
  have hb5 := belowa hb4 k5
  have hF5 := hF4.put k5 (by first | exact .inr om | exact .inl (by assumption) | exact .inl (.inl rfl) | exact .inl (.inr rfl) | exact .inl (.inr (.inl rfl)) | exact .inl (.inr (.inr rfl)))
  have hz8 := hF5.1
  have hO5 := Own.keptF Zy hO4 k5 (hO4.ne_blk hB3 dc)
  refine Zg (Zd (Zh (Zb (st (Zc rfl (st (Zbe (ps := [(0, .tmp 26)]) (ccs := [#[.int .i64 lv]]) (cells := [.int .i64 lv, .int .i64 0, .int .i64 0, .int .i64 0, .int .i64 0]) rfl rfl kr ?_)))))))
  have hlt_3 := (((((hB1.g0 k2).g0 k3).g0 k4).gne k5 om)).lt
  have hlt_4 := ((((hB2.g0 k3).g0 k4).gne k5 om)).lt
  have hlt_5 := (hB4).lt
  refine st (Zan Zcw ?_)
  intro g4 w6 hg4 hB5 k6 hs5
  have hz9 := hb5.size
  have hn1 := Zdj hO5 hg4
  have hb6 := Zf hb5 k6
  have hF6 := hF5.none k6
  have hz10 := hF6.1
  have hO6 := hO5.g0 k6
  refine st0 (Zv Za1 rfl rfl hB5 rfl rfl rfl ?_)
  intro w7 hB6 k7 hs6
  have hb7 := belowa hb6 k7
  have hF7 := hF6.put k7 (by first | exact .inr om | exact .inl (by assumption) | exact .inl (.inl rfl) | exact .inl (.inr rfl) | exact .inl (.inr (.inl rfl)) | exact .inl (.inr (.inr rfl)))
  have hz11 := hF7.1
  have hO7 := Own.keptN Zy hO6 k7 hn1
  refine Zg (Zd (Zh (Zh (Zb (st (Ze rfl (Zg ?_)))))))
  refine Zd (Zz ?_)
  refine Za2 (α := Int × List Nd × Value × Int × Int × Int × Int) (fun ((k, ok, vk, a, b, c, e) : Int × List Nd × Value × Int × Int × Int × Int) => [(0, vk), (1, .int .i64 lv), (4, va), (7, (pp g1)), (8, (pp g2)), (10, .slice none 0 0), (11, .int .i64 0), (12, (pp g3)), (13, (pp g4)), (14, .int .i64 k)]) (fun ((k, ok, vk, a, b, c, e) : Int × List Nd × Value × Int × Int × Int × Int) W => Below a0.heap.size a0 W ∧ (0 ≤ k ∧ k ≤ 4) ∧ (PSt f x y l o k ok a b c e) ∧ (Gw.Own Kd.node 101 a0.heap.size W (fun _ => False) vk ok) ∧ (Frm (fun _ => False) w vo W vk) ∧ (vk.ownBlock ≠ some g4) ∧ (Blk W g1 31 [.bool (decide (x < 0)), px].toArray) ∧ (Blk W g2 31 [.bool (decide (y < 0)), py].toArray) ∧ (Blk W g3 31 [.bool (decide ((hf lv) < 0)), v1].toArray) ∧ (Blk W g4 101 [.int .i64 lv, .int .i64 a, .int .i64 b, .int .i64 c, .int .i64 e].toArray) ∧ (Sl Kd.u32 W (G 83 n0 W) px (ml x)) ∧ (Sl Kd.u32 W (G 83 n0 W) py (ml y)) ∧ (Sl Kd.u32 W (G 83 n0 W) v1 (ml (hf lv)))) (fun ((k, ok, vk, a, b, c, e) : Int × List Nd × Value × Int × Int × Int × Int) => (4 - k).toNat) ((0), (o), (vo), (0), (0), (0), (0)) ⟨hb7, by omega, pst_zero f x y l o, hO7, hF7, hn1, ((((((hB1.g0 k2).g0 k3).g0 k4).gne k5 om).g0 k6).gne k7 om), (((((hB2.g0 k3).g0 k4).gne k5 om).g0 k6).gne k7 om), ((hB4.g0 k6).gne k7 om), hB6, (((((((hx0.gg0 k1).gg0 k2).gg0 k3).gg0 k4).ggB k5 hB3 dc om).gg0 k6).ggB k7 hB5 dc om), (((((((hy0.gg0 k1).gg0 k2).gg0 k3).gg0 k4).ggB k5 hB3 dc om).gg0 k6).ggB k7 hB5 dc om), ((((hS1.gg0 k4).ggB k5 hB3 dc om).gg0 k6).ggB k7 hB5 dc om)⟩ sb ?_
  rintro ⟨k, ok, vk, a, b, c, e⟩ w8 ⟨hb8, hk, hst, hOk, hFk, hne, hbk0, hbk1, hbk2, hbk3, hsk0_1, hsk1_1, hsk2_1⟩
  dsimp only at *
  have hz12 := hb8.size
  have hlk := hl0.frmL hFk
  have hzk := hFk.1
  have hplen := pst_len hst hk.1 hk.2
  have hbk0l := hbk0.lt
  have hbk1l := hbk1.lt
  have hbk2l := hbk2.lt
  have hbk3l := hbk3.lt
  refine Zh (Zh (Zb (st (Zc rfl (st (Zbd rfl rfl (Zg (Zd ?_))))))))
  refine Zw rfl (fun h2 => ?_) (fun h2 => ?_)
  rotate_left
  ·refine Zak (Zk (Zk (Zs (Zd (Zh (Zb ?_))))))
   refine st (Zc rfl (st (Zp Za1 rfl hbk3.range rfl (st (Zau (ps := [(0, .tmp 131)]) (ccs := [#[.int .i64 lv, .int .i64 a, .int .i64 b, .int .i64 c, .int .i64 e]]) (e := 101) (cells := [.int .i64 lv, .int .i64 a, .int .i64 b, .int .i64 c, .int .i64 e]) rfl rfl kr dc Zgw ?_)))))
   intro g11 w236 hg11 hB19 k232 hs21
   have hb219 := Zf hb8 k232
   have hz266 := hb219.size
   have hF228 := hFk.none k232
   have hz267 := hF228.1
   have hO408 := hOk.g0 k232
   have hS21 := Zbl (F := fun _ => False) ([⟨lv, a, b, c, e⟩] : List Nd) hB19 (fun h => h) rfl (by first | decide | simp)
   refine st (Za4 (K := Kd.node) Zaw rfl rfl hO408 (Zbl (F := Out (fun _ => False) vk) ([⟨lv, a, b, c, e⟩] : List Nd) hB19 (fun h => h.elim id (fun h => by have h9 := (hOk.lt _ h).2; omega)) rfl (by first | decide | simp)) Zb6 (by simp; omega) (by simp; omega) (by first | exact Nat.le_refl _ | omega | (have h0_ := k232.size; omega)) (fun _ h => h.elim) ?_)
   intro v22 w237 hO409 k233 hr14
   have hn3 := Zdk hne hr14 (by have := (hbk3.g0 k232).lt; omega)
   have hb220 := hb219.grown k233 hb219.size (fun k_ hk_ => by have h9_ := (hO408.lt k_ hk_).1; omega)
   have hz268 := hb220.size
   have hF229 := hF228.row k233 hr14
   have hz269 := hF229.1
   refine st (Ze rfl (Zg (Zd (Zh (Zb (st (Zc rfl (st (Zc rfl ?_)))))))))
   refine st (Zaq Zaw rfl hO409.sl (st (Ze rfl (st (Ze rfl (Zg (Zd (Zdl rfl rfl rfl ?_))))))))
   have e4 : k = 4 := by omega
   subst e4
   rw [Zle hnn]
   obtain ⟨q1_, q2_, q3_, q4_, q5_⟩ := hst
   rw [show (4 : Int).toNat = 4 from rfl] at q1_ q2_ q3_ q4_ q5_
   rw [← q1_, ← q2_, ← q3_, ← q4_, ← q5_, ← hlv2]
   refine ⟨_, rfl, v22, ?_, hb220, hO409, hF229⟩
   simp
  refine Zo (Zd (Zh (Zz (Zh ?_))))
  refine w_drawS (dd := 2) (td := 15) (cs := [false, false, false, false, true]) (ψ := PtrX w8.heap.size 31 [.bool (decide (x < 0)), px].toArray) 5 (Rx w8.heap.size 31 [.bool (decide (x < 0)), px].toArray) [(some 32, fun v _ => v = .agg [.bool (decide (x < 0)), px].toArray), (some 33, fun v _ => v = .agg [.bool (decide (y < 0)), py].toArray), (some 15, fun v W => Zg2 w8.heap.size 31 2 v W), (some 16, fun v W => Zg2 w8.heap.size 31 2 v W), (none, fun _ _ => True)] [[], [], [], [], [2, 0]] [false, false, true, true, false] [(0, vk), (1, .int .i64 lv), (4, va), (7, (pp g1)), (8, (pp g2)), (10, .slice none 0 0), (11, .int .i64 0), (12, (pp g3)), (13, (pp g4)), (14, .int .i64 k)] sb kr kr Rx.refl Rx.trans ⟨fun _ _ _ h _ => h, fun _ _ _ h _ => h, Zg2.st rfl, Zg2.st rfl, fun _ _ _ h _ => h, trivial⟩ ⟨nofun, nofun, fun _ _ _ h => h.old, fun _ _ _ h => h.old, nofun, trivial⟩ rfl (fun i h _ => by rcases i with _ | _ | _ | _ | _ | i <;> simp at h ⊢) PtrX.st ⟨4, rfl, by decide⟩ ?_
  intro w9 k8 hs7
  have hb9 := Zf hb8 k8
  have hF8 := hFk.none k8
  have hz13 := hF8.1
  have hO8 := hOk.g0 k8
  refine ⟨⟨?_, ?_, ?_, ?_, ?_, trivial⟩, ?_⟩
  ·intro w10 k9r
   have k9 := Rx.grown k9r om
   have hF9 := hF8.none k9
   have hz14 := hF9.1
   refine op1 (Zp Zx rfl ((hbk0.g0 k8).g0 k9).range rfl ?_)
   exact ⟨rfl, Rx.refl _, nofun, nofun⟩
  ·intro w11 k10r
   have k10 := Rx.grown k10r om
   have hF10 := hF8.none k10
   have hz15 := hF10.1
   refine op1 (Zp Zx rfl ((hbk1.g0 k8).g0 k10).range rfl ?_)
   exact ⟨rfl, Rx.refl _, nofun, nofun⟩
  ·intro w12 k11r
   have k11 := Rx.grown k11r om
   have hF11 := hF8.none k11
   have hz16 := hF11.1
   refine op1 (Zan Zb3 ?_)
   intro g5 w13 hg5 hB7 k12 hs8
   have hz_ := k11.size
   exact ⟨⟨g5, rfl, by omega, _, rfl, hB7⟩, Rx.of k12, fun _ => ⟨_, rfl, by omega⟩, nofun⟩
  ·intro w14 k13r
   have k13 := Rx.grown k13r om
   have hF12 := hF8.none k13
   have hz17 := hF12.1
   refine op1 (Zan Zb3 ?_)
   intro g6 w15 hg6 hB8 k14 hs9
   have hz_ := k13.size
   exact ⟨⟨g6, rfl, by omega, _, rfl, hB8⟩, Rx.of k14, fun _ => ⟨_, rfl, by omega⟩, nofun⟩
  ·intro w16 k15r
   have k15 := Rx.grown k15r om
   have hF13 := hF8.none k15
   have hz18 := hF13.1
   rintro _ ⟨g7, rfl, hg7, cs1, hc1, hB9⟩ _ rfl
   refine op1 (Zv Zx rfl rfl hB9 (by simp only [List.all_cons, List.all_nil, (((hsk0_1.gg0 k8).gg0 k15)).one, Bool.and_true, Bool.and_self] <;> rfl) rfl hc1 ?_)
   intro w17 hB10 k16 hs10
   exact ⟨trivial, Rx.sto ⟨_, hc1, hB9⟩ hB10 k16 hg7, nofun, fun _ => ⟨_, rfl, _, rfl, hg7, hB10⟩⟩
  intro w18 k17r
  have k17 := Rx.grown k17r om
  have hb15 := Zf hb9 k17
  have hF14 := hF8.none k17
  have hz19 := hF14.1
  have hO14 := hO8.g0 k17
  intro v_ hv_; subst v_
  intro v_ hv_; subst v_
  rintro _ ⟨g8, rfl, hg8, _⟩ _ _ ⟨g9, rfl, hg9, cs2, hc2, hB12⟩ hnf1
  have hne1 : g8 ≠ g9 := fresh_ne (hnf1 _ (by simp))
  intro hp1
  obtain ⟨_, he1, _, hB11⟩ := hp1 _ rfl
  cases he1
  have hlt_6 := hB11.lt
  have hlt_7 := hB12.lt
  refine st0 (Zv Zx rfl rfl hB12 (by simp only [List.all_cons, List.all_nil, (((hsk1_1.gg0 k8).gg0 k17)).one, Bool.and_true, Bool.and_self] <;> rfl) rfl hc2 ?_)
  intro w19 hB13 k18 hs11
  have hb16 := belowa hb15 k18
  have hF15 := hF14.put k18 (by first | exact .inr om | exact .inl (by assumption) | exact .inl (.inl rfl) | exact .inl (.inr rfl) | exact .inl (.inr (.inl rfl)) | exact .inl (.inr (.inr rfl)))
  have hz20 := hF15.1
  have hO15 := Own.keptF Zy hO14 k18 (hO14.ne_blk hB12 dc)
  refine Zg (Zd ?_)
  refine w_cut (α := Int × Value) (fun ((A, pA) : Int × Value) => [(0, vk), (1, .int .i64 lv), (4, va), (7, (pp g1)), (8, (pp g2)), (10, .slice none 0 0), (11, .int .i64 0), (12, (pp g3)), (13, (pp g4)), (14, .int .i64 k), (15, (pp g8)), (16, (pp g9))]) (fun ((A, pA)) W => Below a0.heap.size a0 W ∧ (A = qX x (hf lv) k) ∧ (Bd 44 A) ∧ (Gw.Own Kd.node 101 a0.heap.size W (fun _ => False) vk ok) ∧ (Frm (fun _ => False) w vo W vk) ∧ (vk.ownBlock ≠ some g4) ∧ (Blk W g1 31 [.bool (decide (x < 0)), px].toArray) ∧ (Blk W g2 31 [.bool (decide (y < 0)), py].toArray) ∧ (Blk W g3 31 [.bool (decide ((hf lv) < 0)), v1].toArray) ∧ (Blk W g4 101 [.int .i64 lv, .int .i64 a, .int .i64 b, .int .i64 c, .int .i64 e].toArray) ∧ (Blk W g8 31 [.bool (decide (A < 0)), pA].toArray) ∧ (Blk W g9 31 [.bool (decide (y < 0)), py].toArray) ∧ (Sl Kd.u32 W (G 83 n0 W) px (ml x)) ∧ (Sl Kd.u32 W (G 83 n0 W) py (ml y)) ∧ (Sl Kd.u32 W (G 83 n0 W) v1 (ml (hf lv))) ∧ (Sl Kd.u32 W (G 83 n0 W) pA (ml A)) ∧ (Sl Kd.u32 W (G 83 n0 W) py (ml y))) ?_ ?_
  ·refine Zh (Zb (st (Zc rfl (st (Zew rfl rfl om om (st (Zbu rfl rfl (Zg (Zd ?_)))))))))
   refine Zw rfl (fun h3 => ?_) (fun h3 => ?_)
   rotate_left
   ·refine Zo ?_
    exact Ze2 ((x), (px)) ⟨hb16, by unfold qX; rw [if_neg om], (Bd.le (pb_bd hpx) (show 43 ≤ 44 by decide)), hO15, hF15, hne, (((hbk0.g0 k8).g0 k17).gne k18 om), (((hbk1.g0 k8).g0 k17).gne k18 om), (((hbk2.g0 k8).g0 k17).gne k18 om), (((hbk3.g0 k8).g0 k17).gne k18 om), (hB11.gne k18 om), hB13, (((hsk0_1.gg0 k8).gg0 k17).ggB k18 hB12 dc om), (((hsk1_1.gg0 k8).gg0 k17).ggB k18 hB12 dc om), (((hsk2_1.gg0 k8).gg0 k17).ggB k18 hB12 dc om), (((hsk0_1.gg0 k8).gg0 k17).ggB k18 hB12 dc om), (((hsk1_1.gg0 k8).gg0 k17).ggB k18 hB12 dc om)⟩ sb
   refine Zb (st (Zp Zx rfl (((hbk0.g0 k8).g0 k17).gne k18 om).range rfl (st (Zp Zx rfl (((hbk2.g0 k8).g0 k17).gne k18 om).range rfl (st (Zq fn22 rfl (Zdn (n0 := n0) (Zu hn0 hb16) (Zai rfl (((hsk0_1.gg0 k8).gg0 k17).ggB k18 hB12 dc om)) (Zai rfl (((hsk2_1.gg0 k8).gg0 k17).ggB k18 hB12 dc om)) (Bd.le (pb_bd hpx) (show 43 ≤ 90000 by decide)) (Bd.le (Zci hlvr.2) (show 42 ≤ 90000 by decide))) ?_))))))
   rintro _ w20 ⟨hq2, v3, rfl, hS2⟩
   have k19 := Zi hq2 none
   have hz21 := hq2.size
   have hb17 := Zf hb16 k19
   have hz22 := hb17.size
   have hF16 := hF15.none k19
   have hz23 := hF16.1
   have hO16 := hO15.g0 k19
   refine st0 (Zv Zx rfl rfl ((hB11.gne k18 om).g0 k19) (by simp only [List.all_cons, List.all_nil, hS2.one, Bool.and_true, Bool.and_self] <;> rfl) rfl rfl ?_)
   intro w21 hB14 k20 hs12
   have hb18 := belowa hb17 k20
   have hF17 := hF16.put k20 (by first | exact .inr om | exact .inl (by assumption) | exact .inl (.inl rfl) | exact .inl (.inr rfl) | exact .inl (.inr (.inl rfl)) | exact .inl (.inr (.inr rfl)))
   have hz24 := hF17.1
   have hO17 := Own.keptF Zy hO16 k20 (hO16.ne_blk ((hB11.gne k18 om).g0 k19) dc)
   refine Zg ?_
   exact Ze2 (((x + (hf lv))), (v3)) ⟨hb18, by unfold qX; rw [if_pos om], (Bd.le (Zfn (pb_bd hpx) (Zci hlvr.2) (show 43 < 44 by decide) (show 42 < 44 by decide)) (show 44 ≤ 44 by decide)), hO17, hF17, hne, (((((hbk0.g0 k8).g0 k17).gne k18 om).g0 k19).gne k20 om), (((((hbk1.g0 k8).g0 k17).gne k18 om).g0 k19).gne k20 om), (((((hbk2.g0 k8).g0 k17).gne k18 om).g0 k19).gne k20 om), (((((hbk3.g0 k8).g0 k17).gne k18 om).g0 k19).gne k20 om), hB14, ((hB13.g0 k19).gne k20 om), (((((hsk0_1.gg0 k8).gg0 k17).ggB k18 hB12 dc om).gg0 k19).ggB k20 ((hB11.gne k18 om).g0 k19) dc om), (((((hsk1_1.gg0 k8).gg0 k17).ggB k18 hB12 dc om).gg0 k19).ggB k20 ((hB11.gne k18 om).g0 k19) dc om), (((((hsk2_1.gg0 k8).gg0 k17).ggB k18 hB12 dc om).gg0 k19).ggB k20 ((hB11.gne k18 om).g0 k19) dc om), (hS2.ggB k20 ((hB11.gne k18 om).g0 k19) dc om), (((((hsk1_1.gg0 k8).gg0 k17).ggB k18 hB12 dc om).gg0 k19).ggB k20 ((hB11.gne k18 om).g0 k19) dc om)⟩ sb
  rintro ⟨A, pA⟩ w22 ⟨hb19, hA, hbA, hOxa, hFxa, hnexa, hbxa0, hbxa1, hbxa2, hbxa3, hbxa4, hbxa5, hsxa0_1, hsxa1_1, hsxa2_1, hsxa4_1, hsxa5_1⟩
  dsimp only at *
  have hz25 := hb19.size
  have hlxa := hl0.frmL hFxa
  have hzxa := hFxa.1
  have hbxa0l := hbxa0.lt
  have hbxa1l := hbxa1.lt
  have hbxa2l := hbxa2.lt
  have hbxa3l := hbxa3.lt
  have hbxa4l := hbxa4.lt
  have hbxa5l := hbxa5.lt
  refine w_cut (α := Int × Value) (fun ((B, pB) : Int × Value) => [(0, vk), (1, .int .i64 lv), (4, va), (7, (pp g1)), (8, (pp g2)), (10, .slice none 0 0), (11, .int .i64 0), (12, (pp g3)), (13, (pp g4)), (14, .int .i64 k), (15, (pp g8)), (16, (pp g9))]) (fun ((B, pB)) W => Below a0.heap.size a0 W ∧ (B = qY y (hf lv) k) ∧ (Bd 44 B) ∧ (Gw.Own Kd.node 101 a0.heap.size W (fun _ => False) vk ok) ∧ (Frm (fun _ => False) w vo W vk) ∧ (vk.ownBlock ≠ some g4) ∧ (Blk W g1 31 [.bool (decide (x < 0)), px].toArray) ∧ (Blk W g2 31 [.bool (decide (y < 0)), py].toArray) ∧ (Blk W g3 31 [.bool (decide ((hf lv) < 0)), v1].toArray) ∧ (Blk W g4 101 [.int .i64 lv, .int .i64 a, .int .i64 b, .int .i64 c, .int .i64 e].toArray) ∧ (Blk W g8 31 [.bool (decide (A < 0)), pA].toArray) ∧ (Blk W g9 31 [.bool (decide (B < 0)), pB].toArray) ∧ (Sl Kd.u32 W (G 83 n0 W) px (ml x)) ∧ (Sl Kd.u32 W (G 83 n0 W) py (ml y)) ∧ (Sl Kd.u32 W (G 83 n0 W) v1 (ml (hf lv))) ∧ (Sl Kd.u32 W (G 83 n0 W) pA (ml A)) ∧ (Sl Kd.u32 W (G 83 n0 W) pB (ml B))) ?_ ?_
  ·refine Zh (Zb (st (Zc rfl (st (Zch rfl rfl (Zg (Zd ?_)))))))
   refine Zw rfl (fun h4 => ?_) (fun h4 => ?_)
   rotate_left
   ·refine Zo ?_
    exact Ze2 ((y), (py)) ⟨hb19, by unfold qY; rw [if_neg h4], (Bd.le (pb_bd hpy) (show 43 ≤ 44 by decide)), hOxa, hFxa, hnexa, hbxa0, hbxa1, hbxa2, hbxa3, hbxa4, hbxa5, hsxa0_1, hsxa1_1, hsxa2_1, hsxa4_1, hsxa5_1⟩ sb
   refine Zb (st (Zp Zx rfl hbxa1.range rfl (st (Zp Zx rfl hbxa2.range rfl (st (Zq fn22 rfl (Zdn (n0 := n0) (Zu hn0 hb19) (Zai rfl hsxa1_1) (Zai rfl hsxa2_1) (Bd.le (pb_bd hpy) (show 43 ≤ 90000 by decide)) (Bd.le (Zci hlvr.2) (show 42 ≤ 90000 by decide))) ?_))))))
   rintro _ w23 ⟨hq3, v4, rfl, hS3⟩
   have k21 := Zi hq3 none
   have hz26 := hq3.size
   have hb20 := Zf hb19 k21
   have hz27 := hb20.size
   have hF18 := hFxa.none k21
   have hz28 := hF18.1
   have hO18 := hOxa.g0 k21
   refine st0 (Zv Zx rfl rfl (hbxa5.g0 k21) (by simp only [List.all_cons, List.all_nil, hS3.one, Bool.and_true, Bool.and_self] <;> rfl) rfl rfl ?_)
   intro w24 hB15 k22 hs13
   have hb21 := belowa hb20 k22
   have hF19 := hF18.put k22 (by first | exact .inr om | exact .inl (by assumption) | exact .inl (.inl rfl) | exact .inl (.inr rfl) | exact .inl (.inr (.inl rfl)) | exact .inl (.inr (.inr rfl)))
   have hz29 := hF19.1
   have hO19 := Own.keptF Zy hO18 k22 (hO18.ne_blk (hbxa5.g0 k21) dc)
   refine Zg ?_
   exact Ze2 (((y + (hf lv))), (v4)) ⟨hb21, by unfold qY; rw [if_pos h4], (Bd.le (Zfn (pb_bd hpy) (Zci hlvr.2) (show 43 < 44 by decide) (show 42 < 44 by decide)) (show 44 ≤ 44 by decide)), hO19, hF19, hnexa, ((hbxa0.g0 k21).gne k22 om), ((hbxa1.g0 k21).gne k22 om), ((hbxa2.g0 k21).gne k22 om), ((hbxa3.g0 k21).gne k22 om), ((hbxa4.g0 k21).gne k22 om), hB15, ((hsxa0_1.gg0 k21).ggB k22 (hbxa5.g0 k21) dc om), ((hsxa1_1.gg0 k21).ggB k22 (hbxa5.g0 k21) dc om), ((hsxa2_1.gg0 k21).ggB k22 (hbxa5.g0 k21) dc om), ((hsxa4_1.gg0 k21).ggB k22 (hbxa5.g0 k21) dc om), (hS3.ggB k22 (hbxa5.g0 k21) dc om)⟩ sb
  rintro ⟨B, pB⟩ w25 ⟨hb22, hB, hbB, hOyb, hFyb, hneyb, hbyb0, hbyb1, hbyb2, hbyb3, hbyb4, hbyb5, hsyb0_1, hsyb1_1, hsyb2_1, hsyb4_1, hsyb5_1⟩
  dsimp only at *
  have hz30 := hb22.size
  have hlyb := hl0.frmL hFyb
  have hzyb := hFyb.1
  have hbyb0l := hbyb0.lt
  have hbyb1l := hbyb1.lt
  have hbyb2l := hbyb2.lt
  have hbyb3l := hbyb3.lt
  have hbyb4l := hbyb4.lt
  have hbyb5l := hbyb5.lt
  refine Zh (Zb (st (Ze rfl (Zg (Zd (Zh (Zh ?_)))))))
  refine Zb (st (Ze rfl (Zg (Zd (Zz ?_)))))
  refine Za2 (α := Int × Value × List Cl) (fun ((i, vi, ys) : Int × Value × List Cl) => [(0, vk), (1, .int .i64 lv), (4, va), (7, (pp g1)), (8, (pp g2)), (10, .slice none 0 0), (11, .int .i64 0), (12, (pp g3)), (13, (pp g4)), (14, .int .i64 k), (15, (pp g8)), (16, (pp g9)), (17, vi), (18, .int .i64 i)]) (fun ((i, vi, ys) : Int × Value × List Cl) W => Below a0.heap.size a0 W ∧ (0 ≤ i ∧ i ≤ l.length) ∧ (Gw.Own Kd.node 101 a0.heap.size W (fun _ => False) vk ok) ∧ (Gw.Own (Kd.cell 83 n0) 47 w.heap.size W (fun _ => False) vi ys) ∧ (ys = (l.take i.toNat).filter (qC A B (hf lv))) ∧ (Frm (fun _ => False) w vo W vk) ∧ (vk.ownBlock ≠ some g4) ∧ (Blk W g1 31 [.bool (decide (x < 0)), px].toArray) ∧ (Blk W g2 31 [.bool (decide (y < 0)), py].toArray) ∧ (Blk W g3 31 [.bool (decide ((hf lv) < 0)), v1].toArray) ∧ (Blk W g4 101 [.int .i64 lv, .int .i64 a, .int .i64 b, .int .i64 c, .int .i64 e].toArray) ∧ (Blk W g8 31 [.bool (decide (A < 0)), pA].toArray) ∧ (Blk W g9 31 [.bool (decide (B < 0)), pB].toArray) ∧ (Sl Kd.u32 W (G 83 n0 W) px (ml x)) ∧ (Sl Kd.u32 W (G 83 n0 W) py (ml y)) ∧ (Sl Kd.u32 W (G 83 n0 W) v1 (ml (hf lv))) ∧ (Sl Kd.u32 W (G 83 n0 W) pA (ml A)) ∧ (Sl Kd.u32 W (G 83 n0 W) pB (ml B))) (fun ((i, vi, ys) : Int × Value × List Cl) => (l.length - i).toNat) ((0), (.slice none 0 0), ([])) ⟨hb22, by omega, hOyb, Own.nil _ _ _ _ _, rfl, hFyb, hneyb, hbyb0, hbyb1, hbyb2, hbyb3, hbyb4, hbyb5, hsyb0_1, hsyb1_1, hsyb2_1, hsyb4_1, hsyb5_1⟩ sb ?_
  rintro ⟨i, vi, ys⟩ w26 ⟨hb23, hi, hOi, hOc, hys, hFi, hnei, hbi0, hbi1, hbi2, hbi3, hbi4, hbi5, hsi0_1, hsi1_1, hsi2_1, hsi4_1, hsi5_1⟩
  dsimp only at *
  have hz31 := hb23.size
  have hli := hl0.frmL hFi
  have hzi := hFi.1
  have hyl := qf_len hys
  have hcby := cbd_filter hcb hys
  have hbi0l := hbi0.lt
  have hbi1l := hbi1.lt
  have hbi2l := hbi2.lt
  have hbi3l := hbi3.lt
  have hbi4l := hbi4.lt
  have hbi5l := hbi5.lt
  refine Zh (Zh (Zb (st (Zc rfl (st (Zc rfl (st (Zaq Zct rfl hli (st (Zbd rfl rfl ?_))))))))))
  refine Zg (Zd ?_)
  refine Zw rfl (fun h5 => ?_) (fun h5 => ?_)
  rotate_left
  ·refine Zak (Zk (Zk (Zs (Zd (Zh (Zh ?_))))))
   refine Zb (st (Zc rfl (st (Zbu rfl rfl (st (Zc rfl ?_))))))
   refine Zax 102 rfl (fun h10 => ?_) (fun h10 => ?_)
   ·refine stg (Zc rfl (stg (Zaq Zct rfl hOc.sl.loc (stg (Zch rfl rfl (st (Zr rfl rfl (Zg (Zd ?_)))))))))
    refine Zw rfl (fun h11 => ?_) (fun h11 => ?_)
    rotate_left
    ·refine Zo (Zd (Zh (Zb (st (Zc rfl (st (Zch rfl rfl (Zg ?_))))))))
     refine Zd (Zw rfl (fun h13 => absurd h13 om) (fun h13 => (Zo (Zab (Zd (Zb (st (Zc rfl ?_))))))))
     refine st (Zah rfl rfl om (st (Ze rfl (Zg ?_))))
     exact Zac (((k + 1)), (ok), (vk), (a), (b), (c), (e)) ⟨hb23, by omega, pst_same hst hk.1 om (by rw [kid_leaf (h := hf lv) om (by rw [hlv]; rfl) hA hB (show ys = l.filter (qC A B (hf lv)) by rw [hys, List.take_of_length_le om])]; unfold hdS; rw [if_pos (List.eq_nil_of_length_eq_zero om)]), hOi, hFi, hnei, hbi0, hbi1, hbi2, hbi3, hsi0_1, hsi1_1, hsi2_1⟩ (by dsimp only; omega) sb
    refine Zb (st (Zc rfl (st (Zc rfl (st (Zat Zct rfl rfl hOc.sl.loc om om ?_))))))
    rintro b12 o12 _ ⟨ca12, cb12, rfl, hca12, hcb12, hcs12⟩ hc14 hF223 hlt12
    replace hca12 := hca12.ofGF
    replace hcb12 := hcb12.ofGF
    refine st (Zn fld47_2 rfl (st (Zt one5 rfl hc14 (j := 4) rfl (st (Zgt Zgs Zh5 rfl om (st (Zn Zav rfl (st (Zbi Zb9 rfl rfl om om (st0 (Zda Za9 rfl rfl hbi3 om om ?_)))))))))))
    intro w233 hB17 k229 hs19
    have hb216 := belowa hb23 k229
    have hF224 := hFi.put k229 (by first | exact .inr om | exact .inl (by assumption) | exact .inl (.inl rfl) | exact .inl (.inr rfl) | exact .inl (.inr (.inl rfl)) | exact .inl (.inr (.inr rfl)))
    have hz262 := hF224.1
    have hO404 := Own.keptN Zy hOi k229 hnei
    refine Zg (Zd (Zh (Zb (st (Zc rfl (st (Zch rfl rfl (Zg ?_))))))))
    refine Zd (Zw rfl (fun h12 => absurd h12 om) (fun h12 => (Zo (Zab (Zd (Zb (st (Zc rfl ?_))))))))
    refine st (Zah rfl rfl om (st (Ze rfl (Zg ?_))))
    exact Zac (((k + 1)), (ok), (vk), ((if k = 0 then (ix ys 0).st else a)), ((if k = 1 then (ix ys 0).st else b)), ((if k = 2 then (ix ys 0).st else c)), ((if k = 3 then (ix ys 0).st else e))) ⟨hb216, by omega, pst_next hst hk.1 (by rw [kid_leaf (h := hf lv) om (by rw [hlv]; rfl) hA hB (show ys = l.filter (qC A B (hf lv)) by rw [hys, List.take_of_length_le om])]; unfold hdS; rw [if_neg (by rintro rfl; simp at h11)]), hO404, hF224, hnei, (hbi0.gne k229 om), (hbi1.gne k229 om), (hbi2.gne k229 om), hB17, (hsi0_1.ggB k229 hbi3 dc om), (hsi1_1.ggB k229 hbi3 dc om), (hsi2_1.ggB k229 hbi3 dc om)⟩ (by dsimp only; omega) sb
   refine Zj rfl rfl (Zj rfl rfl (Zj rfl rfl (st (Zr rfl rfl (Zg (Zd (Zbv rfl ?_)))))))
   refine Zo (Zd (Zh (Zb (st (Zc rfl (st (Zch rfl rfl (Zg ?_))))))))
   refine Zd ?_
   refine Zw rfl (fun h14 => ?_) (fun h14 => absurd (show 1 < lv by omega) h14)
   refine Zb (st (Zc rfl (st (Zc rfl (st (Zc rfl (st (Za7 rfl rfl om (st (Zp Zx rfl hbi4.range rfl (st (Zp Zx rfl hbi5.range rfl ?_))))))))))))
   refine st (Zc rfl ?_)
   refine st (Zq fn71 rfl (ih (lv := (lv - 1)) om om (by rw [show (lv - 1) = lv - 1 by omega, show (A) = qX x (hf lv) k from hA]; exact pb_kid om hpx) (by rw [show (lv - 1) = lv - 1 by omega, show (B) = qY y (hf lv) k from hB]; exact pb_kidY om hpy) hcby om (by have h9_ := pst_room hst hk.1 om (show hf lv = hf ((f : Int) + 1) by rw [hlv]; rfl) hA hB (show ys = l.filter (qC A B (hf lv)) by rw [hys, List.take_of_length_le om]); omega) hb23 hOi hsi4_1 hsi5_1 ((Own.srcG (Zli 83 n0) hOc hOi dc om (fun g_ h_ e_ => (hOi.ne_own hOc dc).elim (fun h9_ => by rw [h9_] at h_; cases h_) (fun h9_ => h9_ (h_.trans e_.symm)))).weak (fun _ _ h_ => .inr h_))) ?_)
   rintro _ w234 ⟨vo1, rfl, hb217, hO406, hF225⟩
   have hz263 := hb217.size
   have hn2 := (hF225.2 _ hbi3.lt (fun h_ => h_) hnei).2
   have hF226 := hFi.trans hF225
   have hz264 := hF226.1
   refine st (Zc rfl (st (Zad rfl rfl (st (Zad rfl rfl (st (Ze rfl (st (Zn Zav rfl (st (Zbi Zb9 rfl rfl om om (st0 (Zda Za9 rfl rfl (Blk.frm hbi3 hF225 (fun h_ => h_) hnei) om om ?_)))))))))))))
   intro w235 hB18 k231 hs20
   have hb218 := belowa hb217 k231
   have hF227 := hF226.put k231 (by first | exact .inr om | exact .inl (by assumption) | exact .inl (.inl rfl) | exact .inl (.inr rfl) | exact .inl (.inr (.inl rfl)) | exact .inl (.inr (.inr rfl)))
   have hz265 := hF227.1
   have hO407 := Own.keptN Zy hO406 k231 hn2
   refine Zg (Zab (Zd (Zb (st (Zc rfl (st (Zah rfl rfl om (st (Ze rfl ?_)))))))))
   refine Zg ?_
   exact Zac (((k + 1)), ((Zcr f A B ys ok).1), (vo1), ((if k = 0 then (Zcr f A B ys ok).2 else a)), ((if k = 1 then (Zcr f A B ys ok).2 else b)), ((if k = 2 then (Zcr f A B ys ok).2 else c)), ((if k = 3 then (Zcr f A B ys ok).2 else e))) ⟨hb218, by omega, pst_next hst hk.1 (by rw [kid_node (h := hf lv) om (by rw [hlv]; rfl) hA hB (show ys = l.filter (qC A B (hf lv)) by rw [hys, List.take_of_length_le om])]), hO407, hF227, hn2, ((Blk.frm hbi0 hF225 (fun h_ => h_) (hOi.neB hbi0 dc)).gne k231 om), ((Blk.frm hbi1 hF225 (fun h_ => h_) (hOi.neB hbi1 dc)).gne k231 om), ((Blk.frm hbi2 hF225 (fun h_ => h_) (hOi.neB hbi2 dc)).gne k231 om), hB18, ((Sl.ggFrm hsi0_1 hF225 hOi dc om).ggB k231 (Blk.frm hbi3 hF225 (fun h_ => h_) hnei) dc om), ((Sl.ggFrm hsi1_1 hF225 hOi dc om).ggB k231 (Blk.frm hbi3 hF225 (fun h_ => h_) hnei) dc om), ((Sl.ggFrm hsi2_1 hF225 hOi dc om).ggB k231 (Blk.frm hbi3 hF225 (fun h_ => h_) hnei) dc om)⟩ (by dsimp only; omega) sb
  have hlt := h5
  refine Zo (Zd (Zh (Zz (Zh ?_))))
  by_cases h6 : 0 ≤ (Zbt ((ix l i).x) A)
  rotate_left
  ·obtain ⟨b11, o11, _, hat10, ⟨ca11, cb11, rfl, hca11, hcb11, hcs11⟩, hc13, hF177, hlt11⟩ := hli.elem i om om
   replace hca11 := hca11.ofGF
   replace hcb11 := hcb11.ofGF
   refine Zce 42 GN [xi 51 <| va, xi 52 <| .int .i64 i, xi 53 <| .pointer (some ⟨b11, o11, none⟩), xi 54 <| .pointer (some ⟨b11, o11 + 0, none⟩), xi 55 <| .agg [.bool (decide ((ix l i).x < 0)), ca11].toArray, xi 56 <| .agg [.bool (decide (A < 0)), pA].toArray, xi 57 <| .int .i64 (Zbt ((ix l i).x) A), xi 58 <| .bool (decide (0 ≤ (Zbt ((ix l i).x) A))), xi 59 <| .bool false, xu 60, xu 61, xu 62, xu 63, xu 64, xu 65, xu 66, xu 67, xu 68, xu 69, xi 70 <| .bool false, xi 71 <| .bool false, xu 72, xu 73, xu 74, xu 75, xu 76, xu 77, xu 78, xu 79, xi 80 <| .bool false, xi 81 <| .bool false, xu 82, xu 83, xu 84, xu 85, xu 86, xu 87, xu 88, xu 89, xu 90, xu 91, xi 92 <| .bool false] [[], [], [0, 1], [2], [3], [], [4, 5], [6], [7], [8], [8], [8, 9, 10], [8, 11], [8, 12], [8], [8], [8, 14, 15], [8, 13, 16], [8, 17], [8, 18], [19], [20], [20], [20, 21, 22], [20, 23], [20, 24], [20], [20, 25, 26], [20, 27], [20, 28], [29], [30], [30], [30, 31, 32], [30, 33], [30, 34], [30], [30], [30, 36, 37], [30, 35, 38], [30, 39], [30, 40]] [(0, vk), (1, .int .i64 lv), (4, va), (7, (pp g1)), (8, (pp g2)), (10, .slice none 0 0), (11, .int .i64 0), (12, (pp g3)), (13, (pp g4)), (14, .int .i64 k), (15, (pp g8)), (16, (pp g9)), (17, vi), (18, .int .i64 i)] sb kr kr Za gnt ⟨kv, kv, kv, kv, kv, kv, kv, kv, kv, kv, kv, kv, kv, kv, kv, kv, kv, kv, kv, kv, kv, kv, kv, kv, kv, kv, kv, kv, kv, kv, kv, kv, kv, kv, kv, kv, kv, kv, kv, kv, kv, kv, trivial⟩ ?_
   intro w188 k184 hs18
   have hb171 := Zf hb23 k184
   have hF178 := hFi.none k184
   have hz213 := hF178.1
   have hO314 := hOi.g0 k184
   have hO315 := hOc.g0 k184
   refine ⟨⟨?_, ?_, ?_, ?_, ?_, ?_, ?_, ?_, ?_, ?_, ?_, ?_, ?_, ?_, ?_, ?_, ?_, ?_, ?_, ?_, ?_, ?_, ?_, ?_, ?_, ?_, ?_, ?_, ?_, ?_, ?_, ?_, ?_, ?_, ?_, ?_, ?_, ?_, ?_, ?_, ?_, ?_, trivial⟩, ?_⟩
   ·intro w189 k185
    have hF179 := hF178.none k185
    have hz214 := hF179.1
    refine op1 (Zc rfl ?_)
    exact ⟨rfl, Za _⟩
   ·intro w190 k186
    have hF180 := hF178.none k186
    have hz215 := hF180.1
    refine op1 (Zc rfl ?_)
    exact ⟨rfl, Za _⟩
   ·intro w191 k187
    have hF181 := hF178.none k187
    have hz216 := hF181.1
    intro v_ hv_; subst v_
    rintro _ rfl
    refine op1 (Zbo Zct rfl rfl hat10 ?_)
    exact ⟨rfl, Za _⟩
   ·intro w192 k188
    have hF182 := hF178.none k188
    have hz217 := hF182.1
    rintro _ rfl
    refine op1 (Zn Zc4 rfl ?_)
    exact ⟨rfl, Za _⟩
   ·intro w193 k189
    have hF183 := hF178.none k189
    have hz218 := hF183.1
    rintro _ rfl
    refine op1 (Zbf (us := [.bool (decide ((ix l i).x < 0)), ca11]) Zx rfl (Zaj (Zaj hc13 k184) k189) (j := 0) rfl rfl ?_)
    exact ⟨rfl, Za _⟩
   ·intro w194 k190
    have hF184 := hF178.none k190
    have hz219 := hF184.1
    refine op1 (Zp Zx rfl ((hbi4.g0 k184).g0 k190).range rfl ?_)
    exact ⟨rfl, Za _⟩
   ·intro w195 k191
    have hb178 := Zf hb171 k191
    have hF185 := hF178.none k191
    have hz220 := hF185.1
    rintro _ rfl _ rfl
    refine op1 (Zq Zg4 rfl (Zbq (n0 := n0) (Zu hn0 hb178) (Zai rfl ((hca11.gg0 k184).gg0 k191)) (Zai rfl ((hsi4_1.gg0 k184).gg0 k191)) (Bd.le (Zdp hcb om om).1 (show 50 ≤ 90000 by decide)) (Bd.le hbA (show 44 ≤ 90000 by decide))) ?_)
    rintro _ w196 ⟨hq31, rfl⟩
    have k192 := Zi hq31 none
    have hz221 := hq31.size
    have hb179 := Zf hb178 k192
    have hz222 := hb179.size
    have hF186 := hF185.none k192
    have hz223 := hF186.1
    exact ⟨rfl, k192⟩
   ·intro w197 k193
    have hF187 := hF178.none k193
    have hz224 := hF187.1
    rintro _ rfl
    refine op1 (Zg3 rfl rfl ?_)
    exact ⟨rfl, Za _⟩
   ·intro w198 k194
    have hF188 := hF178.none k194
    have hz225 := hF188.1
    rintro _ rfl
    refine op1 (Zc rfl ?_)
    exact ⟨(by rw [decide_eq_false h6]), Za _⟩
   ·intro w199 k195
    have hF189 := hF178.none k195
    have hz226 := hF189.1
    rintro _ rfl
    refine Za0 ⟨rfl, Za _⟩
   ·intro w200 k196
    have hF190 := hF178.none k196
    have hz227 := hF190.1
    rintro _ rfl
    refine Za0 ⟨rfl, Za _⟩
   ·intro w201 k197
    have hF191 := hF178.none k197
    have hz228 := hF191.1
    rintro _ rfl
    intro v_ hv_; subst v_
    intro v_ hv_; subst v_
    refine Za0 ⟨rfl, Za _⟩
   ·intro w202 k198
    have hF192 := hF178.none k198
    have hz229 := hF192.1
    rintro _ rfl
    intro v_ hv_; subst v_
    refine Za0 ⟨rfl, Za _⟩
   ·intro w203 k199
    have hF193 := hF178.none k199
    have hz230 := hF193.1
    rintro _ rfl
    intro v_ hv_; subst v_
    refine Za0 ⟨rfl, Za _⟩
   ·intro w204 k200
    have hF194 := hF178.none k200
    have hz231 := hF194.1
    rintro _ rfl
    refine Za0 ⟨rfl, Za _⟩
   ·intro w205 k201
    have hF195 := hF178.none k201
    have hz232 := hF195.1
    rintro _ rfl
    refine Za0 ⟨rfl, Za _⟩
   ·intro w206 k202
    have hF196 := hF178.none k202
    have hz233 := hF196.1
    rintro _ rfl
    intro v_ hv_; subst v_
    intro v_ hv_; subst v_
    refine Za0 ⟨rfl, Za _⟩
   ·intro w207 k203
    have hF197 := hF178.none k203
    have hz234 := hF197.1
    rintro _ rfl
    intro v_ hv_; subst v_
    intro v_ hv_; subst v_
    refine Za0 ⟨rfl, Za _⟩
   ·intro w208 k204
    have hF198 := hF178.none k204
    have hz235 := hF198.1
    rintro _ rfl
    intro v_ hv_; subst v_
    refine Za0 ⟨rfl, Za _⟩
   ·intro w209 k205
    have hF199 := hF178.none k205
    have hz236 := hF199.1
    rintro _ rfl
    intro v_ hv_; subst v_
    refine op1 (Zr rfl rfl ?_)
    exact ⟨rfl, Za _⟩
   ·intro w210 k206
    have hF200 := hF178.none k206
    have hz237 := hF200.1
    rintro _ rfl
    refine op1 (Zc rfl ?_)
    exact ⟨rfl, Za _⟩
   ·intro w211 k207
    have hF201 := hF178.none k207
    have hz238 := hF201.1
    rintro _ rfl
    refine Za0 ⟨rfl, Za _⟩
   ·intro w212 k208
    have hF202 := hF178.none k208
    have hz239 := hF202.1
    rintro _ rfl
    refine Za0 ⟨rfl, Za _⟩
   ·intro w213 k209
    have hF203 := hF178.none k209
    have hz240 := hF203.1
    rintro _ rfl
    intro v_ hv_; subst v_
    intro v_ hv_; subst v_
    refine Za0 ⟨rfl, Za _⟩
   ·intro w214 k210
    have hF204 := hF178.none k210
    have hz241 := hF204.1
    rintro _ rfl
    intro v_ hv_; subst v_
    refine Za0 ⟨rfl, Za _⟩
   ·intro w215 k211
    have hF205 := hF178.none k211
    have hz242 := hF205.1
    rintro _ rfl
    intro v_ hv_; subst v_
    refine Za0 ⟨rfl, Za _⟩
   ·intro w216 k212
    have hF206 := hF178.none k212
    have hz243 := hF206.1
    rintro _ rfl
    refine Za0 ⟨rfl, Za _⟩
   ·intro w217 k213
    have hF207 := hF178.none k213
    have hz244 := hF207.1
    rintro _ rfl
    intro v_ hv_; subst v_
    intro v_ hv_; subst v_
    refine Za0 ⟨rfl, Za _⟩
   ·intro w218 k214
    have hF208 := hF178.none k214
    have hz245 := hF208.1
    rintro _ rfl
    intro v_ hv_; subst v_
    refine Za0 ⟨rfl, Za _⟩
   ·intro w219 k215
    have hF209 := hF178.none k215
    have hz246 := hF209.1
    rintro _ rfl
    intro v_ hv_; subst v_
    refine op1 (Zr rfl rfl ?_)
    exact ⟨rfl, Za _⟩
   ·intro w220 k216
    have hF210 := hF178.none k216
    have hz247 := hF210.1
    rintro _ rfl
    refine op1 (Zc rfl ?_)
    exact ⟨rfl, Za _⟩
   ·intro w221 k217
    have hF211 := hF178.none k217
    have hz248 := hF211.1
    rintro _ rfl
    refine Za0 ⟨rfl, Za _⟩
   ·intro w222 k218
    have hF212 := hF178.none k218
    have hz249 := hF212.1
    rintro _ rfl
    refine Za0 ⟨rfl, Za _⟩
   ·intro w223 k219
    have hF213 := hF178.none k219
    have hz250 := hF213.1
    rintro _ rfl
    intro v_ hv_; subst v_
    intro v_ hv_; subst v_
    refine Za0 ⟨rfl, Za _⟩
   ·intro w224 k220
    have hF214 := hF178.none k220
    have hz251 := hF214.1
    rintro _ rfl
    intro v_ hv_; subst v_
    refine Za0 ⟨rfl, Za _⟩
   ·intro w225 k221
    have hF215 := hF178.none k221
    have hz252 := hF215.1
    rintro _ rfl
    intro v_ hv_; subst v_
    refine Za0 ⟨rfl, Za _⟩
   ·intro w226 k222
    have hF216 := hF178.none k222
    have hz253 := hF216.1
    rintro _ rfl
    refine Za0 ⟨rfl, Za _⟩
   ·intro w227 k223
    have hF217 := hF178.none k223
    have hz254 := hF217.1
    rintro _ rfl
    refine Za0 ⟨rfl, Za _⟩
   ·intro w228 k224
    have hF218 := hF178.none k224
    have hz255 := hF218.1
    rintro _ rfl
    intro v_ hv_; subst v_
    intro v_ hv_; subst v_
    refine Za0 ⟨rfl, Za _⟩
   ·intro w229 k225
    have hF219 := hF178.none k225
    have hz256 := hF219.1
    rintro _ rfl
    intro v_ hv_; subst v_
    intro v_ hv_; subst v_
    refine Za0 ⟨rfl, Za _⟩
   ·intro w230 k226
    have hF220 := hF178.none k226
    have hz257 := hF220.1
    rintro _ rfl
    intro v_ hv_; subst v_
    refine Za0 ⟨rfl, Za _⟩
   ·intro w231 k227
    have hF221 := hF178.none k227
    have hz258 := hF221.1
    rintro _ rfl
    intro v_ hv_; subst v_
    refine op1 (Zr rfl rfl ?_)
    exact ⟨rfl, Za _⟩
   intro w232 k228
   have hb215 := Zf hb171 k228
   have hF222 := hF178.none k228
   have hz259 := hF222.1
   have hO402 := hO314.g0 k228
   have hO403 := hO315.g0 k228
   have hz260 := k184.size
   have hz261 := k228.size
   intro v_ hv_; subst v_
   rintro _ rfl _ rfl _ rfl _ rfl _ rfl _ rfl _ rfl _ rfl
   intro v_ hv_; subst v_
   intro v_ hv_; subst v_
   intro v_ hv_; subst v_
   intro v_ hv_; subst v_
   intro v_ hv_; subst v_
   intro v_ hv_; subst v_
   intro v_ hv_; subst v_
   intro v_ hv_; subst v_
   intro v_ hv_; subst v_
   intro v_ hv_; subst v_
   rintro _ rfl _ rfl
   intro v_ hv_; subst v_
   intro v_ hv_; subst v_
   intro v_ hv_; subst v_
   intro v_ hv_; subst v_
   intro v_ hv_; subst v_
   intro v_ hv_; subst v_
   intro v_ hv_; subst v_
   intro v_ hv_; subst v_
   rintro _ rfl _ rfl
   intro v_ hv_; subst v_
   intro v_ hv_; subst v_
   intro v_ hv_; subst v_
   intro v_ hv_; subst v_
   intro v_ hv_; subst v_
   intro v_ hv_; subst v_
   intro v_ hv_; subst v_
   intro v_ hv_; subst v_
   intro v_ hv_; subst v_
   intro v_ hv_; subst v_
   rintro _ rfl
   refine Zg (Zd (Zbv rfl (Zo (Zab (Zd (Zb ?_))))))
   refine st (Zc rfl (st (Zah rfl rfl om (st (Ze rfl (Zg ?_))))))
   exact Zac (((i + 1)), (vi), (ys)) ⟨hb215, by omega, hO402, hO403, qf_no hi.1 hlt hys (fun hq_ => by have h5_ := Zbj.2 hq_.1; have h6_ := Zb7.2 hq_.2.1; have h7_ := Zbj.2 hq_.2.2.1; have h8_ := Zb7.2 hq_.2.2.2; omega), hF222, hnei, ((hbi0.g0 k184).g0 k228), ((hbi1.g0 k184).g0 k228), ((hbi2.g0 k184).g0 k228), ((hbi3.g0 k184).g0 k228), ((hbi4.g0 k184).g0 k228), ((hbi5.g0 k184).g0 k228), ((hsi0_1.gg0 k184).gg0 k228), ((hsi1_1.gg0 k184).gg0 k228), ((hsi2_1.gg0 k184).gg0 k228), ((hsi4_1.gg0 k184).gg0 k228), ((hsi5_1.gg0 k184).gg0 k228)⟩ (by dsimp only; omega) sb
  by_cases h7 : (Zbt ((ix l i).x) (A + (hf lv))) < 0
  rotate_left
  ·obtain ⟨b9, o9, _, hat8, ⟨ca9, cb9, rfl, hca9, hcb9, hcs9⟩, hc11, hF128, hlt9⟩ := hli.elem i om om
   replace hca9 := hca9.ofGF
   replace hcb9 := hcb9.ofGF
   obtain ⟨b10, o10, _, hat9, ⟨ca10, cb10, rfl, hca10, hcb10, hcs10⟩, hc12, hF129, hlt10⟩ := hli.elem i om om
   replace hca10 := hca10.ofGF
   replace hcb10 := hcb10.ofGF
   refine Zce 42 GN [xi 51 <| va, xi 52 <| .int .i64 i, xi 53 <| .pointer (some ⟨b9, o9, none⟩), xi 54 <| .pointer (some ⟨b9, o9 + 0, none⟩), xi 55 <| .agg [.bool (decide ((ix l i).x < 0)), ca9].toArray, xi 56 <| .agg [.bool (decide (A < 0)), pA].toArray, xi 57 <| .int .i64 (Zbt ((ix l i).x) A), xi 58 <| .bool (decide (0 ≤ (Zbt ((ix l i).x) A))), xi 59 <| .bool true, xi 60 <| va, xi 61 <| .int .i64 i, xi 62 <| .pointer (some ⟨b10, o10, none⟩), xi 63 <| .pointer (some ⟨b10, o10 + 0, none⟩), xi 64 <| .agg [.bool (decide ((ix l i).x < 0)), ca10].toArray, xi 65 <| .agg [.bool (decide (A < 0)), pA].toArray, xi 66 <| .agg [.bool (decide ((hf lv) < 0)), v1].toArray, (some 67, fun v W => Zbw 83 n0 W v ((A + (hf lv)))), xi 68 <| .int .i64 (Zbt ((ix l i).x) (A + (hf lv))), xi 69 <| .bool (decide ((Zbt ((ix l i).x) (A + (hf lv))) < 0)), xi 70 <| .bool (decide ((Zbt ((ix l i).x) (A + (hf lv))) < 0)), xi 71 <| .bool false, xu 72, xu 73, xu 74, xu 75, xu 76, xu 77, xu 78, xu 79, xi 80 <| .bool false, xi 81 <| .bool false, xu 82, xu 83, xu 84, xu 85, xu 86, xu 87, xu 88, xu 89, xu 90, xu 91, xi 92 <| .bool false] [[], [], [0, 1], [2], [3], [], [4, 5], [6], [7], [8], [8], [8, 9, 10], [8, 11], [8, 12], [8], [8], [8, 14, 15], [8, 13, 16], [8, 17], [8, 18], [19], [20], [20], [20, 21, 22], [20, 23], [20, 24], [20], [20, 25, 26], [20, 27], [20, 28], [29], [30], [30], [30, 31, 32], [30, 33], [30, 34], [30], [30], [30, 36, 37], [30, 35, 38], [30, 39], [30, 40]] [(0, vk), (1, .int .i64 lv), (4, va), (7, (pp g1)), (8, (pp g2)), (10, .slice none 0 0), (11, .int .i64 0), (12, (pp g3)), (13, (pp g4)), (14, .int .i64 k), (15, (pp g8)), (16, (pp g9)), (17, vi), (18, .int .i64 i)] sb kr kr Za gnt ⟨kv, kv, kv, kv, kv, kv, kv, kv, kv, kv, kv, kv, kv, kv, kv, kv, fun _ _ _ h k => h.g0 k, kv, kv, kv, kv, kv, kv, kv, kv, kv, kv, kv, kv, kv, kv, kv, kv, kv, kv, kv, kv, kv, kv, kv, kv, kv, trivial⟩ ?_
   intro w140 k136 hs17
   have hb124 := Zf hb23 k136
   have hF130 := hFi.none k136
   have hz158 := hF130.1
   have hO220 := hOi.g0 k136
   have hO221 := hOc.g0 k136
   refine ⟨⟨?_, ?_, ?_, ?_, ?_, ?_, ?_, ?_, ?_, ?_, ?_, ?_, ?_, ?_, ?_, ?_, ?_, ?_, ?_, ?_, ?_, ?_, ?_, ?_, ?_, ?_, ?_, ?_, ?_, ?_, ?_, ?_, ?_, ?_, ?_, ?_, ?_, ?_, ?_, ?_, ?_, ?_, trivial⟩, ?_⟩
   ·intro w141 k137
    have hF131 := hF130.none k137
    have hz159 := hF131.1
    refine op1 (Zc rfl ?_)
    exact ⟨rfl, Za _⟩
   ·intro w142 k138
    have hF132 := hF130.none k138
    have hz160 := hF132.1
    refine op1 (Zc rfl ?_)
    exact ⟨rfl, Za _⟩
   ·intro w143 k139
    have hF133 := hF130.none k139
    have hz161 := hF133.1
    intro v_ hv_; subst v_
    rintro _ rfl
    refine op1 (Zbo Zct rfl rfl hat8 ?_)
    exact ⟨rfl, Za _⟩
   ·intro w144 k140
    have hF134 := hF130.none k140
    have hz162 := hF134.1
    rintro _ rfl
    refine op1 (Zn Zc4 rfl ?_)
    exact ⟨rfl, Za _⟩
   ·intro w145 k141
    have hF135 := hF130.none k141
    have hz163 := hF135.1
    rintro _ rfl
    refine op1 (Zbf (us := [.bool (decide ((ix l i).x < 0)), ca9]) Zx rfl (Zaj (Zaj hc11 k136) k141) (j := 0) rfl rfl ?_)
    exact ⟨rfl, Za _⟩
   ·intro w146 k142
    have hF136 := hF130.none k142
    have hz164 := hF136.1
    refine op1 (Zp Zx rfl ((hbi4.g0 k136).g0 k142).range rfl ?_)
    exact ⟨rfl, Za _⟩
   ·intro w147 k143
    have hb131 := Zf hb124 k143
    have hF137 := hF130.none k143
    have hz165 := hF137.1
    rintro _ rfl _ rfl
    refine op1 (Zq Zg4 rfl (Zbq (n0 := n0) (Zu hn0 hb131) (Zai rfl ((hca9.gg0 k136).gg0 k143)) (Zai rfl ((hsi4_1.gg0 k136).gg0 k143)) (Bd.le (Zdp hcb om om).1 (show 50 ≤ 90000 by decide)) (Bd.le hbA (show 44 ≤ 90000 by decide))) ?_)
    rintro _ w148 ⟨hq27, rfl⟩
    have k144 := Zi hq27 none
    have hz166 := hq27.size
    have hb132 := Zf hb131 k144
    have hz167 := hb132.size
    have hF138 := hF137.none k144
    have hz168 := hF138.1
    exact ⟨rfl, k144⟩
   ·intro w149 k145
    have hF139 := hF130.none k145
    have hz169 := hF139.1
    rintro _ rfl
    refine op1 (Zg3 rfl rfl ?_)
    exact ⟨rfl, Za _⟩
   ·intro w150 k146
    have hF140 := hF130.none k146
    have hz170 := hF140.1
    rintro _ rfl
    refine op1 (Zc rfl ?_)
    exact ⟨(by rw [decide_eq_true h6]), Za _⟩
   ·intro w151 k147
    have hF141 := hF130.none k147
    have hz171 := hF141.1
    rintro _ rfl
    refine Zas (Zc rfl ?_)
    exact ⟨rfl, Za _⟩
   ·intro w152 k148
    have hF142 := hF130.none k148
    have hz172 := hF142.1
    rintro _ rfl
    refine Zas (Zc rfl ?_)
    exact ⟨rfl, Za _⟩
   ·intro w153 k149
    have hF143 := hF130.none k149
    have hz173 := hF143.1
    rintro _ rfl
    intro v_ hv_; subst v_
    rintro _ rfl
    refine Zas (Zbo Zct rfl rfl hat9 ?_)
    exact ⟨rfl, Za _⟩
   ·intro w154 k150
    have hF144 := hF130.none k150
    have hz174 := hF144.1
    rintro _ rfl _ rfl
    refine Zas (Zn Zc4 rfl ?_)
    exact ⟨rfl, Za _⟩
   ·intro w155 k151
    have hF145 := hF130.none k151
    have hz175 := hF145.1
    rintro _ rfl _ rfl
    refine Zas (Zbf (us := [.bool (decide ((ix l i).x < 0)), ca10]) Zx rfl (Zaj (Zaj hc12 k136) k151) (j := 0) rfl rfl ?_)
    exact ⟨rfl, Za _⟩
   ·intro w156 k152
    have hF146 := hF130.none k152
    have hz176 := hF146.1
    rintro _ rfl
    refine Zas (Zp Zx rfl ((hbi4.g0 k136).g0 k152).range rfl ?_)
    exact ⟨rfl, Za _⟩
   ·intro w157 k153
    have hF147 := hF130.none k153
    have hz177 := hF147.1
    rintro _ rfl
    refine Zas (Zp Zx rfl ((hbi2.g0 k136).g0 k153).range rfl ?_)
    exact ⟨rfl, Za _⟩
   ·intro w158 k154
    have hb142 := Zf hb124 k154
    have hF148 := hF130.none k154
    have hz178 := hF148.1
    rintro _ rfl _ rfl _ rfl
    refine Zas (Zq fn22 rfl (Zdn (n0 := n0) (Zu hn0 hb142) (Zai rfl ((hsi4_1.gg0 k136).gg0 k154)) (Zai rfl ((hsi2_1.gg0 k136).gg0 k154)) (Bd.le hbA (show 44 ≤ 90000 by decide)) (Bd.le (Zci hlvr.2) (show 42 ≤ 90000 by decide))) ?_)
    rintro _ w159 ⟨hq28, v19, rfl, hS18⟩
    have k155 := Zi hq28 none
    have hz179 := hq28.size
    have hb143 := Zf hb142 k155
    have hz180 := hb143.size
    have hF149 := hF148.none k155
    have hz181 := hF149.1
    exact ⟨⟨_, rfl, hS18⟩, k155⟩
   ·intro w160 k156
    have hb144 := Zf hb124 k156
    have hF150 := hF130.none k156
    have hz182 := hF150.1
    rintro _ rfl _ rfl _ ⟨v20, rfl, hS19⟩
    refine Zas (Zq Zg4 rfl (Zbq (n0 := n0) (Zu hn0 hb144) (Zai rfl ((hca10.gg0 k136).gg0 k156)) (Zai rfl hS19) (Bd.le (Zdp hcb om om).1 (show 50 ≤ 90000 by decide)) (Bd.le (Zfn hbA (Zci hlvr.2) (show 44 < 45 by decide) (show 42 < 45 by decide)) (show 45 ≤ 90000 by decide))) ?_)
    rintro _ w161 ⟨hq29, rfl⟩
    have k157 := Zi hq29 none
    have hz183 := hq29.size
    have hb145 := Zf hb144 k157
    have hz184 := hb145.size
    have hF151 := hF150.none k157
    have hz185 := hF151.1
    exact ⟨rfl, k157⟩
   ·intro w162 k158
    have hF152 := hF130.none k158
    have hz186 := hF152.1
    rintro _ rfl _ rfl
    refine Zas (Zbd rfl rfl ?_)
    exact ⟨rfl, Za _⟩
   ·intro w163 k159
    have hF153 := hF130.none k159
    have hz187 := hF153.1
    rintro _ rfl _ rfl
    refine op1 (Zr rfl rfl ?_)
    exact ⟨rfl, Za _⟩
   ·intro w164 k160
    have hF154 := hF130.none k160
    have hz188 := hF154.1
    rintro _ rfl
    refine op1 (Zc rfl ?_)
    exact ⟨(by rw [decide_eq_false h7]), Za _⟩
   ·intro w165 k161
    have hF155 := hF130.none k161
    have hz189 := hF155.1
    rintro _ rfl
    refine Za0 ⟨rfl, Za _⟩
   ·intro w166 k162
    have hF156 := hF130.none k162
    have hz190 := hF156.1
    rintro _ rfl
    refine Za0 ⟨rfl, Za _⟩
   ·intro w167 k163
    have hF157 := hF130.none k163
    have hz191 := hF157.1
    rintro _ rfl
    intro v_ hv_; subst v_
    intro v_ hv_; subst v_
    refine Za0 ⟨rfl, Za _⟩
   ·intro w168 k164
    have hF158 := hF130.none k164
    have hz192 := hF158.1
    rintro _ rfl
    intro v_ hv_; subst v_
    refine Za0 ⟨rfl, Za _⟩
   ·intro w169 k165
    have hF159 := hF130.none k165
    have hz193 := hF159.1
    rintro _ rfl
    intro v_ hv_; subst v_
    refine Za0 ⟨rfl, Za _⟩
   ·intro w170 k166
    have hF160 := hF130.none k166
    have hz194 := hF160.1
    rintro _ rfl
    refine Za0 ⟨rfl, Za _⟩
   ·intro w171 k167
    have hF161 := hF130.none k167
    have hz195 := hF161.1
    rintro _ rfl
    intro v_ hv_; subst v_
    intro v_ hv_; subst v_
    refine Za0 ⟨rfl, Za _⟩
   ·intro w172 k168
    have hF162 := hF130.none k168
    have hz196 := hF162.1
    rintro _ rfl
    intro v_ hv_; subst v_
    refine Za0 ⟨rfl, Za _⟩
   ·intro w173 k169
    have hF163 := hF130.none k169
    have hz197 := hF163.1
    rintro _ rfl
    intro v_ hv_; subst v_
    refine op1 (Zr rfl rfl ?_)
    exact ⟨rfl, Za _⟩
   ·intro w174 k170
    have hF164 := hF130.none k170
    have hz198 := hF164.1
    rintro _ rfl
    refine op1 (Zc rfl ?_)
    exact ⟨rfl, Za _⟩
   ·intro w175 k171
    have hF165 := hF130.none k171
    have hz199 := hF165.1
    rintro _ rfl
    refine Za0 ⟨rfl, Za _⟩
   ·intro w176 k172
    have hF166 := hF130.none k172
    have hz200 := hF166.1
    rintro _ rfl
    refine Za0 ⟨rfl, Za _⟩
   ·intro w177 k173
    have hF167 := hF130.none k173
    have hz201 := hF167.1
    rintro _ rfl
    intro v_ hv_; subst v_
    intro v_ hv_; subst v_
    refine Za0 ⟨rfl, Za _⟩
   ·intro w178 k174
    have hF168 := hF130.none k174
    have hz202 := hF168.1
    rintro _ rfl
    intro v_ hv_; subst v_
    refine Za0 ⟨rfl, Za _⟩
   ·intro w179 k175
    have hF169 := hF130.none k175
    have hz203 := hF169.1
    rintro _ rfl
    intro v_ hv_; subst v_
    refine Za0 ⟨rfl, Za _⟩
   ·intro w180 k176
    have hF170 := hF130.none k176
    have hz204 := hF170.1
    rintro _ rfl
    refine Za0 ⟨rfl, Za _⟩
   ·intro w181 k177
    have hF171 := hF130.none k177
    have hz205 := hF171.1
    rintro _ rfl
    refine Za0 ⟨rfl, Za _⟩
   ·intro w182 k178
    have hF172 := hF130.none k178
    have hz206 := hF172.1
    rintro _ rfl
    intro v_ hv_; subst v_
    intro v_ hv_; subst v_
    refine Za0 ⟨rfl, Za _⟩
   ·intro w183 k179
    have hF173 := hF130.none k179
    have hz207 := hF173.1
    rintro _ rfl
    intro v_ hv_; subst v_
    intro v_ hv_; subst v_
    refine Za0 ⟨rfl, Za _⟩
   ·intro w184 k180
    have hF174 := hF130.none k180
    have hz208 := hF174.1
    rintro _ rfl
    intro v_ hv_; subst v_
    refine Za0 ⟨rfl, Za _⟩
   ·intro w185 k181
    have hF175 := hF130.none k181
    have hz209 := hF175.1
    rintro _ rfl
    intro v_ hv_; subst v_
    refine op1 (Zr rfl rfl ?_)
    exact ⟨rfl, Za _⟩
   intro w186 k182
   have hb170 := Zf hb124 k182
   have hF176 := hF130.none k182
   have hz210 := hF176.1
   have hO312 := hO220.g0 k182
   have hO313 := hO221.g0 k182
   have hz211 := k136.size
   have hz212 := k182.size
   intro v_ hv_; subst v_
   rintro _ rfl _ rfl _ rfl _ rfl _ rfl _ rfl _ rfl _ rfl
   intro v_ hv_; subst v_
   rintro _ rfl _ rfl _ rfl _ rfl _ rfl _ rfl _ ⟨v21, rfl, hS20⟩ _ rfl _ rfl _ rfl _ rfl
   intro v_ hv_; subst v_
   intro v_ hv_; subst v_
   intro v_ hv_; subst v_
   intro v_ hv_; subst v_
   intro v_ hv_; subst v_
   intro v_ hv_; subst v_
   intro v_ hv_; subst v_
   intro v_ hv_; subst v_
   rintro _ rfl _ rfl
   intro v_ hv_; subst v_
   intro v_ hv_; subst v_
   intro v_ hv_; subst v_
   intro v_ hv_; subst v_
   intro v_ hv_; subst v_
   intro v_ hv_; subst v_
   intro v_ hv_; subst v_
   intro v_ hv_; subst v_
   intro v_ hv_; subst v_
   intro v_ hv_; subst v_
   rintro _ rfl
   refine Zg (Zd (Zbv rfl (Zo (Zab (Zd (Zb ?_))))))
   refine st (Zc rfl (st (Zah rfl rfl om (st (Ze rfl (Zg ?_))))))
   exact Zac (((i + 1)), (vi), (ys)) ⟨hb170, by omega, hO312, hO313, qf_no hi.1 hlt hys (fun hq_ => by have h5_ := Zbj.2 hq_.1; have h6_ := Zb7.2 hq_.2.1; have h7_ := Zbj.2 hq_.2.2.1; have h8_ := Zb7.2 hq_.2.2.2; omega), hF176, hnei, ((hbi0.g0 k136).g0 k182), ((hbi1.g0 k136).g0 k182), ((hbi2.g0 k136).g0 k182), ((hbi3.g0 k136).g0 k182), ((hbi4.g0 k136).g0 k182), ((hbi5.g0 k136).g0 k182), ((hsi0_1.gg0 k136).gg0 k182), ((hsi1_1.gg0 k136).gg0 k182), ((hsi2_1.gg0 k136).gg0 k182), ((hsi4_1.gg0 k136).gg0 k182), ((hsi5_1.gg0 k136).gg0 k182)⟩ (by dsimp only; omega) sb
  by_cases h8 : 0 ≤ (Zbt ((ix l i).y) B)
  rotate_left
  ·obtain ⟨b6, o6, _, hat5, ⟨ca6, cb6, rfl, hca6, hcb6, hcs6⟩, hc8, hF77, hlt6⟩ := hli.elem i om om
   replace hca6 := hca6.ofGF
   replace hcb6 := hcb6.ofGF
   obtain ⟨b7, o7, _, hat6, ⟨ca7, cb7, rfl, hca7, hcb7, hcs7⟩, hc9, hF78, hlt7⟩ := hli.elem i om om
   replace hca7 := hca7.ofGF
   replace hcb7 := hcb7.ofGF
   obtain ⟨b8, o8, _, hat7, ⟨ca8, cb8, rfl, hca8, hcb8, hcs8⟩, hc10, hF79, hlt8⟩ := hli.elem i om om
   replace hca8 := hca8.ofGF
   replace hcb8 := hcb8.ofGF
   refine Zce 42 GN [xi 51 <| va, xi 52 <| .int .i64 i, xi 53 <| .pointer (some ⟨b6, o6, none⟩), xi 54 <| .pointer (some ⟨b6, o6 + 0, none⟩), xi 55 <| .agg [.bool (decide ((ix l i).x < 0)), ca6].toArray, xi 56 <| .agg [.bool (decide (A < 0)), pA].toArray, xi 57 <| .int .i64 (Zbt ((ix l i).x) A), xi 58 <| .bool (decide (0 ≤ (Zbt ((ix l i).x) A))), xi 59 <| .bool true, xi 60 <| va, xi 61 <| .int .i64 i, xi 62 <| .pointer (some ⟨b7, o7, none⟩), xi 63 <| .pointer (some ⟨b7, o7 + 0, none⟩), xi 64 <| .agg [.bool (decide ((ix l i).x < 0)), ca7].toArray, xi 65 <| .agg [.bool (decide (A < 0)), pA].toArray, xi 66 <| .agg [.bool (decide ((hf lv) < 0)), v1].toArray, (some 67, fun v W => Zbw 83 n0 W v ((A + (hf lv)))), xi 68 <| .int .i64 (Zbt ((ix l i).x) (A + (hf lv))), xi 69 <| .bool (decide ((Zbt ((ix l i).x) (A + (hf lv))) < 0)), xi 70 <| .bool (decide ((Zbt ((ix l i).x) (A + (hf lv))) < 0)), xi 71 <| .bool true, xi 72 <| va, xi 73 <| .int .i64 i, xi 74 <| .pointer (some ⟨b8, o8, none⟩), xi 75 <| .pointer (some ⟨b8, o8 + 2, none⟩), xi 76 <| .agg [.bool (decide ((ix l i).y < 0)), cb8].toArray, xi 77 <| .agg [.bool (decide (B < 0)), pB].toArray, xi 78 <| .int .i64 (Zbt ((ix l i).y) B), xi 79 <| .bool (decide (0 ≤ (Zbt ((ix l i).y) B))), xi 80 <| .bool (decide (0 ≤ (Zbt ((ix l i).y) B))), xi 81 <| .bool false, xu 82, xu 83, xu 84, xu 85, xu 86, xu 87, xu 88, xu 89, xu 90, xu 91, xi 92 <| .bool false] [[], [], [0, 1], [2], [3], [], [4, 5], [6], [7], [8], [8], [8, 9, 10], [8, 11], [8, 12], [8], [8], [8, 14, 15], [8, 13, 16], [8, 17], [8, 18], [19], [20], [20], [20, 21, 22], [20, 23], [20, 24], [20], [20, 25, 26], [20, 27], [20, 28], [29], [30], [30], [30, 31, 32], [30, 33], [30, 34], [30], [30], [30, 36, 37], [30, 35, 38], [30, 39], [30, 40]] [(0, vk), (1, .int .i64 lv), (4, va), (7, (pp g1)), (8, (pp g2)), (10, .slice none 0 0), (11, .int .i64 0), (12, (pp g3)), (13, (pp g4)), (14, .int .i64 k), (15, (pp g8)), (16, (pp g9)), (17, vi), (18, .int .i64 i)] sb kr kr Za gnt ⟨kv, kv, kv, kv, kv, kv, kv, kv, kv, kv, kv, kv, kv, kv, kv, kv, fun _ _ _ h k => h.g0 k, kv, kv, kv, kv, kv, kv, kv, kv, kv, kv, kv, kv, kv, kv, kv, kv, kv, kv, kv, kv, kv, kv, kv, kv, kv, trivial⟩ ?_
   intro w89 k85 hs16
   have hb76 := Zf hb23 k85
   have hF80 := hFi.none k85
   have hz100 := hF80.1
   have hO124 := hOi.g0 k85
   have hO125 := hOc.g0 k85
   refine ⟨⟨?_, ?_, ?_, ?_, ?_, ?_, ?_, ?_, ?_, ?_, ?_, ?_, ?_, ?_, ?_, ?_, ?_, ?_, ?_, ?_, ?_, ?_, ?_, ?_, ?_, ?_, ?_, ?_, ?_, ?_, ?_, ?_, ?_, ?_, ?_, ?_, ?_, ?_, ?_, ?_, ?_, ?_, trivial⟩, ?_⟩
   ·intro w90 k86
    have hF81 := hF80.none k86
    have hz101 := hF81.1
    refine op1 (Zc rfl ?_)
    exact ⟨rfl, Za _⟩
   ·intro w91 k87
    have hF82 := hF80.none k87
    have hz102 := hF82.1
    refine op1 (Zc rfl ?_)
    exact ⟨rfl, Za _⟩
   ·intro w92 k88
    have hF83 := hF80.none k88
    have hz103 := hF83.1
    intro v_ hv_; subst v_
    rintro _ rfl
    refine op1 (Zbo Zct rfl rfl hat5 ?_)
    exact ⟨rfl, Za _⟩
   ·intro w93 k89
    have hF84 := hF80.none k89
    have hz104 := hF84.1
    rintro _ rfl
    refine op1 (Zn Zc4 rfl ?_)
    exact ⟨rfl, Za _⟩
   ·intro w94 k90
    have hF85 := hF80.none k90
    have hz105 := hF85.1
    rintro _ rfl
    refine op1 (Zbf (us := [.bool (decide ((ix l i).x < 0)), ca6]) Zx rfl (Zaj (Zaj hc8 k85) k90) (j := 0) rfl rfl ?_)
    exact ⟨rfl, Za _⟩
   ·intro w95 k91
    have hF86 := hF80.none k91
    have hz106 := hF86.1
    refine op1 (Zp Zx rfl ((hbi4.g0 k85).g0 k91).range rfl ?_)
    exact ⟨rfl, Za _⟩
   ·intro w96 k92
    have hb83 := Zf hb76 k92
    have hF87 := hF80.none k92
    have hz107 := hF87.1
    rintro _ rfl _ rfl
    refine op1 (Zq Zg4 rfl (Zbq (n0 := n0) (Zu hn0 hb83) (Zai rfl ((hca6.gg0 k85).gg0 k92)) (Zai rfl ((hsi4_1.gg0 k85).gg0 k92)) (Bd.le (Zdp hcb om om).1 (show 50 ≤ 90000 by decide)) (Bd.le hbA (show 44 ≤ 90000 by decide))) ?_)
    rintro _ w97 ⟨hq20, rfl⟩
    have k93 := Zi hq20 none
    have hz108 := hq20.size
    have hb84 := Zf hb83 k93
    have hz109 := hb84.size
    have hF88 := hF87.none k93
    have hz110 := hF88.1
    exact ⟨rfl, k93⟩
   ·intro w98 k94
    have hF89 := hF80.none k94
    have hz111 := hF89.1
    rintro _ rfl
    refine op1 (Zg3 rfl rfl ?_)
    exact ⟨rfl, Za _⟩
   ·intro w99 k95
    have hF90 := hF80.none k95
    have hz112 := hF90.1
    rintro _ rfl
    refine op1 (Zc rfl ?_)
    exact ⟨(by rw [decide_eq_true h6]), Za _⟩
   ·intro w100 k96
    have hF91 := hF80.none k96
    have hz113 := hF91.1
    rintro _ rfl
    refine Zas (Zc rfl ?_)
    exact ⟨rfl, Za _⟩
   ·intro w101 k97
    have hF92 := hF80.none k97
    have hz114 := hF92.1
    rintro _ rfl
    refine Zas (Zc rfl ?_)
    exact ⟨rfl, Za _⟩
   ·intro w102 k98
    have hF93 := hF80.none k98
    have hz115 := hF93.1
    rintro _ rfl
    intro v_ hv_; subst v_
    rintro _ rfl
    refine Zas (Zbo Zct rfl rfl hat6 ?_)
    exact ⟨rfl, Za _⟩
   ·intro w103 k99
    have hF94 := hF80.none k99
    have hz116 := hF94.1
    rintro _ rfl _ rfl
    refine Zas (Zn Zc4 rfl ?_)
    exact ⟨rfl, Za _⟩
   ·intro w104 k100
    have hF95 := hF80.none k100
    have hz117 := hF95.1
    rintro _ rfl _ rfl
    refine Zas (Zbf (us := [.bool (decide ((ix l i).x < 0)), ca7]) Zx rfl (Zaj (Zaj hc9 k85) k100) (j := 0) rfl rfl ?_)
    exact ⟨rfl, Za _⟩
   ·intro w105 k101
    have hF96 := hF80.none k101
    have hz118 := hF96.1
    rintro _ rfl
    refine Zas (Zp Zx rfl ((hbi4.g0 k85).g0 k101).range rfl ?_)
    exact ⟨rfl, Za _⟩
   ·intro w106 k102
    have hF97 := hF80.none k102
    have hz119 := hF97.1
    rintro _ rfl
    refine Zas (Zp Zx rfl ((hbi2.g0 k85).g0 k102).range rfl ?_)
    exact ⟨rfl, Za _⟩
   ·intro w107 k103
    have hb94 := Zf hb76 k103
    have hF98 := hF80.none k103
    have hz120 := hF98.1
    rintro _ rfl _ rfl _ rfl
    refine Zas (Zq fn22 rfl (Zdn (n0 := n0) (Zu hn0 hb94) (Zai rfl ((hsi4_1.gg0 k85).gg0 k103)) (Zai rfl ((hsi2_1.gg0 k85).gg0 k103)) (Bd.le hbA (show 44 ≤ 90000 by decide)) (Bd.le (Zci hlvr.2) (show 42 ≤ 90000 by decide))) ?_)
    rintro _ w108 ⟨hq21, v15, rfl, hS14⟩
    have k104 := Zi hq21 none
    have hz121 := hq21.size
    have hb95 := Zf hb94 k104
    have hz122 := hb95.size
    have hF99 := hF98.none k104
    have hz123 := hF99.1
    exact ⟨⟨_, rfl, hS14⟩, k104⟩
   ·intro w109 k105
    have hb96 := Zf hb76 k105
    have hF100 := hF80.none k105
    have hz124 := hF100.1
    rintro _ rfl _ rfl _ ⟨v16, rfl, hS15⟩
    refine Zas (Zq Zg4 rfl (Zbq (n0 := n0) (Zu hn0 hb96) (Zai rfl ((hca7.gg0 k85).gg0 k105)) (Zai rfl hS15) (Bd.le (Zdp hcb om om).1 (show 50 ≤ 90000 by decide)) (Bd.le (Zfn hbA (Zci hlvr.2) (show 44 < 45 by decide) (show 42 < 45 by decide)) (show 45 ≤ 90000 by decide))) ?_)
    rintro _ w110 ⟨hq22, rfl⟩
    have k106 := Zi hq22 none
    have hz125 := hq22.size
    have hb97 := Zf hb96 k106
    have hz126 := hb97.size
    have hF101 := hF100.none k106
    have hz127 := hF101.1
    exact ⟨rfl, k106⟩
   ·intro w111 k107
    have hF102 := hF80.none k107
    have hz128 := hF102.1
    rintro _ rfl _ rfl
    refine Zas (Zbd rfl rfl ?_)
    exact ⟨rfl, Za _⟩
   ·intro w112 k108
    have hF103 := hF80.none k108
    have hz129 := hF103.1
    rintro _ rfl _ rfl
    refine op1 (Zr rfl rfl ?_)
    exact ⟨rfl, Za _⟩
   ·intro w113 k109
    have hF104 := hF80.none k109
    have hz130 := hF104.1
    rintro _ rfl
    refine op1 (Zc rfl ?_)
    exact ⟨(by rw [decide_eq_true h7]), Za _⟩
   ·intro w114 k110
    have hF105 := hF80.none k110
    have hz131 := hF105.1
    rintro _ rfl
    refine Zas (Zc rfl ?_)
    exact ⟨rfl, Za _⟩
   ·intro w115 k111
    have hF106 := hF80.none k111
    have hz132 := hF106.1
    rintro _ rfl
    refine Zas (Zc rfl ?_)
    exact ⟨rfl, Za _⟩
   ·intro w116 k112
    have hF107 := hF80.none k112
    have hz133 := hF107.1
    rintro _ rfl
    intro v_ hv_; subst v_
    rintro _ rfl
    refine Zas (Zbo Zct rfl rfl hat7 ?_)
    exact ⟨rfl, Za _⟩
   ·intro w117 k113
    have hF108 := hF80.none k113
    have hz134 := hF108.1
    rintro _ rfl _ rfl
    refine Zas (Zn Zd0 rfl ?_)
    exact ⟨rfl, Za _⟩
   ·intro w118 k114
    have hF109 := hF80.none k114
    have hz135 := hF109.1
    rintro _ rfl _ rfl
    refine Zas (Zbf (us := [.bool (decide ((ix l i).y < 0)), cb8]) Zx rfl (Zaj (Zaj hc10 k85) k114) (j := 2) rfl rfl ?_)
    exact ⟨rfl, Za _⟩
   ·intro w119 k115
    have hF110 := hF80.none k115
    have hz136 := hF110.1
    rintro _ rfl
    refine Zas (Zp Zx rfl ((hbi5.g0 k85).g0 k115).range rfl ?_)
    exact ⟨rfl, Za _⟩
   ·intro w120 k116
    have hb107 := Zf hb76 k116
    have hF111 := hF80.none k116
    have hz137 := hF111.1
    rintro _ rfl _ rfl _ rfl
    refine Zas (Zq Zg4 rfl (Zbq (n0 := n0) (Zu hn0 hb107) (Zai rfl ((hcb8.gg0 k85).gg0 k116)) (Zai rfl ((hsi5_1.gg0 k85).gg0 k116)) (Bd.le (Zdp hcb om om).2 (show 50 ≤ 90000 by decide)) (Bd.le hbB (show 44 ≤ 90000 by decide))) ?_)
    rintro _ w121 ⟨hq23, rfl⟩
    have k117 := Zi hq23 none
    have hz138 := hq23.size
    have hb108 := Zf hb107 k117
    have hz139 := hb108.size
    have hF112 := hF111.none k117
    have hz140 := hF112.1
    exact ⟨rfl, k117⟩
   ·intro w122 k118
    have hF113 := hF80.none k118
    have hz141 := hF113.1
    rintro _ rfl _ rfl
    refine Zas (Zg3 rfl rfl ?_)
    exact ⟨rfl, Za _⟩
   ·intro w123 k119
    have hF114 := hF80.none k119
    have hz142 := hF114.1
    rintro _ rfl _ rfl
    refine op1 (Zr rfl rfl ?_)
    exact ⟨rfl, Za _⟩
   ·intro w124 k120
    have hF115 := hF80.none k120
    have hz143 := hF115.1
    rintro _ rfl
    refine op1 (Zc rfl ?_)
    exact ⟨(by rw [decide_eq_false h8]), Za _⟩
   ·intro w125 k121
    have hF116 := hF80.none k121
    have hz144 := hF116.1
    rintro _ rfl
    refine Za0 ⟨rfl, Za _⟩
   ·intro w126 k122
    have hF117 := hF80.none k122
    have hz145 := hF117.1
    rintro _ rfl
    refine Za0 ⟨rfl, Za _⟩
   ·intro w127 k123
    have hF118 := hF80.none k123
    have hz146 := hF118.1
    rintro _ rfl
    intro v_ hv_; subst v_
    intro v_ hv_; subst v_
    refine Za0 ⟨rfl, Za _⟩
   ·intro w128 k124
    have hF119 := hF80.none k124
    have hz147 := hF119.1
    rintro _ rfl
    intro v_ hv_; subst v_
    refine Za0 ⟨rfl, Za _⟩
   ·intro w129 k125
    have hF120 := hF80.none k125
    have hz148 := hF120.1
    rintro _ rfl
    intro v_ hv_; subst v_
    refine Za0 ⟨rfl, Za _⟩
   ·intro w130 k126
    have hF121 := hF80.none k126
    have hz149 := hF121.1
    rintro _ rfl
    refine Za0 ⟨rfl, Za _⟩
   ·intro w131 k127
    have hF122 := hF80.none k127
    have hz150 := hF122.1
    rintro _ rfl
    refine Za0 ⟨rfl, Za _⟩
   ·intro w132 k128
    have hF123 := hF80.none k128
    have hz151 := hF123.1
    rintro _ rfl
    intro v_ hv_; subst v_
    intro v_ hv_; subst v_
    refine Za0 ⟨rfl, Za _⟩
   ·intro w133 k129
    have hF124 := hF80.none k129
    have hz152 := hF124.1
    rintro _ rfl
    intro v_ hv_; subst v_
    intro v_ hv_; subst v_
    refine Za0 ⟨rfl, Za _⟩
   ·intro w134 k130
    have hF125 := hF80.none k130
    have hz153 := hF125.1
    rintro _ rfl
    intro v_ hv_; subst v_
    refine Za0 ⟨rfl, Za _⟩
   ·intro w135 k131
    have hF126 := hF80.none k131
    have hz154 := hF126.1
    rintro _ rfl
    intro v_ hv_; subst v_
    refine op1 (Zr rfl rfl ?_)
    exact ⟨rfl, Za _⟩
   intro w136 k132
   have hb123 := Zf hb76 k132
   have hF127 := hF80.none k132
   have hz155 := hF127.1
   have hO218 := hO124.g0 k132
   have hO219 := hO125.g0 k132
   have hz156 := k85.size
   have hz157 := k132.size
   intro v_ hv_; subst v_
   rintro _ rfl _ rfl _ rfl _ rfl _ rfl _ rfl _ rfl _ rfl
   intro v_ hv_; subst v_
   rintro _ rfl _ rfl _ rfl _ rfl _ rfl _ rfl _ ⟨v17, rfl, hS16⟩ _ rfl _ rfl _ rfl _ rfl
   intro v_ hv_; subst v_
   rintro _ rfl _ rfl _ rfl _ rfl _ rfl _ rfl _ rfl _ rfl _ rfl
   intro v_ hv_; subst v_
   intro v_ hv_; subst v_
   intro v_ hv_; subst v_
   intro v_ hv_; subst v_
   intro v_ hv_; subst v_
   intro v_ hv_; subst v_
   intro v_ hv_; subst v_
   intro v_ hv_; subst v_
   intro v_ hv_; subst v_
   intro v_ hv_; subst v_
   rintro _ rfl
   refine Zg (Zd (Zbv rfl (Zo (Zab (Zd (Zb ?_))))))
   refine st (Zc rfl (st (Zah rfl rfl om (st (Ze rfl (Zg ?_))))))
   exact Zac (((i + 1)), (vi), (ys)) ⟨hb123, by omega, hO218, hO219, qf_no hi.1 hlt hys (fun hq_ => by have h5_ := Zbj.2 hq_.1; have h6_ := Zb7.2 hq_.2.1; have h7_ := Zbj.2 hq_.2.2.1; have h8_ := Zb7.2 hq_.2.2.2; omega), hF127, hnei, ((hbi0.g0 k85).g0 k132), ((hbi1.g0 k85).g0 k132), ((hbi2.g0 k85).g0 k132), ((hbi3.g0 k85).g0 k132), ((hbi4.g0 k85).g0 k132), ((hbi5.g0 k85).g0 k132), ((hsi0_1.gg0 k85).gg0 k132), ((hsi1_1.gg0 k85).gg0 k132), ((hsi2_1.gg0 k85).gg0 k132), ((hsi4_1.gg0 k85).gg0 k132), ((hsi5_1.gg0 k85).gg0 k132)⟩ (by dsimp only; omega) sb
  obtain ⟨b1, o1, _, hat1, ⟨ca1, cb1, rfl, hca1, hcb1, hcs1⟩, hc3, hF20, hlt1⟩ := hli.elem i om om
  replace hca1 := hca1.ofGF
  replace hcb1 := hcb1.ofGF
  obtain ⟨b2, o2, _, hat2, ⟨ca2, cb2, rfl, hca2, hcb2, hcs2⟩, hc4, hF21, hlt2⟩ := hli.elem i om om
  replace hca2 := hca2.ofGF
  replace hcb2 := hcb2.ofGF
  obtain ⟨b3, o3, _, hat3, ⟨ca3, cb3, rfl, hca3, hcb3, hcs3⟩, hc5, hF22, hlt3⟩ := hli.elem i om om
  replace hca3 := hca3.ofGF
  replace hcb3 := hcb3.ofGF
  obtain ⟨b4, o4, _, hat4, ⟨ca4, cb4, rfl, hca4, hcb4, hcs4⟩, hc6, hF23, hlt4⟩ := hli.elem i om om
  replace hca4 := hca4.ofGF
  replace hcb4 := hcb4.ofGF
  refine Zce 42 GN [xi 51 <| va, xi 52 <| .int .i64 i, xi 53 <| .pointer (some ⟨b1, o1, none⟩), xi 54 <| .pointer (some ⟨b1, o1 + 0, none⟩), xi 55 <| .agg [.bool (decide ((ix l i).x < 0)), ca1].toArray, xi 56 <| .agg [.bool (decide (A < 0)), pA].toArray, xi 57 <| .int .i64 (Zbt ((ix l i).x) A), xi 58 <| .bool (decide (0 ≤ (Zbt ((ix l i).x) A))), xi 59 <| .bool true, xi 60 <| va, xi 61 <| .int .i64 i, xi 62 <| .pointer (some ⟨b2, o2, none⟩), xi 63 <| .pointer (some ⟨b2, o2 + 0, none⟩), xi 64 <| .agg [.bool (decide ((ix l i).x < 0)), ca2].toArray, xi 65 <| .agg [.bool (decide (A < 0)), pA].toArray, xi 66 <| .agg [.bool (decide ((hf lv) < 0)), v1].toArray, (some 67, fun v W => Zbw 83 n0 W v ((A + (hf lv)))), xi 68 <| .int .i64 (Zbt ((ix l i).x) (A + (hf lv))), xi 69 <| .bool (decide ((Zbt ((ix l i).x) (A + (hf lv))) < 0)), xi 70 <| .bool (decide ((Zbt ((ix l i).x) (A + (hf lv))) < 0)), xi 71 <| .bool true, xi 72 <| va, xi 73 <| .int .i64 i, xi 74 <| .pointer (some ⟨b3, o3, none⟩), xi 75 <| .pointer (some ⟨b3, o3 + 2, none⟩), xi 76 <| .agg [.bool (decide ((ix l i).y < 0)), cb3].toArray, xi 77 <| .agg [.bool (decide (B < 0)), pB].toArray, xi 78 <| .int .i64 (Zbt ((ix l i).y) B), xi 79 <| .bool (decide (0 ≤ (Zbt ((ix l i).y) B))), xi 80 <| .bool (decide (0 ≤ (Zbt ((ix l i).y) B))), xi 81 <| .bool true, xi 82 <| va, xi 83 <| .int .i64 i, xi 84 <| .pointer (some ⟨b4, o4, none⟩), xi 85 <| .pointer (some ⟨b4, o4 + 2, none⟩), xi 86 <| .agg [.bool (decide ((ix l i).y < 0)), cb4].toArray, xi 87 <| .agg [.bool (decide (B < 0)), pB].toArray, xi 88 <| .agg [.bool (decide ((hf lv) < 0)), v1].toArray, (some 89, fun v W => Zbw 83 n0 W v ((B + (hf lv)))), xi 90 <| .int .i64 (Zbt ((ix l i).y) (B + (hf lv))), xi 91 <| .bool (decide ((Zbt ((ix l i).y) (B + (hf lv))) < 0)), xi 92 <| .bool (decide ((Zbt ((ix l i).y) (B + (hf lv))) < 0))] [[], [], [0, 1], [2], [3], [], [4, 5], [6], [7], [8], [8], [8, 9, 10], [8, 11], [8, 12], [8], [8], [8, 14, 15], [8, 13, 16], [8, 17], [8, 18], [19], [20], [20], [20, 21, 22], [20, 23], [20, 24], [20], [20, 25, 26], [20, 27], [20, 28], [29], [30], [30], [30, 31, 32], [30, 33], [30, 34], [30], [30], [30, 36, 37], [30, 35, 38], [30, 39], [30, 40]] [(0, vk), (1, .int .i64 lv), (4, va), (7, (pp g1)), (8, (pp g2)), (10, .slice none 0 0), (11, .int .i64 0), (12, (pp g3)), (13, (pp g4)), (14, .int .i64 k), (15, (pp g8)), (16, (pp g9)), (17, vi), (18, .int .i64 i)] sb kr kr Za gnt ⟨kv, kv, kv, kv, kv, kv, kv, kv, kv, kv, kv, kv, kv, kv, kv, kv, fun _ _ _ h k => h.g0 k, kv, kv, kv, kv, kv, kv, kv, kv, kv, kv, kv, kv, kv, kv, kv, kv, kv, kv, kv, kv, kv, fun _ _ _ h k => h.g0 k, kv, kv, kv, trivial⟩ ?_
  intro w33 k29 hs14
  have hb24 := Zf hb23 k29
  have hF24 := hFi.none k29
  have hz32 := hF24.1
  have hO20 := hOi.g0 k29
  have hO21 := hOc.g0 k29
  refine ⟨⟨?_, ?_, ?_, ?_, ?_, ?_, ?_, ?_, ?_, ?_, ?_, ?_, ?_, ?_, ?_, ?_, ?_, ?_, ?_, ?_, ?_, ?_, ?_, ?_, ?_, ?_, ?_, ?_, ?_, ?_, ?_, ?_, ?_, ?_, ?_, ?_, ?_, ?_, ?_, ?_, ?_, ?_, trivial⟩, ?_⟩
  ·intro w34 k30
   have hF25 := hF24.none k30
   have hz33 := hF25.1
   refine op1 (Zc rfl ?_)
   exact ⟨rfl, Za _⟩
  ·intro w35 k31
   have hF26 := hF24.none k31
   have hz34 := hF26.1
   refine op1 (Zc rfl ?_)
   exact ⟨rfl, Za _⟩
  ·intro w36 k32
   have hF27 := hF24.none k32
   have hz35 := hF27.1
   intro v_ hv_; subst v_
   rintro _ rfl
   refine op1 (Zbo Zct rfl rfl hat1 ?_)
   exact ⟨rfl, Za _⟩
  ·intro w37 k33
   have hF28 := hF24.none k33
   have hz36 := hF28.1
   rintro _ rfl
   refine op1 (Zn Zc4 rfl ?_)
   exact ⟨rfl, Za _⟩
  ·intro w38 k34
   have hF29 := hF24.none k34
   have hz37 := hF29.1
   rintro _ rfl
   refine op1 (Zbf (us := [.bool (decide ((ix l i).x < 0)), ca1]) Zx rfl (Zaj (Zaj hc3 k29) k34) (j := 0) rfl rfl ?_)
   exact ⟨rfl, Za _⟩
  ·intro w39 k35
   have hF30 := hF24.none k35
   have hz38 := hF30.1
   refine op1 (Zp Zx rfl ((hbi4.g0 k29).g0 k35).range rfl ?_)
   exact ⟨rfl, Za _⟩
  ·intro w40 k36
   have hb31 := Zf hb24 k36
   have hF31 := hF24.none k36
   have hz39 := hF31.1
   rintro _ rfl _ rfl
   refine op1 (Zq Zg4 rfl (Zbq (n0 := n0) (Zu hn0 hb31) (Zai rfl ((hca1.gg0 k29).gg0 k36)) (Zai rfl ((hsi4_1.gg0 k29).gg0 k36)) (Bd.le (Zdp hcb om om).1 (show 50 ≤ 90000 by decide)) (Bd.le hbA (show 44 ≤ 90000 by decide))) ?_)
   rintro _ w41 ⟨hq10, rfl⟩
   have k37 := Zi hq10 none
   have hz40 := hq10.size
   have hb32 := Zf hb31 k37
   have hz41 := hb32.size
   have hF32 := hF31.none k37
   have hz42 := hF32.1
   exact ⟨rfl, k37⟩
  ·intro w42 k38
   have hF33 := hF24.none k38
   have hz43 := hF33.1
   rintro _ rfl
   refine op1 (Zg3 rfl rfl ?_)
   exact ⟨rfl, Za _⟩
  ·intro w43 k39
   have hF34 := hF24.none k39
   have hz44 := hF34.1
   rintro _ rfl
   refine op1 (Zc rfl ?_)
   exact ⟨(by rw [decide_eq_true h6]), Za _⟩
  ·intro w44 k40
   have hF35 := hF24.none k40
   have hz45 := hF35.1
   rintro _ rfl
   refine Zas (Zc rfl ?_)
   exact ⟨rfl, Za _⟩
  ·intro w45 k41
   have hF36 := hF24.none k41
   have hz46 := hF36.1
   rintro _ rfl
   refine Zas (Zc rfl ?_)
   exact ⟨rfl, Za _⟩
  ·intro w46 k42
   have hF37 := hF24.none k42
   have hz47 := hF37.1
   rintro _ rfl
   intro v_ hv_; subst v_
   rintro _ rfl
   refine Zas (Zbo Zct rfl rfl hat2 ?_)
   exact ⟨rfl, Za _⟩
  ·intro w47 k43
   have hF38 := hF24.none k43
   have hz48 := hF38.1
   rintro _ rfl _ rfl
   refine Zas (Zn Zc4 rfl ?_)
   exact ⟨rfl, Za _⟩
  ·intro w48 k44
   have hF39 := hF24.none k44
   have hz49 := hF39.1
   rintro _ rfl _ rfl
   refine Zas (Zbf (us := [.bool (decide ((ix l i).x < 0)), ca2]) Zx rfl (Zaj (Zaj hc4 k29) k44) (j := 0) rfl rfl ?_)
   exact ⟨rfl, Za _⟩
  ·intro w49 k45
   have hF40 := hF24.none k45
   have hz50 := hF40.1
   rintro _ rfl
   refine Zas (Zp Zx rfl ((hbi4.g0 k29).g0 k45).range rfl ?_)
   exact ⟨rfl, Za _⟩
  ·intro w50 k46
   have hF41 := hF24.none k46
   have hz51 := hF41.1
   rintro _ rfl
   refine Zas (Zp Zx rfl ((hbi2.g0 k29).g0 k46).range rfl ?_)
   exact ⟨rfl, Za _⟩
  ·intro w51 k47
   have hb42 := Zf hb24 k47
   have hF42 := hF24.none k47
   have hz52 := hF42.1
   rintro _ rfl _ rfl _ rfl
   refine Zas (Zq fn22 rfl (Zdn (n0 := n0) (Zu hn0 hb42) (Zai rfl ((hsi4_1.gg0 k29).gg0 k47)) (Zai rfl ((hsi2_1.gg0 k29).gg0 k47)) (Bd.le hbA (show 44 ≤ 90000 by decide)) (Bd.le (Zci hlvr.2) (show 42 ≤ 90000 by decide))) ?_)
   rintro _ w52 ⟨hq11, v7, rfl, hS6⟩
   have k48 := Zi hq11 none
   have hz53 := hq11.size
   have hb43 := Zf hb42 k48
   have hz54 := hb43.size
   have hF43 := hF42.none k48
   have hz55 := hF43.1
   exact ⟨⟨_, rfl, hS6⟩, k48⟩
  ·intro w53 k49
   have hb44 := Zf hb24 k49
   have hF44 := hF24.none k49
   have hz56 := hF44.1
   rintro _ rfl _ rfl _ ⟨v8, rfl, hS7⟩
   refine Zas (Zq Zg4 rfl (Zbq (n0 := n0) (Zu hn0 hb44) (Zai rfl ((hca2.gg0 k29).gg0 k49)) (Zai rfl hS7) (Bd.le (Zdp hcb om om).1 (show 50 ≤ 90000 by decide)) (Bd.le (Zfn hbA (Zci hlvr.2) (show 44 < 45 by decide) (show 42 < 45 by decide)) (show 45 ≤ 90000 by decide))) ?_)
   rintro _ w54 ⟨hq12, rfl⟩
   have k50 := Zi hq12 none
   have hz57 := hq12.size
   have hb45 := Zf hb44 k50
   have hz58 := hb45.size
   have hF45 := hF44.none k50
   have hz59 := hF45.1
   exact ⟨rfl, k50⟩
  ·intro w55 k51
   have hF46 := hF24.none k51
   have hz60 := hF46.1
   rintro _ rfl _ rfl
   refine Zas (Zbd rfl rfl ?_)
   exact ⟨rfl, Za _⟩
  ·intro w56 k52
   have hF47 := hF24.none k52
   have hz61 := hF47.1
   rintro _ rfl _ rfl
   refine op1 (Zr rfl rfl ?_)
   exact ⟨rfl, Za _⟩
  ·intro w57 k53
   have hF48 := hF24.none k53
   have hz62 := hF48.1
   rintro _ rfl
   refine op1 (Zc rfl ?_)
   exact ⟨(by rw [decide_eq_true h7]), Za _⟩
  ·intro w58 k54
   have hF49 := hF24.none k54
   have hz63 := hF49.1
   rintro _ rfl
   refine Zas (Zc rfl ?_)
   exact ⟨rfl, Za _⟩
  ·intro w59 k55
   have hF50 := hF24.none k55
   have hz64 := hF50.1
   rintro _ rfl
   refine Zas (Zc rfl ?_)
   exact ⟨rfl, Za _⟩
  ·intro w60 k56
   have hF51 := hF24.none k56
   have hz65 := hF51.1
   rintro _ rfl
   intro v_ hv_; subst v_
   rintro _ rfl
   refine Zas (Zbo Zct rfl rfl hat3 ?_)
   exact ⟨rfl, Za _⟩
  ·intro w61 k57
   have hF52 := hF24.none k57
   have hz66 := hF52.1
   rintro _ rfl _ rfl
   refine Zas (Zn Zd0 rfl ?_)
   exact ⟨rfl, Za _⟩
  ·intro w62 k58
   have hF53 := hF24.none k58
   have hz67 := hF53.1
   rintro _ rfl _ rfl
   refine Zas (Zbf (us := [.bool (decide ((ix l i).y < 0)), cb3]) Zx rfl (Zaj (Zaj hc5 k29) k58) (j := 2) rfl rfl ?_)
   exact ⟨rfl, Za _⟩
  ·intro w63 k59
   have hF54 := hF24.none k59
   have hz68 := hF54.1
   rintro _ rfl
   refine Zas (Zp Zx rfl ((hbi5.g0 k29).g0 k59).range rfl ?_)
   exact ⟨rfl, Za _⟩
  ·intro w64 k60
   have hb55 := Zf hb24 k60
   have hF55 := hF24.none k60
   have hz69 := hF55.1
   rintro _ rfl _ rfl _ rfl
   refine Zas (Zq Zg4 rfl (Zbq (n0 := n0) (Zu hn0 hb55) (Zai rfl ((hcb3.gg0 k29).gg0 k60)) (Zai rfl ((hsi5_1.gg0 k29).gg0 k60)) (Bd.le (Zdp hcb om om).2 (show 50 ≤ 90000 by decide)) (Bd.le hbB (show 44 ≤ 90000 by decide))) ?_)
   rintro _ w65 ⟨hq13, rfl⟩
   have k61 := Zi hq13 none
   have hz70 := hq13.size
   have hb56 := Zf hb55 k61
   have hz71 := hb56.size
   have hF56 := hF55.none k61
   have hz72 := hF56.1
   exact ⟨rfl, k61⟩
  ·intro w66 k62
   have hF57 := hF24.none k62
   have hz73 := hF57.1
   rintro _ rfl _ rfl
   refine Zas (Zg3 rfl rfl ?_)
   exact ⟨rfl, Za _⟩
  ·intro w67 k63
   have hF58 := hF24.none k63
   have hz74 := hF58.1
   rintro _ rfl _ rfl
   refine op1 (Zr rfl rfl ?_)
   exact ⟨rfl, Za _⟩
  ·intro w68 k64
   have hF59 := hF24.none k64
   have hz75 := hF59.1
   rintro _ rfl
   refine op1 (Zc rfl ?_)
   exact ⟨(by rw [decide_eq_true h8]), Za _⟩
  ·intro w69 k65
   have hF60 := hF24.none k65
   have hz76 := hF60.1
   rintro _ rfl
   refine Zas (Zc rfl ?_)
   exact ⟨rfl, Za _⟩
  ·intro w70 k66
   have hF61 := hF24.none k66
   have hz77 := hF61.1
   rintro _ rfl
   refine Zas (Zc rfl ?_)
   exact ⟨rfl, Za _⟩
  ·intro w71 k67
   have hF62 := hF24.none k67
   have hz78 := hF62.1
   rintro _ rfl
   intro v_ hv_; subst v_
   rintro _ rfl
   refine Zas (Zbo Zct rfl rfl hat4 ?_)
   exact ⟨rfl, Za _⟩
  ·intro w72 k68
   have hF63 := hF24.none k68
   have hz79 := hF63.1
   rintro _ rfl _ rfl
   refine Zas (Zn Zd0 rfl ?_)
   exact ⟨rfl, Za _⟩
  ·intro w73 k69
   have hF64 := hF24.none k69
   have hz80 := hF64.1
   rintro _ rfl _ rfl
   refine Zas (Zbf (us := [.bool (decide ((ix l i).y < 0)), cb4]) Zx rfl (Zaj (Zaj hc6 k29) k69) (j := 2) rfl rfl ?_)
   exact ⟨rfl, Za _⟩
  ·intro w74 k70
   have hF65 := hF24.none k70
   have hz81 := hF65.1
   rintro _ rfl
   refine Zas (Zp Zx rfl ((hbi5.g0 k29).g0 k70).range rfl ?_)
   exact ⟨rfl, Za _⟩
  ·intro w75 k71
   have hF66 := hF24.none k71
   have hz82 := hF66.1
   rintro _ rfl
   refine Zas (Zp Zx rfl ((hbi2.g0 k29).g0 k71).range rfl ?_)
   exact ⟨rfl, Za _⟩
  ·intro w76 k72
   have hb67 := Zf hb24 k72
   have hF67 := hF24.none k72
   have hz83 := hF67.1
   rintro _ rfl _ rfl _ rfl
   refine Zas (Zq fn22 rfl (Zdn (n0 := n0) (Zu hn0 hb67) (Zai rfl ((hsi5_1.gg0 k29).gg0 k72)) (Zai rfl ((hsi2_1.gg0 k29).gg0 k72)) (Bd.le hbB (show 44 ≤ 90000 by decide)) (Bd.le (Zci hlvr.2) (show 42 ≤ 90000 by decide))) ?_)
   rintro _ w77 ⟨hq14, v9, rfl, hS8⟩
   have k73 := Zi hq14 none
   have hz84 := hq14.size
   have hb68 := Zf hb67 k73
   have hz85 := hb68.size
   have hF68 := hF67.none k73
   have hz86 := hF68.1
   exact ⟨⟨_, rfl, hS8⟩, k73⟩
  ·intro w78 k74
   have hb69 := Zf hb24 k74
   have hF69 := hF24.none k74
   have hz87 := hF69.1
   rintro _ rfl _ rfl _ ⟨v10, rfl, hS9⟩
   refine Zas (Zq Zg4 rfl (Zbq (n0 := n0) (Zu hn0 hb69) (Zai rfl ((hcb4.gg0 k29).gg0 k74)) (Zai rfl hS9) (Bd.le (Zdp hcb om om).2 (show 50 ≤ 90000 by decide)) (Bd.le (Zfn hbB (Zci hlvr.2) (show 44 < 45 by decide) (show 42 < 45 by decide)) (show 45 ≤ 90000 by decide))) ?_)
   rintro _ w79 ⟨hq15, rfl⟩
   have k75 := Zi hq15 none
   have hz88 := hq15.size
   have hb70 := Zf hb69 k75
   have hz89 := hb70.size
   have hF70 := hF69.none k75
   have hz90 := hF70.1
   exact ⟨rfl, k75⟩
  ·intro w80 k76
   have hF71 := hF24.none k76
   have hz91 := hF71.1
   rintro _ rfl _ rfl
   refine Zas (Zbd rfl rfl ?_)
   exact ⟨rfl, Za _⟩
  ·intro w81 k77
   have hF72 := hF24.none k77
   have hz92 := hF72.1
   rintro _ rfl _ rfl
   refine op1 (Zr rfl rfl ?_)
   exact ⟨rfl, Za _⟩
  intro w82 k78
  have hb73 := Zf hb24 k78
  have hF73 := hF24.none k78
  have hz93 := hF73.1
  have hO118 := hO20.g0 k78
  have hO119 := hO21.g0 k78
  have hz94 := k29.size
  have hz95 := k78.size
  intro v_ hv_; subst v_
  rintro _ rfl _ rfl _ rfl _ rfl _ rfl _ rfl _ rfl _ rfl
  intro v_ hv_; subst v_
  rintro _ rfl _ rfl _ rfl _ rfl _ rfl _ rfl _ ⟨v11, rfl, hS10⟩ _ rfl _ rfl _ rfl _ rfl
  intro v_ hv_; subst v_
  rintro _ rfl _ rfl _ rfl _ rfl _ rfl _ rfl _ rfl _ rfl _ rfl
  intro v_ hv_; subst v_
  rintro _ rfl _ rfl _ rfl _ rfl _ rfl _ rfl _ ⟨v12, rfl, hS11⟩ _ rfl _ rfl _ rfl
  refine Zg (Zd ?_)
  refine Zw rfl (fun h9 => ?_) (fun h9 => ?_)
  rotate_left
  ·refine Zo (Zab (Zd (Zb (st (Zc rfl (st (Zah rfl rfl om (st (Ze rfl ?_)))))))))
   refine Zg ?_
   exact Zac (((i + 1)), (vi), (ys)) ⟨hb73, by omega, hO118, hO119, qf_no hi.1 hlt hys (fun hq_ => by have h5_ := Zbj.2 hq_.1; have h6_ := Zb7.2 hq_.2.1; have h7_ := Zbj.2 hq_.2.2.1; have h8_ := Zb7.2 hq_.2.2.2; omega), hF73, hnei, ((hbi0.g0 k29).g0 k78), ((hbi1.g0 k29).g0 k78), ((hbi2.g0 k29).g0 k78), ((hbi3.g0 k29).g0 k78), ((hbi4.g0 k29).g0 k78), ((hbi5.g0 k29).g0 k78), ((hsi0_1.gg0 k29).gg0 k78), ((hsi1_1.gg0 k29).gg0 k78), ((hsi2_1.gg0 k29).gg0 k78), ((hsi4_1.gg0 k29).gg0 k78), ((hsi5_1.gg0 k29).gg0 k78)⟩ (by dsimp only; omega) sb
  refine Zb (st (Zc rfl (st (Zc rfl (st (Zc rfl (st (Zat Zct rfl rfl ((hli.g0 k29).g0 k78) om om ?_))))))))
  rintro b5 o5 _ ⟨ca5, cb5, rfl, hca5, hcb5, hcs5⟩ hc7 hF74 hlt5
  replace hca5 := hca5.ofGF
  replace hcb5 := hcb5.ofGF
  refine st (Zp Zj0 rfl hc7 rfl (st (Zau (ps := [(0, .tmp 97)]) (ccs := [#[.bool (decide ((ix l i).x < 0)), ca5, .bool (decide ((ix l i).y < 0)), cb5, .int .u8 ((ix l i).st)]]) (e := 47) (cells := [.bool (decide ((ix l i).x < 0)), ca5, .bool (decide ((ix l i).y < 0)), cb5, .int .u8 ((ix l i).st)]) rfl rfl kr dc nz47 ?_)))
  intro g10 w83 hg10 hB16 k79 hs15
  have hb74 := Zf hb73 k79
  have hz96 := hb74.size
  have hF75 := hF73.none k79
  have hz97 := hF75.1
  have hO120 := hO118.g0 k79
  have hO121 := hO119.g0 k79
  have hS12 : Sl (Kd.cell 83 n0) w83 (fun _ => False) (.slice (some ⟨g10, 0, none⟩) 1 1) [(ix l i)] := Zkq (c := (ix l i)) hB16 (hca5.gg0 k79) (hcb5.gg0 k79) hcs5
  refine st (Za4 (K := (Kd.cell 83 n0)) Zct rfl rfl hO121 (lit_cellO (c := (ix l i)) hB16 (hca5.gg0 k79) (hcb5.gg0 k79) hcs5 hO121 (Zdj hO119 hg10) dc om) (Zgi 83 n0).ones (by simp; omega) (by simp; omega) (by first | exact Nat.le_refl _ | omega | (have h0_ := k29.size; have h1_ := k78.size; have h2_ := k79.size; omega)) (fun _ h => h.elim) ?_)
  intro v13 w84 hO122 k80 hr6
  have hb75 := hb74.grown k80 hb74.size (fun k_ hk_ => by have h9_ := (hO121.lt k_ hk_).1; omega)
  have hz98 := hb75.size
  have hF76 := Frm.rowO hF75 k80 (fun g_ h_ => (hO121.lt g_ h_).1)
  have hz99 := hF76.1
  have hO123 := Own.keptF Zy hO120 k80 (hO120.ne_own hO121 dc)
  refine st (Ze rfl (Zg (Zab (Zd (Zb (st (Zc rfl (st (Zah rfl rfl om ?_)))))))))
  refine st (Ze rfl (Zg ?_))
  exact Zac (((i + 1)), (v13), (ys ++ [(ix l i)])) ⟨hb75, by omega, hO123, hO122, qf_yes hi.1 hlt hys (Zbj.1 h6) (Zb7.1 h7) (Zbj.1 h8) (Zb7.1 h9), hF76, hnei, ((((hbi0.g0 k29).g0 k78).g0 k79).grown k80 (fun e => by have := hO121.ne_blk (((hbi0.g0 k29).g0 k78).g0 k79) dc; simp_all)), ((((hbi1.g0 k29).g0 k78).g0 k79).grown k80 (fun e => by have := hO121.ne_blk (((hbi1.g0 k29).g0 k78).g0 k79) dc; simp_all)), ((((hbi2.g0 k29).g0 k78).g0 k79).grown k80 (fun e => by have := hO121.ne_blk (((hbi2.g0 k29).g0 k78).g0 k79) dc; simp_all)), ((((hbi3.g0 k29).g0 k78).g0 k79).grown k80 (fun e => by have := hO121.ne_blk (((hbi3.g0 k29).g0 k78).g0 k79) dc; simp_all)), ((((hbi4.g0 k29).g0 k78).g0 k79).grown k80 (fun e => by have := hO121.ne_blk (((hbi4.g0 k29).g0 k78).g0 k79) dc; simp_all)), ((((hbi5.g0 k29).g0 k78).g0 k79).grown k80 (fun e => by have := hO121.ne_blk (((hbi5.g0 k29).g0 k78).g0 k79) dc; simp_all)), ((((hsi0_1.gg0 k29).gg0 k78).gg0 k79).ggO k80 hO121 dc om), ((((hsi1_1.gg0 k29).gg0 k78).gg0 k79).ggO k80 hO121 dc om), ((((hsi2_1.gg0 k29).gg0 k78).gg0 k79).ggO k80 hO121 dc om), ((((hsi4_1.gg0 k29).gg0 k78).gg0 k79).ggO k80 hO121 dc om), ((((hsi5_1.gg0 k29).gg0 k78).gg0 k79).ggO k80 hO121 dc om)⟩ (by dsimp only; omega) sb
end Go.Proofs.Ytfljelnfjbbknaa.Lm
namespace Go.Proofs.Ytfljelnfjbbknaa.Nd
open Go.RowKit Go.Gw
set_option maxHeartbeats 1000000 in
theorem hollow_any {va : Value} {l : List Nd} {F : Nat → Prop} {w : World} (hl : Sl Kd.node w F va l) {n : Int} (hl_ok : Zaf l = true) (hll : l.length ≤ 1000000) (h0 : 0 ≤ n) (h1 : n ≤ l.length) :
  Calls Try.prog 109 [va, .int .i64 n].toArray w (Zbh w fun v _ => v = .bool (Zev l n)) := by
 have hb0 := Below.refl w.heap.size w
 have hln1 := hl.lenle
 have hlen := Zbg l
 refine enter Try.func109 rfl rfl (Zh (Zb (st (Ze rfl (Zg (Zd (Zh ?_)))))))
 refine Zh (Zb (st (Zc rfl (st (Zbu rfl rfl (st (Zc rfl ?_)))))))
 refine Zax 12 rfl (fun h1 => ?_) (fun h1 => ?_)
 ·refine Zj rfl rfl (Zj rfl rfl (Zj rfl rfl (Zj rfl rfl (Zj rfl rfl (Zj rfl rfl (Zj rfl rfl ?_))))))
  refine st (Zr rfl rfl (Zg (Zd (Zb0 rfl (Zh (Zb (st (Ze rfl ?_))))))))
  refine Zg (Zd (Zaa rfl rfl ?_))
  exact ⟨_, rfl, hb0, by rw [Zek]; rintro ⟨e1, e2, e3⟩; omega⟩
 refine stg (Zc rfl (stg (Zc rfl (stg (Za7 rfl rfl om (stg (Zat Zaw rfl rfl (hl.at0 hb0) om om ?_)))))))
 rintro b1 o1 _ ⟨rfl, _⟩ hc1 hF1 hlt1
 have hl_1 := Loc.lt hF1
 refine stg (Zn Zaz rfl (stg (Zt Za9 rfl hc1 (j := 0) rfl (stg (Zbu rfl rfl (st (Zr rfl rfl (Zg (Zd ?_)))))))))
 refine Zw rfl (fun h2 => ?_) (fun h2 => ?_)
 ·refine Zh (Zb (st (Ze rfl (Zg (Zd (Zaa rfl rfl ?_))))))
  exact ⟨_, rfl, hb0, by rw [Zek]; rintro ⟨e1, e2, e3⟩; omega⟩
 refine Zo (Zd (Zh (Zb (st (Zc rfl (st (Zq fn115 rfl (full_any (hl.at0 hb0) hl_ok hll) ?_)))))))
 rintro v1 w1 ⟨hq1, hS1⟩
 have k1 := Zi hq1 none
 have hz1 := hq1.size
 have hb1 := Zf hb0 k1
 have hz2 := hb1.size
 refine st (Ze rfl (Zg (Zd (Zh (Zh (Zb (st (Zc rfl ?_))))))))
 refine st (Zc rfl (st (Za7 rfl rfl om (st (Zat Zaw rfl rfl (hl.at0 hb1) om om ?_)))))
 rintro b2 o2 _ ⟨rfl, _⟩ hc2 hF2 hlt2
 have hl_2 := Loc.lt hF2
 refine st (Zn Zav rfl (st (Zbf (us := [.int .i64 ((ix l (n - 1)).k0), .int .i64 ((ix l (n - 1)).k1), .int .i64 ((ix l (n - 1)).k2), .int .i64 ((ix l (n - 1)).k3)]) row99 rfl hc2 (j := 1) rfl rfl (st (Zc rfl (Zg (Zd (Zz ?_))))))))
 refine Za2 (α := Int) (fun (k : Int) => [(0, va), (5, v1), (28, .agg [.int .i64 ((ix l (n - 1)).k0), .int .i64 ((ix l (n - 1)).k1), .int .i64 ((ix l (n - 1)).k2), .int .i64 ((ix l (n - 1)).k3)].toArray), (29, .int .i64 k)]) (fun (k : Int) W => Below w.heap.size w W ∧ (0 ≤ k ∧ k ≤ 4) ∧ (∀ k' : Int, 0 ≤ k' → k' < k → holK l n k') ∧ (Sl Kd.bool W (fun _ => False) v1 (Zca l))) (fun (k : Int) => (4 - k).toNat) (0) ⟨hb1, by omega, fun k' _ _ => by omega, hS1⟩ sb ?_
 rintro k w2 ⟨hb2, hk, ha, hS2⟩
 have hz3 := hb2.size
 refine Zh (Zb (st (Zbd rfl rfl (Zg (Zd (Zh ?_))))))
 refine Zw rfl (fun h3 => ?_) (fun h3 => ?_)
 rotate_left
 ·refine Zak (Zk (Zk (Zs (Zd (Zh (Zb ?_))))))
  refine st (Ze rfl (Zg (Zd (Zaa rfl rfl ?_))))
  exact ⟨_, rfl, hb2, by rw [(Zd9 l n).2]; exact ⟨by omega, by omega, fun k k0 k1 => ha k k0 om⟩⟩
 refine Zo (Zd (Zh (Zz (Zh (Zb (st (Zc rfl ?_)))))))
 refine st (Zkj Zb9 Za9 rfl rfl om om (st (Ze rfl (st (Ze rfl (Zg (Zd (Zh (Zh ?_)))))))))
 refine Zb (st (Zc rfl (st (Zbu rfl rfl (Zg (Zd ?_))))))
 refine Zw rfl (fun h4 => ?_) (fun h4 => ?_)
 ·refine Zak (Zk (Zs (Zd (Zb (st (Zah rfl rfl om (st (Zc rfl ?_))))))))
  refine Zg ?_
  exact Zac ((k + 1)) ⟨hb2, by omega, fun k' k0 k1 => if e : k' = k then by rw [e]; intro e2; exact absurd h4 e2 else ha k' k0 om, hS2⟩ om sb
 have hkid := Zdm hl_ok (i := n - 1) (k := k) om om hk.1 om om (by simpa [Nd.kid] using h4)
 unfold Nd.kid at hkid
 refine Zo (Zd (Zh (Zb (st (Zc rfl (st (Zc rfl (st (Za7 rfl rfl om ?_)))))))))
 refine st (Zat Zaw rfl rfl (hl.at0 hb2) om om ?_)
 rintro b3 o3 _ ⟨rfl, _⟩ hc3 hF3 hlt3
 have hl_3 := Loc.lt hF3
 refine st (Zn Zav rfl (st (Zbf (us := [.int .i64 ((ix l ((Zae ((ix l (n - 1)).k0) ((ix l (n - 1)).k1) ((ix l (n - 1)).k2) ((ix l (n - 1)).k3) k) - 1)).k0), .int .i64 ((ix l ((Zae ((ix l (n - 1)).k0) ((ix l (n - 1)).k1) ((ix l (n - 1)).k2) ((ix l (n - 1)).k3) k) - 1)).k1), .int .i64 ((ix l ((Zae ((ix l (n - 1)).k0) ((ix l (n - 1)).k1) ((ix l (n - 1)).k2) ((ix l (n - 1)).k3) k) - 1)).k2), .int .i64 ((ix l ((Zae ((ix l (n - 1)).k0) ((ix l (n - 1)).k1) ((ix l (n - 1)).k2) ((ix l (n - 1)).k3) k) - 1)).k3)]) row99 rfl hc3 (j := 1) rfl rfl (st (Zc rfl (Zg (Zd (Zz ?_))))))))
 refine Za2 (α := Int) (fun (j : Int) => [(0, va), (5, v1), (6, .int .i64 k), (7, .int .i64 (Zae ((ix l (n - 1)).k0) ((ix l (n - 1)).k1) ((ix l (n - 1)).k2) ((ix l (n - 1)).k3) k)), (28, .agg [.int .i64 ((ix l (n - 1)).k0), .int .i64 ((ix l (n - 1)).k1), .int .i64 ((ix l (n - 1)).k2), .int .i64 ((ix l (n - 1)).k3)].toArray), (29, .int .i64 k), (40, .agg [.int .i64 ((ix l ((Zae ((ix l (n - 1)).k0) ((ix l (n - 1)).k1) ((ix l (n - 1)).k2) ((ix l (n - 1)).k3) k) - 1)).k0), .int .i64 ((ix l ((Zae ((ix l (n - 1)).k0) ((ix l (n - 1)).k1) ((ix l (n - 1)).k2) ((ix l (n - 1)).k3) k) - 1)).k1), .int .i64 ((ix l ((Zae ((ix l (n - 1)).k0) ((ix l (n - 1)).k1) ((ix l (n - 1)).k2) ((ix l (n - 1)).k3) k) - 1)).k2), .int .i64 ((ix l ((Zae ((ix l (n - 1)).k0) ((ix l (n - 1)).k1) ((ix l (n - 1)).k2) ((ix l (n - 1)).k3) k) - 1)).k3)].toArray), (41, .int .i64 j)]) (fun (j : Int) W => Below w.heap.size w W ∧ (0 ≤ j ∧ j ≤ 4) ∧ (∀ j' : Int, 0 ≤ j' → j' < j → j' ≠ 3 - k → Zes (ix l ((ix l (n - 1)).kid k - 1)) (Zca l) ((ix l ((ix l (n - 1)).kid k - 1)).kid j') = false) ∧ (Sl Kd.bool W (fun _ => False) v1 (Zca l))) (fun (j : Int) => (4 - j).toNat) (0) ⟨hb2, by omega, fun j' _ _ _ => by omega, hS2⟩ sb ?_
 rintro j w3 ⟨hb3, hj, hb, hS3⟩
 have hz4 := hb3.size
 refine Zh (Zb (st (Zbd rfl rfl (Zg (Zd (Zh ?_))))))
 refine Zw rfl (fun h5 => ?_) (fun h5 => ?_)
 rotate_left
 ·refine Zak (Zk (Zk (Zs (Zab (Zd (Zb ?_))))))
  refine st (Zah rfl rfl om (st (Zc rfl (Zg ?_))))
  exact Zac ((k + 1)) ⟨hb3, by omega, fun k' k0 k1 => if e : k' = k then by rw [e]; intro _ j j0 j1 j2; exact hb j j0 om j2 else ha k' k0 om, hS3⟩ om sb
 refine Zo (Zd (Zh (Zz (Zh (Zb (st (Zc rfl ?_)))))))
 refine st (Zkj Zb9 Za9 rfl rfl om om (st (Ze rfl (st (Ze rfl (Zg (Zd (Zh (Zb ?_)))))))))
 refine st (Zc rfl (st (Zc rfl (st (Za7 rfl rfl om (st (s_ne rfl rfl (st (Zc rfl ?_)))))))))
 refine Zax 49 rfl (fun h6 => ?_) (fun h6 => ?_)
 rotate_left
 ·refine Zj rfl rfl (Zj rfl rfl (st (Zr rfl rfl (st (Zc rfl (Zj rfl rfl (Zj rfl rfl (Zj rfl rfl ?_))))))))
  refine Zj rfl rfl (Zj rfl rfl (Zj rfl rfl (Zj rfl rfl (Zj rfl rfl (Zal rfl rfl (Zal rfl rfl ?_))))))
  refine Zal rfl rfl (Zal rfl rfl (Zj rfl rfl (st (Zr rfl rfl (Zg (Zd (Zbv rfl ?_)))))))
  refine Zo (Zab (Zd (Zb (st (Zah rfl rfl om (st (Zc rfl (Zg ?_))))))))
  exact Zac ((j + 1)) ⟨hb3, by omega, fun j' j0 j1 j2 => if e : j' = j then by rw [e] at j2 ⊢; first | (exfalso; omega) | exact Zdf (.inl (by unfold Nd.kid; omega)) | exact Zdf (.inr ⟨by unfold Nd.kid; omega, by unfold Nd.kid; assumption⟩) else hb j' j0 om j2, hS3⟩ om sb
 refine stg (Zc rfl (stg (s_ne rfl rfl (st (Zr rfl rfl (st (Zc rfl ?_)))))))
 refine Zax 53 rfl (fun h7 => ?_) (fun h7 => ?_)
 rotate_left
 ·refine Zj rfl rfl (Zj rfl rfl (Zj rfl rfl (Zj rfl rfl (Zj rfl rfl (Zj rfl rfl (Zj rfl rfl ?_))))))
  refine Zj rfl rfl (Zal rfl rfl (Zal rfl rfl (Zal rfl rfl (Zal rfl rfl (Zj rfl rfl (st (Zr rfl rfl ?_)))))))
  refine Zg (Zd (Zbv rfl (Zo (Zab (Zd (Zb ?_))))))
  refine st (Zah rfl rfl om (st (Zc rfl (Zg ?_))))
  exact Zac ((j + 1)) ⟨hb3, by omega, fun j' j0 j1 j2 => if e : j' = j then by rw [e] at j2 ⊢; first | (exfalso; omega) | exact Zdf (.inl (by unfold Nd.kid; omega)) | exact Zdf (.inr ⟨by unfold Nd.kid; omega, by unfold Nd.kid; assumption⟩) else hb j' j0 om j2, hS3⟩ om sb
 refine stg (Zc rfl (stg (Zc rfl (stg (Za7 rfl rfl om (stg (Zat Zaw rfl rfl (hl.at0 hb3) om om ?_)))))))
 rintro b4 o4 _ ⟨rfl, _⟩ hc4 hF4 hlt4
 have hl_4 := Loc.lt hF4
 refine stg (Zn Zaz rfl (stg (Zt Za9 rfl hc4 (j := 0) rfl (stg (Zbu rfl rfl (stg (Zc rfl ?_)))))))
 refine Zax 61 rfl (fun h8 => ?_) (fun h8 => ?_)
 ·refine Zj rfl rfl (Zj rfl rfl (Zj rfl rfl (Zj rfl rfl (stg (Zr rfl rfl (st (Zr rfl rfl (Zg ?_))))))))
  refine Zd (Zb0 rfl (Zh (Zb (st (Ze rfl (Zg (Zd ?_)))))))
  refine Zaa rfl rfl ?_
  refine ⟨_, rfl, hb3, ?_⟩
  rw [Zek]
  rintro ⟨e1, e2, e3⟩
  have e4 := e3 k om om (by unfold Nd.kid; omega) j om om om
  rw [Zhy (by unfold Nd.kid; omega) (by unfold Nd.kid; first | exact .inl om | exact .inr (by assumption))] at e4
  cases e4
 have hkid2 := Zdm hl_ok (i := (Zae (ix l (n - 1)).k0 (ix l (n - 1)).k1 (ix l (n - 1)).k2 (ix l (n - 1)).k3 k) - 1) (k := j) om om hj.1 om h8
 unfold Nd.kid at hkid2
 refine stg (Zc rfl (stg (Zc rfl (stg (Zat Zcq rfl rfl hS3 om om ?_)))))
 rintro b5 o5 _ ⟨rfl, _⟩ hc5 hF5 hlt5
 refine stg (Zt Zeg rfl hc5 (j := 0) rfl (stg (Zr rfl rfl (st (Zr rfl rfl (Zg (Zd ?_)))))))
 refine Zba rfl (fun h9 => ?_) (fun h9 => ?_)
 ·refine Zh (Zb (st (Ze rfl (Zg (Zd (Zaa rfl rfl ?_))))))
  refine ⟨_, rfl, hb3, ?_⟩
  rw [Zek]
  rintro ⟨e1, e2, e3⟩
  have e4 := e3 k om om (by unfold Nd.kid; omega) j om om om
  rw [Zhy (by unfold Nd.kid; omega) (by unfold Nd.kid; first | exact .inl om | exact .inr (by assumption))] at e4
  cases e4
 refine Zo (Zab (Zd (Zb (st (Zah rfl rfl om (st (Zc rfl (Zg ?_))))))))
 exact Zac ((j + 1)) ⟨hb3, by omega, fun j' j0 j1 j2 => if e : j' = j then by rw [e] at j2 ⊢; first | (exfalso; omega) | exact Zdf (.inl (by unfold Nd.kid; omega)) | exact Zdf (.inr ⟨by unfold Nd.kid; omega, by unfold Nd.kid; assumption⟩) else hb j' j0 om j2, hS3⟩ om sb
end Go.Proofs.Ytfljelnfjbbknaa.Nd
namespace Go.Proofs.Ytfljelnfjbbknaa.Nd
open Go.RowKit Go.Gw
set_option maxHeartbeats 1000000 in
theorem rnodes_any {va vb : Value} {l m : List Nd} {F : Nat → Prop} {w : World} (hl : Sl Kd.node w F va l) (hm : Sl Kd.node w F vb m) :
  Calls Try.prog 67 [va, vb].toArray w (Zbh w fun v _ => v = .bool (Nd.eqv l m)) := by
 have hb0 := Below.refl w.heap.size w
 have hln1 := hl.lenle
 have hln2 := hm.lenle
 refine enter Try.func67 rfl rfl (Zh (Zb (st (Ze rfl (Zg (Zd (Zh ?_)))))))
 refine Zh (Zb (st (Zc rfl (st (Zaq Zaw rfl (hl.at0 hb0) (st (Zc rfl (st (Zaq Zaw rfl (hm.at0 hb0) (st (s_ne rfl rfl ?_)))))))))))
 refine Zg (Zd ?_)
 refine Zw rfl (fun h1 => ?_) (fun h1 => ?_)
 ·refine Zh (Zb (st (Ze rfl (Zg (Zd (Zaa rfl rfl ?_))))))
  exact ⟨_, rfl, hb0, by rw [same_len om]⟩
 refine Zo (Zd (Zh (Zh (Zb (st (Ze rfl (Zg ?_)))))))
 refine Zd (Zz (Za2 (α := Int) (fun (i : Int) => [(0, va), (1, vb), (5, .int .i64 i)]) (fun (i : Int) W => Below w.heap.size w W ∧ (0 ≤ i ∧ i ≤ l.length) ∧ (∀ j : Int, 0 ≤ j → j < i → ix l j = ix m j)) (fun (i : Int) => (l.length - i).toNat) (0) ⟨hb0, by omega, fun j _ _ => by omega⟩ sb ?_))
 rintro i w1 ⟨hb1, hi, ha⟩
 have hz1 := hb1.size
 refine Zh (Zh (Zb (st (Zc rfl (st (Zc rfl (st (Zaq Zaw rfl (hl.at0 hb1) (st (Zbd rfl rfl ?_))))))))))
 refine Zg (Zd ?_)
 refine Zw rfl (fun h2 => ?_) (fun h2 => ?_)
 rotate_left
 ·refine Zak (Zk (Zk (Zs (Zd (Zh (Zb ?_))))))
  refine st (Ze rfl (Zg (Zd (Zaa rfl rfl ?_))))
  exact ⟨_, rfl, hb1, by rw [same_all om]; intro j j0 j1; exact ha j j0 om⟩
 refine Zo (Zd (Zh (Zz (Zh ?_))))
 obtain ⟨b1, o1, _, hat1, ⟨rfl, _⟩, hc1, hF1, hlt1⟩ := (hl.at0 hb1).elem i om om
 have hl_1 := Loc.lt hF1
 obtain ⟨b2, o2, _, hat2, ⟨rfl, _⟩, hc2, hF2, hlt2⟩ := (hm.at0 hb1).elem i om om
 have hl_2 := Loc.lt hF2
 refine Zce 9 GN [xi 17 <| va, xi 18 <| .int .i64 i, xi 19 <| .pointer (some ⟨b1, o1, none⟩), xi 20 <| .agg [.int .i64 ((ix l i).lv), .int .i64 ((ix l i).k0), .int .i64 ((ix l i).k1), .int .i64 ((ix l i).k2), .int .i64 ((ix l i).k3)].toArray, xi 21 <| vb, xi 22 <| .int .i64 i, xi 23 <| .pointer (some ⟨b2, o2, none⟩), xi 24 <| .agg [.int .i64 ((ix m i).lv), .int .i64 ((ix m i).k0), .int .i64 ((ix m i).k1), .int .i64 ((ix m i).k2), .int .i64 ((ix m i).k3)].toArray, xi 25 <| .bool (decide ((ix l i) ≠ (ix m i)))] [[], [], [0, 1], [2], [], [], [4, 5], [6], [3, 7]] [(0, va), (1, vb), (5, .int .i64 i)] sb kr kr Za gnt ⟨kv, kv, kv, kv, kv, kv, kv, kv, kv, trivial⟩ ?_
 intro w2 k1 hs1
 have hb2 := Zf hb1 k1
 refine ⟨⟨?_, ?_, ?_, ?_, ?_, ?_, ?_, ?_, ?_, trivial⟩, ?_⟩
 ·intro w3 k2
  refine op1 (Zc rfl ?_)
  exact ⟨rfl, Za _⟩
 ·intro w4 k3
  refine op1 (Zc rfl ?_)
  exact ⟨rfl, Za _⟩
 ·intro w5 k4
  intro v_ hv_; subst v_
  rintro _ rfl
  refine op1 (Zbo Zaw rfl rfl hat1 ?_)
  exact ⟨rfl, Za _⟩
 ·intro w6 k5
  rintro _ rfl
  refine op1 (Zp Za1 rfl (Zaj (Zaj hc1 k1) k5) rfl ?_)
  exact ⟨rfl, Za _⟩
 ·intro w7 k6
  refine op1 (Zc rfl ?_)
  exact ⟨rfl, Za _⟩
 ·intro w8 k7
  refine op1 (Zc rfl ?_)
  exact ⟨rfl, Za _⟩
 ·intro w9 k8
  intro v_ hv_; subst v_
  rintro _ rfl
  refine op1 (Zbo Zaw rfl rfl hat2 ?_)
  exact ⟨rfl, Za _⟩
 ·intro w10 k9
  rintro _ rfl
  refine op1 (Zp Za1 rfl (Zaj (Zaj hc2 k1) k9) rfl ?_)
  exact ⟨rfl, Za _⟩
 ·intro w11 k10
  rintro _ rfl _ rfl
  refine op1 (s_nenode eqNode rfl rfl ?_)
  exact ⟨rfl, Za _⟩
 intro w12 k11
 have hb12 := Zf hb2 k11
 intro v_ hv_; subst v_
 rintro _ rfl _ rfl _ rfl
 intro v_ hv_; subst v_
 rintro _ rfl _ rfl _ rfl _ rfl
 refine Zg (Zd ?_)
 refine Zw rfl (fun h3 => ?_) (fun h3 => ?_)
 ·refine Zh (Zb (st (Ze rfl (Zg (Zd (Zaa rfl rfl ?_))))))
  exact ⟨_, rfl, hb12, by rw [same_at i (by assumption)]⟩
 refine Zo (Zab (Zd (Zb (st (Zc rfl (st (Zah rfl rfl om (st (Ze rfl ?_)))))))))
 refine Zg ?_
 exact Zac ((i + 1)) ⟨hb12, by omega, fun j j0 j1 => if e : j = i then by rw [e]; exact Decidable.not_not.1 h3 else ha j j0 om⟩ om sb
set_option maxHeartbeats 1000000 in
theorem rsame_any {va vb : Value} {l m : List Nd} {F : Nat → Prop} {w : World} (hl : Sl Kd.node w F va l) (hm : Sl Kd.node w F vb m) :
  Calls Try.prog 32 [.agg [va].toArray, .agg [vb].toArray].toArray w (Zbh w fun v _ => v = .bool (Nd.eqv l m)) := by
 have hb0 := Below.refl w.heap.size w
 refine enter Try.func32 rfl rfl (Zh (Zb (st (Zbs rfl ?_))))
 intro g1 w1 hg1 hB1 k1 hs1
 change Blk w1 g1 25 [va].toArray at hB1
 have hb1 := Zf hb0 k1
 refine st (Zbs rfl ?_)
 intro g2 w2 hg2 hB2 k2 hs2
 change Blk w2 g2 25 [vb].toArray at hB2
 have hb2 := Zf hb1 k2
 refine st (Ze rfl (Zg (Zd (Zh (Zb (st (Zn Zcb rfl (st (Zt Zb8 rfl (hB1.g0 k2).range (j := 0) rfl ?_)))))))))
 refine st (Zn Zcb rfl (st (Zt Zb8 rfl hB2.range (j := 0) rfl (st (Zq fn67 rfl (rnodes_any (hl.at0 hb2).none (hm.at0 hb2).none) ?_)))))
 rintro _ w3 ⟨hq1, rfl⟩
 have k3 := Zi hq1 none
 have hz1 := hq1.size
 have hb3 := Zf hb2 k3
 have hz2 := hb3.size
 refine st (Ze rfl (Zg (Zd (Zaa rfl rfl ?_))))
 exact ⟨_, rfl, hb3, rfl⟩
end Go.Proofs.Ytfljelnfjbbknaa.Nd
namespace Go.Proofs.Ytfljelnfjbbknaa.Nd
open Go.RowKit Go.Gw
set_option maxHeartbeats 1000000 in
theorem Zi9 {va : Value} {l : List Nd} {F : Nat → Prop} {w : World} (hl : Sl Kd.node w F va l) (hl_ok : Zaf l = true) (hll : l.length ≤ 1000000) :
  Calls Try.prog 40 [va].toArray w (Zbh w fun v w' => Sl Kd.bool w' (fun _ => False) v (Zhi l)) := by
 have hb0 := Below.refl w.heap.size w
 have hln1 := hl.lenle
 refine enter Try.func40 rfl rfl (Zh (Zb (st (Ze rfl (Zg (Zd (Zh ?_)))))))
 refine Zb (st (Zc rfl (st (Zaq Zaw rfl (hl.at0 hb0) (st (Zah rfl rfl om (st (Zi5 (K := Kd.bool) (base := w.heap.size) (F := (fun _ => False)) Zcq rfl om om om (fun _ _ => ⟨rfl, trivial⟩) om (fun _ h => h.elim) ?_))))))))
 intro v1 w1 hO1 k1
 have hb1 := Zf hb0 k1
 have hz1 := hb1.size
 refine st (Ze rfl (Zg (Zd (Zh (Zb (st (Zc rfl (st (Zdv Zcq rfl rfl hO1 om (by first | (rw [List.length_replicate]; omega) | (rw [Zcn l i hi.1 om]; omega)) ?_)))))))))
 intro g1 hg1 hl_1 hl_2
 refine st0 (Zcl Zeg rfl rfl rfl rfl hO1 hg1 om (by first | (rw [List.length_replicate]; omega) | (rw [Zcn l i hi.1 om]; omega)) ⟨rfl, trivial⟩ ?_)
 intro w2 hO2 k2 hs1
 have hb2 := belowa hb1 k2
 refine Zg (Zd (Zh (Zh (Zb (st (Ze rfl (Zg ?_)))))))
 refine Zd (Zz (Za2 (α := Int) (fun (i : Int) => [(0, va), (2, .slice none 0 0), (3, v1), (4, .int .i64 i)]) (fun (i : Int) W => Below w.heap.size w W ∧ (0 ≤ i ∧ i ≤ l.length) ∧ (Gw.Own Kd.bool 4 w.heap.size W (fun _ => False) v1 (Zd5 l i))) (fun (i : Int) => (l.length - i).toNat) (0) ⟨hb2, by omega, by rw [← Zmi]; exact hO2⟩ sb ?_))
 rintro i w3 ⟨hb3, hi, hO⟩
 have hz2 := hb3.size
 refine Zh (Zh (Zb (st (Zc rfl (st (Zc rfl (st (Zaq Zaw rfl (hl.at0 hb3) (st (Zbd rfl rfl ?_))))))))))
 refine Zg (Zd ?_)
 refine Zw rfl (fun h1 => ?_) (fun h1 => ?_)
 rotate_left
 ·refine Zak (Zk (Zk (Zs (Zd (Zh (Zb ?_))))))
  refine st (Zc rfl (st (Ze rfl (Zg (Zd (Zaa rfl rfl ?_))))))
  have e : i = (l.length : Int) := by omega
  refine ⟨_, rfl, hb3, ?_⟩
  rw [← partE_end l, ← e]
  exact hO.sl
 have hlt := h1
 refine Zo (Zd (Zh (Zz (Zh (Zb (st (Ze rfl ?_)))))))
 refine Zg (Zd (Zh (Zh (Zb (st (Ze rfl (Zg ?_)))))))
 refine Zd (Zz (Za2 (α := Int × Bool) (fun ((k, em) : Int × Bool) => [(0, va), (2, .slice none 0 0), (3, v1), (4, .int .i64 i), (5, .bool em), (6, .int .i64 k)]) (fun ((k, em) : Int × Bool) W => Below w.heap.size w W ∧ (0 ≤ k ∧ k ≤ 4) ∧ (em = emptK (ix l i) (Zd5 l i) k) ∧ (Gw.Own Kd.bool 4 w.heap.size W (fun _ => False) v1 (Zd5 l i))) (fun ((k, em) : Int × Bool) => (4 - k).toNat) ((0), (true)) ⟨hb3, by omega, by rw [Zmm], hO⟩ sb ?_))
 rintro ⟨k, em⟩ w4 ⟨hb4, hk, he, hO2⟩
 dsimp only at *
 have hz3 := hb4.size
 refine Zh (Zh (Zb (st (Zc rfl (st (Zbd rfl rfl (Zg (Zd ?_))))))))
 refine Zw rfl (fun h2 => ?_) (fun h2 => ?_)
 rotate_left
 ·refine Zak (Zk (Zk (Zs (Zd (Zb (st (Zc rfl ?_)))))))
  refine st (Zc rfl (st (Zah rfl rfl om (st (Zc rfl (st (Zdv Zcq rfl rfl hO2 om (by first | (rw [List.length_replicate]; omega) | (rw [Zcn l i hi.1 om]; omega)) ?_)))))))
  intro g2 hg2 hl_5 hl_6
  refine st0 (Zcl Zeg rfl rfl rfl rfl hO2 hg2 om (by first | (rw [List.length_replicate]; omega) | (rw [Zcn l i hi.1 om]; omega)) ⟨rfl, trivial⟩ ?_)
  intro w5 hO3 k3 hs2
  have hb5 := belowa hb4 k3
  refine Zg (Zab (Zd (Zb (st (Zc rfl (st (Zah rfl rfl om (st (Ze rfl ?_)))))))))
  refine Zg ?_
  exact Zac ((i + 1)) ⟨hb5, by omega, by rw [← partE_set l i hi.1 hlt (Zh2 hl_ok hi.1 hlt) (Ze9 hl_ok hi.1 hlt).1, show (4 : Int) = k by omega, ← he]; exact hO3⟩ om sb
 refine Zo (Zd (Zh (Zz (Zh (Zb (st (Zc rfl ?_)))))))
 refine st (Zc rfl (st (Zc rfl (st (Zat Zaw rfl rfl (hl.at0 hb4) om om ?_)))))
 rintro b1 o1 _ ⟨rfl, _⟩ hc1 hF1 hlt1
 have hl_3 := Loc.lt hF1
 refine st (Zn Zav rfl (st (Zbi Zb9 rfl rfl om om (st (Zc3 Za9 rfl hc1 (j := 1) rfl rfl om om (st (Ze rfl (Zg (Zd (Zb ?_))))))))))
 refine st (Zc rfl (st (Zc rfl ?_)))
 refine Zd7 32 rfl (fun h3 => ?_) (fun h3 => ?_)
 rotate_left
 ·refine Zj rfl rfl (Zj rfl rfl (Zj rfl rfl (Zal rfl rfl (Zal rfl rfl (Zal rfl rfl (Zal rfl rfl ?_))))))
  refine Zal rfl rfl (Zal rfl rfl (Zal rfl rfl (Zal rfl rfl (Zal rfl rfl (Zal rfl rfl (Zal rfl rfl ?_))))))
  refine Zal rfl rfl (Zj rfl rfl (st (Zr rfl rfl (st (Ze rfl (Zg (Zab (Zd ?_))))))))
  refine Zb (st (Zc rfl (st (Zah rfl rfl om (st (Ze rfl (Zg ?_)))))))
  exact Zac (((k + 1)), (false)) ⟨hb4, by omega, by rw [Zeh _ _ _ hk.1 om, ← he]; simp [Nd.kid, h1, h2, h3], hO2⟩ om sb
 refine stg (Zc rfl (stg (Zbu rfl rfl (stg (Zc rfl ?_)))))
 refine Zax 35 rfl (fun h4 => ?_) (fun h4 => ?_)
 ·refine Zj rfl rfl (Zj rfl rfl (Zj rfl rfl (Zj rfl rfl (Zj rfl rfl (Zj rfl rfl (Zj rfl rfl ?_))))))
  refine Zal rfl rfl (Zal rfl rfl (Zal rfl rfl (Zal rfl rfl (Zj rfl rfl (stg (Zr rfl rfl (st (Zr rfl rfl ?_))))))))
  refine st (Ze rfl (Zg (Zab (Zd (Zb (st (Zc rfl (st (Zah rfl rfl om ?_)))))))))
  refine st (Ze rfl (Zg ?_))
  exact Zac (((k + 1)), (true)) ⟨hb4, by omega, by rw [Zeh _ _ _ hk.1 om, ← he]; simp [Nd.kid, h1, h2, h3, h4], hO2⟩ om sb
 refine stg (Zc rfl (stg (Zc rfl (stg (Zat Zaw rfl rfl (hl.at0 hb4) om om ?_)))))
 rintro b2 o2 _ ⟨rfl, _⟩ hc2 hF2 hlt2
 have hl_4 := Loc.lt hF2
 refine stg (Zn Zaz rfl (stg (Zt Za9 rfl hc2 (j := 0) rfl (stg (Zch rfl rfl (stg (Zc rfl ?_)))))))
 refine Zax 42 rfl (fun h5 => ?_) (fun h5 => ?_)
 rotate_left
 ·refine Zj rfl rfl (Zj rfl rfl (Zj rfl rfl (Zj rfl rfl (stg (Zr rfl rfl (stg (Zr rfl rfl (st (Zr rfl rfl ?_)))))))))
  refine st (Ze rfl (Zg (Zab (Zd (Zb (st (Zc rfl (st (Zah rfl rfl om ?_)))))))))
  refine st (Ze rfl (Zg ?_))
  exact Zac (((k + 1)), (false)) ⟨hb4, by omega, by rw [Zeh _ _ _ hk.1 om, ← he]; simp [Nd.kid, h2, h3, h4, h5], hO2⟩ om sb
 have hkid := Zdm hl_ok (i := i) (k := k) hi.1 hlt hk.1 om om (by simpa [Nd.kid] using h4)
 unfold Nd.kid at hkid
 have hpl := Zcn l i hi.1 om
 refine stg (Zc rfl (stg (Zc rfl (stg (Zat Zcq rfl rfl hO2.sl om om ?_)))))
 rintro b3 o3 _ ⟨rfl, _⟩ hc3 hF3 hlt3
 refine stg (Zt Zeg rfl hc3 (j := 0) rfl (stg (Zr rfl rfl (stg (Zr rfl rfl (st (Zr rfl rfl (st (Ze rfl (Zg (Zab ?_)))))))))))
 refine Zd (Zb (st (Zc rfl (st (Zah rfl rfl om (st (Ze rfl (Zg ?_))))))))
 exact Zac (((k + 1)), ((ix (Zd5 l i) (Zae ((ix l i).k0) ((ix l i).k1) ((ix l i).k2) ((ix l i).k3) k)))) ⟨hb4, by omega, by rw [Zeh _ _ _ hk.1 om, ← he]; simp [Nd.kid, h2, h3, h4, h5], hO2⟩ om sb
set_option maxHeartbeats 1000000 in
theorem rempty_any {va : Value} {l : List Nd} {F : Nat → Prop} {w : World} (hl : Sl Kd.node w F va l) {n : Int} (hl_ok : Zaf l = true) (hll : l.length ≤ 1000000) (h0 : 0 ≤ n) (h1 : n ≤ l.length) :
  Calls Try.prog 72 [va, .int .i64 n].toArray w (Zbh w fun v _ => v = .bool (!(ix (Zca l) n))) := by
 have hb0 := Below.refl w.heap.size w
 have hln1 := hl.lenle
 have hlen := Zej l
 refine enter Try.func72 rfl rfl (Zh (Zb (st (Ze rfl (Zg (Zd (Zh ?_)))))))
 refine Zb (st (Zc rfl (st (Zq fn40 rfl (Zi9 (hl.at0 hb0) hl_ok hll) ?_))))
 rintro v1 w1 ⟨hq1, hS1⟩
 have k1 := Zi hq1 none
 have hz1 := hq1.size
 have hb1 := Zf hb0 k1
 have hz2 := hb1.size
 refine st (Zc rfl (st (Zat Zcq rfl rfl hS1 om om ?_)))
 rintro b1 o1 _ ⟨rfl, _⟩ hc1 hF1 hlt1
 refine st (Zt Zeg rfl hc1 (j := 0) rfl (st (Ze rfl (Zg (Zd (Zaa rfl rfl ?_))))))
 exact ⟨_, rfl, hb1, by rw [Zfl l n h0 h1]⟩
set_option maxHeartbeats 1000000 in
theorem Zmc {va : Value} {l : List Nd} {F : Nat → Prop} {w : World} (hl : Sl Kd.node w F va l) {n : Int} (hl_ok : Zaf l = true) (hll : l.length ≤ 1000000) (h0 : 0 ≤ n) (h1 : n ≤ l.length) :
  Calls Try.prog 68 [va, .int .i64 n].toArray w (Zbh w fun v _ => v = .bool (Zev l n)) := by
 have hb0 := Below.refl w.heap.size w
 have hln1 := hl.lenle
 have hlen := Zej l
 refine enter Try.func68 rfl rfl (Zh (Zb (st (Ze rfl (Zg (Zd (Zh ?_)))))))
 refine Zh (Zb (st (Zc rfl (st (Zbu rfl rfl (st (Zc rfl ?_)))))))
 refine Zax 12 rfl (fun h1 => ?_) (fun h1 => ?_)
 ·refine Zj rfl rfl (Zj rfl rfl (Zj rfl rfl (Zj rfl rfl (Zj rfl rfl (Zj rfl rfl (Zj rfl rfl ?_))))))
  refine st (Zr rfl rfl (Zg (Zd (Zb0 rfl (Zh (Zb (st (Ze rfl ?_))))))))
  refine Zg (Zd (Zaa rfl rfl ?_))
  exact ⟨_, rfl, hb0, by rw [Zek]; rintro ⟨e1, e2, e3⟩; omega⟩
 have hlv := (Ze9 hl_ok (i := n - 1) om om).1
 refine stg (Zc rfl (stg (Zc rfl (stg (Za7 rfl rfl om (stg (Zat Zaw rfl rfl (hl.at0 hb0) om om ?_)))))))
 rintro b1 o1 _ ⟨rfl, _⟩ hc1 hF1 hlt1
 have hl_1 := Loc.lt hF1
 refine stg (Zn Zaz rfl (stg (Zt Za9 rfl hc1 (j := 0) rfl (stg (Zbd rfl rfl (st (Zr rfl rfl (Zg (Zd ?_)))))))))
 refine Zw rfl (fun h2 => ?_) (fun h2 => ?_)
 ·refine Zh (Zb (st (Ze rfl (Zg (Zd (Zaa rfl rfl ?_))))))
  exact ⟨_, rfl, hb0, by rw [Zek]; rintro ⟨e1, e2, e3⟩; omega⟩
 refine Zo (Zd (Zh (Zb (st (Zc rfl (st (Zq fn40 rfl (Zi9 (hl.at0 hb0) hl_ok hll) ?_)))))))
 rintro v1 w1 ⟨hq1, hS1⟩
 have k1 := Zi hq1 none
 have hz1 := hq1.size
 have hb1 := Zf hb0 k1
 have hz2 := hb1.size
 refine st (Ze rfl (Zg (Zd (Zh (Zh (Zb (st (Ze rfl ?_))))))))
 refine Zg (Zd (Zz (Za2 (α := Int) (fun (k : Int) => [(0, va), (1, .int .i64 n), (5, v1), (6, .int .i64 k)]) (fun (k : Int) W => Below w.heap.size w W ∧ (0 ≤ k ∧ k ≤ 4) ∧ (∀ k' : Int, 0 ≤ k' → k' < k → holK l n k') ∧ (Sl Kd.bool W (fun _ => False) v1 (Zhi l))) (fun (k : Int) => (4 - k).toNat) (0) ⟨hb1, by omega, fun k' _ _ => by omega, hS1⟩ sb ?_)))
 rintro k w2 ⟨hb2, hk, ha, hS2⟩
 have hz3 := hb2.size
 refine Zh (Zh (Zb (st (Zc rfl (st (Zbd rfl rfl (Zg (Zd ?_))))))))
 refine Zw rfl (fun h3 => ?_) (fun h3 => ?_)
 rotate_left
 ·refine Zak (Zk (Zk (Zs (Zd (Zh (Zb ?_))))))
  refine st (Ze rfl (Zg (Zd (Zaa rfl rfl ?_))))
  exact ⟨_, rfl, hb2, by rw [(Zd9 l n).2]; exact ⟨by omega, by omega, fun k k0 k1 => ha k k0 om⟩⟩
 refine Zo (Zd (Zh (Zz (Zh (Zb (st (Zc rfl ?_)))))))
 refine st (Zc rfl (st (Za7 rfl rfl om (st (Zc rfl (st (Zat Zaw rfl rfl (hl.at0 hb2) om om ?_)))))))
 rintro b2 o2 _ ⟨rfl, _⟩ hc2 hF2 hlt2
 have hl_2 := Loc.lt hF2
 refine st (Zn Zav rfl (st (Zbi Zb9 rfl rfl om om (st (Zc3 Za9 rfl hc2 (j := 1) rfl rfl om om (st (Ze rfl (Zg (Zd (Zh ?_))))))))))
 refine Zb (st (Ze rfl (Zg (Zd (Zz (Za2 (α := Int) (fun (j : Int) => [(0, va), (1, .int .i64 n), (5, v1), (6, .int .i64 k), (7, .int .i64 (Zae ((ix l (n - 1)).k0) ((ix l (n - 1)).k1) ((ix l (n - 1)).k2) ((ix l (n - 1)).k3) k)), (8, .int .i64 j)]) (fun (j : Int) W => Below w.heap.size w W ∧ (0 ≤ j ∧ j ≤ 4) ∧ (∀ j' : Int, 0 ≤ j' → j' < j → j' ≠ 3 - k → Zes (ix l ((ix l (n - 1)).kid k - 1)) (Zca l) ((ix l ((ix l (n - 1)).kid k - 1)).kid j') = false) ∧ (Sl Kd.bool W (fun _ => False) v1 (Zhi l))) (fun (j : Int) => (4 - j).toNat) (0) ⟨hb2, by omega, fun j' _ _ _ => by omega, hS2⟩ sb ?_))))))
 rintro j w3 ⟨hb3, hj, hb, hS3⟩
 have hz4 := hb3.size
 have hkid0 : (ix l (n - 1)).kid k ≠ 0 → _ := fun e => Zdm hl_ok (i := n - 1) (k := k) om om hk.1 om om e
 refine Zh (Zh (Zb (st (Zc rfl (st (Zbd rfl rfl (st (Zc rfl ?_))))))))
 refine Zax 37 rfl (fun h4 => ?_) (fun h4 => ?_)
 rotate_left
 ·refine Zj rfl rfl (Zj rfl rfl (st (Zr rfl rfl (Zg (Zd (Zbv rfl (Zak ?_)))))))
  refine Zk (Zk (Zs (Zab (Zd (Zb (st (Zc rfl ?_)))))))
  refine st (Zah rfl rfl om (st (Ze rfl (Zg ?_))))
  exact Zac ((k + 1)) ⟨hb3, by omega, fun k' k0 k1 => if e : k' = k then by rw [e]; intro e2 j' j0 j1 j2; exact hb j' j0 (by first | omega | (have := hkid0 e2; unfold Nd.kid at this; omega)) j2 else ha k' k0 om, hS3⟩ om sb
 refine stg (Zc rfl (stg (Zch rfl rfl (st (Zr rfl rfl (Zg (Zd ?_)))))))
 refine Zw rfl (fun h5 => ?_) (fun h5 => ?_)
 rotate_left
 ·refine Zak (Zk (Zk (Zs (Zab (Zd (Zb ?_))))))
  refine st (Zc rfl (st (Zah rfl rfl om (st (Ze rfl (Zg ?_))))))
  exact Zac ((k + 1)) ⟨hb3, by omega, fun k' k0 k1 => if e : k' = k then by rw [e]; intro e2 j' j0 j1 j2; exact hb j' j0 (by first | omega | (have := hkid0 e2; unfold Nd.kid at this; omega)) j2 else ha k' k0 om, hS3⟩ om sb
 have hkid := hkid0 (by unfold Nd.kid; omega)
 unfold Nd.kid at hkid
 refine Zo (Zd (Zh (Zz (Zh (Zb (st (Zc rfl ?_)))))))
 refine st (Zc rfl (st (Za7 rfl rfl om (st (Zc rfl (st (Zat Zaw rfl rfl (hl.at0 hb3) om om ?_)))))))
 rintro b3 o3 _ ⟨rfl, _⟩ hc3 hF3 hlt3
 have hl_3 := Loc.lt hF3
 refine st (Zn Zav rfl (st (Zbi Zb9 rfl rfl om om (st (Zc3 Za9 rfl hc3 (j := 1) rfl rfl om om (st (Ze rfl (Zg (Zd (Zh ?_))))))))))
 refine Zb (st (Zc rfl (st (Zc rfl (st (Za7 rfl rfl om (st (s_ne rfl rfl (st (Zc rfl ?_))))))))))
 refine Zax 55 rfl (fun h6 => ?_) (fun h6 => ?_)
 rotate_left
 ·refine Zj rfl rfl (Zj rfl rfl (Zj rfl rfl (Zj rfl rfl (Zj rfl rfl (Zj rfl rfl (Zj rfl rfl ?_))))))
  refine Zj rfl rfl (Zal rfl rfl (Zal rfl rfl (Zj rfl rfl (Zj rfl rfl (Zal rfl rfl (Zal rfl rfl ?_))))))
  refine Zal rfl rfl (Zal rfl rfl (Zal rfl rfl (Zal rfl rfl (Zal rfl rfl (Zal rfl rfl (Zal rfl rfl ?_))))))
  refine Zal rfl rfl (Zal rfl rfl (Zal rfl rfl (Zal rfl rfl (Zal rfl rfl (Zj rfl rfl (st (Zr rfl rfl ?_)))))))
  refine Zg (Zd (Zbv rfl (Zo (Zab (Zd (Zb ?_))))))
  refine st (Zc rfl (st (Zah rfl rfl om (st (Ze rfl (Zg ?_))))))
  exact Zac ((j + 1)) ⟨hb3, by omega, fun j' j0 j1 j2 => if e : j' = j then by rw [e] at j2 ⊢; first | (exfalso; omega) | exact Zdf (.inl (by unfold Nd.kid; omega)) | exact Zdf (.inr ⟨by unfold Nd.kid; omega, by unfold Nd.kid; assumption⟩) else hb j' j0 om j2, hS3⟩ om sb
 refine stg (Zc rfl (stg (Zc rfl (stg (Za7 rfl rfl om (stg (Zat Zaw rfl rfl (hl.at0 hb3) om om ?_)))))))
 rintro b4 o4 _ ⟨rfl, _⟩ hc4 hF4 hlt4
 have hl_4 := Loc.lt hF4
 refine stg (Zn Zaz rfl (stg (Zt Za9 rfl hc4 (j := 0) rfl (stg (Zbu rfl rfl (stg (Zc rfl ?_)))))))
 refine Zax 63 rfl (fun h7 => ?_) (fun h7 => ?_)
 rotate_left
 ·refine Zj rfl rfl (Zj rfl rfl (stg (Zr rfl rfl (stg (Zc rfl (stg (Zc rfl (stg (Zc rfl (stg (Za7 rfl rfl om ?_)))))))))))
  refine stg (Zat Zaw rfl rfl (hl.at0 hb3) om om ?_)
  rintro b7 o7 _ ⟨rfl, _⟩ hc7 hF7 hlt7
  have hl_6 := Loc.lt hF7
  refine stg (Zn Zaz rfl (stg (Zt Za9 rfl hc7 (j := 0) rfl (stg (Zch rfl rfl (stg (Zc rfl ?_)))))))
  refine Zax 75 rfl (fun h11 => ?_) (fun h11 => ?_)
  rotate_left
  ·refine Zj rfl rfl (Zj rfl rfl (Zj rfl rfl (Zj rfl rfl (Zj rfl rfl (stg (Zr rfl rfl (stg (Zr rfl rfl ?_))))))))
   refine st (Zr rfl rfl (Zg (Zd (Zbv rfl (Zo (Zab (Zd ?_)))))))
   refine Zb (st (Zc rfl (st (Zah rfl rfl om (st (Ze rfl (Zg ?_)))))))
   exact Zac ((j + 1)) ⟨hb3, by omega, fun j' j0 j1 j2 => if e : j' = j then by rw [e] at j2 ⊢; first | (exfalso; omega) | exact Zdf (.inl (by unfold Nd.kid; omega)) | exact Zdf (.inr ⟨by unfold Nd.kid; omega, by unfold Nd.kid; assumption⟩) else hb j' j0 om j2, hS3⟩ om sb
  have hkid2 : (ix l ((ix l (n - 1)).kid k - 1)).kid j ≠ 0 → _ := fun e => Zdm hl_ok (by unfold Nd.kid; omega) (by unfold Nd.kid; omega) hj.1 om (by unfold Nd.kid; omega) e
  unfold Nd.kid at hkid2
  refine stg (Zc rfl (stg (Zc rfl (stg (Zat Zcq rfl rfl hS3 om om ?_)))))
  rintro b8 o8 _ ⟨rfl, _⟩ hc8 hF8 hlt8
  refine stg (Zt Zeg rfl hc8 (j := 0) rfl (stg (Zdd rfl (stg (Zr rfl rfl (stg (Zr rfl rfl (st (Zr rfl rfl (Zg (Zd ?_)))))))))))
  refine Zba rfl (fun h12 => ?_) (fun h12 => ?_)
  ·rw [Zfl l _ om om, Bool.not_not] at h12
   have hg0 := hasL_nz h12
   refine Zh (Zb (st (Ze rfl (Zg (Zd (Zaa rfl rfl ?_))))))
   refine ⟨_, rfl, hb3, ?_⟩
   rw [Zek]
   rintro ⟨e1, e2, e3⟩
   have e4 := e3 k om om (by unfold Nd.kid; omega) j om om om
   rw [Zhy (by unfold Nd.kid; omega) (by unfold Nd.kid; first | exact .inl om | exact .inr (by assumption))] at e4
   cases e4
  rw [Zfl l _ om om, Bool.not_not] at h12
  refine Zo (Zab (Zd (Zb (st (Zc rfl (st (Zah rfl rfl om (st (Ze rfl ?_)))))))))
  refine Zg ?_
  exact Zac ((j + 1)) ⟨hb3, by omega, fun j' j0 j1 j2 => if e : j' = j then by rw [e] at j2 ⊢; first | (exfalso; omega) | exact Zdf (.inl (by unfold Nd.kid; omega)) | exact Zdf (.inr ⟨by unfold Nd.kid; omega, by unfold Nd.kid; assumption⟩) else hb j' j0 om j2, hS3⟩ om sb
 refine stg (Zc rfl (stg (s_ne rfl rfl (stg (Zr rfl rfl (stg (Zc rfl ?_)))))))
 refine Zax 67 rfl (fun h8 => ?_) (fun h8 => ?_)
 ·refine Zj rfl rfl (Zj rfl rfl (Zj rfl rfl (Zj rfl rfl (Zj rfl rfl (Zj rfl rfl (Zj rfl rfl ?_))))))
  refine Zj rfl rfl (Zal rfl rfl (Zal rfl rfl (Zal rfl rfl (Zal rfl rfl (Zal rfl rfl (Zj rfl rfl ?_))))))
  refine stg (Zr rfl rfl (st (Zr rfl rfl (Zg (Zd (Zb0 rfl (Zh (Zb ?_))))))))
  refine st (Ze rfl (Zg (Zd (Zaa rfl rfl ?_))))
  refine ⟨_, rfl, hb3, ?_⟩
  rw [Zek]
  rintro ⟨e1, e2, e3⟩
  have e4 := e3 k om om (by unfold Nd.kid; omega) j om om om
  rw [Zhy (by unfold Nd.kid; omega) (by unfold Nd.kid; first | exact .inl om | exact .inr (by assumption))] at e4
  cases e4
 refine stg (Zc rfl (stg (Zc rfl (stg (Za7 rfl rfl om (stg (Zat Zaw rfl rfl (hl.at0 hb3) om om ?_)))))))
 rintro b5 o5 _ ⟨rfl, _⟩ hc5 hF5 hlt5
 have hl_5 := Loc.lt hF5
 refine stg (Zn Zaz rfl (stg (Zt Za9 rfl hc5 (j := 0) rfl (stg (Zch rfl rfl (stg (Zc rfl ?_)))))))
 refine Zax 75 rfl (fun h9 => ?_) (fun h9 => ?_)
 rotate_left
 ·refine Zj rfl rfl (Zj rfl rfl (Zj rfl rfl (Zj rfl rfl (Zj rfl rfl (stg (Zr rfl rfl (stg (Zr rfl rfl ?_))))))))
  refine st (Zr rfl rfl (Zg (Zd (Zbv rfl (Zo (Zab (Zd ?_)))))))
  refine Zb (st (Zc rfl (st (Zah rfl rfl om (st (Ze rfl (Zg ?_)))))))
  exact Zac ((j + 1)) ⟨hb3, by omega, fun j' j0 j1 j2 => if e : j' = j then by rw [e] at j2 ⊢; first | (exfalso; omega) | exact Zdf (.inl (by unfold Nd.kid; omega)) | exact Zdf (.inr ⟨by unfold Nd.kid; omega, by unfold Nd.kid; assumption⟩) else hb j' j0 om j2, hS3⟩ om sb
 have hkid2 : (ix l ((ix l (n - 1)).kid k - 1)).kid j ≠ 0 → _ := fun e => Zdm hl_ok (by unfold Nd.kid; omega) (by unfold Nd.kid; omega) hj.1 om (by unfold Nd.kid; omega) e
 unfold Nd.kid at hkid2
 refine stg (Zc rfl (stg (Zc rfl (stg (Zat Zcq rfl rfl hS3 om om ?_)))))
 rintro b6 o6 _ ⟨rfl, _⟩ hc6 hF6 hlt6
 refine stg (Zt Zeg rfl hc6 (j := 0) rfl (stg (Zdd rfl (stg (Zr rfl rfl (stg (Zr rfl rfl (st (Zr rfl rfl (Zg (Zd ?_)))))))))))
 refine Zba rfl (fun h10 => ?_) (fun h10 => ?_)
 ·rw [Zfl l _ om om, Bool.not_not] at h10
  have hg0 := hasL_nz h10
  refine Zh (Zb (st (Ze rfl (Zg (Zd (Zaa rfl rfl ?_))))))
  refine ⟨_, rfl, hb3, ?_⟩
  rw [Zek]
  rintro ⟨e1, e2, e3⟩
  have e4 := e3 k om om (by unfold Nd.kid; omega) j om om om
  rw [Zhy (by unfold Nd.kid; omega) (by unfold Nd.kid; first | exact .inl om | exact .inr (by assumption))] at e4
  cases e4
 rw [Zfl l _ om om, Bool.not_not] at h10
 refine Zo (Zab (Zd (Zb (st (Zc rfl (st (Zah rfl rfl om (st (Ze rfl ?_)))))))))
 refine Zg ?_
 exact Zac ((j + 1)) ⟨hb3, by omega, fun j' j0 j1 j2 => if e : j' = j then by rw [e] at j2 ⊢; first | (exfalso; omega) | exact Zdf (.inl (by unfold Nd.kid; omega)) | exact Zdf (.inr ⟨by unfold Nd.kid; omega, by unfold Nd.kid; assumption⟩) else hb j' j0 om j2, hS3⟩ om sb
end Go.Proofs.Ytfljelnfjbbknaa.Nd
namespace Go.Proofs.Ytfljelnfjbbknaa.Nd
open Go.RowKit Go.Gw
theorem end_any {a : World} {va : Value} {l : List Nd} {F : Nat → Prop} (hl : Sl Kd.node a F va l) (hl_ok : Zaf l = true) (hll : l.length ≤ 1000000) :
  ∀ (f : Nat) {w : World} {vo : Value} {E : List Int} {n : Int}, n ≤ f → 1 ≤ n → n ≤ l.length → Below a.heap.size a w → Gw.Own (Kd.num .i64) 3 a.heap.size w (fun _ => False) vo E → OkE l.length E →
  Calls Try.prog 69 [va, .int .i64 n, vo].toArray w (Ret fun v w' => Below a.heap.size a w' ∧ Gw.Own (Kd.num .i64) 3 a.heap.size w' (fun _ => False) v (Zhk l f n E)) := by
 intro f
 induction f with
 | zero => intro w vo E n h1 h2; omega
 | succ f ih =>
  intro w vo E n hnf hn0 hn1 hb0 hE hok
  have hnf2 : n ≤ (f : Int) + 1 := by omega
  have hz0 := hb0.size
  have hln1 := hl.lenle
  have hlenE := hE.lenle
  refine enter Try.func69 rfl rfl (Zh (Zb (st (Ze rfl (Zg (Zd (Zh ?_)))))))
  refine Zh (Zb (st (Ze rfl (Zg (Zd (Zz (Za2 (α := Int) (fun (i : Int) => [(0, va), (1, .int .i64 n), (2, vo), (7, .int .i64 i)]) (fun (i : Int) W => Below a.heap.size a W ∧ (0 ≤ i ∧ i ≤ E.length) ∧ (∀ j : Int, 0 ≤ j → j < i → ix E j ≠ n) ∧ (Gw.Own (Kd.num .i64) 3 a.heap.size W (fun _ => False) vo E)) (fun (i : Int) => (E.length - i).toNat) (0) ⟨hb0, by omega, fun j _ _ => by omega, hE⟩ sb ?_)))))))
  rintro i w1 ⟨hb1, hi, ha, hE1⟩
  have hz1 := hb1.size
  refine Zh (Zh (Zb (st (Zc rfl (st (Zc rfl (st (Zaq sl65 rfl hE1.sl (st (Zbd rfl rfl ?_))))))))))
  refine Zg (Zd ?_)
  refine Zw rfl (fun h1 => ?_) (fun h1 => ?_)
  ·refine Zo (Zd (Zh (Zz (Zh (Zb (st (Zc rfl ?_)))))))
   refine st (Zc rfl (st (Zat sl65 rfl rfl hE1.sl om om ?_)))
   rintro b1 o1 _ ⟨rfl, _⟩ hc1 hF1 hlt1
   refine st (Zt Za9 rfl hc1 (j := 0) rfl (st (Zc rfl (st (Zbu rfl rfl (Zg (Zd ?_)))))))
   refine Zw rfl (fun h2 => ?_) (fun h2 => ?_)
   ·refine Zh (Zb (st (Zc rfl (st (Ze rfl (Zg (Zd (Zaa rfl rfl ?_))))))))
    refine ⟨_, rfl, hb1, ?_⟩
    rw [endF_in (by rw [← h2]; exact ix_mem om om)]
    exact hE1
   refine Zo (Zab (Zd (Zb (st (Zc rfl (st (Zah rfl rfl om (st (Ze rfl ?_)))))))))
   refine Zg ?_
   exact Zac ((i + 1)) ⟨hb1, by omega, fun j j0 j1 => if e : j = i then by rw [e]; exact h2 else ha j j0 om, hE1⟩ om sb
  refine Zak (Zk (Zk (Zs (Zd (Zh (Zh ?_))))))
  refine Zb (st (Ze rfl (Zg (Zd (Zz ?_)))))
  have hno := not_mem_ix (by omega : i = (E.length : Int)) ha
  refine Za2 (α := Int × List Int × Value) (fun ((k, Ek, vk) : Int × List Int × Value) => [(0, va), (1, .int .i64 n), (2, vk), (8, .int .i64 k)]) (fun ((k, Ek, vk) : Int × List Int × Value) W => Below a.heap.size a W ∧ (0 ≤ k ∧ k ≤ 4) ∧ (Ek = endV l f (ix l (n - 1)) E k) ∧ (Gw.Own (Kd.num .i64) 3 a.heap.size W (fun _ => False) vk Ek) ∧ (OkE l.length Ek) ∧ (¬ n ∈ Ek)) (fun ((k, Ek, vk) : Int × List Int × Value) => (4 - k).toNat) ((0), (E), (vo)) ⟨hb1, by omega, by rw [endV_zero], hE1, hok, hno⟩ sb ?_
  rintro ⟨k, Ek, vk⟩ w2 ⟨hb2, hk, hEe, hEk, hok2, hno2⟩
  dsimp only at *
  have hz2 := hb2.size
  refine Zh (Zh (Zb (st (Zc rfl (st (Zbd rfl rfl (Zg (Zd ?_))))))))
  refine Zw rfl (fun h3 => ?_) (fun h3 => ?_)
  rotate_left
  ·refine Zak (Zk (Zk (Zs (Zd (Zh (Zb ?_))))))
   refine st (Zc rfl (st (Zc rfl (st (Zau (ps := [(0, .tmp 56)]) (ccs := [#[.int .i64 n]]) (e := 3) (cells := [.int .i64 n]) rfl rfl kr dc nz3 ?_)))))
   intro g1 w4 hg1 hB1 k2 hs1
   have hb4 := Zf hb2 k2
   have hz4 := hb4.size
   have hO2 := hEk.g0 k2
   refine st (Za4 (K := (Kd.num .i64)) sl65 rfl rfl hO2 (lit_num hB1 hEk (fun h => h) hg1) (num_ones _) (by have := hok2.len; simp; omega) (by have := hok2.len; simp; omega) (by first | exact Nat.le_refl _ | omega) (fun _ h => h.elim) ?_)
   intro v1 w5 hO3 k3 hr5
   have hb5 := hb4.grown k3 hb4.size (fun k_ hk_ => (hO2.lt k_ hk_).1)
   have hz5 := hb5.size
   refine st (Ze rfl (Zg (Zd (Zaa rfl rfl ?_))))
   have e4 : k = 4 := by omega
   subst e4
   refine ⟨_, rfl, hb5, ?_⟩
   rw [endF_eq hno, ← hEe]
   exact hO3
  refine Zo (Zd (Zh (Zz (Zh (Zb (st (Zc rfl ?_)))))))
  refine st (Zc rfl (st (Za7 rfl rfl om (st (Zat Zaw rfl rfl (hl.at0 hb2) om om ?_)))))
  rintro b2 o2 _ ⟨rfl, _⟩ hc2 hF2 hlt2
  have hl_1 := Loc.lt hF2
  refine st (Zn Zaz rfl (st (Zt Za9 rfl hc2 (j := 0) rfl (st (Zch rfl rfl (st (Zc rfl ?_)))))))
  refine Zax 33 rfl (fun h4 => ?_) (fun h4 => ?_)
  rotate_left
  ·refine Zj rfl rfl (Zj rfl rfl (Zj rfl rfl (Zj rfl rfl (Zj rfl rfl (Zj rfl rfl (Zj rfl rfl ?_))))))
   refine Zj rfl rfl (Zj rfl rfl (st (Zr rfl rfl (Zg (Zd (Zbv rfl (Zo ?_)))))))
   refine Zab (Zd (Zb (st (Zc rfl (st (Zah rfl rfl om (st (Ze rfl (Zg ?_)))))))))
   exact Zac (((k + 1)), ((Ek)), (vk)) ⟨hb2, by omega, by rw [hEe]; exact (endV_no hk.1 om (fun h => absurd h h4)).symm, hEk, hok2, hno2⟩ om sb
  have hkin := fun k k0 k1 e => Zdm hl_ok (i := n - 1) (k := k) om om k0 k1 om e
  refine stg (Zc rfl (stg (Zc rfl (stg (Za7 rfl rfl om (stg (Zc rfl (stg (Zat Zaw rfl rfl (hl.at0 hb2) om om ?_)))))))))
  rintro b3 o3 _ ⟨rfl, _⟩ hc3 hF3 hlt3
  have hl_2 := Loc.lt hF3
  refine stg (Zn Zav rfl (stg (Zbi Zb9 rfl rfl om om (stg (Zc3 Za9 rfl hc3 (j := 1) rfl rfl om om (stg (Zch rfl rfl (st (Zr rfl rfl (Zg (Zd ?_)))))))))))
  refine Zw rfl (fun h5 => ?_) (fun h5 => ?_)
  rotate_left
  ·refine Zo (Zab (Zd (Zb (st (Zc rfl (st (Zah rfl rfl om (st (Ze rfl ?_)))))))))
   refine Zg ?_
   exact Zac (((k + 1)), ((Ek)), (vk)) ⟨hb2, by omega, by rw [hEe]; exact (endV_no hk.1 om (fun _ => by unfold Nd.kid; omega)).symm, hEk, hok2, hno2⟩ om sb
  have hkid := hkin k hk.1 om (by unfold Nd.kid; omega)
  unfold Nd.kid at hkid
  refine Zb (st (Zc rfl (st (Zc rfl (st (Zc rfl (st (Za7 rfl rfl om (st (Zc rfl (st (Zat Zaw rfl rfl (hl.at0 hb2) om om ?_))))))))))))
  rintro b4 o4 _ ⟨rfl, _⟩ hc4 hF4 hlt4
  have hl_3 := Loc.lt hF4
  refine st (Zn Zav rfl (st (Zbi Zb9 rfl rfl om om (st (Zc3 Za9 rfl hc4 (j := 1) rfl rfl om om (st (Zc rfl (st (Zq fn69 rfl (ih (n := (Zae ((ix l (n - 1)).k0) ((ix l (n - 1)).k1) ((ix l (n - 1)).k2) ((ix l (n - 1)).k3) k)) om om om hb2 hEk hok2) ?_)))))))))
  rintro ve1 w3 ⟨hb3, hO1⟩
  have hz3 := hb3.size
  refine st (Ze rfl (Zg (Zab (Zd (Zb (st (Zc rfl (st (Zah rfl rfl om ?_)))))))))
  refine st (Ze rfl (Zg ?_))
  exact Zac (((k + 1)), ((Zhk l f ((Zae ((ix l (n - 1)).k0) ((ix l (n - 1)).k1) ((ix l (n - 1)).k2) ((ix l (n - 1)).k3) k)) Ek)), (ve1)) ⟨hb3, by omega, by rw [hEe]; exact (endV_yes hk.1 om (by simpa using h4) (by simpa [Nd.kid] using h5)).symm, hO1, endF_ok hl_ok f _ _ om om hok2, endF_new hl_ok (n := n) om om hn1 hno2⟩ om sb
end Go.Proofs.Ytfljelnfjbbknaa.Nd
namespace Go.Proofs.Ytfljelnfjbbknaa.Nd
open Go.RowKit Go.Gw
set_option maxHeartbeats 1000000 in
theorem rright_any {va : Value} {l : List Nd} {F : Nat → Prop} {w : World} (hl : Sl Kd.node w F va l) (hll : l.length ≤ 1000000) :
  Calls Try.prog 35 [.agg [va].toArray].toArray w (Zbh w fun v _ => v = .bool (Zfr l)) := by
 have hb0 := Below.refl w.heap.size w
 have hln0 := hl.lenle
 refine enter Try.func35 rfl rfl (Zh (Zb (st (Zbs rfl ?_))))
 intro g1 w1 hg1 hB1 k1 hs1
 change Blk w1 g1 25 [va].toArray at hB1
 have hb1 := Zf hb0 k1
 refine st (Ze rfl (Zg (Zd (Zh (Zb (st (Zn Zcb rfl (st (Zt Zb8 rfl hB1.range (j := 0) rfl ?_)))))))))
 refine st (Ze rfl (Zg (Zd (Zh (Zh (Zb (st (Zc rfl ?_))))))))
 refine st (Zaq Zaw rfl (hl.at0 hb1) (st (Zbu rfl rfl (Zg (Zd ?_)))))
 refine Zw rfl (fun h1 => ?_) (fun h1 => ?_)
 ·refine Zh (Zb (st (Ze rfl (Zg (Zd (Zaa rfl rfl ?_))))))
  exact ⟨_, rfl, hb1, by unfold Zfr; rw [decide_eq_true (by omega : l.length = 0)]; rfl⟩
 refine Zo (Zd (Zh (Zh (Zb (st (Zc rfl (st (Zq fn37 rfl (Zmv (hl.at0 hb1)) ?_))))))))
 rintro _ w2 ⟨hq1, rfl⟩
 have k2 := Zi hq1 none
 have hz1 := hq1.size
 have hb2 := Zf hb1 k2
 have hz2 := hb2.size
 refine st (Zdd rfl (st (Zc rfl ?_)))
 refine Zd7 17 rfl (fun h2 => ?_) (fun h2 => ?_)
 ·refine Zj rfl rfl (Zj rfl rfl (Zj rfl rfl (Zj rfl rfl (st (Zr rfl rfl (Zg (Zd ?_)))))))
  refine Zb0 rfl (Zh (Zb (st (Ze rfl (Zg (Zd (Zaa rfl rfl ?_)))))))
  refine ⟨_, rfl, hb2, ?_⟩
  unfold Zfr; rw [decide_eq_false (by omega : ¬ l.length = 0)]
  simp_all
 have hl_ok : Zaf l = true := by simpa using h2
 have hlen := Zej l
 refine stg (Zc rfl (stg (Zc rfl (stg (Zaq Zaw rfl (hl.at0 hb2) (stg (Zq fn68 rfl (Zmc (hl.at0 hb2) hl_ok hll om om) ?_)))))))
 rintro _ w3 ⟨hq2, rfl⟩
 have k3 := Zi hq2 none
 have hz3 := hq2.size
 have hb3 := Zf hb2 k3
 have hz4 := hb3.size
 refine st (Zr rfl rfl (Zg (Zd ?_)))
 refine Zba rfl (fun h3 => ?_) (fun h3 => ?_)
 ·refine Zh (Zb (st (Ze rfl (Zg (Zd (Zaa rfl rfl ?_))))))
  refine ⟨_, rfl, hb3, ?_⟩
  unfold Zfr; rw [decide_eq_false (by omega : ¬ l.length = 0)]
  simp_all
 refine Zo (Zd (Zh (Zb (st (Zc rfl (st (Zq fn40 rfl (Zi9 (hl.at0 hb3) hl_ok hll) ?_)))))))
 rintro v1 w4 ⟨hq3, hS1⟩
 have k4 := Zi hq3 none
 have hz5 := hq3.size
 have hb4 := Zf hb3 k4
 have hz6 := hb4.size
 refine st (Ze rfl (Zg (Zd (Zh (Zh (Zb (st (Ze rfl ?_))))))))
 refine Zg (Zd (Zz (Za2 (α := Int) (fun (i : Int) => [(3, va), (4, v1), (5, .int .i64 i)]) (fun (i : Int) W => Below w.heap.size w W ∧ (0 ≤ i ∧ i ≤ l.length) ∧ (∀ j : Int, 0 ≤ j → j < i → ix (Zca l) (j + 1) = true) ∧ (∀ j k : Int, 0 ≤ k → k < j → j < i → ix l j ≠ ix l k) ∧ (Sl Kd.bool W (fun _ => False) v1 (Zhi l))) (fun (i : Int) => (l.length - i).toNat) (0) ⟨hb4, by omega, fun j _ _ => by omega, fun j k _ _ _ => by omega, hS1⟩ sb ?_)))
 rintro i w5 ⟨hb5, hi, ha, hnd, hS2⟩
 have hz7 := hb5.size
 refine Zh (Zh (Zb (st (Zc rfl (st (Zc rfl (st (Zaq Zaw rfl (hl.at0 hb5) (st (Zbd rfl rfl ?_))))))))))
 refine Zg (Zd ?_)
 refine Zw rfl (fun h4 => ?_) (fun h4 => ?_)
 rotate_left
 ·refine Zak (Zk (Zk (Zs (Zd (Zh (Zb ?_))))))
  refine st (Zc rfl (st (Zc rfl (st (Zaq Zaw rfl (hl.at0 hb5) ?_)))))
  have hfull := (Zkl l).2 (fun j j0 j1 => ha j j0 om)
  have hnd := nodup_ix (fun j k k0 k1 j1 => hnd j k k0 k1 om)
  refine st (Zq fn69 rfl (end_any hl hl_ok hll l.length (n := l.length) om om om hb5 (Own.nil _ _ _ _ _) (okE_nil _)) ?_)
  rintro ve1 w18 ⟨hb18, hO1⟩
  have hz9 := hb18.size
  change Gw.Own _ _ _ _ _ _ (endL l) at hO1
  have hlenE := hO1.lenle
  refine st (Ze rfl (Zg (Zd (Zh (Zh (Zb (st (Ze rfl ?_))))))))
  refine Zg (Zd (Zz (Za2 (α := Int) (fun (i : Int) => [(3, va), (7, ve1), (8, .int .i64 i)]) (fun (i : Int) W => Below w.heap.size w W ∧ (0 ≤ i ∧ i ≤ (endL l).length) ∧ (∀ j : Int, 0 ≤ j → j < i → ix (endL l) j = j + 1) ∧ (Gw.Own (Kd.num .i64) 3 w.heap.size W (fun _ => False) ve1 (endL l))) (fun (i : Int) => ((endL l).length - i).toNat) (0) ⟨hb18, by omega, fun j _ _ => by omega, hO1⟩ sb ?_)))
  rintro i w19 ⟨hb19, hi, ho, hEo⟩
  have hz10 := hb19.size
  refine Zh (Zh (Zb (st (Zc rfl (st (Zc rfl (st (Zaq sl65 rfl hEo.sl (st (Zbd rfl rfl ?_))))))))))
  refine Zg (Zd ?_)
  refine Zw rfl (fun h8 => ?_) (fun h8 => ?_)
  rotate_left
  ·refine Zak (Zk (Zk (Zs (Zd (Zh (Zb ?_))))))
   refine st (Zc rfl (st (Zaq sl65 rfl hEo.sl (st (Zc rfl (st (Zaq Zaw rfl (hl.at0 hb19) (st (Zbu rfl rfl (st (Ze rfl (Zg ?_))))))))))))
   refine Zd (Zaa rfl rfl ?_)
   refine ⟨_, rfl, hb19, ?_⟩
   unfold Zfr; rw [decide_eq_false (by omega : ¬ l.length = 0)]
   rw [ord_yes (fun j j0 j1 => ho j j0 om), hl_ok, hfull, decide_eq_true hnd]
   simp_all [Int.natCast_inj]
  refine Zo (Zd (Zh (Zz (Zh (Zb (st (Zc rfl ?_)))))))
  refine st (Zc rfl (st (Zat sl65 rfl rfl hEo.sl om om ?_)))
  rintro b4 o4 _ ⟨rfl, _⟩ hc4 hF4 hlt4
  refine st (Zt Za9 rfl hc4 (j := 0) rfl (st (Zc rfl (st (Zah rfl rfl om (st (s_ne rfl rfl (Zg (Zd ?_)))))))))
  refine Zw rfl (fun h9 => ?_) (fun h9 => ?_)
  ·refine Zh (Zb (st (Ze rfl (Zg (Zd (Zaa rfl rfl ?_))))))
   refine ⟨_, rfl, hb19, ?_⟩
   unfold Zfr; rw [decide_eq_false (by omega : ¬ l.length = 0)]
   rw [ord_no i hi.1 om h9]
   simp
  refine Zo (Zab (Zd (Zb (st (Zc rfl (st (Zah rfl rfl om (st (Ze rfl ?_)))))))))
  refine Zg ?_
  exact Zac ((i + 1)) ⟨hb19, by omega, fun j j0 j1 => if e : j = i then by rw [e]; exact Decidable.not_not.1 h9 else ho j j0 om, hEo⟩ om sb
 have hlt := h4
 refine Zo (Zd (Zh (Zz (Zh (Zh (Zb ?_))))))
 refine st (Zc rfl (st (Zc rfl (st (Zah rfl rfl om (st (Zat Zcq rfl rfl hS2 om om ?_)))))))
 rintro b1 o1 _ ⟨rfl, _⟩ hc1 hF1 hlt1
 refine st (Zt Zeg rfl hc1 (j := 0) rfl (Zg (Zd ?_)))
 refine Zba rfl (fun h5 => ?_) (fun h5 => ?_)
 ·rw [Zfl l _ om om] at h5
  refine Zh (Zb (st (Ze rfl (Zg (Zd (Zaa rfl rfl ?_))))))
  refine ⟨_, rfl, hb5, ?_⟩
  unfold Zfr; rw [decide_eq_false (by omega : ¬ l.length = 0)]
  rw [full_no hi.1 hlt (by simpa using h5)]
  simp
 rw [Zfl l _ om om] at h5
 refine Zo (Zd (Zh (Zb (st (Ze rfl (Zg (Zd ?_)))))))
 refine Zz (Za2 (α := Int) (fun (k : Int) => [(3, va), (4, v1), (5, .int .i64 i), (6, .int .i64 k)]) (fun (k : Int) W => Below w.heap.size w W ∧ (0 ≤ k ∧ k ≤ i) ∧ (∀ k' : Int, 0 ≤ k' → k' < k → ix l i ≠ ix l k') ∧ (Sl Kd.bool W (fun _ => False) v1 (Zhi l))) (fun (k : Int) => (i - k).toNat) (0) ⟨hb5, by omega, fun k' _ _ => by omega, hS2⟩ sb ?_)
 rintro k w6 ⟨hb6, hk, hk2, hS3⟩
 have hz8 := hb6.size
 refine Zh (Zh (Zb (st (Zc rfl (st (Zc rfl (st (Zbd rfl rfl (Zg ?_)))))))))
 refine Zd ?_
 refine Zw rfl (fun h6 => ?_) (fun h6 => ?_)
 rotate_left
 ·refine Zak (Zk (Zk (Zs (Zab (Zd (Zb ?_))))))
  refine st (Zc rfl (st (Zah rfl rfl om (st (Ze rfl (Zg ?_))))))
  exact Zac ((i + 1)) ⟨hb6, by omega, fun j j0 j1 => if e : j = i then by rw [e]; simpa using h5 else ha j j0 om, fun j k' k0 k1 j1 => if e : j = i then by rw [e]; exact hk2 k' k0 om else hnd j k' k0 k1 om, hS3⟩ om sb
 refine Zo (Zd (Zh (Zz (Zh ?_))))
 obtain ⟨b2, o2, _, hat1, ⟨rfl, _⟩, hc2, hF2, hlt2⟩ := (hl.at0 hb6).elem i om om
 have hl_1 := Loc.lt hF2
 obtain ⟨b3, o3, _, hat2, ⟨rfl, _⟩, hc3, hF3, hlt3⟩ := (hl.at0 hb6).elem k om om
 have hl_2 := Loc.lt hF3
 refine Zce 9 GN [xi 41 <| va, xi 42 <| .int .i64 i, xi 43 <| .pointer (some ⟨b2, o2, none⟩), xi 44 <| .agg [.int .i64 ((ix l i).lv), .int .i64 ((ix l i).k0), .int .i64 ((ix l i).k1), .int .i64 ((ix l i).k2), .int .i64 ((ix l i).k3)].toArray, xi 45 <| va, xi 46 <| .int .i64 k, xi 47 <| .pointer (some ⟨b3, o3, none⟩), xi 48 <| .agg [.int .i64 ((ix l k).lv), .int .i64 ((ix l k).k0), .int .i64 ((ix l k).k1), .int .i64 ((ix l k).k2), .int .i64 ((ix l k).k3)].toArray, xi 49 <| .bool (decide ((ix l i) = (ix l k)))] [[], [], [0, 1], [2], [], [], [4, 5], [6], [3, 7]] [(3, va), (4, v1), (5, .int .i64 i), (6, .int .i64 k)] sb kr kr Za gnt ⟨kv, kv, kv, kv, kv, kv, kv, kv, kv, trivial⟩ ?_
 intro w7 k5 hs2
 have hb7 := Zf hb6 k5
 refine ⟨⟨?_, ?_, ?_, ?_, ?_, ?_, ?_, ?_, ?_, trivial⟩, ?_⟩
 ·intro w8 k6
  refine op1 (Zc rfl ?_)
  exact ⟨rfl, Za _⟩
 ·intro w9 k7
  refine op1 (Zc rfl ?_)
  exact ⟨rfl, Za _⟩
 ·intro w10 k8
  intro v_ hv_; subst v_
  rintro _ rfl
  refine op1 (Zbo Zaw rfl rfl hat1 ?_)
  exact ⟨rfl, Za _⟩
 ·intro w11 k9
  rintro _ rfl
  refine op1 (Zp Za1 rfl (Zaj (Zaj hc2 k5) k9) rfl ?_)
  exact ⟨rfl, Za _⟩
 ·intro w12 k10
  refine op1 (Zc rfl ?_)
  exact ⟨rfl, Za _⟩
 ·intro w13 k11
  refine op1 (Zc rfl ?_)
  exact ⟨rfl, Za _⟩
 ·intro w14 k12
  intro v_ hv_; subst v_
  rintro _ rfl
  refine op1 (Zbo Zaw rfl rfl hat2 ?_)
  exact ⟨rfl, Za _⟩
 ·intro w15 k13
  rintro _ rfl
  refine op1 (Zp Za1 rfl (Zaj (Zaj hc3 k5) k13) rfl ?_)
  exact ⟨rfl, Za _⟩
 ·intro w16 k14
  rintro _ rfl _ rfl
  refine op1 (s_eqnode eqNode rfl rfl ?_)
  exact ⟨rfl, Za _⟩
 intro w17 k15
 have hb17 := Zf hb7 k15
 intro v_ hv_; subst v_
 rintro _ rfl _ rfl _ rfl
 intro v_ hv_; subst v_
 rintro _ rfl _ rfl _ rfl _ rfl
 refine Zg (Zd ?_)
 refine Zw rfl (fun h7 => ?_) (fun h7 => ?_)
 ·refine Zh (Zb (st (Ze rfl (Zg (Zd (Zaa rfl rfl ?_))))))
  refine ⟨_, rfl, hb17, ?_⟩
  unfold Zfr; rw [decide_eq_false (by omega : ¬ l.length = 0)]
  rw [dup_ix hk.1 om hlt h7]
  simp
 refine Zo (Zab (Zd (Zb (st (Zc rfl (st (Zah rfl rfl om (st (Ze rfl ?_)))))))))
 refine Zg ?_
 exact Zac ((k + 1)) ⟨hb17, by omega, fun k' k0 k1 => if e : k' = k then by rw [e]; exact h7 else hk2 k' k0 om, ((hS3.g0 k5).g0 k15)⟩ om sb
end Go.Proofs.Ytfljelnfjbbknaa.Nd
