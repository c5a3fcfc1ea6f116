/- Part of the proof: a library for walks, plain laws, and functions' walks. -/
import Derived.Test.YtfljelnfjbbknaaM10
set_option maxRecDepth 20000
set_option linter.unusedSimpArgs false
set_option linter.unusedVariables false
namespace Go.Proofs.Ytfljelnfjbbknaa.Lm
open Go.RowKit Go.Gw
set_option maxHeartbeats 1000000 in
theorem one_any {w : World} {F : Nat → Prop} {va : Value} {l : List RCl} {n0 : Nat} (hn0 : n0 ≤ w.heap.size) (hl : Sl (Kd.rcell 83 n0) w F va l) {ca cb : Value} {c : RCl} (hca : Sl Kd.u32 w (G 83 n0 w) ca c.xs) (hcb : Sl Kd.u32 w (G 83 n0 w) cb c.ys) (hstc : 0 ≤ c.st ∧ c.st ≤ 255) {da db : Value} {d : RCl} (hda : Sl Kd.u32 w (G 83 n0 w) da d.xs) (hdb : Sl Kd.u32 w (G 83 n0 w) db d.ys) (hstd : 0 ≤ d.st ∧ d.st ≤ 255)  :
    Calls Try.prog 8 [va, .agg [.bool c.xn, ca, .bool c.yn, cb, .int .u8 c.st].toArray, .agg [.bool d.xn, da, .bool d.yn, db, .int .u8 d.st].toArray].toArray w (Zbi w fun v _ => v = .bool true) := by
  have hb0 := Below.refl w.heap.size w
  have hln1 := hl.lenle
  refine enter Try.func8 rfl rfl (Zh (Zb (st (Zcb rfl ?_))))
  intro g1 w1 hg1 hB1 k1 hs1
  change Blk w1 g1 47 [.bool c.xn, ca, .bool c.yn, cb, .int .u8 c.st].toArray at hB1
  have hb1 := Zf hb0 k1
  refine st (Zcb rfl ?_)
  intro g2 w2 hg2 hB2 k2 hs2
  change Blk w2 g2 47 [.bool d.xn, da, .bool d.yn, db, .int .u8 d.st].toArray at hB2
  have hb2 := Zf hb1 k2
  refine st (Ze rfl (Zg (Zd (Zh (Zh (Zb (st (Zp fn25 rfl (alive8_any (n0 := n0) (Zy hn0 hb2)) ?_))))))))
  rintro _ w3 ⟨hq1, rfl⟩
  have k3 := Zi hq1 none
  have hz1 := hq1.size
  have hb3 := Zf hb2 k3
  have hz2 := hb3.size
  refine st (Zdk rfl (Zg (Zd (Zbv rfl (Zn (Zd (Zh ?_)))))))
  refine Zb (st (Zc rfl (st (Zp fn18 rfl (quad_any (m := 30) (n0 := n0) (Zy hn0 hb3) (hl.at0 hb3) (by omega)) ?_))))
  rintro _ w4 ⟨hq2, sv1, rfl, hS1⟩
  have hS2 := hS1.loc
  have k4 := Zi hq2 none
  have hz3 := hq2.size
  have hb4 := Zf hb3 k4
  have hz4 := hb4.size
  refine st (Zc rfl (st (Zag rfl rfl (st (Zag rfl rfl ?_)))))
  have hlt_1 := ((((hB1.g0 k2).g0 k3).g0 k4)).lt
  have hlt_2 := (((hB2.g0 k3).g0 k4)).lt
  refine st (Zat Zfg ?_)
  intro g3 w5 hg3 hB3 k5 hs3
  have hz5 := hb4.size
  have hb5 := Zf hb4 k5
  refine st0 (Zae Za8 rfl rfl hB3 (by simp only [List.all_cons, List.all_nil, hS2.one, Bool.and_true, Bool.and_self] <;> rfl) rfl rfl ?_)
  intro w6 hB4 k6 hs4
  have hb6 := Zv hb5 k6 (by first | omega | (have h9 := (hb5).size; omega))
  refine st (Ze rfl (Zg (Zd (Zh (Zh (Zb (st (Zc rfl ?_))))))))
  refine st (Zdk rfl (st (Zc rfl ?_)))
  refine Zdu 23 rfl (fun h1 => ?_) (fun h1 => ?_)
  · refine Zj rfl rfl (Zj rfl rfl (Zj rfl rfl (Zj rfl rfl (st (Zo rfl rfl (st (Zc rfl (Zj rfl rfl ?_))))))))
    refine Zj rfl rfl (Zj rfl rfl (Zj rfl rfl (st (Zo rfl rfl (st (Zc rfl (Zj rfl rfl (Zj rfl rfl ?_))))))))
    refine Zj rfl rfl (Zj rfl rfl (st (Zo rfl rfl (st (Zc rfl (Zj rfl rfl (Zj rfl rfl (Zj rfl rfl ?_))))))))
    refine Zj rfl rfl (st (Zo rfl rfl (st (Zc rfl (Zj rfl rfl (Zj rfl rfl (Zj rfl rfl (Zj rfl rfl ?_))))))))
    refine st (Zo rfl rfl (Zg (Zd (Zb5 rfl (Zh (Zb (st (Ze rfl ?_))))))))
    refine Zg (Zd (Zx rfl rfl ?_))
    exact ⟨_, rfl, hb6, rfl⟩
  have hq := quad_ok (m := 30) hl (by simpa using h1)
  refine stg (Zu Zim rfl (((((hB1.g0 k2).g0 k3).g0 k4).g0 k5).gne k6 (by omega)).range rfl (stg (Zu Zim rfl ((((hB2.g0 k3).g0 k4).g0 k5).gne k6 (by omega)).range rfl (stg (Zay (ps := [(0, .tmp 24), (1, .tmp 25)]) (ccs := [#[.bool c.xn, ca, .bool c.yn, cb, .int .u8 c.st], #[.bool d.xn, da, .bool d.yn, db, .int .u8 d.st]]) (e := 47) (cells := [.bool c.xn, ca, .bool c.yn, cb, .int .u8 c.st, .bool d.xn, da, .bool d.yn, db, .int .u8 d.st]) rfl rfl (by kernel_rfl) (by decide) nz47 ?_)))))
  intro g4 w7 hg4 hB5 k7 hs5
  have hb7 := Zf hb6 k7
  have hz6 := hb7.size
  have hS3 : Sl (Kd.rcell 83 n0) w7 (fun _ => False) (.slice (some ⟨g4, 0, none⟩) 2 2) [c, d] := lit_rcell2 (c := c) (d := d) hB5 (((((((hca.gg0 k1).gg0 k2).gg0 k3).gg0 k4).gg0 k5).ggB k6 hB3 (by decide) (by omega)).gg0 k7) (((((((hcb.gg0 k1).gg0 k2).gg0 k3).gg0 k4).gg0 k5).ggB k6 hB3 (by decide) (by omega)).gg0 k7) (((((((hda.gg0 k1).gg0 k2).gg0 k3).gg0 k4).gg0 k5).ggB k6 hB3 (by decide) (by omega)).gg0 k7) (((((((hdb.gg0 k1).gg0 k2).gg0 k3).gg0 k4).gg0 k5).ggB k6 hB3 (by decide) (by omega)).gg0 k7) hstc hstd
  refine stg (Zp fn26 rfl (great_any hS3) ?_)
  rintro _ w8 ⟨hq3, rfl⟩
  have k8 := Zi hq3 none
  have hz7 := hq3.size
  have hb8 := Zf hb7 k8
  have hz8 := hb8.size
  refine st (Zo rfl rfl (st (Zc rfl ?_)))
  refine Zdu 29 rfl (fun h2 => ?_) (fun h2 => ?_)
  · refine Zj rfl rfl (Zj rfl rfl (Zj rfl rfl (Zj rfl rfl (st (Zo rfl rfl (st (Zc rfl (Zj rfl rfl ?_))))))))
    refine Zj rfl rfl (Zj rfl rfl (Zj rfl rfl (st (Zo rfl rfl (st (Zc rfl (Zj rfl rfl (Zj rfl rfl ?_))))))))
    refine Zj rfl rfl (Zj rfl rfl (st (Zo rfl rfl (st (Zc rfl (Zj rfl rfl (Zj rfl rfl (Zj rfl rfl ?_))))))))
    refine Zj rfl rfl (st (Zo rfl rfl (Zg (Zd (Zb5 rfl (Zh (Zb ?_)))))))
    refine st (Ze rfl (Zg (Zd (Zx rfl rfl ?_))))
    exact ⟨_, rfl, hb8, rfl⟩
  have hgr := h2
  refine stg (Zm Zbt rfl (stg (Zau (us := [.bool c.xn, ca]) Zaf rfl (((((((hB1.g0 k2).g0 k3).g0 k4).g0 k5).gne k6 (by omega)).g0 k7).g0 k8).range (j := 0) rfl rfl (stg (Zp fn27 rfl (Zey (((((((((hca.gg0 k1).gg0 k2).gg0 k3).gg0 k4).gg0 k5).ggB k6 hB3 (by decide) (by omega)).gg0 k7).gg0 k8)).none) ?_)))))
  rintro _ w9 ⟨hq4, rfl⟩
  have k9 := Zi hq4 none
  have hz9 := hq4.size
  have hb9 := Zf hb8 k9
  have hz10 := hb9.size
  refine stg (Zdk rfl (st (Zo rfl rfl (st (Zc rfl ?_)))))
  refine Zdu 35 rfl (fun h3 => ?_) (fun h3 => ?_)
  · refine Zj rfl rfl (Zj rfl rfl (Zj rfl rfl (Zj rfl rfl (st (Zo rfl rfl (st (Zc rfl (Zj rfl rfl ?_))))))))
    refine Zj rfl rfl (Zj rfl rfl (Zj rfl rfl (st (Zo rfl rfl (st (Zc rfl (Zj rfl rfl (Zj rfl rfl ?_))))))))
    refine Zj rfl rfl (Zj rfl rfl (st (Zo rfl rfl (Zg (Zd (Zb5 rfl (Zh ?_)))))))
    refine Zb (st (Ze rfl (Zg (Zd (Zx rfl rfl ?_)))))
    exact ⟨_, rfl, hb9, rfl⟩
  have hrxc : bigR c.xn c.xs = true := by simpa using h3
  refine stg (Zm Zca rfl (stg (Zau (us := [.bool c.yn, cb]) Zaf rfl ((((((((hB1.g0 k2).g0 k3).g0 k4).g0 k5).gne k6 (by omega)).g0 k7).g0 k8).g0 k9).range (j := 2) rfl rfl (stg (Zp fn27 rfl (Zey ((((((((((hcb.gg0 k1).gg0 k2).gg0 k3).gg0 k4).gg0 k5).ggB k6 hB3 (by decide) (by omega)).gg0 k7).gg0 k8).gg0 k9)).none) ?_)))))
  rintro _ w10 ⟨hq5, rfl⟩
  have k10 := Zi hq5 none
  have hz11 := hq5.size
  have hb10 := Zf hb9 k10
  have hz12 := hb10.size
  refine stg (Zdk rfl (st (Zo rfl rfl (st (Zc rfl ?_)))))
  refine Zdu 41 rfl (fun h4 => ?_) (fun h4 => ?_)
  · refine Zj rfl rfl (Zj rfl rfl (Zj rfl rfl (Zj rfl rfl (st (Zo rfl rfl (st (Zc rfl (Zj rfl rfl ?_))))))))
    refine Zj rfl rfl (Zj rfl rfl (Zj rfl rfl (st (Zo rfl rfl (Zg (Zd (Zb5 rfl ?_)))))))
    refine Zh (Zb (st (Ze rfl (Zg (Zd (Zx rfl rfl ?_))))))
    exact ⟨_, rfl, hb10, rfl⟩
  have hryc : bigR c.yn c.ys = true := by simpa using h4
  refine stg (Zm Zbt rfl (stg (Zau (us := [.bool d.xn, da]) Zaf rfl ((((((((hB2.g0 k3).g0 k4).g0 k5).gne k6 (by omega)).g0 k7).g0 k8).g0 k9).g0 k10).range (j := 0) rfl rfl (stg (Zp fn27 rfl (Zey (((((((((((hda.gg0 k1).gg0 k2).gg0 k3).gg0 k4).gg0 k5).ggB k6 hB3 (by decide) (by omega)).gg0 k7).gg0 k8).gg0 k9).gg0 k10)).none) ?_)))))
  rintro _ w11 ⟨hq6, rfl⟩
  have k11 := Zi hq6 none
  have hz13 := hq6.size
  have hb11 := Zf hb10 k11
  have hz14 := hb11.size
  refine stg (Zdk rfl (st (Zo rfl rfl (st (Zc rfl ?_)))))
  refine Zdu 47 rfl (fun h5 => ?_) (fun h5 => ?_)
  · refine Zj rfl rfl (Zj rfl rfl (Zj rfl rfl (Zj rfl rfl (st (Zo rfl rfl (Zg (Zd ?_)))))))
    refine Zb5 rfl (Zh (Zb (st (Ze rfl (Zg (Zd (Zx rfl rfl ?_)))))))
    exact ⟨_, rfl, hb11, rfl⟩
  have hrxd : bigR d.xn d.xs = true := by simpa using h5
  refine stg (Zm Zca rfl (stg (Zau (us := [.bool d.yn, db]) Zaf rfl (((((((((hB2.g0 k3).g0 k4).g0 k5).gne k6 (by omega)).g0 k7).g0 k8).g0 k9).g0 k10).g0 k11).range (j := 2) rfl rfl (stg (Zp fn27 rfl (Zey ((((((((((((hdb.gg0 k1).gg0 k2).gg0 k3).gg0 k4).gg0 k5).ggB k6 hB3 (by decide) (by omega)).gg0 k7).gg0 k8).gg0 k9).gg0 k10).gg0 k11)).none) ?_)))))
  rintro _ w12 ⟨hq7, rfl⟩
  have k12 := Zi hq7 none
  have hz15 := hq7.size
  have hb12 := Zf hb11 k12
  have hz16 := hb12.size
  refine stg (Zdk rfl (st (Zo rfl rfl (Zg (Zd ?_)))))
  refine Zbd rfl (fun h6 => ?_) (fun h6 => ?_)
  · refine Zh (Zb (st (Ze rfl (Zg (Zd (Zx rfl rfl ?_))))))
    exact ⟨_, rfl, hb12, rfl⟩
  have hryd : bigR d.yn d.ys = true := by simpa using h6
  obtain ⟨hxnc, hxsc⟩ := Zhg (Zaw hca) hrxc
  obtain ⟨hync, hysc⟩ := Zhg (Zaw hcb) hryc
  change c.xn = decide ((Zr c).x < 0) at hxnc
  change c.xs = ml (Zr c).x at hxsc
  change c.yn = decide ((Zr c).y < 0) at hync
  change c.ys = ml (Zr c).y at hysc
  have hB6 := (((((((((((hB1.g0 k2).g0 k3).g0 k4).g0 k5).gne k6 (by omega)).g0 k7).g0 k8).g0 k9).g0 k10).g0 k11).g0 k12)
  rw [hxnc, hync] at hB6
  have hS4 := ((((((((((((hca.gg0 k1).gg0 k2).gg0 k3).gg0 k4).gg0 k5).ggB k6 hB3 (by decide) (by omega)).gg0 k7).gg0 k8).gg0 k9).gg0 k10).gg0 k11).gg0 k12)
  rw [hxsc] at hS4
  have hS5 := ((((((((((((hcb.gg0 k1).gg0 k2).gg0 k3).gg0 k4).gg0 k5).ggB k6 hB3 (by decide) (by omega)).gg0 k7).gg0 k8).gg0 k9).gg0 k10).gg0 k11).gg0 k12)
  rw [hysc] at hS5
  have hbdc := great_in hgr (c := c) (by simp) (Zaw hca) (Zaw hcb)
  obtain ⟨hxnd, hxsd⟩ := Zhg (Zaw hda) hrxd
  obtain ⟨hynd, hysd⟩ := Zhg (Zaw hdb) hryd
  change d.xn = decide ((Zr d).x < 0) at hxnd
  change d.xs = ml (Zr d).x at hxsd
  change d.yn = decide ((Zr d).y < 0) at hynd
  change d.ys = ml (Zr d).y at hysd
  have hB7 := ((((((((((hB2.g0 k3).g0 k4).g0 k5).gne k6 (by omega)).g0 k7).g0 k8).g0 k9).g0 k10).g0 k11).g0 k12)
  rw [hxnd, hynd] at hB7
  have hS6 := ((((((((((((hda.gg0 k1).gg0 k2).gg0 k3).gg0 k4).gg0 k5).ggB k6 hB3 (by decide) (by omega)).gg0 k7).gg0 k8).gg0 k9).gg0 k10).gg0 k11).gg0 k12)
  rw [hxsd] at hS6
  have hS7 := ((((((((((((hdb.gg0 k1).gg0 k2).gg0 k3).gg0 k4).gg0 k5).ggB k6 hB3 (by decide) (by omega)).gg0 k7).gg0 k8).gg0 k9).gg0 k10).gg0 k11).gg0 k12)
  rw [hysd] at hS7
  have hbdd := great_in hgr (c := d) (by simp) (Zaw hda) (Zaw hdb)
  refine Zn (Zd (Zh (Zb (st (Zu Za8 rfl ((((((hB4.g0 k7).g0 k8).g0 k9).g0 k10).g0 k11).g0 k12).range rfl (st (Zm Zbt rfl (st (Zau (us := [.bool (decide ((Zr c).x < 0)), ca]) Zaf rfl hB6.range (j := 0) rfl rfl ?_)))))))))
  refine st (Zm Zca rfl (st (Zau (us := [.bool (decide ((Zr c).y < 0)), cb]) Zaf rfl hB6.range (j := 2) rfl rfl (st (Zm Zgx rfl (st (Zs one5 rfl hB6.range (j := 4) rfl (st (Zp fn28 rfl (Zj7 (x := (Zr c).x) (y := (Zr c).y) (s := c.st) (n0 := n0) (Zy hn0 hb12) (((((((Sl.gSmall Zac (hS2.g0 k5) k6 hB3 (by decide)).g0 k7).g0 k8).g0 k9).g0 k10).g0 k11).g0 k12) hq.can (by have := hq.nodes; have := hq.len; omega) hS4 hS5 (Bd.le hbdc.1 (show 50 ≤ 50 by decide)) (Bd.le hbdc.2 (show 50 ≤ 50 by decide)) (by first | omega | decide)) ?_)))))))))
  rintro _ w13 ⟨hq8, sv2, rfl, hS8⟩
  have k13 := Zi hq8 none
  have hz17 := hq8.size
  have hb13 := Zf hb12 k13
  have hz18 := hb13.size
  refine st (Zc rfl (st (Zag rfl rfl (st (Zag rfl rfl ?_)))))
  have hlt_3 := ((hB6.g0 k13)).lt
  have hlt_4 := ((hB7.g0 k13)).lt
  have hlt_5 := ((((((((hB4.g0 k7).g0 k8).g0 k9).g0 k10).g0 k11).g0 k12).g0 k13)).lt
  have hlt_6 := (((((((hB5.g0 k8).g0 k9).g0 k10).g0 k11).g0 k12).g0 k13)).lt
  refine st (Zat Zfg ?_)
  intro g5 w14 hg5 hB8 k14 hs6
  have hz19 := hb13.size
  have hb14 := Zf hb13 k14
  refine st0 (Zae Za8 rfl rfl hB8 (by simp only [List.all_cons, List.all_nil, hS8.one, Bool.and_true, Bool.and_self] <;> rfl) rfl rfl ?_)
  intro w15 hB9 k15 hs7
  have hb15 := Zv hb14 k15 (by first | omega | (have h9 := (hb14).size; omega))
  refine st (Ze rfl (Zg (Zd (Zh (Zh (Zb (st (Zc rfl ?_))))))))
  refine st (s_ne rfl rfl (Zg (Zd ?_)))
  refine Zw rfl (fun h7 => ?_) (fun h7 => ?_)
  · have hno := set_no hq.can hstc h7
    refine Zh (Zb (st (Zm Zdy rfl (st (Zs Zcu rfl hB9.range (j := 0) rfl (st (Zar Za7 rfl (Sl.gSmall Zac (hS8.g0 k14) k15 hB8 (by decide)) (st (Zbr rfl rfl (st (Ze rfl ?_)))))))))))
    refine Zg (Zd (Zx rfl rfl ?_))
    exact ⟨_, rfl, hb15, congrArg Value.bool (decide_eq_true (by rw [hno.1]; rfl))⟩
  have h0_ := Classical.not_not.1 h7
  have hp := Zlb hq.can hstc h0_
  have hbk := one_back hq.can hstc h0_
  have hpl := set_len hq.can (x := (Zr c).x) (y := (Zr c).y) hstc
  refine Zn (Zd (Zh ?_))
  refine w_drawS (dd := 15) (td := 11) (cs := [false, false, false, false, false, false, false, false, false, false, false, false, false, false, false, false, true]) (ψ := PtrG w15.heap.size 25 1 (Zix ((Zba ((Zba ((Zap l 30).1) ((Zr c).x) ((Zr c).y) c.st).1) ((Zr c).x) ((Zr c).y) (Zbg ((Zap l 30).1) ((Zr c).x) ((Zr c).y))).1))) 17 (Rg w15.heap.size 25 1 (Zix ((Zba ((Zba ((Zap l 30).1) ((Zr c).x) ((Zr c).y) c.st).1) ((Zr c).x) ((Zr c).y) (Zbg ((Zap l 30).1) ((Zr c).x) ((Zr c).y))).1))) [(some 71, Is <| .agg [sv2].toArray), (some 72, Is <| .pointer (some ⟨g1, 0 + 0, none⟩)), (some 73, Is <| .agg [.bool (decide ((Zr c).x < 0)), ca].toArray), (some 74, Is <| .pointer (some ⟨g1, 0 + 2, none⟩)), (some 75, Is <| .agg [.bool (decide ((Zr c).y < 0)), cb].toArray), (some 76, Is <| .agg [sv1].toArray), (some 77, Is <| .pointer (some ⟨g1, 0 + 0, none⟩)), (some 78, Is <| .agg [.bool (decide ((Zr c).x < 0)), ca].toArray), (some 79, Is <| .pointer (some ⟨g1, 0 + 2, none⟩)), (some 80, Is <| .agg [.bool (decide ((Zr c).y < 0)), cb].toArray), (some 81, Is <| .int .u8 (Zbg ((Zap l 30).1) ((Zr c).x) ((Zr c).y))), (some 82, fun v W => ∃ sv3 : Value, v = .tuple #[.agg [sv3].toArray, .int .i64 ((Zba ((Zba ((Zap l 30).1) ((Zr c).x) ((Zr c).y) c.st).1) ((Zr c).x) ((Zr c).y) (Zbg ((Zap l 30).1) ((Zr c).x) ((Zr c).y))).2)] ∧ Sl Kd.node W (fun _ => False) sv3 ((Zba ((Zba ((Zap l 30).1) ((Zr c).x) ((Zr c).y) c.st).1) ((Zr c).x) ((Zr c).y) (Zbg ((Zap l 30).1) ((Zr c).x) ((Zr c).y))).1)), (some 70, fun v W => ∃ sv3 : Value, v = .tuple #[.agg [sv3].toArray, .int .i64 ((Zba ((Zba ((Zap l 30).1) ((Zr c).x) ((Zr c).y) c.st).1) ((Zr c).x) ((Zr c).y) (Zbg ((Zap l 30).1) ((Zr c).x) ((Zr c).y))).2)] ∧ Sl Kd.node W (fun _ => False) sv3 ((Zba ((Zba ((Zap l 30).1) ((Zr c).x) ((Zr c).y) c.st).1) ((Zr c).x) ((Zr c).y) (Zbg ((Zap l 30).1) ((Zr c).x) ((Zr c).y))).1)), (some 83, fun v W => ∃ sv3 : Value, v = .agg [sv3].toArray ∧ Sl Kd.node W (fun _ => False) sv3 ((Zba ((Zba ((Zap l 30).1) ((Zr c).x) ((Zr c).y) c.st).1) ((Zr c).x) ((Zr c).y) (Zbg ((Zap l 30).1) ((Zr c).x) ((Zr c).y))).1)), (some 84, Is <| .int .i64 ((Zba ((Zba ((Zap l 30).1) ((Zr c).x) ((Zr c).y) c.st).1) ((Zr c).x) ((Zr c).y) (Zbg ((Zap l 30).1) ((Zr c).x) ((Zr c).y))).2)), (some 11, Zhm w15.heap.size 25 1), (none, fun _ _ => True)] [[], [], [1], [], [3], [], [], [6], [], [8], [5, 7, 9], [0, 2, 4, 10], [11], [12], [12], [], [15, 13]] [false, false, false, false, false, false, false, false, false, false, false, false, false, false, false, false, false] [(4, .pointer (some ⟨g1, 0, none⟩)), (5, .pointer (some ⟨g2, 0, none⟩)), (6, .bool false), (7, .pointer (some ⟨g3, 0, none⟩)), (9, .pointer (some ⟨g5, 0, none⟩))] (by exact ⟨rfl, rfl, rfl, rfl, rfl, trivial⟩) (by kernel_rfl) (by kernel_rfl) Rg.refl (Rg.trans quad_st) ⟨fun _ _ _ h _ => h, fun _ _ _ h _ => h, fun _ _ _ h _ => h, fun _ _ _ h _ => h, fun _ _ _ h _ => h, fun _ _ _ h _ => h, fun _ _ _ h _ => h, fun _ _ _ h _ => h, fun _ _ _ h _ => h, fun _ _ _ h _ => h, fun _ _ _ h _ => h, fun _ _ _ h k => by obtain ⟨sv3, e, h0⟩ := h; exact ⟨sv3, e, k.nodes h0⟩, fun _ _ _ h k => by obtain ⟨sv3, e, h0⟩ := h; exact ⟨sv3, e, k.nodes h0⟩, fun _ _ _ h k => by obtain ⟨sv3, e, h0⟩ := h; exact ⟨sv3, e, k.nodes h0⟩, fun _ _ _ h _ => h, Zhm.stG, fun _ _ _ h _ => h, trivial⟩ ⟨(fun h => by cases h), (fun h => by cases h), (fun h => by cases h), (fun h => by cases h), (fun h => by cases h), (fun h => by cases h), (fun h => by cases h), (fun h => by cases h), (fun h => by cases h), (fun h => by cases h), (fun h => by cases h), (fun h => by cases h), (fun h => by cases h), (fun h => by cases h), (fun h => by cases h), (fun h => by cases h), (fun h => by cases h), trivial⟩ rfl (fun i h _ => by rcases i with _ | _ | _ | _ | _ | _ | _ | _ | _ | _ | _ | _ | _ | _ | _ | _ | _ | i <;> simp at h ⊢) (PtrG.st quad_st) ⟨16, rfl, by decide⟩ ?_
  intro w20 k20 hs10
  have hb16 := Zf hb15 k20
  refine ⟨⟨?_, ?_, ?_, ?_, ?_, ?_, ?_, ?_, ?_, ?_, ?_, ?_, ?_, ?_, ?_, ?_, ?_, trivial⟩, ?_⟩
  · intro w21 k21r
    have k21 := Rg.grown k21r (by omega)
    refine op1 (Zu Za8 rfl ((hB9.g0 k20).g0 k21).range rfl ?_)
    exact ⟨rfl, Rg.refl _, (fun h => by cases h), (fun h => by cases h)⟩
  · intro w22 k22r
    have k22 := Rg.grown k22r (by omega)
    refine op1 (Zm Zbt rfl ?_)
    exact ⟨rfl, Rg.refl _, (fun h => by cases h), (fun h => by cases h)⟩
  · intro w23 k23r
    have k23 := Rg.grown k23r (by omega)
    rintro _ rfl
    refine op1 (Zau (us := [.bool (decide ((Zr c).x < 0)), ca]) Zaf rfl (((((hB6.g0 k13).g0 k14).gne k15 (by omega)).g0 k20).g0 k23).range (j := 0) rfl rfl ?_)
    exact ⟨rfl, Rg.refl _, (fun h => by cases h), (fun h => by cases h)⟩
  · intro w24 k24r
    have k24 := Rg.grown k24r (by omega)
    refine op1 (Zm Zca rfl ?_)
    exact ⟨rfl, Rg.refl _, (fun h => by cases h), (fun h => by cases h)⟩
  · intro w25 k25r
    have k25 := Rg.grown k25r (by omega)
    rintro _ rfl
    refine op1 (Zau (us := [.bool (decide ((Zr c).y < 0)), cb]) Zaf rfl (((((hB6.g0 k13).g0 k14).gne k15 (by omega)).g0 k20).g0 k25).range (j := 2) rfl rfl ?_)
    exact ⟨rfl, Rg.refl _, (fun h => by cases h), (fun h => by cases h)⟩
  · intro w26 k26r
    have k26 := Rg.grown k26r (by omega)
    refine op1 (Zu Za8 rfl (((((((((((hB4.g0 k7).g0 k8).g0 k9).g0 k10).g0 k11).g0 k12).g0 k13).g0 k14).gne k15 (by omega)).g0 k20).g0 k26).range rfl ?_)
    exact ⟨rfl, Rg.refl _, (fun h => by cases h), (fun h => by cases h)⟩
  · intro w27 k27r
    have k27 := Rg.grown k27r (by omega)
    refine op1 (Zm Zbt rfl ?_)
    exact ⟨rfl, Rg.refl _, (fun h => by cases h), (fun h => by cases h)⟩
  · intro w28 k28r
    have k28 := Rg.grown k28r (by omega)
    rintro _ rfl
    refine op1 (Zau (us := [.bool (decide ((Zr c).x < 0)), ca]) Zaf rfl (((((hB6.g0 k13).g0 k14).gne k15 (by omega)).g0 k20).g0 k28).range (j := 0) rfl rfl ?_)
    exact ⟨rfl, Rg.refl _, (fun h => by cases h), (fun h => by cases h)⟩
  · intro w29 k29r
    have k29 := Rg.grown k29r (by omega)
    refine op1 (Zm Zca rfl ?_)
    exact ⟨rfl, Rg.refl _, (fun h => by cases h), (fun h => by cases h)⟩
  · intro w30 k30r
    have k30 := Rg.grown k30r (by omega)
    rintro _ rfl
    refine op1 (Zau (us := [.bool (decide ((Zr c).y < 0)), cb]) Zaf rfl (((((hB6.g0 k13).g0 k14).gne k15 (by omega)).g0 k20).g0 k30).range (j := 2) rfl rfl ?_)
    exact ⟨rfl, Rg.refl _, (fun h => by cases h), (fun h => by cases h)⟩
  · intro w31 k31r
    have k31 := Rg.grown k31r (by omega)
    have hb27 := Zf hb16 k31
    rintro _ rfl _ rfl _ rfl
    refine op1 (Zp fn30 rfl (Zef (x := (Zr c).x) (y := (Zr c).y) (n0 := n0) (Zy hn0 hb27) (((Sl.gSmall Zac (((((((((Sl.gSmall Zac (hS2.g0 k5) k6 hB3 (by decide)).g0 k7).g0 k8).g0 k9).g0 k10).g0 k11).g0 k12).g0 k13).g0 k14) k15 hB8 (by decide)).g0 k20).g0 k31) hq.can (by have := hq.nodes; have := hq.len; omega) (((((hS4.gg0 k13).gg0 k14).ggB k15 hB8 (by decide) (by omega)).gg0 k20).gg0 k31) (((((hS5.gg0 k13).gg0 k14).ggB k15 hB8 (by decide) (by omega)).gg0 k20).gg0 k31) (Bd.le hbdc.1 (show 50 ≤ 50 by decide)) (Bd.le hbdc.2 (show 50 ≤ 50 by decide))) ?_)
    rintro _ w32 ⟨hq11, rfl⟩
    have k32 := Zi hq11 none
    have hz20 := hq11.size
    have hb28 := Zf hb27 k32
    have hz21 := hb28.size
    have hcr1 := Zds hq.can ((Zr c).x) ((Zr c).y)
    exact ⟨rfl, Rg.of (k32), (fun h => by cases h), (fun h => by cases h)⟩
  · intro w33 k33r
    have k33 := Rg.grown k33r (by omega)
    have hb29 := Zf hb16 k33
    rintro _ rfl _ rfl _ rfl _ rfl
    refine op1 (Zp fn28 rfl (Zj7 (x := (Zr c).x) (y := (Zr c).y) (s := (Zbg ((Zap l 30).1) ((Zr c).x) ((Zr c).y))) (n0 := n0) (Zy hn0 hb29) (((Sl.gSmall Zac (hS8.g0 k14) k15 hB8 (by decide)).g0 k20).g0 k33) hp.1 (by have := hpl; have := hq.nodes; have := hq.len; omega) (((((hS4.gg0 k13).gg0 k14).ggB k15 hB8 (by decide) (by omega)).gg0 k20).gg0 k33) (((((hS5.gg0 k13).gg0 k14).ggB k15 hB8 (by decide) (by omega)).gg0 k20).gg0 k33) (Bd.le hbdc.1 (show 50 ≤ 50 by decide)) (Bd.le hbdc.2 (show 50 ≤ 50 by decide)) (Zds hq.can _ _)) ?_)
    rintro _ w34 ⟨hq12, sv4, rfl, hS10⟩
    have k34 := Zi hq12 none
    have hz22 := hq12.size
    have hb30 := Zf hb29 k34
    have hz23 := hb30.size
    exact ⟨⟨_, rfl, hS10⟩, Rg.of (k34), (fun h => by cases h), (fun h => by cases h)⟩
  · intro w35 k35r
    have k35 := Rg.grown k35r (by omega)
    rintro _ ⟨v1, rfl, hS11⟩
    refine op1 (Zc rfl ?_)
    exact ⟨⟨_, rfl, hS11⟩, Rg.refl _, (fun h => by cases h), (fun h => by cases h)⟩
  · intro w36 k36r
    have k36 := Rg.grown k36r (by omega)
    rintro _ ⟨v2, rfl, hS12⟩
    refine op1 (Zag rfl rfl ?_)
    exact ⟨⟨_, rfl, hS12⟩, Rg.refl _, (fun h => by cases h), (fun h => by cases h)⟩
  · intro w37 k37r
    have k37 := Rg.grown k37r (by omega)
    rintro _ ⟨v3, rfl, hS13⟩
    refine op1 (Zag rfl rfl ?_)
    exact ⟨rfl, Rg.refl _, (fun h => by cases h), (fun h => by cases h)⟩
  · intro w38 k38r
    have k38 := Rg.grown k38r (by omega)
    refine op1 (Zat Zfg ?_)
    intro g7 w39 hg7 hB12 k39 hs11
    have hz_ := k38.size
    exact ⟨⟨g7, rfl, by omega, _, rfl, hB12⟩, Rg.of k39, (fun h => by cases h), (fun h => by cases h)⟩
  · intro w40 k40r
    have k40 := Rg.grown k40r (by omega)
    rintro _ ⟨g8, rfl, hg8, hB13, hc1, hB14⟩ _ ⟨v4, rfl, hS14⟩
    refine op1 (Zae Za8 rfl rfl hB14 (by simp only [List.all_cons, List.all_nil, (hS14).none.one, Bool.and_true, Bool.and_self] <;> rfl) rfl hc1 ?_)
    intro w41 hB15 k41 hs12
    have hT1 : Zix ((Zba ((Zba ((Zap l 30).1) ((Zr c).x) ((Zr c).y) c.st).1) ((Zr c).x) ((Zr c).y) (Zbg ((Zap l 30).1) ((Zr c).x) ((Zr c).y))).1) _ [v4].toArray := ⟨v4, rfl, nodes_sto ⟨_, hc1, hB14⟩ k41 (hS14).none⟩
    exact ⟨trivial, Rg.sto ⟨_, hc1, hB14⟩ hB15 rfl hT1 k41 hg8, (fun h => by cases h), fun _ => ⟨_, rfl, _, rfl, hg8, _, hB15, rfl, hT1⟩⟩
  intro w42 k42r
  have k42 := Rg.grown k42r (by omega)
  have hb36 := Zf hb16 k42
  rintro _ rfl _ rfl _ rfl _ rfl _ rfl _ rfl _ rfl _ rfl _ rfl _ rfl _ rfl _ ⟨v5, rfl, hS15⟩ _ ⟨v6, rfl, hS16⟩ _ ⟨v7, rfl, hS17⟩ _ rfl _ ⟨g9, rfl, hg9, hB16, hc2, hB17⟩ hp1
  obtain ⟨_, he1, _, _, hB18, _, v8, rfl, hS18⟩ := hp1 _ rfl
  cases he1
  have hlt_12 := hB18.lt
  refine st (Ze rfl (Zg (Zd (Zh (Zb (st (Zm Zbt rfl (st (Zau (us := [.bool (decide ((Zr c).x < 0)), ca]) Zaf rfl (((((hB6.g0 k13).g0 k14).gne k15 (by omega)).g0 k20).g0 k42).range (j := 0) rfl rfl ?_)))))))))
  refine st (Zm Zbt rfl (st (Zau (us := [.bool (decide ((Zr d).x < 0)), da]) Zaf rfl (((((hB7.g0 k13).g0 k14).gne k15 (by omega)).g0 k20).g0 k42).range (j := 0) rfl rfl (st (Zp fn24 rfl (Zmd ((((((hS4.gg0 k13).gg0 k14).ggB k15 hB8 (by decide) (by omega)).gg0 k20).gg0 k42)).none ((((((hS6.gg0 k13).gg0 k14).ggB k15 hB8 (by decide) (by omega)).gg0 k20).gg0 k42)).none) ?_)))))
  rintro v9 w43 ⟨hq13, hv1⟩
  rw [show decide (decide ((Zr c).x < 0) = decide ((Zr d).x < 0) ∧ ml ((Zr c).x) = ml ((Zr d).x)) = decide (((Zr c).x) = ((Zr d).x)) from decide_eq_decide.2 same_big] at hv1
  subst hv1
  have k43 := Zi hq13 none
  have hz24 := hq13.size
  have hb37 := Zf hb36 k43
  have hz25 := hb37.size
  refine st (Zc rfl ?_)
  refine Za0 90 rfl (fun h8 => ?_) (fun h8 => ?_)
  rotate_left
  · refine Zj rfl rfl (Zj rfl rfl (Zj rfl rfl (Zj rfl rfl (Zj rfl rfl (st (Zo rfl rfl (st (Ze rfl ?_))))))))
    refine Zg (Zd (Zh (Zh (Zb (st (Zc rfl (Zg ?_)))))))
    refine Zd (Zbv rfl (Zn (Zd (Zh ?_))))
    have h14 : ((Zba ((Zba ((Zap l 30).1) ((Zr c).x) ((Zr c).y) c.st).1) ((Zr c).x) ((Zr c).y) (Zbg ((Zap l 30).1) ((Zr c).x) ((Zr c).y))).2 = 0) := Classical.byContradiction fun h14 => h14 (by rw [hbk])
    have h15 : ((Nd.eqv ((Zba ((Zba ((Zap l 30).1) ((Zr c).x) ((Zr c).y) c.st).1) ((Zr c).x) ((Zr c).y) (Zbg ((Zap l 30).1) ((Zr c).x) ((Zr c).y))).1) ((Zap l 30).1))) = true := (Bool.eq_false_or_eq_true _).elim (fun h15 => h15) (fun h15 => absurd ((show _ = true from by rw [hbk]; exact eqv_self _).symm.trans h15) (by decide))
    have h16 : ((Zbg ((Zba ((Zap l 30).1) ((Zr c).x) ((Zr c).y) c.st).1) ((Zr c).x) ((Zr c).y)) = c.st) := Classical.byContradiction fun h16 => h16 (by rw [hp.2]; exact if_pos ⟨rfl, rfl⟩)
    refine Zby 33 (fun a b => a.grownBy b none) [(some 112, Is <| .int .i64 ((Zba ((Zba ((Zap l 30).1) ((Zr c).x) ((Zr c).y) c.st).1) ((Zr c).x) ((Zr c).y) (Zbg ((Zap l 30).1) ((Zr c).x) ((Zr c).y))).2)), (some 113, Is <| .bool (decide ((Zba ((Zba ((Zap l 30).1) ((Zr c).x) ((Zr c).y) c.st).1) ((Zr c).x) ((Zr c).y) (Zbg ((Zap l 30).1) ((Zr c).x) ((Zr c).y))).2 = 0))), (some 114, Is <| .bool true), (some 115, Is <| .agg [v8].toArray), (some 116, Is <| .agg [sv1].toArray), (some 117, Is <| .bool (Nd.eqv ((Zba ((Zba ((Zap l 30).1) ((Zr c).x) ((Zr c).y) c.st).1) ((Zr c).x) ((Zr c).y) (Zbg ((Zap l 30).1) ((Zr c).x) ((Zr c).y))).1) ((Zap l 30).1))), (some 118, Is <| .bool (Nd.eqv ((Zba ((Zba ((Zap l 30).1) ((Zr c).x) ((Zr c).y) c.st).1) ((Zr c).x) ((Zr c).y) (Zbg ((Zap l 30).1) ((Zr c).x) ((Zr c).y))).1) ((Zap l 30).1))), (some 119, Is <| .bool true), (some 120, Is <| .agg [sv2].toArray), (some 121, Is <| .pointer (some ⟨g1, 0 + 0, none⟩)), (some 122, Is <| .agg [.bool (decide ((Zr c).x < 0)), ca].toArray), (some 123, Is <| .pointer (some ⟨g1, 0 + 2, none⟩)), (some 124, Is <| .agg [.bool (decide ((Zr c).y < 0)), cb].toArray), (some 125, Is <| .int .u8 (Zbg ((Zba ((Zap l 30).1) ((Zr c).x) ((Zr c).y) c.st).1) ((Zr c).x) ((Zr c).y))), (some 126, Is <| .pointer (some ⟨g1, 0 + 4, none⟩)), (some 127, Is <| .int .u8 c.st), (some 128, Is <| .bool (decide ((Zbg ((Zba ((Zap l 30).1) ((Zr c).x) ((Zr c).y) c.st).1) ((Zr c).x) ((Zr c).y)) = c.st))), (some 129, Is <| .bool (decide ((Zbg ((Zba ((Zap l 30).1) ((Zr c).x) ((Zr c).y) c.st).1) ((Zr c).x) ((Zr c).y)) = c.st))), (some 130, Is <| .bool true), (some 131, Is <| .agg [sv2].toArray), (some 132, Is <| .pointer (some ⟨g2, 0 + 0, none⟩)), (some 133, Is <| .agg [.bool (decide ((Zr d).x < 0)), da].toArray), (some 134, Is <| .pointer (some ⟨g2, 0 + 2, none⟩)), (some 135, Is <| .agg [.bool (decide ((Zr d).y < 0)), db].toArray), (some 136, Is <| .int .u8 (Zbg ((Zba ((Zap l 30).1) ((Zr c).x) ((Zr c).y) c.st).1) ((Zr d).x) ((Zr d).y))), (some 137, Is <| .agg [sv1].toArray), (some 138, Is <| .pointer (some ⟨g2, 0 + 0, none⟩)), (some 139, Is <| .agg [.bool (decide ((Zr d).x < 0)), da].toArray), (some 140, Is <| .pointer (some ⟨g2, 0 + 2, none⟩)), (some 141, Is <| .agg [.bool (decide ((Zr d).y < 0)), db].toArray), (some 142, Is <| .int .u8 (Zbg ((Zap l 30).1) ((Zr d).x) ((Zr d).y))), (some 143, Is <| .bool (decide ((Zbg ((Zba ((Zap l 30).1) ((Zr c).x) ((Zr c).y) c.st).1) ((Zr d).x) ((Zr d).y)) = (Zbg ((Zap l 30).1) ((Zr d).x) ((Zr d).y))))), (some 144, Is <| .bool (decide ((Zbg ((Zba ((Zap l 30).1) ((Zr c).x) ((Zr c).y) c.st).1) ((Zr d).x) ((Zr d).y)) = (Zbg ((Zap l 30).1) ((Zr d).x) ((Zr d).y)))))] [[], [0], [1], [2], [2], [2, 3, 4], [2, 5], [6], [7], [7], [7, 9], [7], [7, 11], [7, 8, 10, 12], [7], [7, 14], [7, 13, 15], [7, 16], [17], [18], [18], [18, 20], [18], [18, 22], [18, 19, 21, 23], [18], [18], [18, 26], [18], [18, 28], [18, 25, 27, 29], [18, 24, 30], [18, 31]] [(4, .pointer (some ⟨g1, 0, none⟩)), (5, .pointer (some ⟨g2, 0, none⟩)), (6, .bool false), (7, .pointer (some ⟨g3, 0, none⟩)), (9, .pointer (some ⟨g5, 0, none⟩)), (11, .pointer (some ⟨g9, 0, none⟩)), (12, .int .i64 ((Zba ((Zba ((Zap l 30).1) ((Zr c).x) ((Zr c).y) c.st).1) ((Zr c).x) ((Zr c).y) (Zbg ((Zap l 30).1) ((Zr c).x) ((Zr c).y))).2))] (by exact ⟨rfl, rfl, rfl, rfl, rfl, rfl, rfl, trivial⟩) (by kernel_rfl) (by kernel_rfl) Za (fun _ _ _ => Zaa) ⟨kv, kv, kv, kv, kv, kv, kv, kv, kv, kv, kv, kv, kv, kv, kv, kv, kv, kv, kv, kv, kv, kv, kv, kv, kv, kv, kv, kv, kv, kv, kv, kv, kv, trivial⟩ ?_
    intro w128 k128 hs16
    have hb112 := Zf hb37 k128
    refine ⟨⟨?_, ?_, ?_, ?_, ?_, ?_, ?_, ?_, ?_, ?_, ?_, ?_, ?_, ?_, ?_, ?_, ?_, ?_, ?_, ?_, ?_, ?_, ?_, ?_, ?_, ?_, ?_, ?_, ?_, ?_, ?_, ?_, ?_, trivial⟩, ?_⟩
    · intro w129 k129
      refine op1 (Zc rfl ?_)
      exact ⟨rfl, Za _⟩
    · intro w130 k130
      rintro _ rfl
      refine op1 (Zbr rfl rfl ?_)
      exact ⟨rfl, Za _⟩
    · intro w131 k131
      rintro _ rfl
      refine op1 (Zc rfl ?_)
      exact ⟨(by rw [decide_eq_true h14]), Za _⟩
    · intro w132 k132
      rintro _ rfl
      refine Zal (Zu Za8 rfl (((hB18.g0 k43).g0 k128).g0 k132).range rfl ?_)
      exact ⟨rfl, Za _⟩
    · intro w133 k133
      rintro _ rfl
      refine Zal (Zu Za8 rfl ((((((((((((((hB4.g0 k7).g0 k8).g0 k9).g0 k10).g0 k11).g0 k12).g0 k13).g0 k14).gne k15 (by omega)).g0 k20).g0 k42).g0 k43).g0 k128).g0 k133).range rfl ?_)
      exact ⟨rfl, Za _⟩
    · intro w134 k134
      have hb118 := Zf hb112 k134
      rintro _ rfl _ rfl _ rfl
      refine Zal (Zp fn32 rfl (Nd.rsame_any ((((hS18.g0 k43).g0 k128).g0 k134)).none (((((((Sl.gSmall Zac (((((((((Sl.gSmall Zac (hS2.g0 k5) k6 hB3 (by decide)).g0 k7).g0 k8).g0 k9).g0 k10).g0 k11).g0 k12).g0 k13).g0 k14) k15 hB8 (by decide)).g0 k20).g0 k42).g0 k43).g0 k128).g0 k134)).none) ?_)
      rintro _ w135 ⟨hq31, rfl⟩
      have k135 := Zi hq31 none
      have hz46 := hq31.size
      have hb119 := Zf hb118 k135
      have hz47 := hb119.size
      exact ⟨rfl, k135⟩
    · intro w136 k136
      rintro _ rfl _ rfl
      refine op1 (Zo rfl rfl ?_)
      exact ⟨rfl, Za _⟩
    · intro w137 k137
      rintro _ rfl
      refine op1 (Zc rfl ?_)
      exact ⟨(by rw [h15]), Za _⟩
    · intro w138 k138
      rintro _ rfl
      refine Zal (Zu Za8 rfl (((((hB9.g0 k20).g0 k42).g0 k43).g0 k128).g0 k138).range rfl ?_)
      exact ⟨rfl, Za _⟩
    · intro w139 k139
      rintro _ rfl
      refine Zal (Zm Zbt rfl ?_)
      exact ⟨rfl, Za _⟩
    · intro w140 k140
      rintro _ rfl _ rfl
      refine Zal (Zau (us := [.bool (decide ((Zr c).x < 0)), ca]) Zaf rfl ((((((((hB6.g0 k13).g0 k14).gne k15 (by omega)).g0 k20).g0 k42).g0 k43).g0 k128).g0 k140).range (j := 0) rfl rfl ?_)
      exact ⟨rfl, Za _⟩
    · intro w141 k141
      rintro _ rfl
      refine Zal (Zm Zca rfl ?_)
      exact ⟨rfl, Za _⟩
    · intro w142 k142
      rintro _ rfl _ rfl
      refine Zal (Zau (us := [.bool (decide ((Zr c).y < 0)), cb]) Zaf rfl ((((((((hB6.g0 k13).g0 k14).gne k15 (by omega)).g0 k20).g0 k42).g0 k43).g0 k128).g0 k142).range (j := 2) rfl rfl ?_)
      exact ⟨rfl, Za _⟩
    · intro w143 k143
      have hb127 := Zf hb112 k143
      rintro _ rfl _ rfl _ rfl _ rfl
      refine Zal (Zp fn30 rfl (Zef (x := (Zr c).x) (y := (Zr c).y) (n0 := n0) (Zy hn0 hb127) ((((((Sl.gSmall Zac (hS8.g0 k14) k15 hB8 (by decide)).g0 k20).g0 k42).g0 k43).g0 k128).g0 k143) hp.1 (by have := hpl; have := hq.nodes; have := hq.len; omega) ((((((((hS4.gg0 k13).gg0 k14).ggB k15 hB8 (by decide) (by omega)).gg0 k20).gg0 k42).gg0 k43).gg0 k128).gg0 k143) ((((((((hS5.gg0 k13).gg0 k14).ggB k15 hB8 (by decide) (by omega)).gg0 k20).gg0 k42).gg0 k43).gg0 k128).gg0 k143) (Bd.le hbdc.1 (show 50 ≤ 50 by decide)) (Bd.le hbdc.2 (show 50 ≤ 50 by decide))) ?_)
      rintro _ w144 ⟨hq32, rfl⟩
      have k144 := Zi hq32 none
      have hz48 := hq32.size
      have hb128 := Zf hb127 k144
      have hz49 := hb128.size
      have hcr7 := Zds hp.1 ((Zr c).x) ((Zr c).y)
      exact ⟨rfl, k144⟩
    · intro w145 k145
      rintro _ rfl
      refine Zal (Zm Zgx rfl ?_)
      exact ⟨rfl, Za _⟩
    · intro w146 k146
      rintro _ rfl _ rfl
      refine Zal (Zs one5 rfl ((((((((hB6.g0 k13).g0 k14).gne k15 (by omega)).g0 k20).g0 k42).g0 k43).g0 k128).g0 k146).range (j := 4) rfl ?_)
      exact ⟨rfl, Za _⟩
    · intro w147 k147
      rintro _ rfl _ rfl _ rfl
      refine Zal (Zbr rfl rfl ?_)
      exact ⟨rfl, Za _⟩
    · intro w148 k148
      rintro _ rfl _ rfl
      refine op1 (Zo rfl rfl ?_)
      exact ⟨rfl, Za _⟩
    · intro w149 k149
      rintro _ rfl
      refine op1 (Zc rfl ?_)
      exact ⟨(by rw [decide_eq_true h16]), Za _⟩
    · intro w150 k150
      rintro _ rfl
      refine Zal (Zu Za8 rfl (((((hB9.g0 k20).g0 k42).g0 k43).g0 k128).g0 k150).range rfl ?_)
      exact ⟨rfl, Za _⟩
    · intro w151 k151
      rintro _ rfl
      refine Zal (Zm Zbt rfl ?_)
      exact ⟨rfl, Za _⟩
    · intro w152 k152
      rintro _ rfl _ rfl
      refine Zal (Zau (us := [.bool (decide ((Zr d).x < 0)), da]) Zaf rfl ((((((((hB7.g0 k13).g0 k14).gne k15 (by omega)).g0 k20).g0 k42).g0 k43).g0 k128).g0 k152).range (j := 0) rfl rfl ?_)
      exact ⟨rfl, Za _⟩
    · intro w153 k153
      rintro _ rfl
      refine Zal (Zm Zca rfl ?_)
      exact ⟨rfl, Za _⟩
    · intro w154 k154
      rintro _ rfl _ rfl
      refine Zal (Zau (us := [.bool (decide ((Zr d).y < 0)), db]) Zaf rfl ((((((((hB7.g0 k13).g0 k14).gne k15 (by omega)).g0 k20).g0 k42).g0 k43).g0 k128).g0 k154).range (j := 2) rfl rfl ?_)
      exact ⟨rfl, Za _⟩
    · intro w155 k155
      have hb139 := Zf hb112 k155
      rintro _ rfl _ rfl _ rfl _ rfl
      refine Zal (Zp fn30 rfl (Zef (x := (Zr d).x) (y := (Zr d).y) (n0 := n0) (Zy hn0 hb139) ((((((Sl.gSmall Zac (hS8.g0 k14) k15 hB8 (by decide)).g0 k20).g0 k42).g0 k43).g0 k128).g0 k155) hp.1 (by have := hpl; have := hq.nodes; have := hq.len; omega) ((((((((hS6.gg0 k13).gg0 k14).ggB k15 hB8 (by decide) (by omega)).gg0 k20).gg0 k42).gg0 k43).gg0 k128).gg0 k155) ((((((((hS7.gg0 k13).gg0 k14).ggB k15 hB8 (by decide) (by omega)).gg0 k20).gg0 k42).gg0 k43).gg0 k128).gg0 k155) (Bd.le hbdd.1 (show 50 ≤ 50 by decide)) (Bd.le hbdd.2 (show 50 ≤ 50 by decide))) ?_)
      rintro _ w156 ⟨hq33, rfl⟩
      have k156 := Zi hq33 none
      have hz50 := hq33.size
      have hb140 := Zf hb139 k156
      have hz51 := hb140.size
      have hcr8 := Zds hp.1 ((Zr d).x) ((Zr d).y)
      exact ⟨rfl, k156⟩
    · intro w157 k157
      rintro _ rfl
      refine Zal (Zu Za8 rfl ((((((((((((((hB4.g0 k7).g0 k8).g0 k9).g0 k10).g0 k11).g0 k12).g0 k13).g0 k14).gne k15 (by omega)).g0 k20).g0 k42).g0 k43).g0 k128).g0 k157).range rfl ?_)
      exact ⟨rfl, Za _⟩
    · intro w158 k158
      rintro _ rfl
      refine Zal (Zm Zbt rfl ?_)
      exact ⟨rfl, Za _⟩
    · intro w159 k159
      rintro _ rfl _ rfl
      refine Zal (Zau (us := [.bool (decide ((Zr d).x < 0)), da]) Zaf rfl ((((((((hB7.g0 k13).g0 k14).gne k15 (by omega)).g0 k20).g0 k42).g0 k43).g0 k128).g0 k159).range (j := 0) rfl rfl ?_)
      exact ⟨rfl, Za _⟩
    · intro w160 k160
      rintro _ rfl
      refine Zal (Zm Zca rfl ?_)
      exact ⟨rfl, Za _⟩
    · intro w161 k161
      rintro _ rfl _ rfl
      refine Zal (Zau (us := [.bool (decide ((Zr d).y < 0)), db]) Zaf rfl ((((((((hB7.g0 k13).g0 k14).gne k15 (by omega)).g0 k20).g0 k42).g0 k43).g0 k128).g0 k161).range (j := 2) rfl rfl ?_)
      exact ⟨rfl, Za _⟩
    · intro w162 k162
      have hb146 := Zf hb112 k162
      rintro _ rfl _ rfl _ rfl _ rfl
      refine Zal (Zp fn30 rfl (Zef (x := (Zr d).x) (y := (Zr d).y) (n0 := n0) (Zy hn0 hb146) ((((((Sl.gSmall Zac (((((((((Sl.gSmall Zac (hS2.g0 k5) k6 hB3 (by decide)).g0 k7).g0 k8).g0 k9).g0 k10).g0 k11).g0 k12).g0 k13).g0 k14) k15 hB8 (by decide)).g0 k20).g0 k42).g0 k43).g0 k128).g0 k162) hq.can (by have := hq.nodes; have := hq.len; omega) ((((((((hS6.gg0 k13).gg0 k14).ggB k15 hB8 (by decide) (by omega)).gg0 k20).gg0 k42).gg0 k43).gg0 k128).gg0 k162) ((((((((hS7.gg0 k13).gg0 k14).ggB k15 hB8 (by decide) (by omega)).gg0 k20).gg0 k42).gg0 k43).gg0 k128).gg0 k162) (Bd.le hbdd.1 (show 50 ≤ 50 by decide)) (Bd.le hbdd.2 (show 50 ≤ 50 by decide))) ?_)
      rintro _ w163 ⟨hq34, rfl⟩
      have k163 := Zi hq34 none
      have hz52 := hq34.size
      have hb147 := Zf hb146 k163
      have hz53 := hb147.size
      have hcr9 := Zds hq.can ((Zr d).x) ((Zr d).y)
      exact ⟨rfl, k163⟩
    · intro w164 k164
      rintro _ rfl _ rfl _ rfl
      refine Zal (Zbr rfl rfl ?_)
      exact ⟨rfl, Za _⟩
    · intro w165 k165
      rintro _ rfl _ rfl
      refine op1 (Zo rfl rfl ?_)
      exact ⟨rfl, Za _⟩
    intro w166 k166
    have hb150 := Zf hb112 k166
    have hz54 := k128.size
    have hz55 := k166.size
    rintro _ rfl _ rfl _ rfl _ rfl _ rfl _ rfl _ rfl _ rfl _ rfl _ rfl _ rfl _ rfl _ rfl _ rfl _ rfl _ rfl _ rfl _ rfl _ rfl _ rfl _ rfl _ rfl _ rfl _ rfl _ rfl _ rfl _ rfl _ rfl _ rfl _ rfl _ rfl _ rfl _ rfl
    refine st (Ze rfl (Zg (Zd (Zx rfl rfl ?_))))
    exact ⟨_, rfl, hb150, congrArg Value.bool (decide_eq_true (by rw [hp.2]; exact if_neg (fun e_ => h8 e_.1.symm)))⟩
  refine stg (Zm Zca rfl (stg (Zau (us := [.bool (decide ((Zr c).y < 0)), cb]) Zaf rfl ((((((hB6.g0 k13).g0 k14).gne k15 (by omega)).g0 k20).g0 k42).g0 k43).range (j := 2) rfl rfl (stg (Zm Zca rfl (stg (Zau (us := [.bool (decide ((Zr d).y < 0)), db]) Zaf rfl ((((((hB7.g0 k13).g0 k14).gne k15 (by omega)).g0 k20).g0 k42).g0 k43).range (j := 2) rfl rfl (stg (Zp fn24 rfl (Zmd (((((((hS5.gg0 k13).gg0 k14).ggB k15 hB8 (by decide) (by omega)).gg0 k20).gg0 k42).gg0 k43)).none (((((((hS7.gg0 k13).gg0 k14).ggB k15 hB8 (by decide) (by omega)).gg0 k20).gg0 k42).gg0 k43)).none) ?_)))))))))
  rintro v10 w44 ⟨hq14, hv2⟩
  rw [show decide (decide ((Zr c).y < 0) = decide ((Zr d).y < 0) ∧ ml ((Zr c).y) = ml ((Zr d).y)) = decide (((Zr c).y) = ((Zr d).y)) from decide_eq_decide.2 same_big] at hv2
  subst hv2
  have k44 := Zi hq14 none
  have hz26 := hq14.size
  have hb38 := Zf hb37 k44
  have hz27 := hb38.size
  refine st (Zo rfl rfl (st (Ze rfl (Zg (Zd (Zh (Zh (Zb ?_))))))))
  refine st (Zc rfl (Zg (Zd ?_)))
  refine Zw rfl (fun h9 => ?_) (fun h9 => ?_)
  · refine Zh ?_
    by_cases h10 : (Zbg ((Zba ((Zap l 30).1) ((Zr c).x) ((Zr c).y) c.st).1) ((Zr d).x) ((Zr d).y)) = c.st
    · refine Zby 14 (fun a b => a.grownBy b none) [(some 98, Is <| .agg [sv2].toArray), (some 99, Is <| .pointer (some ⟨g2, 0 + 0, none⟩)), (some 100, Is <| .agg [.bool (decide ((Zr d).x < 0)), da].toArray), (some 101, Is <| .pointer (some ⟨g2, 0 + 2, none⟩)), (some 102, Is <| .agg [.bool (decide ((Zr d).y < 0)), db].toArray), (some 103, Is <| .int .u8 (Zbg ((Zba ((Zap l 30).1) ((Zr c).x) ((Zr c).y) c.st).1) ((Zr d).x) ((Zr d).y))), (some 104, Is <| .pointer (some ⟨g1, 0 + 4, none⟩)), (some 105, Is <| .int .u8 c.st), (some 106, Is <| .bool (decide ((Zbg ((Zba ((Zap l 30).1) ((Zr c).x) ((Zr c).y) c.st).1) ((Zr d).x) ((Zr d).y)) = c.st))), (some 107, Is <| .bool true), (some 108, Is <| undef), (some 109, Is <| undef), (some 110, Is <| undef), (some 111, Is <| .bool true)] [[], [], [1], [], [3], [0, 2, 4], [], [6], [5, 7], [8], [9], [9, 10], [9, 11], [9, 12]] [(4, .pointer (some ⟨g1, 0, none⟩)), (5, .pointer (some ⟨g2, 0, none⟩)), (6, .bool false), (7, .pointer (some ⟨g3, 0, none⟩)), (9, .pointer (some ⟨g5, 0, none⟩)), (11, .pointer (some ⟨g9, 0, none⟩)), (12, .int .i64 ((Zba ((Zba ((Zap l 30).1) ((Zr c).x) ((Zr c).y) c.st).1) ((Zr c).x) ((Zr c).y) (Zbg ((Zap l 30).1) ((Zr c).x) ((Zr c).y))).2))] (by exact ⟨rfl, rfl, rfl, rfl, rfl, rfl, rfl, trivial⟩) (by kernel_rfl) (by kernel_rfl) Za (fun _ _ _ => Zaa) ⟨kv, kv, kv, kv, kv, kv, kv, kv, kv, kv, kv, kv, kv, kv, trivial⟩ ?_
      intro w46 k46 hs13
      have hb39 := Zf hb38 k46
      refine ⟨⟨?_, ?_, ?_, ?_, ?_, ?_, ?_, ?_, ?_, ?_, ?_, ?_, ?_, ?_, trivial⟩, ?_⟩
      · intro w47 k47
        refine op1 (Zu Za8 rfl ((((((hB9.g0 k20).g0 k42).g0 k43).g0 k44).g0 k46).g0 k47).range rfl ?_)
        exact ⟨rfl, Za _⟩
      · intro w48 k48
        refine op1 (Zm Zbt rfl ?_)
        exact ⟨rfl, Za _⟩
      · intro w49 k49
        rintro _ rfl
        refine op1 (Zau (us := [.bool (decide ((Zr d).x < 0)), da]) Zaf rfl (((((((((hB7.g0 k13).g0 k14).gne k15 (by omega)).g0 k20).g0 k42).g0 k43).g0 k44).g0 k46).g0 k49).range (j := 0) rfl rfl ?_)
        exact ⟨rfl, Za _⟩
      · intro w50 k50
        refine op1 (Zm Zca rfl ?_)
        exact ⟨rfl, Za _⟩
      · intro w51 k51
        rintro _ rfl
        refine op1 (Zau (us := [.bool (decide ((Zr d).y < 0)), db]) Zaf rfl (((((((((hB7.g0 k13).g0 k14).gne k15 (by omega)).g0 k20).g0 k42).g0 k43).g0 k44).g0 k46).g0 k51).range (j := 2) rfl rfl ?_)
        exact ⟨rfl, Za _⟩
      · intro w52 k52
        have hb45 := Zf hb39 k52
        rintro _ rfl _ rfl _ rfl
        refine op1 (Zp fn30 rfl (Zef (x := (Zr d).x) (y := (Zr d).y) (n0 := n0) (Zy hn0 hb45) (((((((Sl.gSmall Zac (hS8.g0 k14) k15 hB8 (by decide)).g0 k20).g0 k42).g0 k43).g0 k44).g0 k46).g0 k52) hp.1 (by have := hpl; have := hq.nodes; have := hq.len; omega) (((((((((hS6.gg0 k13).gg0 k14).ggB k15 hB8 (by decide) (by omega)).gg0 k20).gg0 k42).gg0 k43).gg0 k44).gg0 k46).gg0 k52) (((((((((hS7.gg0 k13).gg0 k14).ggB k15 hB8 (by decide) (by omega)).gg0 k20).gg0 k42).gg0 k43).gg0 k44).gg0 k46).gg0 k52) (Bd.le hbdd.1 (show 50 ≤ 50 by decide)) (Bd.le hbdd.2 (show 50 ≤ 50 by decide))) ?_)
        rintro _ w53 ⟨hq16, rfl⟩
        have k53 := Zi hq16 none
        have hz28 := hq16.size
        have hb46 := Zf hb45 k53
        have hz29 := hb46.size
        have hcr2 := Zds hp.1 ((Zr d).x) ((Zr d).y)
        exact ⟨rfl, k53⟩
      · intro w54 k54
        refine op1 (Zm Zgx rfl ?_)
        exact ⟨rfl, Za _⟩
      · intro w55 k55
        rintro _ rfl
        refine op1 (Zs one5 rfl (((((((((hB6.g0 k13).g0 k14).gne k15 (by omega)).g0 k20).g0 k42).g0 k43).g0 k44).g0 k46).g0 k55).range (j := 4) rfl ?_)
        exact ⟨rfl, Za _⟩
      · intro w56 k56
        rintro _ rfl _ rfl
        refine op1 (Zbr rfl rfl ?_)
        exact ⟨rfl, Za _⟩
      · intro w57 k57
        rintro _ rfl
        refine op1 (Zc rfl ?_)
        exact ⟨(by rw [decide_eq_true h10]), Za _⟩
      · intro w58 k58
        rintro _ rfl
        refine Zax ⟨rfl, Za _⟩
      · intro w59 k59
        rintro _ rfl
        intro v_ hv_; subst v_
        refine Zax ⟨rfl, Za _⟩
      · intro w60 k60
        rintro _ rfl
        intro v_ hv_; subst v_
        refine Zax ⟨rfl, Za _⟩
      · intro w61 k61
        rintro _ rfl
        intro v_ hv_; subst v_
        refine op1 (Zo rfl rfl ?_)
        exact ⟨rfl, Za _⟩
      intro w62 k62
      have hb55 := Zf hb39 k62
      have hz30 := k46.size
      have hz31 := k62.size
      rintro _ rfl _ rfl _ rfl _ rfl _ rfl _ rfl _ rfl _ rfl _ rfl _ rfl
      intro v_ hv_; subst v_
      intro v_ hv_; subst v_
      intro v_ hv_; subst v_
      rintro _ rfl
      refine st (Ze rfl (Zg (Zd (Zx rfl rfl ?_))))
      exact ⟨_, rfl, hb55, rfl⟩
    refine Zby 14 (fun a b => a.grownBy b none) [(some 98, Is <| .agg [sv2].toArray), (some 99, Is <| .pointer (some ⟨g2, 0 + 0, none⟩)), (some 100, Is <| .agg [.bool (decide ((Zr d).x < 0)), da].toArray), (some 101, Is <| .pointer (some ⟨g2, 0 + 2, none⟩)), (some 102, Is <| .agg [.bool (decide ((Zr d).y < 0)), db].toArray), (some 103, Is <| .int .u8 (Zbg ((Zba ((Zap l 30).1) ((Zr c).x) ((Zr c).y) c.st).1) ((Zr d).x) ((Zr d).y))), (some 104, Is <| .pointer (some ⟨g1, 0 + 4, none⟩)), (some 105, Is <| .int .u8 c.st), (some 106, Is <| .bool (decide ((Zbg ((Zba ((Zap l 30).1) ((Zr c).x) ((Zr c).y) c.st).1) ((Zr d).x) ((Zr d).y)) = c.st))), (some 107, Is <| .bool false), (some 108, Is <| .pointer (some ⟨g1, 0 + 4, none⟩)), (some 109, Is <| .int .u8 c.st), (some 110, Is <| .bool (decide (c.st = 0))), (some 111, Is <| .bool (decide (c.st = 0)))] [[], [], [1], [], [3], [0, 2, 4], [], [6], [5, 7], [8], [9], [9, 10], [9, 11], [9, 12]] [(4, .pointer (some ⟨g1, 0, none⟩)), (5, .pointer (some ⟨g2, 0, none⟩)), (6, .bool false), (7, .pointer (some ⟨g3, 0, none⟩)), (9, .pointer (some ⟨g5, 0, none⟩)), (11, .pointer (some ⟨g9, 0, none⟩)), (12, .int .i64 ((Zba ((Zba ((Zap l 30).1) ((Zr c).x) ((Zr c).y) c.st).1) ((Zr c).x) ((Zr c).y) (Zbg ((Zap l 30).1) ((Zr c).x) ((Zr c).y))).2))] (by exact ⟨rfl, rfl, rfl, rfl, rfl, rfl, rfl, trivial⟩) (by kernel_rfl) (by kernel_rfl) Za (fun _ _ _ => Zaa) ⟨kv, kv, kv, kv, kv, kv, kv, kv, kv, kv, kv, kv, kv, kv, trivial⟩ ?_
    intro w64 k64 hs14
    have hb56 := Zf hb38 k64
    refine ⟨⟨?_, ?_, ?_, ?_, ?_, ?_, ?_, ?_, ?_, ?_, ?_, ?_, ?_, ?_, trivial⟩, ?_⟩
    · intro w65 k65
      refine op1 (Zu Za8 rfl ((((((hB9.g0 k20).g0 k42).g0 k43).g0 k44).g0 k64).g0 k65).range rfl ?_)
      exact ⟨rfl, Za _⟩
    · intro w66 k66
      refine op1 (Zm Zbt rfl ?_)
      exact ⟨rfl, Za _⟩
    · intro w67 k67
      rintro _ rfl
      refine op1 (Zau (us := [.bool (decide ((Zr d).x < 0)), da]) Zaf rfl (((((((((hB7.g0 k13).g0 k14).gne k15 (by omega)).g0 k20).g0 k42).g0 k43).g0 k44).g0 k64).g0 k67).range (j := 0) rfl rfl ?_)
      exact ⟨rfl, Za _⟩
    · intro w68 k68
      refine op1 (Zm Zca rfl ?_)
      exact ⟨rfl, Za _⟩
    · intro w69 k69
      rintro _ rfl
      refine op1 (Zau (us := [.bool (decide ((Zr d).y < 0)), db]) Zaf rfl (((((((((hB7.g0 k13).g0 k14).gne k15 (by omega)).g0 k20).g0 k42).g0 k43).g0 k44).g0 k64).g0 k69).range (j := 2) rfl rfl ?_)
      exact ⟨rfl, Za _⟩
    · intro w70 k70
      have hb62 := Zf hb56 k70
      rintro _ rfl _ rfl _ rfl
      refine op1 (Zp fn30 rfl (Zef (x := (Zr d).x) (y := (Zr d).y) (n0 := n0) (Zy hn0 hb62) (((((((Sl.gSmall Zac (hS8.g0 k14) k15 hB8 (by decide)).g0 k20).g0 k42).g0 k43).g0 k44).g0 k64).g0 k70) hp.1 (by have := hpl; have := hq.nodes; have := hq.len; omega) (((((((((hS6.gg0 k13).gg0 k14).ggB k15 hB8 (by decide) (by omega)).gg0 k20).gg0 k42).gg0 k43).gg0 k44).gg0 k64).gg0 k70) (((((((((hS7.gg0 k13).gg0 k14).ggB k15 hB8 (by decide) (by omega)).gg0 k20).gg0 k42).gg0 k43).gg0 k44).gg0 k64).gg0 k70) (Bd.le hbdd.1 (show 50 ≤ 50 by decide)) (Bd.le hbdd.2 (show 50 ≤ 50 by decide))) ?_)
      rintro _ w71 ⟨hq18, rfl⟩
      have k71 := Zi hq18 none
      have hz32 := hq18.size
      have hb63 := Zf hb62 k71
      have hz33 := hb63.size
      have hcr3 := Zds hp.1 ((Zr d).x) ((Zr d).y)
      exact ⟨rfl, k71⟩
    · intro w72 k72
      refine op1 (Zm Zgx rfl ?_)
      exact ⟨rfl, Za _⟩
    · intro w73 k73
      rintro _ rfl
      refine op1 (Zs one5 rfl (((((((((hB6.g0 k13).g0 k14).gne k15 (by omega)).g0 k20).g0 k42).g0 k43).g0 k44).g0 k64).g0 k73).range (j := 4) rfl ?_)
      exact ⟨rfl, Za _⟩
    · intro w74 k74
      rintro _ rfl _ rfl
      refine op1 (Zbr rfl rfl ?_)
      exact ⟨rfl, Za _⟩
    · intro w75 k75
      rintro _ rfl
      refine op1 (Zc rfl ?_)
      exact ⟨(by rw [decide_eq_false h10]), Za _⟩
    · intro w76 k76
      rintro _ rfl
      refine Zal (Zm Zgx rfl ?_)
      exact ⟨rfl, Za _⟩
    · intro w77 k77
      rintro _ rfl _ rfl
      refine Zal (Zs one5 rfl (((((((((hB6.g0 k13).g0 k14).gne k15 (by omega)).g0 k20).g0 k42).g0 k43).g0 k44).g0 k64).g0 k77).range (j := 4) rfl ?_)
      exact ⟨rfl, Za _⟩
    · intro w78 k78
      rintro _ rfl _ rfl
      refine Zal (Zbr rfl rfl ?_)
      exact ⟨rfl, Za _⟩
    · intro w79 k79
      rintro _ rfl _ rfl
      refine op1 (Zo rfl rfl ?_)
      exact ⟨rfl, Za _⟩
    intro w80 k80
    have hz34 := k64.size
    have hz35 := k80.size
    rintro _ rfl _ rfl _ rfl _ rfl _ rfl _ rfl _ rfl _ rfl _ rfl _ rfl _ rfl _ rfl _ rfl _ rfl
    refine st (Ze rfl (Zg (Zd (Zx rfl rfl ?_))))
    exact absurd (by rw [hp.2]; exact if_pos ⟨h8.symm, h9.symm⟩) h10
  refine Zn (Zd (Zh ?_))
  have h11 : ((Zba ((Zba ((Zap l 30).1) ((Zr c).x) ((Zr c).y) c.st).1) ((Zr c).x) ((Zr c).y) (Zbg ((Zap l 30).1) ((Zr c).x) ((Zr c).y))).2 = 0) := Classical.byContradiction fun h11 => h11 (by rw [hbk])
  have h12 : ((Nd.eqv ((Zba ((Zba ((Zap l 30).1) ((Zr c).x) ((Zr c).y) c.st).1) ((Zr c).x) ((Zr c).y) (Zbg ((Zap l 30).1) ((Zr c).x) ((Zr c).y))).1) ((Zap l 30).1))) = true := (Bool.eq_false_or_eq_true _).elim (fun h12 => h12) (fun h12 => absurd ((show _ = true from by rw [hbk]; exact eqv_self _).symm.trans h12) (by decide))
  have h13 : ((Zbg ((Zba ((Zap l 30).1) ((Zr c).x) ((Zr c).y) c.st).1) ((Zr c).x) ((Zr c).y)) = c.st) := Classical.byContradiction fun h13 => h13 (by rw [hp.2]; exact if_pos ⟨rfl, rfl⟩)
  refine Zby 33 (fun a b => a.grownBy b none) [(some 112, Is <| .int .i64 ((Zba ((Zba ((Zap l 30).1) ((Zr c).x) ((Zr c).y) c.st).1) ((Zr c).x) ((Zr c).y) (Zbg ((Zap l 30).1) ((Zr c).x) ((Zr c).y))).2)), (some 113, Is <| .bool (decide ((Zba ((Zba ((Zap l 30).1) ((Zr c).x) ((Zr c).y) c.st).1) ((Zr c).x) ((Zr c).y) (Zbg ((Zap l 30).1) ((Zr c).x) ((Zr c).y))).2 = 0))), (some 114, Is <| .bool true), (some 115, Is <| .agg [v8].toArray), (some 116, Is <| .agg [sv1].toArray), (some 117, Is <| .bool (Nd.eqv ((Zba ((Zba ((Zap l 30).1) ((Zr c).x) ((Zr c).y) c.st).1) ((Zr c).x) ((Zr c).y) (Zbg ((Zap l 30).1) ((Zr c).x) ((Zr c).y))).1) ((Zap l 30).1))), (some 118, Is <| .bool (Nd.eqv ((Zba ((Zba ((Zap l 30).1) ((Zr c).x) ((Zr c).y) c.st).1) ((Zr c).x) ((Zr c).y) (Zbg ((Zap l 30).1) ((Zr c).x) ((Zr c).y))).1) ((Zap l 30).1))), (some 119, Is <| .bool true), (some 120, Is <| .agg [sv2].toArray), (some 121, Is <| .pointer (some ⟨g1, 0 + 0, none⟩)), (some 122, Is <| .agg [.bool (decide ((Zr c).x < 0)), ca].toArray), (some 123, Is <| .pointer (some ⟨g1, 0 + 2, none⟩)), (some 124, Is <| .agg [.bool (decide ((Zr c).y < 0)), cb].toArray), (some 125, Is <| .int .u8 (Zbg ((Zba ((Zap l 30).1) ((Zr c).x) ((Zr c).y) c.st).1) ((Zr c).x) ((Zr c).y))), (some 126, Is <| .pointer (some ⟨g1, 0 + 4, none⟩)), (some 127, Is <| .int .u8 c.st), (some 128, Is <| .bool (decide ((Zbg ((Zba ((Zap l 30).1) ((Zr c).x) ((Zr c).y) c.st).1) ((Zr c).x) ((Zr c).y)) = c.st))), (some 129, Is <| .bool (decide ((Zbg ((Zba ((Zap l 30).1) ((Zr c).x) ((Zr c).y) c.st).1) ((Zr c).x) ((Zr c).y)) = c.st))), (some 130, Is <| .bool true), (some 131, Is <| .agg [sv2].toArray), (some 132, Is <| .pointer (some ⟨g2, 0 + 0, none⟩)), (some 133, Is <| .agg [.bool (decide ((Zr d).x < 0)), da].toArray), (some 134, Is <| .pointer (some ⟨g2, 0 + 2, none⟩)), (some 135, Is <| .agg [.bool (decide ((Zr d).y < 0)), db].toArray), (some 136, Is <| .int .u8 (Zbg ((Zba ((Zap l 30).1) ((Zr c).x) ((Zr c).y) c.st).1) ((Zr d).x) ((Zr d).y))), (some 137, Is <| .agg [sv1].toArray), (some 138, Is <| .pointer (some ⟨g2, 0 + 0, none⟩)), (some 139, Is <| .agg [.bool (decide ((Zr d).x < 0)), da].toArray), (some 140, Is <| .pointer (some ⟨g2, 0 + 2, none⟩)), (some 141, Is <| .agg [.bool (decide ((Zr d).y < 0)), db].toArray), (some 142, Is <| .int .u8 (Zbg ((Zap l 30).1) ((Zr d).x) ((Zr d).y))), (some 143, Is <| .bool (decide ((Zbg ((Zba ((Zap l 30).1) ((Zr c).x) ((Zr c).y) c.st).1) ((Zr d).x) ((Zr d).y)) = (Zbg ((Zap l 30).1) ((Zr d).x) ((Zr d).y))))), (some 144, Is <| .bool (decide ((Zbg ((Zba ((Zap l 30).1) ((Zr c).x) ((Zr c).y) c.st).1) ((Zr d).x) ((Zr d).y)) = (Zbg ((Zap l 30).1) ((Zr d).x) ((Zr d).y)))))] [[], [0], [1], [2], [2], [2, 3, 4], [2, 5], [6], [7], [7], [7, 9], [7], [7, 11], [7, 8, 10, 12], [7], [7, 14], [7, 13, 15], [7, 16], [17], [18], [18], [18, 20], [18], [18, 22], [18, 19, 21, 23], [18], [18], [18, 26], [18], [18, 28], [18, 25, 27, 29], [18, 24, 30], [18, 31]] [(4, .pointer (some ⟨g1, 0, none⟩)), (5, .pointer (some ⟨g2, 0, none⟩)), (6, .bool false), (7, .pointer (some ⟨g3, 0, none⟩)), (9, .pointer (some ⟨g5, 0, none⟩)), (11, .pointer (some ⟨g9, 0, none⟩)), (12, .int .i64 ((Zba ((Zba ((Zap l 30).1) ((Zr c).x) ((Zr c).y) c.st).1) ((Zr c).x) ((Zr c).y) (Zbg ((Zap l 30).1) ((Zr c).x) ((Zr c).y))).2))] (by exact ⟨rfl, rfl, rfl, rfl, rfl, rfl, rfl, trivial⟩) (by kernel_rfl) (by kernel_rfl) Za (fun _ _ _ => Zaa) ⟨kv, kv, kv, kv, kv, kv, kv, kv, kv, kv, kv, kv, kv, kv, kv, kv, kv, kv, kv, kv, kv, kv, kv, kv, kv, kv, kv, kv, kv, kv, kv, kv, kv, trivial⟩ ?_
  intro w85 k85 hs15
  have hb73 := Zf hb38 k85
  refine ⟨⟨?_, ?_, ?_, ?_, ?_, ?_, ?_, ?_, ?_, ?_, ?_, ?_, ?_, ?_, ?_, ?_, ?_, ?_, ?_, ?_, ?_, ?_, ?_, ?_, ?_, ?_, ?_, ?_, ?_, ?_, ?_, ?_, ?_, trivial⟩, ?_⟩
  · intro w86 k86
    refine op1 (Zc rfl ?_)
    exact ⟨rfl, Za _⟩
  · intro w87 k87
    rintro _ rfl
    refine op1 (Zbr rfl rfl ?_)
    exact ⟨rfl, Za _⟩
  · intro w88 k88
    rintro _ rfl
    refine op1 (Zc rfl ?_)
    exact ⟨(by rw [decide_eq_true h11]), Za _⟩
  · intro w89 k89
    rintro _ rfl
    refine Zal (Zu Za8 rfl ((((hB18.g0 k43).g0 k44).g0 k85).g0 k89).range rfl ?_)
    exact ⟨rfl, Za _⟩
  · intro w90 k90
    rintro _ rfl
    refine Zal (Zu Za8 rfl (((((((((((((((hB4.g0 k7).g0 k8).g0 k9).g0 k10).g0 k11).g0 k12).g0 k13).g0 k14).gne k15 (by omega)).g0 k20).g0 k42).g0 k43).g0 k44).g0 k85).g0 k90).range rfl ?_)
    exact ⟨rfl, Za _⟩
  · intro w91 k91
    have hb79 := Zf hb73 k91
    rintro _ rfl _ rfl _ rfl
    refine Zal (Zp fn32 rfl (Nd.rsame_any (((((hS18.g0 k43).g0 k44).g0 k85).g0 k91)).none ((((((((Sl.gSmall Zac (((((((((Sl.gSmall Zac (hS2.g0 k5) k6 hB3 (by decide)).g0 k7).g0 k8).g0 k9).g0 k10).g0 k11).g0 k12).g0 k13).g0 k14) k15 hB8 (by decide)).g0 k20).g0 k42).g0 k43).g0 k44).g0 k85).g0 k91)).none) ?_)
    rintro _ w92 ⟨hq23, rfl⟩
    have k92 := Zi hq23 none
    have hz36 := hq23.size
    have hb80 := Zf hb79 k92
    have hz37 := hb80.size
    exact ⟨rfl, k92⟩
  · intro w93 k93
    rintro _ rfl _ rfl
    refine op1 (Zo rfl rfl ?_)
    exact ⟨rfl, Za _⟩
  · intro w94 k94
    rintro _ rfl
    refine op1 (Zc rfl ?_)
    exact ⟨(by rw [h12]), Za _⟩
  · intro w95 k95
    rintro _ rfl
    refine Zal (Zu Za8 rfl ((((((hB9.g0 k20).g0 k42).g0 k43).g0 k44).g0 k85).g0 k95).range rfl ?_)
    exact ⟨rfl, Za _⟩
  · intro w96 k96
    rintro _ rfl
    refine Zal (Zm Zbt rfl ?_)
    exact ⟨rfl, Za _⟩
  · intro w97 k97
    rintro _ rfl _ rfl
    refine Zal (Zau (us := [.bool (decide ((Zr c).x < 0)), ca]) Zaf rfl (((((((((hB6.g0 k13).g0 k14).gne k15 (by omega)).g0 k20).g0 k42).g0 k43).g0 k44).g0 k85).g0 k97).range (j := 0) rfl rfl ?_)
    exact ⟨rfl, Za _⟩
  · intro w98 k98
    rintro _ rfl
    refine Zal (Zm Zca rfl ?_)
    exact ⟨rfl, Za _⟩
  · intro w99 k99
    rintro _ rfl _ rfl
    refine Zal (Zau (us := [.bool (decide ((Zr c).y < 0)), cb]) Zaf rfl (((((((((hB6.g0 k13).g0 k14).gne k15 (by omega)).g0 k20).g0 k42).g0 k43).g0 k44).g0 k85).g0 k99).range (j := 2) rfl rfl ?_)
    exact ⟨rfl, Za _⟩
  · intro w100 k100
    have hb88 := Zf hb73 k100
    rintro _ rfl _ rfl _ rfl _ rfl
    refine Zal (Zp fn30 rfl (Zef (x := (Zr c).x) (y := (Zr c).y) (n0 := n0) (Zy hn0 hb88) (((((((Sl.gSmall Zac (hS8.g0 k14) k15 hB8 (by decide)).g0 k20).g0 k42).g0 k43).g0 k44).g0 k85).g0 k100) hp.1 (by have := hpl; have := hq.nodes; have := hq.len; omega) (((((((((hS4.gg0 k13).gg0 k14).ggB k15 hB8 (by decide) (by omega)).gg0 k20).gg0 k42).gg0 k43).gg0 k44).gg0 k85).gg0 k100) (((((((((hS5.gg0 k13).gg0 k14).ggB k15 hB8 (by decide) (by omega)).gg0 k20).gg0 k42).gg0 k43).gg0 k44).gg0 k85).gg0 k100) (Bd.le hbdc.1 (show 50 ≤ 50 by decide)) (Bd.le hbdc.2 (show 50 ≤ 50 by decide))) ?_)
    rintro _ w101 ⟨hq24, rfl⟩
    have k101 := Zi hq24 none
    have hz38 := hq24.size
    have hb89 := Zf hb88 k101
    have hz39 := hb89.size
    have hcr4 := Zds hp.1 ((Zr c).x) ((Zr c).y)
    exact ⟨rfl, k101⟩
  · intro w102 k102
    rintro _ rfl
    refine Zal (Zm Zgx rfl ?_)
    exact ⟨rfl, Za _⟩
  · intro w103 k103
    rintro _ rfl _ rfl
    refine Zal (Zs one5 rfl (((((((((hB6.g0 k13).g0 k14).gne k15 (by omega)).g0 k20).g0 k42).g0 k43).g0 k44).g0 k85).g0 k103).range (j := 4) rfl ?_)
    exact ⟨rfl, Za _⟩
  · intro w104 k104
    rintro _ rfl _ rfl _ rfl
    refine Zal (Zbr rfl rfl ?_)
    exact ⟨rfl, Za _⟩
  · intro w105 k105
    rintro _ rfl _ rfl
    refine op1 (Zo rfl rfl ?_)
    exact ⟨rfl, Za _⟩
  · intro w106 k106
    rintro _ rfl
    refine op1 (Zc rfl ?_)
    exact ⟨(by rw [decide_eq_true h13]), Za _⟩
  · intro w107 k107
    rintro _ rfl
    refine Zal (Zu Za8 rfl ((((((hB9.g0 k20).g0 k42).g0 k43).g0 k44).g0 k85).g0 k107).range rfl ?_)
    exact ⟨rfl, Za _⟩
  · intro w108 k108
    rintro _ rfl
    refine Zal (Zm Zbt rfl ?_)
    exact ⟨rfl, Za _⟩
  · intro w109 k109
    rintro _ rfl _ rfl
    refine Zal (Zau (us := [.bool (decide ((Zr d).x < 0)), da]) Zaf rfl (((((((((hB7.g0 k13).g0 k14).gne k15 (by omega)).g0 k20).g0 k42).g0 k43).g0 k44).g0 k85).g0 k109).range (j := 0) rfl rfl ?_)
    exact ⟨rfl, Za _⟩
  · intro w110 k110
    rintro _ rfl
    refine Zal (Zm Zca rfl ?_)
    exact ⟨rfl, Za _⟩
  · intro w111 k111
    rintro _ rfl _ rfl
    refine Zal (Zau (us := [.bool (decide ((Zr d).y < 0)), db]) Zaf rfl (((((((((hB7.g0 k13).g0 k14).gne k15 (by omega)).g0 k20).g0 k42).g0 k43).g0 k44).g0 k85).g0 k111).range (j := 2) rfl rfl ?_)
    exact ⟨rfl, Za _⟩
  · intro w112 k112
    have hb100 := Zf hb73 k112
    rintro _ rfl _ rfl _ rfl _ rfl
    refine Zal (Zp fn30 rfl (Zef (x := (Zr d).x) (y := (Zr d).y) (n0 := n0) (Zy hn0 hb100) (((((((Sl.gSmall Zac (hS8.g0 k14) k15 hB8 (by decide)).g0 k20).g0 k42).g0 k43).g0 k44).g0 k85).g0 k112) hp.1 (by have := hpl; have := hq.nodes; have := hq.len; omega) (((((((((hS6.gg0 k13).gg0 k14).ggB k15 hB8 (by decide) (by omega)).gg0 k20).gg0 k42).gg0 k43).gg0 k44).gg0 k85).gg0 k112) (((((((((hS7.gg0 k13).gg0 k14).ggB k15 hB8 (by decide) (by omega)).gg0 k20).gg0 k42).gg0 k43).gg0 k44).gg0 k85).gg0 k112) (Bd.le hbdd.1 (show 50 ≤ 50 by decide)) (Bd.le hbdd.2 (show 50 ≤ 50 by decide))) ?_)
    rintro _ w113 ⟨hq25, rfl⟩
    have k113 := Zi hq25 none
    have hz40 := hq25.size
    have hb101 := Zf hb100 k113
    have hz41 := hb101.size
    have hcr5 := Zds hp.1 ((Zr d).x) ((Zr d).y)
    exact ⟨rfl, k113⟩
  · intro w114 k114
    rintro _ rfl
    refine Zal (Zu Za8 rfl (((((((((((((((hB4.g0 k7).g0 k8).g0 k9).g0 k10).g0 k11).g0 k12).g0 k13).g0 k14).gne k15 (by omega)).g0 k20).g0 k42).g0 k43).g0 k44).g0 k85).g0 k114).range rfl ?_)
    exact ⟨rfl, Za _⟩
  · intro w115 k115
    rintro _ rfl
    refine Zal (Zm Zbt rfl ?_)
    exact ⟨rfl, Za _⟩
  · intro w116 k116
    rintro _ rfl _ rfl
    refine Zal (Zau (us := [.bool (decide ((Zr d).x < 0)), da]) Zaf rfl (((((((((hB7.g0 k13).g0 k14).gne k15 (by omega)).g0 k20).g0 k42).g0 k43).g0 k44).g0 k85).g0 k116).range (j := 0) rfl rfl ?_)
    exact ⟨rfl, Za _⟩
  · intro w117 k117
    rintro _ rfl
    refine Zal (Zm Zca rfl ?_)
    exact ⟨rfl, Za _⟩
  · intro w118 k118
    rintro _ rfl _ rfl
    refine Zal (Zau (us := [.bool (decide ((Zr d).y < 0)), db]) Zaf rfl (((((((((hB7.g0 k13).g0 k14).gne k15 (by omega)).g0 k20).g0 k42).g0 k43).g0 k44).g0 k85).g0 k118).range (j := 2) rfl rfl ?_)
    exact ⟨rfl, Za _⟩
  · intro w119 k119
    have hb107 := Zf hb73 k119
    rintro _ rfl _ rfl _ rfl _ rfl
    refine Zal (Zp fn30 rfl (Zef (x := (Zr d).x) (y := (Zr d).y) (n0 := n0) (Zy hn0 hb107) (((((((Sl.gSmall Zac (((((((((Sl.gSmall Zac (hS2.g0 k5) k6 hB3 (by decide)).g0 k7).g0 k8).g0 k9).g0 k10).g0 k11).g0 k12).g0 k13).g0 k14) k15 hB8 (by decide)).g0 k20).g0 k42).g0 k43).g0 k44).g0 k85).g0 k119) hq.can (by have := hq.nodes; have := hq.len; omega) (((((((((hS6.gg0 k13).gg0 k14).ggB k15 hB8 (by decide) (by omega)).gg0 k20).gg0 k42).gg0 k43).gg0 k44).gg0 k85).gg0 k119) (((((((((hS7.gg0 k13).gg0 k14).ggB k15 hB8 (by decide) (by omega)).gg0 k20).gg0 k42).gg0 k43).gg0 k44).gg0 k85).gg0 k119) (Bd.le hbdd.1 (show 50 ≤ 50 by decide)) (Bd.le hbdd.2 (show 50 ≤ 50 by decide))) ?_)
    rintro _ w120 ⟨hq26, rfl⟩
    have k120 := Zi hq26 none
    have hz42 := hq26.size
    have hb108 := Zf hb107 k120
    have hz43 := hb108.size
    have hcr6 := Zds hq.can ((Zr d).x) ((Zr d).y)
    exact ⟨rfl, k120⟩
  · intro w121 k121
    rintro _ rfl _ rfl _ rfl
    refine Zal (Zbr rfl rfl ?_)
    exact ⟨rfl, Za _⟩
  · intro w122 k122
    rintro _ rfl _ rfl
    refine op1 (Zo rfl rfl ?_)
    exact ⟨rfl, Za _⟩
  intro w123 k123
  have hb111 := Zf hb73 k123
  have hz44 := k85.size
  have hz45 := k123.size
  rintro _ rfl _ rfl _ rfl _ rfl _ rfl _ rfl _ rfl _ rfl _ rfl _ rfl _ rfl _ rfl _ rfl _ rfl _ rfl _ rfl _ rfl _ rfl _ rfl _ rfl _ rfl _ rfl _ rfl _ rfl _ rfl _ rfl _ rfl _ rfl _ rfl _ rfl _ rfl _ rfl _ rfl
  refine st (Ze rfl (Zg (Zd (Zx rfl rfl ?_))))
  exact ⟨_, rfl, hb111, congrArg Value.bool (decide_eq_true (by rw [hp.2]; exact if_neg (fun e_ => h9 e_.2.symm)))⟩
end Go.Proofs.Ytfljelnfjbbknaa.Lm
