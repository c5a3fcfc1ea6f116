/- Part of the proof: a library for walks, plain laws, and functions' walks. -/
import Derived.Test.YtfljelnfjbbknaaM6
import Derived.Test.YtfljelnfjbbknaaM5
import Derived.Test.YtfljelnfjbbknaaM4
import Derived.Test.YtfljelnfjbbknaaM2
set_option maxRecDepth 20000
set_option linter.unusedSimpArgs false
set_option linter.unusedVariables false
namespace Go.Proofs.Ytfljelnfjbbknaa.Lm
open Go.RowKit Go.Gw
set_option maxHeartbeats 1000000 in
theorem Zgv {w : World} {n0 : Nat} (hn0 : n0 ≤ w.heap.size) {ng : Bool} {a : Value} {xs : List Int} (ha : Sl Kd.u32 w (G 83 n0 w) a xs) (hla : xs.length ≤ 100000) :
  Calls Try.prog 53 [.bool ng, a].toArray w (Zbh w fun v W => Zbw 83 n0 W v (sg ng (nv xs))) := by
 have hb0 := Below.refl w.heap.size w
 have hln1 := ha.lenle
 refine enter Try.func53 rfl rfl (Zh (Zb (st (Zan Zb3 ?_))))
 intro g1 w1 hg1 hB1 k1 hs1
 have hz1 := hb0.size
 have hb1 := Zf hb0 k1
 refine Zg (Zd (Zh (Zb (st (Zc rfl (st (Zq fn84 rfl (rnorm_any (n0 := n0) (Zu hn0 hb1) (((ha.at0 hb1)).unlocG hb1) (by first | omega | (simp; done) | (simp; omega))) ?_)))))))
 rintro v1 w2 ⟨hq1, hS1⟩
 have k2 := Zi hq1 none
 have hz2 := hq1.size
 have hb2 := Zf hb1 k2
 have hz3 := hb2.size
 refine st (Ze rfl (Zg (Zd (Zh (Zb (st (Zc rfl (st (Zc rfl ?_)))))))))
 refine Zd7 8 rfl (fun h1 => ?_) (fun h1 => ?_)
 rotate_left
 ·refine Zj rfl rfl (Zj rfl rfl (Zj rfl rfl (st (Zr rfl rfl (st (Zc rfl (st (Zbe (ps := [(0, .tmp 12), (1, .tmp 13)]) (ccs := [#[.bool false], #[v1]]) (cells := [.bool false, v1]) rfl (by simp only [List.map_cons, List.map_nil, hS1.cells1] <;> rfl) kr (st0 (Zv Zx rfl rfl (hB1.g0 k2) (by simp only [List.all_cons, List.all_nil, hS1.one, Bool.and_true, Bool.and_self] <;> rfl) rfl rfl ?_))))))))))
  intro w4 hB3 k4 hs3
  have hb4 := belowa hb2 k4
  refine Zg (Zd (Zcx rfl Zx rfl hB3.range rfl ?_))
  have hm := Zap (Zay ha)
  exact ⟨_, rfl, hb4, _, by rw [sg_pos hm h1], by rw [← sg_ml ng hm]; exact (hS1.ggB k4 (hB1.g0 k2) dc om)⟩
 refine stg (Zc rfl (stg (Zaq Zbx rfl hS1 (stg (Zch rfl rfl (st (Zr rfl rfl (st (Zc rfl (st (Zbe (ps := [(0, .tmp 12), (1, .tmp 13)]) (ccs := [#[.bool (decide (0 < ((tl (nv xs)).length : Int)))], #[v1]]) (cells := [.bool (decide (0 < ((tl (nv xs)).length : Int))), v1]) rfl (by simp only [List.map_cons, List.map_nil, hS1.cells1] <;> rfl) kr (st0 (Zv Zx rfl rfl (hB1.g0 k2) (by simp only [List.all_cons, List.all_nil, hS1.one, Bool.and_true, Bool.and_self] <;> rfl) rfl rfl ?_)))))))))))))
 intro w3 hB2 k3 hs2
 have hb3 := belowa hb2 k3
 refine Zg (Zd (Zcx rfl Zx rfl hB2.range rfl ?_))
 have hm := Zap (Zay ha)
 exact ⟨_, rfl, hb3, _, by rw [sg_neg hm h1], by rw [← sg_ml ng hm]; exact (hS1.ggB k3 (hB1.g0 k2) dc om)⟩
set_option maxHeartbeats 1000000 in
theorem rof2_any {w : World} {n0 : Nat} (hn0 : n0 ≤ w.heap.size) {n : Int} (hn : -9223372036854775808 ≤ n ∧ n ≤ 9223372036854775807) :
  Calls Try.prog 20 [.int .i64 n].toArray w (Zbh w fun v W => Zbw 83 n0 W v (n)) := by
 have hb0 := Below.refl w.heap.size w
 refine enter Try.func20 rfl rfl (Zh (Zb (st (Zan Zb3 ?_))))
 intro g1 w1 hg1 hB1 k1 hs1
 have hz1 := hb0.size
 have hb1 := Zf hb0 k1
 refine Zg (Zd (Zh (Zb (st (Zc rfl (st (Zco (M := 18446744073709551616) rfl rfl Zh5 Zec rfl (st (Ze rfl ?_)))))))))
 refine Zg (Zd (Zh (Zh (Zb (st (Zc rfl (st (Zbd rfl rfl ?_))))))))
 refine Zg (Zd ?_)
 refine Zw rfl (fun h1 => ?_) (fun h1 => ?_)
 rotate_left
 ·refine Zo (Zd (Zh (Zb (st (Zc rfl (st (Zbd rfl rfl (st (Zc rfl ?_)))))))))
  refine st (Zew rfl rfl om om (st (Zco (M := 4294967296) rfl rfl Zec Zdu rfl (st (Zc rfl (st (s_quok (M := 18446744073709551616) rfl rfl rfl rfl om om (st (Zco (M := 4294967296) rfl rfl Zec Zdu rfl (st (Zau (ps := [(0, .tmp 14), (1, .tmp 17)]) (ccs := [#[.int .u32 (((n % 18446744073709551616) % 4294967296) % 4294967296)], #[.int .u32 (((n % 18446744073709551616) / 4294967296) % 4294967296)]]) (e := 83) (cells := [.int .u32 (((n % 18446744073709551616) % 4294967296) % 4294967296), .int .u32 (((n % 18446744073709551616) / 4294967296) % 4294967296)]) rfl rfl kr dc nz83 ?_)))))))))))
  intro g3 w5 hg3 hB4 k5 hs4
  have hb5 := Zf hb1 k5
  have hz5 := hb5.size
  have hS3 := Ziw (F := fun _ => False) ([(((n % 18446744073709551616) % 4294967296) % 4294967296), (((n % 18446744073709551616) / 4294967296) % 4294967296)] : List Int) hB4 (fun h => h) rfl (by first | decide | simp) (by intro x hx; simp at hx; omega)
  refine st (Zq fn53 rfl (Zgv (n0 := n0) (Zu hn0 hb5) (Sl.litG hB4 hS3) (by first | omega | (simp; done) | (simp; omega))) ?_)
  rintro _ w6 ⟨hq2, v2, rfl, hS4⟩
  have k6 := Zi hq2 none
  have hz6 := hq2.size
  have hb6 := Zf hb5 k6
  have hz7 := hb6.size
  refine st0 (Zv Zx rfl rfl ((hB1.g0 k5).g0 k6) (by simp only [List.all_cons, List.all_nil, hS4.one, Bool.and_true, Bool.and_self] <;> rfl) rfl rfl ?_)
  intro w7 hB5 k7 hs5
  have hb7 := belowa hb6 k7
  refine Zg (Zd (Zcx rfl Zx rfl hB5.range rfl ?_))
  exact ⟨_, rfl, hb7, Zai (rof_pos hn h1) (hS4.ggB k7 ((hB1.g0 k5).g0 k6) dc om)⟩
 refine Zb (st (Zc rfl (st (s_negk (M := 18446744073709551616) rfl rfl rfl (st (Ze rfl (Zg (Zd (Zh ?_)))))))))
 refine Zb (st (Zc rfl (st (Zbd rfl rfl (st (Zc rfl (st (Zew rfl rfl om om (st (Zco (M := 4294967296) rfl rfl Zec Zdu rfl (st (Zc rfl ?_))))))))))))
 refine st (s_quok (M := 18446744073709551616) rfl rfl rfl rfl om om (st (Zco (M := 4294967296) rfl rfl Zec Zdu rfl (st (Zau (ps := [(0, .tmp 14), (1, .tmp 17)]) (ccs := [#[.int .u32 ((((-(n % 18446744073709551616)) % 18446744073709551616) % 4294967296) % 4294967296)], #[.int .u32 ((((-(n % 18446744073709551616)) % 18446744073709551616) / 4294967296) % 4294967296)]]) (e := 83) (cells := [.int .u32 ((((-(n % 18446744073709551616)) % 18446744073709551616) % 4294967296) % 4294967296), .int .u32 ((((-(n % 18446744073709551616)) % 18446744073709551616) / 4294967296) % 4294967296)]) rfl rfl kr dc nz83 ?_)))))
 intro g2 w2 hg2 hB2 k2 hs2
 have hb2 := Zf hb1 k2
 have hz2 := hb2.size
 have hS1 := Ziw (F := fun _ => False) ([((((-(n % 18446744073709551616)) % 18446744073709551616) % 4294967296) % 4294967296), ((((-(n % 18446744073709551616)) % 18446744073709551616) / 4294967296) % 4294967296)] : List Int) hB2 (fun h => h) rfl (by first | decide | simp) (by intro x hx; simp at hx; omega)
 refine st (Zq fn53 rfl (Zgv (n0 := n0) (Zu hn0 hb2) (Sl.litG hB2 hS1) (by first | omega | (simp; done) | (simp; omega))) ?_)
 rintro _ w3 ⟨hq1, v1, rfl, hS2⟩
 have k3 := Zi hq1 none
 have hz3 := hq1.size
 have hb3 := Zf hb2 k3
 have hz4 := hb3.size
 refine st0 (Zv Zx rfl rfl ((hB1.g0 k2).g0 k3) (by simp only [List.all_cons, List.all_nil, hS2.one, Bool.and_true, Bool.and_self] <;> rfl) rfl rfl ?_)
 intro w4 hB3 k4 hs3
 have hb4 := belowa hb3 k4
 refine Zg (Zd (Zcx rfl Zx rfl hB3.range rfl ?_))
 exact ⟨_, rfl, hb4, Zai (rof_neg hn h1) (hS2.ggB k4 ((hB1.g0 k2).g0 k3) dc om)⟩
set_option maxHeartbeats 1000000 in
theorem rminus_any0 {w : World} {n0 : Nat} (hn0 : n0 ≤ w.heap.size)  {a : Value} {n : Int} (ha : Sl Kd.u32 w (G 83 n0 w) a (ml n)) (hbn : Bd 90000 n)  :
  Calls Try.prog 48 [.agg [.bool (decide (n < 0)), a].toArray].toArray w (Zbh w fun v W => Zbw 83 n0 W v (-n)) := by
 have hb0 := Below.refl w.heap.size w
 have hln := Zf9 hbn
 have hnn := Zc7 n
 refine enter Try.func48 rfl rfl (Zh (Zb (st (Zbs rfl ?_))))
 intro g1 w1 hg1 hB1 k1 hs1
 change Blk w1 g1 31 [.bool (decide (n < 0)), a].toArray at hB1
 have hb1 := Zf hb0 k1
 have hlt_1 := (hB1).lt
 refine st (Zan Zb3 ?_)
 intro g2 w2 hg2 hB2 k2 hs2
 have hz1 := hb1.size
 have hb2 := Zf hb1 k2
 refine Zg (Zd (Zh (Zb (st (Zn Zdh rfl (st (Zt Zeg rfl (hB1.g0 k2).range (j := 0) rfl (st (s_notP rfl ?_)))))))))
 refine st (Zn Zbr rfl (st (Zt Zcd rfl (hB1.g0 k2).range (j := 1) rfl (st (Zq fn53 rfl (Zgv (n0 := n0) (Zu hn0 hb2) (((ha.at0 hb2)).unlocG hb2) (by first | omega | (simp; done) | (simp; omega))) ?_)))))
 rintro _ w3 ⟨hq1, v1, rfl, hS1⟩
 have k3 := Zi hq1 none
 have hz2 := hq1.size
 have hb3 := Zf hb2 k3
 have hz3 := hb3.size
 refine st0 (Zv Zx rfl rfl (hB2.g0 k3) (by simp only [List.all_cons, List.all_nil, hS1.one, Bool.and_true, Bool.and_self] <;> rfl) rfl rfl ?_)
 intro w4 hB3 k4 hs3
 have hb4 := belowa hb3 k4
 refine Zg (Zd (Zcx rfl Zx rfl hB3.range rfl ?_))
 exact ⟨_, rfl, hb4, Zai (by rw [Zc7]; exact sg_minv n) (hS1.ggB k4 (hB2.g0 k3) dc om)⟩
theorem Zgu {w : World} {n0 : Nat} (hn0 : n0 ≤ w.heap.size)  {vn : Value} {n : Int} (hn : Zbw 83 n0 w vn n) (hbn : Bd 90000 n)  :
  Calls Try.prog 48 [vn].toArray w (Zbh w fun v W => Zbw 83 n0 W v (-n)) := by
 obtain ⟨sn, rfl, kn⟩ := hn
 exact rminus_any0 hn0 kn hbn
set_option maxHeartbeats 1000000 in
theorem rbadd_any0 {w : World} {n0 : Nat} (hn0 : n0 ≤ w.heap.size)  {a : Value} {n : Int} {b : Value} {m : Int} (ha : Sl Kd.u32 w (G 83 n0 w) a (ml n)) (hb : Sl Kd.u32 w (G 83 n0 w) b (ml m)) (hbn : Bd 90000 n) (hbm : Bd 90000 m)  :
  Calls Try.prog 22 [.agg [.bool (decide (n < 0)), a].toArray, .agg [.bool (decide (m < 0)), b].toArray].toArray w (Zbh w fun v W => Zbw 83 n0 W v (n + m)) := by
 have hb0 := Below.refl w.heap.size w
 have hal : (tl (nv (ml n) + nv (ml m))).length ≤ 90001 := by rw [Zc7, Zc7]; exact Zlm om (by have h1 := (Zfn (i := 90001) hbn hbm dc dc); have h2 := (bd_sub (i := 90001) hbn hbm dc dc); unfold Bd at *; omega)
 have hsl : (tl (nv (ml n) - nv (ml m))).length ≤ 90001 := by rw [Zc7, Zc7]; by_cases h0 : ((n.natAbs : Nat) : Int) - m.natAbs ≤ 0; (rw [Zfv h0]; exact Nat.zero_le _); exact Zlm om (by have h1 := (Zfn (i := 90001) hbn hbm dc dc); have h2 := (bd_sub (i := 90001) hbn hbm dc dc); unfold Bd at *; omega)
 have hsl2 : (tl (nv (ml m) - nv (ml n))).length ≤ 90001 := by rw [Zc7, Zc7]; by_cases h0 : ((m.natAbs : Nat) : Int) - n.natAbs ≤ 0; (rw [Zfv h0]; exact Nat.zero_le _); exact Zlm om (by have h1 := (Zfn (i := 90001) hbn hbm dc dc); have h2 := (bd_sub (i := 90001) hbn hbm dc dc); unfold Bd at *; omega)
 have hln := Zf9 hbn
 have hlm := Zf9 hbm
 have hnn := Zc7 n
 have hnm := Zc7 m
 refine enter Try.func22 rfl rfl (Zh (Zb (st (Zbs rfl ?_))))
 intro g1 w1 hg1 hB1 k1 hs1
 change Blk w1 g1 31 [.bool (decide (n < 0)), a].toArray at hB1
 have hb1 := Zf hb0 k1
 refine st (Zbs rfl ?_)
 intro g2 w2 hg2 hB2 k2 hs2
 change Blk w2 g2 31 [.bool (decide (m < 0)), b].toArray at hB2
 have hb2 := Zf hb1 k2
 have hlt_1 := ((hB1.g0 k2)).lt
 have hlt_2 := (hB2).lt
 refine st (Zan Zb3 ?_)
 intro g3 w3 hg3 hB3 k3 hs3
 have hz1 := hb2.size
 have hb3 := Zf hb2 k3
 refine Zg (Zd (Zh (Zh (Zb (st (Zn Zdh rfl (st (Zt Zeg rfl ((hB1.g0 k2).g0 k3).range (j := 0) rfl ?_))))))))
 refine st (Zn Zdh rfl (st (Zt Zeg rfl (hB2.g0 k3).range (j := 0) rfl (st (s_eqbool bool4 rfl rfl (Zg (Zd ?_)))))))
 refine Zba rfl (fun h1 => ?_) (fun h1 => ?_)
 ·refine Zh ?_
  refine Zce 8 GN [xi 12 <| .pointer (some ⟨g1, 0 + 0, none⟩), xi 13 <| .bool (decide (n < 0)), xi 14 <| .pointer (some ⟨g1, 0 + 1, none⟩), (some 15, fun v _ => Sl Kd.u32 w (G 83 n0 w) v (ml n)), xi 16 <| .pointer (some ⟨g2, 0 + 1, none⟩), (some 17, fun v _ => Sl Kd.u32 w (G 83 n0 w) v (ml m)), (some 18, fun v W => Sl Kd.u32 W (G 83 n0 W) v (tl (nv (ml n) + nv (ml m)))), (some 19, fun v W => Zbw 83 n0 W v (sg (decide (n < 0)) (nv (tl (nv (ml n) + nv (ml m))))))] [[], [0], [], [2], [], [4], [3, 5], [1, 6]] [(2, (pp g1)), (3, (pp g2)), (4, (pp g3))] sb kr kr Za gnt ⟨kv, kv, kv, fun _ _ _ h _ => h, kv, fun _ _ _ h _ => h, fun _ _ _ h k => h.gg0 k, fun _ _ _ h k => h.g0 k, trivial⟩ ?_
  intro w6 k6 hs4
  have hb4 := Zf hb3 k6
  refine ⟨⟨?_, ?_, ?_, ?_, ?_, ?_, ?_, ?_, trivial⟩, ?_⟩
  ·intro w7 k7
   refine op1 (Zn Zdh rfl ?_)
   exact ⟨rfl, Za _⟩
  ·intro w8 k8
   rintro _ rfl
   refine op1 (Zt Zeg rfl ((((hB1.g0 k2).g0 k3).g0 k6).g0 k8).range (j := 0) rfl ?_)
   exact ⟨rfl, Za _⟩
  ·intro w9 k9
   refine op1 (Zn Zbr rfl ?_)
   exact ⟨rfl, Za _⟩
  ·intro w10 k10
   rintro _ rfl
   refine op1 (Zt Zcd rfl ((((hB1.g0 k2).g0 k3).g0 k6).g0 k10).range (j := 1) rfl ?_)
   exact ⟨ha, Za _⟩
  ·intro w11 k11
   refine op1 (Zn Zbr rfl ?_)
   exact ⟨rfl, Za _⟩
  ·intro w12 k12
   rintro _ rfl
   refine op1 (Zt Zcd rfl (((hB2.g0 k3).g0 k6).g0 k12).range (j := 1) rfl ?_)
   exact ⟨hb, Za _⟩
  ·intro w13 k13
   have hb11 := Zf hb4 k13
   rintro v3 hS3 v4 hS4
   refine op1 (Zq fn54 rfl (radd_any (n0 := n0) (Zu hn0 hb11) (((hS3.at0 hb11)).unlocG hb11) (((hS4.at0 hb11)).unlocG hb11) (by first | omega | (simp; done) | (simp; omega)) (by first | omega | (simp; done) | (simp; omega))) ?_)
   rintro v5 w14 ⟨hq3, hS5⟩
   have k14 := Zi hq3 none
   have hz2 := hq3.size
   have hb12 := Zf hb11 k14
   have hz3 := hb12.size
   exact ⟨hS5, k14⟩
  ·intro w15 k15
   have hb13 := Zf hb4 k15
   rintro _ rfl v6 hS6
   refine op1 (Zq fn53 rfl (Zgv (n0 := n0) (Zu hn0 hb13) hS6 (by first | omega | (simp; done) | (simp; omega))) ?_)
   rintro _ w16 ⟨hq4, v7, rfl, hS7⟩
   have k16 := Zi hq4 none
   have hz4 := hq4.size
   have hb14 := Zf hb13 k16
   have hz5 := hb14.size
   exact ⟨⟨_, rfl, hS7⟩, k16⟩
  intro w17 k17
  have hb15 := Zf hb4 k17
  rintro _ rfl _ rfl _ rfl v8 hS8 _ rfl v9 hS9 v10 hS10 _ ⟨v11, rfl, hS11⟩
  refine st0 (Zv Zx rfl rfl ((hB3.g0 k6).g0 k17) (by simp only [List.all_cons, List.all_nil, hS11.one, Bool.and_true, Bool.and_self] <;> rfl) rfl rfl ?_)
  intro w18 hB4 k18 hs5
  have hb16 := belowa hb15 k18
  refine Zg (Zd (Zcx rfl Zx rfl hB4.range rfl ?_))
  have he : sg (decide (n < 0)) (nv (tl (nv (ml n) + nv (ml m)))) = n + m := (by rw [Zf3 om]; exact sg_add (eq_of_beq h1))
  exact ⟨_, rfl, hb16, Zai he (hS11.ggB k18 ((hB3.g0 k6).g0 k17) dc om)⟩
 refine Zo (Zd (Zh (Zb (st (Zn Zbr rfl (st (Zt Zcd rfl ((hB1.g0 k2).g0 k3).range (j := 1) rfl (st (Zn Zbr rfl ?_)))))))))
 refine st (Zt Zcd rfl (hB2.g0 k3).range (j := 1) rfl (st (Zq fn55 rfl (rsub_any (n0 := n0) (Zu hn0 hb3) (((ha.at0 hb3)).unlocG hb3) (((hb.at0 hb3)).unlocG hb3) (by first | omega | (simp; done) | (simp; omega)) (by first | omega | (simp; done) | (simp; omega))) ?_)))
 rintro _ w19 ⟨hq5, v12, rfl, hS12⟩
 have k19 := Zi hq5 none
 have hz6 := hq5.size
 have hb17 := Zf hb3 k19
 have hz7 := hb17.size
 refine st (Zc rfl (st (Zad rfl rfl (st (Zad rfl rfl (st (Ze rfl (st (Ze rfl (Zg (Zd ?_)))))))))))
 refine Zh (Zh (Zb (st (Zc rfl (Zg (Zd ?_))))))
 refine Zba rfl (fun h2 => ?_) (fun h2 => ?_)
 ·refine Zh (Zb (st (Zn Zdh rfl (st (Zt Zeg rfl (((hB1.g0 k2).g0 k3).g0 k19).range (j := 0) rfl (st (Zc rfl (st (Zq fn53 rfl (Zgv (n0 := n0) (Zu hn0 hb17) hS12 (by first | omega | (simp; done) | (simp; omega))) ?_)))))))))
  rintro _ w20 ⟨hq6, v13, rfl, hS13⟩
  have k20 := Zi hq6 none
  have hz8 := hq6.size
  have hb18 := Zf hb17 k20
  have hz9 := hb18.size
  refine st0 (Zv Zx rfl rfl ((hB3.g0 k19).g0 k20) (by simp only [List.all_cons, List.all_nil, hS13.one, Bool.and_true, Bool.and_self] <;> rfl) rfl rfl ?_)
  intro w21 hB5 k21 hs6
  have hb19 := belowa hb18 k21
  refine Zg (Zd (Zcx rfl Zx rfl hB5.range rfl ?_))
  have he : sg (decide (n < 0)) (nv (tl (nv (ml n) - nv (ml m)))) = n + m := (by have hle : nv (ml m) ≤ nv (ml n) := (by simpa using h2); rw [Zf3 om]; exact sg_sub (fun e => by rw [e, beq_self_eq_true] at h1; cases h1) hle)
  exact ⟨_, rfl, hb19, Zai he (hS13.ggB k21 ((hB3.g0 k19).g0 k20) dc om)⟩
 refine Zo (Zd (Zh (Zb (st (Zn Zbr rfl (st (Zt Zcd rfl ((hB2.g0 k3).g0 k19).range (j := 1) rfl (st (Zn Zbr rfl ?_)))))))))
 refine st (Zt Zcd rfl (((hB1.g0 k2).g0 k3).g0 k19).range (j := 1) rfl (st (Zq fn55 rfl (rsub_any (n0 := n0) (Zu hn0 hb17) (((hb.at0 hb17)).unlocG hb17) (((ha.at0 hb17)).unlocG hb17) (by first | omega | (simp; done) | (simp; omega)) (by first | omega | (simp; done) | (simp; omega))) ?_)))
 rintro _ w22 ⟨hq7, v14, rfl, hS14⟩
 have k22 := Zi hq7 none
 have hz10 := hq7.size
 have hb20 := Zf hb17 k22
 have hz11 := hb20.size
 refine st (Zc rfl (st (Zad rfl rfl (st (Zad rfl rfl (st (Ze rfl (Zg (Zd (Zh ?_))))))))))
 refine Zb (st (Zn Zdh rfl (st (Zt Zeg rfl (((hB2.g0 k3).g0 k19).g0 k22).range (j := 0) rfl (st (Zc rfl (st (Zq fn53 rfl (Zgv (n0 := n0) (Zu hn0 hb20) hS14 (by first | omega | (simp; done) | (simp; omega))) ?_))))))))
 rintro _ w23 ⟨hq8, v15, rfl, hS15⟩
 have k23 := Zi hq8 none
 have hz12 := hq8.size
 have hb21 := Zf hb20 k23
 have hz13 := hb21.size
 refine st0 (Zv Zx rfl rfl (((hB3.g0 k19).g0 k22).g0 k23) (by simp only [List.all_cons, List.all_nil, hS15.one, Bool.and_true, Bool.and_self] <;> rfl) rfl rfl ?_)
 intro w24 hB6 k24 hs7
 have hb22 := belowa hb21 k24
 refine Zg (Zd (Zcx rfl Zx rfl hB6.range rfl ?_))
 have he : sg (decide (m < 0)) (nv (tl (nv (ml m) - nv (ml n)))) = n + m := (by have hle : ¬ nv (ml m) ≤ nv (ml n) := (by simpa using h2); rw [Zf3 om]; exact (sg_sub (fun e => by rw [e, beq_self_eq_true] at h1; cases h1) om).trans (Int.add_comm m n))
 exact ⟨_, rfl, hb22, Zai he (hS15.ggB k24 (((hB3.g0 k19).g0 k22).g0 k23) dc om)⟩
theorem Zdn {w : World} {n0 : Nat} (hn0 : n0 ≤ w.heap.size)  {vn : Value} {n : Int} {vm : Value} {m : Int} (hn : Zbw 83 n0 w vn n) (hm : Zbw 83 n0 w vm m) (hbn : Bd 90000 n) (hbm : Bd 90000 m)  :
  Calls Try.prog 22 [vn, vm].toArray w (Zbh w fun v W => Zbw 83 n0 W v (n + m)) := by
 obtain ⟨sn, rfl, kn⟩ := hn
 obtain ⟨sm, rfl, km⟩ := hm
 exact rbadd_any0 hn0 kn km hbn hbm
set_option maxHeartbeats 1000000 in
theorem rbsub_any0 {w : World} {n0 : Nat} (hn0 : n0 ≤ w.heap.size)  {a : Value} {n : Int} {b : Value} {m : Int} (ha : Sl Kd.u32 w (G 83 n0 w) a (ml n)) (hb : Sl Kd.u32 w (G 83 n0 w) b (ml m)) (hbn : Bd 90000 n) (hbm : Bd 90000 m)  :
  Calls Try.prog 21 [.agg [.bool (decide (n < 0)), a].toArray, .agg [.bool (decide (m < 0)), b].toArray].toArray w (Zbh w fun v W => Zbw 83 n0 W v (n - m)) := by
 have hb0 := Below.refl w.heap.size w
 have hln := Zf9 hbn
 have hlm := Zf9 hbm
 have hnn := Zc7 n
 have hnm := Zc7 m
 refine enter Try.func21 rfl rfl (Zh (Zb (st (Zbs rfl ?_))))
 intro g1 w1 hg1 hB1 k1 hs1
 change Blk w1 g1 31 [.bool (decide (n < 0)), a].toArray at hB1
 have hb1 := Zf hb0 k1
 refine st (Zbs rfl ?_)
 intro g2 w2 hg2 hB2 k2 hs2
 change Blk w2 g2 31 [.bool (decide (m < 0)), b].toArray at hB2
 have hb2 := Zf hb1 k2
 have hlt_1 := ((hB1.g0 k2)).lt
 have hlt_2 := (hB2).lt
 refine st (Zan Zb3 ?_)
 intro g3 w3 hg3 hB3 k3 hs3
 have hz1 := hb2.size
 have hb3 := Zf hb2 k3
 refine Zg (Zd (Zh (Zce 4 GN [xi 5 <| .agg [.bool (decide (n < 0)), a].toArray, xi 6 <| .agg [.bool (decide (m < 0)), b].toArray, (some 7, fun v W => Zbw 83 n0 W v ((-m))), (some 8, fun v W => Zbw 83 n0 W v ((n + (-m))))] [[], [], [1], [0, 2]] [(2, (pp g1)), (3, (pp g2)), (4, (pp g3))] sb kr kr Za gnt ⟨kv, kv, fun _ _ _ h k => h.g0 k, fun _ _ _ h k => h.g0 k, trivial⟩ ?_)))
 intro w6 k6 hs4
 have hb4 := Zf hb3 k6
 refine ⟨⟨?_, ?_, ?_, ?_, trivial⟩, ?_⟩
 ·intro w7 k7
  refine op1 (Zp Zx rfl ((((hB1.g0 k2).g0 k3).g0 k6).g0 k7).range rfl ?_)
  exact ⟨rfl, Za _⟩
 ·intro w8 k8
  refine op1 (Zp Zx rfl (((hB2.g0 k3).g0 k6).g0 k8).range rfl ?_)
  exact ⟨rfl, Za _⟩
 ·intro w9 k9
  have hb7 := Zf hb4 k9
  rintro _ rfl
  refine op1 (Zq fn48 rfl (Zgu (n0 := n0) (Zu hn0 hb7) (Zai rfl (((hb.at0 hb7)).unlocG hb7)) (Bd.le hbm (show 90000 ≤ 90000 by decide))) ?_)
  rintro _ w10 ⟨hq3, v3, rfl, hS3⟩
  have k10 := Zi hq3 none
  have hz2 := hq3.size
  have hb8 := Zf hb7 k10
  have hz3 := hb8.size
  exact ⟨⟨_, rfl, hS3⟩, k10⟩
 ·intro w11 k11
  have hb9 := Zf hb4 k11
  rintro _ rfl _ ⟨v4, rfl, hS4⟩
  refine op1 (Zq fn22 rfl (Zdn (n0 := n0) (Zu hn0 hb9) (Zai rfl (((ha.at0 hb9)).unlocG hb9)) (Zai rfl hS4) (Bd.le hbn (show 90000 ≤ 90000 by decide)) (Bd.le (Zlj hbm) (show 90000 ≤ 90000 by decide))) ?_)
  rintro _ w12 ⟨hq4, v5, rfl, hS5⟩
  have k12 := Zi hq4 none
  have hz4 := hq4.size
  have hb10 := Zf hb9 k12
  have hz5 := hb10.size
  exact ⟨⟨_, rfl, hS5⟩, k12⟩
 intro w13 k13
 have hb11 := Zf hb4 k13
 rintro _ rfl _ rfl _ ⟨v6, rfl, hS6⟩ _ ⟨v7, rfl, hS7⟩
 refine st0 (Zv Zx rfl rfl ((hB3.g0 k6).g0 k13) (by simp only [List.all_cons, List.all_nil, hS7.one, Bool.and_true, Bool.and_self] <;> rfl) rfl rfl ?_)
 intro w14 hB4 k14 hs5
 have hb12 := belowa hb11 k14
 refine Zg (Zd (Zcx rfl Zx rfl hB4.range rfl ?_))
 exact ⟨_, rfl, hb12, Zai om (hS7.ggB k14 ((hB3.g0 k6).g0 k13) dc om)⟩
theorem Zje {w : World} {n0 : Nat} (hn0 : n0 ≤ w.heap.size)  {vn : Value} {n : Int} {vm : Value} {m : Int} (hn : Zbw 83 n0 w vn n) (hm : Zbw 83 n0 w vm m) (hbn : Bd 90000 n) (hbm : Bd 90000 m)  :
  Calls Try.prog 21 [vn, vm].toArray w (Zbh w fun v W => Zbw 83 n0 W v (n - m)) := by
 obtain ⟨sn, rfl, kn⟩ := hn
 obtain ⟨sm, rfl, km⟩ := hm
 exact rbsub_any0 hn0 kn km hbn hbm
set_option maxHeartbeats 1000000 in
theorem rbcmp_any0 {w : World} {n0 : Nat} (hn0 : n0 ≤ w.heap.size)  {a : Value} {n : Int} {b : Value} {m : Int} (ha : Sl Kd.u32 w (G 83 n0 w) a (ml n)) (hb : Sl Kd.u32 w (G 83 n0 w) b (ml m)) (hbn : Bd 90000 n) (hbm : Bd 90000 m)  :
  Calls Try.prog 23 [.agg [.bool (decide (n < 0)), a].toArray, .agg [.bool (decide (m < 0)), b].toArray].toArray w (Zbh w fun v _ => v = .int .i64 (Zbt n m)) := by
 have hb0 := Below.refl w.heap.size w
 have hln := Zf9 hbn
 have hlm := Zf9 hbm
 have hnn := Zc7 n
 have hnm := Zc7 m
 refine enter Try.func23 rfl rfl (Zh (Zb (st (Zbs rfl ?_))))
 intro g1 w1 hg1 hB1 k1 hs1
 change Blk w1 g1 31 [.bool (decide (n < 0)), a].toArray at hB1
 have hb1 := Zf hb0 k1
 refine st (Zbs rfl ?_)
 intro g2 w2 hg2 hB2 k2 hs2
 change Blk w2 g2 31 [.bool (decide (m < 0)), b].toArray at hB2
 have hb2 := Zf hb1 k2
 refine st (Ze rfl (Zg (Zd (Zh (Zb (st (Zp Zx rfl (hB1.g0 k2).range rfl (st (Zp Zx rfl hB2.range rfl ?_)))))))))
 refine st (Zq fn21 rfl (Zje (n0 := n0) (Zu hn0 hb2) (Zai rfl (((ha.at0 hb2)).unlocG hb2)) (Zai rfl (((hb.at0 hb2)).unlocG hb2)) (Bd.le hbn (show 90000 ≤ 90000 by decide)) (Bd.le hbm (show 90000 ≤ 90000 by decide))) ?_)
 rintro _ w3 ⟨hq1, v1, rfl, hS1⟩
 have k3 := Zi hq1 none
 have hz1 := hq1.size
 have hb3 := Zf hb2 k3
 have hz2 := hb3.size
 have hlt_1 := (((hB1.g0 k2).g0 k3)).lt
 have hlt_2 := ((hB2.g0 k3)).lt
 refine st (Zan Zb3 ?_)
 intro g3 w4 hg3 hB3 k4 hs3
 have hz3 := hb3.size
 have hb4 := Zf hb3 k4
 refine st0 (Zv Zx rfl rfl hB3 (by simp only [List.all_cons, List.all_nil, hS1.one, Bool.and_true, Bool.and_self] <;> rfl) rfl rfl ?_)
 intro w5 hB4 k5 hs4
 have hb5 := belowa hb4 k5
 refine Zg (Zd (Zh (Zz (Zh (Zb (st (Zn Zbr rfl ?_)))))))
 refine st (Zt Zcd rfl hB4.range (j := 1) rfl (st (Zaq Zbx rfl ((hS1.gg0 k4).ggB k5 hB3 dc om) (st (Zbu rfl rfl (st (Ze rfl (Zg (Zd ?_)))))))))
 refine Zw rfl (fun h1 => ?_) (fun h1 => ?_)
 ·refine Zh (Zb (st (Ze rfl (Zg (Zd (Zaa rfl rfl ?_))))))
  exact ⟨_, rfl, hb5, congrArg (Value.int .i64) (rcmp_big.2.2 (ml_nil.1 h1)).symm⟩
 refine Zh (Zb (st (Zn Zdh rfl (st (Zt Zeg rfl hB4.range (j := 0) rfl (st (Ze rfl (Zg (Zd ?_)))))))))
 refine Zw rfl (fun h2 => ?_) (fun h2 => ?_)
 ·refine Zh (Zb (st (Ze rfl (Zg (Zd (Zaa rfl rfl ?_))))))
  exact ⟨_, rfl, hb5, congrArg (Value.int .i64) (rcmp_big.2.1 h2).symm⟩
 refine Zo (Zab (Zd (Zh (Zb (st (Ze rfl (Zg ?_)))))))
 refine Zd (Zaa rfl rfl ?_)
 exact ⟨_, rfl, hb5, congrArg (Value.int .i64) (rcmp_big.1 (by have h9 : n - m ≠ 0 := fun e => h1 (ml_nil.2 e); omega)).symm⟩
theorem Zbq {w : World} {n0 : Nat} (hn0 : n0 ≤ w.heap.size)  {vn : Value} {n : Int} {vm : Value} {m : Int} (hn : Zbw 83 n0 w vn n) (hm : Zbw 83 n0 w vm m) (hbn : Bd 90000 n) (hbm : Bd 90000 m)  :
  Calls Try.prog 23 [vn, vm].toArray w (Zbh w fun v _ => v = .int .i64 (Zbt n m)) := by
 obtain ⟨sn, rfl, kn⟩ := hn
 obtain ⟨sm, rfl, km⟩ := hm
 exact rbcmp_any0 hn0 kn km hbn hbm
set_option maxHeartbeats 1000000 in
theorem rbshl_any0 {w : World} {n0 : Nat} (hn0 : n0 ≤ w.heap.size) {k : Int} {a : Value} {n : Int} (ha : Sl Kd.u32 w (G 83 n0 w) a (ml n)) (hbn : Bd 90000 n)  :
  Calls Try.prog 80 [.agg [.bool (decide (n < 0)), a].toArray, .int .i64 k].toArray w (Zbh w fun v W => Zbw 83 n0 W v (Zfm n k)) := by
 have hb0 := Below.refl w.heap.size w
 have hsl := shlL_len (k := k) hbn
 have hln := Zf9 hbn
 have hnn := Zc7 n
 refine enter Try.func80 rfl rfl (Zh (Zb (st (Zbs rfl ?_))))
 intro g1 w1 hg1 hB1 k1 hs1
 change Blk w1 g1 31 [.bool (decide (n < 0)), a].toArray at hB1
 have hb1 := Zf hb0 k1
 have hlt_1 := (hB1).lt
 refine st (Zan Zb3 ?_)
 intro g2 w2 hg2 hB2 k2 hs2
 have hz1 := hb1.size
 have hb2 := Zf hb1 k2
 refine Zg (Zd (Zh ?_))
 refine Zce 7 GN [xi 5 <| .pointer (some ⟨g1, 0 + 0, none⟩), xi 6 <| .bool (decide (n < 0)), xi 7 <| .pointer (some ⟨g1, 0 + 1, none⟩), (some 8, fun v _ => Sl Kd.u32 w (G 83 n0 w) v (ml n)), xi 9 <| .int .i64 k, (some 10, fun v W => Sl Kd.u32 W (G 83 n0 W) v (shlL (ml n) k)), (some 11, fun v W => Zbw 83 n0 W v (sg (decide (n < 0)) (nv (shlL (ml n) k))))] [[], [0], [], [2], [], [3, 4], [1, 5]] [(1, .int .i64 k), (2, (pp g1)), (4, (pp g2))] sb kr kr Za gnt ⟨kv, kv, kv, fun _ _ _ h _ => h, kv, fun _ _ _ h k => h.gg0 k, fun _ _ _ h k => h.g0 k, trivial⟩ ?_
 intro w5 k5 hs3
 have hb3 := Zf hb2 k5
 refine ⟨⟨?_, ?_, ?_, ?_, ?_, ?_, ?_, trivial⟩, ?_⟩
 ·intro w6 k6
  refine op1 (Zn Zdh rfl ?_)
  exact ⟨rfl, Za _⟩
 ·intro w7 k7
  rintro _ rfl
  refine op1 (Zt Zeg rfl (((hB1.g0 k2).g0 k5).g0 k7).range (j := 0) rfl ?_)
  exact ⟨rfl, Za _⟩
 ·intro w8 k8
  refine op1 (Zn Zbr rfl ?_)
  exact ⟨rfl, Za _⟩
 ·intro w9 k9
  rintro _ rfl
  refine op1 (Zt Zcd rfl (((hB1.g0 k2).g0 k5).g0 k9).range (j := 1) rfl ?_)
  exact ⟨ha, Za _⟩
 ·intro w10 k10
  refine op1 (Zc rfl ?_)
  exact ⟨rfl, Za _⟩
 ·intro w11 k11
  have hb9 := Zf hb3 k11
  rintro v3 hS3 _ rfl
  refine op1 (Zq fn102 rfl (rshl_any (n0 := n0) (Zu hn0 hb9) (((hS3.at0 hb9)).unlocG hb9) (by first | omega | (simp; done) | (simp; omega))) ?_)
  rintro v4 w12 ⟨hq3, hS4⟩
  have k12 := Zi hq3 none
  have hz2 := hq3.size
  have hb10 := Zf hb9 k12
  have hz3 := hb10.size
  exact ⟨hS4, k12⟩
 ·intro w13 k13
  have hb11 := Zf hb3 k13
  rintro _ rfl v5 hS5
  refine op1 (Zq fn53 rfl (Zgv (n0 := n0) (Zu hn0 hb11) hS5 (by first | omega | (simp; done) | (simp; omega))) ?_)
  rintro _ w14 ⟨hq4, v6, rfl, hS6⟩
  have k14 := Zi hq4 none
  have hz4 := hq4.size
  have hb12 := Zf hb11 k14
  have hz5 := hb12.size
  exact ⟨⟨_, rfl, hS6⟩, k14⟩
 intro w15 k15
 have hb13 := Zf hb3 k15
 rintro _ rfl _ rfl _ rfl v7 hS7 _ rfl v8 hS8 _ ⟨v9, rfl, hS9⟩
 refine st0 (Zv Zx rfl rfl ((hB2.g0 k5).g0 k15) (by simp only [List.all_cons, List.all_nil, hS9.one, Bool.and_true, Bool.and_self] <;> rfl) rfl rfl ?_)
 intro w16 hB3 k16 hs4
 have hb14 := belowa hb13 k16
 refine Zg (Zd (Zcx rfl Zx rfl hB3.range rfl ?_))
 exact ⟨_, rfl, hb14, Zai (by rw [nv_shlL _ _ om]; exact sg_shl n k) (hS9.ggB k16 ((hB2.g0 k5).g0 k15) dc om)⟩
theorem rbshl_any {w : World} {n0 : Nat} (hn0 : n0 ≤ w.heap.size) {k : Int} {vn : Value} {n : Int} (hn : Zbw 83 n0 w vn n) (hbn : Bd 90000 n)  :
  Calls Try.prog 80 [vn, .int .i64 k].toArray w (Zbh w fun v W => Zbw 83 n0 W v (Zfm n k)) := by
 obtain ⟨sn, rfl, kn⟩ := hn
 exact rbshl_any0 hn0 kn hbn
set_option maxHeartbeats 1000000 in
theorem Zfa {w : World} {n0 : Nat} (hn0 : n0 ≤ w.heap.size) {k : Int} :
  Calls Try.prog 47 [.int .i64 k].toArray w (Zbh w fun v W => Zbw 83 n0 W v (Zfm 1 k)) := by
 have hb0 := Below.refl w.heap.size w
 refine enter Try.func47 rfl rfl (Zh (Zb (st (Zan Zb3 ?_))))
 intro g1 w1 hg1 hB1 k1 hs1
 have hz1 := hb0.size
 have hb1 := Zf hb0 k1
 refine Zg (Zd (Zh (Zb (st (Zq fn20 rfl (rof2_any (n0 := n0) (Zu hn0 hb1) om) ?_)))))
 rintro _ w2 ⟨hq1, v1, rfl, hS1⟩
 have k2 := Zi hq1 none
 have hz2 := hq1.size
 have hb2 := Zf hb1 k2
 have hz3 := hb2.size
 refine st (Zc rfl (st (Zq fn80 rfl (rbshl_any (n0 := n0) (Zu hn0 hb2) (Zai rfl hS1) (Bd.le (Zdz om) (show 2 ≤ 90000 by decide))) ?_)))
 rintro _ w3 ⟨hq2, v2, rfl, hS2⟩
 have k3 := Zi hq2 none
 have hz4 := hq2.size
 have hb3 := Zf hb2 k3
 have hz5 := hb3.size
 refine st0 (Zv Zx rfl rfl ((hB1.g0 k2).g0 k3) (by simp only [List.all_cons, List.all_nil, hS2.one, Bool.and_true, Bool.and_self] <;> rfl) rfl rfl ?_)
 intro w4 hB2 k4 hs2
 have hb4 := belowa hb3 k4
 refine Zg (Zd (Zcx rfl Zx rfl hB2.range rfl ?_))
 exact ⟨_, rfl, hb4, Zai (rfl) (hS2.ggB k4 ((hB1.g0 k2).g0 k3) dc om)⟩
end Go.Proofs.Ytfljelnfjbbknaa.Lm
namespace Go.Proofs.Ytfljelnfjbbknaa.Lm
open Go.RowKit Go.Gw
end Go.Proofs.Ytfljelnfjbbknaa.Lm
namespace Go.Proofs.Ytfljelnfjbbknaa.Lm
open Go.RowKit Go.Gw
end Go.Proofs.Ytfljelnfjbbknaa.Lm
namespace Go.Proofs.Ytfljelnfjbbknaa.Lm
open Go.RowKit Go.Gw
end Go.Proofs.Ytfljelnfjbbknaa.Lm
namespace Go.Proofs.Ytfljelnfjbbknaa.Lm
open Go.RowKit Go.Gw
end Go.Proofs.Ytfljelnfjbbknaa.Lm
namespace Go.Proofs.Ytfljelnfjbbknaa.Lm
open Go.RowKit Go.Gw
set_option maxHeartbeats 1000000 in
theorem Zmo {va : Value} {l : List Nd} {F : Nat → Prop} {w : World} (hl : Sl Kd.node w F va l) :
  Calls Try.prog 46 [.agg [va].toArray].toArray w (Zbh w fun v _ => v = .int .i64 (Zag l)) := by
 have hb0 := Below.refl w.heap.size w
 have hln0 := hl.lenle
 refine enter Try.func46 rfl rfl (Zh (Zb (st (Zbs rfl ?_))))
 intro g1 w1 hg1 hB1 k1 hs1
 change Blk w1 g1 25 [va].toArray at hB1
 have hb1 := Zf hb0 k1
 refine st (Ze rfl (Zg (Zd (Zh (Zh (Zb (st (Zn Zcb rfl ?_))))))))
 refine st (Zt Zb8 rfl hB1.range (j := 0) rfl (st (Zaq Zaw rfl (hl.at0 hb1) (st (Zbu rfl rfl (Zg (Zd ?_)))))))
 refine Zw rfl (fun h1 => ?_) (fun h1 => ?_)
 ·refine Zh (Zb (st (Ze rfl (Zg (Zd (Zaa rfl rfl ?_))))))
  exact ⟨_, rfl, hb1, by simp only [Zag]; split <;> first | rfl | omega⟩
 refine Zo (Zd (Zh (Zb (st (Zn Zcb rfl (st (Zt Zb8 rfl hB1.range (j := 0) rfl (st (Zn Zcb rfl ?_)))))))))
 refine st (Zt Zb8 rfl hB1.range (j := 0) rfl (st (Zaq Zaw rfl (hl.at0 hb1) (st (Za7 rfl rfl om (st (Zat Zaw rfl rfl (hl.at0 hb1) om om ?_)))))))
 rintro b1 o1 _ ⟨rfl, _⟩ hc1 hF1 hlt1
 have hl_1 := Loc.lt hF1
 refine st (Zn Zaz rfl (st (Zt Za9 rfl hc1 (j := 0) rfl (st (Ze rfl (Zg (Zd (Zaa rfl rfl ?_))))))))
 exact ⟨_, rfl, hb1, by simp only [Zag]; split <;> first | rfl | omega⟩
end Go.Proofs.Ytfljelnfjbbknaa.Lm
namespace Go.Gw
open Go.RowKit
section
variable {P : Program} {ops : Array Oper} {Q : Exit → Act → World → Prop} {Zao : List Oper} {n : Nat} {D : List Deferred} {ρ : Env} {w : World}
variable {d ty : Nat} {pos : String} {after : Array Edge} {gd : Option (Nat × Bool)} {C : Value → World → Prop} {x y : Operand}
theorem s_appendH {α : Type} {K : Kd α} {t e by_ base : Nat} {F F' : Nat → Prop} {z v s : Value} {xs ys : List α} (hs : SlF P t e K.sz by_ z) (hx : opv ρ x = some v) (hy : opv ρ y = some s) (ho : Gw.Own K e base w F v xs) (hK : ∀ u y, K.rep w F' u y → K.rep w (Out F v) u y) (hsrc : Sl K w F' s ys)
    (hone : K.Ones) (h63 : xs.length + ys.length ≤ 9223372036854775807) (hbytes : (xs.length + ys.length) * by_ ≤ 140737488355328) (hbase : base ≤ w.heap.size) (hF : ∀ k, F k → k < w.heap.size)
    (k : ∀ v' w', Gw.Own K e base w' F v' (xs ++ ys) → w.grownBy w' v.ownBlock → (v'.ownBlock = v.ownBlock ∨ v'.ownBlock = some w.heap.size) → (∀ g0, v = .slice (some ⟨g0, 0, none⟩) 0 0 → w.heap[g0]? = some (.cells #[] e (0, 0)) → w.grownBy w' none) → C v' w') :
    OpW P ⟨some d, .call { callee := .builtin .append, args := #[x, y], argTypes := #[t, t] }, ty, pos, after, gd⟩ n D ρ w C := by
  obtain ⟨inf, hinf, hzero, hsz, hby⟩ := hs.inf
  obtain ⟨us, hl, hr, hown⟩ := ho.out
  obtain ⟨A, c, rfl, h2, h3, h4⟩ := hsrc
  have hv : ∃ vs : List (List Value), vs.length = ys.length ∧ (∀ (i : Nat) (u : List Value) (y : α), vs[i]? = some u → ys[i]? = some y → K.rep w (Out F v) u y) ∧ (∀ a, A = some a → ys ≠ [] → ∃ g o, a = ⟨g, o, none⟩ ∧ w.rangeAt g o vs.flatten) := by
    have hex : ∀ i : Fin ys.length, ∃ u, ∃ g o, A = some ⟨g, o, none⟩ ∧ K.rep w (Out F v) u ys[i] ∧ w.rangeAt g (o + i * K.sz) u := by
      intro i
      obtain ⟨g, o, u, ha, _, _, hrep, hrng⟩ := h4 i ys[i] (by simp)
      exact ⟨u, g, o, ha, hK _ _ hrep, hrng⟩
    let f : Fin ys.length → List Value := fun i => Classical.choose (hex i)
    have hf : ∀ i, ∃ g o, A = some ⟨g, o, none⟩ ∧ K.rep w (Out F v) (f i) ys[i] ∧ w.rangeAt g (o + i * K.sz) (f i) := fun i => Classical.choose_spec (hex i)
    refine ⟨List.ofFn f, by simp, fun i u y hu hy => ?_, fun a ha hne => ?_⟩
    · rw [List.getElem?_ofFn] at hu
      split at hu
      · rename_i hi
        cases hu
        obtain ⟨_, _, _, hrep, _⟩ := hf ⟨i, hi⟩
        have : ys[i] = y := by rw [List.getElem?_eq_getElem hi] at hy; injection hy
        subst this; exact hrep
      · cases hu
    · have hlen : 0 < ys.length := List.length_pos_iff.2 hne
      obtain ⟨g, o, ha', _, _⟩ := hf ⟨0, hlen⟩
      rw [ha] at ha'
      injection ha' with ha'
      refine ⟨g, o, ha', fun j u hj => ?_⟩
      have hall : ∀ u ∈ List.ofFn f, u.length = K.sz := by
        intro u hu
        obtain ⟨i, rfl⟩ := List.mem_ofFn.1 hu
        obtain ⟨_, _, _, hrep, _⟩ := hf i
        exact K.len hrep
      have hpos := hs.pos
      have hjl : j < ys.length * K.sz := by
        have := (List.getElem?_eq_some_iff.1 hj).1
        rw [List.length_flatten] at this
        have hsum := Zcs (List.ofFn f) hall
        rw [List.length_flatten, List.length_ofFn] at hsum
        omega
      have hdiv : j / K.sz < ys.length := Nat.div_lt_of_lt_mul (by rw [Nat.mul_comm]; exact hjl)
      have hmod : j % K.sz < K.sz := Nat.mod_lt _ hpos
      have hu : (List.ofFn f)[j / K.sz]? = some (f ⟨j / K.sz, hdiv⟩) := by rw [List.getElem?_ofFn]; simp [hdiv]
      have h5 := Zdr (sz := K.sz) (List.ofFn f) hall (j / K.sz) (j % K.sz) _ hu hmod
      rw [show j / K.sz * K.sz + j % K.sz = j by rw [Nat.mul_comm]; exact Nat.div_add_mod j K.sz, hj] at h5
      obtain ⟨g2, o2, ha2, _, hrng⟩ := hf ⟨j / K.sz, hdiv⟩
      rw [ha, ha'] at ha2
      injection ha2 with ha2
      injection ha2 with e1 e2
      subst e1; subst e2
      have := hrng (j % K.sz) u h5.symm
      rw [← this]; congr 2
      show o + j = o + j / K.sz * K.sz + j % K.sz
      have := Nat.div_add_mod j K.sz
      rw [Nat.mul_comm] at this; omega
  obtain ⟨vs, hvl, hvr, hva⟩ := hv
  have hfin : ∀ v' w', w'.ownsRow base e K.sz v' (xs.length + ys.length) (us.flatten ++ vs.flatten) → w.grownBy w' v.ownBlock → (v'.ownBlock = v.ownBlock ∨ v'.ownBlock = some w.heap.size) → Gw.Own K e base w' F v' (xs ++ ys) := by
    intro v' w' ho' hg hor
    refine ⟨⟨us ++ vs, by simp [hl, hvl], fun i u x hu hx => ?_, by rw [List.flatten_append, List.length_append]; exact ho'⟩, fun g hg' => ?_⟩
    · have hrep : K.rep w (Out F v) u x := by
        rcases Nat.lt_or_ge i xs.length with h | h
        · rw [List.getElem?_append_left om] at hu; rw [List.getElem?_append_left h] at hx; exact hr i u x hu hx
        · rw [List.getElem?_append_right om, hl] at hu; rw [List.getElem?_append_right h] at hx; exact hvr _ u x hu hx
      have h1 : K.rep w (fun k => Out F v k ∨ Out F v' k) u x := K.weak hrep fun k hk hk' => by
        rcases hk' with h | h | h
        · exact h
        · exact .inl h
        · rcases hor with e | e
          · exact .inr (e ▸ h)
          · rw [e] at h; injection h with h; omega
      exact K.weak (K.keep h1 fun k hk hn => hg.block k hk fun e => hn (.inl (.inr e.symm))) fun k _ hk => .inr hk
    · rcases hor with h | h
      · exact ho.no g (by rw [← h]; exact hg')
      · rw [h] at hg'; injection hg' with hg'; intro hf; have := hF g hf; omega
  have hzsz : z.cells.size = K.sz := hs.zsz
  cases A with
  | none =>
    have hy0 : ys = [] := by
      cases ys with
      | nil => rfl
      | cons y r => obtain ⟨g, o, u, ha, _⟩ := h4 0 y rfl; cases ha
    subst hy0
    have hv0 : vs = [] := List.eq_nil_of_length_eq_zero hvl
    subst hv0
    refine Za3 (v := v) (w' := w) (fun ev he => ?_) (k v w (hfin v w (by simpa using hown) (World.grownBy.refl w _) (.inl rfl)) (World.grownBy.refl w _) (.inl rfl) (fun _ _ _ => World.grownBy.refl w _))
    simp [execOp, resolve, invoke, builtin, he x _ hx, he y _ hy, run_append_nil base t ty e inf K.sz hs.und hinf v _ _ hown c]
  | some a =>
    have hcells : ∀ j u, vs.flatten[j]? = some u → w.cell? (a.add j) = some u := by
      intro j u hj
      by_cases hne : ys = []
      · subst hne
        have hv0 : vs = [] := List.eq_nil_of_length_eq_zero hvl
        subst hv0; simp at hj
      · obtain ⟨g, o, rfl, hrng⟩ := hva a rfl hne
        exact Zfz hrng j u hj
    have hvlen : vs.flatten.length = ys.length * K.sz := by
      have hall : ∀ u ∈ vs, u.length = K.sz := by
        intro u hu
        obtain ⟨j, hj, rfl⟩ := List.getElem_of_mem hu
        exact K.len (hvr j _ (ys[j]'om) (List.getElem?_eq_getElem hj) (List.getElem?_eq_getElem om))
      rw [Zcs vs hall, hvl]
    have hones : ∀ u ∈ vs.flatten, u.oneCell' = true := by
      intro u hu
      obtain ⟨l, hl', hu'⟩ := List.mem_flatten.1 hu
      obtain ⟨j, hj, rfl⟩ := List.getElem_of_mem hl'
      exact hone _ _ _ _ (hvr j _ (ys[j]'om) (List.getElem?_eq_getElem hj) (List.getElem?_eq_getElem om)) u hu'
    obtain ⟨v', w', hrun, ho', hg, _, hor⟩ := run_append_own_at (P := P) w base t ty e inf z K.sz by_ hs.und hinf hzero hsz hby hzsz hs.pos v xs.length us.flatten hown a ys.length c vs.flatten hvlen hcells hones (by simp only [maxLen]; omega) hbytes hbase
    refine Za3 (v := v') (w' := w') (fun ev he => ?_) (k v' w' (hfin v' w' ho' hg hor) hg hor (fun g0 hv hg0 => by
      subst hv
      exact Ziv hs.und hinf hzero hg0 a vs.flatten (by rw [hvlen, hsz]) hcells hones (by simp only [maxLen]; omega) (by rw [hby]; exact Nat.le_trans (Nat.mul_le_mul_right _ (Nat.le_add_left _ _)) hbytes) hrun))
    simp [execOp, resolve, invoke, builtin, he x _ hx, he y _ hy, hrun]
end
end Go.Gw
namespace Go.Proofs.Ytfljelnfjbbknaa.Lm
open Go.RowKit Go.Gw
set_option maxHeartbeats 1000000 in
theorem order_any {w : World} {a b : Cl} {n0 : Nat} (hn0 : n0 ≤ w.heap.size) {px py : Value} (hpx : Sl Kd.u32 w (G 83 n0 w) px (ml a.x)) (hpy : Sl Kd.u32 w (G 83 n0 w) py (ml a.y)) {qx qy : Value} (hqx : Sl Kd.u32 w (G 83 n0 w) qx (ml b.x)) (hqy : Sl Kd.u32 w (G 83 n0 w) qy (ml b.y)) (hax : Bd 50 a.x) (hay : Bd 50 a.y) (hbx : Bd 50 b.x) (hby : Bd 50 b.y) :
  Calls Try.prog 52 [.agg [.bool (decide (a.x < 0)), px, .bool (decide (a.y < 0)), py, .int .u8 a.st].toArray, .agg [.bool (decide (b.x < 0)), qx, .bool (decide (b.y < 0)), qy, .int .u8 b.st].toArray].toArray w (Zbh w fun v _ => v = .int .i64 (Zgq a b)) := by
 have hb0 := Below.refl w.heap.size w
 refine enter Try.func52 rfl rfl (Zh (Zb (st (Zbs rfl ?_))))
 intro g1 w1 hg1 hB1 k1 hs1
 change Blk w1 g1 47 [.bool (decide (a.x < 0)), px, .bool (decide (a.y < 0)), py, .int .u8 a.st].toArray at hB1
 have hb1 := Zf hb0 k1
 refine st (Zbs rfl ?_)
 intro g2 w2 hg2 hB2 k2 hs2
 change Blk w2 g2 47 [.bool (decide (b.x < 0)), qx, .bool (decide (b.y < 0)), qy, .int .u8 b.st].toArray at hB2
 have hb2 := Zf hb1 k2
 refine st (Ze rfl (Zg (Zd (Zh (Zb (st (Zn Zd0 rfl (st (Zbf (us := [.bool (decide (a.y < 0)), py]) Zx rfl (hB1.g0 k2).range (j := 2) rfl rfl ?_)))))))))
 refine st (Zn Zd0 rfl (st (Zbf (us := [.bool (decide (b.y < 0)), qy]) Zx rfl hB2.range (j := 2) rfl rfl (st (Zq Zg4 rfl (Zbq (n0 := n0) (Zu hn0 hb2) (Zai rfl ((hpy.gg0 k1).gg0 k2)) (Zai rfl ((hqy.gg0 k1).gg0 k2)) (Bd.le hay (show 50 ≤ 90000 by decide)) (Bd.le hby (show 50 ≤ 90000 by decide))) ?_)))))
 rintro _ w3 ⟨hq1, rfl⟩
 have k3 := Zi hq1 none
 have hz1 := hq1.size
 have hb3 := Zf hb2 k3
 have hz2 := hb3.size
 refine st (Ze rfl (Zg (Zd (Zh (Zh (Zb (st (Zc rfl ?_))))))))
 refine st (s_ne rfl rfl (Zg (Zd ?_)))
 refine Zw rfl (fun h1 => ?_) (fun h1 => ?_)
 ·refine Zh (Zb (st (Zc rfl (st (Ze rfl (Zg (Zd (Zaa rfl rfl ?_))))))))
  exact ⟨_, rfl, hb3, by unfold Zgq; rw [if_neg h1]⟩
 refine Zo (Zd (Zh (Zb (st (Zn Zc4 rfl (st (Zbf (us := [.bool (decide (a.x < 0)), px]) Zx rfl ((hB1.g0 k2).g0 k3).range (j := 0) rfl rfl (st (Zn Zc4 rfl ?_)))))))))
 refine st (Zbf (us := [.bool (decide (b.x < 0)), qx]) Zx rfl (hB2.g0 k3).range (j := 0) rfl rfl (st (Zq Zg4 rfl (Zbq (n0 := n0) (Zu hn0 hb3) (Zai rfl (((hpx.gg0 k1).gg0 k2).gg0 k3)) (Zai rfl (((hqx.gg0 k1).gg0 k2).gg0 k3)) (Bd.le hax (show 50 ≤ 90000 by decide)) (Bd.le hbx (show 50 ≤ 90000 by decide))) ?_)))
 rintro _ w4 ⟨hq2, rfl⟩
 have k4 := Zi hq2 none
 have hz3 := hq2.size
 have hb4 := Zf hb3 k4
 have hz4 := hb4.size
 refine st (Ze rfl (Zg (Zd (Zaa rfl rfl ?_))))
 exact ⟨_, rfl, hb4, by unfold Zgq; rw [if_pos (Classical.not_not.1 h1)]⟩
set_option maxHeartbeats 1000000 in
theorem last_any {w : World} {F : Nat → Prop} {va : Value} {l : List Cl} {n0 : Nat} (hn0 : n0 ≤ w.heap.size) (hl : Sl (Kd.cell 83 n0) w F va l) (hcb : CBd l) (hll : l.length ≤ 100000) :
  Calls Try.prog 19 [va].toArray w (Zbh w fun v W => Gw.Own (Kd.cell 83 n0) 47 w.heap.size W (fun _ => False) v (Zbc l)) := by
 have hb0 := Below.refl w.heap.size w
 have hln1 := hl.lenle
 refine enter Try.func19 rfl rfl (Zh (Zb (st (Ze rfl (Zg (Zd (Zh ?_)))))))
 refine Zb (st (Ze rfl (Zg (Zd (Zh (Zh (Zb ?_)))))))
 refine st (Ze rfl (Zg (Zd (Zz (Za2 (α := Int × Value × List Cl) (fun ((i, vo, os) : Int × Value × List Cl) => [(0, va), (2, .slice none 0 0), (3, vo), (4, .int .i64 i)]) (fun ((i, vo, os) : Int × Value × List Cl) W => Below w.heap.size w W ∧ (0 ≤ i ∧ i ≤ l.length) ∧ (Gw.Own (Kd.cell 83 n0) 47 w.heap.size W (fun _ => False) vo os) ∧ (os = Zga (l.take i.toNat))) (fun ((i, vo, os) : Int × Value × List Cl) => (l.length - i).toNat) ((0), (.slice none 0 0), ([])) ⟨hb0, by omega, Own.nil _ _ _ _ _, rfl⟩ sb ?_)))))
 rintro ⟨i, vo, os⟩ w1 ⟨hb1, hi, hO, hos⟩
 dsimp only at *
 have hz1 := hb1.size
 have hcbo := cbd_last hcb hos
 have hlo := last_len hos
 refine Zh (Zh (Zb (st (Zc rfl (st (Zc rfl (st (Zaq Zct rfl (hl.at0 hb1) (st (Zbd rfl rfl ?_))))))))))
 refine Zg (Zd ?_)
 refine Zw rfl (fun h1 => ?_) (fun h1 => ?_)
 rotate_left
 ·refine Zak (Zk (Zk (Zs (Zd (Zh (Zb ?_))))))
  refine st (Ze rfl (Zg (Zd (Zh (Zh (Zb (st (Ze rfl ?_))))))))
  refine Zg (Zd (Zz (Za2 (α := Int × Value × List Cl) (fun ((m, vp, ys) : Int × Value × List Cl) => [(2, .slice none 0 0), (3, vo), (8, vp), (9, .int .i64 m)]) (fun ((m, vp, ys) : Int × Value × List Cl) W => Below w.heap.size w W ∧ (0 ≤ m ∧ m ≤ os.length) ∧ (Sl (Kd.cell 83 n0) W (Gw.Loc (fun _ => False) w1) vo os) ∧ (Gw.Own (Kd.cell 83 n0) 47 w1.heap.size W (fun _ => False) vp ys) ∧ (w1.heap.size ≤ W.heap.size) ∧ (ys = (os.take m.toNat).filter nzC)) (fun ((m, vp, ys) : Int × Value × List Cl) => (os.length - m).toNat) ((0), (.slice none 0 0), ([])) ⟨hb1, by omega, hO.sl.loc, Own.nil _ _ _ _ _, Nat.le_refl _, rfl⟩ sb ?_)))
  rintro ⟨m, vp, ys⟩ w122 ⟨hb116, hm, hOa, hOb, hW1, hys⟩
  dsimp only at *
  have hz32 := hb116.size
  have hyl := filt_len hys
  have hW0 := (hb1).size
  refine Zh (Zh (Zb (st (Zc rfl (st (Zc rfl (st (Zaq Zct rfl hOa (st (Zbd rfl rfl ?_))))))))))
  refine Zg (Zd ?_)
  refine Zw rfl (fun h6 => ?_) (fun h6 => ?_)
  rotate_left
  ·refine Zak (Zk (Zk (Zs (Zd (Zh (Zb ?_))))))
   refine st (Zc rfl (st (Ze rfl (Zg (Zd (Zaa rfl rfl ?_))))))
   exact ⟨_, rfl, hb116, by unfold Zbc; rw [show Zga l = os by rw [hos, List.take_of_length_le om], show os.filter nzC = ys by rw [hys, List.take_of_length_le om]]; exact hOb.rebase om⟩
  refine Zo (Zd (Zh (Zz (Zh (Zb (st (Zc rfl ?_)))))))
  refine st (Zc rfl (st (Zat Zct rfl rfl hOa om om ?_)))
  rintro b7 o7 _ ⟨ca7, cb7, rfl, hca7, hcb7, hcs7⟩ hc7 hF7 hlt7
  replace hca7 := hca7.ofGF
  replace hcb7 := hcb7.ofGF
  refine st (Zn fld47_2 rfl (st (Zt one5 rfl hc7 (j := 4) rfl (st (s_ne rfl rfl (Zg (Zd ?_)))))))
  refine Zw rfl (fun h7 => ?_) (fun h7 => ?_)
  rotate_left
  ·refine Zo (Zab (Zd (Zb (st (Zc rfl (st (Zah rfl rfl om (st (Ze rfl ?_)))))))))
   refine Zg ?_
   exact Zac (((m + 1)), (vp), (ys)) ⟨hb116, by omega, hOa, hOb, by  omega, filt_no hm.1 h6 hys h7⟩ (by dsimp only; omega) sb
  refine Zb (st (Zc rfl (st (Zc rfl (st (Zc rfl (st (Zat Zct rfl rfl hOa om om ?_))))))))
  rintro b8 o8 _ ⟨ca8, cb8, rfl, hca8, hcb8, hcs8⟩ hc8 hF8 hlt8
  replace hca8 := hca8.ofGF
  replace hcb8 := hcb8.ofGF
  refine st (Zp Zj0 rfl hc8 rfl (st (Zau (ps := [(0, .tmp 86)]) (ccs := [#[.bool (decide ((ix os m).x < 0)), ca8, .bool (decide ((ix os m).y < 0)), cb8, .int .u8 ((ix os m).st)]]) (e := 47) (cells := [.bool (decide ((ix os m).x < 0)), ca8, .bool (decide ((ix os m).y < 0)), cb8, .int .u8 ((ix os m).st)]) rfl rfl kr dc nz47 ?_)))
  intro g7 w123 hg5 hB7 k117 hs11
  have hb117 := Zf hb116 k117
  have hz33 := hb117.size
  have hO129 := hOb.g0 k117
  have hS12 : Sl (Kd.cell 83 n0) w123 (fun _ => False) (.slice (some ⟨g7, 0, none⟩) 1 1) [(ix os m)] := Zkq (c := (ix os m)) hB7 (hca8.gg0 k117) (hcb8.gg0 k117) hcs8
  refine st (Za4 (K := (Kd.cell 83 n0)) Zct rfl rfl hO129 (lit_cellO (c := (ix os m)) hB7 (hca8.gg0 k117) (hcb8.gg0 k117) hcs8 hO129 (Zdj hOb hg5) dc om) (Zgi 83 n0).ones (by simp; omega) (by simp; omega) (by first | exact Nat.le_refl _ | omega | (have h0_ := k117.size; omega)) (fun _ h => h.elim) ?_)
  intro v26 w124 hO130 k118 hr15
  have hb118 := hb117.grown k118 hb117.size (fun k_ hk_ => by have h9_ := (hO129.lt k_ hk_).1; omega)
  have hz34 := hb118.size
  refine st (Ze rfl (Zg (Zab (Zd (Zb (st (Zc rfl (st (Zah rfl rfl om ?_)))))))))
  refine st (Ze rfl (Zg ?_))
  exact Zac (((m + 1)), (v26), (ys ++ [(ix os m)])) ⟨hb118, by omega, (Sl.gO (hOa.g0 k117) k118 (fun g_ h_ => by have h9_ := (hO129.lt g_ h_).1;  omega)), hO130, by have h0_ := k117.size; have h1_ := k118.size; omega, filt_yes hm.1 h6 hys h7⟩ (by dsimp only; omega) sb
 have hlt := h1
 refine Zo (Zd (Zh (Zz (Zh (Zb (st (Ze rfl ?_)))))))
 refine Zg (Zd ?_)
 refine w_cut (α := Int) (fun (k : Int) => [(0, va), (2, .slice none 0 0), (3, vo), (4, .int .i64 i), (5, .int .i64 k)]) (fun (k : Int) W => Below w.heap.size w W ∧ (0 ≤ k ∧ k ≤ os.length) ∧ (Gw.Own (Kd.cell 83 n0) 47 w.heap.size W (fun _ => False) vo os) ∧ (∀ j : Int, 0 ≤ j → j < k → Zgq (ix os j) (ix l i) < 0) ∧ (k < os.length → ¬ Zgq (ix os k) (ix l i) < 0)) ?_ ?_
 ·refine Zz (Za2 (α := Int) (fun (k : Int) => [(0, va), (2, .slice none 0 0), (3, vo), (4, .int .i64 i), (5, .int .i64 k)]) (fun (k : Int) W => Below w.heap.size w W ∧ (0 ≤ k ∧ k ≤ os.length) ∧ (Gw.Own (Kd.cell 83 n0) 47 w.heap.size W (fun _ => False) vo os) ∧ (∀ j : Int, 0 ≤ j → j < k → Zgq (ix os j) (ix l i) < 0)) (fun (k : Int) => (os.length - k).toNat) (0) ⟨hb1, by omega, hO, fun j _ _ => by omega⟩ sb ?_)
  rintro k w2 ⟨hb2, hk, hOk, hat⟩
  have hz2 := hb2.size
  refine Zh (Zh ?_)
  by_cases h2 : k < (os.length : Int)
  rotate_left
  ·refine Zce 16 GN [xi 16 <| .int .i64 k, xi 17 <| vo, xi 18 <| .int .i64 (os.length : Int), xi 19 <| .bool (decide (k < (os.length : Int))), xi 20 <| .bool false, xu 21, xu 22, xu 23, xu 24, xu 25, xu 26, xu 27, xu 28, xu 29, xu 30, xi 31 <| .bool false] [[], [], [1], [0, 2], [3], [4], [4], [4, 5, 6], [4, 7], [4], [4], [4, 9, 10], [4, 11], [4, 8, 12], [4, 13], [4, 14]] [(0, va), (2, .slice none 0 0), (3, vo), (4, .int .i64 i), (5, .int .i64 k)] sb kr kr Za gnt ⟨kv, kv, kv, kv, kv, kv, kv, kv, kv, kv, kv, kv, kv, kv, kv, kv, trivial⟩ ?_
   intro w23 k21 hs2
   have hb22 := Zf hb2 k21
   have hO20 := hOk.g0 k21
   refine ⟨⟨?_, ?_, ?_, ?_, ?_, ?_, ?_, ?_, ?_, ?_, ?_, ?_, ?_, ?_, ?_, ?_, trivial⟩, ?_⟩
   ·intro w24 k22
    refine op1 (Zc rfl ?_)
    exact ⟨rfl, Za _⟩
   ·intro w25 k23
    refine op1 (Zc rfl ?_)
    exact ⟨rfl, Za _⟩
   ·intro w26 k24
    have hO23 := hO20.g0 k24
    intro v_ hv_; subst v_
    refine op1 (Zaq Zct rfl hO23.sl.loc ?_)
    exact ⟨rfl, Za _⟩
   ·intro w27 k25
    rintro _ rfl _ rfl
    refine op1 (Zbd rfl rfl ?_)
    exact ⟨rfl, Za _⟩
   ·intro w28 k26
    rintro _ rfl
    refine op1 (Zc rfl ?_)
    exact ⟨(by rw [decide_eq_false h2]), Za _⟩
   ·intro w29 k27
    rintro _ rfl
    refine Za0 ⟨rfl, Za _⟩
   ·intro w30 k28
    rintro _ rfl
    refine Za0 ⟨rfl, Za _⟩
   ·intro w31 k29
    rintro _ rfl
    intro v_ hv_; subst v_
    intro v_ hv_; subst v_
    refine Za0 ⟨rfl, Za _⟩
   ·intro w32 k30
    rintro _ rfl
    intro v_ hv_; subst v_
    refine Za0 ⟨rfl, Za _⟩
   ·intro w33 k31
    rintro _ rfl
    refine Za0 ⟨rfl, Za _⟩
   ·intro w34 k32
    rintro _ rfl
    refine Za0 ⟨rfl, Za _⟩
   ·intro w35 k33
    rintro _ rfl
    intro v_ hv_; subst v_
    intro v_ hv_; subst v_
    refine Za0 ⟨rfl, Za _⟩
   ·intro w36 k34
    rintro _ rfl
    intro v_ hv_; subst v_
    refine Za0 ⟨rfl, Za _⟩
   ·intro w37 k35
    rintro _ rfl
    intro v_ hv_; subst v_
    intro v_ hv_; subst v_
    refine Za0 ⟨rfl, Za _⟩
   ·intro w38 k36
    rintro _ rfl
    intro v_ hv_; subst v_
    refine Za0 ⟨rfl, Za _⟩
   ·intro w39 k37
    rintro _ rfl
    intro v_ hv_; subst v_
    refine op1 (Zr rfl rfl ?_)
    exact ⟨rfl, Za _⟩
   intro w40 k38
   have hb39 := Zf hb22 k38
   have hO37 := hO20.g0 k38
   have hz7 := k21.size
   have hz8 := k38.size
   rintro _ rfl
   intro v_ hv_; subst v_
   rintro _ rfl _ rfl _ rfl
   intro v_ hv_; subst v_
   intro v_ hv_; subst v_
   intro v_ hv_; subst v_
   intro v_ hv_; subst v_
   intro v_ hv_; subst v_
   intro v_ hv_; subst v_
   intro v_ hv_; subst v_
   intro v_ hv_; subst v_
   intro v_ hv_; subst v_
   intro v_ hv_; subst v_
   rintro _ rfl
   refine Zg (Zd (Zbv rfl (Zak (Zk (Zk (Zs ?_))))))
   exact Ze2 (k) ⟨hb39, by omega, hO37, hat, fun hz => (absurd hz om)⟩ sb
  obtain ⟨b1, o1, _, hat1, ⟨ca1, cb1, rfl, hca1, hcb1, hcs1⟩, hc1, hF1, hlt1⟩ := hOk.sl.loc.elem k om om
  replace hca1 := hca1.ofGF
  replace hcb1 := hcb1.ofGF
  obtain ⟨b2, o2, _, hat2, ⟨ca2, cb2, rfl, hca2, hcb2, hcs2⟩, hc2, hF2, hlt2⟩ := (hl.at0 hb2).elem i om om
  have hl_1 := Loc.lt hF2
  replace hca2 := hca2.ofGF
  replace hcb2 := hcb2.ofGF
  refine Zce 16 GN [xi 16 <| .int .i64 k, xi 17 <| vo, xi 18 <| .int .i64 (os.length : Int), xi 19 <| .bool (decide (k < (os.length : Int))), xi 20 <| .bool true, xi 21 <| vo, xi 22 <| .int .i64 k, xi 23 <| .pointer (some ⟨b1, o1, none⟩), xi 24 <| .agg [.bool (decide ((ix os k).x < 0)), ca1, .bool (decide ((ix os k).y < 0)), cb1, .int .u8 ((ix os k).st)].toArray, xi 25 <| va, xi 26 <| .int .i64 i, xi 27 <| .pointer (some ⟨b2, o2, none⟩), xi 28 <| .agg [.bool (decide ((ix l i).x < 0)), ca2, .bool (decide ((ix l i).y < 0)), cb2, .int .u8 ((ix l i).st)].toArray, xi 29 <| .int .i64 (Zgq (ix os k) (ix l i)), xi 30 <| .bool (decide ((Zgq (ix os k) (ix l i)) < 0)), xi 31 <| .bool (decide ((Zgq (ix os k) (ix l i)) < 0))] [[], [], [1], [0, 2], [3], [4], [4], [4, 5, 6], [4, 7], [4], [4], [4, 9, 10], [4, 11], [4, 8, 12], [4, 13], [4, 14]] [(0, va), (2, .slice none 0 0), (3, vo), (4, .int .i64 i), (5, .int .i64 k)] sb kr kr Za gnt ⟨kv, kv, kv, kv, kv, kv, kv, kv, kv, kv, kv, kv, kv, kv, kv, kv, trivial⟩ ?_
  intro w4 k2 hs1
  have hb3 := Zf hb2 k2
  have hO1 := hOk.g0 k2
  refine ⟨⟨?_, ?_, ?_, ?_, ?_, ?_, ?_, ?_, ?_, ?_, ?_, ?_, ?_, ?_, ?_, ?_, trivial⟩, ?_⟩
  ·intro w5 k3
   refine op1 (Zc rfl ?_)
   exact ⟨rfl, Za _⟩
  ·intro w6 k4
   refine op1 (Zc rfl ?_)
   exact ⟨rfl, Za _⟩
  ·intro w7 k5
   have hO4 := hO1.g0 k5
   intro v_ hv_; subst v_
   refine op1 (Zaq Zct rfl hO4.sl.loc ?_)
   exact ⟨rfl, Za _⟩
  ·intro w8 k6
   rintro _ rfl _ rfl
   refine op1 (Zbd rfl rfl ?_)
   exact ⟨rfl, Za _⟩
  ·intro w9 k7
   rintro _ rfl
   refine op1 (Zc rfl ?_)
   exact ⟨(by rw [decide_eq_true h2]), Za _⟩
  ·intro w10 k8
   rintro _ rfl
   refine Zas (Zc rfl ?_)
   exact ⟨rfl, Za _⟩
  ·intro w11 k9
   rintro _ rfl
   refine Zas (Zc rfl ?_)
   exact ⟨rfl, Za _⟩
  ·intro w12 k10
   rintro _ rfl
   intro v_ hv_; subst v_
   rintro _ rfl
   refine Zas (Zbo Zct rfl rfl hat1 ?_)
   exact ⟨rfl, Za _⟩
  ·intro w13 k11
   rintro _ rfl _ rfl
   refine Zas (Zp Zj0 rfl (Zaj (Zaj hc1 k2) k11) rfl ?_)
   exact ⟨rfl, Za _⟩
  ·intro w14 k12
   rintro _ rfl
   refine Zas (Zc rfl ?_)
   exact ⟨rfl, Za _⟩
  ·intro w15 k13
   rintro _ rfl
   refine Zas (Zc rfl ?_)
   exact ⟨rfl, Za _⟩
  ·intro w16 k14
   rintro _ rfl
   intro v_ hv_; subst v_
   rintro _ rfl
   refine Zas (Zbo Zct rfl rfl hat2 ?_)
   exact ⟨rfl, Za _⟩
  ·intro w17 k15
   rintro _ rfl _ rfl
   refine Zas (Zp Zj0 rfl (Zaj (Zaj hc2 k2) k15) rfl ?_)
   exact ⟨rfl, Za _⟩
  ·intro w18 k16
   have hb17 := Zf hb3 k16
   rintro _ rfl _ rfl _ rfl
   refine Zas (Zq fn52 rfl (order_any (a := (ix os k)) (b := (ix l i)) (n0 := n0) (Zu hn0 hb17) ((hca1.gg0 k2).gg0 k16) ((hcb1.gg0 k2).gg0 k16) ((hca2.gg0 k2).gg0 k16) ((hcb2.gg0 k2).gg0 k16) (Bd.le (Zdp hcbo om om).1 (show 50 ≤ 50 by decide)) (Bd.le (Zdp hcbo om om).2 (show 50 ≤ 50 by decide)) (Bd.le (Zdp hcb om om).1 (show 50 ≤ 50 by decide)) (Bd.le (Zdp hcb om om).2 (show 50 ≤ 50 by decide))) ?_)
   rintro _ w19 ⟨hq2, rfl⟩
   have k17 := Zi hq2 none
   have hz3 := hq2.size
   have hb18 := Zf hb17 k17
   have hz4 := hb18.size
   exact ⟨rfl, k17⟩
  ·intro w20 k18
   rintro _ rfl _ rfl
   refine Zas (Zbd rfl rfl ?_)
   exact ⟨rfl, Za _⟩
  ·intro w21 k19
   rintro _ rfl _ rfl
   refine op1 (Zr rfl rfl ?_)
   exact ⟨rfl, Za _⟩
  intro w22 k20
  have hb21 := Zf hb3 k20
  have hO19 := hO1.g0 k20
  have hz5 := k2.size
  have hz6 := k20.size
  rintro _ rfl
  intro v_ hv_; subst v_
  rintro _ rfl _ rfl _ rfl
  intro v_ hv_; subst v_
  rintro _ rfl _ rfl _ rfl
  intro v_ hv_; subst v_
  rintro _ rfl _ rfl _ rfl _ rfl _ rfl _ rfl
  refine Zg (Zd ?_)
  refine Zw rfl (fun h3 => ?_) (fun h3 => ?_)
  rotate_left
  ·refine Zak (Zk (Zk (Zs ?_)))
   exact Ze2 (k) ⟨hb21, by omega, hO19, hat, fun hz => h3⟩ sb
  refine Zo (Zd (Zz (Zb (st (Zc rfl (st (Zah rfl rfl om (st (Ze rfl ?_)))))))))
  refine Zg (Zab ?_)
  exact Zac ((k + 1)) ⟨hb21, by omega, hO19, fun j j0 j1 => if e : j = k then by rw [e]; exact h3 else hat j j0 om⟩ om sb
 rintro k w41 ⟨hb40, hk, hOb, hat, hnl⟩
 have hz9 := hb40.size
 refine Zh ?_
 by_cases h4 : k < (os.length : Int)
 rotate_left
 ·refine Zce 16 GN [xi 34 <| .int .i64 k, xi 35 <| vo, xi 36 <| .int .i64 (os.length : Int), xi 37 <| .bool (decide (k < (os.length : Int))), xi 38 <| .bool false, xu 39, xu 40, xu 41, xu 42, xu 43, xu 44, xu 45, xu 46, xu 47, xu 48, xi 49 <| .bool false] [[], [], [1], [0, 2], [3], [4], [4], [4, 5, 6], [4, 7], [4], [4], [4, 9, 10], [4, 11], [4, 8, 12], [4, 13], [4, 14]] [(0, va), (2, .slice none 0 0), (3, vo), (4, .int .i64 i), (5, .int .i64 k)] sb kr kr Za gnt ⟨kv, kv, kv, kv, kv, kv, kv, kv, kv, kv, kv, kv, kv, kv, kv, kv, trivial⟩ ?_
  intro w83 k79 hs7
  have hb79 := Zf hb40 k79
  have hO84 := hOb.g0 k79
  refine ⟨⟨?_, ?_, ?_, ?_, ?_, ?_, ?_, ?_, ?_, ?_, ?_, ?_, ?_, ?_, ?_, ?_, trivial⟩, ?_⟩
  ·intro w84 k80
   refine op1 (Zc rfl ?_)
   exact ⟨rfl, Za _⟩
  ·intro w85 k81
   refine op1 (Zc rfl ?_)
   exact ⟨rfl, Za _⟩
  ·intro w86 k82
   have hO87 := hO84.g0 k82
   intro v_ hv_; subst v_
   refine op1 (Zaq Zct rfl hO87.sl.loc ?_)
   exact ⟨rfl, Za _⟩
  ·intro w87 k83
   rintro _ rfl _ rfl
   refine op1 (Zbd rfl rfl ?_)
   exact ⟨rfl, Za _⟩
  ·intro w88 k84
   rintro _ rfl
   refine op1 (Zc rfl ?_)
   exact ⟨(by rw [decide_eq_false h4]), Za _⟩
  ·intro w89 k85
   rintro _ rfl
   refine Za0 ⟨rfl, Za _⟩
  ·intro w90 k86
   rintro _ rfl
   refine Za0 ⟨rfl, Za _⟩
  ·intro w91 k87
   rintro _ rfl
   intro v_ hv_; subst v_
   intro v_ hv_; subst v_
   refine Za0 ⟨rfl, Za _⟩
  ·intro w92 k88
   rintro _ rfl
   intro v_ hv_; subst v_
   refine Za0 ⟨rfl, Za _⟩
  ·intro w93 k89
   rintro _ rfl
   refine Za0 ⟨rfl, Za _⟩
  ·intro w94 k90
   rintro _ rfl
   refine Za0 ⟨rfl, Za _⟩
  ·intro w95 k91
   rintro _ rfl
   intro v_ hv_; subst v_
   intro v_ hv_; subst v_
   refine Za0 ⟨rfl, Za _⟩
  ·intro w96 k92
   rintro _ rfl
   intro v_ hv_; subst v_
   refine Za0 ⟨rfl, Za _⟩
  ·intro w97 k93
   rintro _ rfl
   intro v_ hv_; subst v_
   intro v_ hv_; subst v_
   refine Za0 ⟨rfl, Za _⟩
  ·intro w98 k94
   rintro _ rfl
   intro v_ hv_; subst v_
   refine Za0 ⟨rfl, Za _⟩
  ·intro w99 k95
   rintro _ rfl
   intro v_ hv_; subst v_
   refine op1 (Zr rfl rfl ?_)
   exact ⟨rfl, Za _⟩
  intro w100 k96
  have hb96 := Zf hb79 k96
  have hO101 := hO84.g0 k96
  have hz22 := k79.size
  have hz23 := k96.size
  rintro _ rfl
  intro v_ hv_; subst v_
  rintro _ rfl _ rfl _ rfl
  intro v_ hv_; subst v_
  intro v_ hv_; subst v_
  intro v_ hv_; subst v_
  intro v_ hv_; subst v_
  intro v_ hv_; subst v_
  intro v_ hv_; subst v_
  intro v_ hv_; subst v_
  intro v_ hv_; subst v_
  intro v_ hv_; subst v_
  intro v_ hv_; subst v_
  rintro _ rfl
  refine st (Ze rfl (Zg (Zd (Zh (Zb (st (Zml (K := (Kd.cell 83 n0)) (base := w.heap.size) (F := (fun _ => False)) Zct (hb96).size (fun _ h => h.elim) ?_)))))))
  intro g4 w101 hB4 hO102 k97
  have hb97 := Zf hb96 k97
  have hz24 := hb97.size
  have hO103 := hO101.g0 k97
  refine st (Zc rfl (st (Zc rfl (st (s_sllo Zct rfl rfl hO103.sl.loc (by first | omega | (simp; omega)) (by first | omega | (simp; omega)) ?_)))))
  intro v14 hS7
  refine st (s_append0 Zct rfl rfl hO102 (hS7).none (Zgi 83 n0).ones (by simp; omega) (by simp; omega) om (fun _ h => h.elim) ?_)
  intro v15 w102 hO104 k98
  have hb98 := Zf hb97 k98
  have hz25 := hb98.size
  have hO105 := hO103.g0 k98
  refine st (Ze rfl (Zg (Zd ?_)))
  refine w_cut (α := Value × List Cl) (fun ((vr, rs) : Value × List Cl) => [(0, va), (2, .slice none 0 0), (3, vo), (4, .int .i64 i), (5, .int .i64 k), (7, vr)]) (fun ((vr, rs)) W => Below w.heap.size w W ∧ (Gw.Own (Kd.cell 83 n0) 47 w.heap.size W (fun _ => False) vo os) ∧ (Sl (Kd.cell 83 n0) W (fun _ => False) vr rs) ∧ ((os.take k.toNat ++ [ix l i]) ++ rs = Zet os (ix l i)) ∧ (rs.length ≤ os.length)) ?_ ?_
  ·refine Zh (Zb (st (Zc rfl (Zg (Zd (Zbv rfl (Zo ?_)))))))
   exact Ze2 ((v15), (os.drop (k).toNat)) ⟨hb98, hO105, hO104.sl, insC_new om om hat (fun hz => ⟨(hnl hz), (absurd hz om)⟩), by first | omega | (simp; done) | (simp; omega)⟩ sb
  rintro ⟨vr, rs⟩ w103 ⟨hb99, hOr, hSr, hrs, hrl⟩
  dsimp only at *
  have hz26 := hb99.size
  obtain ⟨b6, o6, _, hat6, ⟨ca6, cb6, rfl, hca6, hcb6, hcs6⟩, hc6, hF6, hlt6⟩ := (hl.at0 hb99).elem i om om
  have hl_4 := Loc.lt hF6
  replace hca6 := hca6.ofGF
  replace hcb6 := hcb6.ofGF
  refine w_drawT 11 GN [xi 58 <| vo, xi 59 <| .int .i64 k, xi 60 <| .int .i64 k, (some 61, fun v W => SlC (Kd.cell 83 n0) W (fun _ => False) v (os.take (k).toNat)), xi 62 <| va, xi 63 <| .int .i64 i, xi 64 <| .pointer (some ⟨b6, o6, none⟩), xi 65 <| .agg [.bool (decide ((ix l i).x < 0)), ca6, .bool (decide ((ix l i).y < 0)), cb6, .int .u8 ((ix l i).st)].toArray, (some 66, fun v W => Sl (Kd.cell 83 n0) W (fun _ => False) v [(ix l i)]), (some 67, fun v W => Gw.Own (Kd.cell 83 n0) 47 w103.heap.size W (fun _ => False) v ((os.take (k).toNat) ++ [(ix l i)])), xi 68 <| vr] [[], [], [], [0, 1, 2], [], [], [4, 5], [6], [7], [3, 8], []] [(0, va), (2, .slice none 0 0), (3, vo), (4, .int .i64 i), (5, .int .i64 k), (7, vr)] sb kr kr Za gnt ⟨kv, kv, kv, fun _ _ _ h k => h.g0 k, kv, kv, kv, kv, fun _ _ _ h k => h.g0 k, fun _ _ _ h k => h.g0 k, kv, trivial⟩ ?_
  intro w106 k101 hs9
  have hb100 := Zf hb99 k101
  have hO108 := hOr.g0 k101
  refine ⟨⟨?_, ?_, ?_, ?_, ?_, ?_, ?_, ?_, ?_, ?_, ?_, trivial⟩, ?_⟩
  ·intro w107 k102
   refine op1 (Zc rfl ?_)
   exact ⟨rfl, Za _⟩
  ·intro w108 k103
   refine op1 (Zc rfl ?_)
   exact ⟨rfl, Za _⟩
  ·intro w109 k104
   refine op1 (Zc rfl ?_)
   exact ⟨rfl, Za _⟩
  ·intro w110 k105
   have hO112 := hO108.g0 k105
   intro v_ hv_; subst v_
   rintro _ rfl _ rfl
   refine op1 (s_slcap Zct rfl rfl rfl (hO112.sl.loc).none (by first | omega | (simp; omega)) (by first | omega | (simp; omega)) ?_)
   intro v18 hC6
   exact ⟨hC6, Za _⟩
  ·intro w111 k106
   refine op1 (Zc rfl ?_)
   exact ⟨rfl, Za _⟩
  ·intro w112 k107
   refine op1 (Zc rfl ?_)
   exact ⟨rfl, Za _⟩
  ·intro w113 k108
   intro v_ hv_; subst v_
   rintro _ rfl
   refine op1 (Zbo Zct rfl rfl hat6 ?_)
   exact ⟨rfl, Za _⟩
  ·intro w114 k109
   rintro _ rfl
   refine op1 (Zp Zj0 rfl (Zaj (Zaj hc6 k101) k109) rfl ?_)
   exact ⟨rfl, Za _⟩
  ·intro w115 k110
   have hb109 := Zf hb100 k110
   rintro _ rfl
   refine op1 (Zau (ps := [(0, .tmp 65)]) (ccs := [#[.bool (decide ((ix l i).x < 0)), ca6, .bool (decide ((ix l i).y < 0)), cb6, .int .u8 ((ix l i).st)]]) (e := 47) (cells := [.bool (decide ((ix l i).x < 0)), ca6, .bool (decide ((ix l i).y < 0)), cb6, .int .u8 ((ix l i).st)]) rfl rfl kr dc nz47 ?_)
   intro g6 w116 hg4 hB6 k111 hs10
   have hb110 := Zf hb109 k111
   have hz27 := hb110.size
   have hS9 : Sl (Kd.cell 83 n0) w116 (fun _ => False) (.slice (some ⟨g6, 0, none⟩) 1 1) [(ix l i)] := Zkq (c := (ix l i)) hB6 (((hca6.gg0 k101).gg0 k110).gg0 k111) (((hcb6.gg0 k101).gg0 k110).gg0 k111) hcs6
   exact ⟨hS9, k111⟩
  ·intro w117 k112
   have hb111 := Zf hb100 k112
   rintro v19 hC7 v20 hS10
   refine op1 (Zlv (K := (Kd.cell 83 n0)) Zct rfl rfl hC7 (hS10).none (by simp) (Zgi 83 n0).ones (by simp; omega) (by simp; omega) (fun _ h => h.elim) ?_)
   intro v21 w118 hO120 k113 hr11
   have hO121 := hO120.rebase (b' := w103.heap.size) (by have h0_ := k101.size; have h1_ := k112.size; have h2_ := k113.size; omega)
   have hb112 := Zf hb111 k113
   have hz28 := hb112.size
   exact ⟨hO121, k113⟩
  ·intro w119 k114
   refine op1 (Zc rfl ?_)
   exact ⟨rfl, Za _⟩
  intro w120 k115
  have hb114 := Zf hb100 k115
  have hz29 := k101.size
  have hz30 := k115.size
  intro v_ hv_; subst v_
  rintro _ rfl _ rfl v22 hC8
  intro v_ hv_; subst v_
  rintro _ rfl _ rfl _ rfl v23 hS11 v24 hO125
  have hO126 := hO125.rebase (b' := w.heap.size) om
  intro v_ hv_; subst v_
  refine st (s_appendH (K := (Kd.cell 83 n0)) Zct rfl rfl hO126 (fun _ _ h_ => (Zli 83 n0) _ _ _ _ _ h_ (fun _ _ hO_ => hO_.elim (fun h_ => h_.elim) fun hO_ => hO126.isG hO_ dc om)) ((hSr.g0 k101).g0 k115) (Zgi 83 n0).ones (by simp; omega) (by simp; omega) (by first | exact Nat.le_refl _ | omega | (have h0_ := k101.size; have h1_ := k115.size; omega)) (fun _ h => h.elim) ?_)
  intro v25 w121 hO127 k116 hr12 _
  have hb115 := hb114.grown k116 hb114.size (fun k_ hk_ => by have h9_ := (hO126.lt k_ hk_).1; omega)
  have hz31 := hb115.size
  refine st (Ze rfl (Zg (Zab (Zd (Zb (st (Zc rfl (st (Zah rfl rfl om ?_)))))))))
  refine st (Ze rfl (Zg ?_))
  exact Zac (((i + 1)), (v25), ((Zet os (ix l i)))) ⟨hb115, by omega, (by rw [← hrs]; exact hO127), Zmt hi.1 hlt hos⟩ (by dsimp only; omega) sb
 obtain ⟨b3, o3, _, hat3, ⟨ca3, cb3, rfl, hca3, hcb3, hcs3⟩, hc3, hF3, hlt3⟩ := hOb.sl.loc.elem k om om
 replace hca3 := hca3.ofGF
 replace hcb3 := hcb3.ofGF
 obtain ⟨b4, o4, _, hat4, ⟨ca4, cb4, rfl, hca4, hcb4, hcs4⟩, hc4, hF4, hlt4⟩ := (hl.at0 hb40).elem i om om
 have hl_2 := Loc.lt hF4
 replace hca4 := hca4.ofGF
 replace hcb4 := hcb4.ofGF
 refine Zce 16 GN [xi 34 <| .int .i64 k, xi 35 <| vo, xi 36 <| .int .i64 (os.length : Int), xi 37 <| .bool (decide (k < (os.length : Int))), xi 38 <| .bool true, xi 39 <| vo, xi 40 <| .int .i64 k, xi 41 <| .pointer (some ⟨b3, o3, none⟩), xi 42 <| .agg [.bool (decide ((ix os k).x < 0)), ca3, .bool (decide ((ix os k).y < 0)), cb3, .int .u8 ((ix os k).st)].toArray, xi 43 <| va, xi 44 <| .int .i64 i, xi 45 <| .pointer (some ⟨b4, o4, none⟩), xi 46 <| .agg [.bool (decide ((ix l i).x < 0)), ca4, .bool (decide ((ix l i).y < 0)), cb4, .int .u8 ((ix l i).st)].toArray, xi 47 <| .int .i64 (Zgq (ix os k) (ix l i)), xi 48 <| .bool (decide ((Zgq (ix os k) (ix l i)) = 0)), xi 49 <| .bool (decide ((Zgq (ix os k) (ix l i)) = 0))] [[], [], [1], [0, 2], [3], [4], [4], [4, 5, 6], [4, 7], [4], [4], [4, 9, 10], [4, 11], [4, 8, 12], [4, 13], [4, 14]] [(0, va), (2, .slice none 0 0), (3, vo), (4, .int .i64 i), (5, .int .i64 k)] sb kr kr Za gnt ⟨kv, kv, kv, kv, kv, kv, kv, kv, kv, kv, kv, kv, kv, kv, kv, kv, trivial⟩ ?_
 intro w43 k40 hs3
 have hb41 := Zf hb40 k40
 have hO38 := hOb.g0 k40
 refine ⟨⟨?_, ?_, ?_, ?_, ?_, ?_, ?_, ?_, ?_, ?_, ?_, ?_, ?_, ?_, ?_, ?_, trivial⟩, ?_⟩
 ·intro w44 k41
  refine op1 (Zc rfl ?_)
  exact ⟨rfl, Za _⟩
 ·intro w45 k42
  refine op1 (Zc rfl ?_)
  exact ⟨rfl, Za _⟩
 ·intro w46 k43
  have hO41 := hO38.g0 k43
  intro v_ hv_; subst v_
  refine op1 (Zaq Zct rfl hO41.sl.loc ?_)
  exact ⟨rfl, Za _⟩
 ·intro w47 k44
  rintro _ rfl _ rfl
  refine op1 (Zbd rfl rfl ?_)
  exact ⟨rfl, Za _⟩
 ·intro w48 k45
  rintro _ rfl
  refine op1 (Zc rfl ?_)
  exact ⟨(by rw [decide_eq_true h4]), Za _⟩
 ·intro w49 k46
  rintro _ rfl
  refine Zas (Zc rfl ?_)
  exact ⟨rfl, Za _⟩
 ·intro w50 k47
  rintro _ rfl
  refine Zas (Zc rfl ?_)
  exact ⟨rfl, Za _⟩
 ·intro w51 k48
  rintro _ rfl
  intro v_ hv_; subst v_
  rintro _ rfl
  refine Zas (Zbo Zct rfl rfl hat3 ?_)
  exact ⟨rfl, Za _⟩
 ·intro w52 k49
  rintro _ rfl _ rfl
  refine Zas (Zp Zj0 rfl (Zaj (Zaj hc3 k40) k49) rfl ?_)
  exact ⟨rfl, Za _⟩
 ·intro w53 k50
  rintro _ rfl
  refine Zas (Zc rfl ?_)
  exact ⟨rfl, Za _⟩
 ·intro w54 k51
  rintro _ rfl
  refine Zas (Zc rfl ?_)
  exact ⟨rfl, Za _⟩
 ·intro w55 k52
  rintro _ rfl
  intro v_ hv_; subst v_
  rintro _ rfl
  refine Zas (Zbo Zct rfl rfl hat4 ?_)
  exact ⟨rfl, Za _⟩
 ·intro w56 k53
  rintro _ rfl _ rfl
  refine Zas (Zp Zj0 rfl (Zaj (Zaj hc4 k40) k53) rfl ?_)
  exact ⟨rfl, Za _⟩
 ·intro w57 k54
  have hb55 := Zf hb41 k54
  rintro _ rfl _ rfl _ rfl
  refine Zas (Zq fn52 rfl (order_any (a := (ix os k)) (b := (ix l i)) (n0 := n0) (Zu hn0 hb55) ((hca3.gg0 k40).gg0 k54) ((hcb3.gg0 k40).gg0 k54) ((hca4.gg0 k40).gg0 k54) ((hcb4.gg0 k40).gg0 k54) (Bd.le (Zdp hcbo om om).1 (show 50 ≤ 50 by decide)) (Bd.le (Zdp hcbo om om).2 (show 50 ≤ 50 by decide)) (Bd.le (Zdp hcb om om).1 (show 50 ≤ 50 by decide)) (Bd.le (Zdp hcb om om).2 (show 50 ≤ 50 by decide))) ?_)
  rintro _ w58 ⟨hq4, rfl⟩
  have k55 := Zi hq4 none
  have hz10 := hq4.size
  have hb56 := Zf hb55 k55
  have hz11 := hb56.size
  exact ⟨rfl, k55⟩
 ·intro w59 k56
  rintro _ rfl _ rfl
  refine Zas (Zbu rfl rfl ?_)
  exact ⟨rfl, Za _⟩
 ·intro w60 k57
  rintro _ rfl _ rfl
  refine op1 (Zr rfl rfl ?_)
  exact ⟨rfl, Za _⟩
 intro w61 k58
 have hb59 := Zf hb41 k58
 have hO56 := hO38.g0 k58
 have hz12 := k40.size
 have hz13 := k58.size
 rintro _ rfl
 intro v_ hv_; subst v_
 rintro _ rfl _ rfl _ rfl
 intro v_ hv_; subst v_
 rintro _ rfl _ rfl _ rfl
 intro v_ hv_; subst v_
 rintro _ rfl _ rfl _ rfl _ rfl _ rfl _ rfl
 refine st (Ze rfl (Zg (Zd (Zh (Zb (st (Zml (K := (Kd.cell 83 n0)) (base := w.heap.size) (F := (fun _ => False)) Zct (hb59).size (fun _ h => h.elim) ?_)))))))
 intro g1 w62 hB1 hO57 k59
 have hb60 := Zf hb59 k59
 have hz14 := hb60.size
 have hO58 := hO56.g0 k59
 refine st (Zc rfl (st (Zc rfl (st (s_sllo Zct rfl rfl hO58.sl.loc (by first | omega | (simp; omega)) (by first | omega | (simp; omega)) ?_)))))
 intro v1 hS1
 refine st (s_append0 Zct rfl rfl hO57 (hS1).none (Zgi 83 n0).ones (by simp; omega) (by simp; omega) om (fun _ h => h.elim) ?_)
 intro v2 w63 hO59 k60
 have hb61 := Zf hb60 k60
 have hz15 := hb61.size
 have hO60 := hO58.g0 k60
 refine st (Ze rfl (Zg (Zd ?_)))
 refine w_cut (α := Value × List Cl) (fun ((vr, rs) : Value × List Cl) => [(0, va), (2, .slice none 0 0), (3, vo), (4, .int .i64 i), (5, .int .i64 k), (7, vr)]) (fun ((vr, rs)) W => Below w.heap.size w W ∧ (Gw.Own (Kd.cell 83 n0) 47 w.heap.size W (fun _ => False) vo os) ∧ (Sl (Kd.cell 83 n0) W (fun _ => False) vr rs) ∧ ((os.take k.toNat ++ [ix l i]) ++ rs = Zet os (ix l i)) ∧ (rs.length ≤ os.length)) ?_ ?_
 ·refine Zh (Zb (st (Zc rfl (Zg (Zd ?_)))))
  refine Zw rfl (fun h5 => ?_) (fun h5 => ?_)
  rotate_left
  ·refine Zo ?_
   exact Ze2 ((v2), (os.drop (k).toNat)) ⟨hb61, hO60, hO59.sl, insC_new om om hat (fun hz => ⟨(hnl hz), h5⟩), by first | omega | (simp; done) | (simp; omega)⟩ sb
  refine Zb (st (Zc rfl (st (s_sllo Zct rfl rfl hO59.sl.loc (by first | omega | (simp; omega)) (by first | omega | (simp; omega)) ?_))))
  intro v3 hS2
  refine st (Ze rfl (Zg ?_))
  exact Ze2 ((v3), ((os.drop (k).toNat).drop (1 : Int).toNat)) ⟨hb61, hO60, (hS2).none, insC_same om om hat h5, by first | omega | (simp; done) | (simp; omega)⟩ sb
 rintro ⟨vr, rs⟩ w64 ⟨hb62, hOr, hSr, hrs, hrl⟩
 dsimp only at *
 have hz16 := hb62.size
 obtain ⟨b5, o5, _, hat5, ⟨ca5, cb5, rfl, hca5, hcb5, hcs5⟩, hc5, hF5, hlt5⟩ := (hl.at0 hb62).elem i om om
 have hl_3 := Loc.lt hF5
 replace hca5 := hca5.ofGF
 replace hcb5 := hcb5.ofGF
 refine w_drawT 11 GN [xi 58 <| vo, xi 59 <| .int .i64 k, xi 60 <| .int .i64 k, (some 61, fun v W => SlC (Kd.cell 83 n0) W (fun _ => False) v (os.take (k).toNat)), xi 62 <| va, xi 63 <| .int .i64 i, xi 64 <| .pointer (some ⟨b5, o5, none⟩), xi 65 <| .agg [.bool (decide ((ix l i).x < 0)), ca5, .bool (decide ((ix l i).y < 0)), cb5, .int .u8 ((ix l i).st)].toArray, (some 66, fun v W => Sl (Kd.cell 83 n0) W (fun _ => False) v [(ix l i)]), (some 67, fun v W => Gw.Own (Kd.cell 83 n0) 47 w64.heap.size W (fun _ => False) v ((os.take (k).toNat) ++ [(ix l i)])), xi 68 <| vr] [[], [], [], [0, 1, 2], [], [], [4, 5], [6], [7], [3, 8], []] [(0, va), (2, .slice none 0 0), (3, vo), (4, .int .i64 i), (5, .int .i64 k), (7, vr)] sb kr kr Za gnt ⟨kv, kv, kv, fun _ _ _ h k => h.g0 k, kv, kv, kv, kv, fun _ _ _ h k => h.g0 k, fun _ _ _ h k => h.g0 k, kv, trivial⟩ ?_
 intro w67 k63 hs5
 have hb63 := Zf hb62 k63
 have hO63 := hOr.g0 k63
 refine ⟨⟨?_, ?_, ?_, ?_, ?_, ?_, ?_, ?_, ?_, ?_, ?_, trivial⟩, ?_⟩
 ·intro w68 k64
  refine op1 (Zc rfl ?_)
  exact ⟨rfl, Za _⟩
 ·intro w69 k65
  refine op1 (Zc rfl ?_)
  exact ⟨rfl, Za _⟩
 ·intro w70 k66
  refine op1 (Zc rfl ?_)
  exact ⟨rfl, Za _⟩
 ·intro w71 k67
  have hO67 := hO63.g0 k67
  intro v_ hv_; subst v_
  rintro _ rfl _ rfl
  refine op1 (s_slcap Zct rfl rfl rfl (hO67.sl.loc).none (by first | omega | (simp; omega)) (by first | omega | (simp; omega)) ?_)
  intro v6 hC2
  exact ⟨hC2, Za _⟩
 ·intro w72 k68
  refine op1 (Zc rfl ?_)
  exact ⟨rfl, Za _⟩
 ·intro w73 k69
  refine op1 (Zc rfl ?_)
  exact ⟨rfl, Za _⟩
 ·intro w74 k70
  intro v_ hv_; subst v_
  rintro _ rfl
  refine op1 (Zbo Zct rfl rfl hat5 ?_)
  exact ⟨rfl, Za _⟩
 ·intro w75 k71
  rintro _ rfl
  refine op1 (Zp Zj0 rfl (Zaj (Zaj hc5 k63) k71) rfl ?_)
  exact ⟨rfl, Za _⟩
 ·intro w76 k72
  have hb72 := Zf hb63 k72
  rintro _ rfl
  refine op1 (Zau (ps := [(0, .tmp 65)]) (ccs := [#[.bool (decide ((ix l i).x < 0)), ca5, .bool (decide ((ix l i).y < 0)), cb5, .int .u8 ((ix l i).st)]]) (e := 47) (cells := [.bool (decide ((ix l i).x < 0)), ca5, .bool (decide ((ix l i).y < 0)), cb5, .int .u8 ((ix l i).st)]) rfl rfl kr dc nz47 ?_)
  intro g3 w77 hg2 hB3 k73 hs6
  have hb73 := Zf hb72 k73
  have hz17 := hb73.size
  have hS4 : Sl (Kd.cell 83 n0) w77 (fun _ => False) (.slice (some ⟨g3, 0, none⟩) 1 1) [(ix l i)] := Zkq (c := (ix l i)) hB3 (((hca5.gg0 k63).gg0 k72).gg0 k73) (((hcb5.gg0 k63).gg0 k72).gg0 k73) hcs5
  exact ⟨hS4, k73⟩
 ·intro w78 k74
  have hb74 := Zf hb63 k74
  rintro v7 hC3 v8 hS5
  refine op1 (Zlv (K := (Kd.cell 83 n0)) Zct rfl rfl hC3 (hS5).none (by simp) (Zgi 83 n0).ones (by simp; omega) (by simp; omega) (fun _ h => h.elim) ?_)
  intro v9 w79 hO75 k75 hr7
  have hO76 := hO75.rebase (b' := w64.heap.size) (by have h0_ := k63.size; have h1_ := k74.size; have h2_ := k75.size; omega)
  have hb75 := Zf hb74 k75
  have hz18 := hb75.size
  exact ⟨hO76, k75⟩
 ·intro w80 k76
  refine op1 (Zc rfl ?_)
  exact ⟨rfl, Za _⟩
 intro w81 k77
 have hb77 := Zf hb63 k77
 have hz19 := k63.size
 have hz20 := k77.size
 intro v_ hv_; subst v_
 rintro _ rfl _ rfl v10 hC4
 intro v_ hv_; subst v_
 rintro _ rfl _ rfl _ rfl v11 hS6 v12 hO80
 have hO81 := hO80.rebase (b' := w.heap.size) om
 intro v_ hv_; subst v_
 refine st (s_appendH (K := (Kd.cell 83 n0)) Zct rfl rfl hO81 (fun _ _ h_ => (Zli 83 n0) _ _ _ _ _ h_ (fun _ _ hO_ => hO_.elim (fun h_ => h_.elim) fun hO_ => hO81.isG hO_ dc om)) ((hSr.g0 k63).g0 k77) (Zgi 83 n0).ones (by simp; omega) (by simp; omega) (by first | exact Nat.le_refl _ | omega | (have h0_ := k63.size; have h1_ := k77.size; omega)) (fun _ h => h.elim) ?_)
 intro v13 w82 hO82 k78 hr8 _
 have hb78 := hb77.grown k78 hb77.size (fun k_ hk_ => by have h9_ := (hO81.lt k_ hk_).1; omega)
 have hz21 := hb78.size
 refine st (Ze rfl (Zg (Zab (Zd (Zb (st (Zc rfl (st (Zah rfl rfl om ?_)))))))))
 refine st (Ze rfl (Zg ?_))
 exact Zac (((i + 1)), (v13), ((Zet os (ix l i)))) ⟨hb78, by omega, (by rw [← hrs]; exact hO82), Zmt hi.1 hlt hos⟩ (by dsimp only; omega) sb
end Go.Proofs.Ytfljelnfjbbknaa.Lm
namespace Go.Proofs.Ytfljelnfjbbknaa.Lm
open Go.RowKit Go.Gw
set_option maxHeartbeats 1000000 in
theorem inc_any {w : World} {c : Cl} {lv : Int} {n0 : Nat} (hn0 : n0 ≤ w.heap.size) {px py : Value} (hpx : Sl Kd.u32 w (G 83 n0 w) px (ml c.x)) (hpy : Sl Kd.u32 w (G 83 n0 w) py (ml c.y)) (hcx : Bd 50 c.x) (hcy : Bd 50 c.y) (hlv : 1 ≤ lv ∧ lv ≤ 1329) :
  Calls Try.prog 70 [.agg [.bool (decide (c.x < 0)), px, .bool (decide (c.y < 0)), py, .int .u8 c.st].toArray, .int .i64 lv].toArray w (Zbh w fun v _ => v = .bool (inC c lv)) := by
 have hb0 := Below.refl w.heap.size w
 refine enter Try.func70 rfl rfl (Zh (Zb (st (Zbs rfl ?_))))
 intro g1 w1 hg1 hB1 k1 hs1
 change Blk w1 g1 47 [.bool (decide (c.x < 0)), px, .bool (decide (c.y < 0)), py, .int .u8 c.st].toArray at hB1
 have hb1 := Zf hb0 k1
 refine st (Ze rfl (Zg (Zd (Zh (Zb (st (Zc rfl (st (Za7 rfl rfl om ?_)))))))))
 refine st (Zq fn47 rfl (Zfa (n0 := n0) (Zu hn0 hb1)) ?_)
 rintro v2 w2 ⟨hq1, hv1⟩
 rw [show (Zfm 1 (lv - 1)) = (hf lv) from (Ziq hlv)] at hv1
 obtain ⟨v1, rfl, hS1⟩ := hv1
 have k2 := Zi hq1 none
 have hz1 := hq1.size
 have hb2 := Zf hb1 k2
 have hz2 := hb2.size
 have hlt_1 := ((hB1.g0 k2)).lt
 refine st (Zan Zb3 ?_)
 intro g2 w3 hg2 hB2 k3 hs2
 have hz3 := hb2.size
 have hb3 := Zf hb2 k3
 refine st0 (Zv Zx rfl rfl hB2 (by simp only [List.all_cons, List.all_nil, hS1.one, Bool.and_true, Bool.and_self] <;> rfl) rfl rfl ?_)
 intro w4 hB3 k4 hs3
 have hb4 := belowa hb3 k4
 refine Zg (Zd (Zh (Zb (st (Zp Zx rfl hB3.range rfl (st (Zq fn48 rfl (Zgu (n0 := n0) (Zu hn0 hb4) (Zai rfl ((hS1.gg0 k3).ggB k4 hB2 dc om)) (Bd.le (Zci hlv.2) (show 42 ≤ 90000 by decide))) ?_)))))))
 rintro _ w5 ⟨hq2, v3, rfl, hS2⟩
 have k5 := Zi hq2 none
 have hz4 := hq2.size
 have hb5 := Zf hb4 k5
 have hz5 := hb5.size
 have hlt_2 := (((((hB1.g0 k2).g0 k3).gne k4 om).g0 k5)).lt
 have hlt_3 := ((hB3.g0 k5)).lt
 refine st (Zan Zb3 ?_)
 intro g3 w6 hg3 hB4 k6 hs4
 have hz6 := hb5.size
 have hb6 := Zf hb5 k6
 refine st0 (Zv Zx rfl rfl hB4 (by simp only [List.all_cons, List.all_nil, hS2.one, Bool.and_true, Bool.and_self] <;> rfl) rfl rfl ?_)
 intro w7 hB5 k7 hs5
 have hb7 := belowa hb6 k7
 refine Zg (Zd (Zh (Zb (st (Zn Zc4 rfl (st (Zbf (us := [.bool (decide (c.x < 0)), px]) Zx rfl ((((((hB1.g0 k2).g0 k3).gne k4 om).g0 k5).g0 k6).gne k7 om).range (j := 0) rfl rfl (st (Zp Zx rfl hB5.range rfl ?_)))))))))
 refine st (Zq Zg4 rfl (Zbq (n0 := n0) (Zu hn0 hb7) (Zai rfl (((((((hpx.gg0 k1).gg0 k2).gg0 k3).ggB k4 hB2 dc om).gg0 k5).gg0 k6).ggB k7 hB4 dc om)) (Zai rfl ((hS2.gg0 k6).ggB k7 hB4 dc om)) (Bd.le hcx (show 50 ≤ 90000 by decide)) (Bd.le (Zlj (Zci hlv.2)) (show 42 ≤ 90000 by decide))) ?_)
 rintro _ w8 ⟨hq3, rfl⟩
 have k8 := Zi hq3 none
 have hz7 := hq3.size
 have hb8 := Zf hb7 k8
 have hz8 := hb8.size
 refine st (Zg3 rfl rfl (st (Zc rfl ?_)))
 refine Zax 17 rfl (fun h1 => ?_) (fun h1 => ?_)
 rotate_left
 ·refine Zj rfl rfl (Zj rfl rfl (Zj rfl rfl (Zj rfl rfl (Zj rfl rfl (st (Zr rfl rfl (st (Zc rfl ?_))))))))
  refine Zj rfl rfl (Zj rfl rfl (Zj rfl rfl (Zj rfl rfl (Zj rfl rfl (st (Zr rfl rfl (st (Zc rfl ?_))))))))
  refine Zj rfl rfl (Zj rfl rfl (Zj rfl rfl (Zj rfl rfl (Zj rfl rfl (st (Zr rfl rfl (st (Ze rfl ?_))))))))
  refine Zg (Zd (Zaa rfl rfl ?_))
  exact ⟨_, rfl, hb8, by rw [show inC c lv = false from by unfold inC; rw [decide_eq_false_iff_not]; rintro ⟨h1_, h2_, h3_, h4_⟩; have h5_ := Zbj.2 h1_; have h6_ := Zb7.2 h2_; have h7_ := Zbj.2 h3_; have h8_ := Zb7.2 h4_; omega]⟩
 refine stg (Zn Zc4 rfl (stg (Zbf (us := [.bool (decide (c.x < 0)), px]) Zx rfl (((((((hB1.g0 k2).g0 k3).gne k4 om).g0 k5).g0 k6).gne k7 om).g0 k8).range (j := 0) rfl rfl (stg (Zp Zx rfl ((((hB3.g0 k5).g0 k6).gne k7 om).g0 k8).range rfl ?_)))))
 refine stg (Zq Zg4 rfl (Zbq (n0 := n0) (Zu hn0 hb8) (Zai rfl ((((((((hpx.gg0 k1).gg0 k2).gg0 k3).ggB k4 hB2 dc om).gg0 k5).gg0 k6).ggB k7 hB4 dc om).gg0 k8)) (Zai rfl ((((((hS1.gg0 k3).ggB k4 hB2 dc om).gg0 k5).gg0 k6).ggB k7 hB4 dc om).gg0 k8)) (Bd.le hcx (show 50 ≤ 90000 by decide)) (Bd.le (Zci hlv.2) (show 42 ≤ 90000 by decide))) ?_)
 rintro _ w9 ⟨hq4, rfl⟩
 have k9 := Zi hq4 none
 have hz9 := hq4.size
 have hb9 := Zf hb8 k9
 have hz10 := hb9.size
 refine stg (Zbd rfl rfl (st (Zr rfl rfl (st (Zc rfl ?_)))))
 refine Zax 24 rfl (fun h2 => ?_) (fun h2 => ?_)
 rotate_left
 ·refine Zj rfl rfl (Zj rfl rfl (Zj rfl rfl (Zj rfl rfl (Zj rfl rfl (st (Zr rfl rfl (st (Zc rfl ?_))))))))
  refine Zj rfl rfl (Zj rfl rfl (Zj rfl rfl (Zj rfl rfl (Zj rfl rfl (st (Zr rfl rfl (st (Ze rfl ?_))))))))
  refine Zg (Zd (Zaa rfl rfl ?_))
  exact ⟨_, rfl, hb9, by rw [show inC c lv = false from by unfold inC; rw [decide_eq_false_iff_not]; rintro ⟨h1_, h2_, h3_, h4_⟩; have h5_ := Zbj.2 h1_; have h6_ := Zb7.2 h2_; have h7_ := Zbj.2 h3_; have h8_ := Zb7.2 h4_; omega]⟩
 refine stg (Zn Zd0 rfl (stg (Zbf (us := [.bool (decide (c.y < 0)), py]) Zx rfl ((((((((hB1.g0 k2).g0 k3).gne k4 om).g0 k5).g0 k6).gne k7 om).g0 k8).g0 k9).range (j := 2) rfl rfl (stg (Zp Zx rfl ((hB5.g0 k8).g0 k9).range rfl (stg (Zq Zg4 rfl (Zbq (n0 := n0) (Zu hn0 hb9) (Zai rfl (((((((((hpy.gg0 k1).gg0 k2).gg0 k3).ggB k4 hB2 dc om).gg0 k5).gg0 k6).ggB k7 hB4 dc om).gg0 k8).gg0 k9)) (Zai rfl ((((hS2.gg0 k6).ggB k7 hB4 dc om).gg0 k8).gg0 k9)) (Bd.le hcy (show 50 ≤ 90000 by decide)) (Bd.le (Zlj (Zci hlv.2)) (show 42 ≤ 90000 by decide))) ?_)))))))
 rintro _ w10 ⟨hq5, rfl⟩
 have k10 := Zi hq5 none
 have hz11 := hq5.size
 have hb10 := Zf hb9 k10
 have hz12 := hb10.size
 refine stg (Zg3 rfl rfl (st (Zr rfl rfl (st (Zc rfl ?_)))))
 refine Zax 31 rfl (fun h3 => ?_) (fun h3 => ?_)
 rotate_left
 ·refine Zj rfl rfl (Zj rfl rfl (Zj rfl rfl (Zj rfl rfl (Zj rfl rfl (st (Zr rfl rfl (st (Ze rfl ?_))))))))
  refine Zg (Zd (Zaa rfl rfl ?_))
  exact ⟨_, rfl, hb10, by rw [show inC c lv = false from by unfold inC; rw [decide_eq_false_iff_not]; rintro ⟨h1_, h2_, h3_, h4_⟩; have h5_ := Zbj.2 h1_; have h6_ := Zb7.2 h2_; have h7_ := Zbj.2 h3_; have h8_ := Zb7.2 h4_; omega]⟩
 refine stg (Zn Zd0 rfl (stg (Zbf (us := [.bool (decide (c.y < 0)), py]) Zx rfl (((((((((hB1.g0 k2).g0 k3).gne k4 om).g0 k5).g0 k6).gne k7 om).g0 k8).g0 k9).g0 k10).range (j := 2) rfl rfl (stg (Zp Zx rfl ((((((hB3.g0 k5).g0 k6).gne k7 om).g0 k8).g0 k9).g0 k10).range rfl ?_)))))
 refine stg (Zq Zg4 rfl (Zbq (n0 := n0) (Zu hn0 hb10) (Zai rfl ((((((((((hpy.gg0 k1).gg0 k2).gg0 k3).ggB k4 hB2 dc om).gg0 k5).gg0 k6).ggB k7 hB4 dc om).gg0 k8).gg0 k9).gg0 k10)) (Zai rfl ((((((((hS1.gg0 k3).ggB k4 hB2 dc om).gg0 k5).gg0 k6).ggB k7 hB4 dc om).gg0 k8).gg0 k9).gg0 k10)) (Bd.le hcy (show 50 ≤ 90000 by decide)) (Bd.le (Zci hlv.2) (show 42 ≤ 90000 by decide))) ?_)
 rintro _ w11 ⟨hq6, rfl⟩
 have k11 := Zi hq6 none
 have hz13 := hq6.size
 have hb11 := Zf hb10 k11
 have hz14 := hb11.size
 refine stg (Zbd rfl rfl (st (Zr rfl rfl (st (Ze rfl (Zg (Zd (Zaa rfl rfl ?_))))))))
 exact ⟨_, rfl, hb11, congrArg Value.bool (decide_eq_decide.2 ⟨fun h => ⟨Zbj.1 h1, Zb7.1 h2, Zbj.1 h3, Zb7.1 h⟩, fun h => Zb7.2 h.2.2.2⟩)⟩
end Go.Proofs.Ytfljelnfjbbknaa.Lm
