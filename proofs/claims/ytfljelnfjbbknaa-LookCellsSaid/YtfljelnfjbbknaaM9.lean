/- Part of the proof: a library for walks, plain laws, and functions' walks. -/
import Derived.Test.YtfljelnfjbbknaaM8
import Derived.Test.YtfljelnfjbbknaaM3
import Derived.Test.YtfljelnfjbbknaaM2
import Derived.Test.YtfljelnfjbbknaaM4
import Derived.Test.YtfljelnfjbbknaaM5
import Derived.Test.YtfljelnfjbbknaaM6
set_option maxRecDepth 20000
set_option linter.unusedSimpArgs false
set_option linter.unusedVariables false
namespace Go.Proofs.Ytfljelnfjbbknaa.Nd
open Go.RowKit Go.Gw
set_option maxHeartbeats 1000000 in
theorem inner_any {va : Value} {l : List Nd} {F : Nat → Prop} {w : World} (hl : Sl Kd.node w F va l) {n k : Int} (hl_ok : Zaf l = true) (h0 : 1 ≤ n) (h1 : n ≤ l.length) (hv : (ix l (n - 1)).lv ≠ 1) (k0 : 0 ≤ k) (k1 : k < 4) :
  Calls Try.prog 110 [va, .int .i64 n, .int .i64 k].toArray w (Zbh w fun v _ => v = .int .i64 (Zdy l n k)) := by
 have hb0 := Below.refl w.heap.size w
 have hln1 := hl.lenle
 have hkid : (ix l (n - 1)).kid k ≠ 0 → _ := fun e => Zdm hl_ok (i := n - 1) (k := k) om om k0 k1 hv e
 have hkr := Zc1 hl_ok (i := n - 1) om om hv k k0 k1
 unfold Nd.kid at hkid hkr
 refine enter Try.func110 rfl rfl (Zh (Zb (st (Ze rfl (Zg (Zd (Zh ?_)))))))
 refine Zh (Zb (st (Zc rfl (st (Zc rfl (st (Za7 rfl rfl om (st (Zc rfl (st (Zat Zaw rfl rfl (hl.at0 hb0) om om ?_)))))))))))
 rintro b1 o1 _ ⟨rfl, _⟩ hc1 hF1 hlt1
 have hl_1 := Loc.lt hF1
 refine st (Zn Zav rfl (st (Zbi Zb9 rfl rfl om om (st (Zc3 Za9 rfl hc1 (j := 1) rfl rfl om om (st (Ze rfl (Zg (Zd (Zh ?_))))))))))
 refine Zb (st (Zc rfl (st (Zch rfl rfl (Zg (Zd ?_))))))
 refine Zw rfl (fun h1 => ?_) (fun h1 => ?_)
 rotate_left
 ·refine Zo (Zd (Zh (Zb (st (Ze rfl (Zg (Zd ?_)))))))
  refine Zaa rfl rfl ?_
  exact ⟨_, rfl, hb0, by unfold Zdy Nd.kid; rw [if_neg om]⟩
 refine Zh (Zb (st (Zc rfl (st (Zc rfl (st (Za7 rfl rfl om (st (Zc rfl (st (Za7 rfl rfl om ?_)))))))))))
 refine st (Zat Zaw rfl rfl (hl.at0 hb0) om om ?_)
 rintro b2 o2 _ ⟨rfl, _⟩ hc2 hF2 hlt2
 have hl_2 := Loc.lt hF2
 refine st (Zn Zav rfl (st (Zbi Zb9 rfl rfl om om (st (Zc3 Za9 rfl hc2 (j := 1) rfl rfl om om (st (Ze rfl (Zg (Zd (Zaa rfl rfl ?_))))))))))
 exact ⟨_, rfl, hb0, by unfold Zdy Nd.kid; rw [if_pos om]⟩
set_option maxHeartbeats 1000000 in
theorem rinner_any {va : Value} {l : List Nd} {F : Nat → Prop} {w : World} (hl : Sl Kd.node w F va l) {n k : Int} (hl_ok : Zaf l = true) (h0 : 1 ≤ n) (h1 : n ≤ l.length) (hv : (ix l (n - 1)).lv ≠ 1) (k0 : 0 ≤ k) (k1 : k < 4) :
  Calls Try.prog 73 [va, .int .i64 n, .int .i64 k].toArray w (Zbh w fun v _ => v = .int .i64 (Zdy l n k)) := by
 have hb0 := Below.refl w.heap.size w
 have hln1 := hl.lenle
 have hkid : (ix l (n - 1)).kid k ≠ 0 → _ := fun e => Zdm hl_ok (i := n - 1) (k := k) om om k0 k1 hv e
 have hkr := Zc1 hl_ok (i := n - 1) om om hv k k0 k1
 unfold Nd.kid at hkid hkr
 refine enter Try.func73 rfl rfl (Zh (Zb (st (Ze rfl (Zg (Zd (Zh ?_)))))))
 refine Zb (st (Zc rfl (st (Zc rfl (st (Za7 rfl rfl om (st (Zc rfl (st (Zat Zaw rfl rfl (hl.at0 hb0) om om ?_))))))))))
 rintro b1 o1 _ ⟨rfl, _⟩ hc1 hF1 hlt1
 have hl_1 := Loc.lt hF1
 refine st (Zn Zav rfl (st (Zbi Zb9 rfl rfl om om (st (Zc3 Za9 rfl hc1 (j := 1) rfl rfl om om (st (Ze rfl (Zg (Zd (Zh ?_))))))))))
 refine Zh (Zb (st (Zc rfl (st (Zbu rfl rfl (Zg (Zd ?_)))))))
 refine Zw rfl (fun h1 => ?_) (fun h1 => ?_)
 ·refine Zh (Zb (st (Ze rfl (Zg (Zd (Zaa rfl rfl ?_))))))
  exact ⟨_, rfl, hb0, by unfold Zdy Nd.kid; rw [if_neg om]⟩
 refine Zo (Zd (Zh (Zb (st (Zc rfl (st (Zc rfl (st (Za7 rfl rfl om ?_)))))))))
 refine st (Zc rfl (st (Za7 rfl rfl om (st (Zat Zaw rfl rfl (hl.at0 hb0) om om ?_)))))
 rintro b2 o2 _ ⟨rfl, _⟩ hc2 hF2 hlt2
 have hl_2 := Loc.lt hF2
 refine st (Zn Zav rfl (st (Zbi Zb9 rfl rfl om om (st (Zc3 Za9 rfl hc2 (j := 1) rfl rfl om om (st (Ze rfl (Zg (Zd (Zaa rfl rfl ?_))))))))))
 exact ⟨_, rfl, hb0, by unfold Zdy Nd.kid; rw [if_pos om]⟩
set_option maxHeartbeats 1000000 in
theorem Zh6 {va : Value} {l : List Nd} {F : Nat → Prop} {w : World} (hl : Sl Kd.node w F va l) (hll : l.length ≤ 1000000) :
  Calls Try.prog 90 [va].toArray w (Zbh w fun v w' => Gw.Own Kd.node 101 w.heap.size w' (fun _ => False) v (l)) := by
 have hb0 := Below.refl w.heap.size w
 have hln1 := hl.lenle
 refine enter Try.func90 rfl rfl (Zh (Zb (st (Ze rfl (Zg (Zd (Zh ?_)))))))
 refine Zh (Zb (st (Zc rfl (st (s_slnil Zaw rfl rfl (hl.at0 hb0) (Zg (Zd ?_)))))))
 refine Zba rfl (fun h1 => ?_) (fun h1 => ?_)
 ·refine Zh (Zb (st (Ze rfl (Zg (Zd (Zaa rfl rfl ?_))))))
  have e := Zmb (hl.at0 hb0) h1
  subst e
  exact ⟨_, rfl, hb0, Own.nil _ _ _ _ _⟩
 refine Zo (Zd (Zh (Zb (st (Zhr (K := Kd.node) (base := w.heap.size) (F := (fun _ => False)) Zaw om (fun _ h => h.elim) ?_)))))
 intro v1 w1 hO1 k1
 have hb1 := Zf hb0 k1
 have hz1 := hb1.size
 refine st (Zc rfl (st (Za4 (K := Kd.node) Zaw rfl rfl hO1 ((hl.at0 hb1).weak (fun k hk h => h.elim (fun h => by first | exact h.elim | exact h | exact Or.inl h) (fun h => by have h9 := (hO1.lt k h).1; first | exact Or.inr h9 | (simp [Loc]; omega)))) Zb6 (by simp; omega) (by simp; omega) (by first | exact Nat.le_refl _ | omega) (fun _ h => h.elim) ?_)))
 intro v2 w2 hO2 k2 hr1
 rw [List.nil_append] at hO2
 have hb2 := hb1.grown k2 hb1.size (fun k_ hk_ => (hO1.lt k_ hk_).1)
 have hz2 := hb2.size
 refine st (Ze rfl (Zg (Zd (Zaa rfl rfl ?_))))
 exact ⟨_, rfl, hb2, hO2⟩
set_option maxHeartbeats 1000000 in
theorem shrink_any {va : Value} {l : List Nd} {F : Nat → Prop} {w : World} (hl : Sl Kd.node w F va l) {n0 : Int} (hl_ok : Zaf l = true) (hll : l.length ≤ 100000) (q0 : 0 ≤ n0) (q1 : n0 ≤ l.length) :
  Calls Try.prog 92 [va, .int .i64 n0].toArray w (Zbh w fun v w' => ∃ L n sv, v = .tuple #[sv, .int .i64 n] ∧ Gw.Own Kd.node 101 w.heap.size w' (fun _ => False) sv (L) ∧ Zaf L = true ∧ 0 ≤ n ∧ n ≤ L.length ∧ tr L n = Zhl (tr l n0) ∧ hol (tr L n) = false ∧ L.length ≤ l.length + 1329) := by
 have hb0 := Below.refl w.heap.size w
 have hln1 := hl.lenle
 have hlen := Zbg l
 refine enter Try.func92 rfl rfl (Zh (Zb (st (Ze rfl (st (Ze rfl (Zg (Zd ?_))))))))
 refine Zh (Zb (st (Zc rfl (st (Zq fn90 rfl (Zh6 (hl.at0 hb0) om) ?_)))))
 rintro v1 w1 ⟨hq1, hS1⟩
 have k1 := Zi hq1 none
 have hO1 := Own.rebase hS1 hb0.size
 have hb1 := Zf hb0 k1
 have hz1 := hb1.size
 refine st (Ze rfl (Zg (Zd (Zh (Zh (Zb (st (Zc rfl ?_))))))))
 refine st (Zc rfl (st (Zq fn108 rfl (empty_any hO1.sl hl_ok om om om) ?_)))
 rintro _ w2 ⟨hq2, rfl⟩
 have k2 := Zi hq2 none
 have hz2 := hq2.size
 have hb2 := Zf hb1 k2
 have hz3 := hb2.size
 have hO2 := hO1.g0 k2
 refine Zg (Zd ?_)
 refine Zba rfl (fun h1 => ?_) (fun h1 => ?_)
 ·refine Zh (Zb (st (Zc rfl (st (Ze rfl (st (Ze rfl (Zg (Zd ?_)))))))))
  refine Zdl rfl rfl rfl ?_
  obtain ⟨e1, e2⟩ := shr_nil hl_ok q0 q1 (by simpa using h1)
  exact ⟨_, rfl, hb2, _, _, _, rfl, hO2, hl_ok, by omega, by omega, e1, e2, by omega⟩
 have hemp := emp_has hl_ok q0 q1 (by simpa using h1)
 have hn1 := hemp.2
 refine Zo (Zd (Zh (Zz (Za2 (α := Int × List Nd × Value) (fun ((n, L, vk) : Int × List Nd × Value) => [(0, vk), (1, .int .i64 n), (4, .slice none 0 0), (5, .int .i64 0)]) (fun ((n, L, vk) : Int × List Nd × Value) W => Below w.heap.size w W ∧ (1 ≤ n ∧ n ≤ L.length) ∧ (Zaf L = true) ∧ (shr (tr L n) = shr (tr l n0)) ∧ ((L.length : Int) + (ix L (n - 1)).lv ≤ l.length + 1329) ∧ (Gw.Own Kd.node 101 w.heap.size W (fun _ => False) vk (L))) (fun ((n, L, vk) : Int × List Nd × Value) => ((ix L (n - 1)).lv).toNat) ((n0), (l), (v1)) ⟨hb2, by omega, hl_ok, rfl, by have := Ze9 hl_ok (i := n0 - 1) om om; omega, hO2⟩ sb ?_))))
 rintro ⟨n, L, vk⟩ w3 ⟨hb3, hn, hLok, hT, hLl, hOk⟩
 dsimp only at *
 have hz4 := hb3.size
 have hlenL := Zbg L
 have hlv := Ze9 hLok (i := n - 1) om om
 refine Zh (Zh (Zb (st (Zc rfl (st (Zc rfl (st (Zq fn109 rfl (hollow_any hOk.sl hLok om om om) ?_))))))))
 rintro _ w4 ⟨hq3, rfl⟩
 have k3 := Zi hq3 none
 have hz5 := hq3.size
 have hb4 := Zf hb3 k3
 have hz6 := hb4.size
 have hO3 := hOk.g0 k3
 refine Zg (Zd ?_)
 refine Zba rfl (fun h2 => ?_) (fun h2 => ?_)
 rotate_left
 ·refine Zak (Zk (Zk (Zs (Zd (Zh (Zb ?_))))))
  refine st (Zc rfl (st (Zc rfl (st (Ze rfl (st (Ze rfl (Zg (Zd (Zdl rfl rfl rfl ?_))))))))))
  obtain ⟨e1, e2⟩ := shr_end hLok om om h2 hT hemp.1
  exact ⟨_, rfl, hb4, _, _, _, rfl, hO3, hLok, by omega, by omega, e1, e2, by omega⟩
 have hLv := ((Zd9 L n).1 h2).2.1
 refine Zo (Zd (Zz (Zh (Zb (st (Zc rfl (st (Zc rfl ?_))))))))
 refine st (Za7 rfl rfl om (st (Zat Zaw rfl rfl hO3.sl om om ?_)))
 rintro b1 o1 _ ⟨rfl, _⟩ hc1 hF1 hlt1
 refine st (Zn Zaz rfl (st (Zt Za9 rfl hc1 (j := 0) rfl (st (Za7 rfl rfl om (st (Zbe (ps := [(0, .tmp 23)]) (ccs := [#[.int .i64 ((ix L (n - 1)).lv - 1)]]) (cells := [.int .i64 ((ix L (n - 1)).lv - 1), .int .i64 0, .int .i64 0, .int .i64 0, .int .i64 0]) rfl rfl kr (st (Zan Zcw ?_)))))))))
 intro g1 w5 hg1 hB1 k4 hs1
 have hz7 := hb4.size
 have hn1 := Zdj hO3 hg1
 have hb5 := Zf hb4 k4
 have hO4 := hO3.g0 k4
 refine st0 (Zv Za1 rfl rfl hB1 rfl rfl rfl ?_)
 intro w6 hB2 k5 hs2
 have hb6 := belowa hb5 k5
 have hO5 := Own.keptN Zy hO4 k5 hn1
 clear hB1
 refine Zg (Zd (Zh (Zh (Zb (st (Zc rfl (Zg ?_)))))))
 refine Zd (Zz ?_)
 refine Za2 (α := Int × Int × Int × Int × Int) (fun ((k, a, b, c, e) : Int × Int × Int × Int × Int) => [(0, vk), (1, .int .i64 n), (4, .slice none 0 0), (5, .int .i64 0), (6, (pp g1)), (25, .int .i64 k)]) (fun ((k, a, b, c, e) : Int × Int × Int × Int × Int) W => Below w.heap.size w W ∧ (0 ≤ k ∧ k ≤ 4) ∧ (∀ j : Int, 0 ≤ j → j < k → Zae a b c e j = Zdy L n j) ∧ (Blk W g1 101 [.int .i64 ((ix L (n - 1)).lv - 1), .int .i64 a, .int .i64 b, .int .i64 c, .int .i64 e].toArray) ∧ (Gw.Own Kd.node 101 w.heap.size W (fun _ => False) vk (L))) (fun ((k, a, b, c, e) : Int × Int × Int × Int × Int) => (4 - k).toNat) ((0), (0), (0), (0), (0)) ⟨hb6, by omega, fun j _ _ => by omega, hB2, hO5⟩ sb ?_
 rintro ⟨k, a, b, c, e⟩ w7 ⟨hb7, hk, ha, hBj, hOj⟩
 dsimp only at *
 have hz8 := hb7.size
 refine Zh (Zb (st (Zbd rfl rfl (Zg (Zd (Zh ?_))))))
 refine Zw rfl (fun h3 => ?_) (fun h3 => ?_)
 ·refine Zo (Zd (Zh (Zz (Zh (Zb (st (Zc rfl ?_)))))))
  refine st (Ze rfl (Zg (Zd (Zb (st (Zc rfl (st (Zc rfl (st (Zc rfl ?_))))))))))
  refine st (Zc rfl (st (Zq fn110 rfl (inner_any hOj.sl hLok om om hLv om om) ?_)))
  rintro _ w8 ⟨hq4, rfl⟩
  have k6 := Zi hq4 none
  have hz9 := hq4.size
  have hb8 := Zf hb7 k6
  have hz10 := hb8.size
  have hO6 := hOj.g0 k6
  refine st (Zn Zav rfl (st (Zbi Zb9 rfl rfl om om (st0 (Zda Za9 rfl rfl (hBj.g0 k6) om om ?_)))))
  intro w9 hB3 k7 hs3
  have hb9 := belowa hb8 k7
  have hO7 := Own.keptN Zy hO6 k7 hn1
  refine Zg (Zab (Zd (Zb (st (Zah rfl rfl om (st (Zc rfl (Zg ?_))))))))
  exact Zac (((k + 1)), ((if k = 0 then Zdy L n k else a)), ((if k = 1 then Zdy L n k else b)), ((if k = 2 then Zdy L n k else c)), ((if k = 3 then Zdy L n k else e))) ⟨hb9, by omega, sel4_step om om ha rfl, hB3, hO7⟩ om sb
 refine Zak (Zk (Zk (Zs (Zd (Zh (Zb ?_))))))
 refine st (Zc rfl (st (Zp Za1 rfl hBj.range rfl (st (Zau (ps := [(0, .tmp 37)]) (ccs := [#[.int .i64 ((ix L (n - 1)).lv - 1), .int .i64 a, .int .i64 b, .int .i64 c, .int .i64 e]]) (e := 101) (cells := [.int .i64 ((ix L (n - 1)).lv - 1), .int .i64 a, .int .i64 b, .int .i64 c, .int .i64 e]) rfl rfl kr dc Zgw ?_)))))
 intro g2 w10 hg2 hB4 k8 hs4
 have hb10 := Zf hb7 k8
 have hz11 := hb10.size
 have hO8 := hOj.g0 k8
 have hS2 := Zbl (F := fun _ => False) ([⟨((ix L (n - 1)).lv - 1), a, b, c, e⟩] : List Nd) hB4 (fun h => h) rfl (by first | decide | simp)
 refine st (Za4 (K := Kd.node) Zaw rfl rfl hO8 (Zbl (F := Out (fun _ => False) vk) ([⟨((ix L (n - 1)).lv - 1), a, b, c, e⟩] : List Nd) hB4 (fun h => h.elim id (fun h => by have h9 := (hOj.lt _ h).2; omega)) rfl (by first | decide | simp)) Zb6 (by simp; omega) (by simp; omega) (by first | exact Nat.le_refl _ | omega) (fun _ h => h.elim) ?_)
 intro v2 w11 hO9 k9 hr2
 have hn2 := Zdk hn1 hr2 (by have := (hBj.g0 k8).lt; omega)
 have hb11 := hb10.grown k9 hb10.size (fun k_ hk_ => (hO8.lt k_ hk_).1)
 have hz12 := hb11.size
 refine st (Ze rfl (Zg (Zd (Zb (st (Zc rfl (st (Zaq Zaw rfl hO9.sl (st (Ze rfl ?_))))))))))
 refine Zg (Zab ?_)
 have hX : (⟨(ix L (n - 1)).lv - 1, a, b, c, e⟩ : Nd) = Zei L n := innX_eq (fun j j0 j1 => ha j j0 om)
 have hL9 := Zji hLok om om hLv
 have hl9 : ((L ++ [Zei L n]).length : Int) = L.length + 1 := by simp
 have hi9 : (ix (L ++ [Zei L n]) ((L.length : Int) + 1 - 1)) = Zei L n := by rw [show (L.length : Int) + 1 - 1 = L.length by omega]; unfold ix; simp
 have hx9 : (Zei L n).lv = (ix L (n - 1)).lv - 1 := rfl
 exact Zac ((((L ++ ([⟨((ix L (n - 1)).lv - 1), a, b, c, e⟩] : List Nd)).length : Int)), (L ++ ([⟨((ix L (n - 1)).lv - 1), a, b, c, e⟩] : List Nd)), (v2)) ⟨hb11, by dsimp only; rw [hX]; omega, by dsimp only; rw [hX]; exact hL9, by dsimp only; rw [hX, shr_step hLok om om h2, hT], by dsimp only; rw [hX, hl9, hi9, hx9]; omega, hO9⟩ (by dsimp only; rw [hX, hl9, hi9, hx9]; omega) sb
set_option maxHeartbeats 1000000 in
theorem rshrink_any {va : Value} {l : List Nd} {F : Nat → Prop} {w : World} (hl : Sl Kd.node w F va l) {n0 : Int} (hl_ok : Zaf l = true) (hll : l.length ≤ 100000) (q0 : 0 ≤ n0) (q1 : n0 ≤ l.length) :
  Calls Try.prog 38 [va, .int .i64 n0].toArray w (Zbh w fun v w' => ∃ L n sv, v = .tuple #[sv, .int .i64 n] ∧ Gw.Own Kd.node 101 w.heap.size w' (fun _ => False) sv (L) ∧ Zaf L = true ∧ 0 ≤ n ∧ n ≤ L.length ∧ tr L n = Zhl (tr l n0) ∧ hol (tr L n) = false ∧ L.length ≤ l.length + 1329) := by
 have hb0 := Below.refl w.heap.size w
 have hln1 := hl.lenle
 have hlen := Zbg l
 refine enter Try.func38 rfl rfl (Zh (Zb (st (Ze rfl (st (Ze rfl (Zg (Zd ?_))))))))
 refine Zh (Zb (st (Zhr (K := Kd.node) (base := w.heap.size) (F := (fun _ => False)) Zaw om (fun _ h => h.elim) ?_)))
 intro v1 w1 hO1 k1
 have hb1 := Zf hb0 k1
 have hz1 := hb1.size
 refine st (Zc rfl (st (Za4 (K := Kd.node) Zaw rfl rfl hO1 ((hl.at0 hb1).weak (fun k hk h => h.elim (fun h => by first | exact h.elim | exact h | exact Or.inl h) (fun h => by have h9 := (hO1.lt k h).1; first | exact Or.inr h9 | (simp [Loc]; omega)))) Zb6 (by simp; omega) (by simp; omega) (by first | exact Nat.le_refl _ | omega) (fun _ h => h.elim) ?_)))
 intro v2 w2 hO2 k2 hr1
 rw [List.nil_append] at hO2
 have hb2 := hb1.grown k2 hb1.size (fun k_ hk_ => (hO1.lt k_ hk_).1)
 have hz2 := hb2.size
 refine st (Ze rfl (Zg (Zd (Zh (Zh (Zb (st (Zc rfl ?_))))))))
 refine st (Zc rfl (st (Zq fn72 rfl (rempty_any hO2.sl hl_ok om om om) ?_)))
 rintro _ w3 ⟨hq1, rfl⟩
 have k3 := Zi hq1 none
 have hz3 := hq1.size
 have hb3 := Zf hb2 k3
 have hz4 := hb3.size
 have hO3 := hO2.g0 k3
 refine Zg (Zd ?_)
 refine Zba rfl (fun h1 => ?_) (fun h1 => ?_)
 ·refine Zh (Zb (st (Zc rfl (st (Ze rfl (st (Ze rfl (Zg (Zd ?_)))))))))
  refine Zdl rfl rfl rfl ?_
  obtain ⟨e1, e2⟩ := shr_nil hl_ok q0 q1 (by simpa using h1)
  exact ⟨_, rfl, hb3, _, _, _, rfl, hO3, hl_ok, by omega, by omega, e1, e2, by omega⟩
 have hemp := emp_has hl_ok q0 q1 (by simpa using h1)
 have hn1 := hemp.2
 refine Zo (Zd (Zh (Zz (Za2 (α := Int × List Nd × Value) (fun ((n, L, vk) : Int × List Nd × Value) => [(1, .int .i64 n), (4, .slice none 0 0), (5, .int .i64 0), (6, vk)]) (fun ((n, L, vk) : Int × List Nd × Value) W => Below w.heap.size w W ∧ (1 ≤ n ∧ n ≤ L.length) ∧ (Zaf L = true) ∧ (shr (tr L n) = shr (tr l n0)) ∧ ((L.length : Int) + (ix L (n - 1)).lv ≤ l.length + 1329) ∧ (Gw.Own Kd.node 101 w.heap.size W (fun _ => False) vk (L))) (fun ((n, L, vk) : Int × List Nd × Value) => ((ix L (n - 1)).lv).toNat) ((n0), (l), (v2)) ⟨hb3, by omega, hl_ok, rfl, by have := Ze9 hl_ok (i := n0 - 1) om om; omega, hO3⟩ sb ?_))))
 rintro ⟨n, L, vk⟩ w4 ⟨hb4, hn, hLok, hT, hLl, hOk⟩
 dsimp only at *
 have hz5 := hb4.size
 have hlenL := Zbg L
 have hlv := Ze9 hLok (i := n - 1) om om
 refine Zh (Zh (Zb (st (Zc rfl (st (Zc rfl (st (Zq fn68 rfl (Zmc hOk.sl hLok om om om) ?_))))))))
 rintro _ w5 ⟨hq2, rfl⟩
 have k4 := Zi hq2 none
 have hz6 := hq2.size
 have hb5 := Zf hb4 k4
 have hz7 := hb5.size
 have hO4 := hOk.g0 k4
 refine Zg (Zd ?_)
 refine Zba rfl (fun h2 => ?_) (fun h2 => ?_)
 rotate_left
 ·refine Zak (Zk (Zk (Zs (Zd (Zh (Zb ?_))))))
  refine st (Zc rfl (st (Zc rfl (st (Ze rfl (st (Ze rfl (Zg (Zd (Zdl rfl rfl rfl ?_))))))))))
  obtain ⟨e1, e2⟩ := shr_end hLok om om h2 hT hemp.1
  exact ⟨_, rfl, hb5, _, _, _, rfl, hO4, hLok, by omega, by omega, e1, e2, by omega⟩
 have hLv := ((Zd9 L n).1 h2).2.1
 refine Zo (Zd (Zz (Zh (Zb (st (Zc rfl (st (Zc rfl ?_))))))))
 refine st (Za7 rfl rfl om (st (Zat Zaw rfl rfl hO4.sl om om ?_)))
 rintro b1 o1 _ ⟨rfl, _⟩ hc1 hF1 hlt1
 refine st (Zn Zaz rfl (st (Zt Za9 rfl hc1 (j := 0) rfl (st (Za7 rfl rfl om (st (Zbe (ps := [(0, .tmp 25)]) (ccs := [#[.int .i64 ((ix L (n - 1)).lv - 1)]]) (cells := [.int .i64 ((ix L (n - 1)).lv - 1), .int .i64 0, .int .i64 0, .int .i64 0, .int .i64 0]) rfl rfl kr (st (Zan Zcw ?_)))))))))
 intro g1 w6 hg1 hB1 k5 hs1
 have hz8 := hb5.size
 have hn1 := Zdj hO4 hg1
 have hb6 := Zf hb5 k5
 have hO5 := hO4.g0 k5
 refine st0 (Zv Za1 rfl rfl hB1 rfl rfl rfl ?_)
 intro w7 hB2 k6 hs2
 have hb7 := belowa hb6 k6
 have hO6 := Own.keptN Zy hO5 k6 hn1
 clear hB1
 refine Zg (Zd (Zh (Zh (Zb (st (Ze rfl (Zg ?_)))))))
 refine Zd (Zz ?_)
 refine Za2 (α := Int × Int × Int × Int × Int) (fun ((k, a, b, c, e) : Int × Int × Int × Int × Int) => [(1, .int .i64 n), (4, .slice none 0 0), (5, .int .i64 0), (6, vk), (7, (pp g1)), (8, .int .i64 k)]) (fun ((k, a, b, c, e) : Int × Int × Int × Int × Int) W => Below w.heap.size w W ∧ (0 ≤ k ∧ k ≤ 4) ∧ (∀ j : Int, 0 ≤ j → j < k → Zae a b c e j = Zdy L n j) ∧ (Blk W g1 101 [.int .i64 ((ix L (n - 1)).lv - 1), .int .i64 a, .int .i64 b, .int .i64 c, .int .i64 e].toArray) ∧ (Gw.Own Kd.node 101 w.heap.size W (fun _ => False) vk (L))) (fun ((k, a, b, c, e) : Int × Int × Int × Int × Int) => (4 - k).toNat) ((0), (0), (0), (0), (0)) ⟨hb7, by omega, fun j _ _ => by omega, hB2, hO6⟩ sb ?_
 rintro ⟨k, a, b, c, e⟩ w8 ⟨hb8, hk, ha, hBj, hOj⟩
 dsimp only at *
 have hz9 := hb8.size
 refine Zh (Zh (Zb (st (Zc rfl (st (Zbd rfl rfl (Zg (Zd ?_))))))))
 refine Zw rfl (fun h3 => ?_) (fun h3 => ?_)
 ·refine Zo (Zd (Zh (Zz (Zb (st (Zc rfl (st (Zc rfl ?_))))))))
  refine st (Zc rfl (st (Zc rfl (st (Zq fn73 rfl (rinner_any hOj.sl hLok om om hLv om om) ?_)))))
  rintro _ w9 ⟨hq3, rfl⟩
  have k7 := Zi hq3 none
  have hz10 := hq3.size
  have hb9 := Zf hb8 k7
  have hz11 := hb9.size
  have hO7 := hOj.g0 k7
  refine st (Zn Zav rfl (st (Zbi Zb9 rfl rfl om om (st0 (Zda Za9 rfl rfl (hBj.g0 k7) om om ?_)))))
  intro w10 hB3 k8 hs3
  have hb10 := belowa hb9 k8
  have hO8 := Own.keptN Zy hO7 k8 hn1
  refine Zg (Zab (Zd (Zb (st (Zc rfl (st (Zah rfl rfl om (st (Ze rfl ?_)))))))))
  refine Zg ?_
  exact Zac (((k + 1)), ((if k = 0 then Zdy L n k else a)), ((if k = 1 then Zdy L n k else b)), ((if k = 2 then Zdy L n k else c)), ((if k = 3 then Zdy L n k else e))) ⟨hb10, by omega, sel4_step om om ha rfl, hB3, hO8⟩ om sb
 refine Zak (Zk (Zk (Zs (Zd (Zh (Zb ?_))))))
 refine st (Zc rfl (st (Zp Za1 rfl hBj.range rfl (st (Zau (ps := [(0, .tmp 39)]) (ccs := [#[.int .i64 ((ix L (n - 1)).lv - 1), .int .i64 a, .int .i64 b, .int .i64 c, .int .i64 e]]) (e := 101) (cells := [.int .i64 ((ix L (n - 1)).lv - 1), .int .i64 a, .int .i64 b, .int .i64 c, .int .i64 e]) rfl rfl kr dc Zgw ?_)))))
 intro g2 w11 hg2 hB4 k9 hs4
 have hb11 := Zf hb8 k9
 have hz12 := hb11.size
 have hO9 := hOj.g0 k9
 have hS1 := Zbl (F := fun _ => False) ([⟨((ix L (n - 1)).lv - 1), a, b, c, e⟩] : List Nd) hB4 (fun h => h) rfl (by first | decide | simp)
 refine st (Za4 (K := Kd.node) Zaw rfl rfl hO9 (Zbl (F := Out (fun _ => False) vk) ([⟨((ix L (n - 1)).lv - 1), a, b, c, e⟩] : List Nd) hB4 (fun h => h.elim id (fun h => by have h9 := (hOj.lt _ h).2; omega)) rfl (by first | decide | simp)) Zb6 (by simp; omega) (by simp; omega) (by first | exact Nat.le_refl _ | omega) (fun _ h => h.elim) ?_)
 intro v3 w12 hO10 k10 hr3
 have hn2 := Zdk hn1 hr3 (by have := (hBj.g0 k9).lt; omega)
 have hb12 := hb11.grown k10 hb11.size (fun k_ hk_ => (hO9.lt k_ hk_).1)
 have hz13 := hb12.size
 refine st (Ze rfl (Zg (Zd (Zb (st (Zc rfl (st (Zaq Zaw rfl hO10.sl (st (Ze rfl ?_))))))))))
 refine Zg (Zab ?_)
 have hX : (⟨(ix L (n - 1)).lv - 1, a, b, c, e⟩ : Nd) = Zei L n := innX_eq (fun j j0 j1 => ha j j0 om)
 have hL9 := Zji hLok om om hLv
 have hl9 : ((L ++ [Zei L n]).length : Int) = L.length + 1 := by simp
 have hi9 : (ix (L ++ [Zei L n]) ((L.length : Int) + 1 - 1)) = Zei L n := by rw [show (L.length : Int) + 1 - 1 = L.length by omega]; unfold ix; simp
 have hx9 : (Zei L n).lv = (ix L (n - 1)).lv - 1 := rfl
 exact Zac ((((L ++ ([⟨((ix L (n - 1)).lv - 1), a, b, c, e⟩] : List Nd)).length : Int)), (L ++ ([⟨((ix L (n - 1)).lv - 1), a, b, c, e⟩] : List Nd)), (v3)) ⟨hb12, by dsimp only; rw [hX]; omega, by dsimp only; rw [hX]; exact hL9, by dsimp only; rw [hX, shr_step hLok om om h2, hT], by dsimp only; rw [hX, hl9, hi9, hx9]; omega, hO10⟩ (by dsimp only; rw [hX, hl9, hi9, hx9]; omega) sb
end Go.Proofs.Ytfljelnfjbbknaa.Nd
namespace Go.Proofs.Ytfljelnfjbbknaa.Nd
open Go.RowKit Go.Gw
set_option maxHeartbeats 1000000 in
theorem find_any {va : Value} {l : List Nd} {F : Nat → Prop} {w : World} (hl : Sl Kd.node w F va l) {x : Nd} :
  Calls Try.prog 74 [va, .agg x.cells.toArray].toArray w (Zbh w fun v _ => v = .int .i64 (Zf2 l x)) := by
 have hb0 := Below.refl w.heap.size w
 have hln1 := hl.lenle
 refine enter Try.func74 rfl rfl (Zh (Zb (st (Zbs rfl ?_))))
 intro g1 w1 hg1 hB1 k1 hs1
 have hb1 := Zf hb0 k1
 refine st (Ze rfl (Zg (Zd (Zh (Zh (Zb (st (Ze rfl ?_))))))))
 refine Zg (Zd (Zz (Za2 (α := Int) (fun (i : Int) => [(0, va), (3, (pp g1)), (5, .int .i64 i)]) (fun (i : Int) W => Below w.heap.size w W ∧ (0 ≤ i ∧ i ≤ l.length) ∧ (∀ j : Int, 0 ≤ j → j < i → ix l j ≠ x) ∧ (Blk W g1 101 [.int .i64 x.lv, .int .i64 x.k0, .int .i64 x.k1, .int .i64 x.k2, .int .i64 x.k3].toArray)) (fun (i : Int) => (l.length - i).toNat) (0) ⟨hb1, by omega, fun j _ _ => by omega, hB1⟩ sb ?_)))
 rintro i w2 ⟨hb2, hi, ha, hBl1⟩
 have hz1 := hb2.size
 refine Zh (Zh (Zb (st (Zc rfl (st (Zc rfl (st (Zaq Zaw rfl (hl.at0 hb2) (st (Zbd rfl rfl ?_))))))))))
 refine Zg (Zd ?_)
 refine Zw rfl (fun h1 => ?_) (fun h1 => ?_)
 rotate_left
 ·refine Zak (Zk (Zk (Zs (Zd (Zh (Zb ?_))))))
  refine st (Ze rfl (Zg (Zd (Zaa rfl rfl ?_))))
  exact ⟨_, rfl, hb2, by rw [find_no fun j j0 j1 => ha j j0 om]⟩
 refine Zo (Zd (Zh (Zz (Zh ?_))))
 obtain ⟨b1, o1, _, hat1, ⟨rfl, _⟩, hc1, hF1, hlt1⟩ := (hl.at0 hb2).elem i om om
 have hl_1 := Loc.lt hF1
 refine Zce 6 GN [xi 12 <| va, xi 13 <| .int .i64 i, xi 14 <| .pointer (some ⟨b1, o1, none⟩), xi 15 <| .agg [.int .i64 ((ix l i).lv), .int .i64 ((ix l i).k0), .int .i64 ((ix l i).k1), .int .i64 ((ix l i).k2), .int .i64 ((ix l i).k3)].toArray, xi 16 <| .agg [.int .i64 x.lv, .int .i64 x.k0, .int .i64 x.k1, .int .i64 x.k2, .int .i64 x.k3].toArray, xi 17 <| .bool (decide ((ix l i) = x))] [[], [], [0, 1], [2], [], [3, 4]] [(0, va), (3, (pp g1)), (5, .int .i64 i)] sb kr kr Za gnt ⟨kv, kv, kv, kv, kv, kv, trivial⟩ ?_
 intro w3 k2 hs2
 have hb3 := Zf hb2 k2
 refine ⟨⟨?_, ?_, ?_, ?_, ?_, ?_, trivial⟩, ?_⟩
 ·intro w4 k3
  refine op1 (Zc rfl ?_)
  exact ⟨rfl, Za _⟩
 ·intro w5 k4
  refine op1 (Zc rfl ?_)
  exact ⟨rfl, Za _⟩
 ·intro w6 k5
  intro v_ hv_; subst v_
  rintro _ rfl
  refine op1 (Zbo Zaw rfl rfl hat1 ?_)
  exact ⟨rfl, Za _⟩
 ·intro w7 k6
  rintro _ rfl
  refine op1 (Zp Za1 rfl (Zaj (Zaj hc1 k2) k6) rfl ?_)
  exact ⟨rfl, Za _⟩
 ·intro w8 k7
  refine op1 (Zp Za1 rfl ((hBl1.g0 k2).g0 k7).range rfl ?_)
  exact ⟨rfl, Za _⟩
 ·intro w9 k8
  rintro _ rfl _ rfl
  refine op1 (s_eqnode eqNode rfl rfl ?_)
  exact ⟨rfl, Za _⟩
 intro w10 k9
 have hb10 := Zf hb3 k9
 intro v_ hv_; subst v_
 rintro _ rfl _ rfl _ rfl _ rfl _ rfl
 refine Zg (Zd ?_)
 refine Zw rfl (fun h2 => ?_) (fun h2 => ?_)
 ·refine Zh (Zb (st (Zc rfl (st (Zah rfl rfl om (st (Ze rfl (Zg (Zd ?_)))))))))
  refine Zaa rfl rfl ?_
  exact ⟨_, rfl, hb10, by rw [find_at i om om ha h2]⟩
 refine Zo (Zab (Zd (Zb (st (Zc rfl (st (Zah rfl rfl om (st (Ze rfl ?_)))))))))
 refine Zg ?_
 exact Zac ((i + 1)) ⟨hb10, by omega, fun j j0 j1 => if q : j = i then by rw [q]; exact h2 else ha j j0 om, ((hBl1.g0 k2).g0 k9)⟩ om sb
theorem visit_any {a0 a1 : World} {va ve vd : Value} {l : List Nd} {F : Nat → Prop} (hl : Sl Kd.node a0 F va l) (hle1 : Sl Kd.bool a1 (fun g => vd.ownBlock = some g) ve (Zhi l)) (hl_ok : Zaf l = true) (hll : l.length ≤ 1000000) :
  ∀ (f : Nat) {w : World} {vo : Value} {o : List Nd} {dn : List Int} {n : Int}, n < f → 0 ≤ n → n ≤ l.length → Frm (fun g => vd.ownBlock = some g) a1 (.slice none 0 0) w vo → Below a0.heap.size a0 w → Gw.Own Kd.node 101 a0.heap.size w (fun _ => False) vo o → Gw.Own (Kd.num .i64) 3 a0.heap.size w (fun _ => False) vd dn →
  dn.length = l.length + 1 → DInv l dn o → CanL o → o.length ≤ cntP dn → Calls Try.prog 39 [va, ve, .int .i64 n, vo, vd].toArray w (Ret fun v w' => ∃ vo' dn', v = .tuple #[vo', vd, .int .i64 (vis (tr l n) o).2] ∧ Below a0.heap.size a0 w' ∧
   Gw.Own Kd.node 101 a0.heap.size w' (fun _ => False) vo' (vis (tr l n) o).1 ∧ Gw.Own (Kd.num .i64) 3 a0.heap.size w' (fun _ => False) vd dn' ∧ dn'.length = l.length + 1 ∧ DInv l dn' (vis (tr l n) o).1 ∧ CanL (vis (tr l n) o).1 ∧ (vis (tr l n) o).1.length ≤ cntP dn' ∧
   (∀ i : Int, n < i → ix dn' i = ix dn i) ∧ (emp (tr l n) = true → dn' = dn) ∧ Frm (fun g => vd.ownBlock = some g) w vo w' vo') := by
 intro f
 induction f with
 | zero =>
  intro w vo o dn n hnf hn0 hn1b hFr hb0 hE hDo hdl0 hdi0 hcan0 hcnt0
  omega
 | succ f ih =>
  intro w vo o dn n hnf hn0 hn1b hFr hb0 hE hDo hdl0 hdi0 hcan0 hcnt0
  have hnf2 : n ≤ (f : Int) := by omega
  have hz0 := hb0.size
  have hF0 := Frm.refl (fun g => vd.ownBlock = some g) w vo
  have hlen := Zej l
  have hle := hle1.frm Zft hFr
  have hln1 := hl.lenle
  have hln2 := hle.lenle
  refine enter Try.func39 rfl rfl (Zh (Zb (st (Ze rfl (st (Ze rfl (st (Ze rfl (Zg ?_)))))))))
  refine Zd (Zh (Zh (Zb (st (Zc rfl (st (Zc rfl (st (Zat Zcq rfl rfl hle om om ?_)))))))))
  rintro b1 o1 _ ⟨rfl, _⟩ hc1 hF1 hlt1
  refine st (Zt Zeg rfl hc1 (j := 0) rfl (Zg (Zd ?_)))
  refine Zba rfl (fun h1 => ?_) (fun h1 => ?_)
  ·rw [Zfl l _ om om] at h1
   have hz : ix (Zca l) n = false := by simpa using h1
   rw [has_tr hl_ok n om om] at hz
   have hemp : emp (tr l n) = true := by simpa using hz
   refine Zh (Zb (st (Zc rfl (st (Zc rfl (st (Ze rfl (st (Ze rfl (st (Ze rfl ?_)))))))))))
   refine Zg (Zd (Zlh rfl rfl rfl rfl ?_))
   have hv : vis (tr l n) o = (o, 0) := Zds _ _ hemp
   refine ⟨_, rfl, vo, dn, ?_, hb0, ?_, hDo, hdl0, ?_, ?_, ?_, fun _ _ => rfl, fun _ => rfl, hF0⟩
   ·rw [hv]
   ·rw [hv]; exact hE
   ·rw [hv]; exact hdi0
   ·rw [hv]; exact hcan0
   ·rw [hv]; exact hcnt0
  rw [Zfl l _ om om] at h1
  have hz : ix (Zca l) n = true := by simpa using h1
  have hemp := emp_has hl_ok om om hz
  have hn1p := hemp.2
  have hkr := Zc1 hl_ok (i := n - 1) om om
  refine Zo (Zd (Zh (Zh (Zb (st (Zc rfl (st (Zc rfl ?_))))))))
  refine st (Zat sl65 rfl rfl hDo.sl om om ?_)
  rintro b2 o2 _ ⟨rfl, _⟩ hc2 hF2 hlt2
  refine st (Zt Za9 rfl hc2 (j := 0) rfl (st (Zch rfl rfl (Zg (Zd ?_)))))
  refine Zw rfl (fun h2 => ?_) (fun h2 => ?_)
  ·refine Zh ?_
   obtain ⟨b3, o3, _, hat1, ⟨rfl, _⟩, hc3, hF3, hlt3⟩ := hDo.sl.elem n om om
   refine Zce 8 GN [xi 27 <| vo, xi 28 <| vd, xi 29 <| vd, xi 30 <| .int .i64 n, xi 31 <| .pointer (some ⟨b3, o3, none⟩), xi 32 <| .int .i64 (ix dn n), xi 10 <| vo, xi 11 <| vd] [[], [], [], [], [2, 3], [4], [0], [1]] [(0, va), (1, ve), (2, .int .i64 n), (3, vo), (4, vd), (12, .int .i64 0)] sb kr kr Za gnt ⟨kv, kv, kv, kv, kv, kv, kv, kv, trivial⟩ ?_
   intro w1 k1 hs1
   have hb1 := Zf hb0 k1
   have hF4 := hF0.none k1
   have hO1 := hE.g0 k1
   have hO2 := hDo.g0 k1
   refine ⟨⟨?_, ?_, ?_, ?_, ?_, ?_, ?_, ?_, trivial⟩, ?_⟩
   ·intro w2 k2
    refine op1 (Zc rfl ?_)
    exact ⟨rfl, Za _⟩
   ·intro w3 k3
    refine op1 (Zc rfl ?_)
    exact ⟨rfl, Za _⟩
   ·intro w4 k4
    refine op1 (Zc rfl ?_)
    exact ⟨rfl, Za _⟩
   ·intro w5 k5
    refine op1 (Zc rfl ?_)
    exact ⟨rfl, Za _⟩
   ·intro w6 k6
    intro v_ hv_; subst v_
    rintro _ rfl
    refine op1 (Zbo sl65 rfl rfl hat1 ?_)
    exact ⟨rfl, Za _⟩
   ·intro w7 k7
    rintro _ rfl
    refine op1 (Zt Za9 rfl (Zaj (Zaj hc3 k1) k7) (j := 0) rfl ?_)
    exact ⟨rfl, Za _⟩
   ·intro w8 k8
    intro v_ hv_; subst v_
    refine op1 (Ze rfl ?_)
    exact ⟨rfl, Za _⟩
   ·intro w9 k9
    intro v_ hv_; subst v_
    refine op1 (Ze rfl ?_)
    exact ⟨rfl, Za _⟩
   intro w10 k10
   have hb10 := Zf hb1 k10
   have hF13 := hF4.none k10
   have hO19 := hO1.g0 k10
   have hO20 := hO2.g0 k10
   intro v_ hv_; subst v_
   intro v_ hv_; subst v_
   intro v_ hv_; subst v_
   rintro _ rfl _ rfl _ rfl
   intro v_ hv_; subst v_
   intro v_ hv_; subst v_
   refine st (Ze rfl (Zg (Zd (Zlh rfl rfl rfl rfl ?_))))
   have hv : vis (tr l n) o = (o, ix dn n) := hdi0 n om om h2
   refine ⟨_, rfl, vo, dn, ?_, hb10, ?_, hO20, hdl0, ?_, ?_, ?_, fun _ _ => rfl, fun _ => rfl, hF13⟩
   ·rw [hv]
   ·rw [hv]; exact hO19
   ·rw [hv]; exact hdi0
   ·rw [hv]; exact hcan0
   ·rw [hv]; exact hcnt0
  refine Zo (Zd (Zh (Zb (st (Zc rfl (st (Zc rfl (st (Za7 rfl rfl om ?_)))))))))
  refine st (Zat Zaw rfl rfl (hl.at0 hb0) om om ?_)
  rintro b4 o4 _ ⟨rfl, _⟩ hc4 hF14 hlt4
  have hl_1 := Loc.lt hF14
  refine st (Zp Za1 rfl hc4 rfl (st (Zan Zcw ?_)))
  intro g1 w11 hg1 hB1 k11 hs2
  have hz1 := hb0.size
  have hn1 := Zdj hE hg1
  have hb11 := Zf hb0 k11
  have hF15 := hF0.none k11
  have hO21 := hE.g0 k11
  have hO22 := hDo.g0 k11
  refine st0 (Zv Za1 rfl rfl hB1 rfl rfl rfl ?_)
  intro w12 hB2 k12 hs3
  have hb12 := belowa hb11 k12
  have hF16 := hF15.put k12 (by first | exact .inr om | exact .inl (by assumption) | exact .inl (.inl rfl) | exact .inl (.inr rfl) | exact .inl (.inr (.inl rfl)) | exact .inl (.inr (.inr rfl)))
  have hO23 := Own.keptN Zy hO21 k12 hn1
  have hO24 := Own.keptF (Zkf _) hO22 k12 (hO22.ne_blk hB1 dc)
  clear hB1
  refine Zg (Zd (Zh (Zh (Zb (st (Ze rfl (Zg ?_)))))))
  refine Zd (Zz ?_)
  have hxd : vd.ownBlock ≠ some g1 := by
   rcases hO24.ne_blk hB2 dc with h_ | h_
   ·rw [h_]; simp
   ·exact h_
  refine Za2 (α := Int × List Nd × Value × List Int × Int × Int × Int × Int) (fun ((k, ok, vk, dk, a, b, c, e) : Int × List Nd × Value × List Int × Int × Int × Int × Int) => [(0, va), (1, ve), (2, .int .i64 n), (3, vk), (4, vd), (10, .slice none 0 0), (11, .slice none 0 0), (12, .int .i64 0), (13, (pp g1)), (14, .int .i64 k)]) (fun ((k, ok, vk, dk, a, b, c, e) : Int × List Nd × Value × List Int × Int × Int × Int × Int) W => Below a0.heap.size a0 W ∧ (0 ≤ k ∧ k ≤ 4 ∧ (¬ 1 < (ix l (n - 1)).lv → k = 0)) ∧ (St4 l (ix l (n - 1)) o k ok a b c e) ∧ (Blk W g1 101 [.int .i64 ((ix l (n - 1)).lv), .int .i64 a, .int .i64 b, .int .i64 c, .int .i64 e].toArray) ∧ (Gw.Own Kd.node 101 a0.heap.size W (fun _ => False) vk ok) ∧ (Gw.Own (Kd.num .i64) 3 a0.heap.size W (fun _ => False) vd dk) ∧ (dk.length = l.length + 1) ∧ (DInv l dk ok) ∧ (CanL ok) ∧ (ok.length ≤ cntP dk) ∧ (∀ i : Int, n ≤ i → ix dk i = ix dn i) ∧ (Frm (fun g => vd.ownBlock = some g) w vo W vk) ∧ (vk.ownBlock ≠ some g1)) (fun ((k, ok, vk, dk, a, b, c, e) : Int × List Nd × Value × List Int × Int × Int × Int × Int) => (4 - k).toNat) ((0), (o), (vo), (dn), ((ix l (n - 1)).k0), ((ix l (n - 1)).k1), ((ix l (n - 1)).k2), ((ix l (n - 1)).k3)) ⟨hb12, ⟨by omega, by omega, fun _ => rfl⟩, st4_zero l (ix l (n - 1)) o, hB2, hO23, hO24, hdl0, hdi0, hcan0, hcnt0, fun _ _ => rfl, hF16, hn1⟩ sb ?_
  rintro ⟨k, ok, vk, dk, a, b, c, e⟩ w13 ⟨hb13, hk, hst, hBx, hOk, hDk, hdl, hdi, hcan, hcnt, hhi, hFk, hne⟩
  dsimp only at *
  have hz2 := hb13.size
  refine Zh (Zh (Zb (st (Zc rfl (st (Zbd rfl rfl (st (Zc rfl ?_))))))))
  refine Zax 40 rfl (fun h3 => ?_) (fun h3 => ?_)
  rotate_left
  ·refine Zj rfl rfl (Zj rfl rfl (Zj rfl rfl (st (Zr rfl rfl (Zg (Zd (Zbv rfl ?_)))))))
   refine Zak (Zk (Zk (Zs (Zd (Zh (Zb ?_))))))
   refine st (Zc rfl (st (Zp Za1 rfl hBx.range rfl (st (Zq fn74 rfl (find_any (x := (⟨(ix l (n - 1)).lv, a, b, c, e⟩ : Nd)) hOk.sl) ?_)))))
   rintro _ w21 ⟨hq2, rfl⟩
   have k20 := Zi hq2 none
   have hb21 := Zf hb13 k20
   have hz7 := hb21.size
   have hF25 := hFk.none k20
   have hO39 := hOk.g0 k20
   have hO40 := hDk.g0 k20
   refine st (Ze rfl (Zg (Zd (Zh (Zh (Zb (st (Zc rfl ?_))))))))
   refine st (Zbu rfl rfl (Zg (Zd ?_)))
   refine Zw rfl (fun h6 => ?_) (fun h6 => ?_)
   rotate_left
   ·refine Zo (Zd (Zh (Zb (st (Zc rfl (st (Zc rfl (st (Zc rfl ?_)))))))))
    refine st (Zdv sl65 rfl rfl hO40 om om ?_)
    intro g7 hg7 hl_8 hl_9
    refine st0 (Zcl Za9 rfl rfl rfl rfl hO40 hg7 om om ⟨rfl, trivial⟩ ?_)
    intro w25 hO47 k24 hs10
    have hb25 := belowa hb21 k24
    have hF29 := hF25.put k24 (by first | exact .inr om | exact .inl (by assumption) | exact .inl (.inl rfl) | exact .inl (.inr rfl) | exact .inl (.inr (.inl rfl)) | exact .inl (.inr (.inr rfl)))
    have hO48 := Own.keptF Zy hO39 k24 (by rw [← hg7]; exact hO39.ne_own hO40 dc)
    refine Zg (Zd (Zh (Zb (st (Zc rfl (st (Zc rfl (st (Zc rfl ?_)))))))))
    refine st (Ze rfl (st (Ze rfl (st (Ze rfl (Zg (Zd (Zlh rfl rfl rfl rfl ?_))))))))
    have hv0 : vis (tr l n) o = Zcj ok (⟨(ix l (n - 1)).lv, a, b, c, e⟩ : Nd) := Zjd hl_ok hn1p hn1b hst (if q : 1 < (ix l (n - 1)).lv then .inl ⟨by omega, q⟩ else .inr ⟨hk.2.2 q, q⟩)
    have hnz : (Zcj ok (⟨(ix l (n - 1)).lv, a, b, c, e⟩ : Nd)).2 ≠ 0 := by rw [← hv0]; intro e_; have := (Zb2 (tr l n) o).2.2.1 e_; rw [hemp.1] at this; cases this
    have hv : vis (tr l n) o = (ok, (Zf2 ok (⟨(ix l (n - 1)).lv, a, b, c, e⟩ : Nd))) := by rw [hv0, (Zjs hnz).2 h6]
    have hlo : 0 ≤ (Zf2 ok (⟨(ix l (n - 1)).lv, a, b, c, e⟩ : Nd)) := find_ge _ _
    have hs9 := Zgx (t := tr l n) o
    rw [hv] at hs9
    have hc9 := (Zc2 (tr l n) (Zi2 hl_ok n hn0 hn1b (ix l (n - 1)).lv (fun _ => rfl)) hcan0).1
    rw [hv] at hc9
    have hd9 := Ziy dk n.toNat ((Zf2 ok (⟨(ix l (n - 1)).lv, a, b, c, e⟩ : Nd))) om (by have := hhi n (Int.le_refl _); unfold ix at this; rw [this]; exact h2) om
    refine ⟨_, rfl, vk, _, ?_, hb25, ?_, hO47, ?_, ?_, ?_, ?_, fun i_ hi_ => ?_, fun e_ => ?_, hF29⟩
    ·rw [hv]
    ·rw [hv]; exact hO48
    ·rw [List.length_set]; exact hdl
    ·rw [hv]; exact Zk7 (Zjh hdi (by first | exact List.prefix_refl _ | exact List.prefix_append _ _)) hn0 om hs9
    ·rw [hv]; exact hc9
    ·rw [hv]; rw [hd9]; simp only; omega
    ·rw [ix_set _ _ _ _ hn0 om om, if_neg om]; exact hhi i_ om
    ·rw [hemp.1] at e_; cases e_
   refine Zh (Zb (st (Zc rfl (st (Zp Za1 rfl (hBx.g0 k20).range rfl (st (Zau (ps := [(0, .tmp 69)]) (ccs := [#[.int .i64 ((ix l (n - 1)).lv), .int .i64 a, .int .i64 b, .int .i64 c, .int .i64 e]]) (e := 101) (cells := [.int .i64 ((ix l (n - 1)).lv), .int .i64 a, .int .i64 b, .int .i64 c, .int .i64 e]) rfl rfl kr dc Zgw ?_)))))))
   intro g5 w22 hg5 hB6 k21 hs8
   have hb22 := Zf hb21 k21
   have hz8 := hb22.size
   have hF26 := hF25.none k21
   have hO41 := hO39.g0 k21
   have hO42 := hO40.g0 k21
   have hS2 := Zbl (F := fun _ => False) ([⟨(ix l (n - 1)).lv, a, b, c, e⟩] : List Nd) hB6 (fun h => h) rfl (by first | decide | simp)
   refine st (Za4 (K := Kd.node) Zaw rfl rfl hO41 (Zbl (F := Out (fun _ => False) vk) ([⟨(ix l (n - 1)).lv, a, b, c, e⟩] : List Nd) hB6 (fun h => h.elim id (fun h => by have h9 := (hO39.lt _ h).2; omega)) rfl (by first | decide | simp)) Zb6 (by have := cntP_le dk; simp; omega) (by have := cntP_le dk; simp; omega) (by first | exact Nat.le_refl _ | omega) (fun _ h => h.elim) ?_)
   intro v2 w23 hO43 k22 hr6
   have hn4 := Zdk hne hr6 (by have := ((hBx.g0 k20).g0 k21).lt; omega)
   have hb23 := hb22.grown k22 hb22.size (fun k_ hk_ => (hO41.lt k_ hk_).1)
   have hz9 := hb23.size
   have hF27 := hF26.row k22 hr6
   have hO44 := Own.keptF (Zkf _) hO42 k22 (hO42.ne_own hO41 dc)
   refine st (Ze rfl (Zg (Zd (Zb (st (Zc rfl (st (Zaq Zaw rfl hO43.sl (st (Ze rfl ?_))))))))))
   refine Zg (Zd (Zh (Zb (st (Zc rfl (st (Zc rfl (st (Zc rfl ?_)))))))))
   refine st (Zdv sl65 rfl rfl hO44 om om ?_)
   intro g6 hg6 hl_6 hl_7
   refine st0 (Zcl Za9 rfl rfl rfl rfl hO44 hg6 om om ⟨rfl, trivial⟩ ?_)
   intro w24 hO45 k23 hs9
   have hb24 := belowa hb23 k23
   have hF28 := hF27.put k23 (by first | exact .inr om | exact .inl (by assumption) | exact .inl (.inl rfl) | exact .inl (.inr rfl) | exact .inl (.inr (.inl rfl)) | exact .inl (.inr (.inr rfl)))
   have hO46 := Own.keptF Zy hO43 k23 (by rw [← hg6]; exact hO43.ne_own hO44 dc)
   refine Zg (Zd (Zh (Zb (st (Zc rfl (st (Zc rfl (st (Zc rfl ?_)))))))))
   refine st (Ze rfl (st (Ze rfl (st (Ze rfl (Zg (Zd (Zlh rfl rfl rfl rfl ?_))))))))
   have hv0 : vis (tr l n) o = Zcj ok (⟨(ix l (n - 1)).lv, a, b, c, e⟩ : Nd) := Zjd hl_ok hn1p hn1b hst (if q : 1 < (ix l (n - 1)).lv then .inl ⟨by omega, q⟩ else .inr ⟨hk.2.2 q, q⟩)
   have hnz : (Zcj ok (⟨(ix l (n - 1)).lv, a, b, c, e⟩ : Nd)).2 ≠ 0 := by rw [← hv0]; intro e_; have := (Zb2 (tr l n) o).2.2.1 e_; rw [hemp.1] at this; cases this
   have hv : vis (tr l n) o = (ok ++ ([⟨(ix l (n - 1)).lv, a, b, c, e⟩] : List Nd), ((ok ++ ([⟨(ix l (n - 1)).lv, a, b, c, e⟩] : List Nd)).length : Int)) := by rw [hv0, (Zjs hnz).1 h6]; simp
   have hlo : (((ok ++ ([⟨(ix l (n - 1)).lv, a, b, c, e⟩] : List Nd)).length : Nat) : Int) = (ok.length : Int) + 1 := by simp
   have hs9 := Zgx (t := tr l n) o
   rw [hv] at hs9
   have hc9 := (Zc2 (tr l n) (Zi2 hl_ok n hn0 hn1b (ix l (n - 1)).lv (fun _ => rfl)) hcan0).1
   rw [hv] at hc9
   have hd9 := Ziy dk n.toNat (((ok ++ ([⟨(ix l (n - 1)).lv, a, b, c, e⟩] : List Nd)).length : Int)) om (by have := hhi n (Int.le_refl _); unfold ix at this; rw [this]; exact h2) om
   refine ⟨_, rfl, v2, _, ?_, hb24, ?_, hO45, ?_, ?_, ?_, ?_, fun i_ hi_ => ?_, fun e_ => ?_, hF28⟩
   ·rw [hv]
   ·rw [hv]; exact hO46
   ·rw [List.length_set]; exact hdl
   ·rw [hv]; exact Zk7 (Zjh hdi (by first | exact List.prefix_refl _ | exact List.prefix_append _ _)) hn0 om hs9
   ·rw [hv]; exact hc9
   ·rw [hv]; rw [hd9]; simp only [List.length_append, List.length_singleton]; omega
   ·rw [ix_set _ _ _ _ hn0 om om, if_neg om]; exact hhi i_ om
   ·rw [hemp.1] at e_; cases e_
  refine stg (Zn Zaz rfl (stg (Zt Za9 rfl hBx.range (j := 0) rfl (stg (Zch rfl rfl (st (Zr rfl rfl (Zg (Zd ?_)))))))))
  refine Zw rfl (fun h4 => ?_) (fun h4 => ?_)
  ·refine Zo (Zd (Zh (Zz (Zb (st (Zc rfl (st (Zc rfl ?_))))))))
   refine st (Zc rfl (st (Zc rfl (st (Zn Zav rfl (st (Zbi Zb9 rfl rfl om om (st (Zc3 Za9 rfl hBx.range (j := 1) rfl rfl om om (st (Zc rfl (st (Zc rfl ?_)))))))))))))
   have hcn : (Zae a b c e k) = (ix l (n - 1)).kid k := st4_kid hst hk.1 om
   have hkr2 := hkr om k hk.1 om
   refine st (Zq fn39 rfl (ih (n := (Zae a b c e k)) om om om (hFr.trans hFk) hb13 hOk hDk hdl hdi hcan hcnt) ?_)
   rintro _ w14 ⟨vo1, dn1, rfl, hb14, hO25, hO26, hp1, hp2, hp3, hp4, hp5, hp6, hp7⟩
   have hz3 := hb14.size
   have hB3 := Blk.frm hBx hp7 (fun h_ => hxd h_) hne
   have hn2 := (hp7.2 _ hBx.lt (fun h_ => hxd h_) hne).2
   have hF18 := hFk.trans hp7
   refine st (Zc rfl (st (Zad rfl rfl (st (Zad rfl rfl (st (Zad rfl rfl (st (Ze rfl (st (Ze rfl (st (Zn Zav rfl ?_)))))))))))))
   refine st (Zbi Zb9 rfl rfl om om (st0 (Zda Za9 rfl rfl hB3 om om ?_)))
   intro w15 hB4 k14 hs4
   have hb15 := belowa hb14 k14
   have hF19 := hF18.put k14 (by first | exact .inr om | exact .inl (by assumption) | exact .inl (.inl rfl) | exact .inl (.inr rfl) | exact .inl (.inr (.inl rfl)) | exact .inl (.inr (.inr rfl)))
   have hO27 := Own.keptF (Zkf _) hO26 k14 (hO26.ne_blk hB3 dc)
   have hO28 := Own.keptN Zy hO25 k14 hn2
   clear hB3
   refine Zg (Zab (Zd (Zb (st (Zc rfl (st (Zah rfl rfl om (st (Ze rfl ?_)))))))))
   refine Zg ?_
   have hcn2 := hcn
   exact Zac (((k + 1)), ((vis (tr l ((Zae a b c e k))) ok).1), (vo1), (dn1), ((if k = 0 then (vis (tr l ((Zae a b c e k))) ok).2 else a)), ((if k = 1 then (vis (tr l ((Zae a b c e k))) ok).2 else b)), ((if k = 2 then (vis (tr l ((Zae a b c e k))) ok).2 else c)), ((if k = 3 then (vis (tr l ((Zae a b c e k))) ok).2 else e))) ⟨hb15, by dsimp only; omega, by dsimp only; rw [hcn]; exact st4_step hst hk.1 om rfl, hB4, hO28, hO27, hp1, hp2, hp3, hp4, fun i_ hi_ => (hp5 i_ om).trans (hhi i_ hi_), hF19, hn2⟩ om sb
  refine Zak (Zk (Zk (Zs (Zd (Zh (Zb ?_))))))
  refine st (Zc rfl (st (Zp Za1 rfl hBx.range rfl (st (Zq fn74 rfl (find_any (x := (⟨(ix l (n - 1)).lv, a, b, c, e⟩ : Nd)) hOk.sl) ?_)))))
  rintro _ w16 ⟨hq1, rfl⟩
  have k15 := Zi hq1 none
  have hb16 := Zf hb13 k15
  have hz4 := hb16.size
  have hF20 := hFk.none k15
  have hO29 := hOk.g0 k15
  have hO30 := hDk.g0 k15
  refine st (Ze rfl (Zg (Zd (Zh (Zh (Zb (st (Zc rfl ?_))))))))
  refine st (Zbu rfl rfl (Zg (Zd ?_)))
  refine Zw rfl (fun h5 => ?_) (fun h5 => ?_)
  rotate_left
  ·refine Zo (Zd (Zh (Zb (st (Zc rfl (st (Zc rfl (st (Zc rfl ?_)))))))))
   refine st (Zdv sl65 rfl rfl hO30 om om ?_)
   intro g4 hg4 hl_4 hl_5
   refine st0 (Zcl Za9 rfl rfl rfl rfl hO30 hg4 om om ⟨rfl, trivial⟩ ?_)
   intro w20 hO37 k19 hs7
   have hb20 := belowa hb16 k19
   have hF24 := hF20.put k19 (by first | exact .inr om | exact .inl (by assumption) | exact .inl (.inl rfl) | exact .inl (.inr rfl) | exact .inl (.inr (.inl rfl)) | exact .inl (.inr (.inr rfl)))
   have hO38 := Own.keptF Zy hO29 k19 (by rw [← hg4]; exact hO29.ne_own hO30 dc)
   refine Zg (Zd (Zh (Zb (st (Zc rfl (st (Zc rfl (st (Zc rfl ?_)))))))))
   refine st (Ze rfl (st (Ze rfl (st (Ze rfl (Zg (Zd (Zlh rfl rfl rfl rfl ?_))))))))
   have hv0 : vis (tr l n) o = Zcj ok (⟨(ix l (n - 1)).lv, a, b, c, e⟩ : Nd) := Zjd hl_ok hn1p hn1b hst (if q : 1 < (ix l (n - 1)).lv then .inl ⟨by omega, q⟩ else .inr ⟨hk.2.2 q, q⟩)
   have hnz : (Zcj ok (⟨(ix l (n - 1)).lv, a, b, c, e⟩ : Nd)).2 ≠ 0 := by rw [← hv0]; intro e_; have := (Zb2 (tr l n) o).2.2.1 e_; rw [hemp.1] at this; cases this
   have hv : vis (tr l n) o = (ok, (Zf2 ok (⟨(ix l (n - 1)).lv, a, b, c, e⟩ : Nd))) := by rw [hv0, (Zjs hnz).2 h5]
   have hlo : 0 ≤ (Zf2 ok (⟨(ix l (n - 1)).lv, a, b, c, e⟩ : Nd)) := find_ge _ _
   have hs9 := Zgx (t := tr l n) o
   rw [hv] at hs9
   have hc9 := (Zc2 (tr l n) (Zi2 hl_ok n hn0 hn1b (ix l (n - 1)).lv (fun _ => rfl)) hcan0).1
   rw [hv] at hc9
   have hd9 := Ziy dk n.toNat ((Zf2 ok (⟨(ix l (n - 1)).lv, a, b, c, e⟩ : Nd))) om (by have := hhi n (Int.le_refl _); unfold ix at this; rw [this]; exact h2) om
   refine ⟨_, rfl, vk, _, ?_, hb20, ?_, hO37, ?_, ?_, ?_, ?_, fun i_ hi_ => ?_, fun e_ => ?_, hF24⟩
   ·rw [hv]
   ·rw [hv]; exact hO38
   ·rw [List.length_set]; exact hdl
   ·rw [hv]; exact Zk7 (Zjh hdi (by first | exact List.prefix_refl _ | exact List.prefix_append _ _)) hn0 om hs9
   ·rw [hv]; exact hc9
   ·rw [hv]; rw [hd9]; simp only; omega
   ·rw [ix_set _ _ _ _ hn0 om om, if_neg om]; exact hhi i_ om
   ·rw [hemp.1] at e_; cases e_
  refine Zh (Zb (st (Zc rfl (st (Zp Za1 rfl (hBx.g0 k15).range rfl (st (Zau (ps := [(0, .tmp 69)]) (ccs := [#[.int .i64 ((ix l (n - 1)).lv), .int .i64 a, .int .i64 b, .int .i64 c, .int .i64 e]]) (e := 101) (cells := [.int .i64 ((ix l (n - 1)).lv), .int .i64 a, .int .i64 b, .int .i64 c, .int .i64 e]) rfl rfl kr dc Zgw ?_)))))))
  intro g2 w17 hg2 hB5 k16 hs5
  have hb17 := Zf hb16 k16
  have hz5 := hb17.size
  have hF21 := hF20.none k16
  have hO31 := hO29.g0 k16
  have hO32 := hO30.g0 k16
  have hS1 := Zbl (F := fun _ => False) ([⟨(ix l (n - 1)).lv, a, b, c, e⟩] : List Nd) hB5 (fun h => h) rfl (by first | decide | simp)
  refine st (Za4 (K := Kd.node) Zaw rfl rfl hO31 (Zbl (F := Out (fun _ => False) vk) ([⟨(ix l (n - 1)).lv, a, b, c, e⟩] : List Nd) hB5 (fun h => h.elim id (fun h => by have h9 := (hO29.lt _ h).2; omega)) rfl (by first | decide | simp)) Zb6 (by have := cntP_le dk; simp; omega) (by have := cntP_le dk; simp; omega) (by first | exact Nat.le_refl _ | omega) (fun _ h => h.elim) ?_)
  intro v1 w18 hO33 k17 hr5
  have hn3 := Zdk hne hr5 (by have := ((hBx.g0 k15).g0 k16).lt; omega)
  have hb18 := hb17.grown k17 hb17.size (fun k_ hk_ => (hO31.lt k_ hk_).1)
  have hz6 := hb18.size
  have hF22 := hF21.row k17 hr5
  have hO34 := Own.keptF (Zkf _) hO32 k17 (hO32.ne_own hO31 dc)
  refine st (Ze rfl (Zg (Zd (Zb (st (Zc rfl (st (Zaq Zaw rfl hO33.sl (st (Ze rfl ?_))))))))))
  refine Zg (Zd (Zh (Zb (st (Zc rfl (st (Zc rfl (st (Zc rfl ?_)))))))))
  refine st (Zdv sl65 rfl rfl hO34 om om ?_)
  intro g3 hg3 hl_2 hl_3
  refine st0 (Zcl Za9 rfl rfl rfl rfl hO34 hg3 om om ⟨rfl, trivial⟩ ?_)
  intro w19 hO35 k18 hs6
  have hb19 := belowa hb18 k18
  have hF23 := hF22.put k18 (by first | exact .inr om | exact .inl (by assumption) | exact .inl (.inl rfl) | exact .inl (.inr rfl) | exact .inl (.inr (.inl rfl)) | exact .inl (.inr (.inr rfl)))
  have hO36 := Own.keptF Zy hO33 k18 (by rw [← hg3]; exact hO33.ne_own hO34 dc)
  refine Zg (Zd (Zh (Zb (st (Zc rfl (st (Zc rfl (st (Zc rfl ?_)))))))))
  refine st (Ze rfl (st (Ze rfl (st (Ze rfl (Zg (Zd (Zlh rfl rfl rfl rfl ?_))))))))
  have hv0 : vis (tr l n) o = Zcj ok (⟨(ix l (n - 1)).lv, a, b, c, e⟩ : Nd) := Zjd hl_ok hn1p hn1b hst (if q : 1 < (ix l (n - 1)).lv then .inl ⟨by omega, q⟩ else .inr ⟨hk.2.2 q, q⟩)
  have hnz : (Zcj ok (⟨(ix l (n - 1)).lv, a, b, c, e⟩ : Nd)).2 ≠ 0 := by rw [← hv0]; intro e_; have := (Zb2 (tr l n) o).2.2.1 e_; rw [hemp.1] at this; cases this
  have hv : vis (tr l n) o = (ok ++ ([⟨(ix l (n - 1)).lv, a, b, c, e⟩] : List Nd), ((ok ++ ([⟨(ix l (n - 1)).lv, a, b, c, e⟩] : List Nd)).length : Int)) := by rw [hv0, (Zjs hnz).1 h5]; simp
  have hlo : (((ok ++ ([⟨(ix l (n - 1)).lv, a, b, c, e⟩] : List Nd)).length : Nat) : Int) = (ok.length : Int) + 1 := by simp
  have hs9 := Zgx (t := tr l n) o
  rw [hv] at hs9
  have hc9 := (Zc2 (tr l n) (Zi2 hl_ok n hn0 hn1b (ix l (n - 1)).lv (fun _ => rfl)) hcan0).1
  rw [hv] at hc9
  have hd9 := Ziy dk n.toNat (((ok ++ ([⟨(ix l (n - 1)).lv, a, b, c, e⟩] : List Nd)).length : Int)) om (by have := hhi n (Int.le_refl _); unfold ix at this; rw [this]; exact h2) om
  refine ⟨_, rfl, v1, _, ?_, hb19, ?_, hO35, ?_, ?_, ?_, ?_, fun i_ hi_ => ?_, fun e_ => ?_, hF23⟩
  ·rw [hv]
  ·rw [hv]; exact hO36
  ·rw [List.length_set]; exact hdl
  ·rw [hv]; exact Zk7 (Zjh hdi (by first | exact List.prefix_refl _ | exact List.prefix_append _ _)) hn0 om hs9
  ·rw [hv]; exact hc9
  ·rw [hv]; rw [hd9]; simp only [List.length_append, List.length_singleton]; omega
  ·rw [ix_set _ _ _ _ hn0 om om, if_neg om]; exact hhi i_ om
  ·rw [hemp.1] at e_; cases e_
end Go.Proofs.Ytfljelnfjbbknaa.Nd
namespace Go.Proofs.Ytfljelnfjbbknaa.Nd
open Go.RowKit Go.Gw
set_option maxHeartbeats 1000000 in
theorem emptiesO_any {va : Value} {l : List Nd} {F : Nat → Prop} {w : World} (hl : Sl Kd.node w F va l) (hl_ok : Zaf l = true) (hll : l.length ≤ 1000000) :
  Calls Try.prog 40 [va].toArray w (Zbh w fun v w' => Gw.Own Kd.bool 4 w.heap.size w' (fun _ => False) v (Zhi l)) := by
 have hb0 := Below.refl w.heap.size w
 have hln1 := hl.lenle
 refine enter Try.func40 rfl rfl (Zh (Zb (st (Ze rfl (Zg (Zd (Zh ?_)))))))
 refine Zb (st (Zc rfl (st (Zaq Zaw rfl (hl.at0 hb0) (st (Zah rfl rfl om (st (Zi5 (K := Kd.bool) (base := w.heap.size) (F := (fun _ => False)) Zcq rfl om om om (fun _ _ => ⟨rfl, trivial⟩) om (fun _ h => h.elim) ?_))))))))
 intro v1 w1 hO1 k1
 have hb1 := Zf hb0 k1
 have hz1 := hb1.size
 refine st (Ze rfl (Zg (Zd (Zh (Zb (st (Zc rfl (st (Zdv Zcq rfl rfl hO1 om (by first | (rw [List.length_replicate]; omega) | (rw [Zcn l i hi.1 om]; omega)) ?_)))))))))
 intro g1 hg1 hl_1 hl_2
 refine st0 (Zcl Zeg rfl rfl rfl rfl hO1 hg1 om (by first | (rw [List.length_replicate]; omega) | (rw [Zcn l i hi.1 om]; omega)) ⟨rfl, trivial⟩ ?_)
 intro w2 hO2 k2 hs1
 have hb2 := belowa hb1 k2
 refine Zg (Zd (Zh (Zh (Zb (st (Ze rfl (Zg ?_)))))))
 refine Zd (Zz (Za2 (α := Int) (fun (i : Int) => [(0, va), (2, .slice none 0 0), (3, v1), (4, .int .i64 i)]) (fun (i : Int) W => Below w.heap.size w W ∧ (0 ≤ i ∧ i ≤ l.length) ∧ (Gw.Own Kd.bool 4 w.heap.size W (fun _ => False) v1 (Zd5 l i))) (fun (i : Int) => (l.length - i).toNat) (0) ⟨hb2, by omega, by rw [← Zmi]; exact hO2⟩ sb ?_))
 rintro i w3 ⟨hb3, hi, hO⟩
 have hz2 := hb3.size
 refine Zh (Zh (Zb (st (Zc rfl (st (Zc rfl (st (Zaq Zaw rfl (hl.at0 hb3) (st (Zbd rfl rfl ?_))))))))))
 refine Zg (Zd ?_)
 refine Zw rfl (fun h1 => ?_) (fun h1 => ?_)
 rotate_left
 ·refine Zak (Zk (Zk (Zs (Zd (Zh (Zb ?_))))))
  refine st (Zc rfl (st (Ze rfl (Zg (Zd (Zaa rfl rfl ?_))))))
  have e : i = (l.length : Int) := by omega
  refine ⟨_, rfl, hb3, ?_⟩
  rw [← partE_end l, ← e]
  exact hO
 have hlt := h1
 refine Zo (Zd (Zh (Zz (Zh (Zb (st (Ze rfl ?_)))))))
 refine Zg (Zd (Zh (Zh (Zb (st (Ze rfl (Zg ?_)))))))
 refine Zd (Zz (Za2 (α := Int × Bool) (fun ((k, em) : Int × Bool) => [(0, va), (2, .slice none 0 0), (3, v1), (4, .int .i64 i), (5, .bool em), (6, .int .i64 k)]) (fun ((k, em) : Int × Bool) W => Below w.heap.size w W ∧ (0 ≤ k ∧ k ≤ 4) ∧ (em = emptK (ix l i) (Zd5 l i) k) ∧ (Gw.Own Kd.bool 4 w.heap.size W (fun _ => False) v1 (Zd5 l i))) (fun ((k, em) : Int × Bool) => (4 - k).toNat) ((0), (true)) ⟨hb3, by omega, by rw [Zmm], hO⟩ sb ?_))
 rintro ⟨k, em⟩ w4 ⟨hb4, hk, he, hO2⟩
 dsimp only at *
 have hz3 := hb4.size
 refine Zh (Zh (Zb (st (Zc rfl (st (Zbd rfl rfl (Zg (Zd ?_))))))))
 refine Zw rfl (fun h2 => ?_) (fun h2 => ?_)
 rotate_left
 ·refine Zak (Zk (Zk (Zs (Zd (Zb (st (Zc rfl ?_)))))))
  refine st (Zc rfl (st (Zah rfl rfl om (st (Zc rfl (st (Zdv Zcq rfl rfl hO2 om (by first | (rw [List.length_replicate]; omega) | (rw [Zcn l i hi.1 om]; omega)) ?_)))))))
  intro g2 hg2 hl_5 hl_6
  refine st0 (Zcl Zeg rfl rfl rfl rfl hO2 hg2 om (by first | (rw [List.length_replicate]; omega) | (rw [Zcn l i hi.1 om]; omega)) ⟨rfl, trivial⟩ ?_)
  intro w5 hO3 k3 hs2
  have hb5 := belowa hb4 k3
  refine Zg (Zab (Zd (Zb (st (Zc rfl (st (Zah rfl rfl om (st (Ze rfl ?_)))))))))
  refine Zg ?_
  exact Zac ((i + 1)) ⟨hb5, by omega, by rw [← partE_set l i hi.1 hlt (Zh2 hl_ok hi.1 hlt) (Ze9 hl_ok hi.1 hlt).1, show (4 : Int) = k by omega, ← he]; exact hO3⟩ om sb
 refine Zo (Zd (Zh (Zz (Zh (Zb (st (Zc rfl ?_)))))))
 refine st (Zc rfl (st (Zc rfl (st (Zat Zaw rfl rfl (hl.at0 hb4) om om ?_)))))
 rintro b1 o1 _ ⟨rfl, _⟩ hc1 hF1 hlt1
 have hl_3 := Loc.lt hF1
 refine st (Zn Zav rfl (st (Zbi Zb9 rfl rfl om om (st (Zc3 Za9 rfl hc1 (j := 1) rfl rfl om om (st (Ze rfl (Zg (Zd (Zb ?_))))))))))
 refine st (Zc rfl (st (Zc rfl ?_)))
 refine Zd7 32 rfl (fun h3 => ?_) (fun h3 => ?_)
 rotate_left
 ·refine Zj rfl rfl (Zj rfl rfl (Zj rfl rfl (Zal rfl rfl (Zal rfl rfl (Zal rfl rfl (Zal rfl rfl ?_))))))
  refine Zal rfl rfl (Zal rfl rfl (Zal rfl rfl (Zal rfl rfl (Zal rfl rfl (Zal rfl rfl (Zal rfl rfl ?_))))))
  refine Zal rfl rfl (Zj rfl rfl (st (Zr rfl rfl (st (Ze rfl (Zg (Zab (Zd ?_))))))))
  refine Zb (st (Zc rfl (st (Zah rfl rfl om (st (Ze rfl (Zg ?_)))))))
  exact Zac (((k + 1)), (false)) ⟨hb4, by omega, by rw [Zeh _ _ _ hk.1 om, ← he]; simp [Nd.kid, h1, h2, h3], hO2⟩ om sb
 refine stg (Zc rfl (stg (Zbu rfl rfl (stg (Zc rfl ?_)))))
 refine Zax 35 rfl (fun h4 => ?_) (fun h4 => ?_)
 ·refine Zj rfl rfl (Zj rfl rfl (Zj rfl rfl (Zj rfl rfl (Zj rfl rfl (Zj rfl rfl (Zj rfl rfl ?_))))))
  refine Zal rfl rfl (Zal rfl rfl (Zal rfl rfl (Zal rfl rfl (Zj rfl rfl (stg (Zr rfl rfl (st (Zr rfl rfl ?_))))))))
  refine st (Ze rfl (Zg (Zab (Zd (Zb (st (Zc rfl (st (Zah rfl rfl om ?_)))))))))
  refine st (Ze rfl (Zg ?_))
  exact Zac (((k + 1)), (true)) ⟨hb4, by omega, by rw [Zeh _ _ _ hk.1 om, ← he]; simp [Nd.kid, h1, h2, h3, h4], hO2⟩ om sb
 refine stg (Zc rfl (stg (Zc rfl (stg (Zat Zaw rfl rfl (hl.at0 hb4) om om ?_)))))
 rintro b2 o2 _ ⟨rfl, _⟩ hc2 hF2 hlt2
 have hl_4 := Loc.lt hF2
 refine stg (Zn Zaz rfl (stg (Zt Za9 rfl hc2 (j := 0) rfl (stg (Zch rfl rfl (stg (Zc rfl ?_)))))))
 refine Zax 42 rfl (fun h5 => ?_) (fun h5 => ?_)
 rotate_left
 ·refine Zj rfl rfl (Zj rfl rfl (Zj rfl rfl (Zj rfl rfl (stg (Zr rfl rfl (stg (Zr rfl rfl (st (Zr rfl rfl ?_)))))))))
  refine st (Ze rfl (Zg (Zab (Zd (Zb (st (Zc rfl (st (Zah rfl rfl om ?_)))))))))
  refine st (Ze rfl (Zg ?_))
  exact Zac (((k + 1)), (false)) ⟨hb4, by omega, by rw [Zeh _ _ _ hk.1 om, ← he]; simp [Nd.kid, h2, h3, h4, h5], hO2⟩ om sb
 have hkid := Zdm hl_ok (i := i) (k := k) hi.1 hlt hk.1 om om (by simpa [Nd.kid] using h4)
 unfold Nd.kid at hkid
 have hpl := Zcn l i hi.1 om
 refine stg (Zc rfl (stg (Zc rfl (stg (Zat Zcq rfl rfl hO2.sl om om ?_)))))
 rintro b3 o3 _ ⟨rfl, _⟩ hc3 hF3 hlt3
 refine stg (Zt Zeg rfl hc3 (j := 0) rfl (stg (Zr rfl rfl (stg (Zr rfl rfl (st (Zr rfl rfl (st (Ze rfl (Zg (Zab ?_)))))))))))
 refine Zd (Zb (st (Zc rfl (st (Zah rfl rfl om (st (Ze rfl (Zg ?_))))))))
 exact Zac (((k + 1)), ((ix (Zd5 l i) (Zae ((ix l i).k0) ((ix l i).k1) ((ix l i).k2) ((ix l i).k3) k)))) ⟨hb4, by omega, by rw [Zeh _ _ _ hk.1 om, ← he]; simp [Nd.kid, h2, h3, h4, h5], hO2⟩ om sb
set_option maxHeartbeats 1000000 in
theorem rof_any {va : Value} {l : List Nd} {F : Nat → Prop} {w : World} (hl : Sl Kd.node w F va l) {n : Int} (hll : l.length ≤ 100000) :
  Calls Try.prog 11 [va, .int .i64 n].toArray w (Zbh w fun v w' => ∃ sv, v = .tuple #[.agg #[sv], .int .i64 (ofL l n).2] ∧ Sl Kd.node w' (fun _ => False) sv (ofL l n).1) := by
 have hb0 := Below.refl w.heap.size w
 have hln1 := hl.lenle
 refine enter Try.func11 rfl rfl (Zh (Zb (st (Zan Zez ?_))))
 intro g1 w1 hg1 hB1 k1 hs1
 have hz1 := hb0.size
 have hb1 := Zf hb0 k1
 refine st (Ze rfl (Zg (Zd (Zh (Zh (Zb (st (Zc rfl ?_))))))))
 refine st (Zq fn37 rfl (Zmv (hl.at0 hb1)) ?_)
 rintro _ w2 ⟨hq1, rfl⟩
 have k2 := Zi hq1 none
 have hz2 := hq1.size
 have hb2 := Zf hb1 k2
 have hz3 := hb2.size
 refine st (Zdd rfl (st (Zc rfl ?_)))
 refine Zd7 14 rfl (fun h1 => ?_) (fun h1 => ?_)
 ·refine Zj rfl rfl (Zj rfl rfl (st (Zr rfl rfl (st (Zc rfl (Zj rfl rfl (Zj rfl rfl (Zj rfl rfl ?_))))))))
  refine Zj rfl rfl (st (Zr rfl rfl (Zg (Zd (Zb0 rfl (Zh (Zb ?_)))))))
  refine st (Zbe (ps := []) (ccs := []) (cells := [.slice none 0 0]) rfl rfl kr (st0 (Zv Za6 rfl rfl (hB1.g0 k2) rfl rfl rfl ?_)))
  intro w3 hB2 k3 hs2
  have hb3 := belowa hb2 k3
  refine st (Ze rfl (Zg (Zd (Zcg rfl Za6 rfl rfl hB2.range rfl ?_))))
  refine ⟨_, rfl, hb3, .slice none 0 0, ?_, ?_⟩
  ·rw [Zgy (by first | exact .inl (by simpa using h1) | exact .inr om)]
  ·rw [Zgy (by first | exact .inl (by simpa using h1) | exact .inr om)]; exact (Own.nil Kd.node 101 0 _ _).sl
 have hl_ok : Zaf l = true := by simpa using h1
 refine stg (Zc rfl (stg (Zbd rfl rfl (st (Zr rfl rfl (st (Zc rfl ?_)))))))
 refine Zax 18 rfl (fun h2 => ?_) (fun h2 => ?_)
 ·refine Zj rfl rfl (Zj rfl rfl (Zj rfl rfl (Zj rfl rfl (st (Zr rfl rfl (Zg (Zd ?_)))))))
  refine Zb0 rfl (Zh (Zb (st (Zbe (ps := []) (ccs := []) (cells := [.slice none 0 0]) rfl rfl kr (st0 (Zv Za6 rfl rfl (hB1.g0 k2) rfl rfl rfl ?_))))))
  intro w4 hB3 k4 hs3
  have hb4 := belowa hb2 k4
  refine st (Ze rfl (Zg (Zd (Zcg rfl Za6 rfl rfl hB3.range rfl ?_))))
  refine ⟨_, rfl, hb4, .slice none 0 0, ?_, ?_⟩
  ·rw [Zgy (by first | exact .inl (by simpa using h1) | exact .inr om)]
  ·rw [Zgy (by first | exact .inl (by simpa using h1) | exact .inr om)]; exact (Own.nil Kd.node 101 0 _ _).sl
 refine stg (Zc rfl (stg (Zc rfl (stg (Zaq Zaw rfl (hl.at0 hb2) (stg (Zch rfl rfl (st (Zr rfl rfl (Zg (Zd ?_)))))))))))
 refine Zw rfl (fun h3 => ?_) (fun h3 => ?_)
 ·refine Zh (Zb (st (Zbe (ps := []) (ccs := []) (cells := [.slice none 0 0]) rfl rfl kr (st0 (Zv Za6 rfl rfl (hB1.g0 k2) rfl rfl rfl ?_)))))
  intro w5 hB4 k5 hs4
  have hb5 := belowa hb2 k5
  refine st (Ze rfl (Zg (Zd (Zcg rfl Za6 rfl rfl hB4.range rfl ?_))))
  refine ⟨_, rfl, hb5, .slice none 0 0, ?_, ?_⟩
  ·rw [Zgy (by first | exact .inl (by simpa using h1) | exact .inr om)]
  ·rw [Zgy (by first | exact .inl (by simpa using h1) | exact .inr om)]; exact (Own.nil Kd.node 101 0 _ _).sl
 refine Zo (Zd (Zh (Zb (st (Zc rfl (st (Zc rfl (st (Zq fn38 rfl (rshrink_any (n0 := n) (hl.at0 hb2) hl_ok hll om om) ?_)))))))))
 rintro _ w6 ⟨hq2, L1, n1, v1, rfl, hS1, hLok1, hn1, hn2, hT1, hH1, hLl1⟩
 have k6 := Zi hq2 none
 have hz4 := hq2.size
 have hO1 := Own.rebase hS1 hb2.size
 have hb6 := Zf hb2 k6
 have hz5 := hb6.size
 have hlen9 := Zej L1
 refine st (Zc rfl (st (Zad rfl rfl (st (Zad rfl rfl (st (Ze rfl (st (Ze rfl (Zg (Zd ?_)))))))))))
 refine Zh ?_
 refine w_drawC 15 (fun a b => Below w6.heap.size a b) (Big0 w6.heap.size) (fun a b => Below w6.heap.size a b) [(some 32, fun v _ => v = v1), (some 33, fun v _ => v = v1), (some 34, fun v W => Gw.Own Kd.bool 4 w6.heap.size W (fun _ => False) v (Zhi L1)), (some 35, fun v _ => v = .int .i64 n1), (some 36, fun v _ => v = v1), (some 37, fun v _ => v = .int .i64 (L1.length : Int)), (some 38, fun v _ => v = .int .i64 ((L1.length : Int) + 1)), (some 39, fun v W => Gw.Own (Kd.num .i64) 3 w6.heap.size W (fun _ => False) v (List.replicate (((L1.length : Int) + 1)).toNat 0)), (some 40, fun v W => ∃ s_ d_, v = .tuple #[s_, d_, .int .i64 (vis (tr L1 n1) []).2] ∧ Gw.Own Kd.node 101 w6.heap.size W (fun _ => False) s_ (vis (tr L1 n1) []).1), (some 31, fun v W => ∃ s_ d_, v = .tuple #[s_, d_, .int .i64 (vis (tr L1 n1) []).2] ∧ Gw.Own Kd.node 101 w6.heap.size W (fun _ => False) s_ (vis (tr L1 n1) []).1), (some 41, fun v W => Gw.Own Kd.node 101 w6.heap.size W (fun _ => False) v ((vis (tr L1 n1) []).1)), (some 42, fun _ _ => True), (some 43, fun v _ => v = .int .i64 (vis (tr L1 n1) []).2), (some 8, fun v W => Gw.Own Kd.node 101 w6.heap.size W (fun _ => False) v ((vis (tr L1 n1) []).1)), (some 9, fun _ _ => True)] [[], [], [1], [], [], [4], [5], [6], [0, 2, 3, 7], [8], [9], [9], [9], [10], [11]] [[], [], [], [], [], [], [], [], [], [8], [9, 8], [], [], [10, 9, 8], []] [[], [], [8], [], [], [], [], [8], [], [], [], [], [], [], []] [false, false, false, false, false, false, false, false, true, false, false, false, false, false, false] [true, true, false, true, true, true, true, false, false, false, false, true, true, false, true] [(4, (pp g1)), (5, .int .i64 0), (6, v1), (7, .int .i64 n1)] sb kr kr kr rfl (Below.refl _) (fun _ _ _ h k => h.trans k) (fun _ _ h => h.below) (fun _ _ h => h) ⟨fun _ _ _ h _ => by exact h, fun _ _ _ h _ => by exact h, fun _ _ _ h _ => by exact h, fun _ _ _ h _ => by exact h, fun _ _ _ h k => h.g0 k.2, fun _ _ _ h _ => by exact h, fun _ _ _ h _ => by exact h, fun _ _ _ h _ => by exact h, fun _ _ _ h _ => by exact h, fun _ _ _ h _ => by exact h, fun _ _ _ h _ => by exact h, fun _ _ _ h _ => by exact h, fun _ _ _ h _ => by exact h, fun _ _ _ h k => h.g0 k.2, fun _ _ _ h k => by obtain ⟨s_, d_, e_, h_⟩ := h; exact ⟨s_, d_, e_, h_.g0 k.2⟩, fun _ _ _ h k => by obtain ⟨s_, d_, e_, h_⟩ := h; exact ⟨s_, d_, e_, h_.g0 k.2⟩, fun _ _ _ h k => h.g0 k.2, fun _ _ _ h _ => by exact h, fun _ _ _ h _ => by exact h, fun _ _ _ h _ => by exact h, fun _ _ _ h _ => by exact h, fun _ _ _ h k => h.g0 k.2, fun _ _ _ h _ => by exact h, fun _ _ _ h _ => by exact h, trivial⟩ ?_
 intro w7 k7 hs5
 have hb7 := Zf hb6 k7
 have hO2 := hO1.g0 k7
 refine ⟨⟨?_, ?_, ?_, ?_, ?_, ?_, ?_, ?_, ?_, ?_, ?_, ?_, ?_, ?_, ?_, trivial⟩, ?_⟩
 ·intro w8z_ kb_
  have kg_ := Zi (show Below w7.heap.size w7 w8z_ by rw [hs5]; exact kb_) none
  have hb_ := Zf hb7 kg_
  have hz_ := hb_.size
  have he_ := kb_.size
  exact op1 (Zc rfl ⟨rfl, ⟨by omega, World.grownBy.refl _ _⟩⟩)
 ·intro w8z_ kb_
  have kg_ := Zi (show Below w7.heap.size w7 w8z_ by rw [hs5]; exact kb_) none
  have hb_ := Zf hb7 kg_
  have hz_ := hb_.size
  have he_ := kb_.size
  exact op1 (Zc rfl ⟨rfl, ⟨by omega, World.grownBy.refl _ _⟩⟩)
 ·intro w8z_ kb_
  have kg_ := Zi (show Below w7.heap.size w7 w8z_ by rw [hs5]; exact kb_) none
  have hb_ := Zf hb7 kg_
  have hz_ := hb_.size
  have he_ := kb_.size
  intro v_ hv_; subst v_
  refine op1 (Zq fn40 rfl (emptiesO_any (hO2.g0 kg_).sl hLok1 om) ?_)
  rintro vz_ wz_ ⟨hqz_, hSz_⟩
  exact ⟨hSz_.rebase om, ⟨by omega, Zi hqz_ none⟩⟩
 ·intro w8z_ kb_
  have kg_ := Zi (show Below w7.heap.size w7 w8z_ by rw [hs5]; exact kb_) none
  have hb_ := Zf hb7 kg_
  have hz_ := hb_.size
  have he_ := kb_.size
  exact op1 (Zc rfl ⟨rfl, ⟨by omega, World.grownBy.refl _ _⟩⟩)
 ·intro w8z_ kb_
  have kg_ := Zi (show Below w7.heap.size w7 w8z_ by rw [hs5]; exact kb_) none
  have hb_ := Zf hb7 kg_
  have hz_ := hb_.size
  have he_ := kb_.size
  exact op1 (Zc rfl ⟨rfl, ⟨by omega, World.grownBy.refl _ _⟩⟩)
 ·intro w8z_ kb_
  have kg_ := Zi (show Below w7.heap.size w7 w8z_ by rw [hs5]; exact kb_) none
  have hb_ := Zf hb7 kg_
  have hz_ := hb_.size
  have he_ := kb_.size
  intro v_ hv_; subst v_
  exact op1 (Zaq Zaw rfl (hO2.g0 kg_).sl ⟨rfl, ⟨by omega, World.grownBy.refl _ _⟩⟩)
 ·intro w8z_ kb_
  have kg_ := Zi (show Below w7.heap.size w7 w8z_ by rw [hs5]; exact kb_) none
  have hb_ := Zf hb7 kg_
  have hz_ := hb_.size
  have he_ := kb_.size
  rintro _ rfl
  exact op1 (Zah rfl rfl om ⟨rfl, ⟨by omega, World.grownBy.refl _ _⟩⟩)
 ·intro w8z_ kb_
  have kg_ := Zi (show Below w7.heap.size w7 w8z_ by rw [hs5]; exact kb_) none
  have hb_ := Zf hb7 kg_
  have hz_ := hb_.size
  have he_ := kb_.size
  rintro _ rfl
  refine op1 (Zi5 (K := (Kd.num .i64)) (base := w6.heap.size) (F := fun _ => False) sl65 rfl om om om (fun _ _ => ⟨rfl, trivial⟩) om (fun _ h => h.elim) ?_)
  intro vz_ wz_ hz_ kz_
  exact ⟨hz_, ⟨by omega, kz_⟩⟩
 ·intro w8z_ kb_
  have kg_ := Zi (show Below w7.heap.size w7 w8z_ by rw [hs5]; exact kb_) none
  have hb_ := Zf hb7 kg_
  have hz_ := hb_.size
  have he_ := kb_.size
  intro v_ hv_; subst v_
  rintro vez_ hez_ _ rfl vdz_ hdz_
  refine op1 (Zq fn39 rfl (visit_any (a0 := w7) (a1 := w8z_) hO2.sl (hez_.sl_ne Zft (hez_.ne_own hdz_ dc)) hLok1 om (L1.length + 1) (n := n1) om om om (Frm.refl _ _ _) (by rw [hs5]; exact kb_) (Own.nil _ _ _ _ _) (by rw [hs5]; exact hdz_) (by rw [List.length_replicate]; omega) (dinv_none _ _) Zg5 (Nat.zero_le _)) ?_)
  rintro _ wz_ ⟨vz_, dz_, rfl, hbz_, hOz_, _, _, _, _, _, _, _, hfz_⟩
  have hsz_ := hfz_.1
  rw [hs5] at hbz_ hOz_
  exact ⟨⟨vz_, _, rfl, hOz_⟩, below_of kb_ hbz_⟩
 ·intro w8z_ kb_
  have kg_ := Zi (show Below w7.heap.size w7 w8z_ by rw [hs5]; exact kb_) none
  have hb_ := Zf hb7 kg_
  have hz_ := hb_.size
  have he_ := kb_.size
  intro vz_ hz_
  exact op1 (Zc rfl ⟨hz_, ⟨by omega, World.grownBy.refl _ _⟩⟩)
 ·intro w8z_ kb_
  have kg_ := Zi (show Below w7.heap.size w7 w8z_ by rw [hs5]; exact kb_) none
  have hb_ := Zf hb7 kg_
  have hz_ := hb_.size
  have he_ := kb_.size
  rintro _ ⟨s_, d_, rfl, hO_⟩
  exact op1 (Zad rfl rfl ⟨hO_, ⟨by omega, World.grownBy.refl _ _⟩⟩)
 ·intro w8z_ kb_
  have kg_ := Zi (show Below w7.heap.size w7 w8z_ by rw [hs5]; exact kb_) none
  have hb_ := Zf hb7 kg_
  have hz_ := hb_.size
  have he_ := kb_.size
  rintro _ ⟨s_, d_, rfl, hO_⟩
  exact op1 (Zad rfl rfl ⟨trivial, ⟨by omega, World.grownBy.refl _ _⟩⟩)
 ·intro w8z_ kb_
  have kg_ := Zi (show Below w7.heap.size w7 w8z_ by rw [hs5]; exact kb_) none
  have hb_ := Zf hb7 kg_
  have hz_ := hb_.size
  have he_ := kb_.size
  rintro _ ⟨s_, d_, rfl, hO_⟩
  exact op1 (Zad rfl rfl ⟨rfl, ⟨by omega, World.grownBy.refl _ _⟩⟩)
 ·intro w8z_ kb_
  have kg_ := Zi (show Below w7.heap.size w7 w8z_ by rw [hs5]; exact kb_) none
  have hb_ := Zf hb7 kg_
  have hz_ := hb_.size
  have he_ := kb_.size
  intro vz_ hz_
  exact op1 (Ze rfl ⟨hz_, ⟨by omega, World.grownBy.refl _ _⟩⟩)
 ·intro w8z_ kb_
  have kg_ := Zi (show Below w7.heap.size w7 w8z_ by rw [hs5]; exact kb_) none
  have hb_ := Zf hb7 kg_
  have hz_ := hb_.size
  have he_ := kb_.size
  intro vz_ _
  exact op1 (Ze rfl ⟨trivial, ⟨by omega, World.grownBy.refl _ _⟩⟩)
 intro w8 kb
 have k8 := Zi (show Below w7.heap.size w7 w8 by rw [hs5]; exact kb) none
 have hb8 := Zf hb7 k8
 have hz6 := hb8.size
 intro v_ hv_; subst v_
 intro v_ hv_; subst v_
 rintro v42 _ _ rfl
 intro v_ hv_; subst v_
 rintro _ rfl _ rfl v43 _ v44 h44 v45 h45 v46 h46 v47 _ _ rfl v48 h48 v49 _
 refine st (Ze rfl (Zg (Zd (Zh (Zb (st (Zc rfl (st (Zbe (ps := [(0, .tmp 44)]) (ccs := [#[v48]]) (cells := [v48]) rfl (by simp only [List.map_cons, List.map_nil, h48.cells1] <;> rfl) kr ?_)))))))))
 refine st0 (Zv Za6 rfl rfl ((((hB1.g0 k2).g0 k6).g0 k7).g0 k8) (by simp only [List.all_cons, List.all_nil, h48.one, Bool.and_true, Bool.and_self] <;> rfl) rfl rfl ?_)
 intro w9 hB5 k9 hs6
 have hb9 := belowa hb8 k9
 have hO3 := Own.keptF Zy h48 k9 (h48.ne_blk ((((hB1.g0 k2).g0 k6).g0 k7).g0 k8) dc)
 refine st (Ze rfl (Zg (Zd (Zcg rfl Za6 rfl rfl hB5.range rfl ?_))))
 refine ⟨_, rfl, hb9, v48, ?_, ?_⟩
 ·rw [Zi6 hl_ok om om]
 ·rw [Zi6 hl_ok om om, canT, ← hT1]; exact hO3.sl
end Go.Proofs.Ytfljelnfjbbknaa.Nd
namespace Go.Proofs.Ytfljelnfjbbknaa.Lm
open Go.RowKit Go.Gw
set_option maxHeartbeats 1000000 in
theorem of7_any {w : World} {F : Nat → Prop} {va : Value} {l : List RCl} {n0 : Nat} (hn0 : n0 ≤ w.heap.size) (hl : Sl (Kd.rcell 83 n0) w F va l) (hcb : CBd (l.map Za8)) (hll : l.length ≤ 75) :
  Calls Try.prog 36 [va].toArray w (Zbh w fun r W => ∃ sv, r = .tuple #[.agg #[sv], .int .i64 (ofR l).2] ∧ Sl Kd.node W (fun _ => False) sv (ofR l).1) := by
 have hb0 := Below.refl w.heap.size w
 have hln1 := hl.lenle
 refine enter Try.func36 rfl rfl (Zh (Zb (st (Zan Zez ?_))))
 intro g1 w1 hg1 hB1 k1 hs1
 have hz1 := hb0.size
 have hb1 := Zf hb0 k1
 refine st (Ze rfl (Zg (Zd (Zh (Zh (Zb (st (Ze rfl ?_))))))))
 refine Zg (Zd (Zz (Za2 (α := Int) (fun (i : Int) => [(0, va), (2, (pp g1)), (4, .int .i64 i)]) (fun (i : Int) W => Below w.heap.size w W ∧ (0 ≤ i ∧ i ≤ l.length) ∧ (∀ j : Int, 0 ≤ j → j < i → Zfj (ix l j) = true) ∧ (Blk W g1 25 [.slice none 0 0].toArray)) (fun (i : Int) => (l.length - i).toNat) (0) ⟨hb1, by omega, fun j _ _ => by omega, hB1⟩ sb ?_)))
 rintro i w2 ⟨hb2, hi, hr, hBl1⟩
 have hz2 := hb2.size
 refine Zh (Zh (Zb (st (Zc rfl (st (Zc rfl (st (Zaq Zct rfl (hl.at0 hb2) (st (Zbd rfl rfl ?_))))))))))
 refine Zg (Zd ?_)
 refine Zw rfl (fun h1 => ?_) (fun h1 => ?_)
 ·have hlti := h1
  refine Zo (Zd (Zh (Zz (Zh (Zb (st (Zc rfl ?_)))))))
  refine st (Zc rfl (st (Zat Zct rfl rfl (hl.at0 hb2) om om ?_)))
  rintro b1 o1 _ ⟨ca1, cb1, rfl, hca1, hcb1, hcs1⟩ hc1 hF1 hlt1
  replace hca1 := hca1.ofGF
  replace hcb1 := hcb1.ofGF
  have hl_1 := Loc.lt hF1
  refine st (Zn Zc4 rfl (st (Zbf (us := [.bool ((ix l i).xn), ca1]) Zx rfl hc1 (j := 0) rfl rfl (st (Zq fn27 rfl (Zhb (hca1).none) ?_)))))
  rintro _ w3 ⟨hq1, rfl⟩
  have k2 := Zi hq1 none
  have hz3 := hq1.size
  have hb3 := Zf hb2 k2
  have hz4 := hb3.size
  refine st (Zdd rfl (st (Zc rfl ?_)))
  refine Zd7 24 rfl (fun h2 => ?_) (fun h2 => ?_)
  ·refine Zj rfl rfl (Zj rfl rfl (Zj rfl rfl (Zj rfl rfl (Zj rfl rfl (Zj rfl rfl (Zj rfl rfl ?_))))))
   refine st (Zr rfl rfl (Zg (Zd (Zb0 rfl (Zh (Zb (st (Zbe (ps := []) (ccs := []) (cells := [.slice none 0 0]) rfl rfl kr ?_))))))))
   refine st0 (Zv Za6 rfl rfl (hBl1.g0 k2) rfl rfl rfl ?_)
   intro w4 hB2 k3 hs2
   have hb4 := belowa hb3 k3
   refine st (Ze rfl (Zg (Zd (Zcg rfl Za6 rfl rfl hB2.range rfl ?_))))
   refine ⟨_, rfl, hb4, ?_⟩
   have hbad : Zfj (ix l i) = false := by unfold Zfj; simp_all
   rw [show ofR l = ([], 1) from by unfold ofR; rw [if_neg (fun h9_ => by have := List.all_eq_true.1 h9_ _ (ix_memR hi.1 hlti); rw [hbad] at this; cases this)]]
   exact ⟨_, rfl, Sl.nil0⟩
  refine stg (Zc rfl (stg (Zc rfl (stg (Zat Zct rfl rfl (hl.at0 hb3) om om ?_)))))
  rintro b2 o2 _ ⟨ca2, cb2, rfl, hca2, hcb2, hcs2⟩ hc2 hF2 hlt2
  replace hca2 := hca2.ofGF
  replace hcb2 := hcb2.ofGF
  have hl_2 := Loc.lt hF2
  refine stg (Zn Zd0 rfl (stg (Zbf (us := [.bool ((ix l i).yn), cb2]) Zx rfl hc2 (j := 2) rfl rfl (stg (Zq fn27 rfl (Zhb (hcb2).none) ?_)))))
  rintro _ w5 ⟨hq2, rfl⟩
  have k4 := Zi hq2 none
  have hz5 := hq2.size
  have hb5 := Zf hb3 k4
  have hz6 := hb5.size
  refine stg (Zdd rfl (st (Zr rfl rfl (Zg (Zd ?_)))))
  refine Zba rfl (fun h3 => ?_) (fun h3 => ?_)
  rotate_left
  ·refine Zo (Zab (Zd (Zb (st (Zc rfl (st (Zah rfl rfl om (st (Ze rfl ?_)))))))))
   refine Zg ?_
   exact Zac ((i + 1)) ⟨hb5, by omega, fun j j0 j1 => if e : j = i then by rw [e]; unfold Zfj; simp_all else hr j j0 om, ((hBl1.g0 k2).g0 k4)⟩ om sb
  refine Zh (Zb (st (Zbe (ps := []) (ccs := []) (cells := [.slice none 0 0]) rfl rfl kr (st0 (Zv Za6 rfl rfl ((hBl1.g0 k2).g0 k4) rfl rfl rfl ?_)))))
  intro w6 hB3 k5 hs3
  have hb6 := belowa hb5 k5
  refine st (Ze rfl (Zg (Zd (Zcg rfl Za6 rfl rfl hB3.range rfl ?_))))
  refine ⟨_, rfl, hb6, ?_⟩
  have hbad : Zfj (ix l i) = false := by unfold Zfj; simp_all
  rw [show ofR l = ([], 1) from by unfold ofR; rw [if_neg (fun h9_ => by have := List.all_eq_true.1 h9_ _ (ix_memR hi.1 hlti); rw [hbad] at this; cases this)]]
  exact ⟨_, rfl, Sl.nil0⟩
 refine Zak (Zk (Zk (Zs (Zd (Zh (Zb ?_))))))
 refine st (Zc rfl ?_)
 have hall := all_right (by omega : i = (l.length : Int)) hr
 have hlc := cells_right hl hall
 refine st (Zq fn19 rfl (last_any (n0 := n0) (Zu hn0 hb2) (hlc.at0 hb2) hcb (by simp; omega)) ?_)
 rintro v1 w7 ⟨hq3, hO1⟩
 have k6 := Zi hq3 none
 have hz7 := hq3.size
 have hb7 := Zf hb2 k6
 have hz8 := hb7.size
 have hO2 := hO1.rebase (b' := w.heap.size) hb2.size
 have hcs := cbd_lastL hcb
 have hls := lastL_len (l.map Za8)
 rw [List.length_map] at hls
 refine st (Ze rfl (Zg (Zd (Zh (Zb (st (Ze rfl (Zg ?_))))))))
 refine Zd (Zh (Zh (Zb (st (Ze rfl (Zg (Zd ?_)))))))
 refine Zz (Za2 (α := Int × Int) (fun ((m, u) : Int × Int) => [(2, (pp g1)), (5, v1), (6, .int .i64 u), (7, .int .i64 m)]) (fun ((m, u) : Int × Int) W => Below w.heap.size w W ∧ (0 ≤ m ∧ m ≤ (Zbc (l.map Za8)).length) ∧ (Gw.Own (Kd.cell 83 n0) 47 w.heap.size W (fun _ => False) v1 (Zbc (l.map Za8))) ∧ (u = Zbz ((Zbc (l.map Za8)).take m.toNat)) ∧ (1 ≤ u ∧ u ≤ 1330) ∧ (Blk W g1 25 [.slice none 0 0].toArray)) (fun ((m, u) : Int × Int) => ((Zbc (l.map Za8)).length - m).toNat) ((0), (1)) ⟨hb7, by omega, hO2, rfl, by omega, (hBl1.g0 k6)⟩ sb ?_)
 rintro ⟨m, u⟩ w8 ⟨hb8, hm, hOs, hu, hu2, hbm0⟩
 dsimp only at *
 have hz9 := hb8.size
 refine Zh (Zh (Zb (st (Zc rfl (st (Zc rfl (st (Zaq Zct rfl hOs.sl.loc (st (Zbd rfl rfl ?_))))))))))
 refine Zg (Zd ?_)
 refine Zw rfl (fun h4 => ?_) (fun h4 => ?_)
 ·have hlt := h4
  refine Zo (Zd (Zh (Zz (Zz (Za2 (α := Int) (fun (v : Int) => [(2, (pp g1)), (5, v1), (6, .int .i64 v), (7, .int .i64 m)]) (fun (v : Int) W => Below w.heap.size w W ∧ (u ≤ v ∧ v ≤ 1330) ∧ (Gw.Own (Kd.cell 83 n0) 47 w.heap.size W (fun _ => False) v1 (Zbc (l.map Za8))) ∧ (∀ j : Int, u ≤ j → j < v → j ≤ 1329 ∧ inC (ix (Zbc (l.map Za8)) m) j = false) ∧ (Blk W g1 25 [.slice none 0 0].toArray)) (fun (v : Int) => (1330 - v).toNat) (u) ⟨hb8, by omega, hOs, fun j _ _ => by omega, hbm0⟩ sb ?_)))))
  rintro v w9 ⟨hb9, hv, hOv, hb, hbv0⟩
  have hz10 := hb9.size
  refine Zh (Zh (Zb (st (Zc rfl (st (s_le rfl rfl (st (Zc rfl ?_))))))))
  refine Zax 44 rfl (fun h5 => ?_) (fun h5 => ?_)
  rotate_left
  ·refine Zj rfl rfl (Zj rfl rfl (Zj rfl rfl (Zj rfl rfl (Zj rfl rfl (Zj rfl rfl (Zj rfl rfl ?_))))))
   refine st (Zr rfl rfl (Zg (Zd (Zbv rfl (Zak (Zk (Zk ?_)))))))
   refine Zs (Zab (Zd (Zb (st (Zc rfl (st (Zah rfl rfl om (st (Ze rfl ?_)))))))))
   refine Zg ?_
   exact Zac (((m + 1)), (v)) ⟨hb9, by omega, hOv, Zl8 hm.1 hlt hu hu2 hv hb om, by omega, hbv0⟩ (by dsimp only; omega) sb
  refine stg (Zc rfl (stg (Zc rfl (stg (Zat Zct rfl rfl hOv.sl.loc om om ?_)))))
  rintro b3 o3 _ ⟨ca3, cb3, rfl, hca3, hcb3, hcs3⟩ hc3 hF3 hlt3
  replace hca3 := hca3.ofGF
  replace hcb3 := hcb3.ofGF
  refine stg (Zp Zj0 rfl hc3 rfl (stg (Zc rfl (stg (Zq fn70 rfl (inc_any (c := (ix (Zbc (l.map Za8)) m)) (n0 := n0) (Zu hn0 hb9) hca3 hcb3 (Bd.le (Zdp hcs om om).1 (show 50 ≤ 50 by decide)) (Bd.le (Zdp hcs om om).2 (show 50 ≤ 50 by decide)) om) ?_)))))
  rintro _ w10 ⟨hq4, rfl⟩
  have k7 := Zi hq4 none
  have hz11 := hq4.size
  have hb10 := Zf hb9 k7
  have hz12 := hb10.size
  have hO3 := hOv.g0 k7
  refine stg (Zdd rfl (st (Zr rfl rfl (Zg (Zd ?_)))))
  refine Zba rfl (fun h6 => ?_) (fun h6 => ?_)
  ·refine Zo (Zd (Zz (Zb (st (Zc rfl (st (Zah rfl rfl om (st (Ze rfl ?_)))))))))
   refine Zg (Zab ?_)
   exact Zac ((v + 1)) ⟨hb10, by omega, hO3, fun j j0 j1 => if e : j = v then by rw [e]; exact ⟨by omega, by simp_all⟩ else hb j j0 om, (hbv0.g0 k7)⟩ om sb
  refine Zak (Zk (Zk (Zs (Zab (Zd (Zb ?_))))))
  refine st (Zc rfl (st (Zah rfl rfl om (st (Ze rfl (Zg ?_))))))
  exact Zac (((m + 1)), (v)) ⟨hb10, by omega, hO3, Zl8 hm.1 hlt hu hu2 hv hb (by rintro ⟨_, q_⟩; simp_all), by omega, (hbv0.g0 k7)⟩ (by dsimp only; omega) sb
 refine Zak (Zk (Zk (Zs (Zd (Zh (Zh ?_))))))
 refine Zb (st (Zc rfl (st (Zch rfl rfl (Zg (Zd ?_))))))
 refine Zw rfl (fun h7 => ?_) (fun h7 => ?_)
 ·have hlvl : u = Zbz (Zbc (l.map Za8)) := by rw [hu, List.take_of_length_le om]
  refine Zh (Zb (st (Zbe (ps := []) (ccs := []) (cells := [.slice none 0 0]) rfl rfl kr (st0 (Zv Za6 rfl rfl hbm0 rfl rfl rfl ?_)))))
  intro w11 hB4 k8 hs4
  have hb11 := belowa hb8 k8
  refine st (Ze rfl (Zg (Zd (Zcg rfl Za6 rfl rfl hB4.range rfl ?_))))
  refine ⟨_, rfl, hb11, ?_⟩
  rw [show ofR l = Zd2 (l.map Za8) from by unfold ofR; rw [if_pos (List.all_eq_true.2 hall)]]
  unfold Zd2
  rw [← hlvl, if_pos h7]
  exact ⟨_, rfl, Sl.nil0⟩
 have hlvl : u = Zbz (Zbc (l.map Za8)) := by rw [hu, List.take_of_length_le om]
 refine Zo (Zd (Zh (Zb (st (Zc rfl (st (Za7 rfl rfl om (st (Zq fn47 rfl (Zfa (n0 := n0) (Zu hn0 hb8)) ?_)))))))))
 rintro v3 w12 ⟨hq5, hv1⟩
 rw [show (Zfm 1 (u - 1)) = (hf u) from (Ziq om)] at hv1
 obtain ⟨v2, rfl, hS1⟩ := hv1
 have k9 := Zi hq5 none
 have hz13 := hq5.size
 have hb12 := Zf hb8 k9
 have hz14 := hb12.size
 have hO5 := hOs.g0 k9
 refine st (Zq fn48 rfl (Zgu (n0 := n0) (Zu hn0 hb12) (Zai rfl hS1) (Bd.le (Zci om) (show 42 ≤ 90000 by decide))) ?_)
 rintro _ w13 ⟨hq6, v4, rfl, hS2⟩
 have k10 := Zi hq6 none
 have hz15 := hq6.size
 have hb13 := Zf hb12 k10
 have hz16 := hb13.size
 have hO6 := hO5.g0 k10
 have hlt_1 := (((hbm0.g0 k9).g0 k10)).lt
 refine st (Zan Zb3 ?_)
 intro g2 w14 hg2 hB5 k11 hs5
 have hz17 := hb13.size
 have hb14 := Zf hb13 k11
 have hO7 := hO6.g0 k11
 refine st0 (Zv Zx rfl rfl hB5 (by simp only [List.all_cons, List.all_nil, hS2.one, Bool.and_true, Bool.and_self] <;> rfl) rfl rfl ?_)
 intro w15 hB6 k12 hs6
 have hb15 := belowa hb14 k12
 have hO8 := Own.keptG (Zgi 83 n0) hO7 k12 (Blk.isG hB5 dc om) (hO7.neB hB5 dc)
 refine Zg (Zd (Zh (Zb (st (Zc rfl (st (Zp Zx rfl hB6.range rfl (st (Zp Zx rfl hB6.range rfl ?_)))))))))
 refine st (Zc rfl (st (Zq fn71 rfl (place_any (a0 := w15) (n0 := n0) (Zu hn0 hb15) u.toNat (lv := u) om om (pb_corner om) (pb_corner om) hcs om (by have := Nat.mul_le_mul (show u.toNat ≤ 1329 by omega) hls; simp; omega) (Below.refl _ _) (Own.nil _ _ _ _ _) ((hS2.gg0 k11).ggB k12 hB5 dc om) ((hS2.gg0 k11).ggB k12 hB5 dc om) (hO8.sl.weak (fun _ _ h_ => by simp [Value.ownBlock] at h_))) ?_)))
 rintro _ w16 ⟨v5, rfl, hb16, hO9, hF4⟩
 have k13 := frm_nil hF4 (Below.refl _ _) hb16
 have hb17 := Zf hb15 k13
 have hz18 := hb17.size
 have hO10 := hO9.rebase (b' := w.heap.size) hb15.size
 have hpl := Zh3 u.toNat ((-(hf u))) ((-(hf u))) (Zbc (l.map Za8)) []
 have hpm := Nat.mul_le_mul (show u.toNat ≤ 1329 by omega) hls
 simp only [List.length_nil, Nat.zero_add] at hpl
 refine st (Zc rfl (st (Zad rfl rfl (st (Zad rfl rfl (st (Ze rfl (st (Ze rfl (Zg (Zd ?_)))))))))))
 refine Zh (Zb (st (Zc rfl (st (Zc rfl (st (Zq fn11 rfl (Nd.rof_any (n := (Zcr u.toNat ((-(hf u))) ((-(hf u))) (Zbc (l.map Za8)) []).2) hO10.sl om) ?_)))))))
 rintro _ w17 ⟨hq7, sv1, rfl, hS3⟩
 have k14 := Zi hq7 none
 have hz19 := hq7.size
 have hb18 := Zf hb17 k14
 have hz20 := hb18.size
 refine st (Zad rfl rfl (st (Zad rfl rfl (st0 (Zv Za6 rfl rfl ((((((hbm0.g0 k9).g0 k10).g0 k11).gne k12 om).g0 k13).g0 k14) (by simp only [List.all_cons, List.all_nil, hS3.one, Bool.and_true, Bool.and_self] <;> rfl) rfl rfl ?_)))))
 intro w18 hB7 k15 hs7
 have hb19 := belowa hb18 k15
 refine st (Ze rfl (Zg (Zd (Zcg rfl Za6 rfl rfl hB7.range rfl ?_))))
 refine ⟨_, rfl, hb19, ?_⟩
 rw [show ofR l = Zd2 (l.map Za8) from by unfold ofR; rw [if_pos (List.all_eq_true.2 hall)]]
 unfold Zd2
 rw [← hlvl, if_neg h7]
 exact ⟨_, rfl, (Sl.gSmall Zy hS3 k15 ((((((hbm0.g0 k9).g0 k10).g0 k11).gne k12 om).g0 k13).g0 k14) dc)⟩
end Go.Proofs.Ytfljelnfjbbknaa.Lm
namespace Go.Proofs.Ytfljelnfjbbknaa.Lm
open Go.RowKit Go.Gw
set_option maxHeartbeats 1000000 in
theorem great_any {w : World} {F : Nat → Prop} {va : Value} {l : List RCl} {m n0 : _} (hl : Sl (Kd.rcell 83 n0) w F va l) :
  Calls Try.prog 26 [va, .int .i64 m].toArray w (Zbh w fun v _ => v = .bool (Zf7 l m)) := by
 have hb0 := Below.refl w.heap.size w
 have hln1 := hl.lenle
 refine enter Try.func26 rfl rfl (Zh (Zb (st (Ze rfl (Zg (Zd (Zh ?_)))))))
 refine Zh (Zb (st (Zc rfl (st (Zaq Zct rfl (hl.at0 hb0) (st (Zc rfl (st (Zch rfl rfl (Zg ?_))))))))))
 refine Zd ?_
 refine Zw rfl (fun h1 => ?_) (fun h1 => ?_)
 ·refine Zh (Zb (st (Ze rfl (Zg (Zd (Zaa rfl rfl ?_))))))
  exact ⟨_, rfl, hb0, by unfold Zf7; rw [decide_eq_true h1]; rfl⟩
 refine Zo (Zd (Zh (Zh (Zb (st (Ze rfl (Zg ?_)))))))
 refine Zd (Zz (Za2 (α := Int) (fun (i : Int) => [(0, va), (5, .int .i64 i)]) (fun (i : Int) W => Below w.heap.size w W ∧ (0 ≤ i ∧ i ≤ l.length) ∧ (∀ j : Int, 0 ≤ j → j < i → Zig (ix l j) = false)) (fun (i : Int) => (l.length - i).toNat) (0) ⟨hb0, by omega, fun j _ _ => by omega⟩ sb ?_))
 rintro i w1 ⟨hb1, hi, hr⟩
 have hz1 := hb1.size
 refine Zh (Zh (Zb (st (Zc rfl (st (Zc rfl (st (Zaq Zct rfl (hl.at0 hb1) (st (Zbd rfl rfl ?_))))))))))
 refine Zg (Zd ?_)
 refine Zw rfl (fun h2 => ?_) (fun h2 => ?_)
 rotate_left
 ·refine Zak (Zk (Zk (Zs (Zd (Zh (Zb ?_))))))
  refine st (Ze rfl (Zg (Zd (Zaa rfl rfl ?_))))
  exact ⟨_, rfl, hb1, by rw [great_none h1 (by omega : i = (l.length : Int)) hr]⟩
 refine Zo (Zd (Zh (Zz (Zh (Zb (st (Zc rfl ?_)))))))
 refine st (Zc rfl (st (Zat Zct rfl rfl (hl.at0 hb1) om om ?_)))
 rintro b1 o1 _ ⟨ca1, cb1, rfl, hca1, hcb1, hcs1⟩ hc1 hF1 hlt1
 replace hca1 := hca1.ofGF
 replace hcb1 := hcb1.ofGF
 have hl_1 := Loc.lt hF1
 refine st (Zn Zc4 rfl (st (Zn Zbr rfl (st (Zt Zcd rfl hc1 (j := 1) rfl (st (Zaq Zbx rfl hca1 (st (Zch rfl rfl (st (Zc rfl ?_)))))))))))
 refine Zax 24 rfl (fun h3 => ?_) (fun h3 => ?_)
 ·refine Zj rfl rfl (Zj rfl rfl (Zj rfl rfl (Zj rfl rfl (Zj rfl rfl (Zj rfl rfl (Zj rfl rfl ?_))))))
  refine Zj rfl rfl (st (Zr rfl rfl (Zg (Zd (Zb0 rfl (Zh (Zb ?_)))))))
  refine st (Ze rfl (Zg (Zd (Zaa rfl rfl ?_))))
  exact ⟨_, rfl, hb1, by rw [great_yes hi.1 om (by unfold Zig; simp [h3])]⟩
 refine stg (Zc rfl (stg (Zc rfl (stg (Zat Zct rfl rfl (hl.at0 hb1) om om ?_)))))
 rintro b2 o2 _ ⟨ca2, cb2, rfl, hca2, hcb2, hcs2⟩ hc2 hF2 hlt2
 replace hca2 := hca2.ofGF
 replace hcb2 := hcb2.ofGF
 have hl_2 := Loc.lt hF2
 refine stg (Zn Zd0 rfl (stg (Zn Zbr rfl (stg (Zt Zcd rfl hc2 (j := 3) rfl (stg (Zaq Zbx rfl hcb2 (stg (Zch rfl rfl (st (Zr rfl rfl (Zg ?_))))))))))))
 refine Zd ?_
 refine Zw rfl (fun h4 => ?_) (fun h4 => ?_)
 ·refine Zh (Zb (st (Ze rfl (Zg (Zd (Zaa rfl rfl ?_))))))
  exact ⟨_, rfl, hb1, by rw [great_yes hi.1 om (by unfold Zig; simp [h3, h4])]⟩
 refine Zo (Zab (Zd (Zb (st (Zc rfl (st (Zah rfl rfl om (st (Ze rfl ?_)))))))))
 refine Zg ?_
 exact Zac ((i + 1)) ⟨hb1, by omega, fun j j0 j1 => if e : j = i then by rw [e]; unfold Zig; simp [h3, h4] else hr j j0 om⟩ om sb
set_option maxHeartbeats 1000000 in
theorem quad_any {w : World} {F : Nat → Prop} {va : Value} {l : List RCl} {m : Int} {n0 : Nat} (hn0 : n0 ≤ w.heap.size) (hl : Sl (Kd.rcell 83 n0) w F va l) (hm : m ≤ 75) :
  Calls Try.prog 18 [va, .int .i64 m].toArray w (Zbh w fun r W => ∃ sv, r = .tuple #[.agg #[sv], .bool (Zbp l m).2] ∧ Sl Kd.node W (fun _ => False) sv (Zbp l m).1) := by
 have hb0 := Below.refl w.heap.size w
 have hln1 := hl.lenle
 refine enter Try.func18 rfl rfl (Zh (Zb (st (Zan Zez ?_))))
 intro g1 w1 hg1 hB1 k1 hs1
 have hz1 := hb0.size
 have hb1 := Zf hb0 k1
 refine st (Ze rfl (Zg (Zd (Zh (Zh (Zb (st (Zc rfl ?_))))))))
 refine st (Zc rfl (st (Zq fn26 rfl (great_any (hl.at0 hb1)) ?_)))
 rintro _ w2 ⟨hq1, rfl⟩
 have k2 := Zi hq1 none
 have hz2 := hq1.size
 have hb2 := Zf hb1 k2
 have hz3 := hb2.size
 refine Zg (Zd ?_)
 refine Zba rfl (fun h1 => ?_) (fun h1 => ?_)
 ·refine Zh (Zb (st (Zbe (ps := []) (ccs := []) (cells := [.slice none 0 0]) rfl rfl kr (st0 (Zv Za6 rfl rfl (hB1.g0 k2) rfl rfl rfl ?_)))))
  intro w3 hB2 k3 hs2
  have hb3 := belowa hb2 k3
  refine st (Ze rfl (Zg (Zd (Zcg rfl Za6 rfl rfl hB2.range rfl ?_))))
  refine ⟨_, rfl, hb3, ?_⟩
  rw [show Zbp l m = ([], false) from by unfold Zbp; rw [if_pos (by simpa using h1)]]
  exact ⟨_, rfl, Sl.nil0⟩
 obtain ⟨hlm, hcb⟩ := great_out hl (by simpa using h1)
 refine Zo (Zd (Zh (Zb (st (Zc rfl (st (Zq fn36 rfl (of7_any (n0 := n0) (Zu hn0 hb2) (hl.at0 hb2) hcb om) ?_)))))))
 rintro _ w4 ⟨hq2, sv1, rfl, hS1⟩
 have hS2 := hS1.loc
 have k4 := Zi hq2 none
 have hz4 := hq2.size
 have hb4 := Zf hb2 k4
 have hz5 := hb4.size
 refine st (Zc rfl (st (Zad rfl rfl (st (Zad rfl rfl ?_)))))
 have hlt_1 := (((hB1.g0 k2).g0 k4)).lt
 refine st (Zan Zez ?_)
 intro g2 w5 hg2 hB3 k5 hs3
 have hz6 := hb4.size
 have hb5 := Zf hb4 k5
 refine st0 (Zv Za6 rfl rfl hB3 (by simp only [List.all_cons, List.all_nil, hS2.one, Bool.and_true, Bool.and_self] <;> rfl) rfl rfl ?_)
 intro w6 hB4 k6 hs4
 have hb6 := belowa hb5 k6
 refine st (Ze rfl (Zg (Zd (Zh (Zb (st (Zp Za6 rfl hB4.range rfl (st (Zc rfl ?_)))))))))
 refine st (Zbu rfl rfl (st0 (Zv Za6 rfl rfl ((((hB1.g0 k2).g0 k4).g0 k5).gne k6 om) (by simp only [List.all_cons, List.all_nil, hS2.one, Bool.and_true, Bool.and_self] <;> rfl) rfl rfl ?_)))
 intro w7 hB5 k7 hs5
 have hb7 := belowa hb6 k7
 refine st (Ze rfl (Zg (Zd (Zcg rfl Za6 rfl rfl hB5.range rfl ?_))))
 refine ⟨_, rfl, hb7, ?_⟩
 rw [show Zbp l m = ((ofR l).1, decide ((ofR l).2 = 0)) from by unfold Zbp; rw [if_neg (by simpa using h1)]]
 exact ⟨_, rfl, ((Sl.gSmall Zy (Sl.gSmall Zy (hS2.g0 k5) k6 hB3 dc) k7 ((((hB1.g0 k2).g0 k4).g0 k5).gne k6 om) dc)).none⟩
end Go.Proofs.Ytfljelnfjbbknaa.Lm
namespace Go.Gw
open Go.RowKit
section
variable {P : Program} {ops : Array Oper} {Q : Exit → Act → World → Prop} {Zao : List Oper} {n : Nat} {D : List Deferred} {ρ : Env} {w : World}
variable {d ty xt yt : Nat} {pos : String} {after : Array Edge} {gd : Option (Nat × Bool)} {C : Value → World → Prop} {x y : Operand} {a b c : Int}
theorem s_orl (hx : opv ρ x = some (.int .i64 a)) (hy : opv ρ y = some (.int .i64 b)) (e : IntKind.i64.wrap ((BitVec.ofInt IntKind.i64.bits a ||| BitVec.ofInt IntKind.i64.bits b).toNat : Int) = c) (h : C (.int .i64 c) w) : OpW P ⟨some d, .binOp .or xt x y yt, ty, pos, after, gd⟩ n D ρ w C :=
  s_bits hx hy (v := .int .i64 c) (by show (pure (.int .i64 (IntKind.i64.wrap ((BitVec.ofInt IntKind.i64.bits a ||| BitVec.ofInt IntKind.i64.bits b).toNat : Int))) : Sem Value) = _; rw [e]) rfl h
theorem s_shll {j k : IntKind} (hx : opv ρ x = some (.int k a)) (hy : opv ρ y = some (.int j b)) (hb : 0 ≤ b) (e : k.wrap (a * 2 ^ (min b.toNat k.bits)) = c) (h : C (.int k c) w) : OpW P ⟨some d, .binOp .shl xt x y yt, ty, pos, after, gd⟩ n D ρ w C :=
  s_shl hx hy hb (by rw [e]; exact h)
theorem s_iarr2 {t e : Nat} {kd : IntKind} {u v r : Value} {i : Int} (ht : ArrF P t 2 e 1) (he1 : OneF P e) (hx : opv ρ x = some (.agg [u, v].toArray)) (hy : opv ρ y = some (.int kd i)) (hi : (i = 0 ∧ r = u) ∨ (i = 1 ∧ r = v)) (h : C r w) : OpW P ⟨some d, .index t x y, ty, pos, after, gd⟩ n D ρ w C := by
  obtain ⟨dd, hu, hr, hs⟩ := he1.out
  have hinf : ∃ j, P.info? e = some j ∧ j.size = 1 := by
    cases hq : P.info? e with
    | none => simp [hq] at hs
    | some j => exact ⟨j, rfl, by simpa [hq] using hs⟩
  obtain ⟨j, hj, hsz⟩ := hinf
  refine Za3 (fun ev he => ?_) h
  have hagg : (isAgg e).run P w = .ok false w := by
    unfold isAgg; rw [Sem.run_bind, run_underlying hu w]; cases dd <;> simp_all
  rcases hi with ⟨rfl, rfl⟩ | ⟨rfl, rfl⟩ <;>
    simp [execOp, Instr.index, asIntOf, he x _ hx, he y _ hy, run_underlying ht.und, sizeOf, typeInfo, hj, hsz, part, Sem.run_bind, hagg]
end
end Go.Gw
namespace Go.Gw
open Go.RowKit
structure Rg (N t n : Nat) (Q : World → Array Value → Prop) (a b : World) : Prop where
  os : b.os = a.os
  tape : b.tape = a.tape
  output : b.output = a.output
  size : a.heap.size ≤ b.heap.size
  block : ∀ k, k < a.heap.size → b.heap[k]? = a.heap[k]? ∨ (N ≤ k ∧ BlkN a k t n ∧ ∃ cs, Blk b k t cs ∧ cs.size = n ∧ Q b cs)
def PtrG (N t n : Nat) (Q : World → Array Value → Prop) (v : Value) (w : World) : Prop := ∃ g, v = .pointer (some ⟨g, 0, none⟩) ∧ N ≤ g ∧ ∃ cs, Blk w g t cs ∧ cs.size = n ∧ Q w cs
section
variable {N t n U n0 : Nat} {Q : World → Array Value → Prop} {a b c w w' : World}
theorem Rg.refl (a : World) : Rg N t n Q a a := ⟨rfl, rfl, rfl, Nat.le_refl _, fun _ _ => .inl rfl⟩
theorem Rg.trans (hQ : ∀ a b cs, Rg N t n Q a b → Q a cs → Q b cs) (a b c : World) (h : Rg N t n Q a b) (k : Rg N t n Q b c) : Rg N t n Q a c :=
  ⟨k.os.trans h.os, k.tape.trans h.tape, k.output.trans h.output, Nat.le_trans h.size k.size, fun i hi => by
    rcases h.block i hi with h1 | ⟨h1, h2, cs, h3, h4, h5⟩ <;> rcases k.block i (Nat.lt_of_lt_of_le hi h.size) with k1 | ⟨k1, ⟨ds, hd, k2⟩, k3⟩
    · exact .inl (k1.trans h1)
    · exact .inr ⟨k1, ⟨ds, hd, h1.symm.trans k2⟩, k3⟩
    · exact .inr ⟨h1, h2, cs, k1.trans h3, h4, hQ _ _ _ k h5⟩
    · exact .inr ⟨h1, h2, k3⟩⟩
theorem Rg.of (k : a.grownBy b none) : Rg N t n Q a b := ⟨k.os, k.tape, k.output, k.size, fun i hi => .inl (k.block i hi (by simp))⟩
theorem Rg.grown (h : Rg N t n Q a b) (hn : a.heap.size ≤ N) : a.grownBy b none := ⟨h.os, h.tape, h.output, h.size, fun i hi _ => by
  rcases h.block i hi with h1 | ⟨h1, _⟩
  · exact h1
  · omega⟩
theorem Rg.sto {g : Nat} {cs : Array Value} (hB : BlkN a g t n) (hB2 : Blk b g t cs) (hc : cs.size = n) (hq : Q b cs) (k : a.grownBy b (some g)) (hg : N ≤ g) : Rg N t n Q a b :=
  ⟨k.os, k.tape, k.output, k.size, fun i hi => by
    by_cases e : i = g
    · subst e; exact .inr ⟨hg, hB, cs, hB2, hc, hq⟩
    · exact .inl (k.block i hi (by simpa using e))⟩
theorem Rg.nums (ht : t ≠ U) (hn : n0 ≤ N) (k : Rg N t n Q a b) {s : Value} {xs : List Int} (h : Sl Kd.u32 a (G U n0 a) s xs) : Sl Kd.u32 b (G U n0 b) s xs :=
  h.gkeep (fun i hi hG => by
    rcases k.block i hi with h1 | ⟨h1, ⟨cs, _, hB⟩, _⟩
    · exact h1
    · exact absurd (Blk.isG hB ht om) hG) Zd6
theorem Zg2.stG (v : Value) (a b : World) (h : Zg2 N t n v a) (k : Rg N t n Q a b) : Zg2 N t n v b := by
  obtain ⟨g, rfl, hg, cs, hc, hB⟩ := h
  refine ⟨g, rfl, hg, ?_⟩
  rcases k.block g hB.lt with h1 | ⟨_, _, ds, h3, h4, _⟩
  · exact ⟨cs, hc, h1.trans hB⟩
  · exact ⟨ds, h4, h3⟩
theorem PtrG.st (hQ : ∀ a b cs, Rg N t n Q a b → Q a cs → Q b cs) (v : Value) (a b : World) (h : PtrG N t n Q v a) (k : Rg N t n Q a b) : PtrG N t n Q v b := by
  obtain ⟨g, rfl, hg, cs, hB, hc, hq⟩ := h
  refine ⟨g, rfl, hg, ?_⟩
  rcases k.block g hB.lt with h1 | ⟨_, _, h3⟩
  · exact ⟨cs, h1.trans hB, hc, hQ _ _ _ k hq⟩
  · exact h3
def TwoSl (U n0 : Nat) (xs ys : List Int) (w : World) (cs : Array Value) : Prop := ∃ s u, cs = [s, u].toArray ∧ Sl Kd.u32 w (G U n0 w) s xs ∧ Sl Kd.u32 w (G U n0 w) u ys
def TupS (U n0 : Nat) (xs ys : List Int) (B : Bool) (v : Value) (w : World) : Prop := ∃ s u, v = .tuple #[.agg [s, u].toArray, .bool B] ∧ Sl Kd.u32 w (G U n0 w) s xs ∧ Sl Kd.u32 w (G U n0 w) u ys
def AggS (U n0 : Nat) (xs ys : List Int) (v : Value) (w : World) : Prop := ∃ s u, v = .agg [s, u].toArray ∧ Sl Kd.u32 w (G U n0 w) s xs ∧ Sl Kd.u32 w (G U n0 w) u ys
theorem two_st (ht : t ≠ U) (hn : n0 ≤ N) {xs ys : List Int} (a b : World) (cs : Array Value) (k : Rg N t n Q a b) (h : TwoSl U n0 xs ys a cs) : TwoSl U n0 xs ys b cs := by
  obtain ⟨s, u, rfl, h1, h2⟩ := h
  exact ⟨s, u, rfl, k.nums ht hn h1, k.nums ht hn h2⟩
theorem TupS.st (ht : t ≠ U) (hn : n0 ≤ N) {xs ys : List Int} {B : Bool} (v : Value) (a b : World) (h : TupS U n0 xs ys B v a) (k : Rg N t n Q a b) : TupS U n0 xs ys B v b := by
  obtain ⟨s, u, rfl, h1, h2⟩ := h
  exact ⟨s, u, rfl, k.nums ht hn h1, k.nums ht hn h2⟩
theorem AggS.st (ht : t ≠ U) (hn : n0 ≤ N) {xs ys : List Int} (v : Value) (a b : World) (h : AggS U n0 xs ys v a) (k : Rg N t n Q a b) : AggS U n0 xs ys v b := by
  obtain ⟨s, u, rfl, h1, h2⟩ := h
  exact ⟨s, u, rfl, k.nums ht hn h1, k.nums ht hn h2⟩
theorem nums_sto {g : Nat} (ht : t ≠ U) (hn : n0 ≤ g) (hB : BlkN a g t n) (k : a.grownBy b (some g)) {s : Value} {xs : List Int} (h : Sl Kd.u32 a (G U n0 a) s xs) : Sl Kd.u32 b (G U n0 b) s xs :=
  h.gkeep (fun i hi hG => by
    by_cases e : i = g
    · subst e; obtain ⟨cs, _, hB⟩ := hB; exact absurd (Blk.isG hB ht hn) hG
    · exact k.block i hi (by simpa using e)) Zd6
theorem two_sto {g : Nat} (ht : t ≠ U) (hn : n0 ≤ g) (hB : BlkN a g t n) (k : a.grownBy b (some g)) {s u : Value} {xs ys : List Int} (h1 : Sl Kd.u32 a (G U n0 a) s xs) (h2 : Sl Kd.u32 a (G U n0 a) u ys) : TwoSl U n0 xs ys b [s, u].toArray :=
  ⟨s, u, rfl, nums_sto ht hn hB k h1, nums_sto ht hn hB k h2⟩
def OneSl (U n0 : Nat) (s : Bool) (xs : List Int) (w : World) (cs : Array Value) : Prop := ∃ u, cs = [.bool s, u].toArray ∧ Sl Kd.u32 w (G U n0 w) u xs
theorem one_st (ht : t ≠ U) (hn : n0 ≤ N) {s : Bool} {xs : List Int} (a b : World) (cs : Array Value) (k : Rg N t n Q a b) (h : OneSl U n0 s xs a cs) : OneSl U n0 s xs b cs := by
  obtain ⟨u, rfl, h1⟩ := h
  exact ⟨u, rfl, k.nums ht hn h1⟩
theorem Zg2.oldG {v : Value} (h : Zg2 N t n v w) : OldV v w := by obtain ⟨g, rfl, _, cs, _, hB⟩ := h; exact ⟨g, rfl, hB.lt⟩
end
end Go.Gw
namespace Go.Proofs.Ytfljelnfjbbknaa.Lm
open Go.RowKit Go.Gw
set_option maxHeartbeats 1000000 in
theorem spot_any {w : World} {x y lv : Int} {n0 : Nat} (hn0 : n0 ≤ w.heap.size) {px py : Value} (hpx : Sl Kd.u32 w (G 83 n0 w) px (ml x)) (hpy : Sl Kd.u32 w (G 83 n0 w) py (ml y)) (hbx : Bd 50 x) (hby : Bd 50 y) (hlv : 1 ≤ lv ∧ lv ≤ 1329) :
  Calls Try.prog 58 [.int .i64 lv, .agg [.bool (decide (x < 0)), px].toArray, .agg [.bool (decide (y < 0)), py].toArray].toArray w (Zbh w fun r W => ∃ a b, r = .tuple #[.agg [a, b].toArray, .bool (inC ⟨x, y, 0⟩ lv)] ∧ Sl Kd.u32 W (G 83 n0 W) a (ml (x + hf lv)) ∧ Sl Kd.u32 W (G 83 n0 W) b (ml (y + hf lv))) := by
 have hb0 := Below.refl w.heap.size w
 have hlA := Zf9 (Zfn hbx (Zci hlv.2) (show 50 < 51 by decide) (show 42 < 51 by decide))
 have hlB := Zf9 (Zfn hby (Zci hlv.2) (show 50 < 51 by decide) (show 42 < 51 by decide))
 refine enter Try.func58 rfl rfl (Zh (Zb (st (Zbs rfl ?_))))
 intro g1 w1 hg1 hB1 k1 hs1
 change Blk w1 g1 31 [.bool (decide (x < 0)), px].toArray at hB1
 have hb1 := Zf hb0 k1
 refine st (Zbs rfl ?_)
 intro g2 w2 hg2 hB2 k2 hs2
 change Blk w2 g2 31 [.bool (decide (y < 0)), py].toArray at hB2
 have hb2 := Zf hb1 k2
 have hlt_1 := ((hB1.g0 k2)).lt
 have hlt_2 := (hB2).lt
 refine st (Zan zero89 ?_)
 intro g3 w3 hg3 hB3 k3 hs3
 have hz1 := hb2.size
 have hb3 := Zf hb2 k3
 refine st (Ze rfl (Zg (Zd (Zh (Zb (st (Zc rfl (st (Za7 rfl rfl om ?_)))))))))
 refine st (Zq fn42 rfl (bpow_any (n0 := n0) (Zu hn0 hb3)) ?_)
 rintro v2 w4 ⟨hq1, hv1⟩
 rw [show (Zfm 1 (lv - 1)) = (hf lv) from (Ziq hlv)] at hv1
 obtain ⟨v1, rfl, hS1⟩ := hv1
 have k4 := Zi hq1 none
 have hz2 := hq1.size
 have hb4 := Zf hb3 k4
 have hz3 := hb4.size
 have hlt_3 := ((((hB1.g0 k2).g0 k3).g0 k4)).lt
 have hlt_4 := (((hB2.g0 k3).g0 k4)).lt
 have hlt_5 := ((hB3.g0 k4)).lt
 refine st (Zan Zb3 ?_)
 intro g4 w5 hg4 hB4 k5 hs4
 have hz4 := hb4.size
 have hb5 := Zf hb4 k5
 refine st0 (Zv Zx rfl rfl hB4 (by simp only [List.all_cons, List.all_nil, hS1.one, Bool.and_true, Bool.and_self] <;> rfl) rfl rfl ?_)
 intro w6 hB5 k6 hs5
 have hb6 := belowa hb5 k6
 refine Zg (Zd (Zh ?_))
 have hlt_15 := ((((((hB1.g0 k2).g0 k3).g0 k4).g0 k5).gne k6 om)).lt
 have hlt_16 := (((((hB2.g0 k3).g0 k4).g0 k5).gne k6 om)).lt
 have hlt_17 := ((((hB3.g0 k4).g0 k5).gne k6 om)).lt
 have hlt_18 := (hB5).lt
 refine w_drawF 8 GN [xi 15 <| .agg [.bool (decide (x < 0)), px].toArray, xi 16 <| .agg [.bool (decide ((hf lv) < 0)), v1].toArray, (some 17, fun v W => Zbw 83 n0 W v ((x + (hf lv)))), xi 18 <| .agg [.bool (decide (y < 0)), py].toArray, xi 19 <| .agg [.bool (decide ((hf lv) < 0)), v1].toArray, (some 20, fun v W => Zbw 83 n0 W v ((y + (hf lv)))), (some 9, fun v W => ∃ g, v = (pp g) ∧ Blk W g 31 #[.bool false, .slice none 0 0] ∧ w6.heap.size ≤ g), (some 10, fun v W => ∃ g, v = (pp g) ∧ Blk W g 31 #[.bool false, .slice none 0 0] ∧ w6.heap.size ≤ g)] [[], [], [0, 1], [], [], [3, 4], [], []] [false, false, false, false, false, false, true, true] [(0, .int .i64 lv), (4, (pp g1)), (5, (pp g2)), (6, (pp g3)), (7, .bool false), (8, (pp g4))] sb kr kr Za gnt ⟨kv, kv, fun _ _ _ h k => h.g0 k, kv, kv, fun _ _ _ h k => h.g0 k, fun _ _ _ h k => by obtain ⟨g, e, hB, hg⟩ := h; exact ⟨g, e, hB.g0 k, hg⟩, fun _ _ _ h k => by obtain ⟨g, e, hB, hg⟩ := h; exact ⟨g, e, hB.g0 k, hg⟩, trivial⟩ ⟨nofun, nofun, nofun, nofun, nofun, nofun, fun _ _ _ ⟨g, e, hB, _⟩ => ⟨g, e, hB.lt⟩, fun _ _ _ ⟨g, e, hB, _⟩ => ⟨g, e, hB.lt⟩, trivial⟩ ?_
 intro w11 k11 hs8
 have hb7 := Zf hb6 k11
 refine ⟨⟨?_, ?_, ?_, ?_, ?_, ?_, ?_, ?_, trivial⟩, ?_⟩
 ·intro w12 k12
  refine op1 (Zp Zx rfl (((((((hB1.g0 k2).g0 k3).g0 k4).g0 k5).gne k6 om).g0 k11).g0 k12).range rfl ?_)
  exact ⟨rfl, Za _, fun h => by cases h⟩
 ·intro w13 k13
  refine op1 (Zp Zx rfl ((hB5.g0 k11).g0 k13).range rfl ?_)
  exact ⟨rfl, Za _, fun h => by cases h⟩
 ·intro w14 k14
  have hb10 := Zf hb7 k14
  rintro _ rfl _ rfl
  refine op1 (Zq fn78 rfl (badd_any (n0 := n0) (Zu hn0 hb10) (Zai rfl ((((((((hpx.gg0 k1).gg0 k2).gg0 k3).gg0 k4).gg0 k5).ggB k6 hB4 dc om).gg0 k11).gg0 k14)) (Zai rfl ((((hS1.gg0 k5).ggB k6 hB4 dc om).gg0 k11).gg0 k14)) (Bd.le hbx (show 50 ≤ 90000 by decide)) (Bd.le (Zci hlv.2) (show 42 ≤ 90000 by decide))) ?_)
  rintro _ w15 ⟨hq4, v5, rfl, hS4⟩
  have k15 := Zi hq4 none
  have hz5 := hq4.size
  have hb11 := Zf hb10 k15
  have hz6 := hb11.size
  exact ⟨⟨_, rfl, hS4⟩, k15, fun h => by cases h⟩
 ·intro w16 k16
  refine op1 (Zp Zx rfl ((((((hB2.g0 k3).g0 k4).g0 k5).gne k6 om).g0 k11).g0 k16).range rfl ?_)
  exact ⟨rfl, Za _, fun h => by cases h⟩
 ·intro w17 k17
  refine op1 (Zp Zx rfl ((hB5.g0 k11).g0 k17).range rfl ?_)
  exact ⟨rfl, Za _, fun h => by cases h⟩
 ·intro w18 k18
  have hb14 := Zf hb7 k18
  rintro _ rfl _ rfl
  refine op1 (Zq fn78 rfl (badd_any (n0 := n0) (Zu hn0 hb14) (Zai rfl ((((((((hpy.gg0 k1).gg0 k2).gg0 k3).gg0 k4).gg0 k5).ggB k6 hB4 dc om).gg0 k11).gg0 k18)) (Zai rfl ((((hS1.gg0 k5).ggB k6 hB4 dc om).gg0 k11).gg0 k18)) (Bd.le hby (show 50 ≤ 90000 by decide)) (Bd.le (Zci hlv.2) (show 42 ≤ 90000 by decide))) ?_)
  rintro _ w19 ⟨hq5, v6, rfl, hS5⟩
  have k19 := Zi hq5 none
  have hz7 := hq5.size
  have hb15 := Zf hb14 k19
  have hz8 := hb15.size
  exact ⟨⟨_, rfl, hS5⟩, k19, fun h => by cases h⟩
 ·intro w20 k20
  have hb16 := Zf hb7 k20
  have hlt_19 := ((((((((hB1.g0 k2).g0 k3).g0 k4).g0 k5).gne k6 om).g0 k11).g0 k20)).lt
  have hlt_20 := (((((((hB2.g0 k3).g0 k4).g0 k5).gne k6 om).g0 k11).g0 k20)).lt
  have hlt_21 := ((((((hB3.g0 k4).g0 k5).gne k6 om).g0 k11).g0 k20)).lt
  have hlt_22 := (((hB5.g0 k11).g0 k20)).lt
  refine op1 (Zan Zb3 ?_)
  intro g7 w21 hg7 hB8 k21 hs9
  have hz9 := hb16.size
  exact ⟨⟨_, rfl, hB8, by have h0_ := k11.size; have h1_ := k20.size; have h2_ := k21.size; omega⟩, k21, fun _ => ⟨_, rfl, by omega⟩⟩
 ·intro w22 k22
  have hb18 := Zf hb7 k22
  have hlt_23 := ((((((((hB1.g0 k2).g0 k3).g0 k4).g0 k5).gne k6 om).g0 k11).g0 k22)).lt
  have hlt_24 := (((((((hB2.g0 k3).g0 k4).g0 k5).gne k6 om).g0 k11).g0 k22)).lt
  have hlt_25 := ((((((hB3.g0 k4).g0 k5).gne k6 om).g0 k11).g0 k22)).lt
  have hlt_26 := (((hB5.g0 k11).g0 k22)).lt
  refine op1 (Zan Zb3 ?_)
  intro g8 w23 hg8 hB9 k23 hs10
  have hz10 := hb18.size
  exact ⟨⟨_, rfl, hB9, by have h0_ := k11.size; have h1_ := k22.size; have h2_ := k23.size; omega⟩, k23, fun _ => ⟨_, rfl, by omega⟩⟩
 intro w24 k24
 have hb20 := Zf hb7 k24
 rintro _ rfl _ rfl _ ⟨v7, rfl, hS6⟩ _ rfl _ rfl _ ⟨v8, rfl, hS7⟩ _ ⟨g9, rfl, hB10, hg9⟩
 have hlt_27 := hB10.lt
 rintro hnf1 _ ⟨g10, rfl, hB11, hg10⟩
 have hlt_28 := hB11.lt
 intro hnf2
 have hne1 : g9 ≠ g10 := fresh_ne (hnf2 _ (by simp))
 refine st0 (Zv Zx rfl rfl hB10 (by simp only [List.all_cons, List.all_nil, hS6.one, Bool.and_true, Bool.and_self] <;> rfl) rfl rfl ?_)
 intro w25 hB12 k25 hs11
 have hb21 := belowa hb20 k25
 refine st0 (Zv Zx rfl rfl (hB11.gne k25 om) (by simp only [List.all_cons, List.all_nil, hS7.one, Bool.and_true, Bool.and_self] <;> rfl) rfl rfl ?_)
 intro w26 hB13 k26 hs12
 have hb22 := belowa hb21 k26
 refine Zg (Zd (Zh (Zb (st (Zn Zdh rfl (st (Zt Zeg rfl (hB12.gne k26 om).range (j := 0) rfl (st (s_notP rfl ?_)))))))))
 refine st (Zc rfl ?_)
 refine Zax 24 rfl (fun h1 => ?_) (fun h1 => ?_)
 rotate_left
 ·refine Zj rfl rfl (Zj rfl rfl (Zj rfl rfl (st (Zr rfl rfl (st (Zc rfl (Zj rfl rfl (Zj rfl rfl ?_))))))))
  refine Zj rfl rfl (Zj rfl rfl (Zj rfl rfl (st (Zr rfl rfl (st (Zc rfl (Zj rfl rfl (Zj rfl rfl ?_))))))))
  refine Zj rfl rfl (Zj rfl rfl (Zj rfl rfl (st (Zr rfl rfl (st (Ze rfl (Zg (Zd ?_))))))))
  refine Zh (Zb (st (Zn Zbr rfl (st (Zt Zcd rfl (hB12.gne k26 om).range (j := 1) rfl (st (Zn Zbr rfl (st (Zt Zcd rfl hB13.range (j := 1) rfl (st (Zbe (ps := [(0, .tmp 44), (1, .tmp 46)]) (ccs := [#[v7], #[v8]]) (cells := [v7, v8]) rfl (by simp only [List.map_cons, List.map_nil, hS6.cells1, hS7.cells1] <;> rfl) kr ?_)))))))))))
  refine st (Zc rfl (st0 (Zv Zg0 rfl rfl (((((((hB3.g0 k4).g0 k5).gne k6 om).g0 k11).g0 k24).gne k25 om).gne k26 om) (by simp only [List.all_cons, List.all_nil, hS6.one, hS7.one, Bool.and_true, Bool.and_self] <;> rfl) rfl rfl ?_)))
  intro w32 hB17 k32 hs16
  have hb28 := belowa hb22 k32
  refine st (Ze rfl (Zg (Zd (Zcg rfl Zg0 rfl rfl hB17.range rfl ?_))))
  refine ⟨_, rfl, hb28, _, _, ?_, (((hS6.ggB k25 hB10 dc om).ggB k26 (hB11.gne k25 om) dc om).ggB k32 (((((((hB3.g0 k4).g0 k5).gne k6 om).g0 k11).g0 k24).gne k25 om).gne k26 om) dc om), (((hS7.ggB k25 hB10 dc om).ggB k26 (hB11.gne k25 om) dc om).ggB k32 (((((((hB3.g0 k4).g0 k5).gne k6 om).g0 k11).g0 k24).gne k25 om).gne k26 om) dc om)⟩
  rw [spot_in hlv.1]
  (simp_all <;> omega)
 refine stg (Zn Zdh rfl (stg (Zt Zeg rfl hB13.range (j := 0) rfl (stg (s_notP rfl (st (Zr rfl rfl (st (Zc rfl ?_)))))))))
 refine Zax 29 rfl (fun h2 => ?_) (fun h2 => ?_)
 rotate_left
 ·refine Zj rfl rfl (Zj rfl rfl (Zj rfl rfl (Zj rfl rfl (Zj rfl rfl (st (Zr rfl rfl (st (Zc rfl ?_))))))))
  refine Zj rfl rfl (Zj rfl rfl (Zj rfl rfl (Zj rfl rfl (Zj rfl rfl (st (Zr rfl rfl (st (Ze rfl ?_))))))))
  refine Zg (Zd (Zh (Zb (st (Zn Zbr rfl (st (Zt Zcd rfl (hB12.gne k26 om).range (j := 1) rfl (st (Zn Zbr rfl ?_)))))))))
  refine st (Zt Zcd rfl hB13.range (j := 1) rfl (st (Zbe (ps := [(0, .tmp 44), (1, .tmp 46)]) (ccs := [#[v7], #[v8]]) (cells := [v7, v8]) rfl (by simp only [List.map_cons, List.map_nil, hS6.cells1, hS7.cells1] <;> rfl) kr (st (Zc rfl (st0 (Zv Zg0 rfl rfl (((((((hB3.g0 k4).g0 k5).gne k6 om).g0 k11).g0 k24).gne k25 om).gne k26 om) (by simp only [List.all_cons, List.all_nil, hS6.one, hS7.one, Bool.and_true, Bool.and_self] <;> rfl) rfl rfl ?_)))))))
  intro w31 hB16 k31 hs15
  have hb27 := belowa hb22 k31
  refine st (Ze rfl (Zg (Zd (Zcg rfl Zg0 rfl rfl hB16.range rfl ?_))))
  refine ⟨_, rfl, hb27, _, _, ?_, (((hS6.ggB k25 hB10 dc om).ggB k26 (hB11.gne k25 om) dc om).ggB k31 (((((((hB3.g0 k4).g0 k5).gne k6 om).g0 k11).g0 k24).gne k25 om).gne k26 om) dc om), (((hS7.ggB k25 hB10 dc om).ggB k26 (hB11.gne k25 om) dc om).ggB k31 (((((((hB3.g0 k4).g0 k5).gne k6 om).g0 k11).g0 k24).gne k25 om).gne k26 om) dc om)⟩
  rw [spot_in hlv.1]
  (simp_all <;> omega)
 refine stg (Zn Zbr rfl (stg (Zt Zcd rfl (hB12.gne k26 om).range (j := 1) rfl (stg (Zq fn89 rfl (len_any (((hS6.ggB k25 hB10 dc om).ggB k26 (hB11.gne k25 om) dc om)).none (by first | omega | (simp; done) | (simp; omega))) ?_)))))
 rintro _ w27 ⟨hq6, rfl⟩
 have k27 := Zi hq6 none
 have hz11 := hq6.size
 have hb23 := Zf hb22 k27
 have hz12 := hb23.size
 refine stg (Zc rfl (stg (s_le rfl rfl (st (Zr rfl rfl (st (Zc rfl ?_)))))))
 refine Zax 36 rfl (fun h3 => ?_) (fun h3 => ?_)
 rotate_left
 ·refine Zj rfl rfl (Zj rfl rfl (Zj rfl rfl (Zj rfl rfl (Zj rfl rfl (st (Zr rfl rfl (st (Ze rfl ?_))))))))
  refine Zg (Zd (Zh (Zb (st (Zn Zbr rfl (st (Zt Zcd rfl ((hB12.gne k26 om).g0 k27).range (j := 1) rfl (st (Zn Zbr rfl ?_)))))))))
  refine st (Zt Zcd rfl (hB13.g0 k27).range (j := 1) rfl (st (Zbe (ps := [(0, .tmp 44), (1, .tmp 46)]) (ccs := [#[v7], #[v8]]) (cells := [v7, v8]) rfl (by simp only [List.map_cons, List.map_nil, hS6.cells1, hS7.cells1] <;> rfl) kr (st (Zc rfl (st0 (Zv Zg0 rfl rfl ((((((((hB3.g0 k4).g0 k5).gne k6 om).g0 k11).g0 k24).gne k25 om).gne k26 om).g0 k27) (by simp only [List.all_cons, List.all_nil, hS6.one, hS7.one, Bool.and_true, Bool.and_self] <;> rfl) rfl rfl ?_)))))))
  intro w30 hB15 k30 hs14
  have hb26 := belowa hb23 k30
  refine st (Ze rfl (Zg (Zd (Zcg rfl Zg0 rfl rfl hB15.range rfl ?_))))
  refine ⟨_, rfl, hb26, _, _, ?_, ((((hS6.ggB k25 hB10 dc om).ggB k26 (hB11.gne k25 om) dc om).gg0 k27).ggB k30 ((((((((hB3.g0 k4).g0 k5).gne k6 om).g0 k11).g0 k24).gne k25 om).gne k26 om).g0 k27) dc om), ((((hS7.ggB k25 hB10 dc om).ggB k26 (hB11.gne k25 om) dc om).gg0 k27).ggB k30 ((((((((hB3.g0 k4).g0 k5).gne k6 om).g0 k11).g0 k24).gne k25 om).gne k26 om).g0 k27) dc om)⟩
  rw [spot_in hlv.1]
  (simp_all <;> omega)
 refine stg (Zn Zbr rfl (stg (Zt Zcd rfl (hB13.g0 k27).range (j := 1) rfl (stg (Zq fn89 rfl (len_any ((((hS7.ggB k25 hB10 dc om).ggB k26 (hB11.gne k25 om) dc om).gg0 k27)).none (by first | omega | (simp; done) | (simp; omega))) ?_)))))
 rintro _ w28 ⟨hq7, rfl⟩
 have k28 := Zi hq7 none
 have hz13 := hq7.size
 have hb24 := Zf hb23 k28
 have hz14 := hb24.size
 refine stg (Zc rfl (stg (s_le rfl rfl (st (Zr rfl rfl (st (Ze rfl (Zg (Zd (Zh ?_))))))))))
 refine Zb (st (Zn Zbr rfl (st (Zt Zcd rfl (((hB12.gne k26 om).g0 k27).g0 k28).range (j := 1) rfl (st (Zn Zbr rfl (st (Zt Zcd rfl ((hB13.g0 k27).g0 k28).range (j := 1) rfl (st (Zbe (ps := [(0, .tmp 44), (1, .tmp 46)]) (ccs := [#[v7], #[v8]]) (cells := [v7, v8]) rfl (by simp only [List.map_cons, List.map_nil, hS6.cells1, hS7.cells1] <;> rfl) kr (st (Zc rfl ?_))))))))))))
 refine st0 (Zv Zg0 rfl rfl (((((((((hB3.g0 k4).g0 k5).gne k6 om).g0 k11).g0 k24).gne k25 om).gne k26 om).g0 k27).g0 k28) (by simp only [List.all_cons, List.all_nil, hS6.one, hS7.one, Bool.and_true, Bool.and_self] <;> rfl) rfl rfl ?_)
 intro w29 hB14 k29 hs13
 have hb25 := belowa hb24 k29
 refine st (Ze rfl (Zg (Zd (Zcg rfl Zg0 rfl rfl hB14.range rfl ?_))))
 refine ⟨_, rfl, hb25, _, _, ?_, (((((hS6.ggB k25 hB10 dc om).ggB k26 (hB11.gne k25 om) dc om).gg0 k27).gg0 k28).ggB k29 (((((((((hB3.g0 k4).g0 k5).gne k6 om).g0 k11).g0 k24).gne k25 om).gne k26 om).g0 k27).g0 k28) dc om), (((((hS7.ggB k25 hB10 dc om).ggB k26 (hB11.gne k25 om) dc om).gg0 k27).gg0 k28).ggB k29 (((((((((hB3.g0 k4).g0 k5).gne k6 om).g0 k11).g0 k24).gne k25 om).gne k26 om).g0 k27).g0 k28) dc om)⟩
 rw [spot_in hlv.1]
 (simp_all <;> omega)
set_option maxHeartbeats 1000000 in
theorem Zmf {w : World} {A B lv : Int} {pa pb : Value} {n0 : Nat} (hn0 : n0 ≤ w.heap.size) (hpa : Sl Kd.u32 w (G 83 n0 w) pa (ml A)) (hpb : Sl Kd.u32 w (G 83 n0 w) pb (ml B)) (hA : 0 ≤ A) (hB : 0 ≤ B) (hlv : 1 ≤ lv ∧ lv ≤ 1329) :
  Calls Try.prog 65 [.int .i64 lv, .agg [pa, pb].toArray].toArray w (Zbh w fun v _ => v = .int .i64 (kq lv (A % (2 * hf lv)) (B % (2 * hf lv)))) := by
 have hb0 := Below.refl w.heap.size w
 refine enter Try.func65 rfl rfl (Zh (Zb (st (Zbs rfl ?_))))
 intro g1 w1 hg1 hB1 k1 hs1
 change Blk w1 g1 89 [pa, pb].toArray at hB1
 have hb1 := Zf hb0 k1
 refine st (Ze rfl (Zg (Zd (Zh (Zb (st (Ze rfl (Zg ?_))))))))
 refine Zd (Zh (Zh (Zb (st (Zp Zg0 rfl hB1.range rfl (st (Zc rfl (Zg ?_))))))))
 refine Zd (Zz (w_unroll 2 (Zh (Zb (st (Zbd rfl rfl ?_))))))
 rw [show decide ((0 : Int) < 2) = true from rfl]
 refine Zg (Zd (Zh (Zb0 rfl (Zo (Zd (Zh ?_))))))
 refine Zz (Zh (Zb (st (Zc rfl (st (s_iarr2 arr89 Zcd rfl rfl (.inl ⟨rfl, rfl⟩) (st (Ze rfl (st (Ze rfl ?_))))))))))
 refine Zg (Zd (Zh (Zb (st (Zc rfl (st (Zc rfl (st (Za7 rfl rfl om ?_)))))))))
 refine st (Zq fn95 rfl (bit_any ((hpa.gg0 k1)).none om) ?_)
 rintro _ w2 ⟨hq1, rfl⟩
 have k2 := Zi hq1 none
 have hz1 := hq1.size
 have hb2 := Zf hb1 k2
 have hz2 := hb2.size
 refine Zg (Zd ?_)
 refine Zba rfl (fun h1 => ?_) (fun h1 => ?_)
 rotate_left
 ·refine Zo (Zab (Zd (Zb (st (Zln (c := 1) rfl rfl rfl dc (st (Zc rfl (Zg ?_))))))))
  refine Zjy (Zh (Zb (st (Zbd rfl rfl ?_))))
  rw [show decide ((1 : Int) < 2) = true from rfl]
  refine Zg (Zd (Zh (Zb0 rfl (Zo (Zd (Zh ?_))))))
  refine Zz (Zh (Zb (st (Zc rfl (st (s_iarr2 arr89 Zcd rfl rfl (.inr ⟨rfl, rfl⟩) (st (Ze rfl (st (Ze rfl ?_))))))))))
  refine Zg (Zd (Zh (Zb (st (Zc rfl (st (Zc rfl (st (Za7 rfl rfl om ?_)))))))))
  refine st (Zq fn95 rfl (bit_any (((hpb.gg0 k1).gg0 k2)).none om) ?_)
  rintro _ w4 ⟨hq3, rfl⟩
  have k4 := Zi hq3 none
  have hz5 := hq3.size
  have hb4 := Zf hb2 k4
  have hz6 := hb4.size
  refine Zg (Zd ?_)
  refine Zba rfl (fun h3 => ?_) (fun h3 => ?_)
  rotate_left
  ·refine Zo (Zab (Zd (Zb (st (Zln (c := 2) rfl rfl rfl dc (st (Zc rfl (Zg ?_))))))))
   refine Zjy (Zh (Zb (st (Zbd rfl rfl ?_))))
   rw [show decide ((2 : Int) < 2) = false from rfl]
   refine Zg (Zd (Zh (Zbv rfl (Zak (Zk (Zk ?_))))))
   refine Zs (Zd (Zh (Zb (st (Zc rfl (st (Ze rfl (Zg ?_))))))))
   refine Zd (Zaa rfl rfl ?_)
   exact ⟨_, rfl, hb4, by rw [kq_bits hlv.1 hA hB, h1, h3]; rfl⟩
  refine Zb (st (Zc rfl (st (Zc rfl (st (s_shll (c := 2) rfl rfl dc dc (st (s_orl (c := 2) rfl rfl dc (st (Ze rfl (Zg ?_)))))))))))
  refine Zab (Zd (Zb (st (Zln (c := 2) rfl rfl rfl dc (st (Zc rfl (Zg (Zjy ?_))))))))
  refine Zh (Zb (st (Zbd rfl rfl ?_)))
  rw [show decide ((2 : Int) < 2) = false from rfl]
  refine Zg (Zd (Zh (Zbv rfl (Zak (Zk (Zk ?_))))))
  refine Zs (Zd (Zh (Zb (st (Zc rfl (st (Ze rfl (Zg ?_))))))))
  refine Zd (Zaa rfl rfl ?_)
  exact ⟨_, rfl, hb4, by rw [kq_bits hlv.1 hA hB, h1, h3]; rfl⟩
 refine Zb (st (Zc rfl (st (Zc rfl (st (s_shll (c := 1) rfl rfl dc dc (st (s_orl (c := 1) rfl rfl dc (st (Ze rfl (Zg ?_)))))))))))
 refine Zab (Zd (Zb (st (Zln (c := 1) rfl rfl rfl dc (st (Zc rfl (Zg (Zjy ?_))))))))
 refine Zh (Zb (st (Zbd rfl rfl ?_)))
 rw [show decide ((1 : Int) < 2) = true from rfl]
 refine Zg (Zd (Zh (Zb0 rfl (Zo (Zd (Zh ?_))))))
 refine Zz (Zh (Zb (st (Zc rfl (st (s_iarr2 arr89 Zcd rfl rfl (.inr ⟨rfl, rfl⟩) (st (Ze rfl (st (Ze rfl ?_))))))))))
 refine Zg (Zd (Zh (Zb (st (Zc rfl (st (Zc rfl (st (Za7 rfl rfl om ?_)))))))))
 refine st (Zq fn95 rfl (bit_any (((hpb.gg0 k1).gg0 k2)).none om) ?_)
 rintro _ w3 ⟨hq2, rfl⟩
 have k3 := Zi hq2 none
 have hz3 := hq2.size
 have hb3 := Zf hb2 k3
 have hz4 := hb3.size
 refine Zg (Zd ?_)
 refine Zba rfl (fun h2 => ?_) (fun h2 => ?_)
 rotate_left
 ·refine Zo (Zab (Zd (Zb (st (Zln (c := 2) rfl rfl rfl dc (st (Zc rfl (Zg ?_))))))))
  refine Zjy (Zh (Zb (st (Zbd rfl rfl ?_))))
  rw [show decide ((2 : Int) < 2) = false from rfl]
  refine Zg (Zd (Zh (Zbv rfl (Zak (Zk (Zk ?_))))))
  refine Zs (Zd (Zh (Zb (st (Zc rfl (st (Ze rfl (Zg ?_))))))))
  refine Zd (Zaa rfl rfl ?_)
  exact ⟨_, rfl, hb3, by rw [kq_bits hlv.1 hA hB, h1, h2]; rfl⟩
 refine Zb (st (Zc rfl (st (Zc rfl (st (s_shll (c := 2) rfl rfl dc dc (st (s_orl (c := 3) rfl rfl dc (st (Ze rfl (Zg ?_)))))))))))
 refine Zab (Zd (Zb (st (Zln (c := 2) rfl rfl rfl dc (st (Zc rfl (Zg (Zjy ?_))))))))
 refine Zh (Zb (st (Zbd rfl rfl ?_)))
 rw [show decide ((2 : Int) < 2) = false from rfl]
 refine Zg (Zd (Zh (Zbv rfl (Zak (Zk (Zk ?_))))))
 refine Zs (Zd (Zh (Zb (st (Zc rfl (st (Ze rfl (Zg ?_))))))))
 refine Zd (Zaa rfl rfl ?_)
 exact ⟨_, rfl, hb3, by rw [kq_bits hlv.1 hA hB, h1, h2]; rfl⟩
end Go.Proofs.Ytfljelnfjbbknaa.Lm
namespace Go.Proofs.Ytfljelnfjbbknaa.Lm
open Go.RowKit Go.Gw
set_option maxHeartbeats 1000000 in
theorem Zkd {w : World} {x y : Int} {n0 : Nat} (hn0 : n0 ≤ w.heap.size) {va : Value} {l : List Nd} {F : Nat → Prop} (hl : Sl Kd.node w F va l) (hcan : Gw.Can l) (hll : l.length ≤ 100000) {px py : Value} (hpx : Sl Kd.u32 w (G 83 n0 w) px (ml x)) (hpy : Sl Kd.u32 w (G 83 n0 w) py (ml y)) (hbx : Bd 50 x) (hby : Bd 50 y) :
  Calls Try.prog 30 [.agg [va].toArray, .agg [.bool (decide (x < 0)), px].toArray, .agg [.bool (decide (y < 0)), py].toArray].toArray w (Zbh w fun v _ => v = .int .u8 (Zcy l x y)) := by
 have hb0 := Below.refl w.heap.size w
 refine enter Try.func30 rfl rfl (Zh (Zb (st (Zbs rfl ?_))))
 intro g1 w1 hg1 hB1 k1 hs1
 change Blk w1 g1 25 [va].toArray at hB1
 have hb1 := Zf hb0 k1
 refine st (Zbs rfl ?_)
 intro g2 w2 hg2 hB2 k2 hs2
 change Blk w2 g2 31 [.bool (decide (x < 0)), px].toArray at hB2
 have hb2 := Zf hb1 k2
 refine st (Zbs rfl ?_)
 intro g3 w3 hg3 hB3 k3 hs3
 change Blk w3 g3 31 [.bool (decide (y < 0)), py].toArray at hB3
 have hb3 := Zf hb2 k3
 refine st (Ze rfl (Zg (Zd (Zh (Zh (Zb (st (Zn Zcb rfl ?_))))))))
 refine st (Zt Zb8 rfl ((hB1.g0 k2).g0 k3).range (j := 0) rfl (st (Zaq Zaw rfl (hl.at0 hb3) (st (Zbu rfl rfl (Zg (Zd ?_)))))))
 refine Zw rfl (fun h1 => ?_) (fun h1 => ?_)
 ·have hnil : l = [] := List.eq_nil_of_length_eq_zero om
  refine Zh (Zb (st (Ze rfl (Zg (Zd (Zaa rfl rfl ?_))))))
  subst hnil
  exact ⟨_, rfl, hb3, rfl⟩
 have hnn : l ≠ [] := by rintro rfl; exact h1 rfl
 have hlv := Zhq hcan.ok hnn
 refine Zo (Zd (Zh ?_))
 refine w_drawS (dd := 8) (td := 7) (cs := [false, false, false, false, false, false, false, false, false, true]) (ψ := PtrG w3.heap.size 89 2 (TwoSl 83 n0 (ml (x + hf (Zag l))) (ml (y + hf (Zag l))))) 10 (Rg w3.heap.size 89 2 (TwoSl 83 n0 (ml (x + hf (Zag l))) (ml (y + hf (Zag l))))) [(some 17, fun v _ => v = .agg [va].toArray), (some 18, fun v _ => v = .int .i64 (Zag l)), (some 19, fun v _ => v = .agg [.bool (decide (x < 0)), px].toArray), (some 20, fun v _ => v = .agg [.bool (decide (y < 0)), py].toArray), (some 21, TupS 83 n0 (ml (x + hf (Zag l))) (ml (y + hf (Zag l))) (inC ⟨x, y, 0⟩ (Zag l))), (some 16, TupS 83 n0 (ml (x + hf (Zag l))) (ml (y + hf (Zag l))) (inC ⟨x, y, 0⟩ (Zag l))), (some 22, AggS 83 n0 (ml (x + hf (Zag l))) (ml (y + hf (Zag l)))), (some 23, fun v _ => v = .bool (inC ⟨x, y, 0⟩ (Zag l))), (some 7, Zg2 w3.heap.size 89 2), (none, fun _ _ => True)] [[], [0], [], [], [1, 2, 3], [4], [5], [5], [], [8, 6]] [false, false, false, false, false, false, false, false, false, false] [(3, (pp g1)), (4, (pp g2)), (5, (pp g3)), (6, .int .u8 0)] sb kr kr Rg.refl (Rg.trans (two_st dc (show n0 ≤ w3.heap.size by omega))) ⟨fun _ _ _ h _ => h, fun _ _ _ h _ => h, fun _ _ _ h _ => h, fun _ _ _ h _ => h, TupS.st dc (show n0 ≤ w3.heap.size by omega), TupS.st dc (show n0 ≤ w3.heap.size by omega), AggS.st dc (show n0 ≤ w3.heap.size by omega), fun _ _ _ h _ => h, Zg2.stG, fun _ _ _ h _ => h, trivial⟩ ⟨nofun, nofun, nofun, nofun, nofun, nofun, nofun, nofun, nofun, nofun, trivial⟩ rfl (fun i h _ => by rcases i with _ | _ | _ | _ | _ | _ | _ | _ | _ | _ | i <;> simp at h ⊢) (PtrG.st (two_st dc (show n0 ≤ w3.heap.size by omega))) ⟨9, rfl, by decide⟩ ?_
 intro w4 k4 hs4
 have hb4 := Zf hb3 k4
 refine ⟨⟨?_, ?_, ?_, ?_, ?_, ?_, ?_, ?_, ?_, ?_, trivial⟩, ?_⟩
 ·intro w5 k5r
  have k5 := Rg.grown k5r om
  refine op1 (Zp Za6 rfl ((((hB1.g0 k2).g0 k3).g0 k4).g0 k5).range rfl ?_)
  exact ⟨rfl, Rg.refl _, nofun, nofun⟩
 ·intro w6 k6r
  have k6 := Rg.grown k6r om
  have hb6 := Zf hb4 k6
  intro v_ hv_; subst v_
  refine op1 (Zq fn43 rfl (Nd.level_any (hl.at0 hb6)) ?_)
  rintro _ w7 ⟨hq1, rfl⟩
  have k7 := Zi hq1 none
  have hz1 := hq1.size
  have hb7 := Zf hb6 k7
  have hz2 := hb7.size
  exact ⟨rfl, Rg.of (k7), nofun, nofun⟩
 ·intro w8 k8r
  have k8 := Rg.grown k8r om
  refine op1 (Zp Zx rfl (((hB2.g0 k3).g0 k4).g0 k8).range rfl ?_)
  exact ⟨rfl, Rg.refl _, nofun, nofun⟩
 ·intro w9 k9r
  have k9 := Rg.grown k9r om
  refine op1 (Zp Zx rfl ((hB3.g0 k4).g0 k9).range rfl ?_)
  exact ⟨rfl, Rg.refl _, nofun, nofun⟩
 ·intro w10 k10r
  have k10 := Rg.grown k10r om
  have hb10 := Zf hb4 k10
  intro v_ hv_; subst v_
  intro v_ hv_; subst v_
  intro v_ hv_; subst v_
  refine op1 (Zq fn58 rfl (spot_any (x := x) (y := y) (n0 := n0) (Zu hn0 hb10) (((((hpx.gg0 k1).gg0 k2).gg0 k3).gg0 k4).gg0 k10) (((((hpy.gg0 k1).gg0 k2).gg0 k3).gg0 k4).gg0 k10) (Bd.le hbx (show 50 ≤ 50 by decide)) (Bd.le hby (show 50 ≤ 50 by decide)) om) ?_)
  rintro _ w11 ⟨hq2, v1, v2, rfl, hS1, hS2⟩
  have k11 := Zi hq2 none
  have hz3 := hq2.size
  have hb11 := Zf hb10 k11
  have hz4 := hb11.size
  exact ⟨⟨_, _, rfl, hS1, hS2⟩, Rg.of (k11), nofun, nofun⟩
 ·intro w12 k12r
  have k12 := Rg.grown k12r om
  rintro _ ⟨v3, v4, rfl, hS3, hS4⟩
  refine op1 (Zc rfl ?_)
  exact ⟨⟨_, _, rfl, hS3, hS4⟩, Rg.refl _, nofun, nofun⟩
 ·intro w13 k13r
  have k13 := Rg.grown k13r om
  rintro _ ⟨v5, v6, rfl, hS5, hS6⟩
  refine op1 (Zad rfl rfl ?_)
  exact ⟨⟨_, _, rfl, hS5, hS6⟩, Rg.refl _, nofun, nofun⟩
 ·intro w14 k14r
  have k14 := Rg.grown k14r om
  rintro _ ⟨v7, v8, rfl, hS7, hS8⟩
  refine op1 (Zad rfl rfl ?_)
  exact ⟨rfl, Rg.refl _, nofun, nofun⟩
 ·intro w15 k15r
  have k15 := Rg.grown k15r om
  refine op1 (Zan zero89 ?_)
  intro g4 w16 hg4 hB4 k16 hs5
  have hz_ := k15.size
  exact ⟨⟨g4, rfl, by omega, _, rfl, hB4⟩, Rg.of k16, nofun, nofun⟩
 ·intro w17 k17r
  have k17 := Rg.grown k17r om
  rintro _ ⟨g5, rfl, hg5, cs1, hc1, hB5⟩ _ ⟨v9, v10, rfl, hS9, hS10⟩
  refine op1 (Zv Zg0 rfl rfl hB5 (by simp only [List.all_cons, List.all_nil, hS9.one, hS10.one, Bool.and_true, Bool.and_self] <;> rfl) rfl hc1 ?_)
  intro w18 hB6 k18 hs6
  have hT1 := two_sto dc om ⟨_, hc1, hB5⟩ k18 hS9 hS10
  exact ⟨trivial, Rg.sto ⟨_, hc1, hB5⟩ hB6 rfl hT1 k18 hg5, nofun, fun _ => ⟨_, rfl, _, rfl, hg5, _, hB6, rfl, hT1⟩⟩
 intro w19 k19r
 have k19 := Rg.grown k19r om
 have hb17 := Zf hb4 k19
 intro v_ hv_; subst v_
 intro v_ hv_; subst v_
 intro v_ hv_; subst v_
 intro v_ hv_; subst v_
 rintro _ ⟨_, _, rfl, _, _⟩ _ ⟨_, _, rfl, _, _⟩ _ ⟨_, _, rfl, _, _⟩
 intro v_ hv_; subst v_
 rintro _ ⟨g6, rfl, hg6, _⟩ hp1
 obtain ⟨_, he1, _, _, hB7, _, v11, v12, rfl, hS11, hS12⟩ := hp1 _ rfl
 cases he1
 have hlt_1 := hB7.lt
 refine st (Ze rfl (Zg (Zd (Zh (Zh (Zb (st (Zc rfl ?_))))))))
 refine st (Zdd rfl (Zg (Zd ?_)))
 refine Zba rfl (fun h2 => ?_) (fun h2 => ?_)
 ·have hin : inC ⟨x, y, 0⟩ (Zag l) = false := by simpa using h2
  refine Zh (Zb (st (Ze rfl (Zg (Zd (Zaa rfl rfl ?_))))))
  exact ⟨_, rfl, hb17, by rw [get_none hcan hin]⟩
 have hin : inC ⟨x, y, 0⟩ (Zag l) = true := by simpa using h2
 have hpos := spot_pos hin
 refine Zo (Zd (Zh (Zh (Zb (st (Zn Zcb rfl (st (Zt Zb8 rfl ((((hB1.g0 k2).g0 k3).g0 k4).g0 k19).range (j := 0) rfl ?_))))))))
 refine st (Zaq Zaw rfl (hl.at0 hb17) (st (Ze rfl (Zg (Zd (Zz ?_))))))
 refine Za2 (α := Int) (fun (n : Int) => [(3, (pp g1)), (7, (pp g6)), (9, .int .i64 n)]) (fun (n : Int) W => Below w.heap.size w W ∧ (0 ≤ n ∧ n ≤ l.length) ∧ (At l n (x + hf (Zag l)) (y + hf (Zag l)) (Zcy l x y)) ∧ (Blk W g1 25 [va].toArray) ∧ (Blk W g2 31 [.bool (decide (x < 0)), px].toArray) ∧ (Blk W g3 31 [.bool (decide (y < 0)), py].toArray) ∧ (Blk W g6 89 [v11, v12].toArray) ∧ (Sl Kd.u32 W (G 83 n0 W) px (ml x)) ∧ (Sl Kd.u32 W (G 83 n0 W) py (ml y)) ∧ (Sl Kd.u32 W (G 83 n0 W) v11 (ml (x + hf (Zag l)))) ∧ (Sl Kd.u32 W (G 83 n0 W) v12 (ml (y + hf (Zag l))))) (fun (n : Int) => n.toNat) ((l.length : Int)) ⟨hb17, by omega, at_start hnn hin, ((((hB1.g0 k2).g0 k3).g0 k4).g0 k19), (((hB2.g0 k3).g0 k4).g0 k19), ((hB3.g0 k4).g0 k19), hB7, (((((hpx.gg0 k1).gg0 k2).gg0 k3).gg0 k4).gg0 k19), (((((hpy.gg0 k1).gg0 k2).gg0 k3).gg0 k4).gg0 k19), hS11, hS12⟩ sb ?_
 rintro n w20 ⟨hb18, hn, hat, hbl0, hbl1, hbl2, hbl3, hsl1_1, hsl2_1, hsl3_0, hsl3_1⟩
 have hz5 := hb18.size
 have hbl0l := hbl0.lt
 have hbl1l := hbl1.lt
 have hbl2l := hbl2.lt
 have hbl3l := hbl3.lt
 refine Zh (Zh (Zb (st (Zc rfl (st (Zch rfl rfl (Zg (Zd ?_))))))))
 refine Zw rfl (fun h3 => ?_) (fun h3 => ?_)
 rotate_left
 ·refine Zak (Zk (Zk (Zs (Zd (Zh (Zb ?_))))))
  refine st (Ze rfl (Zg (Zd (Zaa rfl rfl ?_))))
  exact ⟨_, rfl, hb18, by rw [hat.no om]⟩
 have hnp := h3
 have hlvn := Ze9 hcan.ok (i := n - 1) om om
 refine Zo (Zd (Zz (Zh (Zb (st (Zn Zcb rfl (st (Zt Zb8 rfl hbl0.range (j := 0) rfl ?_))))))))
 refine st (Zc rfl (st (Za7 rfl rfl om (st (Zat Zaw rfl rfl (hl.at0 hb18) om om ?_)))))
 rintro b1 o1 _ ⟨rfl, _⟩ hc3 hF1 hlt1
 have hl_1 := Loc.lt hF1
 refine st (Zp Za1 rfl hc3 rfl ?_)
 have hlt_2 := (hbl0).lt
 have hlt_3 := (hbl1).lt
 have hlt_4 := (hbl2).lt
 have hlt_5 := (hbl3).lt
 refine st (Zan Zcw ?_)
 intro g7 w21 hg7 hB8 k20 hs7
 have hz6 := hb18.size
 have hb19 := Zf hb18 k20
 refine st0 (Zv Za1 rfl rfl hB8 rfl rfl rfl ?_)
 intro w22 hB9 k21 hs8
 have hb20 := belowa hb19 k21
 refine Zg (Zd (Zh (Zb (st (Zn Zaz rfl (st (Zt Za9 rfl hB9.range (j := 0) rfl (st (Zp Zg0 rfl ((hbl3.g0 k20).gne k21 om).range rfl ?_)))))))))
 refine st (Zq fn65 rfl (Zmf (A := (x + hf (Zag l))) (B := (y + hf (Zag l))) (n0 := n0) (Zu hn0 hb20) ((hsl3_0.gg0 k20).ggB k21 hB8 dc om) ((hsl3_1.gg0 k20).ggB k21 hB8 dc om) hpos.1 hpos.2 om) ?_)
 rintro _ w23 ⟨hq3, rfl⟩
 have k22 := Zi hq3 none
 have hz7 := hq3.size
 have hb21 := Zf hb20 k22
 have hz8 := hb21.size
 have hkq1 := Zey ((ix l (n - 1)).lv) ((x + hf (Zag l)) % (2 * hf ((ix l (n - 1)).lv))) ((y + hf (Zag l)) % (2 * hf ((ix l (n - 1)).lv)))
 refine st (Zn Zav rfl (st (Zbi Zb9 rfl rfl om om (st (Zc3 Za9 rfl (hB9.g0 k22).range (j := 1) rfl rfl om om (st (Ze rfl (Zg (Zd (Zh ?_))))))))))
 refine Zh (Zb (st (Zn Zaz rfl (st (Zt Za9 rfl (hB9.g0 k22).range (j := 0) rfl (st (Zbu rfl rfl (Zg (Zd ?_)))))))))
 refine Zw rfl (fun h4 => ?_) (fun h4 => ?_)
 ·refine Zh (Zb (st (Zc rfl (st (Zco (M := 256) rfl rfl Zh5 Zgs rfl (st (Ze rfl (Zg (Zd ?_)))))))))
  refine Zaa rfl rfl ?_
  obtain ⟨e1, e2, e3⟩ := at_leaf hcan.ok hat hnp h4
  unfold Nd.kid at e1
  exact ⟨_, rfl, hb21, by rw [e1, Int.emod_eq_of_lt om om]⟩
 have hkr := Zc1 hcan.ok (i := n - 1) om om om _ hkq1.1 hkq1.2
 unfold Nd.kid at hkr
 refine Zo (Zd (Zb (st (Zc rfl (st (Ze rfl (Zg (Zab ?_))))))))
 exact Zac ((Zae ((ix l (n - 1)).k0) ((ix l (n - 1)).k1) ((ix l (n - 1)).k2) ((ix l (n - 1)).k3) (kq ((ix l (n - 1)).lv) ((x + hf (Zag l)) % (2 * hf ((ix l (n - 1)).lv))) ((y + hf (Zag l)) % (2 * hf ((ix l (n - 1)).lv)))))) ⟨hb21, (at_next hcan.ok hat hnp h4).r, at_next hcan.ok hat hnp h4, (((hbl0.g0 k20).gne k21 om).g0 k22), (((hbl1.g0 k20).gne k21 om).g0 k22), (((hbl2.g0 k20).gne k21 om).g0 k22), (((hbl3.g0 k20).gne k21 om).g0 k22), (((hsl1_1.gg0 k20).ggB k21 hB8 dc om).gg0 k22), (((hsl2_1.gg0 k20).ggB k21 hB8 dc om).gg0 k22), (((hsl3_0.gg0 k20).ggB k21 hB8 dc om).gg0 k22), (((hsl3_1.gg0 k20).ggB k21 hB8 dc om).gg0 k22)⟩ om sb
end Go.Proofs.Ytfljelnfjbbknaa.Lm
namespace Go.Gw
open Go.RowKit
theorem ite_max (i j : Int) : (if i < j then j else i) = max i j := by omega
section
variable {P : Program} {ops : Array Oper} {Q : Exit → Act → World → Prop} {Zao : List Oper} {n : Nat} {D : List Deferred} {ρ : Env} {w : World}
variable {d ty t xt : Nat} {pos : String} {after : Array Edge} {gd : Option (Nat × Bool)} {C : Value → World → Prop} {x0 x1 x2 x3 x4 : Operand} {kd k1 k2 k3 k4 : IntKind} {a b c e f : Int}
theorem s_max5 {ats : Array TypeId} (h0 : opv ρ x0 = some (.int kd a)) (h1 : opv ρ x1 = some (.int k1 b)) (h2 : opv ρ x2 = some (.int k2 c)) (h3 : opv ρ x3 = some (.int k3 e)) (h4 : opv ρ x4 = some (.int k4 f)) (k : C (.int kd (max (max (max (max a b) c) e) f)) w) :
    OpW P ⟨some d, .call { callee := .builtin .max, args := #[x0, x1, x2, x3, x4], argTypes := ats }, ty, pos, after, gd⟩ n D ρ w C := by
  refine Za3 (fun ev he => ?_) k
  simp [execOp, resolve, invoke, builtin, he x0 _ h0, he x1 _ h1, he x2 _ h2, he x3 _ h3, he x4 _ h4, Builtin.max_, Builtin.max2, ite_max]
end
theorem leaf_ks {l : List Nd} (h : Zaf l = true) {i : Int} (h0 : 0 ≤ i) (h1 : i < l.length) (hl : (ix l i).lv = 1) : (0 ≤ (ix l i).k0 ∧ (ix l i).k0 ≤ 255) ∧ (0 ≤ (ix l i).k1 ∧ (ix l i).k1 ≤ 255) ∧ (0 ≤ (ix l i).k2 ∧ (ix l i).k2 ≤ 255) ∧ (0 ≤ (ix l i).k3 ∧ (ix l i).k3 ≤ 255) :=
  ⟨Zhh (k := 0) h h0 h1 dc dc hl, Zhh (k := 1) h h0 h1 dc dc hl, Zhh (k := 2) h h0 h1 dc dc hl, Zhh (k := 3) h h0 h1 dc dc hl⟩
theorem Zlz {l : List Nd} {i : Int} (h0 : 0 ≤ i) (h1 : i < l.length) : Zer (l.take (i + 1).toNat) = if (ix l i).lv = 1 then max (max (max (max (Zer (l.take i.toNat)) (ix l i).k0) (ix l i).k1) (ix l i).k2) (ix l i).k3 else Zer (l.take i.toNat) := by
  have hi : i.toNat < l.length := by omega
  rw [show (i + 1).toNat = i.toNat + 1 by omega, ← List.take_append_getElem hi]
  unfold Zer
  rw [List.foldl_append]
  have e : ix l i = l[i.toNat] := by unfold ix; simp [List.getD_eq_getElem?_getD, List.getElem?_eq_getElem hi]
  rw [e]; rfl
theorem most_all {l : List Nd} {i : Int} (h : i = (l.length : Int)) : Zer (l.take i.toNat) = Zer l := by rw [h, Int.toNat_natCast, List.take_length]
end Go.Gw
namespace Go.Proofs.Ytfljelnfjbbknaa.Lm
open Go.RowKit Go.Gw
set_option maxHeartbeats 1000000 in
theorem most_any {w : World} {n0 : Nat} (hn0 : n0 ≤ w.heap.size) {va : Value} {l : List Nd} {F : Nat → Prop} (hl : Sl Kd.node w F va l) (hcan : Gw.Can l) (hll : l.length ≤ 100000)  :
  Calls Try.prog 33 [.agg [va].toArray].toArray w (Zbh w fun v _ => v = .int .u8 (Zer l)) := by
 have hb0 := Below.refl w.heap.size w
 refine enter Try.func33 rfl rfl (Zh (Zb (st (Zbs rfl ?_))))
 intro g1 w1 hg1 hB1 k1 hs1
 change Blk w1 g1 25 [va].toArray at hB1
 have hb1 := Zf hb0 k1
 refine st (Ze rfl (Zg (Zd (Zh (Zb (st (Ze rfl (Zg ?_))))))))
 refine Zd (Zh (Zh (Zb (st (Zn Zcb rfl (st (Zt Zb8 rfl hB1.range (j := 0) rfl (st (Zaq Zaw rfl (hl.at0 hb1) ?_)))))))))
 refine st (Zc rfl (Zg (Zd (Zz (Za2 (α := Int × Int) (fun ((i, m) : Int × Int) => [(2, .int .u8 0), (3, .int .i64 m), (7, va), (8, .int .i64 (l.length : Int)), (9, .int .i64 i)]) (fun ((i, m) : Int × Int) W => Below w.heap.size w W ∧ (0 ≤ i ∧ i ≤ l.length) ∧ (m = Zer (l.take i.toNat)) ∧ (0 ≤ m ∧ m ≤ 255)) (fun ((i, m) : Int × Int) => (l.length - i).toNat) ((0), (0)) ⟨hb1, by omega, rfl, by omega⟩ sb ?_)))))
 rintro ⟨i, m⟩ w2 ⟨hb2, hi, hm, hmr⟩
 dsimp only at *
 have hz1 := hb2.size
 refine Zh (Zb (st (Zbd rfl rfl (Zg (Zd (Zh ?_))))))
 refine Zw rfl (fun h1 => ?_) (fun h1 => ?_)
 rotate_left
 ·refine Zak (Zk (Zk (Zs (Zd (Zh (Zb ?_))))))
  refine st (Zc rfl (st (Zco (M := 256) rfl rfl Zh5 Zgs rfl (st (Ze rfl (Zg (Zd (Zaa rfl rfl ?_))))))))
  exact ⟨_, rfl, hb2, by rw [← most_all (l := l) (i := i) om, ← hm, Int.emod_eq_of_lt om om]⟩
 have hlt := h1
 have hst_ := Zlz hi.1 hlt
 refine Zo (Zd (Zh (Zz (Zh (Zb (st (Zat Zaw rfl rfl (hl.at0 hb2) om om ?_)))))))
 rintro b1 o1 _ ⟨rfl, _⟩ hc1 hF1 hlt1
 have hl_1 := Loc.lt hF1
 refine st (Zp Za1 rfl hc1 rfl (st (Zan Zcw ?_)))
 intro g2 w3 hg2 hB2 k2 hs2
 have hz2 := hb2.size
 have hb3 := Zf hb2 k2
 refine st0 (Zv Za1 rfl rfl hB2 rfl rfl rfl ?_)
 intro w4 hB3 k3 hs3
 have hb4 := belowa hb3 k3
 refine Zg (Zd (Zh (Zb (st (Zn Zaz rfl (st (Zt Za9 rfl hB3.range (j := 0) rfl (st (Zbu rfl rfl ?_)))))))))
 refine Zg (Zd ?_)
 refine Zw rfl (fun h2 => ?_) (fun h2 => ?_)
 rotate_left
 ·rw [if_neg h2] at hst_
  refine Zo (Zab (Zd (Zb (st (Zah rfl rfl om (st (Zc rfl (Zg ?_))))))))
  exact Zac (((i + 1)), (m)) ⟨hb4, by omega, by rw [hst_, hm], by omega⟩ om sb
 obtain ⟨hk0, hk1, hk2, hk3⟩ := leaf_ks hcan.ok hi.1 hlt h2
 rw [if_pos h2] at hst_
 refine Zb (st (Zc rfl (st (Zn Zav rfl (st (Zbi Zb9 rfl rfl om om (st (Zt Za9 rfl hB3.range (j := 1) rfl (st (Zn Zav rfl (st (Zbi Zb9 rfl rfl om om ?_))))))))))))
 refine st (Zt Za9 rfl hB3.range (j := 2) rfl (st (Zn Zav rfl (st (Zbi Zb9 rfl rfl om om (st (Zt Za9 rfl hB3.range (j := 3) rfl (st (Zn Zav rfl (st (Zbi Zb9 rfl rfl om om (st (Zt Za9 rfl hB3.range (j := 4) rfl ?_)))))))))))))
 refine st (s_max5 rfl rfl rfl rfl rfl (st (Ze rfl (Zg (Zab (Zd (Zb (st (Zah rfl rfl om ?_)))))))))
 refine st (Zc rfl (Zg ?_))
 exact Zac (((i + 1)), ((max (max (max (max m ((ix l i).k0)) ((ix l i).k1)) ((ix l i).k2)) ((ix l i).k3)))) ⟨hb4, by omega, by rw [hst_, hm], by omega⟩ om sb
end Go.Proofs.Ytfljelnfjbbknaa.Lm
namespace Go.Gw
open Go.RowKit
def inR (x v : Int) : Bool := decide (-(hf v) ≤ x ∧ x < hf v)
theorem inR_inC (x y v : Int) : (inR x v && inR y v) = inC ⟨x, y, 0⟩ v := by
  unfold inR inC
  rw [← Bool.decide_and]
  refine decide_eq_decide.2 ?_
  simp only; omega
section
variable {P : Program} {n : Nat} {D : List Deferred} {ρ : Env} {w : World}
theorem w_retc3 {Q : Exit → Act → World → Prop} {fn : Func} {R : Ending → World → Prop} {t u z ty m g tz mz gz : Nat} {cs ds : List Value} {x : Value} (hr : fn.results = #[.tmp u, .cell t ty, .cell z tz]) (ht : RowF P ty m) (htz : RowF P tz mz) (hl2 : look ρ u = some x)
    (hl : look ρ t = some (.pointer (some ⟨g, 0, none⟩))) (hlz : look ρ z = some (.pointer (some ⟨gz, 0, none⟩)))
    (hc : w.rangeAt g 0 cs) (hm : cs.length = m) (hcz : w.rangeAt gz 0 ds) (hmz : ds.length = mz) (h : R (.returned (.tuple #[x, .agg cs.toArray, .agg ds.toArray])) w)
    (hQ : ∀ a w, Q .ret a w = bodyPost P fn R .ret a w := by exact fun _ _ => rfl) : W P .ret Q n [] ρ w := by
  intro a ha
  refine wp_ret ?_
  rw [hQ]
  refine bodyPost_ret (v := .tuple #[x, .agg cs.toArray, .agg ds.toArray]) ?_ ha.defers h
  obtain ⟨dd, hu, hrow, hs⟩ := ht.out
  obtain ⟨dz, huz, hrowz, hsz⟩ := htz.out
  have h1 : a.tmps[t]?.getD undef = .pointer (some ⟨g, 0, none⟩) := by rw [ha.slot t _ hl]; rfl
  have h1z : a.tmps[z]?.getD undef = .pointer (some ⟨gz, 0, none⟩) := by rw [ha.slot z _ hlz]; rfl
  have h2 : a.tmps[u]?.getD undef = x := by rw [ha.slot u _ hl2]; rfl
  have h3 := run_loadVar_mid (P := P) w g 0 ty cs dd hc hu hrow (by rw [hs, hm])
  have h3z := run_loadVar_mid (P := P) w gz 0 tz ds dz hcz huz hrowz (by rw [hsz, hmz])
  simp [results, hr, h1, h1z, h2, asAddr, h3, h3z]
end
def mx4 (m : Int) (n : Nd) (k : Int) : Int := if k = 0 then m else if k = 1 then max m n.k0 else if k = 2 then max (max m n.k0) n.k1 else if k = 3 then max (max (max m n.k0) n.k1) n.k2 else max (max (max (max m n.k0) n.k1) n.k2) n.k3
theorem mx4_step {m : Int} {n : Nd} {k : Int} (h0 : 0 ≤ k) (h1 : k < 4) : mx4 m n (k + 1) = max (mx4 m n k) (n.kid k) := by
  have : k = 0 ∨ k = 1 ∨ k = 2 ∨ k = 3 := by omega
  rcases this with rfl | rfl | rfl | rfl <;> rfl
theorem mx4_end {m : Int} {n : Nd} {k : Int} (h0 : 0 ≤ k ∧ k ≤ 4) (h1 : k = 0 ∨ n.lv = 1) (h2 : k = 4 ∨ n.lv ≠ 1) : mx4 m n k = if n.lv = 1 then max (max (max (max m n.k0) n.k1) n.k2) n.k3 else m := by
  by_cases e : n.lv = 1
  · rw [if_pos e, show k = 4 by omega]; rfl
  · rw [if_neg e, show k = 0 by omega]; rfl
structure RAt (l : List Nd) (n A B C : Int) : Prop where
  r : 0 ≤ n ∧ n ≤ l.length
  no : n = 0 → C = 0
  yes : 0 < n → cat (tr l n) A B = C
  rg : 0 < n → (0 ≤ A ∧ A < 2 * hf (ix l (n - 1)).lv) ∧ (0 ≤ B ∧ B < 2 * hf (ix l (n - 1)).lv)
theorem rat_start {l : List Nd} (hl : l ≠ []) {x y : Int} (hx : inR x (Zag l) = true) (hy : inR y (Zag l) = true) : RAt l l.length (x + hf (Zag l)) (y + hf (Zag l)) (Zcy l x y) := by
  have h0 : l.length ≠ 0 := fun e => hl (List.eq_nil_of_length_eq_zero e)
  have hv : (ix l ((l.length : Int) - 1)).lv = Zag l := by unfold Zag; rw [if_neg h0]
  unfold inR at hx hy; rw [decide_eq_true_eq] at hx hy
  refine ⟨by omega, fun e => by omega, fun _ => rfl, fun _ => ?_⟩
  rw [hv]; omega
theorem rat_next {l : List Nd} (hl : Zaf l = true) {n A B C : Int} (h : RAt l n A B C) (h0 : 0 < n) (hv : (ix l (n - 1)).lv ≠ 1) : RAt l ((ix l (n - 1)).kid (kq (ix l (n - 1)).lv A B)) (Zao (ix l (n - 1)).lv A) (Zao (ix l (n - 1)).lv B) C := by
  have hr := h.r
  have hlv := Ze9 hl (i := n - 1) om om
  have hk := Zey (ix l (n - 1)).lv A B
  have hc := h.yes h0
  have hg := h.rg h0
  rw [get_nd hl om hr.2 hv] at hc
  have kr := Zc1 hl (i := n - 1) om om hv _ hk.1 hk.2
  refine ⟨⟨kr.1, by omega⟩, fun e => ?_, fun _ => hc, fun hp => ?_⟩
  · rw [e, Zc8] at hc; exact hc.symm
  · have e := Zdm hl (i := n - 1) om om hk.1 hk.2 hv om
    rw [e.2.2]
    exact ⟨Zh1 om hg.1, Zh1 om hg.2⟩
theorem rat_leaf {l : List Nd} (hl : Zaf l = true) {n A B C : Int} (h : RAt l n A B C) (h0 : 0 < n) (hv : (ix l (n - 1)).lv = 1) : (ix l (n - 1)).kid (kq (ix l (n - 1)).lv A B) = C ∧ 0 ≤ C ∧ C ≤ 255 := by
  have hr := h.r
  have hc := h.yes h0
  have hg := h.rg h0
  have hk := Zey (ix l (n - 1)).lv A B
  rw [hv, Zhm] at hg
  rw [get_leaf hl om hr.2 hv hg.1 hg.2] at hc
  rw [hv] at hk ⊢
  have hs := Zhh hl (i := n - 1) om om hk.1 hk.2 hv
  rw [hc] at hs
  exact ⟨hc, hs⟩
theorem bd_le {k : Nat} {a b : Int} (h : Bd k b) (h0 : 0 ≤ a) (h1 : a ≤ b) : Bd k a := by unfold Bd at *; omega
theorem bd_rng {v A : Int} (h : 0 ≤ A ∧ A < 2 * hf v) (hv : v ≤ 1329) : Bd 43 A := bd_le (Zfn (Zci hv) (Zci hv) dc dc) h.1 om
theorem level_nil {l : List Nd} (hl : Zaf l = true) (h : Zag l = 0) : l = [] := by
  refine Classical.byContradiction fun e => ?_
  have := Zhq hl e
  omega
theorem rget_none {l : List Nd} (h : Can l) {x y : Int} (hin : inR x (Zag l) = false ∨ inR y (Zag l) = false) : Zcy l x y = 0 := get_none h (by
  rw [← inR_inC]; rcases hin with h | h <;> rw [h] <;> simp)
end Go.Gw
