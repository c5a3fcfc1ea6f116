/- Part of the proof: a library for walks, plain laws, and functions' walks. -/
import Derived.Test.YtfljelnfjbbknaaM6
import Derived.Test.YtfljelnfjbbknaaM4
import Derived.Test.YtfljelnfjbbknaaM5
import Derived.Test.YtfljelnfjbbknaaM2
set_option maxRecDepth 20000
set_option linter.unusedSimpArgs false
set_option linter.unusedVariables false
namespace Go.Proofs.Ytfljelnfjbbknaa.Lm
open Go.RowKit Go.Gw
set_option maxHeartbeats 1000000 in
theorem rshl_any {w : World} {n0 : Nat} (hn0 : n0 ≤ w.heap.size) {a : Value} {n : Int} {xs : List Int} (ha : Sl Kd.u32 w (G 83 n0 w) a xs) (hla : xs.length ≤ 100000) :
    Calls Try.prog 102 [a, .int .i64 n].toArray w (Zbi w fun v W => Sl Kd.u32 W (G 83 n0 W) v (shlL xs n)) := by
  have hb0 := Below.refl w.heap.size w
  have hln1 := ha.lenle
  have hla2 := Ze2 (Zaw ha)
  refine enter Try.func102 rfl rfl (Zh (Zb (st (Ze rfl (Zg (Zd (Zh ?_)))))))
  refine Zh (Zb (st (Zc rfl (st (Zbf rfl rfl (st (Zc rfl ?_)))))))
  refine Za0 7 rfl (fun h1 => ?_) (fun h1 => ?_)
  · refine Zj rfl rfl (Zj rfl rfl (st (Zo rfl rfl (Zg (Zd (Zb5 rfl (Zh ?_)))))))
    refine Zb (st (Ze rfl (Zg (Zd (Zx rfl rfl ?_)))))
    exact ⟨_, rfl, hb0, by unfold shlL; rw [if_neg (by rw [fit_no (by omega)]; decide)]; exact nilG⟩
  refine stg (Zc rfl (stg (Zcj rfl rfl (st (Zo rfl rfl (Zg (Zd ?_)))))))
  refine Zw rfl (fun h2 => ?_) (fun h2 => ?_)
  · refine Zh (Zb (st (Ze rfl (Zg (Zd (Zx rfl rfl ?_))))))
    exact ⟨_, rfl, hb0, by unfold shlL; rw [if_neg (by rw [fit_no (by omega)]; decide)]; exact nilG⟩
  refine Zn (Zd (Zh ?_))
  refine w_drawC 6 (fun a b => Below (w.heap.size) a b) (Big0 (w.heap.size)) (Big (w.heap.size)) [(some 11, fun v _ => v = .int .i64 n), (some 12, fun v W => Gw.Own Kd.bool 4 w.heap.size W (fun _ => False) v (List.replicate (n).toNat false)), (some 13, fun v _ => v = a), (some 14, fun v W => Sl Kd.bool W (fun _ => False) v (tb (nv xs))), (some 15, fun v W => Gw.Own Kd.bool 4 w.heap.size W (fun _ => False) v (List.replicate (n).toNat false ++ tb (nv xs))), (some 16, fun v W => Sl Kd.u32 W (G 83 n0 W) v (tl (bv (List.replicate (n).toNat false ++ tb (nv xs)))))] [[], [0], [], [2], [1, 3], [4]] [[], [0], [], [2], [1, 3, 0, 2], [4, 1, 3, 0, 2]] [[], [4], [], [4], [], []] [false, false, false, false, true, false] [true, false, true, false, false, false] [(0, a), (1, .int .i64 n), (4, .slice none 0 0)] (by exact ⟨rfl, rfl, rfl, trivial⟩) (by kernel_rfl) (by kernel_rfl) (by kernel_rfl) rfl (Below.refl _) (fun _ _ _ h k => h.trans k) (fun _ _ h => h.below) (fun _ _ h => h.below) ⟨fun _ _ _ h _ => by exact h, fun _ _ _ h _ => by exact h, fun _ _ _ h k => h.g0 k.2, fun _ _ _ h _ => by exact h, fun _ _ _ h _ => by exact h, fun _ _ _ h k => h.g0 k.2, fun _ _ _ h k => h.g0 k.2, fun _ _ _ h k => h.gg0 k.2, trivial⟩ ?_
  intro w1 k1 hs1
  have hb1 := Zf hb0 k1
  refine ⟨⟨?_, ?_, ?_, ?_, ?_, ?_, trivial⟩, ?_⟩
  · intro w8z_ kb
    have kgz_ := Zi (show Below w1.heap.size w1 w8z_ by rw [hs1]; exact kb) none
    have hbz_ := Zf hb1 kgz_
    have hzz_ := hbz_.size
    have hez_ := kb.size
    exact op1 (Zc rfl ⟨rfl, ⟨by omega, World.grownBy.refl _ _⟩⟩)
  · intro w8z_ kb
    have kgz_ := Zi (show Below w1.heap.size w1 w8z_ by rw [hs1]; exact kb) none
    have hbz_ := Zf hb1 kgz_
    have hzz_ := hbz_.size
    have hez_ := kb.size
    rintro _ rfl
    refine op1 (Ziv (K := Kd.bool) (base := w.heap.size) (F := fun _ => False) Zcm rfl (by omega) (by omega) (by omega) (fun _ _ => ⟨rfl, trivial⟩) (by omega) (fun _ h => h.elim) ?_)
    intro vz_ wz_ hOz_ kz_
    exact ⟨hOz_, ⟨by omega, kz_⟩⟩
  · intro w8z_ kb
    have kgz_ := Zi (show Below w1.heap.size w1 w8z_ by rw [hs1]; exact kb) none
    have hbz_ := Zf hb1 kgz_
    have hzz_ := hbz_.size
    have hez_ := kb.size
    exact op1 (Zc rfl ⟨rfl, ⟨by omega, World.grownBy.refl _ _⟩⟩)
  · intro w8z_ kb
    have kgz_ := Zi (show Below w1.heap.size w1 w8z_ by rw [hs1]; exact kb) none
    have hbz_ := Zf hb1 kgz_
    have hzz_ := hbz_.size
    have hez_ := kb.size
    intro v_ hv_; subst v_
    refine op1 (Zp fn85 rfl (Ze1 ((ha.at0 hbz_)).none (by omega)) ?_)
    rintro vz_ wz_ ⟨hqz_, hSz_⟩
    exact ⟨hSz_, ⟨by omega, Zi hqz_ none⟩⟩
  · intro w8z_ kb
    have kgz_ := Zi (show Below w1.heap.size w1 w8z_ by rw [hs1]; exact kb) none
    have hbz_ := Zf hb1 kgz_
    have hzz_ := hbz_.size
    have hez_ := kb.size
    intro v12z_ h12z_ v14z_ h14z_
    refine op1 (Zjj (K := Kd.bool) Zcm rfl rfl h12z_ Zff h14z_ Zb2 (by simp; omega) (by simp; omega) (by omega) (fun _ h => h.elim) ?_)
    intro vz_ wz_ hPz_ kz_ horz_ hzz2_
    exact ⟨hPz_, ⟨by omega, _, kz_, fun g hg => (h12z_.lt g hg).1⟩⟩
  · intro w8z_ kb
    have kgz_ := Zi (show Below w1.heap.size w1 w8z_ by rw [hs1]; exact kb) none
    have hbz_ := Zf hb1 kgz_
    have hzz_ := hbz_.size
    have hez_ := kb.size
    intro v15z_ h15z_
    refine op1 (Zp fn87 rfl (rof_any (n0 := n0) (Zy hn0 hbz_) h15z_.sl (by simp; omega)) ?_)
    rintro vz_ wz_ ⟨hqz_, hSz_⟩
    exact ⟨hSz_, ⟨by omega, Zi hqz_ none⟩⟩
  intro w2 kb
  have k2 := Zi (show Below w1.heap.size w1 w2 by rw [hs1]; exact kb) none
  have hb2 := Zf hb1 k2
  have hz1 := hb2.size
  rintro _ rfl v12 _
  intro v_ hv_; subst v_
  rintro v14 _ v15 h15 v16 h16
  refine st (Ze rfl (Zg (Zd (Zx rfl rfl ?_))))
  exact ⟨_, rfl, hb2, by unfold shlL; rw [if_pos (fit_yes (by omega) (by omega)), ← shl_bits (Zam (Zaw ha))]; exact h16⟩
set_option maxHeartbeats 1000000 in
theorem same_any {w : World} {a b : Value} {xs ys : List Int} (ha : Sl Kd.u32 w (fun _ => False) a xs) (hb : Sl Kd.u32 w (fun _ => False) b ys) :
    Calls Try.prog 56 [a, b].toArray w (Zbi w fun v _ => v = .bool (decide (xs = ys))) := by
  have hb0 := Below.refl w.heap.size w
  have hln1 := ha.lenle
  have hln2 := hb.lenle
  refine enter Try.func56 rfl rfl (Zh (Zb (st (Ze rfl (Zg (Zd (Zh ?_)))))))
  refine Zh (Zb (st (Zc rfl (st (Zar Zbq rfl (ha.at0 hb0) (st (Zc rfl (st (Zar Zbq rfl (hb.at0 hb0) (st (s_ne rfl rfl ?_)))))))))))
  refine Zg (Zd ?_)
  refine Zw rfl (fun h1 => ?_) (fun h1 => ?_)
  · refine Zh (Zb (st (Ze rfl (Zg (Zd (Zx rfl rfl ?_))))))
    exact ⟨_, rfl, hb0, by rw [decide_eq_false fun e => h1 (by rw [e])]⟩
  refine Zn (Zd (Zh (Zh (Zb (st (Ze rfl (Zg ?_)))))))
  refine Zd (Zz (Za4 (α := Int) (fun (i : Int) => [(0, a), (1, b), (5, .int .i64 i)]) (fun (i : Int) W => Below w.heap.size w W ∧ (0 ≤ i ∧ i ≤ xs.length) ∧ (∀ j : Int, 0 ≤ j → j < i → ix xs j = ix ys j)) (fun (i : Int) => (xs.length - i).toNat) (0) ⟨hb0, by omega, fun j _ _ => by omega⟩ (by exact ⟨rfl, rfl, rfl, trivial⟩) ?_))
  rintro i w1 ⟨hb1, hi, hs⟩
  have hz1 := hb1.size
  refine Zh (Zh (Zb (st (Zc rfl (st (Zc rfl (st (Zar Zbq rfl (ha.at0 hb1) (st (Zbf rfl rfl ?_))))))))))
  refine Zg (Zd ?_)
  refine Zw rfl (fun h2 => ?_) (fun h2 => ?_)
  rotate_left
  · refine Zan (Zk (Zk (Zt (Zd (Zh (Zb ?_))))))
    refine st (Ze rfl (Zg (Zd (Zx rfl rfl ?_))))
    exact ⟨_, rfl, hb1, by rw [decide_eq_true (samel_all (by omega) fun j j0 j1 => hs j j0 (by omega))]⟩
  refine Zn (Zd (Zh (Zz (Zh ?_))))
  obtain ⟨b1, o1, _, hat1, ⟨rfl, hr1⟩, hc1, hF1, hlt1⟩ := (ha.at0 hb1).elem i (by omega) (by omega)
  have hl_1 := Loc.lt hF1
  obtain ⟨b2, o2, _, hat2, ⟨rfl, hr2⟩, hc2, hF2, hlt2⟩ := (hb.at0 hb1).elem i (by omega) (by omega)
  have hl_2 := Loc.lt hF2
  refine Zby 9 (fun a b => a.grownBy b none) [(some 17, Is <| a), (some 18, Is <| .int .i64 i), (some 19, Is <| .pointer (some ⟨b1, o1, none⟩)), (some 20, Is <| .int .u32 (ix xs i)), (some 21, Is <| b), (some 22, Is <| .int .i64 i), (some 23, Is <| .pointer (some ⟨b2, o2, none⟩)), (some 24, Is <| .int .u32 (ix ys i)), (some 25, Is <| .bool (decide ((ix xs i) ≠ (ix ys i))))] [[], [], [0, 1], [2], [], [], [4, 5], [6], [3, 7]] [(0, a), (1, b), (5, .int .i64 i)] (by exact ⟨rfl, rfl, rfl, trivial⟩) (by kernel_rfl) (by kernel_rfl) Za (fun _ _ _ => Zaa) ⟨kv, kv, kv, kv, kv, kv, kv, kv, kv, trivial⟩ ?_
  intro w2 k1 hs1
  have hb2 := Zf hb1 k1
  refine ⟨⟨?_, ?_, ?_, ?_, ?_, ?_, ?_, ?_, ?_, trivial⟩, ?_⟩
  · intro w3 k2
    refine op1 (Zc rfl ?_)
    exact ⟨rfl, Za _⟩
  · intro w4 k3
    refine op1 (Zc rfl ?_)
    exact ⟨rfl, Za _⟩
  · intro w5 k4
    intro v_ hv_; subst v_
    rintro _ rfl
    refine op1 (Zbm Zbq rfl rfl hat1 ?_)
    exact ⟨rfl, Za _⟩
  · intro w6 k5
    rintro _ rfl
    refine op1 (Zs Zc4 rfl (Zai (Zai hc1 k1) k5) (j := 0) rfl ?_)
    exact ⟨rfl, Za _⟩
  · intro w7 k6
    refine op1 (Zc rfl ?_)
    exact ⟨rfl, Za _⟩
  · intro w8 k7
    refine op1 (Zc rfl ?_)
    exact ⟨rfl, Za _⟩
  · intro w9 k8
    intro v_ hv_; subst v_
    rintro _ rfl
    refine op1 (Zbm Zbq rfl rfl hat2 ?_)
    exact ⟨rfl, Za _⟩
  · intro w10 k9
    rintro _ rfl
    refine op1 (Zs Zc4 rfl (Zai (Zai hc2 k1) k9) (j := 0) rfl ?_)
    exact ⟨rfl, Za _⟩
  · intro w11 k10
    rintro _ rfl _ rfl
    refine op1 (s_ne rfl rfl ?_)
    exact ⟨rfl, Za _⟩
  intro w12 k11
  have hb12 := Zf hb2 k11
  intro v_ hv_; subst v_
  rintro _ rfl _ rfl _ rfl
  intro v_ hv_; subst v_
  rintro _ rfl _ rfl _ rfl _ rfl
  refine Zg (Zd ?_)
  refine Zw rfl (fun h3 => ?_) (fun h3 => ?_)
  · refine Zh (Zb (st (Ze rfl (Zg (Zd (Zx rfl rfl ?_))))))
    exact ⟨_, rfl, hb12, by rw [decide_eq_false fun e => h3 (by rw [e])]⟩
  refine Zn (Zab (Zd (Zb (st (Zc rfl (st (Zaj rfl rfl (by omega) (st (Ze rfl ?_)))))))))
  refine Zg ?_
  exact Zad ((i + 1)) ⟨hb12, by omega, fun j j0 j1 => if q : j = i then by rw [q]; simpa using h3 else hs j j0 (by omega)⟩ (by omega) (by exact ⟨rfl, rfl, rfl, trivial⟩)
end Go.Proofs.Ytfljelnfjbbknaa.Lm
namespace Go.Proofs.Ytfljelnfjbbknaa.Lm
open Go.RowKit Go.Gw
set_option maxHeartbeats 1000000 in
theorem Zey {w : World} {ng : Bool} {a : Value} {xs : List Int} (ha : Sl Kd.u32 w (fun _ => False) a xs) :
    Calls Try.prog 27 [.agg [.bool ng, a].toArray].toArray w (Zbi w fun v _ => v = .bool (bigR ng xs)) := by
  have hb0 := Below.refl w.heap.size w
  refine enter Try.func27 rfl rfl (Zh (Zb (st (Zcb rfl ?_))))
  intro g1 w1 hg1 hB1 k1 hs1
  change Blk w1 g1 31 [.bool ng, a].toArray at hB1
  have hb1 := Zf hb0 k1
  refine st (Ze rfl (Zg (Zd (Zh (Zb (st (Zm Zbl rfl (st (Zs Zbz rfl hB1.range (j := 1) rfl ?_)))))))))
  refine st (Zp fn57 rfl (rright_any ((ha.at0 hb1)).none) ?_)
  rintro _ w2 ⟨hq1, rfl⟩
  have k2 := Zi hq1 none
  have hz1 := hq1.size
  have hb2 := Zf hb1 k2
  have hz2 := hb2.size
  refine st (Zc rfl ?_)
  refine Zdu 6 rfl (fun h1 => ?_) (fun h1 => ?_)
  rotate_left
  · refine Zj rfl rfl (Zj rfl rfl (Zj rfl rfl (Zak rfl rfl (Zak rfl rfl (Zak rfl rfl (Zak rfl rfl ?_))))))
    refine Zj rfl rfl (Zj rfl rfl (st (Zo rfl rfl (st (Ze rfl (Zg (Zd (Zx rfl rfl ?_))))))))
    exact ⟨_, rfl, hb2, by unfold bigR; rw [h1]; first | rfl | (rw [Bool.true_and, Bool.not_true, Bool.false_or]; exact congrArg Value.bool (decide_eq_decide.2 (by omega)))⟩
  refine stg (Zm Zcy rfl (stg (Zs Zdv rfl (hB1.g0 k2).range (j := 0) rfl (stg (Zc rfl ?_)))))
  refine Zdu 9 rfl (fun h2 => ?_) (fun h2 => ?_)
  rotate_left
  · refine Zj rfl rfl (Zj rfl rfl (Zj rfl rfl (Zj rfl rfl (stg (Zo rfl rfl (stg (Zdk rfl (st (Zo rfl rfl ?_)))))))))
    refine st (Ze rfl (Zg (Zd (Zx rfl rfl ?_))))
    exact ⟨_, rfl, hb2, by unfold bigR; rw [h1, h2]; first | rfl | (rw [Bool.true_and, Bool.not_true, Bool.false_or]; exact congrArg Value.bool (decide_eq_decide.2 (by omega)))⟩
  refine stg (Zm Zbl rfl (stg (Zs Zbz rfl (hB1.g0 k2).range (j := 1) rfl (stg (Zar Zbq rfl (ha.at0 hb2) (stg (Zbr rfl rfl (stg (Zo rfl rfl (stg (s_notP rfl (st (Zo rfl rfl ?_)))))))))))))
  refine st (Ze rfl (Zg (Zd (Zx rfl rfl ?_))))
  exact ⟨_, rfl, hb2, by unfold bigR; rw [h1, h2]; first | rfl | (rw [Bool.true_and, Bool.not_true, Bool.false_or]; exact congrArg Value.bool (decide_eq_decide.2 (by omega)))⟩
set_option maxHeartbeats 1000000 in
theorem Zfe {w : World} {n0 : Nat} (hn0 : n0 ≤ w.heap.size) {ng : Bool} {a : Value} {m : Int} (ha : Sl Kd.u32 w (G 83 n0 w) a (tl m)) (hm : 0 ≤ m) :
    Calls Try.prog 76 [.bool ng, a].toArray w (Zbi w fun v W => Zb6 83 n0 W v (sg ng m)) := by
  have hb0 := Below.refl w.heap.size w
  have hln1 := ha.lenle
  refine enter Try.func76 rfl rfl (Zh (Zb (st (Zat Zcw ?_))))
  intro g1 w1 hg1 hB1 k1 hs1
  have hz1 := hb0.size
  have hb1 := Zf hb0 k1
  refine Zg (Zd (Zh (Zb (st (Zc rfl (st (Zc rfl ?_)))))))
  refine Zdu 6 rfl (fun h1 => ?_) (fun h1 => ?_)
  rotate_left
  · refine Zj rfl rfl (Zj rfl rfl (Zj rfl rfl (st (Zo rfl rfl (st (Zc rfl (st (Zbo (ps := [(0, .tmp 10), (1, .tmp 11)]) (ccs := [#[.bool false], #[a]]) (cells := [.bool false, a]) rfl (by simp only [List.map_cons, List.map_nil, ha.cells1] <;> rfl) (by kernel_rfl) (st0 (Zae Zaf rfl rfl hB1 (by simp only [List.all_cons, List.all_nil, ha.one, Bool.and_true, Bool.and_self] <;> rfl) rfl rfl ?_))))))))))
    intro w3 hB3 k3 hs3
    have hb3 := Zv hb1 k3 (by first | omega | (have h9 := (hb1).size; omega))
    refine Zg (Zd (Zcs rfl Zaf rfl hB3.range rfl ?_))
    exact ⟨_, rfl, hb3, _, by rw [sg_pos hm h1], by rw [← sg_ml ng hm]; exact (((ha.at0 hb3)).unlocG hb3)⟩
  refine stg (Zc rfl (stg (Zar Zbq rfl (ha.at0 hb1) (stg (Zcj rfl rfl (st (Zo rfl rfl (st (Zc rfl (st (Zbo (ps := [(0, .tmp 10), (1, .tmp 11)]) (ccs := [#[.bool (decide (0 < ((tl m).length : Int)))], #[a]]) (cells := [.bool (decide (0 < ((tl m).length : Int))), a]) rfl (by simp only [List.map_cons, List.map_nil, ha.cells1] <;> rfl) (by kernel_rfl) (st0 (Zae Zaf rfl rfl hB1 (by simp only [List.all_cons, List.all_nil, ha.one, Bool.and_true, Bool.and_self] <;> rfl) rfl rfl ?_)))))))))))))
  intro w2 hB2 k2 hs2
  have hb2 := Zv hb1 k2 (by first | omega | (have h9 := (hb1).size; omega))
  refine Zg (Zd (Zcs rfl Zaf rfl hB2.range rfl ?_))
  exact ⟨_, rfl, hb2, _, by rw [sg_neg hm h1], by rw [← sg_ml ng hm]; exact (((ha.at0 hb2)).unlocG hb2)⟩
set_option maxHeartbeats 1000000 in
theorem of_any {w : World} {n0 : Nat} (hn0 : n0 ≤ w.heap.size) {n : Int} (hn : -9223372036854775808 ≤ n ∧ n ≤ 9223372036854775807) :
    Calls Try.prog 49 [.int .i64 n].toArray w (Zbi w fun v W => Zb6 83 n0 W v (n)) := by
  have hb0 := Below.refl w.heap.size w
  refine enter Try.func49 rfl rfl (Zh (Zb (st (Zat Zcw ?_))))
  intro g1 w1 hg1 hB1 k1 hs1
  have hz1 := hb0.size
  have hb1 := Zf hb0 k1
  refine Zg (Zd (Zh (Zb (st (Zc rfl (st (Zct (M := 18446744073709551616) rfl rfl Zjn Zea rfl (st (Ze rfl ?_)))))))))
  refine Zg (Zd (Zh (Zh (Zb (st (Zc rfl (st (Zbf rfl rfl ?_))))))))
  refine Zg (Zd ?_)
  refine Zw rfl (fun h1 => ?_) (fun h1 => ?_)
  rotate_left
  · refine Zn (Zd (Zh (Zb (st (Zc rfl (st (Zbf rfl rfl (st (Zc rfl ?_)))))))))
    refine st (Zct (M := 4294967296) rfl rfl Zea Zdn rfl (st (Zc rfl (st (Zic (p := 4294967296) rfl rfl (by decide) (by decide) (st (Zct (M := 4294967296) rfl rfl Zea Zdn rfl (st (Zay (ps := [(0, .tmp 13), (1, .tmp 16)]) (ccs := [#[.int .u32 ((n % 18446744073709551616) % 4294967296)], #[.int .u32 (((n % 18446744073709551616) / 4294967296) % 4294967296)]]) (e := 83) (cells := [.int .u32 ((n % 18446744073709551616) % 4294967296), .int .u32 (((n % 18446744073709551616) / 4294967296) % 4294967296)]) rfl rfl (by kernel_rfl) (by decide) nz83 ?_)))))))))
    intro g3 w6 hg3 hB4 k6 hs4
    have hb6 := Zf hb1 k6
    have hz7 := hb6.size
    have hS4 := Zik (F := fun _ => False) ([((n % 18446744073709551616) % 4294967296), (((n % 18446744073709551616) / 4294967296) % 4294967296)] : List Int) hB4 (fun h => h) rfl (by first | decide | simp) (by intro x hx; simp at hx; omega)
    refine st (Zp fn81 rfl (norm_any (n0 := n0) (Zy hn0 hb6) (Sl.litG hB4 hS4) (by first | omega | (simp; done) | (simp; omega))) ?_)
    rintro v3 w7 ⟨hq3, hS5⟩
    have k7 := Zi hq3 none
    have hz8 := hq3.size
    have hb7 := Zf hb6 k7
    have hz9 := hb7.size
    refine st (Zp fn76 rfl (Zfe (m := nv ([((n % 18446744073709551616) % 4294967296), (((n % 18446744073709551616) / 4294967296) % 4294967296)] : List Int)) (n0 := n0) (Zy hn0 hb7) hS5 (Zam (by intro x hx; simp at hx; omega))) ?_)
    rintro _ w8 ⟨hq4, v4, rfl, hS6⟩
    have k8 := Zi hq4 none
    have hz10 := hq4.size
    have hb8 := Zf hb7 k8
    have hz11 := hb8.size
    refine st0 (Zae Zaf rfl rfl (((hB1.g0 k6).g0 k7).g0 k8) (by simp only [List.all_cons, List.all_nil, hS6.one, Bool.and_true, Bool.and_self] <;> rfl) rfl rfl ?_)
    intro w9 hB5 k9 hs5
    have hb9 := Zv hb8 k9 (by first | omega | (have h9 := (hb8).size; omega))
    refine Zg (Zd (Zcs rfl Zaf rfl hB5.range rfl ?_))
    exact ⟨_, rfl, hb9, Zav (of_pos hn h1) (hS6.ggB k9 (((hB1.g0 k6).g0 k7).g0 k8) (by decide) (by omega))⟩
  refine Zb (st (Zc rfl (st (s_negk (M := 18446744073709551616) rfl rfl rfl (st (Ze rfl (Zg (Zd (Zh ?_)))))))))
  refine Zb (st (Zc rfl (st (Zbf rfl rfl (st (Zc rfl (st (Zct (M := 4294967296) rfl rfl Zea Zdn rfl (st (Zc rfl (st (Zic (p := 4294967296) rfl rfl (by decide) (by decide) ?_))))))))))))
  refine st (Zct (M := 4294967296) rfl rfl Zea Zdn rfl (st (Zay (ps := [(0, .tmp 13), (1, .tmp 16)]) (ccs := [#[.int .u32 (((-(n % 18446744073709551616)) % 18446744073709551616) % 4294967296)], #[.int .u32 ((((-(n % 18446744073709551616)) % 18446744073709551616) / 4294967296) % 4294967296)]]) (e := 83) (cells := [.int .u32 (((-(n % 18446744073709551616)) % 18446744073709551616) % 4294967296), .int .u32 ((((-(n % 18446744073709551616)) % 18446744073709551616) / 4294967296) % 4294967296)]) rfl rfl (by kernel_rfl) (by decide) nz83 ?_)))
  intro g2 w2 hg2 hB2 k2 hs2
  have hb2 := Zf hb1 k2
  have hz2 := hb2.size
  have hS1 := Zik (F := fun _ => False) ([(((-(n % 18446744073709551616)) % 18446744073709551616) % 4294967296), ((((-(n % 18446744073709551616)) % 18446744073709551616) / 4294967296) % 4294967296)] : List Int) hB2 (fun h => h) rfl (by first | decide | simp) (by intro x hx; simp at hx; omega)
  refine st (Zp fn81 rfl (norm_any (n0 := n0) (Zy hn0 hb2) (Sl.litG hB2 hS1) (by first | omega | (simp; done) | (simp; omega))) ?_)
  rintro v1 w3 ⟨hq1, hS2⟩
  have k3 := Zi hq1 none
  have hz3 := hq1.size
  have hb3 := Zf hb2 k3
  have hz4 := hb3.size
  refine st (Zp fn76 rfl (Zfe (m := nv ([(((-(n % 18446744073709551616)) % 18446744073709551616) % 4294967296), ((((-(n % 18446744073709551616)) % 18446744073709551616) / 4294967296) % 4294967296)] : List Int)) (n0 := n0) (Zy hn0 hb3) hS2 (Zam (by intro x hx; simp at hx; omega))) ?_)
  rintro _ w4 ⟨hq2, v2, rfl, hS3⟩
  have k4 := Zi hq2 none
  have hz5 := hq2.size
  have hb4 := Zf hb3 k4
  have hz6 := hb4.size
  refine st0 (Zae Zaf rfl rfl (((hB1.g0 k2).g0 k3).g0 k4) (by simp only [List.all_cons, List.all_nil, hS3.one, Bool.and_true, Bool.and_self] <;> rfl) rfl rfl ?_)
  intro w5 hB3 k5 hs3
  have hb5 := Zv hb4 k5 (by first | omega | (have h9 := (hb4).size; omega))
  refine Zg (Zd (Zcs rfl Zaf rfl hB3.range rfl ?_))
  exact ⟨_, rfl, hb5, Zav (of_neg hn h1) (hS3.ggB k5 (((hB1.g0 k2).g0 k3).g0 k4) (by decide) (by omega))⟩
set_option maxHeartbeats 1000000 in
theorem badd_any0 {w : World} {n0 : Nat} (hn0 : n0 ≤ w.heap.size)  {a : Value} {n : Int} {b : Value} {m : Int} (ha : Sl Kd.u32 w (G 83 n0 w) a (ml n)) (hb : Sl Kd.u32 w (G 83 n0 w) b (ml m)) (hbn : Bd 90000 n) (hbm : Bd 90000 m)  :
    Calls Try.prog 78 [.agg [.bool (decide (n < 0)), a].toArray, .agg [.bool (decide (m < 0)), b].toArray].toArray w (Zbi w fun v W => Zb6 83 n0 W v (n + m)) := by
  have hb0 := Below.refl w.heap.size w
  have hln := Zf1 hbn
  have hlm := Zf1 hbm
  have hnn := Zc2 n
  have hnm := Zc2 m
  refine enter Try.func78 rfl rfl (Zh (Zb (st (Zcb rfl ?_))))
  intro g1 w1 hg1 hB1 k1 hs1
  change Blk w1 g1 31 [.bool (decide (n < 0)), a].toArray at hB1
  have hb1 := Zf hb0 k1
  refine st (Zcb rfl ?_)
  intro g2 w2 hg2 hB2 k2 hs2
  change Blk w2 g2 31 [.bool (decide (m < 0)), b].toArray at hB2
  have hb2 := Zf hb1 k2
  have hlt_1 := ((hB1.g0 k2)).lt
  have hlt_2 := (hB2).lt
  refine st (Zat Zcw ?_)
  intro g3 w3 hg3 hB3 k3 hs3
  have hz1 := hb2.size
  have hb3 := Zf hb2 k3
  refine Zg (Zd (Zh (Zh (Zb (st (Zm Zcy rfl (st (Zs Zdv rfl ((hB1.g0 k2).g0 k3).range (j := 0) rfl ?_))))))))
  refine st (Zm Zcy rfl (st (Zs Zdv rfl (hB2.g0 k3).range (j := 0) rfl (st (s_eqbool bool4 rfl rfl (Zg (Zd ?_)))))))
  refine Zbd rfl (fun h1 => ?_) (fun h1 => ?_)
  · refine Zh ?_
    refine Zby 8 (fun a b => a.grownBy b none) [(some 12, Is <| .pointer (some ⟨g1, 0 + 0, none⟩)), (some 13, Is <| .bool (decide (n < 0))), (some 14, Is <| .pointer (some ⟨g1, 0 + 1, none⟩)), (some 15, fun v _ => Sl Kd.u32 w (G 83 n0 w) v (ml n)), (some 16, Is <| .pointer (some ⟨g2, 0 + 1, none⟩)), (some 17, fun v _ => Sl Kd.u32 w (G 83 n0 w) v (ml m)), (some 18, fun v W => Sl Kd.u32 W (G 83 n0 W) v (tl (nv (ml n) + nv (ml m)))), (some 19, fun v W => Zb6 83 n0 W v (sg (decide (n < 0)) (nv (ml n) + nv (ml m))))] [[], [0], [], [2], [], [4], [3, 5], [1, 6]] [(2, .pointer (some ⟨g1, 0, none⟩)), (3, .pointer (some ⟨g2, 0, none⟩)), (4, .pointer (some ⟨g3, 0, none⟩))] (by exact ⟨rfl, rfl, rfl, trivial⟩) (by kernel_rfl) (by kernel_rfl) Za (fun _ _ _ => Zaa) ⟨kv, kv, kv, fun _ _ _ h _ => h, kv, fun _ _ _ h _ => h, fun _ _ _ h k => h.gg0 k, fun _ _ _ h k => h.g0 k, trivial⟩ ?_
    intro w6 k6 hs4
    have hb4 := Zf hb3 k6
    refine ⟨⟨?_, ?_, ?_, ?_, ?_, ?_, ?_, ?_, trivial⟩, ?_⟩
    · intro w7 k7
      refine op1 (Zm Zcy rfl ?_)
      exact ⟨rfl, Za _⟩
    · intro w8 k8
      rintro _ rfl
      refine op1 (Zs Zdv rfl ((((hB1.g0 k2).g0 k3).g0 k6).g0 k8).range (j := 0) rfl ?_)
      exact ⟨rfl, Za _⟩
    · intro w9 k9
      refine op1 (Zm Zbl rfl ?_)
      exact ⟨rfl, Za _⟩
    · intro w10 k10
      rintro _ rfl
      refine op1 (Zs Zbz rfl ((((hB1.g0 k2).g0 k3).g0 k6).g0 k10).range (j := 1) rfl ?_)
      exact ⟨ha, Za _⟩
    · intro w11 k11
      refine op1 (Zm Zbl rfl ?_)
      exact ⟨rfl, Za _⟩
    · intro w12 k12
      rintro _ rfl
      refine op1 (Zs Zbz rfl (((hB2.g0 k3).g0 k6).g0 k12).range (j := 1) rfl ?_)
      exact ⟨hb, Za _⟩
    · intro w13 k13
      have hb11 := Zf hb4 k13
      rintro v3 hS3 v4 hS4
      refine op1 (Zp fn100 rfl (add_any (n0 := n0) (Zy hn0 hb11) (((hS3.at0 hb11)).unlocG hb11) (((hS4.at0 hb11)).unlocG hb11) (by first | omega | (simp; done) | (simp; omega)) (by first | omega | (simp; done) | (simp; omega))) ?_)
      rintro v5 w14 ⟨hq3, hS5⟩
      have k14 := Zi hq3 none
      have hz2 := hq3.size
      have hb12 := Zf hb11 k14
      have hz3 := hb12.size
      exact ⟨hS5, k14⟩
    · intro w15 k15
      have hb13 := Zf hb4 k15
      rintro _ rfl v6 hS6
      refine op1 (Zp fn76 rfl (Zfe (m := nv (ml n) + nv (ml m)) (n0 := n0) (Zy hn0 hb13) hS6 (by first | omega | exact Zje (by omega) | exact shrN_nn (by first | omega | exact Zam (Zek _)) | exact Zam (Zek _))) ?_)
      rintro _ w16 ⟨hq4, v7, rfl, hS7⟩
      have k16 := Zi hq4 none
      have hz4 := hq4.size
      have hb14 := Zf hb13 k16
      have hz5 := hb14.size
      exact ⟨⟨_, rfl, hS7⟩, k16⟩
    intro w17 k17
    have hb15 := Zf hb4 k17
    rintro _ rfl _ rfl _ rfl v8 hS8 _ rfl v9 hS9 v10 hS10 _ ⟨v11, rfl, hS11⟩
    refine st0 (Zae Zaf rfl rfl ((hB3.g0 k6).g0 k17) (by simp only [List.all_cons, List.all_nil, hS11.one, Bool.and_true, Bool.and_self] <;> rfl) rfl rfl ?_)
    intro w18 hB4 k18 hs5
    have hb16 := Zv hb15 k18 (by first | omega | (have h9 := (hb15).size; omega))
    refine Zg (Zd (Zcs rfl Zaf rfl hB4.range rfl ?_))
    exact ⟨_, rfl, hb16, Zav (sg_add (eq_of_beq h1)) (hS11.ggB k18 ((hB3.g0 k6).g0 k17) (by decide) (by omega))⟩
  refine Zn (Zd (Zh (Zh (Zb (st (Zm Zbl rfl (st (Zs Zbz rfl ((hB1.g0 k2).g0 k3).range (j := 1) rfl ?_))))))))
  refine st (Zm Zbl rfl (st (Zs Zbz rfl (hB2.g0 k3).range (j := 1) rfl (st (Zp fn82 rfl (cmp_any ((ha.at0 hb3)).none ((hb.at0 hb3)).none) ?_)))))
  rintro _ w19 ⟨hq5, rfl⟩
  have k19 := Zi hq5 none
  have hz6 := hq5.size
  have hb17 := Zf hb3 k19
  have hz7 := hb17.size
  refine st (Zbf rfl rfl (Zg (Zd ?_)))
  refine Zw rfl (fun h2 => ?_) (fun h2 => ?_)
  rotate_left
  · have hc2 := cmpI_nneg h2
    refine Zn (Zd (Zh (Zb (st (Zm Zbl rfl (st (Zs Zbz rfl (((hB1.g0 k2).g0 k3).g0 k19).range (j := 1) rfl (st (Zm Zbl rfl ?_)))))))))
    refine st (Zs Zbz rfl ((hB2.g0 k3).g0 k19).range (j := 1) rfl (st (Zp fn101 rfl (sub_any (n0 := n0) (Zy hn0 hb17) (((ha.at0 hb17)).unlocG hb17) (((hb.at0 hb17)).unlocG hb17) (by first | omega | (simp; done) | (simp; omega)) (by first | omega | (simp; done) | (simp; omega))) ?_)))
    rintro _ w25 ⟨hq8, v14, rfl, hS14⟩
    have k25 := Zi hq8 none
    have hz12 := hq8.size
    have hb23 := Zf hb17 k25
    have hz13 := hb23.size
    refine st (Zc rfl (st (Zag rfl rfl (st (Zag rfl rfl (st (Ze rfl (st (Ze rfl (Zg (Zd ?_)))))))))))
    refine Zh (Zb (st (Zm Zcy rfl (st (Zs Zdv rfl ((((hB1.g0 k2).g0 k3).g0 k19).g0 k25).range (j := 0) rfl (st (Zc rfl (st (Zp fn76 rfl (Zfe (m := nv (ml n) - nv (ml m)) (n0 := n0) (Zy hn0 hb23) hS14 (by first | omega | exact Zje (by omega) | exact shrN_nn (by first | omega | exact Zam (Zek _)) | exact Zam (Zek _))) ?_)))))))))
    rintro _ w26 ⟨hq9, v15, rfl, hS15⟩
    have k26 := Zi hq9 none
    have hz14 := hq9.size
    have hb24 := Zf hb23 k26
    have hz15 := hb24.size
    refine st0 (Zae Zaf rfl rfl (((hB3.g0 k19).g0 k25).g0 k26) (by simp only [List.all_cons, List.all_nil, hS15.one, Bool.and_true, Bool.and_self] <;> rfl) rfl rfl ?_)
    intro w27 hB8 k27 hs9
    have hb25 := Zv hb24 k27 (by first | omega | (have h9 := (hb24).size; omega))
    refine Zg (Zd (Zcs rfl Zaf rfl hB8.range rfl ?_))
    exact ⟨_, rfl, hb25, Zav (sg_sub (fun e => by rw [e, beq_self_eq_true] at h1; cases h1) hc2) (hS15.ggB k27 (((hB3.g0 k19).g0 k25).g0 k26) (by decide) (by omega))⟩
  have hc2 := cmpI_neg h2
  refine Zb (st (Zu Zaf rfl ((hB2.g0 k3).g0 k19).range rfl (st (Zu Zaf rfl (((hB1.g0 k2).g0 k3).g0 k19).range rfl (st0 (Zae Zaf rfl rfl (((hB1.g0 k2).g0 k3).g0 k19) (by simp only [List.all_cons, List.all_nil, hb.one, Bool.and_true, Bool.and_self] <;> rfl) rfl rfl ?_))))))
  intro w20 hB5 k20 hs6
  have hb18 := Zv hb17 k20 (by first | omega | (have h9 := (hb17).size; omega))
  refine st0 (Zae Zaf rfl rfl (((hB2.g0 k3).g0 k19).gne k20 (by omega)) (by simp only [List.all_cons, List.all_nil, ha.one, Bool.and_true, Bool.and_self] <;> rfl) rfl rfl ?_)
  intro w21 hB6 k21 hs7
  have hb19 := Zv hb18 k21 (by first | omega | (have h9 := (hb18).size; omega))
  refine Zg (Zd (Zh (Zb (st (Zm Zbl rfl (st (Zs Zbz rfl (hB5.gne k21 (by omega)).range (j := 1) rfl (st (Zm Zbl rfl ?_)))))))))
  refine st (Zs Zbz rfl hB6.range (j := 1) rfl (st (Zp fn101 rfl (sub_any (n0 := n0) (Zy hn0 hb19) (((hb.at0 hb19)).unlocG hb19) (((ha.at0 hb19)).unlocG hb19) (by first | omega | (simp; done) | (simp; omega)) (by first | omega | (simp; done) | (simp; omega))) ?_)))
  rintro _ w22 ⟨hq6, v12, rfl, hS12⟩
  have k22 := Zi hq6 none
  have hz8 := hq6.size
  have hb20 := Zf hb19 k22
  have hz9 := hb20.size
  refine st (Zc rfl (st (Zag rfl rfl (st (Zag rfl rfl (st (Ze rfl (st (Ze rfl (Zg (Zd ?_)))))))))))
  refine Zh (Zb (st (Zm Zcy rfl (st (Zs Zdv rfl ((hB5.gne k21 (by omega)).g0 k22).range (j := 0) rfl (st (Zc rfl (st (Zp fn76 rfl (Zfe (m := nv (ml m) - nv (ml n)) (n0 := n0) (Zy hn0 hb20) hS12 (by first | omega | exact Zje (by omega) | exact shrN_nn (by first | omega | exact Zam (Zek _)) | exact Zam (Zek _))) ?_)))))))))
  rintro _ w23 ⟨hq7, v13, rfl, hS13⟩
  have k23 := Zi hq7 none
  have hz10 := hq7.size
  have hb21 := Zf hb20 k23
  have hz11 := hb21.size
  refine st0 (Zae Zaf rfl rfl (((((hB3.g0 k19).gne k20 (by omega)).gne k21 (by omega)).g0 k22).g0 k23) (by simp only [List.all_cons, List.all_nil, hS13.one, Bool.and_true, Bool.and_self] <;> rfl) rfl rfl ?_)
  intro w24 hB7 k24 hs8
  have hb22 := Zv hb21 k24 (by first | omega | (have h9 := (hb21).size; omega))
  refine Zg (Zd (Zcs rfl Zaf rfl hB7.range rfl ?_))
  exact ⟨_, rfl, hb22, Zav ((sg_sub (fun e => by rw [e, beq_self_eq_true] at h1; cases h1) (Int.le_of_lt hc2)).trans (Int.add_comm m n)) (hS13.ggB k24 (((((hB3.g0 k19).gne k20 (by omega)).gne k21 (by omega)).g0 k22).g0 k23) (by decide) (by omega))⟩
theorem badd_any {w : World} {n0 : Nat} (hn0 : n0 ≤ w.heap.size)  {vn : Value} {n : Int} {vm : Value} {m : Int} (hn : Zb6 83 n0 w vn n) (hm : Zb6 83 n0 w vm m) (hbn : Bd 90000 n) (hbm : Bd 90000 m)  :
    Calls Try.prog 78 [vn, vm].toArray w (Zbi w fun v W => Zb6 83 n0 W v (n + m)) := by
  obtain ⟨sn, rfl, kn⟩ := hn
  obtain ⟨sm, rfl, km⟩ := hm
  exact badd_any0 hn0 kn km hbn hbm
set_option maxHeartbeats 1000000 in
theorem bpow_any {w : World} {n0 : Nat} (hn0 : n0 ≤ w.heap.size) {k : Int} :
    Calls Try.prog 42 [.int .i64 k].toArray w (Zbi w fun v W => Zb6 83 n0 W v (Zf8 1 k)) := by
  have hb0 := Below.refl w.heap.size w
  refine enter Try.func42 rfl rfl (Zh (Zb (st (Zat Zcw ?_))))
  intro g1 w1 hg1 hB1 k1 hs1
  have hz1 := hb0.size
  have hb1 := Zf hb0 k1
  refine Zg (Zd (Zh (Zb (st (Zay (ps := [(0, .const (.int .u32 1))]) (ccs := [#[.int .u32 1]]) (e := 83) (cells := [.int .u32 1]) rfl rfl (by kernel_rfl) (by decide) nz83 ?_)))))
  intro g2 w2 hg2 hB2 k2 hs2
  have hb2 := Zf hb1 k2
  have hz2 := hb2.size
  have hS1 := Zik (F := fun _ => False) ([1] : List Int) hB2 (fun h => h) rfl (by first | decide | simp)
  refine st (Zc rfl (st (Zp fn77 rfl (shl_any (n0 := n0) (Zy hn0 hb2) (Sl.litG hB2 hS1) (by first | omega | (simp; done) | (simp; omega))) ?_)))
  rintro v1 w3 ⟨hq1, hS2⟩
  have k3 := Zi hq1 none
  have hz3 := hq1.size
  have hb3 := Zf hb2 k3
  have hz4 := hb3.size
  refine st (Zp fn76 rfl (Zfe (m := Zf8 (nv ([1] : List Int)) k) (n0 := n0) (Zy hn0 hb3) (by have h9 := hS2; rw [shlL_tl] at h9; exact h9) (Zje (by decide))) ?_)
  rintro _ w4 ⟨hq2, v2, rfl, hS3⟩
  have k4 := Zi hq2 none
  have hz5 := hq2.size
  have hb4 := Zf hb3 k4
  have hz6 := hb4.size
  refine st0 (Zae Zaf rfl rfl (((hB1.g0 k2).g0 k3).g0 k4) (by simp only [List.all_cons, List.all_nil, hS3.one, Bool.and_true, Bool.and_self] <;> rfl) rfl rfl ?_)
  intro w5 hB3 k5 hs3
  have hb5 := Zv hb4 k5 (by first | omega | (have h9 := (hb4).size; omega))
  refine Zg (Zd (Zcs rfl Zaf rfl hB3.range rfl ?_))
  exact ⟨_, rfl, hb5, Zav (pow_val k) (hS3.ggB k5 (((hB1.g0 k2).g0 k3).g0 k4) (by decide) (by omega))⟩
set_option maxHeartbeats 1000000 in
theorem Zmd {w : World} {ng mg : Bool} {a b : Value} {xs ys : List Int} (ha : Sl Kd.u32 w (fun _ => False) a xs) (hb : Sl Kd.u32 w (fun _ => False) b ys) :
    Calls Try.prog 24 [.agg [.bool ng, a].toArray, .agg [.bool mg, b].toArray].toArray w (Zbi w fun v _ => v = .bool (decide (ng = mg ∧ xs = ys))) := by
  have hb0 := Below.refl w.heap.size w
  refine enter Try.func24 rfl rfl (Zh (Zb (st (Zcb rfl ?_))))
  intro g1 w1 hg1 hB1 k1 hs1
  change Blk w1 g1 31 [.bool ng, a].toArray at hB1
  have hb1 := Zf hb0 k1
  refine st (Zcb rfl ?_)
  intro g2 w2 hg2 hB2 k2 hs2
  change Blk w2 g2 31 [.bool mg, b].toArray at hB2
  have hb2 := Zf hb1 k2
  refine st (Ze rfl (Zg (Zd (Zh (Zb (st (Zm Zcy rfl (st (Zs Zdv rfl (hB1.g0 k2).range (j := 0) rfl ?_)))))))))
  refine st (Zm Zcy rfl (st (Zs Zdv rfl hB2.range (j := 0) rfl (st (s_eqbool bool4 rfl rfl (st (Zc rfl ?_)))))))
  refine Zdu 10 rfl (fun h1 => ?_) (fun h1 => ?_)
  rotate_left
  · refine Zj rfl rfl (Zj rfl rfl (Zj rfl rfl (Zj rfl rfl (Zj rfl rfl (st (Zo rfl rfl (st (Ze rfl ?_))))))))
    refine Zg (Zd (Zx rfl rfl ?_))
    exact ⟨_, rfl, hb2, by rw [decide_eq_false (fun e => by rw [e.1, beq_self_eq_true] at h1; cases h1)]⟩
  refine stg (Zm Zbl rfl (stg (Zs Zbz rfl (hB1.g0 k2).range (j := 1) rfl (stg (Zm Zbl rfl (stg (Zs Zbz rfl hB2.range (j := 1) rfl (stg (Zp fn56 rfl (same_any ((ha.at0 hb2)).none ((hb.at0 hb2)).none) ?_)))))))))
  rintro _ w3 ⟨hq1, rfl⟩
  have k3 := Zi hq1 none
  have hz1 := hq1.size
  have hb3 := Zf hb2 k3
  have hz2 := hb3.size
  refine st (Zo rfl rfl (st (Ze rfl (Zg (Zd (Zx rfl rfl ?_))))))
  exact ⟨_, rfl, hb3, congrArg Value.bool (decide_eq_decide.2 ⟨fun e => ⟨eq_of_beq h1, e⟩, fun e => e.2⟩)⟩
end Go.Proofs.Ytfljelnfjbbknaa.Lm
namespace Go.Proofs.Ytfljelnfjbbknaa.Lm
open Go.RowKit Go.Gw
set_option maxHeartbeats 1000000 in
theorem Zgt {w : World} {n0 : Nat} (hn0 : n0 ≤ w.heap.size) {ng : Bool} {a : Value} {xs : List Int} (ha : Sl Kd.u32 w (G 83 n0 w) a xs) (hla : xs.length ≤ 100000) :
    Calls Try.prog 53 [.bool ng, a].toArray w (Zbi w fun v W => Zb6 83 n0 W v (sg ng (nv xs))) := by
  have hb0 := Below.refl w.heap.size w
  have hln1 := ha.lenle
  refine enter Try.func53 rfl rfl (Zh (Zb (st (Zat Zcw ?_))))
  intro g1 w1 hg1 hB1 k1 hs1
  have hz1 := hb0.size
  have hb1 := Zf hb0 k1
  refine Zg (Zd (Zh (Zb (st (Zc rfl (st (Zp fn84 rfl (rnorm_any (n0 := n0) (Zy hn0 hb1) (((ha.at0 hb1)).unlocG hb1) (by first | omega | (simp; done) | (simp; omega))) ?_)))))))
  rintro v1 w2 ⟨hq1, hS1⟩
  have k2 := Zi hq1 none
  have hz2 := hq1.size
  have hb2 := Zf hb1 k2
  have hz3 := hb2.size
  refine st (Ze rfl (Zg (Zd (Zh (Zb (st (Zc rfl (st (Zc rfl ?_)))))))))
  refine Zdu 8 rfl (fun h1 => ?_) (fun h1 => ?_)
  rotate_left
  · refine Zj rfl rfl (Zj rfl rfl (Zj rfl rfl (st (Zo rfl rfl (st (Zc rfl (st (Zbo (ps := [(0, .tmp 12), (1, .tmp 13)]) (ccs := [#[.bool false], #[v1]]) (cells := [.bool false, v1]) rfl (by simp only [List.map_cons, List.map_nil, hS1.cells1] <;> rfl) (by kernel_rfl) (st0 (Zae Zaf rfl rfl (hB1.g0 k2) (by simp only [List.all_cons, List.all_nil, hS1.one, Bool.and_true, Bool.and_self] <;> rfl) rfl rfl ?_))))))))))
    intro w4 hB3 k4 hs3
    have hb4 := Zv hb2 k4 (by first | omega | (have h9 := (hb2).size; omega))
    refine Zg (Zd (Zcs rfl Zaf rfl hB3.range rfl ?_))
    have hm := Zam (Zaw ha)
    exact ⟨_, rfl, hb4, _, by rw [sg_pos hm h1], by rw [← sg_ml ng hm]; exact (hS1.ggB k4 (hB1.g0 k2) (by decide) (by omega))⟩
  refine stg (Zc rfl (stg (Zar Zbq rfl hS1 (stg (Zcj rfl rfl (st (Zo rfl rfl (st (Zc rfl (st (Zbo (ps := [(0, .tmp 12), (1, .tmp 13)]) (ccs := [#[.bool (decide (0 < ((tl (nv xs)).length : Int)))], #[v1]]) (cells := [.bool (decide (0 < ((tl (nv xs)).length : Int))), v1]) rfl (by simp only [List.map_cons, List.map_nil, hS1.cells1] <;> rfl) (by kernel_rfl) (st0 (Zae Zaf rfl rfl (hB1.g0 k2) (by simp only [List.all_cons, List.all_nil, hS1.one, Bool.and_true, Bool.and_self] <;> rfl) rfl rfl ?_)))))))))))))
  intro w3 hB2 k3 hs2
  have hb3 := Zv hb2 k3 (by first | omega | (have h9 := (hb2).size; omega))
  refine Zg (Zd (Zcs rfl Zaf rfl hB2.range rfl ?_))
  have hm := Zam (Zaw ha)
  exact ⟨_, rfl, hb3, _, by rw [sg_neg hm h1], by rw [← sg_ml ng hm]; exact (hS1.ggB k3 (hB1.g0 k2) (by decide) (by omega))⟩
set_option maxHeartbeats 1000000 in
theorem rof2_any {w : World} {n0 : Nat} (hn0 : n0 ≤ w.heap.size) {n : Int} (hn : -9223372036854775808 ≤ n ∧ n ≤ 9223372036854775807) :
    Calls Try.prog 20 [.int .i64 n].toArray w (Zbi w fun v W => Zb6 83 n0 W v (n)) := by
  have hb0 := Below.refl w.heap.size w
  refine enter Try.func20 rfl rfl (Zh (Zb (st (Zat Zcw ?_))))
  intro g1 w1 hg1 hB1 k1 hs1
  have hz1 := hb0.size
  have hb1 := Zf hb0 k1
  refine Zg (Zd (Zh (Zb (st (Zc rfl (st (Zct (M := 18446744073709551616) rfl rfl Zjn Zea rfl (st (Ze rfl ?_)))))))))
  refine Zg (Zd (Zh (Zh (Zb (st (Zc rfl (st (Zbf rfl rfl ?_))))))))
  refine Zg (Zd ?_)
  refine Zw rfl (fun h1 => ?_) (fun h1 => ?_)
  rotate_left
  · refine Zn (Zd (Zh (Zb (st (Zc rfl (st (Zbf rfl rfl (st (Zc rfl ?_)))))))))
    refine st (Zet rfl rfl (by omega) (by omega) (st (Zct (M := 4294967296) rfl rfl Zea Zdn rfl (st (Zc rfl (st (s_quok (M := 18446744073709551616) rfl rfl rfl rfl (by omega) (by omega) (st (Zct (M := 4294967296) rfl rfl Zea Zdn rfl (st (Zay (ps := [(0, .tmp 14), (1, .tmp 17)]) (ccs := [#[.int .u32 (((n % 18446744073709551616) % 4294967296) % 4294967296)], #[.int .u32 (((n % 18446744073709551616) / 4294967296) % 4294967296)]]) (e := 83) (cells := [.int .u32 (((n % 18446744073709551616) % 4294967296) % 4294967296), .int .u32 (((n % 18446744073709551616) / 4294967296) % 4294967296)]) rfl rfl (by kernel_rfl) (by decide) nz83 ?_)))))))))))
    intro g3 w5 hg3 hB4 k5 hs4
    have hb5 := Zf hb1 k5
    have hz5 := hb5.size
    have hS3 := Zik (F := fun _ => False) ([(((n % 18446744073709551616) % 4294967296) % 4294967296), (((n % 18446744073709551616) / 4294967296) % 4294967296)] : List Int) hB4 (fun h => h) rfl (by first | decide | simp) (by intro x hx; simp at hx; omega)
    refine st (Zp fn53 rfl (Zgt (n0 := n0) (Zy hn0 hb5) (Sl.litG hB4 hS3) (by first | omega | (simp; done) | (simp; omega))) ?_)
    rintro _ w6 ⟨hq2, v2, rfl, hS4⟩
    have k6 := Zi hq2 none
    have hz6 := hq2.size
    have hb6 := Zf hb5 k6
    have hz7 := hb6.size
    refine st0 (Zae Zaf rfl rfl ((hB1.g0 k5).g0 k6) (by simp only [List.all_cons, List.all_nil, hS4.one, Bool.and_true, Bool.and_self] <;> rfl) rfl rfl ?_)
    intro w7 hB5 k7 hs5
    have hb7 := Zv hb6 k7 (by first | omega | (have h9 := (hb6).size; omega))
    refine Zg (Zd (Zcs rfl Zaf rfl hB5.range rfl ?_))
    exact ⟨_, rfl, hb7, Zav (rof_pos hn h1) (hS4.ggB k7 ((hB1.g0 k5).g0 k6) (by decide) (by omega))⟩
  refine Zb (st (Zc rfl (st (s_negk (M := 18446744073709551616) rfl rfl rfl (st (Ze rfl (Zg (Zd (Zh ?_)))))))))
  refine Zb (st (Zc rfl (st (Zbf rfl rfl (st (Zc rfl (st (Zet rfl rfl (by omega) (by omega) (st (Zct (M := 4294967296) rfl rfl Zea Zdn rfl (st (Zc rfl ?_))))))))))))
  refine st (s_quok (M := 18446744073709551616) rfl rfl rfl rfl (by omega) (by omega) (st (Zct (M := 4294967296) rfl rfl Zea Zdn rfl (st (Zay (ps := [(0, .tmp 14), (1, .tmp 17)]) (ccs := [#[.int .u32 ((((-(n % 18446744073709551616)) % 18446744073709551616) % 4294967296) % 4294967296)], #[.int .u32 ((((-(n % 18446744073709551616)) % 18446744073709551616) / 4294967296) % 4294967296)]]) (e := 83) (cells := [.int .u32 ((((-(n % 18446744073709551616)) % 18446744073709551616) % 4294967296) % 4294967296), .int .u32 ((((-(n % 18446744073709551616)) % 18446744073709551616) / 4294967296) % 4294967296)]) rfl rfl (by kernel_rfl) (by decide) nz83 ?_)))))
  intro g2 w2 hg2 hB2 k2 hs2
  have hb2 := Zf hb1 k2
  have hz2 := hb2.size
  have hS1 := Zik (F := fun _ => False) ([((((-(n % 18446744073709551616)) % 18446744073709551616) % 4294967296) % 4294967296), ((((-(n % 18446744073709551616)) % 18446744073709551616) / 4294967296) % 4294967296)] : List Int) hB2 (fun h => h) rfl (by first | decide | simp) (by intro x hx; simp at hx; omega)
  refine st (Zp fn53 rfl (Zgt (n0 := n0) (Zy hn0 hb2) (Sl.litG hB2 hS1) (by first | omega | (simp; done) | (simp; omega))) ?_)
  rintro _ w3 ⟨hq1, v1, rfl, hS2⟩
  have k3 := Zi hq1 none
  have hz3 := hq1.size
  have hb3 := Zf hb2 k3
  have hz4 := hb3.size
  refine st0 (Zae Zaf rfl rfl ((hB1.g0 k2).g0 k3) (by simp only [List.all_cons, List.all_nil, hS2.one, Bool.and_true, Bool.and_self] <;> rfl) rfl rfl ?_)
  intro w4 hB3 k4 hs3
  have hb4 := Zv hb3 k4 (by first | omega | (have h9 := (hb3).size; omega))
  refine Zg (Zd (Zcs rfl Zaf rfl hB3.range rfl ?_))
  exact ⟨_, rfl, hb4, Zav (rof_neg hn h1) (hS2.ggB k4 ((hB1.g0 k2).g0 k3) (by decide) (by omega))⟩
set_option maxHeartbeats 1000000 in
theorem rminus_any0 {w : World} {n0 : Nat} (hn0 : n0 ≤ w.heap.size)  {a : Value} {n : Int} (ha : Sl Kd.u32 w (G 83 n0 w) a (ml n)) (hbn : Bd 90000 n)  :
    Calls Try.prog 48 [.agg [.bool (decide (n < 0)), a].toArray].toArray w (Zbi w fun v W => Zb6 83 n0 W v (-n)) := by
  have hb0 := Below.refl w.heap.size w
  have hln := Zf1 hbn
  have hnn := Zc2 n
  refine enter Try.func48 rfl rfl (Zh (Zb (st (Zcb rfl ?_))))
  intro g1 w1 hg1 hB1 k1 hs1
  change Blk w1 g1 31 [.bool (decide (n < 0)), a].toArray at hB1
  have hb1 := Zf hb0 k1
  have hlt_1 := (hB1).lt
  refine st (Zat Zcw ?_)
  intro g2 w2 hg2 hB2 k2 hs2
  have hz1 := hb1.size
  have hb2 := Zf hb1 k2
  refine Zg (Zd (Zh (Zb (st (Zm Zcy rfl (st (Zs Zdv rfl (hB1.g0 k2).range (j := 0) rfl (st (s_notP rfl ?_)))))))))
  refine st (Zm Zbl rfl (st (Zs Zbz rfl (hB1.g0 k2).range (j := 1) rfl (st (Zp fn53 rfl (Zgt (n0 := n0) (Zy hn0 hb2) (((ha.at0 hb2)).unlocG hb2) (by first | omega | (simp; done) | (simp; omega))) ?_)))))
  rintro _ w3 ⟨hq1, v1, rfl, hS1⟩
  have k3 := Zi hq1 none
  have hz2 := hq1.size
  have hb3 := Zf hb2 k3
  have hz3 := hb3.size
  refine st0 (Zae Zaf rfl rfl (hB2.g0 k3) (by simp only [List.all_cons, List.all_nil, hS1.one, Bool.and_true, Bool.and_self] <;> rfl) rfl rfl ?_)
  intro w4 hB3 k4 hs3
  have hb4 := Zv hb3 k4 (by first | omega | (have h9 := (hb3).size; omega))
  refine Zg (Zd (Zcs rfl Zaf rfl hB3.range rfl ?_))
  exact ⟨_, rfl, hb4, Zav (by rw [Zc2]; exact sg_minv n) (hS1.ggB k4 (hB2.g0 k3) (by decide) (by omega))⟩
theorem Zjs {w : World} {n0 : Nat} (hn0 : n0 ≤ w.heap.size)  {vn : Value} {n : Int} (hn : Zb6 83 n0 w vn n) (hbn : Bd 90000 n)  :
    Calls Try.prog 48 [vn].toArray w (Zbi w fun v W => Zb6 83 n0 W v (-n)) := by
  obtain ⟨sn, rfl, kn⟩ := hn
  exact rminus_any0 hn0 kn hbn
set_option maxHeartbeats 1000000 in
theorem rbadd_any0 {w : World} {n0 : Nat} (hn0 : n0 ≤ w.heap.size)  {a : Value} {n : Int} {b : Value} {m : Int} (ha : Sl Kd.u32 w (G 83 n0 w) a (ml n)) (hb : Sl Kd.u32 w (G 83 n0 w) b (ml m)) (hbn : Bd 90000 n) (hbm : Bd 90000 m)  :
    Calls Try.prog 22 [.agg [.bool (decide (n < 0)), a].toArray, .agg [.bool (decide (m < 0)), b].toArray].toArray w (Zbi w fun v W => Zb6 83 n0 W v (n + m)) := by
  have hb0 := Below.refl w.heap.size w
  have hal : (tl (nv (ml n) + nv (ml m))).length ≤ 90001 := by rw [Zc2, Zc2]; exact Zll (by omega) (by have h1 := (Zf0 (i := 90001) hbn hbm (by decide) (by decide)); have h2 := (bd_sub (i := 90001) hbn hbm (by decide) (by decide)); unfold Bd at *; omega)
  have hsl : (tl (nv (ml n) - nv (ml m))).length ≤ 90001 := by rw [Zc2, Zc2]; by_cases h0 : ((n.natAbs : Nat) : Int) - m.natAbs ≤ 0; (rw [Zfn h0]; exact Nat.zero_le _); exact Zll (by omega) (by have h1 := (Zf0 (i := 90001) hbn hbm (by decide) (by decide)); have h2 := (bd_sub (i := 90001) hbn hbm (by decide) (by decide)); unfold Bd at *; omega)
  have hsl2 : (tl (nv (ml m) - nv (ml n))).length ≤ 90001 := by rw [Zc2, Zc2]; by_cases h0 : ((m.natAbs : Nat) : Int) - n.natAbs ≤ 0; (rw [Zfn h0]; exact Nat.zero_le _); exact Zll (by omega) (by have h1 := (Zf0 (i := 90001) hbn hbm (by decide) (by decide)); have h2 := (bd_sub (i := 90001) hbn hbm (by decide) (by decide)); unfold Bd at *; omega)
  have hln := Zf1 hbn
  have hlm := Zf1 hbm
  have hnn := Zc2 n
  have hnm := Zc2 m
  refine enter Try.func22 rfl rfl (Zh (Zb (st (Zcb rfl ?_))))
  intro g1 w1 hg1 hB1 k1 hs1
  change Blk w1 g1 31 [.bool (decide (n < 0)), a].toArray at hB1
  have hb1 := Zf hb0 k1
  refine st (Zcb rfl ?_)
  intro g2 w2 hg2 hB2 k2 hs2
  change Blk w2 g2 31 [.bool (decide (m < 0)), b].toArray at hB2
  have hb2 := Zf hb1 k2
  have hlt_1 := ((hB1.g0 k2)).lt
  have hlt_2 := (hB2).lt
  refine st (Zat Zcw ?_)
  intro g3 w3 hg3 hB3 k3 hs3
  have hz1 := hb2.size
  have hb3 := Zf hb2 k3
  refine Zg (Zd (Zh (Zh (Zb (st (Zm Zcy rfl (st (Zs Zdv rfl ((hB1.g0 k2).g0 k3).range (j := 0) rfl ?_))))))))
  refine st (Zm Zcy rfl (st (Zs Zdv rfl (hB2.g0 k3).range (j := 0) rfl (st (s_eqbool bool4 rfl rfl (Zg (Zd ?_)))))))
  refine Zbd rfl (fun h1 => ?_) (fun h1 => ?_)
  · refine Zh ?_
    refine Zby 8 (fun a b => a.grownBy b none) [(some 12, Is <| .pointer (some ⟨g1, 0 + 0, none⟩)), (some 13, Is <| .bool (decide (n < 0))), (some 14, Is <| .pointer (some ⟨g1, 0 + 1, none⟩)), (some 15, fun v _ => Sl Kd.u32 w (G 83 n0 w) v (ml n)), (some 16, Is <| .pointer (some ⟨g2, 0 + 1, none⟩)), (some 17, fun v _ => Sl Kd.u32 w (G 83 n0 w) v (ml m)), (some 18, fun v W => Sl Kd.u32 W (G 83 n0 W) v (tl (nv (ml n) + nv (ml m)))), (some 19, fun v W => Zb6 83 n0 W v (sg (decide (n < 0)) (nv (tl (nv (ml n) + nv (ml m))))))] [[], [0], [], [2], [], [4], [3, 5], [1, 6]] [(2, .pointer (some ⟨g1, 0, none⟩)), (3, .pointer (some ⟨g2, 0, none⟩)), (4, .pointer (some ⟨g3, 0, none⟩))] (by exact ⟨rfl, rfl, rfl, trivial⟩) (by kernel_rfl) (by kernel_rfl) Za (fun _ _ _ => Zaa) ⟨kv, kv, kv, fun _ _ _ h _ => h, kv, fun _ _ _ h _ => h, fun _ _ _ h k => h.gg0 k, fun _ _ _ h k => h.g0 k, trivial⟩ ?_
    intro w6 k6 hs4
    have hb4 := Zf hb3 k6
    refine ⟨⟨?_, ?_, ?_, ?_, ?_, ?_, ?_, ?_, trivial⟩, ?_⟩
    · intro w7 k7
      refine op1 (Zm Zcy rfl ?_)
      exact ⟨rfl, Za _⟩
    · intro w8 k8
      rintro _ rfl
      refine op1 (Zs Zdv rfl ((((hB1.g0 k2).g0 k3).g0 k6).g0 k8).range (j := 0) rfl ?_)
      exact ⟨rfl, Za _⟩
    · intro w9 k9
      refine op1 (Zm Zbl rfl ?_)
      exact ⟨rfl, Za _⟩
    · intro w10 k10
      rintro _ rfl
      refine op1 (Zs Zbz rfl ((((hB1.g0 k2).g0 k3).g0 k6).g0 k10).range (j := 1) rfl ?_)
      exact ⟨ha, Za _⟩
    · intro w11 k11
      refine op1 (Zm Zbl rfl ?_)
      exact ⟨rfl, Za _⟩
    · intro w12 k12
      rintro _ rfl
      refine op1 (Zs Zbz rfl (((hB2.g0 k3).g0 k6).g0 k12).range (j := 1) rfl ?_)
      exact ⟨hb, Za _⟩
    · intro w13 k13
      have hb11 := Zf hb4 k13
      rintro v3 hS3 v4 hS4
      refine op1 (Zp fn54 rfl (radd_any (n0 := n0) (Zy hn0 hb11) (((hS3.at0 hb11)).unlocG hb11) (((hS4.at0 hb11)).unlocG hb11) (by first | omega | (simp; done) | (simp; omega)) (by first | omega | (simp; done) | (simp; omega))) ?_)
      rintro v5 w14 ⟨hq3, hS5⟩
      have k14 := Zi hq3 none
      have hz2 := hq3.size
      have hb12 := Zf hb11 k14
      have hz3 := hb12.size
      exact ⟨hS5, k14⟩
    · intro w15 k15
      have hb13 := Zf hb4 k15
      rintro _ rfl v6 hS6
      refine op1 (Zp fn53 rfl (Zgt (n0 := n0) (Zy hn0 hb13) hS6 (by first | omega | (simp; done) | (simp; omega))) ?_)
      rintro _ w16 ⟨hq4, v7, rfl, hS7⟩
      have k16 := Zi hq4 none
      have hz4 := hq4.size
      have hb14 := Zf hb13 k16
      have hz5 := hb14.size
      exact ⟨⟨_, rfl, hS7⟩, k16⟩
    intro w17 k17
    have hb15 := Zf hb4 k17
    rintro _ rfl _ rfl _ rfl v8 hS8 _ rfl v9 hS9 v10 hS10 _ ⟨v11, rfl, hS11⟩
    refine st0 (Zae Zaf rfl rfl ((hB3.g0 k6).g0 k17) (by simp only [List.all_cons, List.all_nil, hS11.one, Bool.and_true, Bool.and_self] <;> rfl) rfl rfl ?_)
    intro w18 hB4 k18 hs5
    have hb16 := Zv hb15 k18 (by first | omega | (have h9 := (hb15).size; omega))
    refine Zg (Zd (Zcs rfl Zaf rfl hB4.range rfl ?_))
    have he : sg (decide (n < 0)) (nv (tl (nv (ml n) + nv (ml m)))) = n + m := (by rw [Zft (by omega)]; exact sg_add (eq_of_beq h1))
    exact ⟨_, rfl, hb16, Zav he (hS11.ggB k18 ((hB3.g0 k6).g0 k17) (by decide) (by omega))⟩
  refine Zn (Zd (Zh (Zb (st (Zm Zbl rfl (st (Zs Zbz rfl ((hB1.g0 k2).g0 k3).range (j := 1) rfl (st (Zm Zbl rfl ?_)))))))))
  refine st (Zs Zbz rfl (hB2.g0 k3).range (j := 1) rfl (st (Zp fn55 rfl (rsub_any (n0 := n0) (Zy hn0 hb3) (((ha.at0 hb3)).unlocG hb3) (((hb.at0 hb3)).unlocG hb3) (by first | omega | (simp; done) | (simp; omega)) (by first | omega | (simp; done) | (simp; omega))) ?_)))
  rintro _ w19 ⟨hq5, v12, rfl, hS12⟩
  have k19 := Zi hq5 none
  have hz6 := hq5.size
  have hb17 := Zf hb3 k19
  have hz7 := hb17.size
  refine st (Zc rfl (st (Zag rfl rfl (st (Zag rfl rfl (st (Ze rfl (st (Ze rfl (Zg (Zd ?_)))))))))))
  refine Zh (Zh (Zb (st (Zc rfl (Zg (Zd ?_))))))
  refine Zbd rfl (fun h2 => ?_) (fun h2 => ?_)
  · refine Zh (Zb (st (Zm Zcy rfl (st (Zs Zdv rfl (((hB1.g0 k2).g0 k3).g0 k19).range (j := 0) rfl (st (Zc rfl (st (Zp fn53 rfl (Zgt (n0 := n0) (Zy hn0 hb17) hS12 (by first | omega | (simp; done) | (simp; omega))) ?_)))))))))
    rintro _ w20 ⟨hq6, v13, rfl, hS13⟩
    have k20 := Zi hq6 none
    have hz8 := hq6.size
    have hb18 := Zf hb17 k20
    have hz9 := hb18.size
    refine st0 (Zae Zaf rfl rfl ((hB3.g0 k19).g0 k20) (by simp only [List.all_cons, List.all_nil, hS13.one, Bool.and_true, Bool.and_self] <;> rfl) rfl rfl ?_)
    intro w21 hB5 k21 hs6
    have hb19 := Zv hb18 k21 (by first | omega | (have h9 := (hb18).size; omega))
    refine Zg (Zd (Zcs rfl Zaf rfl hB5.range rfl ?_))
    have he : sg (decide (n < 0)) (nv (tl (nv (ml n) - nv (ml m)))) = n + m := (by have hle : nv (ml m) ≤ nv (ml n) := (by simpa using h2); rw [Zft (by omega)]; exact sg_sub (fun e => by rw [e, beq_self_eq_true] at h1; cases h1) hle)
    exact ⟨_, rfl, hb19, Zav he (hS13.ggB k21 ((hB3.g0 k19).g0 k20) (by decide) (by omega))⟩
  refine Zn (Zd (Zh (Zb (st (Zm Zbl rfl (st (Zs Zbz rfl ((hB2.g0 k3).g0 k19).range (j := 1) rfl (st (Zm Zbl rfl ?_)))))))))
  refine st (Zs Zbz rfl (((hB1.g0 k2).g0 k3).g0 k19).range (j := 1) rfl (st (Zp fn55 rfl (rsub_any (n0 := n0) (Zy hn0 hb17) (((hb.at0 hb17)).unlocG hb17) (((ha.at0 hb17)).unlocG hb17) (by first | omega | (simp; done) | (simp; omega)) (by first | omega | (simp; done) | (simp; omega))) ?_)))
  rintro _ w22 ⟨hq7, v14, rfl, hS14⟩
  have k22 := Zi hq7 none
  have hz10 := hq7.size
  have hb20 := Zf hb17 k22
  have hz11 := hb20.size
  refine st (Zc rfl (st (Zag rfl rfl (st (Zag rfl rfl (st (Ze rfl (Zg (Zd (Zh ?_))))))))))
  refine Zb (st (Zm Zcy rfl (st (Zs Zdv rfl (((hB2.g0 k3).g0 k19).g0 k22).range (j := 0) rfl (st (Zc rfl (st (Zp fn53 rfl (Zgt (n0 := n0) (Zy hn0 hb20) hS14 (by first | omega | (simp; done) | (simp; omega))) ?_))))))))
  rintro _ w23 ⟨hq8, v15, rfl, hS15⟩
  have k23 := Zi hq8 none
  have hz12 := hq8.size
  have hb21 := Zf hb20 k23
  have hz13 := hb21.size
  refine st0 (Zae Zaf rfl rfl (((hB3.g0 k19).g0 k22).g0 k23) (by simp only [List.all_cons, List.all_nil, hS15.one, Bool.and_true, Bool.and_self] <;> rfl) rfl rfl ?_)
  intro w24 hB6 k24 hs7
  have hb22 := Zv hb21 k24 (by first | omega | (have h9 := (hb21).size; omega))
  refine Zg (Zd (Zcs rfl Zaf rfl hB6.range rfl ?_))
  have he : sg (decide (m < 0)) (nv (tl (nv (ml m) - nv (ml n)))) = n + m := (by have hle : ¬ nv (ml m) ≤ nv (ml n) := (by simpa using h2); rw [Zft (by omega)]; exact (sg_sub (fun e => by rw [e, beq_self_eq_true] at h1; cases h1) (by omega)).trans (Int.add_comm m n))
  exact ⟨_, rfl, hb22, Zav he (hS15.ggB k24 (((hB3.g0 k19).g0 k22).g0 k23) (by decide) (by omega))⟩
theorem Zfk {w : World} {n0 : Nat} (hn0 : n0 ≤ w.heap.size)  {vn : Value} {n : Int} {vm : Value} {m : Int} (hn : Zb6 83 n0 w vn n) (hm : Zb6 83 n0 w vm m) (hbn : Bd 90000 n) (hbm : Bd 90000 m)  :
    Calls Try.prog 22 [vn, vm].toArray w (Zbi w fun v W => Zb6 83 n0 W v (n + m)) := by
  obtain ⟨sn, rfl, kn⟩ := hn
  obtain ⟨sm, rfl, km⟩ := hm
  exact rbadd_any0 hn0 kn km hbn hbm
set_option maxHeartbeats 1000000 in
theorem rbsub_any0 {w : World} {n0 : Nat} (hn0 : n0 ≤ w.heap.size)  {a : Value} {n : Int} {b : Value} {m : Int} (ha : Sl Kd.u32 w (G 83 n0 w) a (ml n)) (hb : Sl Kd.u32 w (G 83 n0 w) b (ml m)) (hbn : Bd 90000 n) (hbm : Bd 90000 m)  :
    Calls Try.prog 21 [.agg [.bool (decide (n < 0)), a].toArray, .agg [.bool (decide (m < 0)), b].toArray].toArray w (Zbi w fun v W => Zb6 83 n0 W v (n - m)) := by
  have hb0 := Below.refl w.heap.size w
  have hln := Zf1 hbn
  have hlm := Zf1 hbm
  have hnn := Zc2 n
  have hnm := Zc2 m
  refine enter Try.func21 rfl rfl (Zh (Zb (st (Zcb rfl ?_))))
  intro g1 w1 hg1 hB1 k1 hs1
  change Blk w1 g1 31 [.bool (decide (n < 0)), a].toArray at hB1
  have hb1 := Zf hb0 k1
  refine st (Zcb rfl ?_)
  intro g2 w2 hg2 hB2 k2 hs2
  change Blk w2 g2 31 [.bool (decide (m < 0)), b].toArray at hB2
  have hb2 := Zf hb1 k2
  have hlt_1 := ((hB1.g0 k2)).lt
  have hlt_2 := (hB2).lt
  refine st (Zat Zcw ?_)
  intro g3 w3 hg3 hB3 k3 hs3
  have hz1 := hb2.size
  have hb3 := Zf hb2 k3
  refine Zg (Zd (Zh (Zby 4 (fun a b => a.grownBy b none) [(some 5, Is <| .agg [.bool (decide (n < 0)), a].toArray), (some 6, Is <| .agg [.bool (decide (m < 0)), b].toArray), (some 7, fun v W => Zb6 83 n0 W v ((-m))), (some 8, fun v W => Zb6 83 n0 W v ((n + (-m))))] [[], [], [1], [0, 2]] [(2, .pointer (some ⟨g1, 0, none⟩)), (3, .pointer (some ⟨g2, 0, none⟩)), (4, .pointer (some ⟨g3, 0, none⟩))] (by exact ⟨rfl, rfl, rfl, trivial⟩) (by kernel_rfl) (by kernel_rfl) Za (fun _ _ _ => Zaa) ⟨kv, kv, fun _ _ _ h k => h.g0 k, fun _ _ _ h k => h.g0 k, trivial⟩ ?_)))
  intro w6 k6 hs4
  have hb4 := Zf hb3 k6
  refine ⟨⟨?_, ?_, ?_, ?_, trivial⟩, ?_⟩
  · intro w7 k7
    refine op1 (Zu Zaf rfl ((((hB1.g0 k2).g0 k3).g0 k6).g0 k7).range rfl ?_)
    exact ⟨rfl, Za _⟩
  · intro w8 k8
    refine op1 (Zu Zaf rfl (((hB2.g0 k3).g0 k6).g0 k8).range rfl ?_)
    exact ⟨rfl, Za _⟩
  · intro w9 k9
    have hb7 := Zf hb4 k9
    rintro _ rfl
    refine op1 (Zp fn48 rfl (Zjs (n0 := n0) (Zy hn0 hb7) (Zav rfl (((hb.at0 hb7)).unlocG hb7)) (Bd.le hbm (show 90000 ≤ 90000 by decide))) ?_)
    rintro _ w10 ⟨hq3, v3, rfl, hS3⟩
    have k10 := Zi hq3 none
    have hz2 := hq3.size
    have hb8 := Zf hb7 k10
    have hz3 := hb8.size
    exact ⟨⟨_, rfl, hS3⟩, k10⟩
  · intro w11 k11
    have hb9 := Zf hb4 k11
    rintro _ rfl _ ⟨v4, rfl, hS4⟩
    refine op1 (Zp fn22 rfl (Zfk (n0 := n0) (Zy hn0 hb9) (Zav rfl (((ha.at0 hb9)).unlocG hb9)) (Zav rfl hS4) (Bd.le hbn (show 90000 ≤ 90000 by decide)) (Bd.le (bd_neg hbm) (show 90000 ≤ 90000 by decide))) ?_)
    rintro _ w12 ⟨hq4, v5, rfl, hS5⟩
    have k12 := Zi hq4 none
    have hz4 := hq4.size
    have hb10 := Zf hb9 k12
    have hz5 := hb10.size
    exact ⟨⟨_, rfl, hS5⟩, k12⟩
  intro w13 k13
  have hb11 := Zf hb4 k13
  rintro _ rfl _ rfl _ ⟨v6, rfl, hS6⟩ _ ⟨v7, rfl, hS7⟩
  refine st0 (Zae Zaf rfl rfl ((hB3.g0 k6).g0 k13) (by simp only [List.all_cons, List.all_nil, hS7.one, Bool.and_true, Bool.and_self] <;> rfl) rfl rfl ?_)
  intro w14 hB4 k14 hs5
  have hb12 := Zv hb11 k14 (by first | omega | (have h9 := (hb11).size; omega))
  refine Zg (Zd (Zcs rfl Zaf rfl hB4.range rfl ?_))
  exact ⟨_, rfl, hb12, Zav (by omega) (hS7.ggB k14 ((hB3.g0 k6).g0 k13) (by decide) (by omega))⟩
theorem rbsub_any {w : World} {n0 : Nat} (hn0 : n0 ≤ w.heap.size)  {vn : Value} {n : Int} {vm : Value} {m : Int} (hn : Zb6 83 n0 w vn n) (hm : Zb6 83 n0 w vm m) (hbn : Bd 90000 n) (hbm : Bd 90000 m)  :
    Calls Try.prog 21 [vn, vm].toArray w (Zbi w fun v W => Zb6 83 n0 W v (n - m)) := by
  obtain ⟨sn, rfl, kn⟩ := hn
  obtain ⟨sm, rfl, km⟩ := hm
  exact rbsub_any0 hn0 kn km hbn hbm
set_option maxHeartbeats 1000000 in
theorem rbcmp_any0 {w : World} {n0 : Nat} (hn0 : n0 ≤ w.heap.size)  {a : Value} {n : Int} {b : Value} {m : Int} (ha : Sl Kd.u32 w (G 83 n0 w) a (ml n)) (hb : Sl Kd.u32 w (G 83 n0 w) b (ml m)) (hbn : Bd 90000 n) (hbm : Bd 90000 m)  :
    Calls Try.prog 23 [.agg [.bool (decide (n < 0)), a].toArray, .agg [.bool (decide (m < 0)), b].toArray].toArray w (Zbi w fun v _ => v = .int .i64 (Zb1 n m)) := by
  have hb0 := Below.refl w.heap.size w
  have hln := Zf1 hbn
  have hlm := Zf1 hbm
  have hnn := Zc2 n
  have hnm := Zc2 m
  refine enter Try.func23 rfl rfl (Zh (Zb (st (Zcb rfl ?_))))
  intro g1 w1 hg1 hB1 k1 hs1
  change Blk w1 g1 31 [.bool (decide (n < 0)), a].toArray at hB1
  have hb1 := Zf hb0 k1
  refine st (Zcb rfl ?_)
  intro g2 w2 hg2 hB2 k2 hs2
  change Blk w2 g2 31 [.bool (decide (m < 0)), b].toArray at hB2
  have hb2 := Zf hb1 k2
  refine st (Ze rfl (Zg (Zd (Zh (Zb (st (Zu Zaf rfl (hB1.g0 k2).range rfl (st (Zu Zaf rfl hB2.range rfl ?_)))))))))
  refine st (Zp fn21 rfl (rbsub_any (n0 := n0) (Zy hn0 hb2) (Zav rfl (((ha.at0 hb2)).unlocG hb2)) (Zav rfl (((hb.at0 hb2)).unlocG hb2)) (Bd.le hbn (show 90000 ≤ 90000 by decide)) (Bd.le hbm (show 90000 ≤ 90000 by decide))) ?_)
  rintro _ w3 ⟨hq1, v1, rfl, hS1⟩
  have k3 := Zi hq1 none
  have hz1 := hq1.size
  have hb3 := Zf hb2 k3
  have hz2 := hb3.size
  have hlt_1 := (((hB1.g0 k2).g0 k3)).lt
  have hlt_2 := ((hB2.g0 k3)).lt
  refine st (Zat Zcw ?_)
  intro g3 w4 hg3 hB3 k4 hs3
  have hz3 := hb3.size
  have hb4 := Zf hb3 k4
  refine st0 (Zae Zaf rfl rfl hB3 (by simp only [List.all_cons, List.all_nil, hS1.one, Bool.and_true, Bool.and_self] <;> rfl) rfl rfl ?_)
  intro w5 hB4 k5 hs4
  have hb5 := Zv hb4 k5 (by first | omega | (have h9 := (hb4).size; omega))
  refine Zg (Zd (Zh (Zz (Zh (Zb (st (Zm Zbl rfl ?_)))))))
  refine st (Zs Zbz rfl hB4.range (j := 1) rfl (st (Zar Zbq rfl ((hS1.gg0 k4).ggB k5 hB3 (by decide) (by omega)) (st (Zbr rfl rfl (st (Ze rfl (Zg (Zd ?_)))))))))
  refine Zw rfl (fun h1 => ?_) (fun h1 => ?_)
  · refine Zh (Zb (st (Ze rfl (Zg (Zd (Zx rfl rfl ?_))))))
    exact ⟨_, rfl, hb5, congrArg (Value.int .i64) (rcmp_big.2.2 (ml_nil.1 h1)).symm⟩
  refine Zh (Zb (st (Zm Zcy rfl (st (Zs Zdv rfl hB4.range (j := 0) rfl (st (Ze rfl (Zg (Zd ?_)))))))))
  refine Zw rfl (fun h2 => ?_) (fun h2 => ?_)
  · refine Zh (Zb (st (Ze rfl (Zg (Zd (Zx rfl rfl ?_))))))
    exact ⟨_, rfl, hb5, congrArg (Value.int .i64) (rcmp_big.2.1 h2).symm⟩
  refine Zn (Zab (Zd (Zh (Zb (st (Ze rfl (Zg ?_)))))))
  refine Zd (Zx rfl rfl ?_)
  exact ⟨_, rfl, hb5, congrArg (Value.int .i64) (rcmp_big.1 (by have h9 : n - m ≠ 0 := fun e => h1 (ml_nil.2 e); omega)).symm⟩
theorem Zcg {w : World} {n0 : Nat} (hn0 : n0 ≤ w.heap.size)  {vn : Value} {n : Int} {vm : Value} {m : Int} (hn : Zb6 83 n0 w vn n) (hm : Zb6 83 n0 w vm m) (hbn : Bd 90000 n) (hbm : Bd 90000 m)  :
    Calls Try.prog 23 [vn, vm].toArray w (Zbi w fun v _ => v = .int .i64 (Zb1 n m)) := by
  obtain ⟨sn, rfl, kn⟩ := hn
  obtain ⟨sm, rfl, km⟩ := hm
  exact rbcmp_any0 hn0 kn km hbn hbm
set_option maxHeartbeats 1000000 in
theorem rbshl_any0 {w : World} {n0 : Nat} (hn0 : n0 ≤ w.heap.size) {k : Int} {a : Value} {n : Int} (ha : Sl Kd.u32 w (G 83 n0 w) a (ml n)) (hbn : Bd 90000 n)  :
    Calls Try.prog 80 [.agg [.bool (decide (n < 0)), a].toArray, .int .i64 k].toArray w (Zbi w fun v W => Zb6 83 n0 W v (Zf8 n k)) := by
  have hb0 := Below.refl w.heap.size w
  have hsl := shlL_len (k := k) hbn
  have hln := Zf1 hbn
  have hnn := Zc2 n
  refine enter Try.func80 rfl rfl (Zh (Zb (st (Zcb rfl ?_))))
  intro g1 w1 hg1 hB1 k1 hs1
  change Blk w1 g1 31 [.bool (decide (n < 0)), a].toArray at hB1
  have hb1 := Zf hb0 k1
  have hlt_1 := (hB1).lt
  refine st (Zat Zcw ?_)
  intro g2 w2 hg2 hB2 k2 hs2
  have hz1 := hb1.size
  have hb2 := Zf hb1 k2
  refine Zg (Zd (Zh ?_))
  refine Zby 7 (fun a b => a.grownBy b none) [(some 5, Is <| .pointer (some ⟨g1, 0 + 0, none⟩)), (some 6, Is <| .bool (decide (n < 0))), (some 7, Is <| .pointer (some ⟨g1, 0 + 1, none⟩)), (some 8, fun v _ => Sl Kd.u32 w (G 83 n0 w) v (ml n)), (some 9, Is <| .int .i64 k), (some 10, fun v W => Sl Kd.u32 W (G 83 n0 W) v (shlL (ml n) k)), (some 11, fun v W => Zb6 83 n0 W v (sg (decide (n < 0)) (nv (shlL (ml n) k))))] [[], [0], [], [2], [], [3, 4], [1, 5]] [(1, .int .i64 k), (2, .pointer (some ⟨g1, 0, none⟩)), (4, .pointer (some ⟨g2, 0, none⟩))] (by exact ⟨rfl, rfl, rfl, trivial⟩) (by kernel_rfl) (by kernel_rfl) Za (fun _ _ _ => Zaa) ⟨kv, kv, kv, fun _ _ _ h _ => h, kv, fun _ _ _ h k => h.gg0 k, fun _ _ _ h k => h.g0 k, trivial⟩ ?_
  intro w5 k5 hs3
  have hb3 := Zf hb2 k5
  refine ⟨⟨?_, ?_, ?_, ?_, ?_, ?_, ?_, trivial⟩, ?_⟩
  · intro w6 k6
    refine op1 (Zm Zcy rfl ?_)
    exact ⟨rfl, Za _⟩
  · intro w7 k7
    rintro _ rfl
    refine op1 (Zs Zdv rfl (((hB1.g0 k2).g0 k5).g0 k7).range (j := 0) rfl ?_)
    exact ⟨rfl, Za _⟩
  · intro w8 k8
    refine op1 (Zm Zbl rfl ?_)
    exact ⟨rfl, Za _⟩
  · intro w9 k9
    rintro _ rfl
    refine op1 (Zs Zbz rfl (((hB1.g0 k2).g0 k5).g0 k9).range (j := 1) rfl ?_)
    exact ⟨ha, Za _⟩
  · intro w10 k10
    refine op1 (Zc rfl ?_)
    exact ⟨rfl, Za _⟩
  · intro w11 k11
    have hb9 := Zf hb3 k11
    rintro v3 hS3 _ rfl
    refine op1 (Zp fn102 rfl (rshl_any (n0 := n0) (Zy hn0 hb9) (((hS3.at0 hb9)).unlocG hb9) (by first | omega | (simp; done) | (simp; omega))) ?_)
    rintro v4 w12 ⟨hq3, hS4⟩
    have k12 := Zi hq3 none
    have hz2 := hq3.size
    have hb10 := Zf hb9 k12
    have hz3 := hb10.size
    exact ⟨hS4, k12⟩
  · intro w13 k13
    have hb11 := Zf hb3 k13
    rintro _ rfl v5 hS5
    refine op1 (Zp fn53 rfl (Zgt (n0 := n0) (Zy hn0 hb11) hS5 (by first | omega | (simp; done) | (simp; omega))) ?_)
    rintro _ w14 ⟨hq4, v6, rfl, hS6⟩
    have k14 := Zi hq4 none
    have hz4 := hq4.size
    have hb12 := Zf hb11 k14
    have hz5 := hb12.size
    exact ⟨⟨_, rfl, hS6⟩, k14⟩
  intro w15 k15
  have hb13 := Zf hb3 k15
  rintro _ rfl _ rfl _ rfl v7 hS7 _ rfl v8 hS8 _ ⟨v9, rfl, hS9⟩
  refine st0 (Zae Zaf rfl rfl ((hB2.g0 k5).g0 k15) (by simp only [List.all_cons, List.all_nil, hS9.one, Bool.and_true, Bool.and_self] <;> rfl) rfl rfl ?_)
  intro w16 hB3 k16 hs4
  have hb14 := Zv hb13 k16 (by first | omega | (have h9 := (hb13).size; omega))
  refine Zg (Zd (Zcs rfl Zaf rfl hB3.range rfl ?_))
  exact ⟨_, rfl, hb14, Zav (by rw [nv_shlL _ _ (by omega)]; exact sg_shl n k) (hS9.ggB k16 ((hB2.g0 k5).g0 k15) (by decide) (by omega))⟩
theorem rbshl_any {w : World} {n0 : Nat} (hn0 : n0 ≤ w.heap.size) {k : Int} {vn : Value} {n : Int} (hn : Zb6 83 n0 w vn n) (hbn : Bd 90000 n)  :
    Calls Try.prog 80 [vn, .int .i64 k].toArray w (Zbi w fun v W => Zb6 83 n0 W v (Zf8 n k)) := by
  obtain ⟨sn, rfl, kn⟩ := hn
  exact rbshl_any0 hn0 kn hbn
set_option maxHeartbeats 1000000 in
theorem Zjf {w : World} {n0 : Nat} (hn0 : n0 ≤ w.heap.size) {k : Int} :
    Calls Try.prog 47 [.int .i64 k].toArray w (Zbi w fun v W => Zb6 83 n0 W v (Zf8 1 k)) := by
  have hb0 := Below.refl w.heap.size w
  refine enter Try.func47 rfl rfl (Zh (Zb (st (Zat Zcw ?_))))
  intro g1 w1 hg1 hB1 k1 hs1
  have hz1 := hb0.size
  have hb1 := Zf hb0 k1
  refine Zg (Zd (Zh (Zb (st (Zp fn20 rfl (rof2_any (n0 := n0) (Zy hn0 hb1) (by omega)) ?_)))))
  rintro _ w2 ⟨hq1, v1, rfl, hS1⟩
  have k2 := Zi hq1 none
  have hz2 := hq1.size
  have hb2 := Zf hb1 k2
  have hz3 := hb2.size
  refine st (Zc rfl (st (Zp fn80 rfl (rbshl_any (n0 := n0) (Zy hn0 hb2) (Zav rfl hS1) (Bd.le (Zdq (by omega)) (show 2 ≤ 90000 by decide))) ?_)))
  rintro _ w3 ⟨hq2, v2, rfl, hS2⟩
  have k3 := Zi hq2 none
  have hz4 := hq2.size
  have hb3 := Zf hb2 k3
  have hz5 := hb3.size
  refine st0 (Zae Zaf rfl rfl ((hB1.g0 k2).g0 k3) (by simp only [List.all_cons, List.all_nil, hS2.one, Bool.and_true, Bool.and_self] <;> rfl) rfl rfl ?_)
  intro w4 hB2 k4 hs2
  have hb4 := Zv hb3 k4 (by first | omega | (have h9 := (hb3).size; omega))
  refine Zg (Zd (Zcs rfl Zaf rfl hB2.range rfl ?_))
  exact ⟨_, rfl, hb4, Zav (rfl) (hS2.ggB k4 ((hB1.g0 k2).g0 k3) (by decide) (by omega))⟩
end Go.Proofs.Ytfljelnfjbbknaa.Lm
namespace Go.Proofs.Ytfljelnfjbbknaa.Lm
open Go.RowKit Go.Gw
end Go.Proofs.Ytfljelnfjbbknaa.Lm
namespace Go.Proofs.Ytfljelnfjbbknaa.Lm
open Go.RowKit Go.Gw
end Go.Proofs.Ytfljelnfjbbknaa.Lm
namespace Go.Proofs.Ytfljelnfjbbknaa.Lm
open Go.RowKit Go.Gw
end Go.Proofs.Ytfljelnfjbbknaa.Lm
namespace Go.Proofs.Ytfljelnfjbbknaa.Lm
open Go.RowKit Go.Gw
end Go.Proofs.Ytfljelnfjbbknaa.Lm
namespace Go.Proofs.Ytfljelnfjbbknaa.Lm
open Go.RowKit Go.Gw
end Go.Proofs.Ytfljelnfjbbknaa.Lm
namespace Go.Gw
open Go.RowKit
section
variable {P : Program} {ops : Array Oper} {Q : Exit → Act → World → Prop} {Zbn : List Oper} {n : Nat} {D : List Deferred} {ρ : Env} {w : World}
variable {d ty : Nat} {pos : String} {after : Array Edge} {gd : Option (Nat × Bool)} {C : Value → World → Prop} {x y : Operand}
theorem s_appendH {α : Type} {K : Kd α} {t e by_ base : Nat} {F F' : Nat → Prop} {z v s : Value} {xs ys : List α} (hs : SlF P t e K.sz by_ z) (hx : opv ρ x = some v) (hy : opv ρ y = some s) (ho : Gw.Own K e base w F v xs) (hK : ∀ u y, K.rep w F' u y → K.rep w (Out F v) u y) (hsrc : Sl K w F' s ys)
    (hone : K.Ones) (h63 : xs.length + ys.length ≤ 9223372036854775807) (hbytes : (xs.length + ys.length) * by_ ≤ 140737488355328) (hbase : base ≤ w.heap.size) (hF : ∀ k, F k → k < w.heap.size)
    (k : ∀ v' w', Gw.Own K e base w' F v' (xs ++ ys) → w.grownBy w' v.ownBlock → (v'.ownBlock = v.ownBlock ∨ v'.ownBlock = some w.heap.size) → (∀ g0, v = .slice (some ⟨g0, 0, none⟩) 0 0 → w.heap[g0]? = some (.cells #[] e (0, 0)) → w.grownBy w' none) → C v' w') :
    OpW P ⟨some d, .call { callee := .builtin .append, args := #[x, y], argTypes := #[t, t] }, ty, pos, after, gd⟩ n D ρ w C := by
  obtain ⟨inf, hinf, hzero, hsz, hby⟩ := hs.inf
  obtain ⟨us, hl, hr, hown⟩ := ho.out
  obtain ⟨A, c, rfl, h2, h3, h4⟩ := hsrc
  have hv : ∃ vs : List (List Value), vs.length = ys.length ∧ (∀ (i : Nat) (u : List Value) (y : α), vs[i]? = some u → ys[i]? = some y → K.rep w (Out F v) u y) ∧ (∀ a, A = some a → ys ≠ [] → ∃ g o, a = ⟨g, o, none⟩ ∧ w.rangeAt g o vs.flatten) := by
    have hex : ∀ i : Fin ys.length, ∃ u, ∃ g o, A = some ⟨g, o, none⟩ ∧ K.rep w (Out F v) u ys[i] ∧ w.rangeAt g (o + i * K.sz) u := by
      intro i
      obtain ⟨g, o, u, ha, _, _, hrep, hrng⟩ := h4 i ys[i] (by simp)
      exact ⟨u, g, o, ha, hK _ _ hrep, hrng⟩
    let f : Fin ys.length → List Value := fun i => Classical.choose (hex i)
    have hf : ∀ i, ∃ g o, A = some ⟨g, o, none⟩ ∧ K.rep w (Out F v) (f i) ys[i] ∧ w.rangeAt g (o + i * K.sz) (f i) := fun i => Classical.choose_spec (hex i)
    refine ⟨List.ofFn f, by simp, fun i u y hu hy => ?_, fun a ha hne => ?_⟩
    · rw [List.getElem?_ofFn] at hu
      split at hu
      · rename_i hi
        cases hu
        obtain ⟨_, _, _, hrep, _⟩ := hf ⟨i, hi⟩
        have : ys[i] = y := by rw [List.getElem?_eq_getElem hi] at hy; injection hy
        subst this; exact hrep
      · cases hu
    · have hlen : 0 < ys.length := List.length_pos_iff.2 hne
      obtain ⟨g, o, ha', _, _⟩ := hf ⟨0, hlen⟩
      rw [ha] at ha'
      injection ha' with ha'
      refine ⟨g, o, ha', fun j u hj => ?_⟩
      have hall : ∀ u ∈ List.ofFn f, u.length = K.sz := by
        intro u hu
        obtain ⟨i, rfl⟩ := List.mem_ofFn.1 hu
        obtain ⟨_, _, _, hrep, _⟩ := hf i
        exact K.len hrep
      have hpos := hs.pos
      have hjl : j < ys.length * K.sz := by
        have := (List.getElem?_eq_some_iff.1 hj).1
        rw [List.length_flatten] at this
        have hsum := Zcl (List.ofFn f) hall
        rw [List.length_flatten, List.length_ofFn] at hsum
        omega
      have hdiv : j / K.sz < ys.length := Nat.div_lt_of_lt_mul (by rw [Nat.mul_comm]; exact hjl)
      have hmod : j % K.sz < K.sz := Nat.mod_lt _ hpos
      have hu : (List.ofFn f)[j / K.sz]? = some (f ⟨j / K.sz, hdiv⟩) := by rw [List.getElem?_ofFn]; simp [hdiv]
      have h5 := Zdj (sz := K.sz) (List.ofFn f) hall (j / K.sz) (j % K.sz) _ hu hmod
      rw [show j / K.sz * K.sz + j % K.sz = j by rw [Nat.mul_comm]; exact Nat.div_add_mod j K.sz, hj] at h5
      obtain ⟨g2, o2, ha2, _, hrng⟩ := hf ⟨j / K.sz, hdiv⟩
      rw [ha, ha'] at ha2
      injection ha2 with ha2
      injection ha2 with e1 e2
      subst e1; subst e2
      have := hrng (j % K.sz) u h5.symm
      rw [← this]; congr 2
      show o + j = o + j / K.sz * K.sz + j % K.sz
      have := Nat.div_add_mod j K.sz
      rw [Nat.mul_comm] at this; omega
  obtain ⟨vs, hvl, hvr, hva⟩ := hv
  have hfin : ∀ v' w', w'.ownsRow base e K.sz v' (xs.length + ys.length) (us.flatten ++ vs.flatten) → w.grownBy w' v.ownBlock → (v'.ownBlock = v.ownBlock ∨ v'.ownBlock = some w.heap.size) → Gw.Own K e base w' F v' (xs ++ ys) := by
    intro v' w' ho' hg hor
    refine ⟨⟨us ++ vs, by simp [hl, hvl], fun i u x hu hx => ?_, by rw [List.flatten_append, List.length_append]; exact ho'⟩, fun g hg' => ?_⟩
    · have hrep : K.rep w (Out F v) u x := by
        rcases Nat.lt_or_ge i xs.length with h | h
        · rw [List.getElem?_append_left (by omega)] at hu; rw [List.getElem?_append_left h] at hx; exact hr i u x hu hx
        · rw [List.getElem?_append_right (by omega), hl] at hu; rw [List.getElem?_append_right h] at hx; exact hvr _ u x hu hx
      have h1 : K.rep w (fun k => Out F v k ∨ Out F v' k) u x := K.weak hrep fun k hk hk' => by
        rcases hk' with h | h | h
        · exact h
        · exact .inl h
        · rcases hor with e | e
          · exact .inr (e ▸ h)
          · rw [e] at h; injection h with h; omega
      exact K.weak (K.keep h1 fun k hk hn => hg.block k hk fun e => hn (.inl (.inr e.symm))) fun k _ hk => .inr hk
    · rcases hor with h | h
      · exact ho.no g (by rw [← h]; exact hg')
      · rw [h] at hg'; injection hg' with hg'; intro hf; have := hF g hf; omega
  have hzsz : z.cells.size = K.sz := hs.zsz
  cases A with
  | none =>
    have hy0 : ys = [] := by
      cases ys with
      | nil => rfl
      | cons y r => obtain ⟨g, o, u, ha, _⟩ := h4 0 y rfl; cases ha
    subst hy0
    have hv0 : vs = [] := List.eq_nil_of_length_eq_zero hvl
    subst hv0
    refine Za1 (v := v) (w' := w) (fun ev he => ?_) (k v w (hfin v w (by simpa using hown) (World.grownBy.refl w _) (.inl rfl)) (World.grownBy.refl w _) (.inl rfl) (fun _ _ _ => World.grownBy.refl w _))
    simp [execOp, resolve, invoke, builtin, he x _ hx, he y _ hy, run_append_nil base t ty e inf K.sz hs.und hinf v _ _ hown c]
  | some a =>
    have hcells : ∀ j u, vs.flatten[j]? = some u → w.cell? (a.add j) = some u := by
      intro j u hj
      by_cases hne : ys = []
      · subst hne
        have hv0 : vs = [] := List.eq_nil_of_length_eq_zero hvl
        subst hv0; simp at hj
      · obtain ⟨g, o, rfl, hrng⟩ := hva a rfl hne
        exact Zfo hrng j u hj
    have hvlen : vs.flatten.length = ys.length * K.sz := by
      have hall : ∀ u ∈ vs, u.length = K.sz := by
        intro u hu
        obtain ⟨j, hj, rfl⟩ := List.getElem_of_mem hu
        exact K.len (hvr j _ (ys[j]'(by omega)) (List.getElem?_eq_getElem hj) (List.getElem?_eq_getElem (by omega)))
      rw [Zcl vs hall, hvl]
    have hones : ∀ u ∈ vs.flatten, u.oneCell' = true := by
      intro u hu
      obtain ⟨l, hl', hu'⟩ := List.mem_flatten.1 hu
      obtain ⟨j, hj, rfl⟩ := List.getElem_of_mem hl'
      exact hone _ _ _ _ (hvr j _ (ys[j]'(by omega)) (List.getElem?_eq_getElem hj) (List.getElem?_eq_getElem (by omega))) u hu'
    obtain ⟨v', w', hrun, ho', hg, _, hor⟩ := run_append_own_at (P := P) w base t ty e inf z K.sz by_ hs.und hinf hzero hsz hby hzsz hs.pos v xs.length us.flatten hown a ys.length c vs.flatten hvlen hcells hones (by simp only [maxLen]; omega) hbytes hbase
    refine Za1 (v := v') (w' := w') (fun ev he => ?_) (k v' w' (hfin v' w' ho' hg hor) hg hor (fun g0 hv hg0 => by
      subst hv
      exact Zid hs.und hinf hzero hg0 a vs.flatten (by rw [hvlen, hsz]) hcells hones (by simp only [maxLen]; omega) (by rw [hby]; exact Nat.le_trans (Nat.mul_le_mul_right _ (Nat.le_add_left _ _)) hbytes) hrun))
    simp [execOp, resolve, invoke, builtin, he x _ hx, he y _ hy, hrun]
end
end Go.Gw
namespace Go.Proofs.Ytfljelnfjbbknaa.Lm
open Go.RowKit Go.Gw
set_option maxHeartbeats 1000000 in
theorem order_any {w : World} {a b : Cl} {n0 : Nat} (hn0 : n0 ≤ w.heap.size) {px py : Value} (hpx : Sl Kd.u32 w (G 83 n0 w) px (ml a.x)) (hpy : Sl Kd.u32 w (G 83 n0 w) py (ml a.y)) {qx qy : Value} (hqx : Sl Kd.u32 w (G 83 n0 w) qx (ml b.x)) (hqy : Sl Kd.u32 w (G 83 n0 w) qy (ml b.y)) (hax : Bd 50 a.x) (hay : Bd 50 a.y) (hbx : Bd 50 b.x) (hby : Bd 50 b.y) :
    Calls Try.prog 52 [.agg [.bool (decide (a.x < 0)), px, .bool (decide (a.y < 0)), py, .int .u8 a.st].toArray, .agg [.bool (decide (b.x < 0)), qx, .bool (decide (b.y < 0)), qy, .int .u8 b.st].toArray].toArray w (Zbi w fun v _ => v = .int .i64 (Zgn a b)) := by
  have hb0 := Below.refl w.heap.size w
  refine enter Try.func52 rfl rfl (Zh (Zb (st (Zcb rfl ?_))))
  intro g1 w1 hg1 hB1 k1 hs1
  change Blk w1 g1 47 [.bool (decide (a.x < 0)), px, .bool (decide (a.y < 0)), py, .int .u8 a.st].toArray at hB1
  have hb1 := Zf hb0 k1
  refine st (Zcb rfl ?_)
  intro g2 w2 hg2 hB2 k2 hs2
  change Blk w2 g2 47 [.bool (decide (b.x < 0)), qx, .bool (decide (b.y < 0)), qy, .int .u8 b.st].toArray at hB2
  have hb2 := Zf hb1 k2
  refine st (Ze rfl (Zg (Zd (Zh (Zb (st (Zm Zca rfl (st (Zau (us := [.bool (decide (a.y < 0)), py]) Zaf rfl (hB1.g0 k2).range (j := 2) rfl rfl ?_)))))))))
  refine st (Zm Zca rfl (st (Zau (us := [.bool (decide (b.y < 0)), qy]) Zaf rfl hB2.range (j := 2) rfl rfl (st (Zp fn23 rfl (Zcg (n0 := n0) (Zy hn0 hb2) (Zav rfl ((hpy.gg0 k1).gg0 k2)) (Zav rfl ((hqy.gg0 k1).gg0 k2)) (Bd.le hay (show 50 ≤ 90000 by decide)) (Bd.le hby (show 50 ≤ 90000 by decide))) ?_)))))
  rintro _ w3 ⟨hq1, rfl⟩
  have k3 := Zi hq1 none
  have hz1 := hq1.size
  have hb3 := Zf hb2 k3
  have hz2 := hb3.size
  refine st (Ze rfl (Zg (Zd (Zh (Zh (Zb (st (Zc rfl ?_))))))))
  refine st (s_ne rfl rfl (Zg (Zd ?_)))
  refine Zw rfl (fun h1 => ?_) (fun h1 => ?_)
  · refine Zh (Zb (st (Zc rfl (st (Ze rfl (Zg (Zd (Zx rfl rfl ?_))))))))
    exact ⟨_, rfl, hb3, by unfold Zgn; rw [if_neg h1]⟩
  refine Zn (Zd (Zh (Zb (st (Zm Zbt rfl (st (Zau (us := [.bool (decide (a.x < 0)), px]) Zaf rfl ((hB1.g0 k2).g0 k3).range (j := 0) rfl rfl (st (Zm Zbt rfl ?_)))))))))
  refine st (Zau (us := [.bool (decide (b.x < 0)), qx]) Zaf rfl (hB2.g0 k3).range (j := 0) rfl rfl (st (Zp fn23 rfl (Zcg (n0 := n0) (Zy hn0 hb3) (Zav rfl (((hpx.gg0 k1).gg0 k2).gg0 k3)) (Zav rfl (((hqx.gg0 k1).gg0 k2).gg0 k3)) (Bd.le hax (show 50 ≤ 90000 by decide)) (Bd.le hbx (show 50 ≤ 90000 by decide))) ?_)))
  rintro _ w4 ⟨hq2, rfl⟩
  have k4 := Zi hq2 none
  have hz3 := hq2.size
  have hb4 := Zf hb3 k4
  have hz4 := hb4.size
  refine st (Ze rfl (Zg (Zd (Zx rfl rfl ?_))))
  exact ⟨_, rfl, hb4, by unfold Zgn; rw [if_pos (Classical.not_not.1 h1)]⟩
set_option maxHeartbeats 1000000 in
theorem last_any {w : World} {F : Nat → Prop} {va : Value} {l : List Cl} {n0 : Nat} (hn0 : n0 ≤ w.heap.size) (hl : Sl (Kd.cell 83 n0) w F va l) (hcb : CBd l) (hll : l.length ≤ 100000) :
    Calls Try.prog 19 [va].toArray w (Zbi w fun v W => Gw.Own (Kd.cell 83 n0) 47 w.heap.size W (fun _ => False) v (Zbb l)) := by
  have hb0 := Below.refl w.heap.size w
  have hln1 := hl.lenle
  refine enter Try.func19 rfl rfl (Zh (Zb (st (Ze rfl (Zg (Zd (Zh ?_)))))))
  refine Zb (st (Ze rfl (Zg (Zd (Zh (Zh (Zb ?_)))))))
  refine st (Ze rfl (Zg (Zd (Zz (Za4 (α := Int × Value × List Cl) (fun ((i, vo, os) : Int × Value × List Cl) => [(0, va), (2, .slice none 0 0), (3, vo), (4, .int .i64 i)]) (fun ((i, vo, os) : Int × Value × List Cl) W => Below w.heap.size w W ∧ (0 ≤ i ∧ i ≤ l.length) ∧ (Gw.Own (Kd.cell 83 n0) 47 w.heap.size W (fun _ => False) vo os) ∧ (os = Zf7 (l.take i.toNat))) (fun ((i, vo, os) : Int × Value × List Cl) => (l.length - i).toNat) ((0), (.slice none 0 0), ([])) ⟨hb0, by omega, Own.nil _ _ _ _ _, rfl⟩ (by exact ⟨rfl, rfl, rfl, rfl, trivial⟩) ?_)))))
  rintro ⟨i, vo, os⟩ w1 ⟨hb1, hi, hO, hos⟩
  dsimp only at *
  have hz1 := hb1.size
  have hcbo := cbd_last hcb hos
  have hlo := last_len hos
  refine Zh (Zh (Zb (st (Zc rfl (st (Zc rfl (st (Zar Zcp rfl (hl.at0 hb1) (st (Zbf rfl rfl ?_))))))))))
  refine Zg (Zd ?_)
  refine Zw rfl (fun h1 => ?_) (fun h1 => ?_)
  rotate_left
  · refine Zan (Zk (Zk (Zt (Zd (Zh (Zb ?_))))))
    refine st (Ze rfl (Zg (Zd (Zh (Zh (Zb (st (Ze rfl ?_))))))))
    refine Zg (Zd (Zz (Za4 (α := Int × Value × List Cl) (fun ((m, vp, ys) : Int × Value × List Cl) => [(2, .slice none 0 0), (3, vo), (8, vp), (9, .int .i64 m)]) (fun ((m, vp, ys) : Int × Value × List Cl) W => Below w.heap.size w W ∧ (0 ≤ m ∧ m ≤ os.length) ∧ (Sl (Kd.cell 83 n0) W (Gw.Loc (fun _ => False) w1) vo os) ∧ (Gw.Own (Kd.cell 83 n0) 47 w1.heap.size W (fun _ => False) vp ys) ∧ (w1.heap.size ≤ W.heap.size) ∧ (ys = (os.take m.toNat).filter nzC)) (fun ((m, vp, ys) : Int × Value × List Cl) => (os.length - m).toNat) ((0), (.slice none 0 0), ([])) ⟨hb1, by omega, hO.sl.loc, Own.nil _ _ _ _ _, Nat.le_refl _, rfl⟩ (by exact ⟨rfl, rfl, rfl, rfl, trivial⟩) ?_)))
    rintro ⟨m, vp, ys⟩ w122 ⟨hb116, hm, hOa, hOb, hW1, hys⟩
    dsimp only at *
    have hz32 := hb116.size
    have hyl := filt_len hys
    have hW0 := (hb1).size
    refine Zh (Zh (Zb (st (Zc rfl (st (Zc rfl (st (Zar Zcp rfl hOa (st (Zbf rfl rfl ?_))))))))))
    refine Zg (Zd ?_)
    refine Zw rfl (fun h6 => ?_) (fun h6 => ?_)
    rotate_left
    · refine Zan (Zk (Zk (Zt (Zd (Zh (Zb ?_))))))
      refine st (Zc rfl (st (Ze rfl (Zg (Zd (Zx rfl rfl ?_))))))
      exact ⟨_, rfl, hb116, by unfold Zbb; rw [show Zf7 l = os by rw [hos, List.take_of_length_le (by omega)], show os.filter nzC = ys by rw [hys, List.take_of_length_le (by omega)]]; exact hOb.rebase (by omega)⟩
    refine Zn (Zd (Zh (Zz (Zh (Zb (st (Zc rfl ?_)))))))
    refine st (Zc rfl (st (Zaz Zcp rfl rfl hOa (by omega) (by omega) ?_)))
    rintro b7 o7 _ ⟨ca7, cb7, rfl, hca7, hcb7, hcs7⟩ hc7 hF7 hlt7
    replace hca7 := hca7.ofGF
    replace hcb7 := hcb7.ofGF
    refine st (Zm Zgx rfl (st (Zs one5 rfl hc7 (j := 4) rfl (st (s_ne rfl rfl (Zg (Zd ?_)))))))
    refine Zw rfl (fun h7 => ?_) (fun h7 => ?_)
    rotate_left
    · refine Zn (Zab (Zd (Zb (st (Zc rfl (st (Zaj rfl rfl (by omega) (st (Ze rfl ?_)))))))))
      refine Zg ?_
      exact Zad (((m + 1)), (vp), (ys)) ⟨hb116, by omega, hOa, hOb, by  omega, filt_no hm.1 h6 hys h7⟩ (by dsimp only; omega) (by exact ⟨rfl, rfl, rfl, rfl, trivial⟩)
    refine Zb (st (Zc rfl (st (Zc rfl (st (Zc rfl (st (Zaz Zcp rfl rfl hOa (by omega) (by omega) ?_))))))))
    rintro b8 o8 _ ⟨ca8, cb8, rfl, hca8, hcb8, hcs8⟩ hc8 hF8 hlt8
    replace hca8 := hca8.ofGF
    replace hcb8 := hcb8.ofGF
    refine st (Zu Zim rfl hc8 rfl (st (Zay (ps := [(0, .tmp 86)]) (ccs := [#[.bool (decide ((ix os m).x < 0)), ca8, .bool (decide ((ix os m).y < 0)), cb8, .int .u8 ((ix os m).st)]]) (e := 47) (cells := [.bool (decide ((ix os m).x < 0)), ca8, .bool (decide ((ix os m).y < 0)), cb8, .int .u8 ((ix os m).st)]) rfl rfl (by kernel_rfl) (by decide) nz47 ?_)))
    intro g7 w123 hg5 hB7 k117 hs11
    have hb117 := Zf hb116 k117
    have hz33 := hb117.size
    have hO129 := hOb.g0 k117
    have hS12 : Sl (Kd.cell 83 n0) w123 (fun _ => False) (.slice (some ⟨g7, 0, none⟩) 1 1) [(ix os m)] := Zkv (c := (ix os m)) hB7 (hca8.gg0 k117) (hcb8.gg0 k117) hcs8
    refine st (Zbc (K := (Kd.cell 83 n0)) Zcp rfl rfl hO129 (lit_cellO (c := (ix os m)) hB7 (hca8.gg0 k117) (hcb8.gg0 k117) hcs8 hO129 (Zeh hOb hg5) (by decide) (by omega)) (Zf9 83 n0).ones (by simp; omega) (by simp; omega) (by first | exact Nat.le_refl _ | omega | (have h0_ := k117.size; omega)) (fun _ h => h.elim) ?_)
    intro v26 w124 hO130 k118 hr15
    have hb118 := hb117.grown k118 hb117.size (fun k_ hk_ => by have h9_ := (hO129.lt k_ hk_).1; omega)
    have hz34 := hb118.size
    refine st (Ze rfl (Zg (Zab (Zd (Zb (st (Zc rfl (st (Zaj rfl rfl (by omega) ?_)))))))))
    refine st (Ze rfl (Zg ?_))
    exact Zad (((m + 1)), (v26), (ys ++ [(ix os m)])) ⟨hb118, by omega, (Sl.gO (hOa.g0 k117) k118 (fun g_ h_ => by have h9_ := (hO129.lt g_ h_).1;  omega)), hO130, by have h0_ := k117.size; have h1_ := k118.size; omega, filt_yes hm.1 h6 hys h7⟩ (by dsimp only; omega) (by exact ⟨rfl, rfl, rfl, rfl, trivial⟩)
  have hlt := h1
  refine Zn (Zd (Zh (Zz (Zh (Zb (st (Ze rfl ?_)))))))
  refine Zg (Zd ?_)
  refine w_cut (α := Int) (fun (k : Int) => [(0, va), (2, .slice none 0 0), (3, vo), (4, .int .i64 i), (5, .int .i64 k)]) (fun (k : Int) W => Below w.heap.size w W ∧ (0 ≤ k ∧ k ≤ os.length) ∧ (Gw.Own (Kd.cell 83 n0) 47 w.heap.size W (fun _ => False) vo os) ∧ (∀ j : Int, 0 ≤ j → j < k → Zgn (ix os j) (ix l i) < 0) ∧ (k < os.length → ¬ Zgn (ix os k) (ix l i) < 0)) ?_ ?_
  · refine Zz (Za4 (α := Int) (fun (k : Int) => [(0, va), (2, .slice none 0 0), (3, vo), (4, .int .i64 i), (5, .int .i64 k)]) (fun (k : Int) W => Below w.heap.size w W ∧ (0 ≤ k ∧ k ≤ os.length) ∧ (Gw.Own (Kd.cell 83 n0) 47 w.heap.size W (fun _ => False) vo os) ∧ (∀ j : Int, 0 ≤ j → j < k → Zgn (ix os j) (ix l i) < 0)) (fun (k : Int) => (os.length - k).toNat) (0) ⟨hb1, by omega, hO, fun j _ _ => by omega⟩ (by exact ⟨rfl, rfl, rfl, rfl, rfl, trivial⟩) ?_)
    rintro k w2 ⟨hb2, hk, hOk, hat⟩
    have hz2 := hb2.size
    refine Zh (Zh ?_)
    by_cases h2 : k < (os.length : Int)
    rotate_left
    · refine Zby 16 (fun a b => a.grownBy b none) [(some 16, Is <| .int .i64 k), (some 17, Is <| vo), (some 18, Is <| .int .i64 (os.length : Int)), (some 19, Is <| .bool (decide (k < (os.length : Int)))), (some 20, Is <| .bool false), (some 21, Is <| undef), (some 22, Is <| undef), (some 23, Is <| undef), (some 24, Is <| undef), (some 25, Is <| undef), (some 26, Is <| undef), (some 27, Is <| undef), (some 28, Is <| undef), (some 29, Is <| undef), (some 30, Is <| undef), (some 31, Is <| .bool false)] [[], [], [1], [0, 2], [3], [4], [4], [4, 5, 6], [4, 7], [4], [4], [4, 9, 10], [4, 11], [4, 8, 12], [4, 13], [4, 14]] [(0, va), (2, .slice none 0 0), (3, vo), (4, .int .i64 i), (5, .int .i64 k)] (by exact ⟨rfl, rfl, rfl, rfl, rfl, trivial⟩) (by kernel_rfl) (by kernel_rfl) Za (fun _ _ _ => Zaa) ⟨kv, kv, kv, kv, kv, kv, kv, kv, kv, kv, kv, kv, kv, kv, kv, kv, trivial⟩ ?_
      intro w23 k21 hs2
      have hb22 := Zf hb2 k21
      have hO20 := hOk.g0 k21
      refine ⟨⟨?_, ?_, ?_, ?_, ?_, ?_, ?_, ?_, ?_, ?_, ?_, ?_, ?_, ?_, ?_, ?_, trivial⟩, ?_⟩
      · intro w24 k22
        refine op1 (Zc rfl ?_)
        exact ⟨rfl, Za _⟩
      · intro w25 k23
        refine op1 (Zc rfl ?_)
        exact ⟨rfl, Za _⟩
      · intro w26 k24
        have hO23 := hO20.g0 k24
        intro v_ hv_; subst v_
        refine op1 (Zar Zcp rfl hO23.sl.loc ?_)
        exact ⟨rfl, Za _⟩
      · intro w27 k25
        rintro _ rfl _ rfl
        refine op1 (Zbf rfl rfl ?_)
        exact ⟨rfl, Za _⟩
      · intro w28 k26
        rintro _ rfl
        refine op1 (Zc rfl ?_)
        exact ⟨(by rw [decide_eq_false h2]), Za _⟩
      · intro w29 k27
        rintro _ rfl
        refine Zax ⟨rfl, Za _⟩
      · intro w30 k28
        rintro _ rfl
        refine Zax ⟨rfl, Za _⟩
      · intro w31 k29
        rintro _ rfl
        intro v_ hv_; subst v_
        intro v_ hv_; subst v_
        refine Zax ⟨rfl, Za _⟩
      · intro w32 k30
        rintro _ rfl
        intro v_ hv_; subst v_
        refine Zax ⟨rfl, Za _⟩
      · intro w33 k31
        rintro _ rfl
        refine Zax ⟨rfl, Za _⟩
      · intro w34 k32
        rintro _ rfl
        refine Zax ⟨rfl, Za _⟩
      · intro w35 k33
        rintro _ rfl
        intro v_ hv_; subst v_
        intro v_ hv_; subst v_
        refine Zax ⟨rfl, Za _⟩
      · intro w36 k34
        rintro _ rfl
        intro v_ hv_; subst v_
        refine Zax ⟨rfl, Za _⟩
      · intro w37 k35
        rintro _ rfl
        intro v_ hv_; subst v_
        intro v_ hv_; subst v_
        refine Zax ⟨rfl, Za _⟩
      · intro w38 k36
        rintro _ rfl
        intro v_ hv_; subst v_
        refine Zax ⟨rfl, Za _⟩
      · intro w39 k37
        rintro _ rfl
        intro v_ hv_; subst v_
        refine op1 (Zo rfl rfl ?_)
        exact ⟨rfl, Za _⟩
      intro w40 k38
      have hb39 := Zf hb22 k38
      have hO37 := hO20.g0 k38
      have hz7 := k21.size
      have hz8 := k38.size
      rintro _ rfl
      intro v_ hv_; subst v_
      rintro _ rfl _ rfl _ rfl
      intro v_ hv_; subst v_
      intro v_ hv_; subst v_
      intro v_ hv_; subst v_
      intro v_ hv_; subst v_
      intro v_ hv_; subst v_
      intro v_ hv_; subst v_
      intro v_ hv_; subst v_
      intro v_ hv_; subst v_
      intro v_ hv_; subst v_
      intro v_ hv_; subst v_
      rintro _ rfl
      refine Zg (Zd (Zbv rfl (Zan (Zk (Zk (Zt ?_))))))
      exact Zfl (k) ⟨hb39, by omega, hO37, hat, fun hz => (absurd hz (by omega))⟩ (by exact ⟨rfl, rfl, rfl, rfl, rfl, trivial⟩)
    obtain ⟨b1, o1, _, hat1, ⟨ca1, cb1, rfl, hca1, hcb1, hcs1⟩, hc1, hF1, hlt1⟩ := hOk.sl.loc.elem k (by omega) (by omega)
    replace hca1 := hca1.ofGF
    replace hcb1 := hcb1.ofGF
    obtain ⟨b2, o2, _, hat2, ⟨ca2, cb2, rfl, hca2, hcb2, hcs2⟩, hc2, hF2, hlt2⟩ := (hl.at0 hb2).elem i (by omega) (by omega)
    have hl_1 := Loc.lt hF2
    replace hca2 := hca2.ofGF
    replace hcb2 := hcb2.ofGF
    refine Zby 16 (fun a b => a.grownBy b none) [(some 16, Is <| .int .i64 k), (some 17, Is <| vo), (some 18, Is <| .int .i64 (os.length : Int)), (some 19, Is <| .bool (decide (k < (os.length : Int)))), (some 20, Is <| .bool true), (some 21, Is <| vo), (some 22, Is <| .int .i64 k), (some 23, Is <| .pointer (some ⟨b1, o1, none⟩)), (some 24, Is <| .agg [.bool (decide ((ix os k).x < 0)), ca1, .bool (decide ((ix os k).y < 0)), cb1, .int .u8 ((ix os k).st)].toArray), (some 25, Is <| va), (some 26, Is <| .int .i64 i), (some 27, Is <| .pointer (some ⟨b2, o2, none⟩)), (some 28, Is <| .agg [.bool (decide ((ix l i).x < 0)), ca2, .bool (decide ((ix l i).y < 0)), cb2, .int .u8 ((ix l i).st)].toArray), (some 29, Is <| .int .i64 (Zgn (ix os k) (ix l i))), (some 30, Is <| .bool (decide ((Zgn (ix os k) (ix l i)) < 0))), (some 31, Is <| .bool (decide ((Zgn (ix os k) (ix l i)) < 0)))] [[], [], [1], [0, 2], [3], [4], [4], [4, 5, 6], [4, 7], [4], [4], [4, 9, 10], [4, 11], [4, 8, 12], [4, 13], [4, 14]] [(0, va), (2, .slice none 0 0), (3, vo), (4, .int .i64 i), (5, .int .i64 k)] (by exact ⟨rfl, rfl, rfl, rfl, rfl, trivial⟩) (by kernel_rfl) (by kernel_rfl) Za (fun _ _ _ => Zaa) ⟨kv, kv, kv, kv, kv, kv, kv, kv, kv, kv, kv, kv, kv, kv, kv, kv, trivial⟩ ?_
    intro w4 k2 hs1
    have hb3 := Zf hb2 k2
    have hO1 := hOk.g0 k2
    refine ⟨⟨?_, ?_, ?_, ?_, ?_, ?_, ?_, ?_, ?_, ?_, ?_, ?_, ?_, ?_, ?_, ?_, trivial⟩, ?_⟩
    · intro w5 k3
      refine op1 (Zc rfl ?_)
      exact ⟨rfl, Za _⟩
    · intro w6 k4
      refine op1 (Zc rfl ?_)
      exact ⟨rfl, Za _⟩
    · intro w7 k5
      have hO4 := hO1.g0 k5
      intro v_ hv_; subst v_
      refine op1 (Zar Zcp rfl hO4.sl.loc ?_)
      exact ⟨rfl, Za _⟩
    · intro w8 k6
      rintro _ rfl _ rfl
      refine op1 (Zbf rfl rfl ?_)
      exact ⟨rfl, Za _⟩
    · intro w9 k7
      rintro _ rfl
      refine op1 (Zc rfl ?_)
      exact ⟨(by rw [decide_eq_true h2]), Za _⟩
    · intro w10 k8
      rintro _ rfl
      refine Zal (Zc rfl ?_)
      exact ⟨rfl, Za _⟩
    · intro w11 k9
      rintro _ rfl
      refine Zal (Zc rfl ?_)
      exact ⟨rfl, Za _⟩
    · intro w12 k10
      rintro _ rfl
      intro v_ hv_; subst v_
      rintro _ rfl
      refine Zal (Zbm Zcp rfl rfl hat1 ?_)
      exact ⟨rfl, Za _⟩
    · intro w13 k11
      rintro _ rfl _ rfl
      refine Zal (Zu Zim rfl (Zai (Zai hc1 k2) k11) rfl ?_)
      exact ⟨rfl, Za _⟩
    · intro w14 k12
      rintro _ rfl
      refine Zal (Zc rfl ?_)
      exact ⟨rfl, Za _⟩
    · intro w15 k13
      rintro _ rfl
      refine Zal (Zc rfl ?_)
      exact ⟨rfl, Za _⟩
    · intro w16 k14
      rintro _ rfl
      intro v_ hv_; subst v_
      rintro _ rfl
      refine Zal (Zbm Zcp rfl rfl hat2 ?_)
      exact ⟨rfl, Za _⟩
    · intro w17 k15
      rintro _ rfl _ rfl
      refine Zal (Zu Zim rfl (Zai (Zai hc2 k2) k15) rfl ?_)
      exact ⟨rfl, Za _⟩
    · intro w18 k16
      have hb17 := Zf hb3 k16
      rintro _ rfl _ rfl _ rfl
      refine Zal (Zp fn52 rfl (order_any (a := (ix os k)) (b := (ix l i)) (n0 := n0) (Zy hn0 hb17) ((hca1.gg0 k2).gg0 k16) ((hcb1.gg0 k2).gg0 k16) ((hca2.gg0 k2).gg0 k16) ((hcb2.gg0 k2).gg0 k16) (Bd.le (Zdh hcbo (by omega) (by omega)).1 (show 50 ≤ 50 by decide)) (Bd.le (Zdh hcbo (by omega) (by omega)).2 (show 50 ≤ 50 by decide)) (Bd.le (Zdh hcb (by omega) (by omega)).1 (show 50 ≤ 50 by decide)) (Bd.le (Zdh hcb (by omega) (by omega)).2 (show 50 ≤ 50 by decide))) ?_)
      rintro _ w19 ⟨hq2, rfl⟩
      have k17 := Zi hq2 none
      have hz3 := hq2.size
      have hb18 := Zf hb17 k17
      have hz4 := hb18.size
      exact ⟨rfl, k17⟩
    · intro w20 k18
      rintro _ rfl _ rfl
      refine Zal (Zbf rfl rfl ?_)
      exact ⟨rfl, Za _⟩
    · intro w21 k19
      rintro _ rfl _ rfl
      refine op1 (Zo rfl rfl ?_)
      exact ⟨rfl, Za _⟩
    intro w22 k20
    have hb21 := Zf hb3 k20
    have hO19 := hO1.g0 k20
    have hz5 := k2.size
    have hz6 := k20.size
    rintro _ rfl
    intro v_ hv_; subst v_
    rintro _ rfl _ rfl _ rfl
    intro v_ hv_; subst v_
    rintro _ rfl _ rfl _ rfl
    intro v_ hv_; subst v_
    rintro _ rfl _ rfl _ rfl _ rfl _ rfl _ rfl
    refine Zg (Zd ?_)
    refine Zw rfl (fun h3 => ?_) (fun h3 => ?_)
    rotate_left
    · refine Zan (Zk (Zk (Zt ?_)))
      exact Zfl (k) ⟨hb21, by omega, hO19, hat, fun hz => h3⟩ (by exact ⟨rfl, rfl, rfl, rfl, rfl, trivial⟩)
    refine Zn (Zd (Zz (Zb (st (Zc rfl (st (Zaj rfl rfl (by omega) (st (Ze rfl ?_)))))))))
    refine Zg (Zab ?_)
    exact Zad ((k + 1)) ⟨hb21, by omega, hO19, fun j j0 j1 => if e : j = k then by rw [e]; exact h3 else hat j j0 (by omega)⟩ (by omega) (by exact ⟨rfl, rfl, rfl, rfl, rfl, trivial⟩)
  rintro k w41 ⟨hb40, hk, hOb, hat, hnl⟩
  have hz9 := hb40.size
  refine Zh ?_
  by_cases h4 : k < (os.length : Int)
  rotate_left
  · refine Zby 16 (fun a b => a.grownBy b none) [(some 34, Is <| .int .i64 k), (some 35, Is <| vo), (some 36, Is <| .int .i64 (os.length : Int)), (some 37, Is <| .bool (decide (k < (os.length : Int)))), (some 38, Is <| .bool false), (some 39, Is <| undef), (some 40, Is <| undef), (some 41, Is <| undef), (some 42, Is <| undef), (some 43, Is <| undef), (some 44, Is <| undef), (some 45, Is <| undef), (some 46, Is <| undef), (some 47, Is <| undef), (some 48, Is <| undef), (some 49, Is <| .bool false)] [[], [], [1], [0, 2], [3], [4], [4], [4, 5, 6], [4, 7], [4], [4], [4, 9, 10], [4, 11], [4, 8, 12], [4, 13], [4, 14]] [(0, va), (2, .slice none 0 0), (3, vo), (4, .int .i64 i), (5, .int .i64 k)] (by exact ⟨rfl, rfl, rfl, rfl, rfl, trivial⟩) (by kernel_rfl) (by kernel_rfl) Za (fun _ _ _ => Zaa) ⟨kv, kv, kv, kv, kv, kv, kv, kv, kv, kv, kv, kv, kv, kv, kv, kv, trivial⟩ ?_
    intro w83 k79 hs7
    have hb79 := Zf hb40 k79
    have hO84 := hOb.g0 k79
    refine ⟨⟨?_, ?_, ?_, ?_, ?_, ?_, ?_, ?_, ?_, ?_, ?_, ?_, ?_, ?_, ?_, ?_, trivial⟩, ?_⟩
    · intro w84 k80
      refine op1 (Zc rfl ?_)
      exact ⟨rfl, Za _⟩
    · intro w85 k81
      refine op1 (Zc rfl ?_)
      exact ⟨rfl, Za _⟩
    · intro w86 k82
      have hO87 := hO84.g0 k82
      intro v_ hv_; subst v_
      refine op1 (Zar Zcp rfl hO87.sl.loc ?_)
      exact ⟨rfl, Za _⟩
    · intro w87 k83
      rintro _ rfl _ rfl
      refine op1 (Zbf rfl rfl ?_)
      exact ⟨rfl, Za _⟩
    · intro w88 k84
      rintro _ rfl
      refine op1 (Zc rfl ?_)
      exact ⟨(by rw [decide_eq_false h4]), Za _⟩
    · intro w89 k85
      rintro _ rfl
      refine Zax ⟨rfl, Za _⟩
    · intro w90 k86
      rintro _ rfl
      refine Zax ⟨rfl, Za _⟩
    · intro w91 k87
      rintro _ rfl
      intro v_ hv_; subst v_
      intro v_ hv_; subst v_
      refine Zax ⟨rfl, Za _⟩
    · intro w92 k88
      rintro _ rfl
      intro v_ hv_; subst v_
      refine Zax ⟨rfl, Za _⟩
    · intro w93 k89
      rintro _ rfl
      refine Zax ⟨rfl, Za _⟩
    · intro w94 k90
      rintro _ rfl
      refine Zax ⟨rfl, Za _⟩
    · intro w95 k91
      rintro _ rfl
      intro v_ hv_; subst v_
      intro v_ hv_; subst v_
      refine Zax ⟨rfl, Za _⟩
    · intro w96 k92
      rintro _ rfl
      intro v_ hv_; subst v_
      refine Zax ⟨rfl, Za _⟩
    · intro w97 k93
      rintro _ rfl
      intro v_ hv_; subst v_
      intro v_ hv_; subst v_
      refine Zax ⟨rfl, Za _⟩
    · intro w98 k94
      rintro _ rfl
      intro v_ hv_; subst v_
      refine Zax ⟨rfl, Za _⟩
    · intro w99 k95
      rintro _ rfl
      intro v_ hv_; subst v_
      refine op1 (Zo rfl rfl ?_)
      exact ⟨rfl, Za _⟩
    intro w100 k96
    have hb96 := Zf hb79 k96
    have hO101 := hO84.g0 k96
    have hz22 := k79.size
    have hz23 := k96.size
    rintro _ rfl
    intro v_ hv_; subst v_
    rintro _ rfl _ rfl _ rfl
    intro v_ hv_; subst v_
    intro v_ hv_; subst v_
    intro v_ hv_; subst v_
    intro v_ hv_; subst v_
    intro v_ hv_; subst v_
    intro v_ hv_; subst v_
    intro v_ hv_; subst v_
    intro v_ hv_; subst v_
    intro v_ hv_; subst v_
    intro v_ hv_; subst v_
    rintro _ rfl
    refine st (Ze rfl (Zg (Zd (Zh (Zb (st (Zmc (K := (Kd.cell 83 n0)) (base := w.heap.size) (F := (fun _ => False)) Zcp (hb96).size (fun _ h => h.elim) ?_)))))))
    intro g4 w101 hB4 hO102 k97
    have hb97 := Zf hb96 k97
    have hz24 := hb97.size
    have hO103 := hO101.g0 k97
    refine st (Zc rfl (st (Zc rfl (st (s_sllo Zcp rfl rfl hO103.sl.loc (by first | omega | (simp; omega)) (by first | omega | (simp; omega)) ?_)))))
    intro v14 hS7
    refine st (s_append0 Zcp rfl rfl hO102 (hS7).none (Zf9 83 n0).ones (by simp; omega) (by simp; omega) (by omega) (fun _ h => h.elim) ?_)
    intro v15 w102 hO104 k98
    have hb98 := Zf hb97 k98
    have hz25 := hb98.size
    have hO105 := hO103.g0 k98
    refine st (Ze rfl (Zg (Zd ?_)))
    refine w_cut (α := Value × List Cl) (fun ((vr, rs) : Value × List Cl) => [(0, va), (2, .slice none 0 0), (3, vo), (4, .int .i64 i), (5, .int .i64 k), (7, vr)]) (fun ((vr, rs)) W => Below w.heap.size w W ∧ (Gw.Own (Kd.cell 83 n0) 47 w.heap.size W (fun _ => False) vo os) ∧ (Sl (Kd.cell 83 n0) W (fun _ => False) vr rs) ∧ ((os.take k.toNat ++ [ix l i]) ++ rs = Zel os (ix l i)) ∧ (rs.length ≤ os.length)) ?_ ?_
    · refine Zh (Zb (st (Zc rfl (Zg (Zd (Zbv rfl (Zn ?_)))))))
      exact Zfl ((v15), (os.drop (k).toNat)) ⟨hb98, hO105, hO104.sl, insC_new (by omega) (by omega) hat (fun hz => ⟨(hnl hz), (absurd hz (by omega))⟩), by first | omega | (simp; done) | (simp; omega)⟩ (by exact ⟨rfl, rfl, rfl, rfl, rfl, rfl, trivial⟩)
    rintro ⟨vr, rs⟩ w103 ⟨hb99, hOr, hSr, hrs, hrl⟩
    dsimp only at *
    have hz26 := hb99.size
    obtain ⟨b6, o6, _, hat6, ⟨ca6, cb6, rfl, hca6, hcb6, hcs6⟩, hc6, hF6, hlt6⟩ := (hl.at0 hb99).elem i (by omega) (by omega)
    have hl_4 := Loc.lt hF6
    replace hca6 := hca6.ofGF
    replace hcb6 := hcb6.ofGF
    refine w_drawT 11 (fun a b => a.grownBy b none) [(some 58, Is <| vo), (some 59, Is <| .int .i64 k), (some 60, Is <| .int .i64 k), (some 61, fun v W => SlC (Kd.cell 83 n0) W (fun _ => False) v (os.take (k).toNat)), (some 62, Is <| va), (some 63, Is <| .int .i64 i), (some 64, Is <| .pointer (some ⟨b6, o6, none⟩)), (some 65, Is <| .agg [.bool (decide ((ix l i).x < 0)), ca6, .bool (decide ((ix l i).y < 0)), cb6, .int .u8 ((ix l i).st)].toArray), (some 66, fun v W => Sl (Kd.cell 83 n0) W (fun _ => False) v [(ix l i)]), (some 67, fun v W => Gw.Own (Kd.cell 83 n0) 47 w103.heap.size W (fun _ => False) v ((os.take (k).toNat) ++ [(ix l i)])), (some 68, Is <| vr)] [[], [], [], [0, 1, 2], [], [], [4, 5], [6], [7], [3, 8], []] [(0, va), (2, .slice none 0 0), (3, vo), (4, .int .i64 i), (5, .int .i64 k), (7, vr)] (by exact ⟨rfl, rfl, rfl, rfl, rfl, rfl, trivial⟩) (by kernel_rfl) (by kernel_rfl) Za (fun _ _ _ => Zaa) ⟨kv, kv, kv, fun _ _ _ h k => h.g0 k, kv, kv, kv, kv, fun _ _ _ h k => h.g0 k, fun _ _ _ h k => h.g0 k, kv, trivial⟩ ?_
    intro w106 k101 hs9
    have hb100 := Zf hb99 k101
    have hO108 := hOr.g0 k101
    refine ⟨⟨?_, ?_, ?_, ?_, ?_, ?_, ?_, ?_, ?_, ?_, ?_, trivial⟩, ?_⟩
    · intro w107 k102
      refine op1 (Zc rfl ?_)
      exact ⟨rfl, Za _⟩
    · intro w108 k103
      refine op1 (Zc rfl ?_)
      exact ⟨rfl, Za _⟩
    · intro w109 k104
      refine op1 (Zc rfl ?_)
      exact ⟨rfl, Za _⟩
    · intro w110 k105
      have hO112 := hO108.g0 k105
      intro v_ hv_; subst v_
      rintro _ rfl _ rfl
      refine op1 (s_slcap Zcp rfl rfl rfl (hO112.sl.loc).none (by first | omega | (simp; omega)) (by first | omega | (simp; omega)) ?_)
      intro v18 hC6
      exact ⟨hC6, Za _⟩
    · intro w111 k106
      refine op1 (Zc rfl ?_)
      exact ⟨rfl, Za _⟩
    · intro w112 k107
      refine op1 (Zc rfl ?_)
      exact ⟨rfl, Za _⟩
    · intro w113 k108
      intro v_ hv_; subst v_
      rintro _ rfl
      refine op1 (Zbm Zcp rfl rfl hat6 ?_)
      exact ⟨rfl, Za _⟩
    · intro w114 k109
      rintro _ rfl
      refine op1 (Zu Zim rfl (Zai (Zai hc6 k101) k109) rfl ?_)
      exact ⟨rfl, Za _⟩
    · intro w115 k110
      have hb109 := Zf hb100 k110
      rintro _ rfl
      refine op1 (Zay (ps := [(0, .tmp 65)]) (ccs := [#[.bool (decide ((ix l i).x < 0)), ca6, .bool (decide ((ix l i).y < 0)), cb6, .int .u8 ((ix l i).st)]]) (e := 47) (cells := [.bool (decide ((ix l i).x < 0)), ca6, .bool (decide ((ix l i).y < 0)), cb6, .int .u8 ((ix l i).st)]) rfl rfl (by kernel_rfl) (by decide) nz47 ?_)
      intro g6 w116 hg4 hB6 k111 hs10
      have hb110 := Zf hb109 k111
      have hz27 := hb110.size
      have hS9 : Sl (Kd.cell 83 n0) w116 (fun _ => False) (.slice (some ⟨g6, 0, none⟩) 1 1) [(ix l i)] := Zkv (c := (ix l i)) hB6 (((hca6.gg0 k101).gg0 k110).gg0 k111) (((hcb6.gg0 k101).gg0 k110).gg0 k111) hcs6
      exact ⟨hS9, k111⟩
    · intro w117 k112
      have hb111 := Zf hb100 k112
      rintro v19 hC7 v20 hS10
      refine op1 (Zlr (K := (Kd.cell 83 n0)) Zcp rfl rfl hC7 (hS10).none (by simp) (Zf9 83 n0).ones (by simp; omega) (by simp; omega) (fun _ h => h.elim) ?_)
      intro v21 w118 hO120 k113 hr11
      have hO121 := hO120.rebase (b' := w103.heap.size) (by have h0_ := k101.size; have h1_ := k112.size; have h2_ := k113.size; omega)
      have hb112 := Zf hb111 k113
      have hz28 := hb112.size
      exact ⟨hO121, k113⟩
    · intro w119 k114
      refine op1 (Zc rfl ?_)
      exact ⟨rfl, Za _⟩
    intro w120 k115
    have hb114 := Zf hb100 k115
    have hz29 := k101.size
    have hz30 := k115.size
    intro v_ hv_; subst v_
    rintro _ rfl _ rfl v22 hC8
    intro v_ hv_; subst v_
    rintro _ rfl _ rfl _ rfl v23 hS11 v24 hO125
    have hO126 := hO125.rebase (b' := w.heap.size) (by omega)
    intro v_ hv_; subst v_
    refine st (s_appendH (K := (Kd.cell 83 n0)) Zcp rfl rfl hO126 (fun _ _ h_ => (Zk3 83 n0) _ _ _ _ _ h_ (fun _ _ hO_ => hO_.elim (fun h_ => h_.elim) fun hO_ => hO126.isG hO_ (by decide) (by omega))) ((hSr.g0 k101).g0 k115) (Zf9 83 n0).ones (by simp; omega) (by simp; omega) (by first | exact Nat.le_refl _ | omega | (have h0_ := k101.size; have h1_ := k115.size; omega)) (fun _ h => h.elim) ?_)
    intro v25 w121 hO127 k116 hr12 _
    have hb115 := hb114.grown k116 hb114.size (fun k_ hk_ => by have h9_ := (hO126.lt k_ hk_).1; omega)
    have hz31 := hb115.size
    refine st (Ze rfl (Zg (Zab (Zd (Zb (st (Zc rfl (st (Zaj rfl rfl (by omega) ?_)))))))))
    refine st (Ze rfl (Zg ?_))
    exact Zad (((i + 1)), (v25), ((Zel os (ix l i)))) ⟨hb115, by omega, (by rw [← hrs]; exact hO127), Zl6 hi.1 hlt hos⟩ (by dsimp only; omega) (by exact ⟨rfl, rfl, rfl, rfl, trivial⟩)
  obtain ⟨b3, o3, _, hat3, ⟨ca3, cb3, rfl, hca3, hcb3, hcs3⟩, hc3, hF3, hlt3⟩ := hOb.sl.loc.elem k (by omega) (by omega)
  replace hca3 := hca3.ofGF
  replace hcb3 := hcb3.ofGF
  obtain ⟨b4, o4, _, hat4, ⟨ca4, cb4, rfl, hca4, hcb4, hcs4⟩, hc4, hF4, hlt4⟩ := (hl.at0 hb40).elem i (by omega) (by omega)
  have hl_2 := Loc.lt hF4
  replace hca4 := hca4.ofGF
  replace hcb4 := hcb4.ofGF
  refine Zby 16 (fun a b => a.grownBy b none) [(some 34, Is <| .int .i64 k), (some 35, Is <| vo), (some 36, Is <| .int .i64 (os.length : Int)), (some 37, Is <| .bool (decide (k < (os.length : Int)))), (some 38, Is <| .bool true), (some 39, Is <| vo), (some 40, Is <| .int .i64 k), (some 41, Is <| .pointer (some ⟨b3, o3, none⟩)), (some 42, Is <| .agg [.bool (decide ((ix os k).x < 0)), ca3, .bool (decide ((ix os k).y < 0)), cb3, .int .u8 ((ix os k).st)].toArray), (some 43, Is <| va), (some 44, Is <| .int .i64 i), (some 45, Is <| .pointer (some ⟨b4, o4, none⟩)), (some 46, Is <| .agg [.bool (decide ((ix l i).x < 0)), ca4, .bool (decide ((ix l i).y < 0)), cb4, .int .u8 ((ix l i).st)].toArray), (some 47, Is <| .int .i64 (Zgn (ix os k) (ix l i))), (some 48, Is <| .bool (decide ((Zgn (ix os k) (ix l i)) = 0))), (some 49, Is <| .bool (decide ((Zgn (ix os k) (ix l i)) = 0)))] [[], [], [1], [0, 2], [3], [4], [4], [4, 5, 6], [4, 7], [4], [4], [4, 9, 10], [4, 11], [4, 8, 12], [4, 13], [4, 14]] [(0, va), (2, .slice none 0 0), (3, vo), (4, .int .i64 i), (5, .int .i64 k)] (by exact ⟨rfl, rfl, rfl, rfl, rfl, trivial⟩) (by kernel_rfl) (by kernel_rfl) Za (fun _ _ _ => Zaa) ⟨kv, kv, kv, kv, kv, kv, kv, kv, kv, kv, kv, kv, kv, kv, kv, kv, trivial⟩ ?_
  intro w43 k40 hs3
  have hb41 := Zf hb40 k40
  have hO38 := hOb.g0 k40
  refine ⟨⟨?_, ?_, ?_, ?_, ?_, ?_, ?_, ?_, ?_, ?_, ?_, ?_, ?_, ?_, ?_, ?_, trivial⟩, ?_⟩
  · intro w44 k41
    refine op1 (Zc rfl ?_)
    exact ⟨rfl, Za _⟩
  · intro w45 k42
    refine op1 (Zc rfl ?_)
    exact ⟨rfl, Za _⟩
  · intro w46 k43
    have hO41 := hO38.g0 k43
    intro v_ hv_; subst v_
    refine op1 (Zar Zcp rfl hO41.sl.loc ?_)
    exact ⟨rfl, Za _⟩
  · intro w47 k44
    rintro _ rfl _ rfl
    refine op1 (Zbf rfl rfl ?_)
    exact ⟨rfl, Za _⟩
  · intro w48 k45
    rintro _ rfl
    refine op1 (Zc rfl ?_)
    exact ⟨(by rw [decide_eq_true h4]), Za _⟩
  · intro w49 k46
    rintro _ rfl
    refine Zal (Zc rfl ?_)
    exact ⟨rfl, Za _⟩
  · intro w50 k47
    rintro _ rfl
    refine Zal (Zc rfl ?_)
    exact ⟨rfl, Za _⟩
  · intro w51 k48
    rintro _ rfl
    intro v_ hv_; subst v_
    rintro _ rfl
    refine Zal (Zbm Zcp rfl rfl hat3 ?_)
    exact ⟨rfl, Za _⟩
  · intro w52 k49
    rintro _ rfl _ rfl
    refine Zal (Zu Zim rfl (Zai (Zai hc3 k40) k49) rfl ?_)
    exact ⟨rfl, Za _⟩
  · intro w53 k50
    rintro _ rfl
    refine Zal (Zc rfl ?_)
    exact ⟨rfl, Za _⟩
  · intro w54 k51
    rintro _ rfl
    refine Zal (Zc rfl ?_)
    exact ⟨rfl, Za _⟩
  · intro w55 k52
    rintro _ rfl
    intro v_ hv_; subst v_
    rintro _ rfl
    refine Zal (Zbm Zcp rfl rfl hat4 ?_)
    exact ⟨rfl, Za _⟩
  · intro w56 k53
    rintro _ rfl _ rfl
    refine Zal (Zu Zim rfl (Zai (Zai hc4 k40) k53) rfl ?_)
    exact ⟨rfl, Za _⟩
  · intro w57 k54
    have hb55 := Zf hb41 k54
    rintro _ rfl _ rfl _ rfl
    refine Zal (Zp fn52 rfl (order_any (a := (ix os k)) (b := (ix l i)) (n0 := n0) (Zy hn0 hb55) ((hca3.gg0 k40).gg0 k54) ((hcb3.gg0 k40).gg0 k54) ((hca4.gg0 k40).gg0 k54) ((hcb4.gg0 k40).gg0 k54) (Bd.le (Zdh hcbo (by omega) (by omega)).1 (show 50 ≤ 50 by decide)) (Bd.le (Zdh hcbo (by omega) (by omega)).2 (show 50 ≤ 50 by decide)) (Bd.le (Zdh hcb (by omega) (by omega)).1 (show 50 ≤ 50 by decide)) (Bd.le (Zdh hcb (by omega) (by omega)).2 (show 50 ≤ 50 by decide))) ?_)
    rintro _ w58 ⟨hq4, rfl⟩
    have k55 := Zi hq4 none
    have hz10 := hq4.size
    have hb56 := Zf hb55 k55
    have hz11 := hb56.size
    exact ⟨rfl, k55⟩
  · intro w59 k56
    rintro _ rfl _ rfl
    refine Zal (Zbr rfl rfl ?_)
    exact ⟨rfl, Za _⟩
  · intro w60 k57
    rintro _ rfl _ rfl
    refine op1 (Zo rfl rfl ?_)
    exact ⟨rfl, Za _⟩
  intro w61 k58
  have hb59 := Zf hb41 k58
  have hO56 := hO38.g0 k58
  have hz12 := k40.size
  have hz13 := k58.size
  rintro _ rfl
  intro v_ hv_; subst v_
  rintro _ rfl _ rfl _ rfl
  intro v_ hv_; subst v_
  rintro _ rfl _ rfl _ rfl
  intro v_ hv_; subst v_
  rintro _ rfl _ rfl _ rfl _ rfl _ rfl _ rfl
  refine st (Ze rfl (Zg (Zd (Zh (Zb (st (Zmc (K := (Kd.cell 83 n0)) (base := w.heap.size) (F := (fun _ => False)) Zcp (hb59).size (fun _ h => h.elim) ?_)))))))
  intro g1 w62 hB1 hO57 k59
  have hb60 := Zf hb59 k59
  have hz14 := hb60.size
  have hO58 := hO56.g0 k59
  refine st (Zc rfl (st (Zc rfl (st (s_sllo Zcp rfl rfl hO58.sl.loc (by first | omega | (simp; omega)) (by first | omega | (simp; omega)) ?_)))))
  intro v1 hS1
  refine st (s_append0 Zcp rfl rfl hO57 (hS1).none (Zf9 83 n0).ones (by simp; omega) (by simp; omega) (by omega) (fun _ h => h.elim) ?_)
  intro v2 w63 hO59 k60
  have hb61 := Zf hb60 k60
  have hz15 := hb61.size
  have hO60 := hO58.g0 k60
  refine st (Ze rfl (Zg (Zd ?_)))
  refine w_cut (α := Value × List Cl) (fun ((vr, rs) : Value × List Cl) => [(0, va), (2, .slice none 0 0), (3, vo), (4, .int .i64 i), (5, .int .i64 k), (7, vr)]) (fun ((vr, rs)) W => Below w.heap.size w W ∧ (Gw.Own (Kd.cell 83 n0) 47 w.heap.size W (fun _ => False) vo os) ∧ (Sl (Kd.cell 83 n0) W (fun _ => False) vr rs) ∧ ((os.take k.toNat ++ [ix l i]) ++ rs = Zel os (ix l i)) ∧ (rs.length ≤ os.length)) ?_ ?_
  · refine Zh (Zb (st (Zc rfl (Zg (Zd ?_)))))
    refine Zw rfl (fun h5 => ?_) (fun h5 => ?_)
    rotate_left
    · refine Zn ?_
      exact Zfl ((v2), (os.drop (k).toNat)) ⟨hb61, hO60, hO59.sl, insC_new (by omega) (by omega) hat (fun hz => ⟨(hnl hz), h5⟩), by first | omega | (simp; done) | (simp; omega)⟩ (by exact ⟨rfl, rfl, rfl, rfl, rfl, rfl, trivial⟩)
    refine Zb (st (Zc rfl (st (s_sllo Zcp rfl rfl hO59.sl.loc (by first | omega | (simp; omega)) (by first | omega | (simp; omega)) ?_))))
    intro v3 hS2
    refine st (Ze rfl (Zg ?_))
    exact Zfl ((v3), ((os.drop (k).toNat).drop (1 : Int).toNat)) ⟨hb61, hO60, (hS2).none, insC_same (by omega) (by omega) hat h5, by first | omega | (simp; done) | (simp; omega)⟩ (by exact ⟨rfl, rfl, rfl, rfl, rfl, rfl, trivial⟩)
  rintro ⟨vr, rs⟩ w64 ⟨hb62, hOr, hSr, hrs, hrl⟩
  dsimp only at *
  have hz16 := hb62.size
  obtain ⟨b5, o5, _, hat5, ⟨ca5, cb5, rfl, hca5, hcb5, hcs5⟩, hc5, hF5, hlt5⟩ := (hl.at0 hb62).elem i (by omega) (by omega)
  have hl_3 := Loc.lt hF5
  replace hca5 := hca5.ofGF
  replace hcb5 := hcb5.ofGF
  refine w_drawT 11 (fun a b => a.grownBy b none) [(some 58, Is <| vo), (some 59, Is <| .int .i64 k), (some 60, Is <| .int .i64 k), (some 61, fun v W => SlC (Kd.cell 83 n0) W (fun _ => False) v (os.take (k).toNat)), (some 62, Is <| va), (some 63, Is <| .int .i64 i), (some 64, Is <| .pointer (some ⟨b5, o5, none⟩)), (some 65, Is <| .agg [.bool (decide ((ix l i).x < 0)), ca5, .bool (decide ((ix l i).y < 0)), cb5, .int .u8 ((ix l i).st)].toArray), (some 66, fun v W => Sl (Kd.cell 83 n0) W (fun _ => False) v [(ix l i)]), (some 67, fun v W => Gw.Own (Kd.cell 83 n0) 47 w64.heap.size W (fun _ => False) v ((os.take (k).toNat) ++ [(ix l i)])), (some 68, Is <| vr)] [[], [], [], [0, 1, 2], [], [], [4, 5], [6], [7], [3, 8], []] [(0, va), (2, .slice none 0 0), (3, vo), (4, .int .i64 i), (5, .int .i64 k), (7, vr)] (by exact ⟨rfl, rfl, rfl, rfl, rfl, rfl, trivial⟩) (by kernel_rfl) (by kernel_rfl) Za (fun _ _ _ => Zaa) ⟨kv, kv, kv, fun _ _ _ h k => h.g0 k, kv, kv, kv, kv, fun _ _ _ h k => h.g0 k, fun _ _ _ h k => h.g0 k, kv, trivial⟩ ?_
  intro w67 k63 hs5
  have hb63 := Zf hb62 k63
  have hO63 := hOr.g0 k63
  refine ⟨⟨?_, ?_, ?_, ?_, ?_, ?_, ?_, ?_, ?_, ?_, ?_, trivial⟩, ?_⟩
  · intro w68 k64
    refine op1 (Zc rfl ?_)
    exact ⟨rfl, Za _⟩
  · intro w69 k65
    refine op1 (Zc rfl ?_)
    exact ⟨rfl, Za _⟩
  · intro w70 k66
    refine op1 (Zc rfl ?_)
    exact ⟨rfl, Za _⟩
  · intro w71 k67
    have hO67 := hO63.g0 k67
    intro v_ hv_; subst v_
    rintro _ rfl _ rfl
    refine op1 (s_slcap Zcp rfl rfl rfl (hO67.sl.loc).none (by first | omega | (simp; omega)) (by first | omega | (simp; omega)) ?_)
    intro v6 hC2
    exact ⟨hC2, Za _⟩
  · intro w72 k68
    refine op1 (Zc rfl ?_)
    exact ⟨rfl, Za _⟩
  · intro w73 k69
    refine op1 (Zc rfl ?_)
    exact ⟨rfl, Za _⟩
  · intro w74 k70
    intro v_ hv_; subst v_
    rintro _ rfl
    refine op1 (Zbm Zcp rfl rfl hat5 ?_)
    exact ⟨rfl, Za _⟩
  · intro w75 k71
    rintro _ rfl
    refine op1 (Zu Zim rfl (Zai (Zai hc5 k63) k71) rfl ?_)
    exact ⟨rfl, Za _⟩
  · intro w76 k72
    have hb72 := Zf hb63 k72
    rintro _ rfl
    refine op1 (Zay (ps := [(0, .tmp 65)]) (ccs := [#[.bool (decide ((ix l i).x < 0)), ca5, .bool (decide ((ix l i).y < 0)), cb5, .int .u8 ((ix l i).st)]]) (e := 47) (cells := [.bool (decide ((ix l i).x < 0)), ca5, .bool (decide ((ix l i).y < 0)), cb5, .int .u8 ((ix l i).st)]) rfl rfl (by kernel_rfl) (by decide) nz47 ?_)
    intro g3 w77 hg2 hB3 k73 hs6
    have hb73 := Zf hb72 k73
    have hz17 := hb73.size
    have hS4 : Sl (Kd.cell 83 n0) w77 (fun _ => False) (.slice (some ⟨g3, 0, none⟩) 1 1) [(ix l i)] := Zkv (c := (ix l i)) hB3 (((hca5.gg0 k63).gg0 k72).gg0 k73) (((hcb5.gg0 k63).gg0 k72).gg0 k73) hcs5
    exact ⟨hS4, k73⟩
  · intro w78 k74
    have hb74 := Zf hb63 k74
    rintro v7 hC3 v8 hS5
    refine op1 (Zlr (K := (Kd.cell 83 n0)) Zcp rfl rfl hC3 (hS5).none (by simp) (Zf9 83 n0).ones (by simp; omega) (by simp; omega) (fun _ h => h.elim) ?_)
    intro v9 w79 hO75 k75 hr7
    have hO76 := hO75.rebase (b' := w64.heap.size) (by have h0_ := k63.size; have h1_ := k74.size; have h2_ := k75.size; omega)
    have hb75 := Zf hb74 k75
    have hz18 := hb75.size
    exact ⟨hO76, k75⟩
  · intro w80 k76
    refine op1 (Zc rfl ?_)
    exact ⟨rfl, Za _⟩
  intro w81 k77
  have hb77 := Zf hb63 k77
  have hz19 := k63.size
  have hz20 := k77.size
  intro v_ hv_; subst v_
  rintro _ rfl _ rfl v10 hC4
  intro v_ hv_; subst v_
  rintro _ rfl _ rfl _ rfl v11 hS6 v12 hO80
  have hO81 := hO80.rebase (b' := w.heap.size) (by omega)
  intro v_ hv_; subst v_
  refine st (s_appendH (K := (Kd.cell 83 n0)) Zcp rfl rfl hO81 (fun _ _ h_ => (Zk3 83 n0) _ _ _ _ _ h_ (fun _ _ hO_ => hO_.elim (fun h_ => h_.elim) fun hO_ => hO81.isG hO_ (by decide) (by omega))) ((hSr.g0 k63).g0 k77) (Zf9 83 n0).ones (by simp; omega) (by simp; omega) (by first | exact Nat.le_refl _ | omega | (have h0_ := k63.size; have h1_ := k77.size; omega)) (fun _ h => h.elim) ?_)
  intro v13 w82 hO82 k78 hr8 _
  have hb78 := hb77.grown k78 hb77.size (fun k_ hk_ => by have h9_ := (hO81.lt k_ hk_).1; omega)
  have hz21 := hb78.size
  refine st (Ze rfl (Zg (Zab (Zd (Zb (st (Zc rfl (st (Zaj rfl rfl (by omega) ?_)))))))))
  refine st (Ze rfl (Zg ?_))
  exact Zad (((i + 1)), (v13), ((Zel os (ix l i)))) ⟨hb78, by omega, (by rw [← hrs]; exact hO82), Zl6 hi.1 hlt hos⟩ (by dsimp only; omega) (by exact ⟨rfl, rfl, rfl, rfl, trivial⟩)
end Go.Proofs.Ytfljelnfjbbknaa.Lm
namespace Go.Proofs.Ytfljelnfjbbknaa.Lm
open Go.RowKit Go.Gw
set_option maxHeartbeats 1000000 in
theorem inc_any {w : World} {c : Cl} {lv : Int} {n0 : Nat} (hn0 : n0 ≤ w.heap.size) {px py : Value} (hpx : Sl Kd.u32 w (G 83 n0 w) px (ml c.x)) (hpy : Sl Kd.u32 w (G 83 n0 w) py (ml c.y)) (hcx : Bd 50 c.x) (hcy : Bd 50 c.y) (hlv : 1 ≤ lv ∧ lv ≤ 1329) :
    Calls Try.prog 70 [.agg [.bool (decide (c.x < 0)), px, .bool (decide (c.y < 0)), py, .int .u8 c.st].toArray, .int .i64 lv].toArray w (Zbi w fun v _ => v = .bool (inC c lv)) := by
  have hb0 := Below.refl w.heap.size w
  refine enter Try.func70 rfl rfl (Zh (Zb (st (Zcb rfl ?_))))
  intro g1 w1 hg1 hB1 k1 hs1
  change Blk w1 g1 47 [.bool (decide (c.x < 0)), px, .bool (decide (c.y < 0)), py, .int .u8 c.st].toArray at hB1
  have hb1 := Zf hb0 k1
  refine st (Ze rfl (Zg (Zd (Zh (Zb (st (Zc rfl (st (Zbh rfl rfl (by omega) ?_)))))))))
  refine st (Zp fn47 rfl (Zjf (n0 := n0) (Zy hn0 hb1)) ?_)
  rintro v2 w2 ⟨hq1, hv1⟩
  rw [show (Zf8 1 (lv - 1)) = (hf lv) from (shl_hf hlv)] at hv1
  obtain ⟨v1, rfl, hS1⟩ := hv1
  have k2 := Zi hq1 none
  have hz1 := hq1.size
  have hb2 := Zf hb1 k2
  have hz2 := hb2.size
  have hlt_1 := ((hB1.g0 k2)).lt
  refine st (Zat Zcw ?_)
  intro g2 w3 hg2 hB2 k3 hs2
  have hz3 := hb2.size
  have hb3 := Zf hb2 k3
  refine st0 (Zae Zaf rfl rfl hB2 (by simp only [List.all_cons, List.all_nil, hS1.one, Bool.and_true, Bool.and_self] <;> rfl) rfl rfl ?_)
  intro w4 hB3 k4 hs3
  have hb4 := Zv hb3 k4 (by first | omega | (have h9 := (hb3).size; omega))
  refine Zg (Zd (Zh (Zb (st (Zu Zaf rfl hB3.range rfl (st (Zp fn48 rfl (Zjs (n0 := n0) (Zy hn0 hb4) (Zav rfl ((hS1.gg0 k3).ggB k4 hB2 (by decide) (by omega))) (Bd.le (Zec hlv.2) (show 42 ≤ 90000 by decide))) ?_)))))))
  rintro _ w5 ⟨hq2, v3, rfl, hS2⟩
  have k5 := Zi hq2 none
  have hz4 := hq2.size
  have hb5 := Zf hb4 k5
  have hz5 := hb5.size
  have hlt_2 := (((((hB1.g0 k2).g0 k3).gne k4 (by omega)).g0 k5)).lt
  have hlt_3 := ((hB3.g0 k5)).lt
  refine st (Zat Zcw ?_)
  intro g3 w6 hg3 hB4 k6 hs4
  have hz6 := hb5.size
  have hb6 := Zf hb5 k6
  refine st0 (Zae Zaf rfl rfl hB4 (by simp only [List.all_cons, List.all_nil, hS2.one, Bool.and_true, Bool.and_self] <;> rfl) rfl rfl ?_)
  intro w7 hB5 k7 hs5
  have hb7 := Zv hb6 k7 (by first | omega | (have h9 := (hb6).size; omega))
  refine Zg (Zd (Zh (Zb (st (Zm Zbt rfl (st (Zau (us := [.bool (decide (c.x < 0)), px]) Zaf rfl ((((((hB1.g0 k2).g0 k3).gne k4 (by omega)).g0 k5).g0 k6).gne k7 (by omega)).range (j := 0) rfl rfl (st (Zu Zaf rfl hB5.range rfl ?_)))))))))
  refine st (Zp fn23 rfl (Zcg (n0 := n0) (Zy hn0 hb7) (Zav rfl (((((((hpx.gg0 k1).gg0 k2).gg0 k3).ggB k4 hB2 (by decide) (by omega)).gg0 k5).gg0 k6).ggB k7 hB4 (by decide) (by omega))) (Zav rfl ((hS2.gg0 k6).ggB k7 hB4 (by decide) (by omega))) (Bd.le hcx (show 50 ≤ 90000 by decide)) (Bd.le (bd_neg (Zec hlv.2)) (show 42 ≤ 90000 by decide))) ?_)
  rintro _ w8 ⟨hq3, rfl⟩
  have k8 := Zi hq3 none
  have hz7 := hq3.size
  have hb8 := Zf hb7 k8
  have hz8 := hb8.size
  refine st (s_ge rfl rfl (st (Zc rfl ?_)))
  refine Za0 17 rfl (fun h1 => ?_) (fun h1 => ?_)
  rotate_left
  · refine Zj rfl rfl (Zj rfl rfl (Zj rfl rfl (Zj rfl rfl (Zj rfl rfl (st (Zo rfl rfl (st (Zc rfl ?_))))))))
    refine Zj rfl rfl (Zj rfl rfl (Zj rfl rfl (Zj rfl rfl (Zj rfl rfl (st (Zo rfl rfl (st (Zc rfl ?_))))))))
    refine Zj rfl rfl (Zj rfl rfl (Zj rfl rfl (Zj rfl rfl (Zj rfl rfl (st (Zo rfl rfl (st (Ze rfl ?_))))))))
    refine Zg (Zd (Zx rfl rfl ?_))
    exact ⟨_, rfl, hb8, by rw [show inC c lv = false from by unfold inC; rw [decide_eq_false_iff_not]; rintro ⟨h1_, h2_, h3_, h4_⟩; have h5_ := Zc0.2 h1_; have h6_ := Zce.2 h2_; have h7_ := Zc0.2 h3_; have h8_ := Zce.2 h4_; omega]⟩
  refine stg (Zm Zbt rfl (stg (Zau (us := [.bool (decide (c.x < 0)), px]) Zaf rfl (((((((hB1.g0 k2).g0 k3).gne k4 (by omega)).g0 k5).g0 k6).gne k7 (by omega)).g0 k8).range (j := 0) rfl rfl (stg (Zu Zaf rfl ((((hB3.g0 k5).g0 k6).gne k7 (by omega)).g0 k8).range rfl ?_)))))
  refine stg (Zp fn23 rfl (Zcg (n0 := n0) (Zy hn0 hb8) (Zav rfl ((((((((hpx.gg0 k1).gg0 k2).gg0 k3).ggB k4 hB2 (by decide) (by omega)).gg0 k5).gg0 k6).ggB k7 hB4 (by decide) (by omega)).gg0 k8)) (Zav rfl ((((((hS1.gg0 k3).ggB k4 hB2 (by decide) (by omega)).gg0 k5).gg0 k6).ggB k7 hB4 (by decide) (by omega)).gg0 k8)) (Bd.le hcx (show 50 ≤ 90000 by decide)) (Bd.le (Zec hlv.2) (show 42 ≤ 90000 by decide))) ?_)
  rintro _ w9 ⟨hq4, rfl⟩
  have k9 := Zi hq4 none
  have hz9 := hq4.size
  have hb9 := Zf hb8 k9
  have hz10 := hb9.size
  refine stg (Zbf rfl rfl (st (Zo rfl rfl (st (Zc rfl ?_)))))
  refine Za0 24 rfl (fun h2 => ?_) (fun h2 => ?_)
  rotate_left
  · refine Zj rfl rfl (Zj rfl rfl (Zj rfl rfl (Zj rfl rfl (Zj rfl rfl (st (Zo rfl rfl (st (Zc rfl ?_))))))))
    refine Zj rfl rfl (Zj rfl rfl (Zj rfl rfl (Zj rfl rfl (Zj rfl rfl (st (Zo rfl rfl (st (Ze rfl ?_))))))))
    refine Zg (Zd (Zx rfl rfl ?_))
    exact ⟨_, rfl, hb9, by rw [show inC c lv = false from by unfold inC; rw [decide_eq_false_iff_not]; rintro ⟨h1_, h2_, h3_, h4_⟩; have h5_ := Zc0.2 h1_; have h6_ := Zce.2 h2_; have h7_ := Zc0.2 h3_; have h8_ := Zce.2 h4_; omega]⟩
  refine stg (Zm Zca rfl (stg (Zau (us := [.bool (decide (c.y < 0)), py]) Zaf rfl ((((((((hB1.g0 k2).g0 k3).gne k4 (by omega)).g0 k5).g0 k6).gne k7 (by omega)).g0 k8).g0 k9).range (j := 2) rfl rfl (stg (Zu Zaf rfl ((hB5.g0 k8).g0 k9).range rfl (stg (Zp fn23 rfl (Zcg (n0 := n0) (Zy hn0 hb9) (Zav rfl (((((((((hpy.gg0 k1).gg0 k2).gg0 k3).ggB k4 hB2 (by decide) (by omega)).gg0 k5).gg0 k6).ggB k7 hB4 (by decide) (by omega)).gg0 k8).gg0 k9)) (Zav rfl ((((hS2.gg0 k6).ggB k7 hB4 (by decide) (by omega)).gg0 k8).gg0 k9)) (Bd.le hcy (show 50 ≤ 90000 by decide)) (Bd.le (bd_neg (Zec hlv.2)) (show 42 ≤ 90000 by decide))) ?_)))))))
  rintro _ w10 ⟨hq5, rfl⟩
  have k10 := Zi hq5 none
  have hz11 := hq5.size
  have hb10 := Zf hb9 k10
  have hz12 := hb10.size
  refine stg (s_ge rfl rfl (st (Zo rfl rfl (st (Zc rfl ?_)))))
  refine Za0 31 rfl (fun h3 => ?_) (fun h3 => ?_)
  rotate_left
  · refine Zj rfl rfl (Zj rfl rfl (Zj rfl rfl (Zj rfl rfl (Zj rfl rfl (st (Zo rfl rfl (st (Ze rfl ?_))))))))
    refine Zg (Zd (Zx rfl rfl ?_))
    exact ⟨_, rfl, hb10, by rw [show inC c lv = false from by unfold inC; rw [decide_eq_false_iff_not]; rintro ⟨h1_, h2_, h3_, h4_⟩; have h5_ := Zc0.2 h1_; have h6_ := Zce.2 h2_; have h7_ := Zc0.2 h3_; have h8_ := Zce.2 h4_; omega]⟩
  refine stg (Zm Zca rfl (stg (Zau (us := [.bool (decide (c.y < 0)), py]) Zaf rfl (((((((((hB1.g0 k2).g0 k3).gne k4 (by omega)).g0 k5).g0 k6).gne k7 (by omega)).g0 k8).g0 k9).g0 k10).range (j := 2) rfl rfl (stg (Zu Zaf rfl ((((((hB3.g0 k5).g0 k6).gne k7 (by omega)).g0 k8).g0 k9).g0 k10).range rfl ?_)))))
  refine stg (Zp fn23 rfl (Zcg (n0 := n0) (Zy hn0 hb10) (Zav rfl ((((((((((hpy.gg0 k1).gg0 k2).gg0 k3).ggB k4 hB2 (by decide) (by omega)).gg0 k5).gg0 k6).ggB k7 hB4 (by decide) (by omega)).gg0 k8).gg0 k9).gg0 k10)) (Zav rfl ((((((((hS1.gg0 k3).ggB k4 hB2 (by decide) (by omega)).gg0 k5).gg0 k6).ggB k7 hB4 (by decide) (by omega)).gg0 k8).gg0 k9).gg0 k10)) (Bd.le hcy (show 50 ≤ 90000 by decide)) (Bd.le (Zec hlv.2) (show 42 ≤ 90000 by decide))) ?_)
  rintro _ w11 ⟨hq6, rfl⟩
  have k11 := Zi hq6 none
  have hz13 := hq6.size
  have hb11 := Zf hb10 k11
  have hz14 := hb11.size
  refine stg (Zbf rfl rfl (st (Zo rfl rfl (st (Ze rfl (Zg (Zd (Zx rfl rfl ?_))))))))
  exact ⟨_, rfl, hb11, congrArg Value.bool (decide_eq_decide.2 ⟨fun h => ⟨Zc0.1 h1, Zce.1 h2, Zc0.1 h3, Zce.1 h⟩, fun h => Zce.2 h.2.2.2⟩)⟩
end Go.Proofs.Ytfljelnfjbbknaa.Lm
