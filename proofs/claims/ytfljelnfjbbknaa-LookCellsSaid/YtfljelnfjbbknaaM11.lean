/- Part of the proof: a library for walks, plain laws, and functions' walks. -/
import Derived.Test.YtfljelnfjbbknaaM9
import Derived.Test.YtfljelnfjbbknaaM5
import Derived.Test.YtfljelnfjbbknaaM10
import Derived.Test.YtfljelnfjbbknaaM7
set_option maxRecDepth 20000
set_option linter.unusedSimpArgs false
set_option linter.unusedVariables false
namespace Go.Proofs.Ytfljelnfjbbknaa.Nd
open Go.RowKit Go.Gw
theorem Zms {a w : World} {ga gk : Nat} {vo : Value} {o : List Nd} {M : List (Nd × Int)} {x : Nd} (hb0 : Below a.heap.size a w) (hga : a.heap.size ≤ ga) (hgk : a.heap.size ≤ gk) (hBA : Blk w ga 126 [vo, .map (some gk)].toArray) (hMK : Zcm Nd.val ekI w gk M) (hE : Gw.Own Kd.node 101 a.heap.size w (fun _ => False) vo o)
  (hMI : MInv M o) (hol : o.length ≤ 200000) : Calls Try.prog 94 [(pp ga), .agg x.cells.toArray].toArray w (Ret fun v w' => v = .int .i64 (Zcj o x).2 ∧ ∃ vo' M', Below a.heap.size a w' ∧ Blk w' ga 126 [vo', .map (some gk)].toArray ∧ Zcm Nd.val ekI w' gk M' ∧ Gw.Own Kd.node 101 a.heap.size w' (fun _ => False) vo' (Zcj o x).1 ∧ MInv M' (Zcj o x).1 ∧ Frm (fun g => g = ga ∨ g = gk) w vo w' vo') := by
 have hz0 := hb0.size
 have hF0 := Frm.refl (fun g => g = ga ∨ g = gk) w vo
 have hgal := hBA.lt
 refine enter Try.func94 rfl rfl (Zh (Zb (st (Zbs rfl ?_))))
 intro g1 w1 hg1 hB1 k1 hs1
 have hn1 := Zdj hE hg1
 have hb1 := Zf hb0 k1
 have hF1 := hF0.none k1
 have hO1 := hE.g0 k1
 have hM1 := hMK.g0 k1
 refine st (Ze rfl (Zg (Zd (Zh (Zh (Zb (st (Zn Zav rfl ?_))))))))
 refine st (Zbf (us := [.int .i64 x.k0, .int .i64 x.k1, .int .i64 x.k2, .int .i64 x.k3]) row99 rfl hB1.range (j := 1) rfl rfl (st (Zbe (ps := []) (ccs := []) (cells := [.int .i64 0, .int .i64 0, .int .i64 0, .int .i64 0]) rfl rfl kr (st (s_eq4 four99 kr kr kr rfl rfl (Zg (Zd ?_)))))))
 refine Zw rfl (fun h1 => ?_) (fun h1 => ?_)
 ·refine Zh (Zb (st (Ze rfl (Zg (Zd (Zaa rfl rfl ?_))))))
  have hv : Zcj o x = (o, 0) := intr_zero h1
  refine ⟨_, rfl, ?_, vo, _, hb1, (hBA.g0 k1), hM1, ?_, ?_, hF1⟩
  ·rw [hv]
  ·rw [hv]; exact hO1
  ·rw [hv]; exact hMI
 refine Zo (Zd (Zh (Zh ?_)))
 refine Zce 10 GN [xi 12 <| (pp ga), xi 13 <| (pp ga), xi 14 <| .pointer (some ⟨ga, 0 + 1, none⟩), xi 15 <| .map (some gk), xi 16 <| .agg [.int .i64 x.lv, .int .i64 x.k0, .int .i64 x.k1, .int .i64 x.k2, .int .i64 x.k3].toArray, xi 17 <| .tuple #[.int .i64 ((Zd4 M x).getD 0), .bool ((Zd4 M x).isSome)], xi 11 <| .tuple #[.int .i64 ((Zd4 M x).getD 0), .bool ((Zd4 M x).isSome)], xi 18 <| .int .i64 ((Zd4 M x).getD 0), xi 19 <| .bool ((Zd4 M x).isSome), xi 5 <| .int .i64 ((Zd4 M x).getD 0)] [[], [0], [1], [2], [], [3, 4], [5], [6], [6], [7]] [(0, (pp ga)), (3, (pp g1)), (4, .int .i64 0)] sb kr kr Za gnt ⟨kv, kv, kv, kv, kv, kv, kv, kv, kv, kv, trivial⟩ ?_
 intro w2 k2 hs2
 have hb2 := Zf hb1 k2
 have hF2 := hF1.none k2
 have hO2 := hO1.g0 k2
 have hM2 := hM1.g0 k2
 refine ⟨⟨?_, ?_, ?_, ?_, ?_, ?_, ?_, ?_, ?_, ?_, trivial⟩, ?_⟩
 ·intro w3 k3
  have hM3 := hM2.g0 k3
  refine op1 (Zc rfl ?_)
  exact ⟨rfl, Za _⟩
 ·intro w4 k4
  have hM4 := hM2.g0 k4
  rintro _ rfl
  refine op1 (Zed rfl ?_)
  exact ⟨rfl, Za _⟩
 ·intro w5 k5
  have hM5 := hM2.g0 k5
  rintro _ rfl
  refine op1 (Zn fld126_1 rfl ?_)
  exact ⟨rfl, Za _⟩
 ·intro w6 k6
  have hM6 := hM2.g0 k6
  rintro _ rfl
  refine op1 (Zt one124 rfl (((hBA.g0 k1).g0 k2).g0 k6).range (j := 1) rfl ?_)
  exact ⟨rfl, Za _⟩
 ·intro w7 k7
  have hM7 := hM2.g0 k7
  refine op1 (Zp Za1 rfl ((hB1.g0 k2).g0 k7).range rfl ?_)
  exact ⟨rfl, Za _⟩
 ·intro w8 k8
  have hM8 := hM2.g0 k8
  rintro _ rfl _ rfl
  refine op1 (Zmk map124 keyNode rfl rfl hM8 kr ?_)
  exact ⟨rfl, Za _⟩
 ·intro w9 k9
  have hM9 := hM2.g0 k9
  rintro _ rfl
  refine op1 (Zc rfl ?_)
  exact ⟨rfl, Za _⟩
 ·intro w10 k10
  have hM10 := hM2.g0 k10
  rintro _ rfl
  refine op1 (Zad rfl rfl ?_)
  exact ⟨rfl, Za _⟩
 ·intro w11 k11
  have hM11 := hM2.g0 k11
  rintro _ rfl
  refine op1 (Zad rfl rfl ?_)
  exact ⟨rfl, Za _⟩
 ·intro w12 k12
  have hM12 := hM2.g0 k12
  rintro _ rfl
  refine op1 (Ze rfl ?_)
  exact ⟨rfl, Za _⟩
 intro w13 k13
 have hb13 := Zf hb2 k13
 have hF13 := hF2.none k13
 have hO13 := hO2.g0 k13
 have hM13 := hM2.g0 k13
 rintro _ rfl _ rfl _ rfl _ rfl _ rfl _ rfl _ rfl _ rfl _ rfl _ rfl
 refine st (Ze rfl (Zg (Zd (Zh (Zb (st (Zc rfl (Zg ?_))))))))
 refine Zd ?_
 refine Zba rfl (fun h2 => ?_) (fun h2 => ?_)
 ·refine Zh (Zb (st (Zc rfl (st (Ze rfl (Zg (Zd (Zaa rfl rfl ?_))))))))
  have hv := minv_yes hMI h2 h1
  refine ⟨_, rfl, ?_, vo, _, hb13, (((hBA.g0 k1).g0 k2).g0 k13), hM13, ?_, ?_, hF13⟩
  ·rw [hv]
  ·rw [hv]; exact hO13
  ·rw [hv]; exact hMI
 refine Zo (Zd (Zh ?_))
 refine Zhe 11 (Two (fun i => i = ga ∨ vo.ownBlock = some i)) GN (Two (fun i => i = ga ∨ vo.ownBlock = some i)) [(some 22, fun v _ => v = (pp ga)), (some 23, fun v _ => v = (pp ga)), (some 24, fun v _ => v = (pp ga)), (some 25, fun v _ => v = .pointer (some ⟨ga, 0 + 0, none⟩)), (some 26, fun v _ => v = vo), (some 27, fun v _ => v = .agg [.int .i64 x.lv, .int .i64 x.k0, .int .i64 x.k1, .int .i64 x.k2, .int .i64 x.k3].toArray), (some 28, fun v W => Sl Kd.node W (fun _ => False) v [x]), (some 29, fun v W => (Gw.Own Kd.node 101 a.heap.size W (fun _ => False) v (o ++ [x]) ∧ (v.ownBlock = vo.ownBlock ∨ ∃ q, v.ownBlock = some q ∧ w13.heap.size ≤ q)) ∧ Blk W ga 126 [vo, .map (some gk)].toArray), (some 30, fun v _ => v = (pp ga)), (some 31, fun v _ => v = .pointer (some ⟨ga, 0 + 0, none⟩)), (none, fun _ W => ∃ u, (Gw.Own Kd.node 101 a.heap.size W (fun _ => False) u (o ++ [x]) ∧ (u.ownBlock = vo.ownBlock ∨ ∃ q, u.ownBlock = some q ∧ w13.heap.size ≤ q)) ∧ Blk W ga 126 [u, .map (some gk)].toArray)] [[], [], [1], [2], [3], [], [5], [4, 6], [0], [8], [7, 9]] [[], [], [1], [2, 1], [3, 2, 1], [], [5], [4, 6, 3, 2, 1, 5], [], [], [7, 6, 5, 4, 3, 2, 1]] [[], [], [], [], [], [], [7], [10], [], [], []] [false, false, false, false, false, false, false, true, false, false, true] [true, true, true, true, true, true, false, false, true, true, false] [false, true, true, true, true, true, true, true, false, false, false] [(0, (pp ga)), (3, (pp g1)), (4, .int .i64 0)] sb kr kr kr rfl (Two.refl _) (fun _ _ _ h k => h.trans k) (fun _ _ h => Two.none h) (fun _ _ h => h) ⟨fun _ _ _ h _ => by exact h, fun _ _ _ h _ => by exact h, fun _ _ _ h _ => by exact h, fun _ _ _ h _ => by exact h, fun _ _ _ h _ => by exact h, fun _ _ _ h _ => by exact h, fun _ _ _ h _ => by exact h, fun _ _ _ h _ => by exact h, fun _ _ _ h _ => by exact h, fun _ _ _ h _ => by exact h, fun _ _ _ h _ => by exact h, fun _ _ _ h _ => by exact h, fun _ _ _ h k => h.g0 k, fun _ _ _ h k => ⟨⟨h.1.1.g0 k, h.1.2⟩, h.2.g0 k⟩, fun _ _ _ h _ => by exact h, fun _ _ _ h _ => by exact h, fun _ _ _ h _ => by exact h, fun _ _ _ h _ => by exact h, fun _ _ _ h k => by obtain ⟨u, h⟩ := h; exact ⟨u, ⟨h.1.1.g0 k, h.1.2⟩, h.2.g0 k⟩, trivial⟩ Za gnt rfl ?_
 intro w14 k14 hs3
 have hb14 := Zf hb13 k14
 have hF14 := hF13.none k14
 have hO14 := hO13.g0 k14
 have hM14 := hM13.g0 k14
 refine ⟨⟨?_, ?_, ?_, ?_, ?_, ?_, ?_, ?_, ?_, ?_, ?_, trivial⟩, ?_⟩
 ·intro w8z_ kb_
  exact op1 (Zc rfl ⟨rfl, Za _⟩)
 ·intro w8z_ kb_
  have hb_ := Zf hb14 kb_
  have hz_ := hb_.size
  have he_ := kb_.size
  exact op1 (Zc rfl ⟨rfl, Za _⟩)
 ·intro w8z_ kb_
  have hb_ := Zf hb14 kb_
  have hz_ := hb_.size
  have he_ := kb_.size
  rintro _ rfl
  exact op1 (Zed rfl ⟨rfl, Za _⟩)
 ·intro w8z_ kb_
  have hb_ := Zf hb14 kb_
  have hz_ := hb_.size
  have he_ := kb_.size
  rintro _ rfl
  exact op1 (Zn Zi4 rfl ⟨rfl, Za _⟩)
 ·intro w8z_ kb_
  have hb_ := Zf hb14 kb_
  have hz_ := hb_.size
  have he_ := kb_.size
  rintro _ rfl
  exact op1 (Zt Zb8 rfl (((((hBA.g0 k1).g0 k2).g0 k13).g0 k14).g0 kb_).range (j := 0) rfl ⟨rfl, Za _⟩)
 ·intro w8z_ kb_
  have hb_ := Zf hb14 kb_
  have hz_ := hb_.size
  have he_ := kb_.size
  exact op1 (Zp Za1 rfl ((((hB1.g0 k2).g0 k13).g0 k14).g0 kb_).range rfl ⟨rfl, Za _⟩)
 ·intro w8z_ kb_
  have hb_ := Zf hb14 kb_
  have hz_ := hb_.size
  have he_ := kb_.size
  rintro _ rfl
  refine op1 (Zau (ps := [(0, .tmp 27)]) (ccs := [(Nd.cells x).toArray]) (e := 101) (cells := Nd.cells x) rfl rfl kr dc Zgw ?_)
  intro gz_ wz_ hgz_ hBz_ kz_ hsz_
  exact ⟨Zbl [x] hBz_ (fun h => h) rfl dc, kz_⟩
 ·intro w8z_ kb_
  have hb_ := Zf hb14 kb_
  have hz_ := hb_.size
  have he_ := kb_.size
  intro v_ hv_; subst v_
  intro vl_ hl_
  refine op1 (Zjw (K := Kd.node) Zaw rfl rfl (hO14.g0 kb_) Zy hl_ Zb6 (by simp; omega) (by simp; omega) om (fun _ h => h.elim) ?_)
  intro vz_ wz_ hPz_ kz_ hor_ _
  refine ⟨⟨⟨hPz_, ?_⟩, ?_⟩, Two.of kz_ (fun r hr => .inr hr)⟩
  ·rcases hor_ with h_ | h_
   ·exact .inl h_
   ·exact .inr ⟨_, h_, by omega⟩
  ·exact (((((hBA.g0 k1).g0 k2).g0 k13).g0 k14).g0 kb_).grown kz_ (fun e => Zfd (hO14.ne_blk ((((hBA.g0 k1).g0 k2).g0 k13).g0 k14) dc) e.symm)
 ·intro w8z_ kb_
  rintro _ rfl
  exact op1 (Zed rfl ⟨rfl, Za _⟩)
 ·intro w8z_ kb_
  rintro _ rfl
  exact op1 (Zn Zi4 rfl ⟨rfl, Za _⟩)
 ·intro w8z_ kb_
  rintro v29 ⟨⟨h29, hr29⟩, hB29⟩ _ rfl
  refine op1 (Zdt Zb8 rfl rfl h29.one hB29 (by simp) ?_)
  intro wz_ hBz_ kz_ _
  exact ⟨⟨v29, ⟨h29.keptF Zy kz_ (.inr (Zfd (h29.ne_blk hB29 dc))), hr29⟩, hBz_⟩, Two.of kz_ (by rintro r ⟨⟩; exact .inl rfl)⟩
 rintro w15 k15 _ rfl _ rfl _ rfl _ rfl
 intro v_ hv_; subst v_
 rintro _ rfl v28 _ v29 _ _ rfl _ rfl _ ⟨v30, ⟨h30, hr30⟩, hB30⟩
 have hgax : g1 ≠ ga := (Zgr (((hB1.g0 k2).g0 k13).g0 k14) ((((hBA.g0 k1).g0 k2).g0 k13).g0 k14) dc)
 have hgkx : gk ≠ ga := hM14.ne_blk ((((hBA.g0 k1).g0 k2).g0 k13).g0 k14)
 have hr1 : v30.ownBlock = vo.ownBlock ∨ ∃ q, v30.ownBlock = some q ∧ w14.heap.size ≤ q := by rw [hs3]; exact hr30
 have hb15 := k15.below hb14 hb14.size (fun i hi h_ => h_.elim (fun h_ => by omega) (fun h_ => by have := (hO14.lt i h_).1; omega))
 have hB2 := (((hB1.g0 k2).g0 k13).g0 k14).two k15 (fun h_ => h_.elim hgax hn1)
 have hM15 := hM14.two k15 (fun h_ => h_.elim hgkx (Zl1 hM14 hO14))
 have hF15 := hF14.two k15 (fun i h_ => h_.imp .inl id) hr1
 have hz1 := hb15.size
 have hn2 := Ziz hn1 hr1 (by have := (((hB1.g0 k2).g0 k13).g0 k14).lt; omega)
 refine Zg (Zd (Zh ?_))
 refine Zce 10 GN [xi 32 <| (pp ga), xi 33 <| (pp ga), xi 34 <| .pointer (some ⟨ga, 0 + 1, none⟩), xi 35 <| .map (some gk), xi 36 <| .agg [.int .i64 x.lv, .int .i64 x.k0, .int .i64 x.k1, .int .i64 x.k2, .int .i64 x.k3].toArray, xi 37 <| (pp ga), xi 38 <| (pp ga), xi 39 <| .pointer (some ⟨ga, 0 + 0, none⟩), xi 40 <| v30, xi 41 <| .int .i64 ((o ++ [x]).length : Int)] [[], [0], [1], [2], [], [], [5], [6], [7], [8]] [(0, (pp ga)), (3, (pp g1)), (4, .int .i64 0)] sb kr kr Za gnt ⟨kv, kv, kv, kv, kv, kv, kv, kv, kv, kv, trivial⟩ ?_
 intro w16 k16 hs4
 have hb16 := Zf hb15 k16
 have hF16 := hF15.none k16
 have hO15 := h30.g0 k16
 have hM16 := hM15.g0 k16
 refine ⟨⟨?_, ?_, ?_, ?_, ?_, ?_, ?_, ?_, ?_, ?_, trivial⟩, ?_⟩
 ·intro w17 k17
  have hM17 := hM16.g0 k17
  refine op1 (Zc rfl ?_)
  exact ⟨rfl, Za _⟩
 ·intro w18 k18
  have hM18 := hM16.g0 k18
  rintro _ rfl
  refine op1 (Zed rfl ?_)
  exact ⟨rfl, Za _⟩
 ·intro w19 k19
  have hM19 := hM16.g0 k19
  rintro _ rfl
  refine op1 (Zn fld126_1 rfl ?_)
  exact ⟨rfl, Za _⟩
 ·intro w20 k20
  have hM20 := hM16.g0 k20
  rintro _ rfl
  refine op1 (Zt one124 rfl ((hB30.g0 k16).g0 k20).range (j := 1) rfl ?_)
  exact ⟨rfl, Za _⟩
 ·intro w21 k21
  have hM21 := hM16.g0 k21
  refine op1 (Zp Za1 rfl ((hB2.g0 k16).g0 k21).range rfl ?_)
  exact ⟨rfl, Za _⟩
 ·intro w22 k22
  have hM22 := hM16.g0 k22
  refine op1 (Zc rfl ?_)
  exact ⟨rfl, Za _⟩
 ·intro w23 k23
  have hM23 := hM16.g0 k23
  rintro _ rfl
  refine op1 (Zed rfl ?_)
  exact ⟨rfl, Za _⟩
 ·intro w24 k24
  have hM24 := hM16.g0 k24
  rintro _ rfl
  refine op1 (Zn Zi4 rfl ?_)
  exact ⟨rfl, Za _⟩
 ·intro w25 k25
  have hM25 := hM16.g0 k25
  rintro _ rfl
  refine op1 (Zt Zb8 rfl ((hB30.g0 k16).g0 k25).range (j := 0) rfl ?_)
  exact ⟨rfl, Za _⟩
 ·intro w26 k26
  have hO25 := hO15.g0 k26
  have hM26 := hM16.g0 k26
  intro v_ hv_; subst v_
  refine op1 (Zaq Zaw rfl hO25.sl ?_)
  exact ⟨rfl, Za _⟩
 intro w27 k27
 have hb27 := Zf hb16 k27
 have hF27 := hF16.none k27
 have hO26 := hO15.g0 k27
 have hM27 := hM16.g0 k27
 rintro _ rfl _ rfl _ rfl _ rfl _ rfl _ rfl _ rfl _ rfl
 intro v_ hv_; subst v_
 rintro _ rfl
 refine st0 (Zk5 (a := x) (v := ((o ++ [x]).length : Int)) map124 keyNode rfl rfl rfl hM27 ?_)
 intro w28 hM28 k28 hs5
 have hb28 := belowa hb27 k28
 have hF28 := hF27.put k28 (by first | exact .inr om | exact .inl (by assumption) | exact .inl (.inl rfl) | exact .inl (.inr rfl) | exact .inl (.inr (.inl rfl)) | exact .inl (.inr (.inr rfl)))
 have hO27 := Own.keptF Zy hO26 k28 (hM27.ne_own hO26)
 refine Zg (Zd (Zh (Zb (st (Zc rfl (st (Zed rfl (st (Zn Zi4 rfl ?_)))))))))
 refine st (Zt Zb8 rfl (((hB30.g0 k16).g0 k27).gne k28 (hM27.ne_blk ((hB30.g0 k16).g0 k27)).symm).range (j := 0) rfl (st (Zaq Zaw rfl hO27.sl (st (Ze rfl (Zg (Zd (Zaa rfl rfl ?_))))))))
 have hv := minv_no hMI h2 h1
 refine ⟨_, rfl, ?_, v30, _, hb28, (((hB30.g0 k16).g0 k27).gne k28 (hM27.ne_blk ((hB30.g0 k16).g0 k27)).symm), hM28, ?_, ?_, hF28⟩
 ·rw [hv.1]; simp
 ·rw [hv.1]; exact hO27
 ·rw [hv.1]; exact minv_push hMI hv.2 (by simp)
end Go.Proofs.Ytfljelnfjbbknaa.Nd
namespace Go.Proofs.Ytfljelnfjbbknaa.Nd
open Go.RowKit Go.Gw
theorem visit1_any {a0 : World} {vl : Value} {L : List Nd} {F : Nat → Prop} {g7 g2 g8 g6 ga gd gk : Nat} (hl : Sl Kd.node a0 F vl L) (hl_ok : Zaf L = true) (hll : L.length ≤ 110000) (hne0 : a0.heap.size ≤ ga ∧ a0.heap.size ≤ gd ∧ a0.heap.size ≤ gk) (hdst : Dist g7 g2 g8 g6 ga gd gk) :
  ∀ (f : Nat) {w : World} {vo : Value} {o : List Nd} {D : List (Int × Int)} {M : List (Nd × Int)} {n : Int}, n < f → 0 ≤ n → n ≤ L.length → Below a0.heap.size a0 w → Blk w g7 127 [.map (some gd)].toArray → Blk w g2 22 [vl].toArray → Blk w g8 128 [.func (.func 93) [].toArray [(pp g7), (pp g2), (pp g8), (pp g6)].toArray].toArray → Blk w g6 123 [Value.pointer (some ⟨ga, 0, none⟩)].toArray → Blk w ga 126 [vo, .map (some gk)].toArray → Zcm ekI ekI w gd D → Zcm Nd.val ekI w gk M → Gw.Own Kd.node 101 a0.heap.size w (fun _ => False) vo o → DOk L D o → MInv M o → CanL o →
  Calls Try.prog 93 ([] ++ [Value.int .i64 n] ++ [Value.pointer (some ⟨g7, 0, none⟩), Value.pointer (some ⟨g2, 0, none⟩), Value.pointer (some ⟨g8, 0, none⟩), Value.pointer (some ⟨g6, 0, none⟩)]).toArray w (Ret fun v w' => v = .int .i64 (vis (tr L n) o).2 ∧ ∃ vo' D' M', Below a0.heap.size a0 w' ∧ Blk w' ga 126 [vo', .map (some gk)].toArray ∧ Zcm ekI ekI w' gd D' ∧ Zcm Nd.val ekI w' gk M' ∧ Gw.Own Kd.node 101 a0.heap.size w' (fun _ => False) vo' (vis (tr L n) o).1 ∧
   DOk L D' (vis (tr L n) o).1 ∧ MInv M' (vis (tr L n) o).1 ∧ CanL (vis (tr L n) o).1 ∧ (∀ i : Int, n < i → Zd4 D' i = Zd4 D i) ∧ Frm (fun g => g = ga ∨ g = gd ∨ g = gk) w vo w' vo') := by
 intro f
 induction f with
 | zero => intro w vo o D M n hnf hn0; omega
 | succ f ih =>
  intro w vo o D M n hnf hn0 hn1b hb0 hQ7 hQ2 hQ8 hQ6 hBA hMD hMK hE hdok0 hmi0 hcan0
  have hnf2 : n ≤ (f : Int) := by omega
  have hgl7 := hQ7.lt
  have hgl2 := hQ2.lt
  have hgl8 := hQ8.lt
  have hgl6 := hQ6.lt
  have hgla := hBA.lt
  have hgld := hMD.lt
  have hglk := hMK.lt
  have hdk_ : gd ≠ gk := fun e => hdst.dx (.inr e)
  have hz0 := hb0.size
  have hF0 := Frm.refl (fun g => g = ga ∨ g = gd ∨ g = gk) w vo
  refine enter Try.func93 rfl rfl (Zh (Zb (st (Ze rfl (Zg (Zd (Zh ?_)))))))
  refine Zh (Zb (st (Zt one127 rfl hQ7.range (j := 0) rfl (st (Zc rfl (st (Zmk map127 keyI rfl rfl hMD kr (st (Zc rfl (st (Zad rfl rfl ?_)))))))))))
  refine st (Zad rfl rfl (st (Ze rfl (st (Ze rfl (Zg (Zd (Zh (Zb ?_)))))))))
  refine st (Zc rfl (Zg (Zd ?_)))
  refine Zba rfl (fun h1 => ?_) (fun h1 => ?_)
  ·obtain ⟨m_, hm_⟩ := Option.isSome_iff_exists.1 h1
   have hv_ := (hdok0.ok n m_ hm_).2.2
   refine Zh (Zb (st (Zc rfl (st (Ze rfl (Zg (Zd (Zaa rfl rfl ?_))))))))
   rw [hm_]
   refine ⟨_, rfl, ?_, vo, D, M, hb0, hBA, hMD, hMK, ?_, ?_, ?_, ?_, fun _ _ => rfl, hF0⟩
   ·rw [hv_]; rfl
   ·rw [hv_]; exact hE
   ·rw [hv_]; exact hdok0
   ·rw [hv_]; exact hmi0
   ·rw [hv_]; exact hcan0
  have hn1p : 1 ≤ n := by
   rcases Int.lt_or_le 0 n with q | q
   ·omega
   ·exfalso; have e : n = 0 := by omega
    rw [e, hdok0.zero] at h1; cases h1
  have hkr := Zc1 hl_ok (i := n - 1) om om
  have hno_ : Zd4 D n = none := by simpa using h1
  refine Zo (Zd (Zh (Zb (st (Zt Zb8 rfl hQ2.range (j := 0) rfl (st (Zc rfl (st (Za7 rfl rfl om ?_)))))))))
  refine st (Zat Zaw rfl rfl (hl.at0 hb0) om om ?_)
  rintro b1 o1 _ ⟨rfl, _⟩ hc1 hF1 hlt1
  have hl_1 := Loc.lt hF1
  refine st (Zp Za1 rfl hc1 rfl (st (Zan Zcw ?_)))
  intro g1 w1 hg1 hB1 k1 hs1
  have hz1 := hb0.size
  have hn1 := Zdj hE hg1
  have hb1 := Zf hb0 k1
  have hF2 := hF0.none k1
  have hO1 := hE.g0 k1
  have hM1 := hMK.g0 k1
  have hM2 := hMD.g0 k1
  refine st0 (Zv Za1 rfl rfl hB1 rfl rfl rfl ?_)
  intro w2 hB2 k2 hs2
  have hb2 := belowa hb1 k2
  have hF3 := hF2.put k2 (by first | exact .inr om | exact .inl (by assumption) | exact .inl (.inl rfl) | exact .inl (.inr rfl) | exact .inl (.inr (.inl rfl)) | exact .inl (.inr (.inr rfl)))
  have hO2 := Own.keptN Zy hO1 k2 hn1
  have hM3 := hM1.kept k2 (by simpa using hM1.ne_blk hB1)
  have hM4 := hM2.kept k2 (by simpa using hM2.ne_blk hB1)
  clear hB1
  refine Zg (Zd (Zh (Zh (Zb (st (Zn Zaz rfl (st (Zt Za9 rfl hB2.range (j := 0) rfl ?_))))))))
  refine st (Zch rfl rfl (Zg (Zd ?_)))
  refine Zw rfl (fun h2 => ?_) (fun h2 => ?_)
  rotate_left
  ·refine Zo (Zd (Zh (Zb (st (Zt one123 rfl ((hQ6.g0 k1).gne k2 om).range (j := 0) rfl (st (Zp Za1 rfl hB2.range rfl ?_)))))))
   have hlen9 := hdok0.len
   have hcnt9 := hdok0.cnt
   refine st (Zq fn94 rfl (Zms (x := (⟨(ix L (n - 1)).lv, (ix L (n - 1)).k0, (ix L (n - 1)).k1, (ix L (n - 1)).k2, (ix L (n - 1)).k3⟩ : Nd)) hb2 om om ((hBA.g0 k1).gne k2 om) hM3 hO2 hmi0 om) ?_)
   rintro _ w8 ⟨rfl, vo3, M3, hb8, hB15, hM13, hO7, hp8, hp9⟩
   have hz5 := hb8.size
   have hB16 := Blk.frm ((hQ7.g0 k1).gne k2 om) hp9 (not3 hdst.x7) (Zfd (hO2.ne_blk ((hQ7.g0 k1).gne k2 om) dc))
   have hB17 := Blk.frm ((hQ2.g0 k1).gne k2 om) hp9 (not3 hdst.x2) (Zfd (hO2.ne_blk ((hQ2.g0 k1).gne k2 om) dc))
   have hB18 := Blk.frm ((hQ8.g0 k1).gne k2 om) hp9 (not3 hdst.x8) (Zfd (hO2.ne_blk ((hQ8.g0 k1).gne k2 om) dc))
   have hB19 := Blk.frm ((hQ6.g0 k1).gne k2 om) hp9 (not3 hdst.x6) (Zfd (hO2.ne_blk ((hQ6.g0 k1).gne k2 om) dc))
   have hM14 := Zcm.frm hM4 hp9 hdst.dx (Zl1 hM4 hO2)
   have hF8 := hF3.trans (hp9.mono (fun g_ h_ => h_.elim .inl (fun h_ => .inr (.inr h_))))
   refine st (Ze rfl (Zg (Zd (Zh (Zb (st (Zt one127 rfl hB16.range (j := 0) rfl (st (Zc rfl ?_)))))))))
   refine st (Zc rfl (st0 (Zk5 (a := n) (v := (Zcj o (⟨(ix L (n - 1)).lv, (ix L (n - 1)).k0, (ix L (n - 1)).k1, (ix L (n - 1)).k2, (ix L (n - 1)).k3⟩ : Nd)).2) map127 keyI rfl rfl rfl hM14 ?_)))
   intro w9 hM15 k8 hs5
   have hb9 := belowa hb8 k8
   have hF9 := hF8.put k8 (by first | exact .inr om | exact .inl (by assumption) | exact .inl (.inl rfl) | exact .inl (.inr rfl) | exact .inl (.inr (.inl rfl)) | exact .inl (.inr (.inr rfl)))
   have hO8 := Own.keptF Zy hO7 k8 (hM14.ne_own hO7)
   have hM16 := hM13.kept k8 (by simp; omega)
   refine Zg (Zd (Zh (Zb (st (Zc rfl (st (Ze rfl (Zg ?_))))))))
   refine Zd (Zaa rfl rfl ?_)
   have hv : vis (tr L n) o = Zcj o (⟨(ix L (n - 1)).lv, (ix L (n - 1)).k0, (ix L (n - 1)).k1, (ix L (n - 1)).k2, (ix L (n - 1)).k3⟩ : Nd) := Zjd hl_ok hn1p hn1b (st4_zero L (ix L (n - 1)) o) (.inr ⟨rfl, by assumption⟩)
   have hs9 := Zgx (t := tr L n) o
   have hc9 := (Zc2 (tr L n) (Zi2 hl_ok n hn0 hn1b (ix L (n - 1)).lv (fun _ => rfl)) hcan0).1
   rw [hv] at hs9 hc9
   refine ⟨_, rfl, ?_, vo3, _, M3, hb9, (hB15.gne k8 (hM14.ne_blk hB15).symm), hM15, hM16, ?_, ?_, ?_, ?_, fun i_ hi_ => ?_, hF9⟩
   ·rw [hv]
   ·rw [hv]; exact hO8
   ·rw [hv]; exact hdok0.put (Zfk _ _) (Zku _ _) hn0 hn1b hno_ hs9
   ·rw [hv]; exact hp8
   ·rw [hv]; exact hc9
   ·rw [Zgn, if_neg om]
  refine Zh (Zb (st (Zn Zav rfl (st (Zbf (us := [.int .i64 ((ix L (n - 1)).k0), .int .i64 ((ix L (n - 1)).k1), .int .i64 ((ix L (n - 1)).k2), .int .i64 ((ix L (n - 1)).k3)]) row99 rfl hB2.range (j := 1) rfl rfl (st (Zc rfl (Zg (Zd ?_)))))))))
  refine Zz ?_
  refine Za2 (α := Int × List Nd × Value × List (Int × Int) × List (Nd × Int) × Int × Int × Int × Int) (fun ((k, ok, vk, Dk, Mk, a, b, c, e) : Int × List Nd × Value × List (Int × Int) × List (Nd × Int) × Int × Int × Int × Int) => [(0, .int .i64 n), (1, (pp g7)), (3, (pp g8)), (4, (pp g6)), (6, .int .i64 0), (9, (pp g1)), (30, .agg [.int .i64 ((ix L (n - 1)).k0), .int .i64 ((ix L (n - 1)).k1), .int .i64 ((ix L (n - 1)).k2), .int .i64 ((ix L (n - 1)).k3)].toArray), (31, .int .i64 k)]) (fun ((k, ok, vk, Dk, Mk, a, b, c, e) : Int × List Nd × Value × List (Int × Int) × List (Nd × Int) × Int × Int × Int × Int) W => Below a0.heap.size a0 W ∧ (0 ≤ k ∧ k ≤ 4) ∧ (St4 L (ix L (n - 1)) o k ok a b c e) ∧ (Blk W g7 127 [.map (some gd)].toArray) ∧ (Blk W g2 22 [vl].toArray) ∧ (Blk W g8 128 [.func (.func 93) [].toArray [(pp g7), (pp g2), (pp g8), (pp g6)].toArray].toArray) ∧ (Blk W g6 123 [(pp ga)].toArray) ∧ (Blk W ga 126 [vk, .map (some gk)].toArray) ∧ (Blk W g1 101 [.int .i64 ((ix L (n - 1)).lv), .int .i64 a, .int .i64 b, .int .i64 c, .int .i64 e].toArray) ∧ (Zcm ekI ekI W gd Dk) ∧ (Zcm Nd.val ekI W gk Mk) ∧ (Gw.Own Kd.node 101 a0.heap.size W (fun _ => False) vk ok) ∧ (DOk L Dk ok) ∧ (MInv Mk ok) ∧ (CanL ok) ∧ (∀ i : Int, n ≤ i → Zd4 Dk i = Zd4 D i) ∧ (Frm (fun g => g = ga ∨ g = gd ∨ g = gk) w vo W vk) ∧ (vk.ownBlock ≠ some g1)) (fun ((k, ok, vk, Dk, Mk, a, b, c, e) : Int × List Nd × Value × List (Int × Int) × List (Nd × Int) × Int × Int × Int × Int) => (4 - k).toNat) ((0), (o), (vo), (D), (M), ((ix L (n - 1)).k0), ((ix L (n - 1)).k1), ((ix L (n - 1)).k2), ((ix L (n - 1)).k3)) ⟨hb2, by omega, st4_zero L (ix L (n - 1)) o, ((hQ7.g0 k1).gne k2 om), ((hQ2.g0 k1).gne k2 om), ((hQ8.g0 k1).gne k2 om), ((hQ6.g0 k1).gne k2 om), ((hBA.g0 k1).gne k2 om), hB2, hM4, hM3, hO2, hdok0, hmi0, hcan0, fun _ _ => rfl, hF3, hn1⟩ sb ?_
  rintro ⟨k, ok, vk, Dk, Mk, a, b, c, e⟩ w3 ⟨hb3, hk, hst, hC7, hC2, hC8, hC6, hCA, hCx, hMDk, hMKk, hOk, hdok, hmi, hcan, hhi, hFk, hne⟩
  dsimp only at *
  have hz2 := hb3.size
  refine Zh (Zb (st (Zbd rfl rfl (Zg (Zd (Zh ?_))))))
  refine Zw rfl (fun h3 => ?_) (fun h3 => ?_)
  rotate_left
  ·refine Zak (Zk (Zk (Zs (Zd (Zh (Zb ?_))))))
   refine st (Zt one123 rfl hC6.range (j := 0) rfl (st (Zp Za1 rfl hCx.range rfl ?_)))
   have hlen9 := hdok.len
   have hcnt9 := hdok.cnt
   refine st (Zq fn94 rfl (Zms (x := (⟨(ix L (n - 1)).lv, a, b, c, e⟩ : Nd)) hb3 om om hCA hMKk hOk hmi om) ?_)
   rintro _ w6 ⟨rfl, vo2, M2, hb6, hB10, hM9, hO5, hp6, hp7⟩
   have hz4 := hb6.size
   have hB11 := Blk.frm hC7 hp7 (not3 hdst.x7) (Zfd (hOk.ne_blk hC7 dc))
   have hB12 := Blk.frm hC2 hp7 (not3 hdst.x2) (Zfd (hOk.ne_blk hC2 dc))
   have hB13 := Blk.frm hC8 hp7 (not3 hdst.x8) (Zfd (hOk.ne_blk hC8 dc))
   have hB14 := Blk.frm hC6 hp7 (not3 hdst.x6) (Zfd (hOk.ne_blk hC6 dc))
   have hM10 := Zcm.frm hMDk hp7 hdst.dx (Zl1 hMDk hOk)
   have hF6 := hFk.trans (hp7.mono (fun g_ h_ => h_.elim .inl (fun h_ => .inr (.inr h_))))
   refine st (Ze rfl (Zg (Zd (Zh (Zb (st (Zt one127 rfl hB11.range (j := 0) rfl (st (Zc rfl ?_)))))))))
   refine st (Zc rfl (st0 (Zk5 (a := n) (v := (Zcj ok (⟨(ix L (n - 1)).lv, a, b, c, e⟩ : Nd)).2) map127 keyI rfl rfl rfl hM10 ?_)))
   intro w7 hM11 k6 hs4
   have hb7 := belowa hb6 k6
   have hF7 := hF6.put k6 (by first | exact .inr om | exact .inl (by assumption) | exact .inl (.inl rfl) | exact .inl (.inr rfl) | exact .inl (.inr (.inl rfl)) | exact .inl (.inr (.inr rfl)))
   have hO6 := Own.keptF Zy hO5 k6 (hM10.ne_own hO5)
   have hM12 := hM9.kept k6 (by simp; omega)
   refine Zg (Zd (Zh (Zb (st (Zc rfl (st (Ze rfl (Zg ?_))))))))
   refine Zd (Zaa rfl rfl ?_)
   have hv : vis (tr L n) o = Zcj ok (⟨(ix L (n - 1)).lv, a, b, c, e⟩ : Nd) := Zjd hl_ok hn1p hn1b hst (.inl ⟨by omega, by assumption⟩)
   have hs9 := Zgx (t := tr L n) o
   have hc9 := (Zc2 (tr L n) (Zi2 hl_ok n hn0 hn1b (ix L (n - 1)).lv (fun _ => rfl)) hcan0).1
   rw [hv] at hs9 hc9
   refine ⟨_, rfl, ?_, vo2, _, M2, hb7, (hB10.gne k6 (hM10.ne_blk hB10).symm), hM11, hM12, ?_, ?_, ?_, ?_, fun i_ hi_ => ?_, hF7⟩
   ·rw [hv]
   ·rw [hv]; exact hO6
   ·rw [hv]; exact hdok.put (Zfk _ _) (Zku _ _) hn0 hn1b ((hhi n (Int.le_refl _)).trans hno_) hs9
   ·rw [hv]; exact hp6
   ·rw [hv]; exact hc9
   ·rw [Zgn, if_neg om]; exact hhi i_ om
  refine Zo (Zd (Zh (Zz (Zh (Zb (st (Zc rfl ?_)))))))
  refine st (Zkj Zb9 Za9 rfl rfl om om (st (Ze rfl (st (Ze rfl (Zg (Zd (Zb (st (Zc rfl ?_))))))))))
  refine st (Zt one128 rfl hC8.range (j := 0) rfl (st (Zc rfl ?_)))
  have hkr2 := hkr om k hk.1 om
  unfold Nd.kid at hkr2
  refine st (s_callc fn93 rfl rfl (ih (n := (Zae ((ix L (n - 1)).k0) ((ix L (n - 1)).k1) ((ix L (n - 1)).k2) ((ix L (n - 1)).k3) k)) om om om hb3 hC7 hC2 hC8 hC6 hCA hMDk hMKk hOk hdok hmi hcan) ?_)
  rintro _ w4 ⟨rfl, vo1, D1, M1, hb4, hB3, hM5, hM6, hO3, hp1, hp2, hp3, hp4, hp5⟩
  have hz3 := hb4.size
  have hB4 := Blk.frm hC7 hp5 hdst.x7 (Zfd (hOk.ne_blk hC7 dc))
  have hB5 := Blk.frm hC2 hp5 hdst.x2 (Zfd (hOk.ne_blk hC2 dc))
  have hB6 := Blk.frm hC8 hp5 hdst.x8 (Zfd (hOk.ne_blk hC8 dc))
  have hB7 := Blk.frm hC6 hp5 hdst.x6 (Zfd (hOk.ne_blk hC6 dc))
  have hB8 := Blk.frm hCx hp5 (fun h_ => by rcases h_ with h_ | h_ | h_ <;> omega) (hne)
  have hn2 := (hp5.2 _ hCx.lt (fun h_ => by rcases h_ with h_ | h_ | h_ <;> omega) hne).2
  have hF4 := hFk.trans hp5
  refine st (Zn Zav rfl (st (Zbi Zb9 rfl rfl om om (st0 (Zda Za9 rfl rfl hB8 om om ?_)))))
  intro w5 hB9 k4 hs3
  have hb5 := belowa hb4 k4
  have hF5 := hF4.put k4 (by first | exact .inr om | exact .inl (by assumption) | exact .inl (.inl rfl) | exact .inl (.inr rfl) | exact .inl (.inr (.inl rfl)) | exact .inl (.inr (.inr rfl)))
  have hO4 := Own.keptN Zy hO3 k4 hn2
  have hM7 := hM5.kept k4 (by simpa using hM5.ne_blk hB8)
  have hM8 := hM6.kept k4 (by simpa using hM6.ne_blk hB8)
  clear hB8
  refine Zg (Zab (Zd (Zb (st (Zah rfl rfl om (st (Zc rfl (Zg ?_))))))))
  exact Zac (((k + 1)), ((vis (tr L ((Zae ((ix L (n - 1)).k0) ((ix L (n - 1)).k1) ((ix L (n - 1)).k2) ((ix L (n - 1)).k3) k))) ok).1), (vo1), (D1), (M1), ((if k = 0 then (vis (tr L ((Zae ((ix L (n - 1)).k0) ((ix L (n - 1)).k1) ((ix L (n - 1)).k2) ((ix L (n - 1)).k3) k))) ok).2 else a)), ((if k = 1 then (vis (tr L ((Zae ((ix L (n - 1)).k0) ((ix L (n - 1)).k1) ((ix L (n - 1)).k2) ((ix L (n - 1)).k3) k))) ok).2 else b)), ((if k = 2 then (vis (tr L ((Zae ((ix L (n - 1)).k0) ((ix L (n - 1)).k1) ((ix L (n - 1)).k2) ((ix L (n - 1)).k3) k))) ok).2 else c)), ((if k = 3 then (vis (tr L ((Zae ((ix L (n - 1)).k0) ((ix L (n - 1)).k1) ((ix L (n - 1)).k2) ((ix L (n - 1)).k3) k))) ok).2 else e))) ⟨hb5, by dsimp only; omega, st4_step hst hk.1 om rfl, (hB4.gne k4 om), (hB5.gne k4 om), (hB6.gne k4 om), (hB7.gne k4 om), (hB3.gne k4 om), hB9, hM7, hM8, hO4, hp1, hp2, hp3, fun i_ hi_ => (hp4 i_ om).trans (hhi i_ hi_), hF5, hn2⟩ om sb
end Go.Proofs.Ytfljelnfjbbknaa.Nd
namespace Go.Proofs.Ytfljelnfjbbknaa.Nd
open Go.RowKit Go.Gw
set_option maxHeartbeats 1000000 in
theorem of_any {va : Value} {l : List Nd} {F : Nat → Prop} {w : World} (hl : Sl Kd.node w F va l) {n : Int} (hll : l.length ≤ 100000) :
  Calls Try.prog 61 [va, .int .i64 n].toArray w (Zbh w fun v w' => ∃ sv, v = .tuple #[.agg #[sv], .int .i64 (ofL l n).2] ∧ Sl Kd.node w' (fun _ => False) sv (ofL l n).1 ∧ (ofL l n).1.length ≤ l.length + 1330) := by
 have hb0 := Below.refl w.heap.size w
 have hln1 := hl.lenle
 refine enter Try.func61 rfl rfl (Zh (Zb (st (s_box1 rfl hl.cells1 ?_))))
 intro g1 w1 hg1 hB1 k1 hs1
 have hb1 := Zf hb0 k1
 refine st (Zan Zez ?_)
 intro g2 w2 hg2 hB2 k2 hs2
 have hz1 := hb1.size
 have hb2 := Zf hb1 k2
 refine st (Ze rfl (Zg (Zd (Zh (Zh (Zb (st (Zt Zb8 rfl (hB1.g0 k2).range (j := 0) rfl ?_))))))))
 refine st (Zq fn91 rfl (loose_any (hl.at0 hb2)) ?_)
 rintro _ w3 ⟨hq1, rfl⟩
 have k3 := Zi hq1 none
 have hz2 := hq1.size
 have hb3 := Zf hb2 k3
 have hz3 := hb3.size
 refine st (Zdd rfl (st (Zc rfl ?_)))
 refine Zd7 12 rfl (fun h1 => ?_) (fun h1 => ?_)
 ·refine Zj rfl rfl (Zj rfl rfl (st (Zr rfl rfl (st (Zc rfl (Zj rfl rfl (Zj rfl rfl (Zj rfl rfl ?_))))))))
  refine Zj rfl rfl (st (Zr rfl rfl (Zg (Zd (Zb0 rfl (Zh (Zb ?_)))))))
  refine st (Zbe (ps := []) (ccs := []) (cells := [.slice none 0 0]) rfl rfl kr (st0 (Zv Za6 rfl rfl (hB2.g0 k3) rfl rfl rfl ?_)))
  intro w4 hB3 k4 hs3
  have hb4 := belowa hb3 k4
  refine st (Ze rfl (Zg (Zd (Zcg rfl Za6 rfl rfl hB3.range rfl ?_))))
  refine ⟨_, rfl, hb4, .slice none 0 0, ?_, ?_, ?_⟩
  ·rw [Zgy (by first | exact .inl (by simpa using h1) | exact .inr om)]
  ·rw [Zgy (by first | exact .inl (by simpa using h1) | exact .inr om)]; exact (Own.nil Kd.node 101 0 _ _).sl
  ·rw [Zgy (by first | exact .inl (by simpa using h1) | exact .inr om)]; simp
 have hl_ok : Zaf l = true := by simpa using h1
 refine stg (Zc rfl (stg (Zbd rfl rfl (st (Zr rfl rfl (st (Zc rfl ?_)))))))
 refine Zax 16 rfl (fun h2 => ?_) (fun h2 => ?_)
 ·refine Zj rfl rfl (Zj rfl rfl (Zj rfl rfl (Zj rfl rfl (st (Zr rfl rfl (Zg (Zd ?_)))))))
  refine Zb0 rfl (Zh (Zb (st (Zbe (ps := []) (ccs := []) (cells := [.slice none 0 0]) rfl rfl kr (st0 (Zv Za6 rfl rfl (hB2.g0 k3) rfl rfl rfl ?_))))))
  intro w5 hB4 k5 hs4
  have hb5 := belowa hb3 k5
  refine st (Ze rfl (Zg (Zd (Zcg rfl Za6 rfl rfl hB4.range rfl ?_))))
  refine ⟨_, rfl, hb5, .slice none 0 0, ?_, ?_, ?_⟩
  ·rw [Zgy (by first | exact .inl (by simpa using h1) | exact .inr om)]
  ·rw [Zgy (by first | exact .inl (by simpa using h1) | exact .inr om)]; exact (Own.nil Kd.node 101 0 _ _).sl
  ·rw [Zgy (by first | exact .inl (by simpa using h1) | exact .inr om)]; simp
 refine stg (Zc rfl (stg (Zt Zb8 rfl ((hB1.g0 k2).g0 k3).range (j := 0) rfl (stg (Zaq Zaw rfl (hl.at0 hb3) (stg (Zch rfl rfl (st (Zr rfl rfl (Zg (Zd ?_)))))))))))
 refine Zw rfl (fun h3 => ?_) (fun h3 => ?_)
 ·refine Zh (Zb (st (Zbe (ps := []) (ccs := []) (cells := [.slice none 0 0]) rfl rfl kr (st0 (Zv Za6 rfl rfl (hB2.g0 k3) rfl rfl rfl ?_)))))
  intro w6 hB5 k6 hs5
  have hb6 := belowa hb3 k6
  refine st (Ze rfl (Zg (Zd (Zcg rfl Za6 rfl rfl hB5.range rfl ?_))))
  refine ⟨_, rfl, hb6, .slice none 0 0, ?_, ?_, ?_⟩
  ·rw [Zgy (by first | exact .inl (by simpa using h1) | exact .inr om)]
  ·rw [Zgy (by first | exact .inl (by simpa using h1) | exact .inr om)]; exact (Own.nil Kd.node 101 0 _ _).sl
  ·rw [Zgy (by first | exact .inl (by simpa using h1) | exact .inr om)]; simp
 refine Zo (Zd (Zh (Zb (st (Zt Zb8 rfl ((hB1.g0 k2).g0 k3).range (j := 0) rfl (st (Zc rfl (st (Zq fn92 rfl (shrink_any (n0 := n) (hl.at0 hb3) hl_ok hll om om) ?_)))))))))
 rintro _ w7 ⟨hq2, L1, n1, v1, rfl, hS1, hLok1, hn1, hn2, hT1, hH1, hLl1⟩
 have k7 := Zi hq2 none
 have hz4 := hq2.size
 have hO1 := Own.rebase hS1 hb3.size
 have hb7 := Zf hb3 k7
 have hz5 := hb7.size
 have hlen9 := Zej L1
 refine st (Zc rfl (st (Zad rfl rfl (st (Zad rfl rfl (st0 (Zdt Zb8 rfl rfl (hO1.one) (((hB1.g0 k2).g0 k3).g0 k7) (of_decide_eq_true rfl) ?_)))))))
 intro w8 hB6 k8 hs6
 have hb8 := belowa hb7 k8
 have hO2 := Own.keptF Zy hO1 k8 (hO1.ne_blk (((hB1.g0 k2).g0 k3).g0 k7) dc)
 refine st (Ze rfl (Zg (Zd (Zh (Zb (st (s_makemap Nd.val ekI ?_)))))))
 intro g3 w9 hg3 hM1 k9 hs7
 have hb9 := Zf hb8 k9
 refine st (Zbe (ps := [(1, .tmp 29)]) (ccs := [#[.map (some g3)]]) (cells := [.slice none 0 0, .map (some g3)]) rfl rfl kr (st (Zbs rfl ?_)))
 intro g4 w10 hg4 hB7 k10 hs8
 have hb10 := Zf hb9 k10
 have hM2 := hM1.g0 k10
 refine st (Zan zero123 ?_)
 intro g5 w11 hg5 hB8 k11 hs9
 have hz6 := hb10.size
 have hb11 := Zf hb10 k11
 have hM3 := hM2.g0 k11
 refine st0 (Zdt one123 rfl rfl rfl hB8 (of_decide_eq_true rfl) ?_)
 intro w12 hB9 k12 hs10
 have hb12 := belowa hb11 k12
 have hM4 := hM3.kept k12 (by simpa using hM3.ne_blk hB8)
 clear hB8
 refine Zg (Zd (Zh (Zb (st (s_makemap ekI ekI ?_)))))
 intro g6 w13 hg6 hM5 k13 hs11
 have hb13 := Zf hb12 k13
 have hM6 := hM4.g0 k13
 refine st0 (s_mapins (a := 0) (v := 0) map127 keyI rfl rfl rfl hM5 ?_)
 intro w14 hM7 k14 hs12
 have hb14 := belowa hb13 k14
 have hM8 := hM6.kept k14 (by simp; omega)
 refine st (Zc rfl (st (Zan zero127 ?_)))
 intro g7 w15 hg7 hB10 k15 hs13
 have hz7 := hb14.size
 have hb15 := Zf hb14 k15
 have hM9 := hM8.g0 k15
 have hM10 := hM7.g0 k15
 refine st0 (Zdt one127 rfl rfl rfl hB10 (of_decide_eq_true rfl) ?_)
 intro w16 hB11 k16 hs14
 have hb16 := belowa hb15 k16
 have hM11 := hM9.kept k16 (by simpa using hM9.ne_blk hB10)
 have hM12 := hM10.kept k16 (by simpa using hM10.ne_blk hB10)
 clear hB10
 refine Zg (Zd (Zh (Zb (st (Zan zero128 ?_)))))
 intro g8 w17 hg8 hB12 k17 hs15
 have hz8 := hb16.size
 have hM13 := hM11.g0 k17
 have hM14 := hM12.g0 k17
 refine Zg (Zd (Zh (Zb (st (s_func rfl rfl (st0 (Zdt one128 rfl rfl rfl hB12 (of_decide_eq_true rfl) ?_)))))))
 intro w18 hB13 k18 hs16
 have hM15 := hM13.kept k18 (by simpa using hM13.ne_blk hB12)
 have hM16 := hM14.kept k18 (by simpa using hM14.ne_blk hB12)
 clear hB12
 refine Zg (Zd (Zh (Zb (st (Zt one128 rfl hB13.range (j := 0) rfl (st (Zc rfl ?_)))))))
 have hb19 := Below.refl w8.heap.size w8
 have hb20 := Zf hb19 k9
 have hb21 := Zf hb20 k10
 have hb22 := Zf hb21 k11
 have hb23 := Zhf hb22 k12 om
 have hb24 := Zf hb23 k13
 have hb25 := Zhf hb24 k14 om
 have hb26 := Zf hb25 k15
 have hb27 := Zhf hb26 k16 om
 have hb28 := Zf hb27 k17
 have hb29 := Zhf hb28 k18 om
 have hdst1 : Dist g7 g1 g8 g5 g4 g6 g3 := ⟨by omega, by omega, by omega, by omega, by omega⟩
 have hmd9 := hM16
 rw [show mput ([] : List (Int × Int)) 0 0 = [(0, 0)] from rfl] at hmd9
 refine st (s_callc fn93 rfl rfl (visit1_any (a0 := w8) hO2.sl hLok1 om ⟨by omega, by omega, by omega⟩ hdst1 (L1.length + 1) (n := n1) om om om hb29 ((hB11.g0 k17).gne k18 om) ((((((((((hB6.g0 k9).g0 k10).g0 k11).gne k12 om).g0 k13).gne k14 (hM5.ne_blk (((((hB6.g0 k9).g0 k10).g0 k11).gne k12 om).g0 k13)).symm).g0 k15).gne k16 om).g0 k17).gne k18 om) hB13 ((((((hB9.g0 k13).gne k14 (hM5.ne_blk (hB9.g0 k13)).symm).g0 k15).gne k16 om).g0 k17).gne k18 om) ((((((((hB7.g0 k11).gne k12 om).g0 k13).gne k14 (hM5.ne_blk (((hB7.g0 k11).gne k12 om).g0 k13)).symm).g0 k15).gne k16 om).g0 k17).gne k18 om) hmd9 hM15 (Own.nil _ _ _ _ _) (dok_start _) minv_nil Zg5) ?_)
 rintro _ w19 ⟨rfl, vo1, D1, M1, hb30, hB14, hM17, hM18, hO13, hp1, hp2, hp3, hp4, hp5⟩
 have hb31 := hb8.trans (hb30.mono hb8.size)
 have hz9 := hb31.size
 have hB15 := Blk.frm ((((((hB9.g0 k13).gne k14 (hM5.ne_blk (hB9.g0 k13)).symm).g0 k15).gne k16 om).g0 k17).gne k18 om) hp5 hdst1.x6 (by simp [Value.ownBlock])
 have hB16 : Blk w19 g2 25 _ := (hb30.block _ (((hB2.g0 k3).g0 k7).gne k8 om).lt).trans (((hB2.g0 k3).g0 k7).gne k8 om)
 refine Zg (Zd (Zh (Zb (st (Zt one123 rfl hB15.range (j := 0) rfl (st (Zed rfl (st (Zn Zi4 rfl ?_)))))))))
 refine st (Zt Zb8 rfl hB14.range (j := 0) rfl (st (Zbe (ps := [(0, .tmp 41)]) (ccs := [#[vo1]]) (cells := [vo1]) rfl (by simp only [List.map_cons, List.map_nil, hO13.cells1] <;> rfl) kr (st0 (Zv Za6 rfl rfl hB16 (by simp only [List.all_cons, List.all_nil, hO13.one, Bool.and_true, Bool.and_self] <;> rfl) rfl rfl ?_)))))
 intro w20 hB17 k20 hs17
 have hb32 := belowa hb31 k20
 have hO14 := Own.keptF Zy hO13 k20 (hO13.ne_blk hB16 dc)
 clear hB16
 refine st (Ze rfl (Zg (Zd (Zcg rfl Za6 rfl rfl hB17.range rfl ?_))))
 refine ⟨_, rfl, hb32, vo1, ?_, ?_, ?_⟩
 ·rw [Zi6 hl_ok om om]
 ·rw [Zi6 hl_ok om om, canT, ← hT1]; exact hO14.sl
 ·rw [Zi6 hl_ok om om, canT, ← hT1]; have q1_ := hp1.cnt; have q2_ := hp1.len; simp only; omega
set_option maxHeartbeats 1000000 in
theorem growO_any {va : Value} {l : List Nd} {F : Nat → Prop} {w : World} (hl : Sl Kd.node w F va l) {level : Int} (hll : l.length ≤ 100000) (hlv : 0 ≤ (Zm l).lv ∧ (Zm l).lv ≤ 1329) (hle : level ≤ 1329) :
  Calls Try.prog 59 [.agg [va].toArray, .int .i64 level].toArray w (Zbh w fun v w' => ∃ sv, v = .tuple #[sv, .int .i64 ((Zbb l level).length : Int)] ∧ Gw.Own Kd.node 101 w.heap.size w' (fun _ => False) sv (Zbb l level)) := by
 have hb0 := Below.refl w.heap.size w
 have hln0 := hl.lenle
 refine enter Try.func59 rfl rfl (Zh (Zb (st (Zbs rfl ?_))))
 intro g1 w1 hg1 hB1 k1 hs1
 change Blk w1 g1 25 [va].toArray at hB1
 have hb1 := Zf hb0 k1
 refine st (Ze rfl (st (Ze rfl (Zg (Zd (Zh (Zb (st (Zn Zcb rfl ?_)))))))))
 refine st (Zt Zb8 rfl hB1.range (j := 0) rfl (st (Zq fn90 rfl (Zh6 (hl.at0 hb1) om) ?_)))
 rintro v1 w2 ⟨hq1, hS1⟩
 have k2 := Zi hq1 none
 have hO1 := Own.rebase hS1 hb1.size
 have hb2 := Zf hb1 k2
 have hz1 := hb2.size
 refine st (Ze rfl (Zg (Zd (Zh (Zb (st (Zc rfl (st (Zaq Zaw rfl hO1.sl ?_)))))))))
 refine st (Ze rfl (Zg (Zd (Zh (Zh (Zb (st (Zc rfl ?_))))))))
 refine st (Zbu rfl rfl (st (Zc rfl ?_)))
 refine Zax 20 rfl (fun h1 => ?_) (fun h1 => ?_)
 ·refine Zj rfl rfl (Zj rfl rfl (st (Zr rfl rfl (Zg (Zd (Zb0 rfl (Zh ?_)))))))
  refine Zb (st (Zc rfl (st (Zc rfl (st (Ze rfl (st (Ze rfl (Zg (Zd ?_))))))))))
  refine Zdl rfl rfl rfl ?_
  have hnil : l = [] := List.eq_nil_of_length_eq_zero om
  subst hnil
  exact ⟨_, rfl, hb2, _, rfl, hO1⟩
 refine stg (Zc rfl (stg (Zch rfl rfl (st (Zr rfl rfl (Zg (Zd ?_)))))))
 refine Zw rfl (fun h2 => ?_) (fun h2 => ?_)
 ·refine Zh (Zb (st (Zc rfl (st (Zc rfl (st (Ze rfl (st (Ze rfl (Zg ?_))))))))))
  refine Zd (Zdl rfl rfl rfl ?_)
  exfalso
  omega
 have hl13 := h2
 refine Zo (Zd (Zh (Zh (Zb (st (Zc rfl (st (Zc rfl ?_))))))))
 refine st (Za7 rfl rfl om (st (Zat Zaw rfl rfl hO1.sl om om ?_)))
 rintro b1 o1 _ ⟨rfl, _⟩ hc1 hF1 hlt1
 refine st (Zp Za1 rfl hc1 rfl (st (Zan Zcw ?_)))
 intro g2 w3 hg2 hB2 k3 hs2
 have hz2 := hb2.size
 have hn1 := Zdj hO1 hg2
 have hb3 := Zf hb2 k3
 have hO2 := hO1.g0 k3
 refine st0 (Zv Za1 rfl rfl hB2 rfl rfl rfl ?_)
 intro w4 hB3 k4 hs3
 have hb4 := belowa hb3 k4
 have hO3 := Own.keptN Zy hO2 k4 hn1
 clear hB2
 refine Zg (Zd (Zz ?_))
 refine Za2 (α := List Nd × Value × Nat) (fun ((o, vk, go) : List Nd × Value × Nat) => [(1, .int .i64 level), (4, .slice none 0 0), (5, .int .i64 0), (6, vk), (7, .int .i64 (o.length : Int)), (8, (pp go))]) (fun ((o, vk, go) : List Nd × Value × Nat) W => Below w.heap.size w W ∧ (1 ≤ o.length ∧ (o.length : Int) ≤ l.length + 5 * (Zm o).lv ∧ 0 ≤ (Zm o).lv ∧ (Zm o).lv ≤ 1329) ∧ (Zfe (level - (Zm o).lv).toNat o = Zfe (level - (Zm l).lv).toNat l) ∧ (Blk W go 101 [.int .i64 ((Zm o).lv), .int .i64 ((Zm o).k0), .int .i64 ((Zm o).k1), .int .i64 ((Zm o).k2), .int .i64 ((Zm o).k3)].toArray) ∧ (Gw.Own Kd.node 101 w.heap.size W (fun _ => False) vk (o)) ∧ (vk.ownBlock ≠ some go)) (fun ((o, vk, go) : List Nd × Value × Nat) => (level - (Zm o).lv).toNat) ((l), (v1), (g2)) ⟨hb4, by omega, rfl, hB3, hO3, hn1⟩ sb ?_
 rintro ⟨o, vk, go⟩ w5 ⟨hb5, hoo, hgf, hBo, hOo, hno⟩
 dsimp only at *
 have hz3 := hb5.size
 have hgol := hBo.lt
 refine Zh (Zh (Zb (st (Zn Zaz rfl (st (Zt Za9 rfl hBo.range (j := 0) rfl (st (Zc rfl (st (Zbd rfl rfl ?_))))))))))
 refine Zg (Zd ?_)
 refine Zw rfl (fun h3 => ?_) (fun h3 => ?_)
 rotate_left
 ·refine Zak (Zk (Zk (Zs (Zd (Zh (Zb ?_))))))
  refine st (Zc rfl (st (Zc rfl (st (Ze rfl (st (Ze rfl (Zg (Zd (Zdl rfl rfl rfl ?_))))))))))
  rw [grow_end h3] at hgf
  subst hgf
  have hgq : Zbb l level = Zfe (level - (Zm l).lv).toNat l := if_neg (by rintro rfl; simp at *)
  rw [hgq]
  exact ⟨_, rfl, hb5, _, rfl, hOo⟩
 have hlt := h3
 refine Zo (Zd (Zh (Zz (Zh (Zb (st (Zn Zaz rfl ?_)))))))
 refine st (Zt Za9 rfl hBo.range (j := 0) rfl (st (Zah rfl rfl om (st (Zbe (ps := [(0, .tmp 42)]) (ccs := [#[.int .i64 ((Zm o).lv + 1)]]) (cells := [.int .i64 ((Zm o).lv + 1), .int .i64 0, .int .i64 0, .int .i64 0, .int .i64 0]) rfl rfl kr (st (Zan Zcw ?_)))))))
 intro g3 w6 hg3 hB4 k5 hs4
 have hz4 := hb5.size
 have hn2 := Zdj hOo hg3
 have hb6 := Zf hb5 k5
 have hO4 := hOo.g0 k5
 refine st0 (Zv Za1 rfl rfl hB4 rfl rfl rfl ?_)
 intro w7 hB5 k6 hs5
 have hb7 := belowa hb6 k6
 have hO5 := Own.keptN Zy hO4 k6 hn2
 clear hB4
 refine Zg (Zd (Zh (Zh (Zb (st (Zn Zav rfl (st (Zbf (us := [.int .i64 ((Zm o).k0), .int .i64 ((Zm o).k1), .int .i64 ((Zm o).k2), .int .i64 ((Zm o).k3)]) row99 rfl ((hBo.g0 k5).gne k6 om).range (j := 1) rfl rfl ?_))))))))
 refine st (Zc rfl (Zg (Zd (Zz ?_))))
 refine Za2 (α := Int × List Nd × Value × Int × Int × Int × Int) (fun ((k, ok, vj, a, b, c, e) : Int × List Nd × Value × Int × Int × Int × Int) => [(1, .int .i64 level), (4, .slice none 0 0), (5, .int .i64 0), (6, vj), (7, .int .i64 (o.length : Int)), (8, (pp go)), (9, (pp g3)), (45, .agg [.int .i64 ((Zm o).k0), .int .i64 ((Zm o).k1), .int .i64 ((Zm o).k2), .int .i64 ((Zm o).k3)].toArray), (46, .int .i64 k)]) (fun ((k, ok, vj, a, b, c, e) : Int × List Nd × Value × Int × Int × Int × Int) W => Below w.heap.size w W ∧ (0 ≤ k ∧ k ≤ 4) ∧ ((ok, a, b, c, e) = grS (Zm o) o k.toNat) ∧ ((ok.length : Int) ≤ o.length + k) ∧ (Blk W g3 101 [.int .i64 ((Zm o).lv + 1), .int .i64 a, .int .i64 b, .int .i64 c, .int .i64 e].toArray) ∧ (Blk W go 101 [.int .i64 ((Zm o).lv), .int .i64 ((Zm o).k0), .int .i64 ((Zm o).k1), .int .i64 ((Zm o).k2), .int .i64 ((Zm o).k3)].toArray) ∧ (Gw.Own Kd.node 101 w.heap.size W (fun _ => False) vj (ok)) ∧ (vj.ownBlock ≠ some g3) ∧ (vj.ownBlock ≠ some go)) (fun ((k, ok, vj, a, b, c, e) : Int × List Nd × Value × Int × Int × Int × Int) => (4 - k).toNat) ((0), (o), (vk), (0), (0), (0), (0)) ⟨hb7, by omega, rfl, by omega, hB5, ((hBo.g0 k5).gne k6 om), hO5, hn2, hno⟩ sb ?_
 rintro ⟨k, ok, vj, a, b, c, e⟩ w8 ⟨hb8, hk, hgs, hokl, hBx, hBo2, hOj, hnx, hno2⟩
 dsimp only at *
 have hz5 := hb8.size
 have hgol2 := hBo2.lt
 have hgxl2 := hBx.lt
 refine Zh (Zb (st (Zbd rfl rfl (Zg (Zd (Zh ?_))))))
 refine Zw rfl (fun h4 => ?_) (fun h4 => ?_)
 rotate_left
 ·refine Zak (Zk (Zk (Zs (Zd (Zh (Zb ?_))))))
  refine st (Zc rfl (st (Zp Za1 rfl hBx.range rfl (st (Zau (ps := [(0, .tmp 71)]) (ccs := [#[.int .i64 ((Zm o).lv + 1), .int .i64 a, .int .i64 b, .int .i64 c, .int .i64 e]]) (e := 101) (cells := [.int .i64 ((Zm o).lv + 1), .int .i64 a, .int .i64 b, .int .i64 c, .int .i64 e]) rfl rfl kr dc Zgw ?_)))))
  intro g6 w15 hg6 hB11 k13 hs11
  have hb15 := Zf hb8 k13
  have hz9 := hb15.size
  have hO12 := hOj.g0 k13
  have hS3 := Zbl (F := fun _ => False) ([⟨((Zm o).lv + 1), a, b, c, e⟩] : List Nd) hB11 (fun h => h) rfl (by first | decide | simp)
  refine st (Za4 (K := Kd.node) Zaw rfl rfl hO12 (Zbl (F := Out (fun _ => False) vj) ([⟨((Zm o).lv + 1), a, b, c, e⟩] : List Nd) hB11 (fun h => h.elim id (fun h => by have h9 := (hOj.lt _ h).2; omega)) rfl (by first | decide | simp)) Zb6 (by simp; omega) (by simp; omega) (by first | exact Nat.le_refl _ | omega) (fun _ h => h.elim) ?_)
  intro v3 w16 hO13 k14 hr3
  have hn7 := Zdk hnx hr3 (by have := (hBx.g0 k13).lt; omega)
  have hn8 := Zdk hno2 hr3 (by have := (hBo2.g0 k13).lt; omega)
  have hb16 := hb15.grown k14 hb15.size (fun k_ hk_ => (hO12.lt k_ hk_).1)
  have hz10 := hb16.size
  refine st (Ze rfl (Zg (Zd (Zb (st (Zc rfl (st (Zaq Zaw rfl hO13.sl (st (Ze rfl ?_))))))))))
  refine Zg (Zab (Zd (Zh (Zh (Zb (st (Zp Za1 rfl ((hBo2.g0 k13).grown k14 (fun e => hno2 e.symm)).range rfl ?_)))))))
  refine Zg (Zd (Zb (st (Zan Zcw ?_))))
  intro g7 w17 hg7 hB12 k15 hs12
  have hz11 := hb16.size
  have hn9 := Zdj hO13 hg7
  have hb17 := Zf hb16 k15
  have hO14 := hO13.g0 k15
  refine st0 (Zv Za1 rfl rfl hB12 rfl rfl rfl ?_)
  intro w18 hB13 k16 hs13
  have hb18 := belowa hb17 k16
  have hO15 := Own.keptN Zy hO14 k16 hn9
  clear hB12
  refine Zg (Zd (Zb ?_))
  have hlx9 : ((ok ++ ([⟨((Zm o).lv + 1), a, b, c, e⟩] : List Nd)).length : Int) = ok.length + 1 := by simp
  refine st (Zc rfl (st (Zc rfl (st (Za7 rfl rfl om (st (Zat Zaw rfl rfl hO15.sl om om ?_)))))))
  rintro b2 o2 _ ⟨rfl, _⟩ hc2 hF2 hlt2
  refine st (Zp Za1 rfl hc2 rfl (st0 (Zv Za1 rfl rfl hB13 rfl rfl rfl ?_)))
  intro w19 hB14 k17 hs14
  have hb19 := belowa hb18 k17
  have hO16 := Own.keptN Zy hO15 k17 hn9
  clear hB13
  refine Zg ?_
  have hgs4 : (ok, a, b, c, e) = grS (Zm o) o 4 := by rw [(by omega : k = 4)] at hgs; exact hgs
  have hgr := Zmp (level := level) hgs4 hlt
  have hll9 : ((ok ++ ([⟨((Zm o).lv + 1), a, b, c, e⟩] : List Nd)).length : Int) = ok.length + 1 := by simp
  have hla9 := Zlu (o := ok) (x := ⟨(Zm o).lv + 1, a, b, c, e⟩)
  exact Zac ((ok ++ ([⟨((Zm o).lv + 1), a, b, c, e⟩] : List Nd)), (v3), (g7)) ⟨hb19, by dsimp only; rw [hla9]; simp only; omega, by dsimp only; rw [hgr]; exact hgf, by dsimp only; have hq9 := hB14; rw [show ix (ok ++ ([⟨((Zm o).lv + 1), a, b, c, e⟩] : List Nd)) (((ok ++ ([⟨((Zm o).lv + 1), a, b, c, e⟩] : List Nd)).length : Int) - 1) = _ from hla9] at hq9; rw [hla9]; exact hq9, hO16, hn9⟩ (by dsimp only; rw [hla9]; simp only; omega) sb
 refine Zo (Zd (Zh (Zz (Zh (Zb (st (Zc rfl ?_)))))))
 refine st (Zkj Zb9 Za9 rfl rfl om om (st (Ze rfl (st (Ze rfl (Zg (Zd (Zh (Zh ?_)))))))))
 refine Zb (st (Zc rfl (st (Zbu rfl rfl (Zg (Zd ?_))))))
 refine Zw rfl (fun h5 => ?_) (fun h5 => ?_)
 ·refine Zak (Zk (Zs (Zd (Zb (st (Zah rfl rfl om (st (Zc rfl ?_))))))))
  refine Zg ?_
  exact Zac (((k + 1)), (ok), (vj), (a), (b), (c), (e)) ⟨hb8, by dsimp only; first | omega | (simp; omega), grS_step hk.1 hgs (by unfold Nd.kid; exact h5), by dsimp only; first | omega | (simp; omega), hBx, hBo2, hOj, hnx, hno2⟩ om sb
 refine Zo (Zd (Zh (Zb (st (Zn Zaz rfl (st (Zt Za9 rfl hBo2.range (j := 0) rfl (st (Zbe (ps := [(0, .tmp 53)]) (ccs := [#[.int .i64 ((Zm o).lv)]]) (cells := [.int .i64 ((Zm o).lv), .int .i64 0, .int .i64 0, .int .i64 0, .int .i64 0]) rfl rfl kr ?_)))))))))
 refine st (Zan Zcw ?_)
 intro g4 w9 hg4 hB6 k7 hs6
 have hz6 := hb8.size
 have hn3 := Zdj hOj hg4
 have hb9 := Zf hb8 k7
 have hO6 := hOj.g0 k7
 refine st0 (Zv Za1 rfl rfl hB6 rfl rfl rfl ?_)
 intro w10 hB7 k8 hs7
 have hb10 := belowa hb9 k8
 have hO7 := Own.keptN Zy hO6 k8 hn3
 clear hB6
 refine Zg (Zd (Zh (Zb (st (Zc rfl (st (Za7 rfl rfl om (st (Zc rfl ?_)))))))))
 refine st (Zn Zav rfl (st (Zbi Zb9 rfl rfl om om (st0 (Zda Za9 rfl rfl hB7 om om ?_)))))
 intro w11 hB8 k9 hs8
 have hb11 := belowa hb10 k9
 have hO8 := Own.keptN Zy hO7 k9 hn3
 clear hB7
 refine Zg (Zd (Zh (Zb (st (Zc rfl (st (Zp Za1 rfl hB8.range rfl ?_)))))))
 refine st (Zau (ps := [(0, .tmp 61)]) (ccs := [#[.int .i64 ((Zm o).lv), .int .i64 (if (3 - k) = 0 then (Zae ((Zm o).k0) ((Zm o).k1) ((Zm o).k2) ((Zm o).k3) k) else 0), .int .i64 (if (3 - k) = 1 then (Zae ((Zm o).k0) ((Zm o).k1) ((Zm o).k2) ((Zm o).k3) k) else 0), .int .i64 (if (3 - k) = 2 then (Zae ((Zm o).k0) ((Zm o).k1) ((Zm o).k2) ((Zm o).k3) k) else 0), .int .i64 (if (3 - k) = 3 then (Zae ((Zm o).k0) ((Zm o).k1) ((Zm o).k2) ((Zm o).k3) k) else 0)]]) (e := 101) (cells := [.int .i64 ((Zm o).lv), .int .i64 (if (3 - k) = 0 then (Zae ((Zm o).k0) ((Zm o).k1) ((Zm o).k2) ((Zm o).k3) k) else 0), .int .i64 (if (3 - k) = 1 then (Zae ((Zm o).k0) ((Zm o).k1) ((Zm o).k2) ((Zm o).k3) k) else 0), .int .i64 (if (3 - k) = 2 then (Zae ((Zm o).k0) ((Zm o).k1) ((Zm o).k2) ((Zm o).k3) k) else 0), .int .i64 (if (3 - k) = 3 then (Zae ((Zm o).k0) ((Zm o).k1) ((Zm o).k2) ((Zm o).k3) k) else 0)]) rfl rfl kr dc Zgw ?_)
 intro g5 w12 hg5 hB9 k10 hs9
 have hb12 := Zf hb11 k10
 have hz7 := hb12.size
 have hO9 := hO8.g0 k10
 have hS2 := Zbl (F := fun _ => False) ([⟨(Zm o).lv, (if (3 - k) = 0 then (Zae ((Zm o).k0) ((Zm o).k1) ((Zm o).k2) ((Zm o).k3) k) else 0), (if (3 - k) = 1 then (Zae ((Zm o).k0) ((Zm o).k1) ((Zm o).k2) ((Zm o).k3) k) else 0), (if (3 - k) = 2 then (Zae ((Zm o).k0) ((Zm o).k1) ((Zm o).k2) ((Zm o).k3) k) else 0), (if (3 - k) = 3 then (Zae ((Zm o).k0) ((Zm o).k1) ((Zm o).k2) ((Zm o).k3) k) else 0)⟩] : List Nd) hB9 (fun h => h) rfl (by first | decide | simp)
 refine st (Za4 (K := Kd.node) Zaw rfl rfl hO9 (Zbl (F := Out (fun _ => False) vj) ([⟨(Zm o).lv, (if (3 - k) = 0 then (Zae ((Zm o).k0) ((Zm o).k1) ((Zm o).k2) ((Zm o).k3) k) else 0), (if (3 - k) = 1 then (Zae ((Zm o).k0) ((Zm o).k1) ((Zm o).k2) ((Zm o).k3) k) else 0), (if (3 - k) = 2 then (Zae ((Zm o).k0) ((Zm o).k1) ((Zm o).k2) ((Zm o).k3) k) else 0), (if (3 - k) = 3 then (Zae ((Zm o).k0) ((Zm o).k1) ((Zm o).k2) ((Zm o).k3) k) else 0)⟩] : List Nd) hB9 (fun h => h.elim id (fun h => by have h9 := (hO8.lt _ h).2; omega)) rfl (by first | decide | simp)) Zb6 (by simp; omega) (by simp; omega) (by first | exact Nat.le_refl _ | omega) (fun _ h => h.elim) ?_)
 intro v2 w13 hO10 k11 hr2
 have hn4 := Zdk hnx hr2 (by have := ((((hBx.g0 k7).gne k8 om).gne k9 om).g0 k10).lt; omega)
 have hn5 := Zdk hno2 hr2 (by have := ((((hBo2.g0 k7).gne k8 om).gne k9 om).g0 k10).lt; omega)
 have hn6 := Zdk hn3 hr2 (by have := (hB8.g0 k10).lt; omega)
 have hb13 := hb12.grown k11 hb12.size (fun k_ hk_ => (hO9.lt k_ hk_).1)
 have hz8 := hb13.size
 refine st (Ze rfl (Zg (Zd (Zb (st (Zc rfl (st (Zc rfl (st (Zaq Zaw rfl hO10.sl ?_))))))))))
 refine st (Zn Zav rfl (st (Zbi Zb9 rfl rfl om om (st0 (Zda Za9 rfl rfl (((((hBx.g0 k7).gne k8 om).gne k9 om).g0 k10).grown k11 (fun e => hnx e.symm)) om om ?_)))))
 intro w14 hB10 k12 hs10
 have hb14 := belowa hb13 k12
 have hO11 := Own.keptN Zy hO10 k12 hn4
 refine Zg (Zab (Zd (Zb (st (Zah rfl rfl om (st (Zc rfl (Zg ?_))))))))
 exact Zac (((k + 1)), (ok ++ ([⟨(Zm o).lv, (if (3 - k) = 0 then (Zae ((Zm o).k0) ((Zm o).k1) ((Zm o).k2) ((Zm o).k3) k) else 0), (if (3 - k) = 1 then (Zae ((Zm o).k0) ((Zm o).k1) ((Zm o).k2) ((Zm o).k3) k) else 0), (if (3 - k) = 2 then (Zae ((Zm o).k0) ((Zm o).k1) ((Zm o).k2) ((Zm o).k3) k) else 0), (if (3 - k) = 3 then (Zae ((Zm o).k0) ((Zm o).k1) ((Zm o).k2) ((Zm o).k3) k) else 0)⟩] : List Nd)), (v2), ((if k = 0 then ((ok ++ ([⟨(Zm o).lv, (if (3 - k) = 0 then (Zae ((Zm o).k0) ((Zm o).k1) ((Zm o).k2) ((Zm o).k3) k) else 0), (if (3 - k) = 1 then (Zae ((Zm o).k0) ((Zm o).k1) ((Zm o).k2) ((Zm o).k3) k) else 0), (if (3 - k) = 2 then (Zae ((Zm o).k0) ((Zm o).k1) ((Zm o).k2) ((Zm o).k3) k) else 0), (if (3 - k) = 3 then (Zae ((Zm o).k0) ((Zm o).k1) ((Zm o).k2) ((Zm o).k3) k) else 0)⟩] : List Nd)).length : Int) else a)), ((if k = 1 then ((ok ++ ([⟨(Zm o).lv, (if (3 - k) = 0 then (Zae ((Zm o).k0) ((Zm o).k1) ((Zm o).k2) ((Zm o).k3) k) else 0), (if (3 - k) = 1 then (Zae ((Zm o).k0) ((Zm o).k1) ((Zm o).k2) ((Zm o).k3) k) else 0), (if (3 - k) = 2 then (Zae ((Zm o).k0) ((Zm o).k1) ((Zm o).k2) ((Zm o).k3) k) else 0), (if (3 - k) = 3 then (Zae ((Zm o).k0) ((Zm o).k1) ((Zm o).k2) ((Zm o).k3) k) else 0)⟩] : List Nd)).length : Int) else b)), ((if k = 2 then ((ok ++ ([⟨(Zm o).lv, (if (3 - k) = 0 then (Zae ((Zm o).k0) ((Zm o).k1) ((Zm o).k2) ((Zm o).k3) k) else 0), (if (3 - k) = 1 then (Zae ((Zm o).k0) ((Zm o).k1) ((Zm o).k2) ((Zm o).k3) k) else 0), (if (3 - k) = 2 then (Zae ((Zm o).k0) ((Zm o).k1) ((Zm o).k2) ((Zm o).k3) k) else 0), (if (3 - k) = 3 then (Zae ((Zm o).k0) ((Zm o).k1) ((Zm o).k2) ((Zm o).k3) k) else 0)⟩] : List Nd)).length : Int) else c)), ((if k = 3 then ((ok ++ ([⟨(Zm o).lv, (if (3 - k) = 0 then (Zae ((Zm o).k0) ((Zm o).k1) ((Zm o).k2) ((Zm o).k3) k) else 0), (if (3 - k) = 1 then (Zae ((Zm o).k0) ((Zm o).k1) ((Zm o).k2) ((Zm o).k3) k) else 0), (if (3 - k) = 2 then (Zae ((Zm o).k0) ((Zm o).k1) ((Zm o).k2) ((Zm o).k3) k) else 0), (if (3 - k) = 3 then (Zae ((Zm o).k0) ((Zm o).k1) ((Zm o).k2) ((Zm o).k3) k) else 0)⟩] : List Nd)).length : Int) else e))) ⟨hb14, by dsimp only; first | omega | (simp; omega), grS_put hk.1 hgs (by unfold Nd.kid; exact h5), by dsimp only; first | omega | (simp; omega), hB10, ((((((hBo2.g0 k7).gne k8 om).gne k9 om).g0 k10).grown k11 (fun e => hno2 e.symm)).gne k12 om), hO11, hn4, hn5⟩ om sb
end Go.Proofs.Ytfljelnfjbbknaa.Nd
namespace Go.Proofs.Ytfljelnfjbbknaa.Nd
open Go.RowKit Go.Gw
set_option maxHeartbeats 1000000 in
theorem rgrow_any {va : Value} {l : List Nd} {F : Nat → Prop} {w : World} (hl : Sl Kd.node w F va l) {level : Int} (hll : l.length ≤ 100000) (hlv : 0 ≤ (Zm l).lv ∧ (Zm l).lv ≤ 1329) (hle : level ≤ 1329) :
  Calls Try.prog 63 [.agg [va].toArray, .int .i64 level].toArray w (Zbh w fun v w' => ∃ sv, v = .tuple #[sv, .int .i64 ((Zbb l level).length : Int)] ∧ Gw.Own Kd.node 101 w.heap.size w' (fun _ => False) sv (Zbb l level)) := by
 have hb0 := Below.refl w.heap.size w
 have hln0 := hl.lenle
 refine enter Try.func63 rfl rfl (Zh (Zb (st (Zbs rfl ?_))))
 intro g1 w1 hg1 hB1 k1 hs1
 change Blk w1 g1 25 [va].toArray at hB1
 have hb1 := Zf hb0 k1
 refine st (Ze rfl (st (Ze rfl (Zg (Zd (Zh (Zb (st (Zhr (K := Kd.node) (base := w.heap.size) (F := (fun _ => False)) Zaw om (fun _ h => h.elim) ?_)))))))))
 intro v1 w2 hO1 k2
 have hb2 := Zf hb1 k2
 have hz1 := hb2.size
 refine st (Zn Zcb rfl (st (Zt Zb8 rfl (hB1.g0 k2).range (j := 0) rfl (st (Za4 (K := Kd.node) Zaw rfl rfl hO1 ((hl.at0 hb2).weak (fun k hk h => h.elim (fun h => by first | exact h.elim | exact h | exact Or.inl h) (fun h => by have h9 := (hO1.lt k h).1; first | exact Or.inr h9 | (simp [Loc]; omega)))) Zb6 (by simp; omega) (by simp; omega) (by first | exact Nat.le_refl _ | omega) (fun _ h => h.elim) ?_)))))
 intro v2 w3 hO2 k3 hr1
 rw [List.nil_append] at hO2
 have hb3 := hb2.grown k3 hb2.size (fun k_ hk_ => (hO1.lt k_ hk_).1)
 have hz2 := hb3.size
 refine st (Ze rfl (Zg (Zd (Zh (Zb (st (Zc rfl (st (Zaq Zaw rfl hO2.sl ?_)))))))))
 refine st (Ze rfl (Zg (Zd (Zh (Zh (Zb (st (Zc rfl ?_))))))))
 refine st (Zch rfl rfl (st (Zc rfl ?_)))
 refine Zax 20 rfl (fun h1 => ?_) (fun h1 => ?_)
 ·refine Zj rfl rfl (Zj rfl rfl (st (Zr rfl rfl (Zg (Zd (Zb0 rfl (Zh ?_)))))))
  refine Zb (st (Zc rfl (st (Zc rfl (st (Ze rfl (st (Ze rfl (Zg (Zd ?_))))))))))
  refine Zdl rfl rfl rfl ?_
  exfalso
  omega
 refine stg (Zc rfl (stg (Zbu rfl rfl (st (Zr rfl rfl (Zg (Zd ?_)))))))
 refine Zw rfl (fun h2 => ?_) (fun h2 => ?_)
 ·refine Zh (Zb (st (Zc rfl (st (Zc rfl (st (Ze rfl (st (Ze rfl (Zg ?_))))))))))
  refine Zd (Zdl rfl rfl rfl ?_)
  have hnil : l = [] := List.eq_nil_of_length_eq_zero om
  subst hnil
  exact ⟨_, rfl, hb3, _, rfl, hO2⟩
 refine Zo (Zd (Zh (Zz (Za2 (α := List Nd × Value) (fun ((o, vk) : List Nd × Value) => [(1, .int .i64 level), (4, .slice none 0 0), (5, .int .i64 0), (6, vk), (7, .int .i64 (o.length : Int))]) (fun ((o, vk) : List Nd × Value) W => Below w.heap.size w W ∧ (1 ≤ o.length ∧ (o.length : Int) ≤ l.length + 5 * (Zm o).lv ∧ 0 ≤ (Zm o).lv ∧ (Zm o).lv ≤ 1329) ∧ (Zfe (level - (Zm o).lv).toNat o = Zfe (level - (Zm l).lv).toNat l) ∧ (Gw.Own Kd.node 101 w.heap.size W (fun _ => False) vk (o))) (fun ((o, vk) : List Nd × Value) => (level - (Zm o).lv).toNat) ((l), (v2)) ⟨hb3, by omega, rfl, hO2⟩ sb ?_))))
 rintro ⟨o, vk⟩ w4 ⟨hb4, hoo, hgf, hOo⟩
 dsimp only at *
 have hz3 := hb4.size
 refine Zh (Zh (Zb (st (Zc rfl (st (Zc rfl (st (Za7 rfl rfl om (st (Zat Zaw rfl rfl hOo.sl om om ?_))))))))))
 rintro b1 o1 _ ⟨rfl, _⟩ hc1 hF1 hlt1
 refine st (Zn Zaz rfl (st (Zt Za9 rfl hc1 (j := 0) rfl (st (Zc rfl (st (Zbd rfl rfl (Zg (Zd ?_)))))))))
 refine Zw rfl (fun h3 => ?_) (fun h3 => ?_)
 rotate_left
 ·refine Zak (Zk (Zk (Zs (Zd (Zh (Zb ?_))))))
  refine st (Zc rfl (st (Zc rfl (st (Ze rfl (st (Ze rfl (Zg (Zd (Zdl rfl rfl rfl ?_))))))))))
  rw [grow_end (show ¬ (Zm o).lv < level from h3)] at hgf
  subst hgf
  have hgq : Zbb l level = Zfe (level - (Zm l).lv).toNat l := if_neg (by rintro rfl; simp at *)
  rw [hgq]
  exact ⟨_, rfl, hb4, _, rfl, hOo⟩
 have hlt : (Zm o).lv < level := h3
 have hlvx : 0 ≤ (ix o ((o.length : Int) - 1)).lv ∧ (ix o ((o.length : Int) - 1)).lv ≤ 1329 := ⟨hoo.2.2.1, hoo.2.2.2⟩
 refine Zo (Zd (Zz (Zh (Zb (st (Zc rfl (st (Zc rfl ?_))))))))
 refine st (Za7 rfl rfl om (st (Zat Zaw rfl rfl hOo.sl om om ?_)))
 rintro b2 o2 _ ⟨rfl, _⟩ hc2 hF2 hlt2
 refine st (Zn Zaz rfl (st (Zt Za9 rfl hc2 (j := 0) rfl (st (Zah rfl rfl om (st (Zbe (ps := [(0, .tmp 40)]) (ccs := [#[.int .i64 ((ix o ((o.length : Int) - 1)).lv + 1)]]) (cells := [.int .i64 ((ix o ((o.length : Int) - 1)).lv + 1), .int .i64 0, .int .i64 0, .int .i64 0, .int .i64 0]) rfl rfl kr (st (Zan Zcw ?_)))))))))
 intro g2 w5 hg2 hB2 k4 hs2
 have hz4 := hb4.size
 have hn1 := Zdj hOo hg2
 have hb5 := Zf hb4 k4
 have hO3 := hOo.g0 k4
 refine st0 (Zv Za1 rfl rfl hB2 rfl rfl rfl ?_)
 intro w6 hB3 k5 hs3
 have hb6 := belowa hb5 k5
 have hO4 := Own.keptN Zy hO3 k5 hn1
 clear hB2
 refine Zg (Zd (Zh (Zh (Zb (st (Ze rfl (Zg ?_)))))))
 refine Zd (Zz ?_)
 refine Za2 (α := Int × List Nd × Value × Int × Int × Int × Int) (fun ((k, ok, vj, a, b, c, e) : Int × List Nd × Value × Int × Int × Int × Int) => [(1, .int .i64 level), (4, .slice none 0 0), (5, .int .i64 0), (6, vj), (7, .int .i64 (o.length : Int)), (8, (pp g2)), (9, .int .i64 k)]) (fun ((k, ok, vj, a, b, c, e) : Int × List Nd × Value × Int × Int × Int × Int) W => Below w.heap.size w W ∧ (0 ≤ k ∧ k ≤ 4) ∧ ((ok, a, b, c, e) = grS (Zm o) o k.toNat) ∧ ((ok.length : Int) ≤ o.length + k) ∧ (o.length ≤ ok.length) ∧ ((ix ok ((o.length : Int) - 1)) = Zm o) ∧ (Blk W g2 101 [.int .i64 ((ix o ((o.length : Int) - 1)).lv + 1), .int .i64 a, .int .i64 b, .int .i64 c, .int .i64 e].toArray) ∧ (Gw.Own Kd.node 101 w.heap.size W (fun _ => False) vj (ok)) ∧ (vj.ownBlock ≠ some g2)) (fun ((k, ok, vj, a, b, c, e) : Int × List Nd × Value × Int × Int × Int × Int) => (4 - k).toNat) ((0), (o), (vk), (0), (0), (0), (0)) ⟨hb6, by omega, rfl, by omega, Nat.le_refl _, rfl, hB3, hO4, hn1⟩ sb ?_
 rintro ⟨k, ok, vj, a, b, c, e⟩ w7 ⟨hb7, hk, hgs, hokl, hokm, hpx, hBx, hOj, hnx⟩
 dsimp only at *
 have hz5 := hb7.size
 have hgxl2 := hBx.lt
 refine Zh (Zh (Zb (st (Zc rfl (st (Zbd rfl rfl (Zg (Zd ?_))))))))
 refine Zw rfl (fun h4 => ?_) (fun h4 => ?_)
 rotate_left
 ·refine Zak (Zk (Zk (Zs (Zd (Zh (Zb ?_))))))
  refine st (Zc rfl (st (Zp Za1 rfl hBx.range rfl (st (Zau (ps := [(0, .tmp 78)]) (ccs := [#[.int .i64 ((ix o ((o.length : Int) - 1)).lv + 1), .int .i64 a, .int .i64 b, .int .i64 c, .int .i64 e]]) (e := 101) (cells := [.int .i64 ((ix o ((o.length : Int) - 1)).lv + 1), .int .i64 a, .int .i64 b, .int .i64 c, .int .i64 e]) rfl rfl kr dc Zgw ?_)))))
  intro g5 w14 hg5 hB9 k12 hs9
  have hb14 := Zf hb7 k12
  have hz9 := hb14.size
  have hO11 := hOj.g0 k12
  have hS2 := Zbl (F := fun _ => False) ([⟨((ix o ((o.length : Int) - 1)).lv + 1), a, b, c, e⟩] : List Nd) hB9 (fun h => h) rfl (by first | decide | simp)
  refine st (Za4 (K := Kd.node) Zaw rfl rfl hO11 (Zbl (F := Out (fun _ => False) vj) ([⟨((ix o ((o.length : Int) - 1)).lv + 1), a, b, c, e⟩] : List Nd) hB9 (fun h => h.elim id (fun h => by have h9 := (hOj.lt _ h).2; omega)) rfl (by first | decide | simp)) Zb6 (by simp; omega) (by simp; omega) (by first | exact Nat.le_refl _ | omega) (fun _ h => h.elim) ?_)
  intro v4 w15 hO12 k13 hr7
  have hn5 := Zdk hnx hr7 (by have := (hBx.g0 k12).lt; omega)
  have hb15 := hb14.grown k13 hb14.size (fun k_ hk_ => (hO11.lt k_ hk_).1)
  have hz10 := hb15.size
  refine st (Ze rfl (Zg (Zd (Zb (st (Zc rfl (st (Zaq Zaw rfl hO12.sl (st (Ze rfl ?_))))))))))
  refine Zg (Zab ?_)
  have hgs4 : (ok, a, b, c, e) = grS (Zm o) o 4 := by rw [(by omega : k = 4)] at hgs; exact hgs
  have hgr := Zmp (level := level) hgs4 hlt
  have hll9 : ((ok ++ ([⟨((ix o ((o.length : Int) - 1)).lv + 1), a, b, c, e⟩] : List Nd)).length : Int) = ok.length + 1 := by simp
  have hla9 : Zm (ok ++ ([⟨((ix o ((o.length : Int) - 1)).lv + 1), a, b, c, e⟩] : List Nd)) = ⟨(Zm o).lv + 1, a, b, c, e⟩ := Zlu (o := ok) (x := ⟨(Zm o).lv + 1, a, b, c, e⟩)
  exact Zac ((ok ++ ([⟨((ix o ((o.length : Int) - 1)).lv + 1), a, b, c, e⟩] : List Nd)), (v4)) ⟨hb15, by dsimp only; rw [hla9]; simp only; omega, by dsimp only; rw [← hgf, ← hgr]; rfl, hO12⟩ (by dsimp only; rw [hla9]; simp only; omega) sb
 refine Zo (Zd (Zh (Zz (Zh (Zb (st (Zc rfl ?_)))))))
 refine st (Zc rfl (st (Za7 rfl rfl om (st (Zc rfl (st (Zat Zaw rfl rfl hOj.sl om om ?_)))))))
 rintro b3 o3 _ ⟨rfl, _⟩ hc3 hF3 hlt3
 refine st (Zn Zav rfl (st (Zbi Zb9 rfl rfl om om (st (Zc3 Za9 rfl hc3 (j := 1) rfl rfl om om (st (Ze rfl (Zg (Zd (Zh ?_))))))))))
 refine Zh (Zb (st (Zc rfl (st (Zbu rfl rfl (Zg (Zd ?_)))))))
 refine Zw rfl (fun h5 => ?_) (fun h5 => ?_)
 ·refine Zak (Zk (Zs (Zd (Zb (st (Zc rfl (st (Zah rfl rfl om ?_))))))))
  refine st (Ze rfl (Zg ?_))
  exact Zac (((k + 1)), (ok), (vj), (a), (b), (c), (e)) ⟨hb7, by dsimp only; first | omega | (simp; omega), rgs_step hpx hk.1 hgs h5, by dsimp only; first | omega | (simp; omega), by dsimp only; first | omega | (simp; omega), hpx, hBx, hOj, hnx⟩ om sb
 refine Zo (Zd (Zh (Zb (st (Zc rfl (st (Zc rfl (st (Za7 rfl rfl om ?_)))))))))
 refine st (Zat Zaw rfl rfl hOj.sl om om ?_)
 rintro b4 o4 _ ⟨rfl, _⟩ hc4 hF4 hlt4
 refine st (Zn Zaz rfl (st (Zt Za9 rfl hc4 (j := 0) rfl (st (Zbe (ps := [(0, .tmp 61)]) (ccs := [#[.int .i64 ((ix ok ((o.length : Int) - 1)).lv)]]) (cells := [.int .i64 ((ix ok ((o.length : Int) - 1)).lv), .int .i64 0, .int .i64 0, .int .i64 0, .int .i64 0]) rfl rfl kr (st (Zan Zcw ?_)))))))
 intro g3 w8 hg3 hB4 k6 hs4
 have hz6 := hb7.size
 have hn2 := Zdj hOj hg3
 have hb8 := Zf hb7 k6
 have hO5 := hOj.g0 k6
 refine st0 (Zv Za1 rfl rfl hB4 rfl rfl rfl ?_)
 intro w9 hB5 k7 hs5
 have hb9 := belowa hb8 k7
 have hO6 := Own.keptN Zy hO5 k7 hn2
 clear hB4
 refine Zg (Zd (Zh (Zb (st (Zc rfl (st (Za7 rfl rfl om (st (Zc rfl ?_)))))))))
 refine st (Zn Zav rfl (st (Zbi Zb9 rfl rfl om om (st0 (Zda Za9 rfl rfl hB5 om om ?_)))))
 intro w10 hB6 k8 hs6
 have hb10 := belowa hb9 k8
 have hO7 := Own.keptN Zy hO6 k8 hn2
 clear hB5
 refine Zg (Zd (Zh (Zb (st (Zc rfl (st (Zp Za1 rfl hB6.range rfl ?_)))))))
 refine st (Zau (ps := [(0, .tmp 69)]) (ccs := [#[.int .i64 ((ix ok ((o.length : Int) - 1)).lv), .int .i64 (if (3 - k) = 0 then (Zae ((ix ok ((o.length : Int) - 1)).k0) ((ix ok ((o.length : Int) - 1)).k1) ((ix ok ((o.length : Int) - 1)).k2) ((ix ok ((o.length : Int) - 1)).k3) k) else 0), .int .i64 (if (3 - k) = 1 then (Zae ((ix ok ((o.length : Int) - 1)).k0) ((ix ok ((o.length : Int) - 1)).k1) ((ix ok ((o.length : Int) - 1)).k2) ((ix ok ((o.length : Int) - 1)).k3) k) else 0), .int .i64 (if (3 - k) = 2 then (Zae ((ix ok ((o.length : Int) - 1)).k0) ((ix ok ((o.length : Int) - 1)).k1) ((ix ok ((o.length : Int) - 1)).k2) ((ix ok ((o.length : Int) - 1)).k3) k) else 0), .int .i64 (if (3 - k) = 3 then (Zae ((ix ok ((o.length : Int) - 1)).k0) ((ix ok ((o.length : Int) - 1)).k1) ((ix ok ((o.length : Int) - 1)).k2) ((ix ok ((o.length : Int) - 1)).k3) k) else 0)]]) (e := 101) (cells := [.int .i64 ((ix ok ((o.length : Int) - 1)).lv), .int .i64 (if (3 - k) = 0 then (Zae ((ix ok ((o.length : Int) - 1)).k0) ((ix ok ((o.length : Int) - 1)).k1) ((ix ok ((o.length : Int) - 1)).k2) ((ix ok ((o.length : Int) - 1)).k3) k) else 0), .int .i64 (if (3 - k) = 1 then (Zae ((ix ok ((o.length : Int) - 1)).k0) ((ix ok ((o.length : Int) - 1)).k1) ((ix ok ((o.length : Int) - 1)).k2) ((ix ok ((o.length : Int) - 1)).k3) k) else 0), .int .i64 (if (3 - k) = 2 then (Zae ((ix ok ((o.length : Int) - 1)).k0) ((ix ok ((o.length : Int) - 1)).k1) ((ix ok ((o.length : Int) - 1)).k2) ((ix ok ((o.length : Int) - 1)).k3) k) else 0), .int .i64 (if (3 - k) = 3 then (Zae ((ix ok ((o.length : Int) - 1)).k0) ((ix ok ((o.length : Int) - 1)).k1) ((ix ok ((o.length : Int) - 1)).k2) ((ix ok ((o.length : Int) - 1)).k3) k) else 0)]) rfl rfl kr dc Zgw ?_)
 intro g4 w11 hg4 hB7 k9 hs7
 have hb11 := Zf hb10 k9
 have hz7 := hb11.size
 have hO8 := hO7.g0 k9
 have hS1 := Zbl (F := fun _ => False) ([⟨(ix ok ((o.length : Int) - 1)).lv, (if (3 - k) = 0 then (Zae ((ix ok ((o.length : Int) - 1)).k0) ((ix ok ((o.length : Int) - 1)).k1) ((ix ok ((o.length : Int) - 1)).k2) ((ix ok ((o.length : Int) - 1)).k3) k) else 0), (if (3 - k) = 1 then (Zae ((ix ok ((o.length : Int) - 1)).k0) ((ix ok ((o.length : Int) - 1)).k1) ((ix ok ((o.length : Int) - 1)).k2) ((ix ok ((o.length : Int) - 1)).k3) k) else 0), (if (3 - k) = 2 then (Zae ((ix ok ((o.length : Int) - 1)).k0) ((ix ok ((o.length : Int) - 1)).k1) ((ix ok ((o.length : Int) - 1)).k2) ((ix ok ((o.length : Int) - 1)).k3) k) else 0), (if (3 - k) = 3 then (Zae ((ix ok ((o.length : Int) - 1)).k0) ((ix ok ((o.length : Int) - 1)).k1) ((ix ok ((o.length : Int) - 1)).k2) ((ix ok ((o.length : Int) - 1)).k3) k) else 0)⟩] : List Nd) hB7 (fun h => h) rfl (by first | decide | simp)
 refine st (Za4 (K := Kd.node) Zaw rfl rfl hO8 (Zbl (F := Out (fun _ => False) vj) ([⟨(ix ok ((o.length : Int) - 1)).lv, (if (3 - k) = 0 then (Zae ((ix ok ((o.length : Int) - 1)).k0) ((ix ok ((o.length : Int) - 1)).k1) ((ix ok ((o.length : Int) - 1)).k2) ((ix ok ((o.length : Int) - 1)).k3) k) else 0), (if (3 - k) = 1 then (Zae ((ix ok ((o.length : Int) - 1)).k0) ((ix ok ((o.length : Int) - 1)).k1) ((ix ok ((o.length : Int) - 1)).k2) ((ix ok ((o.length : Int) - 1)).k3) k) else 0), (if (3 - k) = 2 then (Zae ((ix ok ((o.length : Int) - 1)).k0) ((ix ok ((o.length : Int) - 1)).k1) ((ix ok ((o.length : Int) - 1)).k2) ((ix ok ((o.length : Int) - 1)).k3) k) else 0), (if (3 - k) = 3 then (Zae ((ix ok ((o.length : Int) - 1)).k0) ((ix ok ((o.length : Int) - 1)).k1) ((ix ok ((o.length : Int) - 1)).k2) ((ix ok ((o.length : Int) - 1)).k3) k) else 0)⟩] : List Nd) hB7 (fun h => h.elim id (fun h => by have h9 := (hO7.lt _ h).2; omega)) rfl (by first | decide | simp)) Zb6 (by simp; omega) (by simp; omega) (by first | exact Nat.le_refl _ | omega) (fun _ h => h.elim) ?_)
 intro v3 w12 hO9 k10 hr6
 have hn3 := Zdk hnx hr6 (by have := ((((hBx.g0 k6).gne k7 om).gne k8 om).g0 k9).lt; omega)
 have hn4 := Zdk hn2 hr6 (by have := (hB6.g0 k9).lt; omega)
 have hb12 := hb11.grown k10 hb11.size (fun k_ hk_ => (hO8.lt k_ hk_).1)
 have hz8 := hb12.size
 refine st (Ze rfl (Zg (Zd (Zb (st (Zc rfl (st (Zc rfl (st (Zaq Zaw rfl hO9.sl ?_))))))))))
 refine st (Zn Zav rfl (st (Zbi Zb9 rfl rfl om om (st0 (Zda Za9 rfl rfl (((((hBx.g0 k6).gne k7 om).gne k8 om).g0 k9).grown k10 (fun e => hnx e.symm)) om om ?_)))))
 intro w13 hB8 k11 hs8
 have hb13 := belowa hb12 k11
 have hO10 := Own.keptN Zy hO9 k11 hn3
 refine Zg (Zab (Zd (Zb (st (Zc rfl (st (Zah rfl rfl om (st (Ze rfl ?_)))))))))
 refine Zg ?_
 exact Zac (((k + 1)), (ok ++ ([⟨(ix ok ((o.length : Int) - 1)).lv, (if (3 - k) = 0 then (Zae ((ix ok ((o.length : Int) - 1)).k0) ((ix ok ((o.length : Int) - 1)).k1) ((ix ok ((o.length : Int) - 1)).k2) ((ix ok ((o.length : Int) - 1)).k3) k) else 0), (if (3 - k) = 1 then (Zae ((ix ok ((o.length : Int) - 1)).k0) ((ix ok ((o.length : Int) - 1)).k1) ((ix ok ((o.length : Int) - 1)).k2) ((ix ok ((o.length : Int) - 1)).k3) k) else 0), (if (3 - k) = 2 then (Zae ((ix ok ((o.length : Int) - 1)).k0) ((ix ok ((o.length : Int) - 1)).k1) ((ix ok ((o.length : Int) - 1)).k2) ((ix ok ((o.length : Int) - 1)).k3) k) else 0), (if (3 - k) = 3 then (Zae ((ix ok ((o.length : Int) - 1)).k0) ((ix ok ((o.length : Int) - 1)).k1) ((ix ok ((o.length : Int) - 1)).k2) ((ix ok ((o.length : Int) - 1)).k3) k) else 0)⟩] : List Nd)), (v3), ((if k = 0 then ((ok ++ ([⟨(ix ok ((o.length : Int) - 1)).lv, (if (3 - k) = 0 then (Zae ((ix ok ((o.length : Int) - 1)).k0) ((ix ok ((o.length : Int) - 1)).k1) ((ix ok ((o.length : Int) - 1)).k2) ((ix ok ((o.length : Int) - 1)).k3) k) else 0), (if (3 - k) = 1 then (Zae ((ix ok ((o.length : Int) - 1)).k0) ((ix ok ((o.length : Int) - 1)).k1) ((ix ok ((o.length : Int) - 1)).k2) ((ix ok ((o.length : Int) - 1)).k3) k) else 0), (if (3 - k) = 2 then (Zae ((ix ok ((o.length : Int) - 1)).k0) ((ix ok ((o.length : Int) - 1)).k1) ((ix ok ((o.length : Int) - 1)).k2) ((ix ok ((o.length : Int) - 1)).k3) k) else 0), (if (3 - k) = 3 then (Zae ((ix ok ((o.length : Int) - 1)).k0) ((ix ok ((o.length : Int) - 1)).k1) ((ix ok ((o.length : Int) - 1)).k2) ((ix ok ((o.length : Int) - 1)).k3) k) else 0)⟩] : List Nd)).length : Int) else a)), ((if k = 1 then ((ok ++ ([⟨(ix ok ((o.length : Int) - 1)).lv, (if (3 - k) = 0 then (Zae ((ix ok ((o.length : Int) - 1)).k0) ((ix ok ((o.length : Int) - 1)).k1) ((ix ok ((o.length : Int) - 1)).k2) ((ix ok ((o.length : Int) - 1)).k3) k) else 0), (if (3 - k) = 1 then (Zae ((ix ok ((o.length : Int) - 1)).k0) ((ix ok ((o.length : Int) - 1)).k1) ((ix ok ((o.length : Int) - 1)).k2) ((ix ok ((o.length : Int) - 1)).k3) k) else 0), (if (3 - k) = 2 then (Zae ((ix ok ((o.length : Int) - 1)).k0) ((ix ok ((o.length : Int) - 1)).k1) ((ix ok ((o.length : Int) - 1)).k2) ((ix ok ((o.length : Int) - 1)).k3) k) else 0), (if (3 - k) = 3 then (Zae ((ix ok ((o.length : Int) - 1)).k0) ((ix ok ((o.length : Int) - 1)).k1) ((ix ok ((o.length : Int) - 1)).k2) ((ix ok ((o.length : Int) - 1)).k3) k) else 0)⟩] : List Nd)).length : Int) else b)), ((if k = 2 then ((ok ++ ([⟨(ix ok ((o.length : Int) - 1)).lv, (if (3 - k) = 0 then (Zae ((ix ok ((o.length : Int) - 1)).k0) ((ix ok ((o.length : Int) - 1)).k1) ((ix ok ((o.length : Int) - 1)).k2) ((ix ok ((o.length : Int) - 1)).k3) k) else 0), (if (3 - k) = 1 then (Zae ((ix ok ((o.length : Int) - 1)).k0) ((ix ok ((o.length : Int) - 1)).k1) ((ix ok ((o.length : Int) - 1)).k2) ((ix ok ((o.length : Int) - 1)).k3) k) else 0), (if (3 - k) = 2 then (Zae ((ix ok ((o.length : Int) - 1)).k0) ((ix ok ((o.length : Int) - 1)).k1) ((ix ok ((o.length : Int) - 1)).k2) ((ix ok ((o.length : Int) - 1)).k3) k) else 0), (if (3 - k) = 3 then (Zae ((ix ok ((o.length : Int) - 1)).k0) ((ix ok ((o.length : Int) - 1)).k1) ((ix ok ((o.length : Int) - 1)).k2) ((ix ok ((o.length : Int) - 1)).k3) k) else 0)⟩] : List Nd)).length : Int) else c)), ((if k = 3 then ((ok ++ ([⟨(ix ok ((o.length : Int) - 1)).lv, (if (3 - k) = 0 then (Zae ((ix ok ((o.length : Int) - 1)).k0) ((ix ok ((o.length : Int) - 1)).k1) ((ix ok ((o.length : Int) - 1)).k2) ((ix ok ((o.length : Int) - 1)).k3) k) else 0), (if (3 - k) = 1 then (Zae ((ix ok ((o.length : Int) - 1)).k0) ((ix ok ((o.length : Int) - 1)).k1) ((ix ok ((o.length : Int) - 1)).k2) ((ix ok ((o.length : Int) - 1)).k3) k) else 0), (if (3 - k) = 2 then (Zae ((ix ok ((o.length : Int) - 1)).k0) ((ix ok ((o.length : Int) - 1)).k1) ((ix ok ((o.length : Int) - 1)).k2) ((ix ok ((o.length : Int) - 1)).k3) k) else 0), (if (3 - k) = 3 then (Zae ((ix ok ((o.length : Int) - 1)).k0) ((ix ok ((o.length : Int) - 1)).k1) ((ix ok ((o.length : Int) - 1)).k2) ((ix ok ((o.length : Int) - 1)).k3) k) else 0)⟩] : List Nd)).length : Int) else e))) ⟨hb13, by dsimp only; first | omega | (simp; omega), rgs_put hpx hk.1 hgs h5, by dsimp only; first | omega | (simp; omega), by dsimp only; first | omega | (simp; omega), rgs_px hpx om om, hB8, hO10, hn3⟩ om sb
end Go.Proofs.Ytfljelnfjbbknaa.Nd
namespace Go.Proofs.Ytfljelnfjbbknaa.Lm
open Go.RowKit Go.Gw
set_option maxHeartbeats 1000000 in
theorem set_any {w : World} {x y s : Int} {n0 : Nat} (hn0 : n0 ≤ w.heap.size) {va : Value} {l : List Nd} {F : Nat → Prop} (hl : Sl Kd.node w F va l) (hcan : Gw.Can l) (hll : l.length ≤ 90000) {px py : Value} (hpx : Sl Kd.u32 w (G 83 n0 w) px (ml x)) (hpy : Sl Kd.u32 w (G 83 n0 w) py (ml y)) (hbx : Bd 50 x) (hby : Bd 50 y) (hs : 0 ≤ s ∧ s ≤ 255)  :
  Calls Try.prog 28 [.agg [va].toArray, .agg [.bool (decide (x < 0)), px].toArray, .agg [.bool (decide (y < 0)), py].toArray, .int .u8 s].toArray w (Zbh w fun r W => ∃ sv, r = .tuple #[.agg #[sv], .int .i64 (Zc6 l x y s).2] ∧ Sl Kd.node W (fun _ => False) sv (Zc6 l x y s).1) := by
 have hb0 := Below.refl w.heap.size w
 have hlr := Zfo hcan
 have hlast := last_rng hcan
 refine enter Try.func28 rfl rfl (Zh (Zb (st (Zbs rfl ?_))))
 intro g1 w1 hg1 hB1 k1 hs1
 change Blk w1 g1 25 [va].toArray at hB1
 have hb1 := Zf hb0 k1
 refine st (Zbs rfl ?_)
 intro g2 w2 hg2 hB2 k2 hs2
 change Blk w2 g2 31 [.bool (decide (x < 0)), px].toArray at hB2
 have hb2 := Zf hb1 k2
 refine st (Zbs rfl ?_)
 intro g3 w3 hg3 hB3 k3 hs3
 change Blk w3 g3 31 [.bool (decide (y < 0)), py].toArray at hB3
 have hb3 := Zf hb2 k3
 have hlt_1 := (((hB1.g0 k2).g0 k3)).lt
 have hlt_2 := ((hB2.g0 k3)).lt
 have hlt_3 := (hB3).lt
 refine st (Zan Zez ?_)
 intro g4 w4 hg4 hB4 k4 hs4
 have hz1 := hb3.size
 have hb4 := Zf hb3 k4
 refine st (Ze rfl (Zg (Zd (Zh (Zh (Zb (st (Zc rfl ?_))))))))
 refine st (Zp Za6 rfl (((hB1.g0 k2).g0 k3).g0 k4).range rfl (st (Zp Zx rfl ((hB2.g0 k3).g0 k4).range rfl (st (Zp Zx rfl (hB3.g0 k4).range rfl (st (Zq fn30 rfl (Zkd (x := x) (y := y) (n0 := n0) (Zu hn0 hb4) (hl.at0 hb4) hcan om ((((hpx.gg0 k1).gg0 k2).gg0 k3).gg0 k4) ((((hpy.gg0 k1).gg0 k2).gg0 k3).gg0 k4) (Bd.le hbx (show 50 ≤ 50 by decide)) (Bd.le hby (show 50 ≤ 50 by decide))) ?_)))))))
 rintro _ w5 ⟨hq1, rfl⟩
 have k5 := Zi hq1 none
 have hz2 := hq1.size
 have hb5 := Zf hb4 k5
 have hz3 := hb5.size
 have hcr1 := celQ_rng hcan x y
 refine st (Zbu rfl rfl (Zg (Zd ?_)))
 refine Zw rfl (fun h1 => ?_) (fun h1 => ?_)
 ·have hsc := h1
  refine Zh (Zb (st (Zp Za6 rfl ((((hB1.g0 k2).g0 k3).g0 k4).g0 k5).range rfl (st0 (Zv Za6 rfl rfl (hB4.g0 k5) (by simp only [List.all_cons, List.all_nil, hl.one, Bool.and_true, Bool.and_self] <;> rfl) rfl rfl ?_)))))
  intro w6 hB5 k6 hs5
  have hb6 := belowa hb5 k6
  refine st (Ze rfl (Zg (Zd (Zcg rfl Za6 rfl rfl hB5.range rfl ?_))))
  rw [set_same hcan hs hsc]
  exact ⟨_, rfl, hb6, _, rfl, ((hl.at0 hb6)).none⟩
 have hsc := h1
 refine Zo (Zd (Zh (Zb (st (Zp Za6 rfl ((((hB1.g0 k2).g0 k3).g0 k4).g0 k5).range rfl (st (Zq fn43 rfl (Nd.level_any (hl.at0 hb5)) ?_)))))))
 rintro _ w7 ⟨hq2, rfl⟩
 have k7 := Zi hq2 none
 have hz4 := hq2.size
 have hb7 := Zf hb5 k7
 have hz5 := hb7.size
 refine st (s_max rfl rfl (st (Ze rfl (Zg (Zd (Zh (Zb (st (Zc rfl ?_)))))))))
 refine st (Zp Zx rfl ((((hB2.g0 k3).g0 k4).g0 k5).g0 k7).range rfl (st (Zp Zx rfl (((hB3.g0 k4).g0 k5).g0 k7).range rfl (st (Zq fn58 rfl (spot_any (x := x) (y := y) (n0 := n0) (Zu hn0 hb7) ((((((hpx.gg0 k1).gg0 k2).gg0 k3).gg0 k4).gg0 k5).gg0 k7) ((((((hpy.gg0 k1).gg0 k2).gg0 k3).gg0 k4).gg0 k5).gg0 k7) (Bd.le hbx (show 50 ≤ 50 by decide)) (Bd.le hby (show 50 ≤ 50 by decide)) om) ?_)))))
 rintro _ w8 ⟨hq3, v1, v2, rfl, hS1, hS2⟩
 have k8 := Zi hq3 none
 have hz6 := hq3.size
 have hb8 := Zf hb7 k8
 have hz7 := hb8.size
 refine st (Zc rfl (st (Zad rfl rfl (st (Zad rfl rfl ?_)))))
 have hlt_4 := (((((((hB1.g0 k2).g0 k3).g0 k4).g0 k5).g0 k7).g0 k8)).lt
 have hlt_5 := ((((((hB2.g0 k3).g0 k4).g0 k5).g0 k7).g0 k8)).lt
 have hlt_6 := (((((hB3.g0 k4).g0 k5).g0 k7).g0 k8)).lt
 have hlt_7 := ((((hB4.g0 k5).g0 k7).g0 k8)).lt
 refine st (Zan zero89 ?_)
 intro g5 w9 hg5 hB6 k9 hs6
 have hz8 := hb8.size
 have hb9 := Zf hb8 k9
 refine st0 (Zv Zg0 rfl rfl hB6 (by simp only [List.all_cons, List.all_nil, hS1.one, hS2.one, Bool.and_true, Bool.and_self] <;> rfl) rfl rfl ?_)
 intro w10 hB7 k10 hs7
 have hb10 := belowa hb9 k10
 refine st (Ze rfl (Zg (Zd (Zh (Zz ?_)))))
 refine Za2 (α := Int × Value × Value) (fun ((u, pa, pb) : Int × Value × Value) => [(3, .int .u8 s), (4, (pp g1)), (5, (pp g2)), (6, (pp g3)), (8, (pp g4)), (9, .int .i64 0), (10, .int .i64 u), (11, (pp g5)), (12, .bool (inC ⟨x, y, 0⟩ u))]) (fun ((u, pa, pb) : Int × Value × Value) W => Below w.heap.size w W ∧ (max (Zag l) 1 ≤ u ∧ u ≤ 1329) ∧ (∀ j : Int, max (Zag l) 1 ≤ j → j < u → inC ⟨x, y, 0⟩ j = false) ∧ (Blk W g1 25 [va].toArray) ∧ (Blk W g2 31 [.bool (decide (x < 0)), px].toArray) ∧ (Blk W g3 31 [.bool (decide (y < 0)), py].toArray) ∧ (Blk W g4 25 [.slice none 0 0].toArray) ∧ (Blk W g5 89 [pa, pb].toArray) ∧ (Sl Kd.u32 W (G 83 n0 W) px (ml x)) ∧ (Sl Kd.u32 W (G 83 n0 W) py (ml y)) ∧ (Sl Kd.u32 W (G 83 n0 W) pa (ml (x + hf u))) ∧ (Sl Kd.u32 W (G 83 n0 W) pb (ml (y + hf u)))) (fun ((u, pa, pb) : Int × Value × Value) => (1329 - u).toNat) (((max (Zag l) 1)), (v1), (v2)) ⟨hb10, by omega, fun j _ _ => by omega, ((((((((hB1.g0 k2).g0 k3).g0 k4).g0 k5).g0 k7).g0 k8).g0 k9).gne k10 om), (((((((hB2.g0 k3).g0 k4).g0 k5).g0 k7).g0 k8).g0 k9).gne k10 om), ((((((hB3.g0 k4).g0 k5).g0 k7).g0 k8).g0 k9).gne k10 om), (((((hB4.g0 k5).g0 k7).g0 k8).g0 k9).gne k10 om), hB7, (((((((((hpx.gg0 k1).gg0 k2).gg0 k3).gg0 k4).gg0 k5).gg0 k7).gg0 k8).gg0 k9).ggB k10 hB6 dc om), (((((((((hpy.gg0 k1).gg0 k2).gg0 k3).gg0 k4).gg0 k5).gg0 k7).gg0 k8).gg0 k9).ggB k10 hB6 dc om), ((hS1.gg0 k9).ggB k10 hB6 dc om), ((hS2.gg0 k9).ggB k10 hB6 dc om)⟩ sb ?_
 rintro ⟨u, pa, pb⟩ w11 ⟨hb11, hu, hno, hbl0, hbl1, hbl2, hbl3, hbl4, hsl1_1, hsl2_1, hsl4_0, hsl4_1⟩
 dsimp only at *
 have hz9 := hb11.size
 have hbl0l := hbl0.lt
 have hbl1l := hbl1.lt
 have hbl2l := hbl2.lt
 have hbl3l := hbl3.lt
 have hbl4l := hbl4.lt
 refine Zh (Zh (Zb (st (Zc rfl (st (Zdd rfl (st (Zc rfl ?_))))))))
 refine Zd7 36 rfl (fun h2 => ?_) (fun h2 => ?_)
 ·have hin : inC ⟨x, y, 0⟩ u = false := by simpa using h2
  refine stg (Zc rfl (stg (Zbd rfl rfl (st (Zr rfl rfl (Zg (Zd ?_)))))))
  refine Zw rfl (fun h3 => ?_) (fun h3 => ?_)
  rotate_left
  ·refine Zak (Zk (Zk (Zs (Zd (Zh (Zh ?_))))))
   refine Zb (st (Zc rfl (st (Zdd rfl (Zg (Zd ?_))))))
   refine Zba rfl (fun h4 => ?_) (fun h4 => absurd (h2.symm.trans h4) dc)
   have hin : inC ⟨x, y, 0⟩ u = false := by simpa using h4
   refine Zh (Zb (st (Zbe (ps := []) (ccs := []) (cells := [.slice none 0 0]) rfl rfl kr (st0 (Zv Za6 rfl rfl hbl3 rfl rfl rfl ?_)))))
   intro w14 hB9 k13 hs9
   have hb14 := belowa hb11 k13
   refine st (Ze rfl (Zg (Zd (Zcg rfl Za6 rfl rfl hB9.range rfl ?_))))
   have hu9 : u = 1329 := by omega
   subst hu9
   rw [set_out hcan (lvUp_out hcan hno hin) hsc]
   exact ⟨_, rfl, hb14, _, rfl, Sl.nil0⟩
  refine Zo (Zd (Zz (Zh (Zb (st (Zc rfl (st (Zah rfl rfl om ?_))))))))
  refine st (Ze rfl (Zg (Zd (Zb (st (Zc rfl (st (Zp Zx rfl hbl1.range rfl (st (Zp Zx rfl hbl2.range rfl ?_))))))))))
  refine st (Zq fn58 rfl (spot_any (x := x) (y := y) (n0 := n0) (Zu hn0 hb11) hsl1_1 hsl2_1 (Bd.le hbx (show 50 ≤ 50 by decide)) (Bd.le hby (show 50 ≤ 50 by decide)) om) ?_)
  rintro _ w12 ⟨hq4, v3, v4, rfl, hS3, hS4⟩
  have k11 := Zi hq4 none
  have hz10 := hq4.size
  have hb12 := Zf hb11 k11
  have hz11 := hb12.size
  refine st (Zc rfl (st (Zad rfl rfl (st (Zad rfl rfl (st0 (Zv Zg0 rfl rfl (hbl4.g0 k11) (by simp only [List.all_cons, List.all_nil, hS3.one, hS4.one, Bool.and_true, Bool.and_self] <;> rfl) rfl rfl ?_)))))))
  intro w13 hB8 k12 hs8
  have hb13 := belowa hb12 k12
  refine st (Ze rfl (Zg (Zab ?_)))
  exact Zac (((u + 1)), (v3), (v4)) ⟨hb13, by omega, fun j j0 j1 => if e : j = u then by rw [e]; exact hin else hno j j0 om, ((hbl0.g0 k11).gne k12 om), ((hbl1.g0 k11).gne k12 om), ((hbl2.g0 k11).gne k12 om), ((hbl3.g0 k11).gne k12 om), hB8, ((hsl1_1.gg0 k11).ggB k12 (hbl4.g0 k11) dc om), ((hsl2_1.gg0 k11).ggB k12 (hbl4.g0 k11) dc om), (hS3.ggB k12 (hbl4.g0 k11) dc om), (hS4.ggB k12 (hbl4.g0 k11) dc om)⟩ om sb
 have hin : inC ⟨x, y, 0⟩ u = true := by simpa using h2
 refine Zj rfl rfl (Zj rfl rfl (st (Zr rfl rfl (Zg (Zd (Zbv rfl (Zak ?_)))))))
 refine Zk (Zk (Zs (Zd (Zh (Zh (Zb ?_))))))
 refine st (Zc rfl (st (Zdd rfl (Zg (Zd (Zba rfl (fun h5 => absurd (h2.symm.trans h5) dc) (fun h5 => ?_)))))))
 have hin : inC ⟨x, y, 0⟩ u = true := by simpa using h5
 refine Zo (Zd (Zh (Zb (st (Zp Za6 rfl hbl0.range rfl (st (Zc rfl (st (Zq fn59 rfl (Nd.growO_any (level := u) (hl.at0 hb11) om hlast om) ?_)))))))))
 rintro _ w15 ⟨hq5, v5, rfl, hO1⟩
 have k14 := Zi hq5 none
 have hz12 := hq5.size
 have hb15 := Zf hb11 k14
 have hz13 := hb15.size
 have hO2 := hO1.rebase (b' := w.heap.size) hb11.size
 obtain ⟨hgo, hgn, _, hgl⟩ := Zly hcan (v := u) om om om
 refine st (Zc rfl (st (Zad rfl rfl (st (Zad rfl rfl (st (Ze rfl (st (Ze rfl (Zg (Zd ?_)))))))))))
 refine Zh (Zb (st (Zc rfl (st (Zp Zg0 rfl (hbl4.g0 k14).range rfl (st (Zc rfl (st (Zbe (ps := [(0, .tmp 58), (1, .tmp 59), (2, .tmp 60)]) (ccs := [#[v5], #[pa, pb], #[.int .u8 s]]) (cells := [v5, pa, pb, .int .u8 s]) rfl (by simp only [List.map_cons, List.map_nil]; change [(v5 : Value).cells, (Value.agg #[pa, pb]).cells, (.int .u8 s : Value).cells] = _; simp only [hO2.cells1] <;> rfl) kr (st (Zbs rfl ?_)))))))))))
 intro g6 w16 hg6 hB10 k15 hs10
 change Blk w16 g6 95 [v5, pa, pb, .int .u8 s].toArray at hB10
 have hb16 := Zf hb15 k15
 have hO3 := hO2.g0 k15
 refine st (Ze rfl (Zg (Zd (Zh (Zb (st (Zc rfl (st (Zc rfl ?_)))))))))
 refine st (Zc rfl (st (Zq fn60 rfl (paint_any (a0 := w) (n0 := n0) om (gp := g6) om (A := (x + hf u)) (B := (y + hf u)) (s := s) (spot_pos hin).1 (spot_pos hin).2 hs u.toNat (n := ((Zbb l u).length : Int)) (lv := u) om om hgo hgn om hb16 hO3 hB10 ((hsl4_0.gg0 k14).gg0 k15) ((hsl4_1.gg0 k14).gg0 k15)) ?_)))
 rintro _ w17 ⟨rfl, vo1, hb17, hO4, hB11, hS5, hS6, hF1⟩
 have hB12 := Blk.frm ((hbl3.g0 k14).g0 k15) hF1 (Zgr ((hbl3.g0 k14).g0 k15) hB10 dc) (hO3.neB ((hbl3.g0 k14).g0 k15) dc)
 have hz14 := hb17.size
 have hpl_ := Zjr u.toNat (Zbb l u) ((Zbb l u).length : Int) ((x + hf u) % (2 * hf u)) ((y + hf u) % (2 * hf u)) s
 refine st (Ze rfl (Zg (Zd (Zh (Zb (st (Zc rfl (st (Zed rfl ?_)))))))))
 refine st (Zn Zg7 rfl (st (Zt Zb8 rfl hB11.range (j := 0) rfl (st (Zc rfl (st (Zq fn61 rfl (Nd.of_any (n := (Zbk u.toNat (Zbb l u) ((Zbb l u).length : Int) ((x + hf u) % (2 * hf u)) ((y + hf u) % (2 * hf u)) s).2) hO4.sl om) ?_)))))))
 rintro _ w18 ⟨hq6, sv1, rfl, hS7, _⟩
 have k17 := Zi hq6 none
 have hz15 := hq6.size
 have hb18 := Zf hb17 k17
 have hz16 := hb18.size
 refine st (Zad rfl rfl (st (Zad rfl rfl (st0 (Zv Za6 rfl rfl (hB12.g0 k17) (by simp only [List.all_cons, List.all_nil, hS7.one, Bool.and_true, Bool.and_self] <;> rfl) rfl rfl ?_)))))
 intro w19 hB13 k18 hs11
 have hb19 := belowa hb18 k18
 refine st (Ze rfl (Zg (Zd (Zcg rfl Za6 rfl rfl hB13.range rfl ?_))))
 rw [set_up (lvUp_eq hcan hu.1 hu.2 hno hin) hu.2 hin]
 exact ⟨_, rfl, hb19, _, rfl, (Sl.gSmall Zy hS7 k18 (hB12.g0 k17) dc)⟩
end Go.Proofs.Ytfljelnfjbbknaa.Lm
namespace Go.Proofs.Ytfljelnfjbbknaa.Lm
open Go.RowKit Go.Gw
set_option maxHeartbeats 1000000 in
theorem rset_any {w : World} {x y s : Int} {n0 : Nat} (hn0 : n0 ≤ w.heap.size) {va : Value} {l : List Nd} {F : Nat → Prop} (hl : Sl Kd.node w F va l) (hcan : Gw.Can l) (hll : l.length ≤ 90000) {px py : Value} (hpx : Sl Kd.u32 w (G 83 n0 w) px (ml x)) (hpy : Sl Kd.u32 w (G 83 n0 w) py (ml y)) (hbx : Bd 50 x) (hby : Bd 50 y) (hs : 0 ≤ s ∧ s ≤ 255)  :
  Calls Try.prog 29 [.agg [va].toArray, .agg [.bool (decide (x < 0)), px].toArray, .agg [.bool (decide (y < 0)), py].toArray, .int .u8 s].toArray w (Zbh w fun r W => ∃ sv, r = .tuple #[.agg #[sv], .int .i64 (Zc6 l x y s).2] ∧ Sl Kd.node W (fun _ => False) sv (Zc6 l x y s).1) := by
 have hb0 := Below.refl w.heap.size w
 have hlr := Zfo hcan
 have hlast := last_rng hcan
 refine enter Try.func29 rfl rfl (Zh (Zb (st (Zbs rfl ?_))))
 intro g1 w1 hg1 hB1 k1 hs1
 change Blk w1 g1 25 [va].toArray at hB1
 have hb1 := Zf hb0 k1
 refine st (Zbs rfl ?_)
 intro g2 w2 hg2 hB2 k2 hs2
 change Blk w2 g2 31 [.bool (decide (x < 0)), px].toArray at hB2
 have hb2 := Zf hb1 k2
 refine st (Zbs rfl ?_)
 intro g3 w3 hg3 hB3 k3 hs3
 change Blk w3 g3 31 [.bool (decide (y < 0)), py].toArray at hB3
 have hb3 := Zf hb2 k3
 have hlt_1 := (((hB1.g0 k2).g0 k3)).lt
 have hlt_2 := ((hB2.g0 k3)).lt
 have hlt_3 := (hB3).lt
 refine st (Zan Zez ?_)
 intro g4 w4 hg4 hB4 k4 hs4
 have hz1 := hb3.size
 have hb4 := Zf hb3 k4
 refine st (Ze rfl (Zg (Zd (Zh (Zb (st (Zp Za6 rfl (((hB1.g0 k2).g0 k3).g0 k4).range rfl (st (Zq fn46 rfl (Zmo (hl.at0 hb4)) ?_)))))))))
 rintro _ w5 ⟨hq1, rfl⟩
 have k5 := Zi hq1 none
 have hz2 := hq1.size
 have hb5 := Zf hb4 k5
 have hz3 := hb5.size
 refine st (s_max rfl rfl (st (Ze rfl (Zg (Zd (Zh (Zz ?_)))))))
 refine Za2 (α := Int) (fun (u : Int) => [(3, .int .u8 s), (4, (pp g1)), (5, (pp g2)), (6, (pp g3)), (8, (pp g4)), (9, .int .i64 0), (10, .int .i64 u)]) (fun (u : Int) W => Below w.heap.size w W ∧ (max (Zag l) 1 ≤ u ∧ u ≤ 1330) ∧ (∀ j : Int, max (Zag l) 1 ≤ j → j < u → inC ⟨x, y, 0⟩ j = false) ∧ (Blk W g1 25 [va].toArray) ∧ (Blk W g2 31 [.bool (decide (x < 0)), px].toArray) ∧ (Blk W g3 31 [.bool (decide (y < 0)), py].toArray) ∧ (Blk W g4 25 [.slice none 0 0].toArray) ∧ (Sl Kd.u32 W (G 83 n0 W) px (ml x)) ∧ (Sl Kd.u32 W (G 83 n0 W) py (ml y))) (fun (u : Int) => (1330 - u).toNat) ((max (Zag l) 1)) ⟨hb5, by omega, fun j _ _ => by omega, ((((hB1.g0 k2).g0 k3).g0 k4).g0 k5), (((hB2.g0 k3).g0 k4).g0 k5), ((hB3.g0 k4).g0 k5), (hB4.g0 k5), (((((hpx.gg0 k1).gg0 k2).gg0 k3).gg0 k4).gg0 k5), (((((hpy.gg0 k1).gg0 k2).gg0 k3).gg0 k4).gg0 k5)⟩ sb ?_
 rintro u w6 ⟨hb6, hu, hno, hbl0, hbl1, hbl2, hbl3, hsl1_1, hsl2_1⟩
 have hz4 := hb6.size
 have hbl0l := hbl0.lt
 have hbl1l := hbl1.lt
 have hbl2l := hbl2.lt
 have hbl3l := hbl3.lt
 refine Zh (Zh (Zb (st (Zc rfl (st (s_le rfl rfl (st (Zc rfl ?_))))))))
 refine Zax 19 rfl (fun h1 => ?_) (fun h1 => ?_)
 rotate_left
 ·have hu13 := h1
  refine Zj rfl rfl (Zj rfl rfl (Zj rfl rfl (Zj rfl rfl (Zal rfl rfl (Zal rfl rfl (Zal rfl rfl ?_))))))
  refine Zj rfl rfl (Zj rfl rfl (st (Zr rfl rfl (Zg (Zd (Zbv rfl (Zak ?_)))))))
  refine Zk (Zk (Zs (Zd (Zh (Zh (Zb ?_))))))
  refine st (Zc rfl (st (Zch rfl rfl (st (Zc rfl ?_)))))
  refine Zax 34 rfl (fun h6 => ?_) (fun h6 => absurd (show 1329 < u by omega) h6)
  refine stg (Zc rfl (stg (Zbu rfl rfl (st (Zr rfl rfl (Zg (Zd ?_)))))))
  refine Zw rfl (fun h7 => ?_) (fun h7 => ?_)
  ·refine Zh (Zb (st (Zp Za6 rfl hbl0.range rfl (st0 (Zv Za6 rfl rfl hbl3 (by simp only [List.all_cons, List.all_nil, hl.one, Bool.and_true, Bool.and_self] <;> rfl) rfl rfl ?_)))))
   intro w33 hB9 k31 hs9
   have hb31 := belowa hb6 k31
   refine st (Ze rfl (Zg (Zd (Zcg rfl Za6 rfl rfl hB9.range rfl ?_))))
   rw [set_far0 (far_of hcan om hno) h7]
   exact ⟨_, rfl, hb31, _, rfl, ((hl.at0 hb31)).none⟩
  refine Zo (Zd (Zh (Zh (Zb (st (Zc rfl (st (Zch rfl rfl ?_))))))))
  refine Zg (Zd ?_)
  refine Zw rfl (fun h8 => ?_) (fun h8 => absurd (show 1329 < u by omega) h8)
  refine Zh (Zb (st (Zbe (ps := []) (ccs := []) (cells := [.slice none 0 0]) rfl rfl kr (st0 (Zv Za6 rfl rfl hbl3 rfl rfl rfl ?_)))))
  intro w34 hB10 k32 hs10
  have hb32 := belowa hb6 k32
  refine st (Ze rfl (Zg (Zd (Zcg rfl Za6 rfl rfl hB10.range rfl ?_))))
  rw [set_far (far_of hcan om hno) h7]
  exact ⟨_, rfl, hb32, _, rfl, Sl.nil0⟩
 have hu13 := h1
 refine stg (Zp Zx rfl hbl1.range rfl (stg (Zc rfl (stg (Zq fn62 rfl (rin_any (x := x) (n0 := n0) (Zu hn0 hb6) hsl1_1 (Bd.le hbx (show 50 ≤ 50 by decide)) om) ?_)))))
 rintro _ w7 ⟨hq2, rfl⟩
 have k6 := Zi hq2 none
 have hz5 := hq2.size
 have hb7 := Zf hb6 k6
 have hz6 := hb7.size
 refine stg (Zc rfl ?_)
 refine Zd7 23 rfl (fun h2 => ?_) (fun h2 => ?_)
 rotate_left
 ·have hix : inR x u = false := h2
  refine Zj rfl rfl (Zj rfl rfl (Zj rfl rfl (stg (Zr rfl rfl (stg (Zdd rfl (st (Zr rfl rfl (Zg ?_)))))))))
  refine Zd (Zb0 rfl (Zo (Zd (Zz (Zb (st (Zc rfl ?_)))))))
  refine st (Zah rfl rfl om (st (Ze rfl (Zg (Zab ?_)))))
  exact Zac ((u + 1)) ⟨hb7, by omega, fun j j0 j1 => if e : j = u then by rw [e]; exact inR_out (.inl hix) else hno j j0 om, (hbl0.g0 k6), (hbl1.g0 k6), (hbl2.g0 k6), (hbl3.g0 k6), (hsl1_1.gg0 k6), (hsl2_1.gg0 k6)⟩ om sb
 have hix : inR x u = true := h2
 refine stg (Zp Zx rfl (hbl2.g0 k6).range rfl (stg (Zc rfl (stg (Zq fn62 rfl (rin_any (x := y) (n0 := n0) (Zu hn0 hb7) (hsl2_1.gg0 k6) (Bd.le hby (show 50 ≤ 50 by decide)) om) ?_)))))
 rintro _ w8 ⟨hq3, rfl⟩
 have k7 := Zi hq3 none
 have hz7 := hq3.size
 have hb8 := Zf hb7 k7
 have hz8 := hb8.size
 refine stg (Zr rfl rfl (stg (Zdd rfl (st (Zr rfl rfl (Zg (Zd ?_)))))))
 refine Zba rfl (fun h3 => ?_) (fun h3 => ?_)
 ·have hiy : inR y u = false := by simpa using h3
  refine Zo (Zd (Zz (Zb (st (Zc rfl (st (Zah rfl rfl om (st (Ze rfl ?_)))))))))
  refine Zg (Zab ?_)
  exact Zac ((u + 1)) ⟨hb8, by omega, fun j j0 j1 => if e : j = u then by rw [e]; exact inR_out (.inr hiy) else hno j j0 om, ((hbl0.g0 k6).g0 k7), ((hbl1.g0 k6).g0 k7), ((hbl2.g0 k6).g0 k7), ((hbl3.g0 k6).g0 k7), ((hsl1_1.gg0 k6).gg0 k7), ((hsl2_1.gg0 k6).gg0 k7)⟩ om sb
 have hiy : inR y u = true := by simpa using h3
 have hin := inR_in hix hiy
 have hxu : 0 ≤ x + hf u ∧ x + hf u < 2 * hf u := by unfold inR at hix; simp at hix; omega
 have hyu : 0 ≤ y + hf u ∧ y + hf u < 2 * hf u := by unfold inR at hiy; simp at hiy; omega
 refine Zak (Zk (Zk (Zs (Zd (Zh (Zh ?_))))))
 refine Zb (st (Zc rfl (st (Zch rfl rfl (st (Zc rfl (Zax 34 rfl (fun h4 => absurd h4 om) (fun h4 => (Zj rfl rfl (Zj rfl rfl ?_))))))))))
 refine st (Zr rfl rfl (Zg (Zd (Zbv rfl (Zo (Zd (Zh ?_)))))))
 refine Zh (Zb (st (Zc rfl (st (Zch rfl rfl (Zg (Zd (Zw rfl (fun h5 => absurd h5 om) (fun h5 => ?_)))))))))
 refine Zo (Zd (Zh (Zb (st (Zp Za6 rfl ((hbl0.g0 k6).g0 k7).range rfl (st (Zc rfl (st (Zq fn63 rfl (Nd.rgrow_any (level := u) (hl.at0 hb8) om hlast om) ?_)))))))))
 rintro _ w9 ⟨hq4, v1, rfl, hO1⟩
 have k8 := Zi hq4 none
 have hz9 := hq4.size
 have hb9 := Zf hb8 k8
 have hz10 := hb9.size
 have hO2 := hO1.rebase (b' := w.heap.size) hb8.size
 obtain ⟨hgo, hgn, _, hgl⟩ := Zly hcan (v := u) om om om
 refine st (Zc rfl (st (Zad rfl rfl (st (Zad rfl rfl (st (Ze rfl (st (Ze rfl (Zg (Zd ?_)))))))))))
 refine Zh (Zb (st (Zc rfl (st (Za7 rfl rfl om (st (Zq fn47 rfl (Zfa (n0 := n0) (Zu hn0 hb9)) ?_)))))))
 rintro v3 w10 ⟨hq5, hv1⟩
 rw [show (Zfm 1 (u - 1)) = (hf u) from (Ziq om)] at hv1
 obtain ⟨v2, rfl, hS1⟩ := hv1
 have k9 := Zi hq5 none
 have hz11 := hq5.size
 have hb10 := Zf hb9 k9
 have hz12 := hb10.size
 have hO3 := hO2.g0 k9
 have hlt_4 := (((((hbl0.g0 k6).g0 k7).g0 k8).g0 k9)).lt
 have hlt_5 := (((((hbl1.g0 k6).g0 k7).g0 k8).g0 k9)).lt
 have hlt_6 := (((((hbl2.g0 k6).g0 k7).g0 k8).g0 k9)).lt
 have hlt_7 := (((((hbl3.g0 k6).g0 k7).g0 k8).g0 k9)).lt
 refine st (Zan Zb3 ?_)
 intro g5 w11 hg5 hB5 k10 hs5
 have hz13 := hb10.size
 have hb11 := Zf hb10 k10
 have hO4 := hO3.g0 k10
 refine st0 (Zv Zx rfl rfl hB5 (by simp only [List.all_cons, List.all_nil, hS1.one, Bool.and_true, Bool.and_self] <;> rfl) rfl rfl ?_)
 intro w12 hB6 k11 hs6
 have hb12 := belowa hb11 k11
 have hO5 := Own.keptF Zy hO4 k11 (hO4.ne_blk hB5 dc)
 refine Zg (Zd (Zh ?_))
 refine w_drawDE 15 (Two (fun i => v1.ownBlock = some i)) GN (Two (fun i => v1.ownBlock = some i)) [xi 52 <| v1, xi 53 <| .int .i64 u, xi 54 <| .int .i64 ((Zbb l u).length : Int), xi 55 <| .agg [.bool (decide (x < 0)), px].toArray, xi 56 <| .agg [.bool (decide ((hf u) < 0)), v2].toArray, (some 57, fun v W => Zbw 83 n0 W v ((x + (hf u)))), xi 58 <| .agg [.bool (decide (y < 0)), py].toArray, xi 59 <| .agg [.bool (decide ((hf u) < 0)), v2].toArray, (some 60, fun v W => Zbw 83 n0 W v ((y + (hf u)))), xi 61 <| .int .u8 s, (some 62, fun v W => ∃ q, v = .tuple #[q, .int .i64 (Zbk u.toNat (Zbb l u) ((Zbb l u).length : Int) (x + hf u) (y + hf u) s).2] ∧ Gw.Own Kd.node 101 w.heap.size W (fun _ => False) q (Zbk u.toNat (Zbb l u) ((Zbb l u).length : Int) (x + hf u) (y + hf u) s).1), (some 51, fun v W => ∃ q, v = .tuple #[q, .int .i64 (Zbk u.toNat (Zbb l u) ((Zbb l u).length : Int) (x + hf u) (y + hf u) s).2] ∧ Gw.Own Kd.node 101 w.heap.size W (fun _ => False) q (Zbk u.toNat (Zbb l u) ((Zbb l u).length : Int) (x + hf u) (y + hf u) s).1), (some 63, fun v W => Gw.Own Kd.node 101 w.heap.size W (fun _ => False) v (Zbk u.toNat (Zbb l u) ((Zbb l u).length : Int) (x + hf u) (y + hf u) s).1), xi 64 <| .int .i64 (Zbk u.toNat (Zbb l u) ((Zbb l u).length : Int) (x + hf u) (y + hf u) s).2, (some 11, fun v W => Gw.Own Kd.node 101 w.heap.size W (fun _ => False) v (Zbk u.toNat (Zbb l u) ((Zbb l u).length : Int) (x + hf u) (y + hf u) s).1)] [[], [], [], [], [], [3, 4], [], [], [6, 7], [], [0, 1, 2, 5, 8, 9], [10], [11], [11], [12]] [[], [], [], [], [], [3, 4], [], [], [3, 4, 5, 6, 7], [], [0, 1, 2, 3, 4, 5, 6, 7, 8, 9], [0, 1, 2, 3, 4, 5, 6, 7, 8, 9, 10], [0, 1, 2, 3, 4, 5, 6, 7, 8, 9, 10, 11], [0, 1, 2, 3, 4, 5, 6, 7, 8, 9, 10, 11], [0, 1, 2, 3, 4, 5, 6, 7, 8, 9, 10, 11, 12]] [[], [], [], [], [], [10], [], [], [10], [], [], [], [], [], []] [false, false, false, false, false, false, false, false, false, false, true, false, false, false, false] [true, true, true, true, true, false, true, true, false, true, false, false, false, true, false] [true, true, true, true, true, true, true, true, true, true, true, false, false, false, false] [(3, .int .u8 s), (5, (pp g2)), (6, (pp g3)), (8, (pp g4)), (9, .int .i64 0), (10, .int .i64 u), (12, .int .i64 ((Zbb l u).length : Int)), (13, (pp g5))] [(11, v1)] [true, false, false, false, false, false, false, false, false, false, false, false, false, false, false] sb sb kr kr kr kr kr rfl (Two.refl _) (fun _ _ _ h k => h.trans k) (fun _ _ h => Two.none h) (fun _ _ h => h) ⟨kv, kv, kv, kv, kv, kv, kv, kv, kv, kv, fun _ _ _ h k => h.g0 k, kv, kv, kv, kv, fun _ _ _ h k => h.g0 k, kv, kv, fun _ _ _ h k => by obtain ⟨q, e, h⟩ := h; exact ⟨q, e, h.g0 k⟩, fun _ _ _ h k => by obtain ⟨q, e, h⟩ := h; exact ⟨q, e, h.g0 k⟩, fun _ _ _ h k => h.g0 k, kv, kv, fun _ _ _ h k => h.g0 k, trivial⟩ Za gnt rfl ?_
 intro w15 k14 hs7
 have hb13 := Zf hb12 k14
 have hO6 := hO5.g0 k14
 refine ⟨⟨?_, ?_, ?_, ?_, ?_, ?_, ?_, ?_, ?_, ?_, ?_, ?_, ?_, ?_, ?_, trivial⟩, ?_⟩
 ·intro w16 k15
  have hb14 := Zf hb13 k15
  have hz14 := hb14.size
  refine op1 (Zc rfl ?_)
  exact ⟨rfl, Za _⟩
 ·intro w17 k16
  have hb15 := Zf hb13 k16
  have hz15 := hb15.size
  refine op1 (Zc rfl ?_)
  exact ⟨rfl, Za _⟩
 ·intro w18 k17
  have hb16 := Zf hb13 k17
  have hz16 := hb16.size
  refine op1 (Zc rfl ?_)
  exact ⟨rfl, Za _⟩
 ·intro w19 k18
  have hb17 := Zf hb13 k18
  have hz17 := hb17.size
  refine op1 (Zp Zx rfl ((((((((hbl1.g0 k6).g0 k7).g0 k8).g0 k9).g0 k10).gne k11 om).g0 k14).g0 k18).range rfl ?_)
  exact ⟨rfl, Za _⟩
 ·intro w20 k19
  have hb18 := Zf hb13 k19
  have hz18 := hb18.size
  refine op1 (Zp Zx rfl ((hB6.g0 k14).g0 k19).range rfl ?_)
  exact ⟨rfl, Za _⟩
 ·intro w21 k20
  have hb19 := Zf hb13 k20
  have hz19 := hb19.size
  rintro _ rfl _ rfl
  refine op1 (Zq fn22 rfl (Zdn (n0 := n0) (Zu hn0 hb19) (Zai rfl ((((((((hsl1_1.gg0 k6).gg0 k7).gg0 k8).gg0 k9).gg0 k10).ggB k11 hB5 dc om).gg0 k14).gg0 k20)) (Zai rfl ((((hS1.gg0 k10).ggB k11 hB5 dc om).gg0 k14).gg0 k20)) (Bd.le hbx (show 50 ≤ 90000 by decide)) (Bd.le (Zci om) (show 42 ≤ 90000 by decide))) ?_)
  rintro _ w22 ⟨hq8, v6, rfl, hS4⟩
  have k21 := Zi hq8 none
  have hz20 := hq8.size
  have hb20 := Zf hb19 k21
  have hz21 := hb20.size
  exact ⟨⟨_, rfl, hS4⟩, k21⟩
 ·intro w23 k22
  have hb21 := Zf hb13 k22
  have hz22 := hb21.size
  refine op1 (Zp Zx rfl ((((((((hbl2.g0 k6).g0 k7).g0 k8).g0 k9).g0 k10).gne k11 om).g0 k14).g0 k22).range rfl ?_)
  exact ⟨rfl, Za _⟩
 ·intro w24 k23
  have hb22 := Zf hb13 k23
  have hz23 := hb22.size
  refine op1 (Zp Zx rfl ((hB6.g0 k14).g0 k23).range rfl ?_)
  exact ⟨rfl, Za _⟩
 ·intro w25 k24
  have hb23 := Zf hb13 k24
  have hz24 := hb23.size
  rintro _ rfl _ rfl
  refine op1 (Zq fn22 rfl (Zdn (n0 := n0) (Zu hn0 hb23) (Zai rfl ((((((((hsl2_1.gg0 k6).gg0 k7).gg0 k8).gg0 k9).gg0 k10).ggB k11 hB5 dc om).gg0 k14).gg0 k24)) (Zai rfl ((((hS1.gg0 k10).ggB k11 hB5 dc om).gg0 k14).gg0 k24)) (Bd.le hby (show 50 ≤ 90000 by decide)) (Bd.le (Zci om) (show 42 ≤ 90000 by decide))) ?_)
  rintro _ w26 ⟨hq9, v7, rfl, hS5⟩
  have k25 := Zi hq9 none
  have hz25 := hq9.size
  have hb24 := Zf hb23 k25
  have hz26 := hb24.size
  exact ⟨⟨_, rfl, hS5⟩, k25⟩
 ·intro w27 k26
  have hb25 := Zf hb13 k26
  have hz27 := hb25.size
  refine op1 (Zc rfl ?_)
  exact ⟨rfl, Za _⟩
 ·intro w28 k27
  have hb26 := Zf hb13 k27
  have hz28 := hb26.size
  have hO19 := hO6.g0 k27
  intro v_ hv_; subst v_
  rintro _ rfl _ rfl _ ⟨v8, rfl, hS6⟩ _ ⟨v9, rfl, hS7⟩ _ rfl
  refine op1 (Zq fn64 rfl (put_any (a0 := w) (n0 := n0) hn0 hs u.toNat (n := ((Zbb l u).length : Int)) (lv := u) (x := x + hf u) (y := y + hf u) om om hgo hgn om hxu hyu hb26 hO19 hS6 hS7) ?_)
  rintro _ w29 ⟨vo1, rfl, hb27, hO20, hr1, hT1⟩
  exact ⟨⟨vo1, rfl, hO20⟩, hT1⟩
 ·intro w8z_ kb_
  rintro _ ⟨u_, rfl, hu_⟩
  exact op1 (Zc rfl ⟨⟨u_, rfl, hu_⟩, Za _⟩)
 ·intro w8z_ kb_
  rintro _ ⟨u_, rfl, hu_⟩
  exact op1 (Zad rfl rfl ⟨hu_, Za _⟩)
 ·intro w8z_ kb_
  rintro _ ⟨u_, rfl, hu_⟩
  exact op1 (Zad rfl rfl ⟨rfl, Za _⟩)
 ·intro w8z_ kb_
  intro u_ hu_
  exact op1 (Ze rfl ⟨hu_, Za _⟩)
 intro w30 k28
 intro v_ hv_; subst v_
 intro v_ hv_; subst v_
 intro v_ hv_; subst v_
 intro v_ hv_; subst v_
 intro v_ hv_; subst v_
 intro _ _
 intro v_ hv_; subst v_
 intro v_ hv_; subst v_
 intro _ _
 intro v_ hv_; subst v_
 rintro _ ⟨_, rfl, _⟩ _ ⟨_, rfl, _⟩ _ _ _ rfl vo2 hO21
 have hb28 := k28.below hb13 hb13.size (fun i hi h_ => by have := (hO6.lt i h_).1; omega)
 have hB7 := (((((((hbl3.g0 k6).g0 k7).g0 k8).g0 k9).g0 k10).gne k11 om).g0 k14).two k28 (hO6.neB (((((((hbl3.g0 k6).g0 k7).g0 k8).g0 k9).g0 k10).gne k11 om).g0 k14) dc)
 have hz29 := hb28.size
 have hpl_ := Zjr u.toNat (Zbb l u) ((Zbb l u).length : Int) (x + hf u) (y + hf u) s
 refine st (Ze rfl (Zg (Zd (Zh (Zb (st (Zc rfl (st (Zc rfl ?_)))))))))
 refine st (Zq fn11 rfl (Nd.rof_any (n := (Zbk u.toNat (Zbb l u) ((Zbb l u).length : Int) (x + hf u) (y + hf u) s).2) hO21.sl om) ?_)
 rintro _ w31 ⟨hq10, sv1, rfl, hS8⟩
 have k29 := Zi hq10 none
 have hz30 := hq10.size
 have hb29 := Zf hb28 k29
 have hz31 := hb29.size
 refine st (Zad rfl rfl (st (Zad rfl rfl (st0 (Zv Za6 rfl rfl (hB7.g0 k29) (by simp only [List.all_cons, List.all_nil, hS8.one, Bool.and_true, Bool.and_self] <;> rfl) rfl rfl ?_)))))
 intro w32 hB8 k30 hs8
 have hb30 := belowa hb29 k30
 refine st (Ze rfl (Zg (Zd (Zcg rfl Za6 rfl rfl hB8.range rfl ?_))))
 rw [set_up' (lvUp_eq hcan hu.1 hu13 hno hin) hu13]
 exact ⟨_, rfl, hb30, _, rfl, (Sl.gSmall Zy hS8 k30 (hB7.g0 k29) dc)⟩
end Go.Proofs.Ytfljelnfjbbknaa.Lm
namespace Go.Gw
open Go.RowKit
theorem Sl.nq {w : World} {F : Nat → Prop} {v : Value} {xs : List Nd} {t : Nat} (h : Sl Kd.node w F v xs) : Sl Kd.node w (fun g => BlkN w g t 1) v xs := by
  obtain ⟨A, c, e, h1, h2, h3⟩ := h
  refine ⟨A, c, e, h1, h2, fun i x hx => ?_⟩
  obtain ⟨g, o, us, ea, hg, hF, hr, hc⟩ := h3 i x hx
  refine ⟨g, o, us, ea, hg, ?_, hr, hc⟩
  rintro ⟨cs, hs, hB⟩
  have hu : us = x.cells := hr.1
  have h4 := hc 4 (.int .i64 x.k3) (by rw [hu]; rfl)
  have h5 : w.cell? ⟨g, o + i * Kd.node.sz + 4, Option.none⟩ = cs[o + i * Kd.node.sz + 4]? := hB.cell _
  rw [h5, Array.getElem?_eq_none om] at h4
  cases h4
section
variable {N t U n0 : Nat} {Q : World → Array Value → Prop} {a b : World}
theorem Rg.nodes (k : Rg N t 1 Q a b) {F : Nat → Prop} {v : Value} {xs : List Nd} (h : Sl Kd.node a F v xs) : Sl Kd.node b (fun _ => False) v xs :=
  (Sl.keep (h.nq (t := t)) (fun i hi hF => (k.block i hi).resolve_right (fun h => hF h.2.1))).weak (fun _ _ h => h.elim)
theorem nodes_sto {g : Nat} (hB : BlkN a g t 1) (k : a.grownBy b (some g)) {F : Nat → Prop} {v : Value} {xs : List Nd} (h : Sl Kd.node a F v xs) : Sl Kd.node b (fun _ => False) v xs :=
  (Sl.keep (h.nq (t := t)) (fun i hi hF => k.block i hi (by rintro ⟨⟩; exact hF hB))).weak (fun _ _ h => h.elim)
def QuadSl (xs : List Nd) (w : World) (cs : Array Value) : Prop := ∃ s, cs = [s].toArray ∧ Sl Kd.node w (fun _ => False) s xs
theorem quad_st {xs : List Nd} (a b : World) (cs : Array Value) (k : Rg N t 1 Q a b) (h : QuadSl xs a cs) : QuadSl xs b cs := by
  obtain ⟨s, rfl, h⟩ := h
  exact ⟨s, rfl, k.nodes h⟩
end
def Q8 : List Nd := (Zc6 [] 5 (-7) 9).1
theorem set8a : Zc6 [] 5 (-7) 9 = (Q8, 0) := Prod.ext rfl (by decide +kernel)
theorem set8b : Zc6 Q8 5 (-7) 0 = ([], 0) := by decide +kernel
theorem set8c : (Zc6 Q8 (hf 1329) (-7) 1).2 = 4 := by decide +kernel
theorem most8 : Zer Q8 = 9 := by decide +kernel
theorem len8 : Q8.length ≤ 100 := by decide +kernel
theorem can8 : Can Q8 := (set_ok Ze3 (x := 5) (y := -7) (s := 9) ⟨by decide, by decide⟩ (by decide +kernel)).1
theorem get8 (X Y : Int) : Zcy Q8 X Y = if X = 5 ∧ Y = -7 then 9 else Zcy [] X Y := (set_ok Ze3 (x := 5) (y := -7) (s := 9) ⟨by decide, by decide⟩ (by decide +kernel)).2 X Y
theorem get8a : Zcy Q8 5 (-7) = 9 := by rw [get8]; rfl
theorem get8b : Zcy Q8 (-7) 5 = 0 := by rw [get8]; rfl
theorem get8c : Zcy [] 5 (-7) = 0 := rfl
theorem right8 : Zfr Q8 = true := by decide +kernel
end Go.Gw
namespace Go.Proofs.Ytfljelnfjbbknaa.Lm
open Go.RowKit Go.Gw
set_option maxHeartbeats 1000000 in
theorem alive8_any {w : World} {n0 : Nat} (hn0 : n0 ≤ w.heap.size)  :
  Calls Try.prog 25 [].toArray w (Zbh w fun v _ => v = .bool true) := by
 have hb0 := Below.refl w.heap.size w
 refine enter Try.func25 rfl rfl (Zh (Zb (st (Ze rfl (Zg (Zd (Zh ?_)))))))
 refine Zb (st (Zq fn20 rfl (rof2_any (n0 := n0) (Zu hn0 hb0) om) ?_))
 rintro _ w1 ⟨hq1, v1, rfl, hS1⟩
 have k1 := Zi hq1 none
 have hz1 := hq1.size
 have hb1 := Zf hb0 k1
 have hz2 := hb1.size
 refine st (Zq fn20 rfl (rof2_any (n0 := n0) (Zu hn0 hb1) om) ?_)
 rintro _ w2 ⟨hq2, v2, rfl, hS2⟩
 have k2 := Zi hq2 none
 have hz3 := hq2.size
 have hb2 := Zf hb1 k2
 have hz4 := hb2.size
 refine st (Zan Zb3 ?_)
 intro g1 w3 hg1 hB1 k3 hs1
 have hz5 := hb2.size
 have hb3 := Zf hb2 k3
 have hlt_1 := (hB1).lt
 refine st (Zan Zb3 ?_)
 intro g2 w4 hg2 hB2 k4 hs2
 have hz6 := hb3.size
 have hb4 := Zf hb3 k4
 refine st0 (Zv Zx rfl rfl (hB1.g0 k4) (by simp only [List.all_cons, List.all_nil, hS1.one, Bool.and_true, Bool.and_self] <;> rfl) rfl rfl ?_)
 intro w5 hB3 k5 hs3
 have hb5 := belowa hb4 k5
 refine st0 (Zv Zx rfl rfl (hB2.gne k5 om) (by simp only [List.all_cons, List.all_nil, hS2.one, Bool.and_true, Bool.and_self] <;> rfl) rfl rfl ?_)
 intro w6 hB4 k6 hs4
 have hb6 := belowa hb5 k6
 refine Zg (Zd (Zh (Zb (st (Zbe (ps := []) (ccs := []) (cells := [.slice none 0 0]) rfl rfl kr (st (Zp Zx rfl (hB3.gne k6 om).range rfl (st (Zp Zx rfl hB4.range rfl ?_)))))))))
 refine st (Zq fn28 rfl (set_any (x := (5 : Int)) (y := (-7 : Int)) (s := 9) (n0 := n0) (Zu hn0 hb6) ((Sl.nil0 (K := Kd.node) (F := fun _ => False)).at0 hb6) Ze3 dc (((((hS1.gg0 k2).gg0 k3).gg0 k4).ggB k5 (hB1.g0 k4) dc om).ggB k6 (hB2.gne k5 om) dc om) ((((hS2.gg0 k3).gg0 k4).ggB k5 (hB1.g0 k4) dc om).ggB k6 (hB2.gne k5 om) dc om) (Bd.le (Zdz om) (show 2 ≤ 50 by decide)) (Bd.le (Zdz om) (show 2 ≤ 50 by decide)) (by first | omega | decide)) ?_)
 rintro v_ w7 ⟨hq3, sv1, hv1, hS3⟩
 rw [set8a] at hv1 hS3
 subst hv1
 dsimp only at hS3
 have k7 := Zi hq3 none
 have hz7 := hq3.size
 have hb7 := Zf hb6 k7
 have hz8 := hb7.size
 refine st (Zc rfl (st (Zad rfl rfl (st (Zad rfl rfl ?_)))))
 have hlt_2 := (((hB3.gne k6 om).g0 k7)).lt
 have hlt_3 := ((hB4.g0 k7)).lt
 refine st (Zan Zez ?_)
 intro g3 w8 hg3 hB5 k8 hs5
 have hz9 := hb7.size
 have hb8 := Zf hb7 k8
 refine st0 (Zv Za6 rfl rfl hB5 (by simp only [List.all_cons, List.all_nil, hS3.one, Bool.and_true, Bool.and_self] <;> rfl) rfl rfl ?_)
 intro w9 hB6 k9 hs6
 have hb9 := belowa hb8 k9
 refine st (Ze rfl (Zg (Zd (Zh (Zb (st (Zp Za6 rfl hB6.range rfl (st (Zp Zx rfl ((((hB3.gne k6 om).g0 k7).g0 k8).gne k9 om).range rfl ?_)))))))))
 refine st (Zp Zx rfl (((hB4.g0 k7).g0 k8).gne k9 om).range rfl ?_)
 refine st (Zq fn28 rfl (set_any (x := (5 : Int)) (y := (-7 : Int)) (s := 0) (n0 := n0) (Zu hn0 hb9) (Sl.gSmall Zy (hS3.g0 k8) k9 hB5 dc) can8 (by have := len8; omega) ((((((((hS1.gg0 k2).gg0 k3).gg0 k4).ggB k5 (hB1.g0 k4) dc om).ggB k6 (hB2.gne k5 om) dc om).gg0 k7).gg0 k8).ggB k9 hB5 dc om) (((((((hS2.gg0 k3).gg0 k4).ggB k5 (hB1.g0 k4) dc om).ggB k6 (hB2.gne k5 om) dc om).gg0 k7).gg0 k8).ggB k9 hB5 dc om) (Bd.le (Zdz om) (show 2 ≤ 50 by decide)) (Bd.le (Zdz om) (show 2 ≤ 50 by decide)) (by first | omega | decide)) ?_)
 rintro v_ w10 ⟨hq4, sv2, hv2, hS4⟩
 rw [set8b] at hv2 hS4
 subst hv2
 dsimp only at hS4
 have k10 := Zi hq4 none
 have hz10 := hq4.size
 have hb10 := Zf hb9 k10
 have hz11 := hb10.size
 refine st (Zc rfl (st (Zad rfl rfl (st (Zad rfl rfl ?_)))))
 have hlt_4 := ((((((hB3.gne k6 om).g0 k7).g0 k8).gne k9 om).g0 k10)).lt
 have hlt_5 := (((((hB4.g0 k7).g0 k8).gne k9 om).g0 k10)).lt
 have hlt_6 := ((hB6.g0 k10)).lt
 refine st (Zan Zez ?_)
 intro g4 w11 hg4 hB7 k11 hs7
 have hz12 := hb10.size
 have hb11 := Zf hb10 k11
 refine st0 (Zv Za6 rfl rfl hB7 (by simp only [List.all_cons, List.all_nil, hS4.one, Bool.and_true, Bool.and_self] <;> rfl) rfl rfl ?_)
 intro w12 hB8 k12 hs8
 have hb12 := belowa hb11 k12
 refine st (Ze rfl (Zg (Zd (Zh ?_))))
 refine w_drawS (dd := 7) (td := 7) (cs := [false, false, false, false, false, false, false, false, true]) (ψ := PtrG w12.heap.size 25 1 (QuadSl ((Zc6 Q8 (hf 1329) (-7 : Int) 1).1))) 9 (Rg w12.heap.size 25 1 (QuadSl ((Zc6 Q8 (hf 1329) (-7 : Int) 1).1))) [xi 26 <| .agg [sv1].toArray, (some 27, fun v W => Zbw 83 n0 W v ((hf 1329))), xi 28 <| .agg [.bool (decide ((-7 : Int) < 0)), v2].toArray, (some 29, fun v W => ∃ sv3 : Value, v = .tuple #[.agg [sv3].toArray, .int .i64 4] ∧ Sl Kd.node W (fun _ => False) sv3 ((Zc6 Q8 (hf 1329) (-7 : Int) 1).1)), (some 25, fun v W => ∃ sv3 : Value, v = .tuple #[.agg [sv3].toArray, .int .i64 4] ∧ Sl Kd.node W (fun _ => False) sv3 ((Zc6 Q8 (hf 1329) (-7 : Int) 1).1)), (some 30, fun v W => ∃ sv3 : Value, v = .agg [sv3].toArray ∧ Sl Kd.node W (fun _ => False) sv3 ((Zc6 Q8 (hf 1329) (-7 : Int) 1).1)), xi 31 <| .int .i64 4, (some 7, Zg2 w12.heap.size 25 1), (none, fun _ _ => True)] [[], [], [], [0, 1, 2], [3], [4], [4], [], [7, 5]] [false, false, false, false, false, false, false, false, false] [(0, .bool false), (1, (pp g1)), (2, (pp g2)), (3, (pp g3)), (4, .int .i64 0), (5, (pp g4)), (6, .int .i64 0)] sb kr kr Rg.refl (Rg.trans quad_st) ⟨fun _ _ _ h _ => h, fun _ _ _ h k => by obtain ⟨a, e, h⟩ := h; exact ⟨a, e, k.nums dc (show n0 ≤ w12.heap.size by omega) h⟩, fun _ _ _ h _ => h, fun _ _ _ h k => by obtain ⟨sv3, e, h0⟩ := h; exact ⟨sv3, e, k.nodes h0⟩, fun _ _ _ h k => by obtain ⟨sv3, e, h0⟩ := h; exact ⟨sv3, e, k.nodes h0⟩, fun _ _ _ h k => by obtain ⟨sv3, e, h0⟩ := h; exact ⟨sv3, e, k.nodes h0⟩, fun _ _ _ h _ => h, Zg2.stG, fun _ _ _ h _ => h, trivial⟩ ⟨nofun, nofun, nofun, nofun, nofun, nofun, nofun, nofun, nofun, trivial⟩ rfl (fun i h _ => by rcases i with _ | _ | _ | _ | _ | _ | _ | _ | _ | i <;> simp at h ⊢) (PtrG.st quad_st) ⟨8, rfl, by decide⟩ ?_
 intro w17 k17 hs11
 have hb13 := Zf hb12 k17
 refine ⟨⟨?_, ?_, ?_, ?_, ?_, ?_, ?_, ?_, ?_, trivial⟩, ?_⟩
 ·intro w18 k18r
  have k18 := Rg.grown k18r om
  refine op1 (Zp Za6 rfl (((((hB6.g0 k10).g0 k11).gne k12 om).g0 k17).g0 k18).range rfl ?_)
  exact ⟨rfl, Rg.refl _, nofun, nofun⟩
 ·intro w19 k19r
  have k19 := Rg.grown k19r om
  have hb15 := Zf hb13 k19
  refine op1 (Zq fn47 rfl (Zfa (n0 := n0) (Zu hn0 hb15)) ?_)
  rintro v6 w20 ⟨hq7, hv5⟩
  rw [show (Zfm 1 (1328 : Int)) = (hf 1329) from (Ziq (v := 1329) dc)] at hv5
  obtain ⟨v5, rfl, hS7⟩ := hv5
  have k20 := Zi hq7 none
  have hz13 := hq7.size
  have hb16 := Zf hb15 k20
  have hz14 := hb16.size
  exact ⟨⟨_, rfl, hS7⟩, Rg.of (k20), nofun, nofun⟩
 ·intro w21 k21r
  have k21 := Rg.grown k21r om
  refine op1 (Zp Zx rfl ((((((((hB4.g0 k7).g0 k8).gne k9 om).g0 k10).g0 k11).gne k12 om).g0 k17).g0 k21).range rfl ?_)
  exact ⟨rfl, Rg.refl _, nofun, nofun⟩
 ·intro w22 k22r
  have k22 := Rg.grown k22r om
  have hb18 := Zf hb13 k22
  rintro _ rfl _ ⟨v7, rfl, hS8⟩ _ rfl
  refine op1 (Zq fn28 rfl (set_any (x := (hf 1329)) (y := (-7 : Int)) (s := 1) (n0 := n0) (Zu hn0 hb18) (((Sl.gSmall Zy (((Sl.gSmall Zy (hS3.g0 k8) k9 hB5 dc).g0 k10).g0 k11) k12 hB7 dc).g0 k17).g0 k22) can8 (by have := len8; omega) hS8 ((((((((((((hS2.gg0 k3).gg0 k4).ggB k5 (hB1.g0 k4) dc om).ggB k6 (hB2.gne k5 om) dc om).gg0 k7).gg0 k8).ggB k9 hB5 dc om).gg0 k10).gg0 k11).ggB k12 hB7 dc om).gg0 k17).gg0 k22) (Bd.le (Zci dc) (show 42 ≤ 50 by decide)) (Bd.le (Zdz om) (show 2 ≤ 50 by decide)) (by first | omega | decide)) ?_)
  rintro v_ w23 ⟨hq8, sv4, hv6, hS9⟩
  rw [set8c] at hv6
  subst hv6
  have k23 := Zi hq8 none
  have hz15 := hq8.size
  have hb19 := Zf hb18 k23
  have hz16 := hb19.size
  exact ⟨⟨_, rfl, hS9⟩, Rg.of (k23), nofun, nofun⟩
 ·intro w24 k24r
  have k24 := Rg.grown k24r om
  rintro _ ⟨v8, rfl, hS10⟩
  refine op1 (Zc rfl ?_)
  exact ⟨⟨_, rfl, hS10⟩, Rg.refl _, nofun, nofun⟩
 ·intro w25 k25r
  have k25 := Rg.grown k25r om
  rintro _ ⟨v9, rfl, hS11⟩
  refine op1 (Zad rfl rfl ?_)
  exact ⟨⟨_, rfl, hS11⟩, Rg.refl _, nofun, nofun⟩
 ·intro w26 k26r
  have k26 := Rg.grown k26r om
  rintro _ ⟨v10, rfl, hS12⟩
  refine op1 (Zad rfl rfl ?_)
  exact ⟨rfl, Rg.refl _, nofun, nofun⟩
 ·intro w27 k27r
  have k27 := Rg.grown k27r om
  refine op1 (Zan Zez ?_)
  intro g6 w28 hg6 hB11 k28 hs12
  have hz_ := k27.size
  exact ⟨⟨g6, rfl, by omega, _, rfl, hB11⟩, Rg.of k28, nofun, nofun⟩
 ·intro w29 k29r
  have k29 := Rg.grown k29r om
  rintro _ ⟨g7, rfl, hg7, hB12, hc1, hB13⟩ _ ⟨v11, rfl, hS13⟩
  refine op1 (Zv Za6 rfl rfl hB13 (by simp only [List.all_cons, List.all_nil, (hS13).none.one, Bool.and_true, Bool.and_self] <;> rfl) rfl hc1 ?_)
  intro w30 hB14 k30 hs13
  have hT1 : QuadSl ((Zc6 Q8 (hf 1329) (-7 : Int) 1).1) _ [v11].toArray := ⟨v11, rfl, nodes_sto ⟨_, hc1, hB13⟩ k30 (hS13).none⟩
  exact ⟨trivial, Rg.sto ⟨_, hc1, hB13⟩ hB14 rfl hT1 k30 hg7, nofun, fun _ => ⟨_, rfl, _, rfl, hg7, _, hB14, rfl, hT1⟩⟩
 intro w31 k31r
 have k31 := Rg.grown k31r om
 have hb25 := Zf hb13 k31
 rintro _ rfl _ ⟨v12, rfl, hS14⟩ _ rfl _ ⟨v13, rfl, hS15⟩ _ ⟨v14, rfl, hS16⟩ _ ⟨v15, rfl, hS17⟩ _ rfl _ ⟨g8, rfl, hg8, hB15, hc2, hB16⟩ hp1
 obtain ⟨_, he1, _, _, hB17, _, v16, rfl, hS18⟩ := hp1 _ rfl
 cases he1
 have hlt_11 := hB17.lt
 refine st (Ze rfl (Zg (Zd (Zh (Zb (st (Zc rfl (st (Zbu rfl rfl ?_)))))))))
 rw [show decide ((0 : Int) = 0) = true from rfl]
 refine st (Zc rfl (stg (Zc rfl (stg (Zbu rfl rfl ?_)))))
 rw [show decide ((0 : Int) = 0) = true from rfl]
 refine st (Zr rfl rfl (st (Zc rfl (stg (Zc rfl (stg (Zbu rfl rfl ?_)))))))
 rw [show decide ((4 : Int) = 4) = true from rfl]
 refine st (Zr rfl rfl (st (Zc rfl (stg (Zp Za6 rfl (((((hB6.g0 k10).g0 k11).gne k12 om).g0 k17).g0 k31).range rfl (stg (Zp Zx rfl (((((((((hB3.gne k6 om).g0 k7).g0 k8).gne k9 om).g0 k10).g0 k11).gne k12 om).g0 k17).g0 k31).range rfl (stg (Zp Zx rfl ((((((((hB4.g0 k7).g0 k8).gne k9 om).g0 k10).g0 k11).gne k12 om).g0 k17).g0 k31).range rfl ?_)))))))))
 refine stg (Zq fn30 rfl (Zkd (x := (5 : Int)) (y := (-7 : Int)) (n0 := n0) (Zu hn0 hb25) (((Sl.gSmall Zy (((Sl.gSmall Zy (hS3.g0 k8) k9 hB5 dc).g0 k10).g0 k11) k12 hB7 dc).g0 k17).g0 k31) can8 (by have := len8; omega) (((((((((((((hS1.gg0 k2).gg0 k3).gg0 k4).ggB k5 (hB1.g0 k4) dc om).ggB k6 (hB2.gne k5 om) dc om).gg0 k7).gg0 k8).ggB k9 hB5 dc om).gg0 k10).gg0 k11).ggB k12 hB7 dc om).gg0 k17).gg0 k31) ((((((((((((hS2.gg0 k3).gg0 k4).ggB k5 (hB1.g0 k4) dc om).ggB k6 (hB2.gne k5 om) dc om).gg0 k7).gg0 k8).ggB k9 hB5 dc om).gg0 k10).gg0 k11).ggB k12 hB7 dc om).gg0 k17).gg0 k31) (Bd.le (Zdz om) (show 2 ≤ 50 by decide)) (Bd.le (Zdz om) (show 2 ≤ 50 by decide))) ?_)
 rintro v17 w32 ⟨hq9, hv7⟩
 rw [show (Zcy Q8 (5 : Int) (-7 : Int)) = 9 from get8a] at hv7
 subst hv7
 have k32 := Zi hq9 none
 have hz17 := hq9.size
 have hb26 := Zf hb25 k32
 have hz18 := hb26.size
 refine stg (Zbu rfl rfl ?_)
 rw [show decide ((9 : Int) = 9) = true from rfl]
 refine st (Zr rfl rfl (st (Zc rfl (stg (Zp Za6 rfl ((((((hB6.g0 k10).g0 k11).gne k12 om).g0 k17).g0 k31).g0 k32).range rfl (stg (Zp Zx rfl (((((((((hB4.g0 k7).g0 k8).gne k9 om).g0 k10).g0 k11).gne k12 om).g0 k17).g0 k31).g0 k32).range rfl (stg (Zp Zx rfl ((((((((((hB3.gne k6 om).g0 k7).g0 k8).gne k9 om).g0 k10).g0 k11).gne k12 om).g0 k17).g0 k31).g0 k32).range rfl ?_)))))))))
 refine stg (Zq fn30 rfl (Zkd (x := (-7 : Int)) (y := (5 : Int)) (n0 := n0) (Zu hn0 hb26) ((((Sl.gSmall Zy (((Sl.gSmall Zy (hS3.g0 k8) k9 hB5 dc).g0 k10).g0 k11) k12 hB7 dc).g0 k17).g0 k31).g0 k32) can8 (by have := len8; omega) (((((((((((((hS2.gg0 k3).gg0 k4).ggB k5 (hB1.g0 k4) dc om).ggB k6 (hB2.gne k5 om) dc om).gg0 k7).gg0 k8).ggB k9 hB5 dc om).gg0 k10).gg0 k11).ggB k12 hB7 dc om).gg0 k17).gg0 k31).gg0 k32) ((((((((((((((hS1.gg0 k2).gg0 k3).gg0 k4).ggB k5 (hB1.g0 k4) dc om).ggB k6 (hB2.gne k5 om) dc om).gg0 k7).gg0 k8).ggB k9 hB5 dc om).gg0 k10).gg0 k11).ggB k12 hB7 dc om).gg0 k17).gg0 k31).gg0 k32) (Bd.le (Zdz om) (show 2 ≤ 50 by decide)) (Bd.le (Zdz om) (show 2 ≤ 50 by decide))) ?_)
 rintro v18 w33 ⟨hq10, hv8⟩
 rw [show (Zcy Q8 (-7 : Int) (5 : Int)) = 0 from get8b] at hv8
 subst hv8
 have k33 := Zi hq10 none
 have hz19 := hq10.size
 have hb27 := Zf hb26 k33
 have hz20 := hb27.size
 refine stg (Zbu rfl rfl ?_)
 rw [show decide ((0 : Int) = 0) = true from rfl]
 refine st (Zr rfl rfl (st (Zc rfl (stg (Zp Za6 rfl (((((((hB6.g0 k10).g0 k11).gne k12 om).g0 k17).g0 k31).g0 k32).g0 k33).range rfl (stg (Zq fn33 rfl (most_any (n0 := n0) (Zu hn0 hb27) (((((Sl.gSmall Zy (((Sl.gSmall Zy (hS3.g0 k8) k9 hB5 dc).g0 k10).g0 k11) k12 hB7 dc).g0 k17).g0 k31).g0 k32).g0 k33) can8 (by have := len8; omega)) ?_)))))))
 rintro v19 w34 ⟨hq11, hv9⟩
 rw [show (Zer Q8) = 9 from most8] at hv9
 subst hv9
 have k34 := Zi hq11 none
 have hz21 := hq11.size
 have hb28 := Zf hb27 k34
 have hz22 := hb28.size
 refine stg (Zbu rfl rfl ?_)
 rw [show decide ((9 : Int) = 9) = true from rfl]
 refine st (Zr rfl rfl (st (Zc rfl (stg (Zn Zcb rfl (stg (Zt Zb8 rfl (((((hB8.g0 k17).g0 k31).g0 k32).g0 k33).g0 k34).range (j := 0) rfl (stg (Zaq Zaw rfl ((((((Sl.gSmall Zy (hS4.g0 k11) k12 hB7 dc).g0 k17).g0 k31).g0 k32).g0 k33).g0 k34) ?_)))))))))
 rw [show ((([] : List Nd).length : Nat) : Int) = 0 from rfl]
 refine stg (Zbu rfl rfl ?_)
 rw [show decide ((0 : Int) = 0) = true from rfl]
 refine st (Zr rfl rfl (st (Zc rfl (stg (Zbe (ps := []) (ccs := []) (cells := [.slice none 0 0]) rfl rfl kr (stg (Zp Zx rfl ((((((((((((hB3.gne k6 om).g0 k7).g0 k8).gne k9 om).g0 k10).g0 k11).gne k12 om).g0 k17).g0 k31).g0 k32).g0 k33).g0 k34).range rfl (stg (Zp Zx rfl (((((((((((hB4.g0 k7).g0 k8).gne k9 om).g0 k10).g0 k11).gne k12 om).g0 k17).g0 k31).g0 k32).g0 k33).g0 k34).range rfl ?_)))))))))
 refine stg (Zq fn30 rfl (Zkd (x := (5 : Int)) (y := (-7 : Int)) (n0 := n0) (Zu hn0 hb28) ((Sl.nil0 (K := Kd.node) (F := fun _ => False)).at0 hb28) Ze3 dc ((((((((((((((((hS1.gg0 k2).gg0 k3).gg0 k4).ggB k5 (hB1.g0 k4) dc om).ggB k6 (hB2.gne k5 om) dc om).gg0 k7).gg0 k8).ggB k9 hB5 dc om).gg0 k10).gg0 k11).ggB k12 hB7 dc om).gg0 k17).gg0 k31).gg0 k32).gg0 k33).gg0 k34) (((((((((((((((hS2.gg0 k3).gg0 k4).ggB k5 (hB1.g0 k4) dc om).ggB k6 (hB2.gne k5 om) dc om).gg0 k7).gg0 k8).ggB k9 hB5 dc om).gg0 k10).gg0 k11).ggB k12 hB7 dc om).gg0 k17).gg0 k31).gg0 k32).gg0 k33).gg0 k34) (Bd.le (Zdz om) (show 2 ≤ 50 by decide)) (Bd.le (Zdz om) (show 2 ≤ 50 by decide))) ?_)
 rintro v20 w35 ⟨hq12, hv10⟩
 rw [show (Zcy ([] : List Nd) (5 : Int) (-7 : Int)) = 0 from get8c] at hv10
 subst hv10
 have k35 := Zi hq12 none
 have hz23 := hq12.size
 have hb29 := Zf hb28 k35
 have hz24 := hb29.size
 refine stg (Zbu rfl rfl ?_)
 rw [show decide ((0 : Int) = 0) = true from rfl]
 refine st (Zr rfl rfl (st (Zc rfl (stg (Zp Za6 rfl (((((((((hB6.g0 k10).g0 k11).gne k12 om).g0 k17).g0 k31).g0 k32).g0 k33).g0 k34).g0 k35).range rfl (stg (Zq fn35 rfl (Nd.rright_any (((((((Sl.gSmall Zy (((Sl.gSmall Zy (hS3.g0 k8) k9 hB5 dc).g0 k10).g0 k11) k12 hB7 dc).g0 k17).g0 k31).g0 k32).g0 k33).g0 k34).g0 k35) (by have := len8; omega)) ?_)))))))
 rintro v21 w36 ⟨hq13, hv11⟩
 rw [show (Zfr Q8) = true from right8] at hv11
 subst hv11
 have k36 := Zi hq13 none
 have hz25 := hq13.size
 have hb30 := Zf hb29 k36
 have hz26 := hb30.size
 refine st (Zr rfl rfl (st (Ze rfl (Zg (Zd (Zaa rfl rfl ?_))))))
 exact ⟨_, rfl, hb30, rfl⟩
end Go.Proofs.Ytfljelnfjbbknaa.Lm
namespace Go.Gw
open Go.RowKit
theorem great_in {l : List RCl} {m : Int} (h : Zf7 l m = false) {c : RCl} (hc : c ∈ l) (hx : Lim c.xs) (hy : Lim c.ys) : Bd 50 (Za8 c).x ∧ Bd 50 (Za8 c).y := by
  unfold Zf7 at h
  rw [Bool.or_eq_false_iff] at h
  have hg := List.any_eq_false.1 h.2 c hc
  unfold Zig at hg
  simp at hg
  exact ⟨sg_bd hx om _, sg_bd hy om _⟩
end Go.Gw
namespace Go.Proofs.Ytfljelnfjbbknaa.Lm
open Go.RowKit Go.Gw
end Go.Proofs.Ytfljelnfjbbknaa.Lm
namespace Go.Proofs.Ytfljelnfjbbknaa.Lm
open Go.RowKit Go.Gw
set_option maxHeartbeats 1000000 in
theorem cells_any {w : World} {F : Nat → Prop} {va : Value} {l : List RCl} {n0 : Nat} (hn0 : n0 ≤ w.heap.size) (hl : Sl (Kd.rcell 83 n0) w F va l) {ca cb : Value} {c : RCl} (hca : Sl Kd.u32 w (G 83 n0 w) ca c.xs) (hcb : Sl Kd.u32 w (G 83 n0 w) cb c.ys) (hstc : 0 ≤ c.st ∧ c.st ≤ 255)  :
  Calls Try.prog 6 [va, .agg [.bool c.xn, ca, .bool c.yn, cb, .int .u8 c.st].toArray].toArray w (Zbh w fun v _ => v = .bool true) := by
 have hb0 := Below.refl w.heap.size w
 have hln1 := hl.lenle
 refine enter Try.func6 rfl rfl (Zh (Zb (st (Zbs rfl ?_))))
 intro g1 w1 hg1 hB1 k1 hs1
 change Blk w1 g1 47 [.bool c.xn, ca, .bool c.yn, cb, .int .u8 c.st].toArray at hB1
 have hb1 := Zf hb0 k1
 refine st (Ze rfl (Zg (Zd (Zh (Zh (Zb (st (Zq fn25 rfl (alive8_any (n0 := n0) (Zu hn0 hb1)) ?_))))))))
 rintro _ w2 ⟨hq1, rfl⟩
 have k2 := Zi hq1 none
 have hz1 := hq1.size
 have hb2 := Zf hb1 k2
 have hz2 := hb2.size
 refine st (Zdd rfl (Zg (Zd (Zbv rfl (Zo (Zd (Zh ?_)))))))
 refine Zb (st (Zc rfl (st (Zq fn18 rfl (quad_any (m := 30) (n0 := n0) (Zu hn0 hb2) (hl.at0 hb2) om) ?_))))
 rintro _ w3 ⟨hq2, sv1, rfl, hS1⟩
 have hS2 := hS1.loc
 have k3 := Zi hq2 none
 have hz3 := hq2.size
 have hb3 := Zf hb2 k3
 have hz4 := hb3.size
 refine st (Zc rfl (st (Zad rfl rfl (st (Zad rfl rfl ?_)))))
 have hlt_1 := (((hB1.g0 k2).g0 k3)).lt
 refine st (Zan Zez ?_)
 intro g2 w4 hg2 hB2 k4 hs2
 have hz5 := hb3.size
 have hb4 := Zf hb3 k4
 refine st0 (Zv Za6 rfl rfl hB2 (by simp only [List.all_cons, List.all_nil, hS2.one, Bool.and_true, Bool.and_self] <;> rfl) rfl rfl ?_)
 intro w5 hB3 k5 hs3
 have hb5 := belowa hb4 k5
 refine st (Ze rfl (Zg (Zd (Zh (Zh (Zb (st (Zc rfl ?_))))))))
 refine st (Zdd rfl (st (Zc rfl ?_)))
 refine Zd7 21 rfl (fun h1 => ?_) (fun h1 => ?_)
 ·refine Zj rfl rfl (Zj rfl rfl (Zj rfl rfl (st (Zr rfl rfl (st (Zc rfl (Zj rfl rfl (Zj rfl rfl ?_))))))))
  refine Zj rfl rfl (Zj rfl rfl (st (Zr rfl rfl (st (Zc rfl (Zj rfl rfl (Zj rfl rfl (Zj rfl rfl ?_))))))))
  refine Zj rfl rfl (st (Zr rfl rfl (Zg (Zd (Zb0 rfl (Zh (Zb ?_)))))))
  refine st (Ze rfl (Zg (Zd (Zaa rfl rfl ?_))))
  exact ⟨_, rfl, hb5, rfl⟩
 have hq := quad_ok (m := 30) hl (by simpa using h1)
 refine stg (Zp Zj0 rfl ((((hB1.g0 k2).g0 k3).g0 k4).gne k5 om).range rfl (stg (Zau (ps := [(0, .tmp 22)]) (ccs := [#[.bool c.xn, ca, .bool c.yn, cb, .int .u8 c.st]]) (e := 47) (cells := [.bool c.xn, ca, .bool c.yn, cb, .int .u8 c.st]) rfl rfl kr dc nz47 ?_)))
 intro g3 w6 hg3 hB4 k6 hs4
 have hb6 := Zf hb5 k6
 have hz6 := hb6.size
 have hS3 : Sl (Kd.rcell 83 n0) w6 (fun _ => False) (.slice (some ⟨g3, 0, none⟩) 1 1) [c] := lit_rcell (c := c) hB4 ((((((hca.gg0 k1).gg0 k2).gg0 k3).gg0 k4).ggB k5 hB2 dc om).gg0 k6) ((((((hcb.gg0 k1).gg0 k2).gg0 k3).gg0 k4).ggB k5 hB2 dc om).gg0 k6) hstc
 refine stg (Zq fn26 rfl (great_any hS3) ?_)
 rintro _ w7 ⟨hq3, rfl⟩
 have k7 := Zi hq3 none
 have hz7 := hq3.size
 have hb7 := Zf hb6 k7
 have hz8 := hb7.size
 refine st (Zr rfl rfl (st (Zc rfl ?_)))
 refine Zd7 26 rfl (fun h2 => ?_) (fun h2 => ?_)
 ·refine Zj rfl rfl (Zj rfl rfl (Zj rfl rfl (Zj rfl rfl (st (Zr rfl rfl (st (Zc rfl (Zj rfl rfl ?_))))))))
  refine Zj rfl rfl (Zj rfl rfl (Zj rfl rfl (st (Zr rfl rfl (Zg (Zd (Zb0 rfl ?_)))))))
  refine Zh (Zb (st (Ze rfl (Zg (Zd (Zaa rfl rfl ?_))))))
  exact ⟨_, rfl, hb7, rfl⟩
 have hgr := h2
 refine stg (Zn Zc4 rfl (stg (Zbf (us := [.bool c.xn, ca]) Zx rfl ((((((hB1.g0 k2).g0 k3).g0 k4).gne k5 om).g0 k6).g0 k7).range (j := 0) rfl rfl (stg (Zq fn27 rfl (Zhb ((((((((hca.gg0 k1).gg0 k2).gg0 k3).gg0 k4).ggB k5 hB2 dc om).gg0 k6).gg0 k7)).none) ?_)))))
 rintro _ w8 ⟨hq4, rfl⟩
 have k8 := Zi hq4 none
 have hz9 := hq4.size
 have hb8 := Zf hb7 k8
 have hz10 := hb8.size
 refine stg (Zdd rfl (st (Zr rfl rfl (st (Zc rfl ?_)))))
 refine Zd7 32 rfl (fun h3 => ?_) (fun h3 => ?_)
 ·refine Zj rfl rfl (Zj rfl rfl (Zj rfl rfl (Zj rfl rfl (st (Zr rfl rfl (Zg (Zd ?_)))))))
  refine Zb0 rfl (Zh (Zb (st (Ze rfl (Zg (Zd (Zaa rfl rfl ?_)))))))
  exact ⟨_, rfl, hb8, rfl⟩
 have hrxc : bigR c.xn c.xs = true := by simpa using h3
 refine stg (Zn Zd0 rfl (stg (Zbf (us := [.bool c.yn, cb]) Zx rfl (((((((hB1.g0 k2).g0 k3).g0 k4).gne k5 om).g0 k6).g0 k7).g0 k8).range (j := 2) rfl rfl (stg (Zq fn27 rfl (Zhb (((((((((hcb.gg0 k1).gg0 k2).gg0 k3).gg0 k4).ggB k5 hB2 dc om).gg0 k6).gg0 k7).gg0 k8)).none) ?_)))))
 rintro _ w9 ⟨hq5, rfl⟩
 have k9 := Zi hq5 none
 have hz11 := hq5.size
 have hb9 := Zf hb8 k9
 have hz12 := hb9.size
 refine stg (Zdd rfl (st (Zr rfl rfl (Zg (Zd ?_)))))
 refine Zba rfl (fun h4 => ?_) (fun h4 => ?_)
 ·refine Zh (Zb (st (Ze rfl (Zg (Zd (Zaa rfl rfl ?_))))))
  exact ⟨_, rfl, hb9, rfl⟩
 have hryc : bigR c.yn c.ys = true := by simpa using h4
 obtain ⟨hxnc, hxsc⟩ := Zkm (Zay hca) hrxc
 obtain ⟨hync, hysc⟩ := Zkm (Zay hcb) hryc
 change c.xn = decide ((Za8 c).x < 0) at hxnc
 change c.xs = ml (Za8 c).x at hxsc
 change c.yn = decide ((Za8 c).y < 0) at hync
 change c.ys = ml (Za8 c).y at hysc
 have hB5 := ((((((((hB1.g0 k2).g0 k3).g0 k4).gne k5 om).g0 k6).g0 k7).g0 k8).g0 k9)
 rw [hxnc, hync] at hB5
 have hS4 := (((((((((hca.gg0 k1).gg0 k2).gg0 k3).gg0 k4).ggB k5 hB2 dc om).gg0 k6).gg0 k7).gg0 k8).gg0 k9)
 rw [hxsc] at hS4
 have hS5 := (((((((((hcb.gg0 k1).gg0 k2).gg0 k3).gg0 k4).ggB k5 hB2 dc om).gg0 k6).gg0 k7).gg0 k8).gg0 k9)
 rw [hysc] at hS5
 have hbdc := great_in hgr (c := c) (by simp) (Zay hca) (Zay hcb)
 refine Zo (Zd (Zh (Zb (st (Zhr (K := Kd.node) (base := w9.heap.size) (F := (fun _ => False)) Zaw om (fun _ h => h.elim) ?_)))))
 intro v1 w10 hO1 k10
 have hb10 := Zf hb9 k10
 have hz13 := hb10.size
 refine st (Zn Zcb rfl (st (Zt Zb8 rfl (((((hB3.g0 k6).g0 k7).g0 k8).g0 k9).g0 k10).range (j := 0) rfl ?_)))
 refine st (Za4 (K := Kd.node) Zaw rfl rfl hO1 (((((((Sl.gSmall Zy (hS2.g0 k4) k5 hB2 dc).g0 k6).g0 k7).g0 k8).g0 k9).g0 k10).weak (fun k hk h => h.elim (fun h => h.elim) (fun h => by have h9 := (hO1.lt k h).1; exact Or.inr (by have h0_ := k1.size; have h1_ := k2.size; have h2_ := k3.size; have h3_ := k4.size; have h4_ := k5.size; have h5_ := k6.size; have h6_ := k7.size; have h7_ := k8.size; have h8_ := k9.size; have h9_ := k10.size; omega)))) Zb6 (by have := hq.nodes; have := hq.len; first | omega | (simp; omega)) (by have := hq.nodes; have := hq.len; first | omega | (simp; omega)) (by first | exact Nat.le_refl _ | omega | (have h0_ := k4.size; have h1_ := k5.size; have h2_ := k6.size; have h3_ := k7.size; have h4_ := k8.size; have h5_ := k9.size; have h6_ := k10.size; omega)) (fun _ h => h.elim) ?_)
 intro v2 w11 hO2 k11 hr1
 rw [List.nil_append] at hO2
 have hb11 := hb10.grown k11 hb10.size (fun k_ hk_ => by have h9_ := (hO1.lt k_ hk_).1; omega)
 have hz14 := hb11.size
 refine st (Zbe (ps := [(0, .tmp 41)]) (ccs := [#[v2]]) (cells := [v2]) rfl (by simp only [List.map_cons, List.map_nil, hO2.cells1] <;> rfl) kr ?_)
 have hlt_2 := (((hB5.g0 k10).grown k11 (fun e => by have := hO1.ne_blk (hB5.g0 k10) dc; simp_all))).lt
 have hlt_3 := (((((((hB3.g0 k6).g0 k7).g0 k8).g0 k9).g0 k10).grown k11 (fun e => by have := hO1.ne_blk (((((hB3.g0 k6).g0 k7).g0 k8).g0 k9).g0 k10) dc; simp_all))).lt
 have hlt_4 := ((((((hB4.g0 k7).g0 k8).g0 k9).g0 k10).grown k11 (fun e => by have := hO1.ne_blk ((((hB4.g0 k7).g0 k8).g0 k9).g0 k10) dc; simp_all))).lt
 refine st (Zan Zez ?_)
 intro g4 w12 hg4 hB6 k12 hs5
 have hz15 := hb11.size
 have hb12 := Zf hb11 k12
 have hO3 := hO2.g0 k12
 refine st0 (Zv Za6 rfl rfl hB6 (by simp only [List.all_cons, List.all_nil, hO3.one, Bool.and_true, Bool.and_self] <;> rfl) rfl rfl ?_)
 intro w13 hB7 k13 hs6
 have hb13 := belowa hb12 k13
 have hO4 := Own.keptF Zy hO3 k13 (hO3.ne_blk hB6 dc)
 refine Zg (Zd (Zh (Zb (st (Zp Za6 rfl hB7.range rfl (st (Zn Zc4 rfl (st (Zbf (us := [.bool (decide ((Za8 c).x < 0)), ca]) Zx rfl ((((hB5.g0 k10).grown k11 (fun e => by have := hO1.ne_blk (hB5.g0 k10) dc; simp_all)).g0 k12).gne k13 om).range (j := 0) rfl rfl ?_)))))))))
 refine st (Zn Zd0 rfl (st (Zbf (us := [.bool (decide ((Za8 c).y < 0)), cb]) Zx rfl ((((hB5.g0 k10).grown k11 (fun e => by have := hO1.ne_blk (hB5.g0 k10) dc; simp_all)).g0 k12).gne k13 om).range (j := 2) rfl rfl (st (Zn fld47_2 rfl (st (Zt one5 rfl ((((hB5.g0 k10).grown k11 (fun e => by have := hO1.ne_blk (hB5.g0 k10) dc; simp_all)).g0 k12).gne k13 om).range (j := 4) rfl ?_)))))))
 refine st (Zq fn28 rfl (set_any (x := (Za8 c).x) (y := (Za8 c).y) (s := c.st) (n0 := n0) (Zu hn0 hb13) hO4.sl hq.can (by have := hq.nodes; have := hq.len; omega) ((((hS4.gg0 k10).ggO k11 hO1 dc om).gg0 k12).ggB k13 hB6 dc om) ((((hS5.gg0 k10).ggO k11 hO1 dc om).gg0 k12).ggB k13 hB6 dc om) (Bd.le hbdc.1 (show 50 ≤ 50 by decide)) (Bd.le hbdc.2 (show 50 ≤ 50 by decide)) (by first | omega | decide)) ?_)
 rintro _ w14 ⟨hq6, sv2, rfl, hS6⟩
 have k14 := Zi hq6 none
 have hz16 := hq6.size
 have hb14 := Zf hb13 k14
 have hz17 := hb14.size
 have hO5 := hO4.g0 k14
 refine st (Zc rfl (st (Zad rfl rfl (st (Zad rfl rfl ?_)))))
 have hlt_5 := ((((((hB5.g0 k10).grown k11 (fun e => by have := hO1.ne_blk (hB5.g0 k10) dc; simp_all)).g0 k12).gne k13 om).g0 k14)).lt
 have hlt_6 := ((((((((((hB3.g0 k6).g0 k7).g0 k8).g0 k9).g0 k10).grown k11 (fun e => by have := hO1.ne_blk (((((hB3.g0 k6).g0 k7).g0 k8).g0 k9).g0 k10) dc; simp_all)).g0 k12).gne k13 om).g0 k14)).lt
 have hlt_7 := (((((((((hB4.g0 k7).g0 k8).g0 k9).g0 k10).grown k11 (fun e => by have := hO1.ne_blk ((((hB4.g0 k7).g0 k8).g0 k9).g0 k10) dc; simp_all)).g0 k12).gne k13 om).g0 k14)).lt
 have hlt_8 := ((hB7.g0 k14)).lt
 refine st (Zan Zez ?_)
 intro g5 w15 hg5 hB8 k15 hs7
 have hz18 := hb14.size
 have hb15 := Zf hb14 k15
 have hO6 := hO5.g0 k15
 refine st0 (Zv Za6 rfl rfl hB8 (by simp only [List.all_cons, List.all_nil, hS6.one, Bool.and_true, Bool.and_self] <;> rfl) rfl rfl ?_)
 intro w16 hB9 k16 hs8
 have hb16 := belowa hb15 k16
 have hO7 := Own.keptF Zy hO6 k16 (hO6.ne_blk hB8 dc)
 refine st (Ze rfl (Zg (Zd (Zh (Zb (st (Zp Za6 rfl (((((((((((hB3.g0 k6).g0 k7).g0 k8).g0 k9).g0 k10).grown k11 (fun e => by have := hO1.ne_blk (((((hB3.g0 k6).g0 k7).g0 k8).g0 k9).g0 k10) dc; simp_all)).g0 k12).gne k13 om).g0 k14).g0 k15).gne k16 om).range rfl (st (Zn Zc4 rfl ?_)))))))))
 refine st (Zbf (us := [.bool (decide ((Za8 c).x < 0)), ca]) Zx rfl (((((((hB5.g0 k10).grown k11 (fun e => by have := hO1.ne_blk (hB5.g0 k10) dc; simp_all)).g0 k12).gne k13 om).g0 k14).g0 k15).gne k16 om).range (j := 0) rfl rfl (st (Zn Zd0 rfl (st (Zbf (us := [.bool (decide ((Za8 c).y < 0)), cb]) Zx rfl (((((((hB5.g0 k10).grown k11 (fun e => by have := hO1.ne_blk (hB5.g0 k10) dc; simp_all)).g0 k12).gne k13 om).g0 k14).g0 k15).gne k16 om).range (j := 2) rfl rfl (st (Zn fld47_2 rfl ?_)))))))
 refine st (Zt one5 rfl (((((((hB5.g0 k10).grown k11 (fun e => by have := hO1.ne_blk (hB5.g0 k10) dc; simp_all)).g0 k12).gne k13 om).g0 k14).g0 k15).gne k16 om).range (j := 4) rfl ?_)
 refine st (Zq fn29 rfl (rset_any (x := (Za8 c).x) (y := (Za8 c).y) (s := c.st) (n0 := n0) (Zu hn0 hb16) (Sl.gSmall Zy (((Sl.gSmall Zy ((Sl.gO ((((((Sl.gSmall Zy (hS2.g0 k4) k5 hB2 dc).g0 k6).g0 k7).g0 k8).g0 k9).g0 k10) k11 (fun g_ h_ => by have h9_ := (hO1.lt g_ h_).1; have h0_ := k4.size; have h1_ := k5.size; have h2_ := k6.size; have h3_ := k7.size; have h4_ := k8.size; have h5_ := k9.size; have h6_ := k10.size; omega)).g0 k12) k13 hB6 dc).g0 k14).g0 k15) k16 hB8 dc) hq.can (by have := hq.nodes; have := hq.len; omega) (((((((hS4.gg0 k10).ggO k11 hO1 dc om).gg0 k12).ggB k13 hB6 dc om).gg0 k14).gg0 k15).ggB k16 hB8 dc om) (((((((hS5.gg0 k10).ggO k11 hO1 dc om).gg0 k12).ggB k13 hB6 dc om).gg0 k14).gg0 k15).ggB k16 hB8 dc om) (Bd.le hbdc.1 (show 50 ≤ 50 by decide)) (Bd.le hbdc.2 (show 50 ≤ 50 by decide)) (by first | omega | decide)) ?_)
 rintro _ w17 ⟨hq7, sv3, rfl, hS7⟩
 have k17 := Zi hq7 none
 have hz19 := hq7.size
 have hb17 := Zf hb16 k17
 have hz20 := hb17.size
 have hO8 := hO7.g0 k17
 refine st (Zc rfl (st (Zad rfl rfl (st (Zad rfl rfl ?_)))))
 have hlt_9 := (((((((((hB5.g0 k10).grown k11 (fun e => by have := hO1.ne_blk (hB5.g0 k10) dc; simp_all)).g0 k12).gne k13 om).g0 k14).g0 k15).gne k16 om).g0 k17)).lt
 have hlt_10 := (((((((((((((hB3.g0 k6).g0 k7).g0 k8).g0 k9).g0 k10).grown k11 (fun e => by have := hO1.ne_blk (((((hB3.g0 k6).g0 k7).g0 k8).g0 k9).g0 k10) dc; simp_all)).g0 k12).gne k13 om).g0 k14).g0 k15).gne k16 om).g0 k17)).lt
 have hlt_11 := ((((((((((((hB4.g0 k7).g0 k8).g0 k9).g0 k10).grown k11 (fun e => by have := hO1.ne_blk ((((hB4.g0 k7).g0 k8).g0 k9).g0 k10) dc; simp_all)).g0 k12).gne k13 om).g0 k14).g0 k15).gne k16 om).g0 k17)).lt
 have hlt_12 := (((((hB7.g0 k14).g0 k15).gne k16 om).g0 k17)).lt
 have hlt_13 := ((hB9.g0 k17)).lt
 refine st (Zan Zez ?_)
 intro g6 w18 hg6 hB10 k18 hs9
 have hz21 := hb17.size
 have hb18 := Zf hb17 k18
 have hO9 := hO8.g0 k18
 refine st0 (Zv Za6 rfl rfl hB10 (by simp only [List.all_cons, List.all_nil, hS7.one, Bool.and_true, Bool.and_self] <;> rfl) rfl rfl ?_)
 intro w19 hB11 k19 hs10
 have hb19 := belowa hb18 k19
 have hO10 := Own.keptF Zy hO9 k19 (hO9.ne_blk hB10 dc)
 refine st (Ze rfl (Zg (Zd (Zh ?_))))
 have h5 : ((Zcy ((Zbp l 30).1) ((Za8 c).x) ((Za8 c).y)) = (Zcy ((Zbp l 30).1) ((Za8 c).x) ((Za8 c).y))) := Classical.byContradiction fun h5 => absurd rfl h5
 have h6 : ((Zc6 ((Zbp l 30).1) ((Za8 c).x) ((Za8 c).y) c.st).2 = (Zc6 ((Zbp l 30).1) ((Za8 c).x) ((Za8 c).y) c.st).2) := Classical.byContradiction fun h6 => absurd rfl h6
 have h7 : ((Zer ((Zbp l 30).1)) = (Zer ((Zbp l 30).1))) := Classical.byContradiction fun h7 => absurd rfl h7
 refine Zce 35 GN [xi 65 <| .agg [v2].toArray, xi 66 <| .pointer (some ⟨g1, 0 + 0, none⟩), xi 67 <| .agg [.bool (decide ((Za8 c).x < 0)), ca].toArray, xi 68 <| .pointer (some ⟨g1, 0 + 2, none⟩), xi 69 <| .agg [.bool (decide ((Za8 c).y < 0)), cb].toArray, xi 70 <| .int .u8 (Zcy ((Zbp l 30).1) ((Za8 c).x) ((Za8 c).y)), xi 71 <| .agg [sv1].toArray, xi 72 <| .pointer (some ⟨g1, 0 + 0, none⟩), xi 73 <| .agg [.bool (decide ((Za8 c).x < 0)), ca].toArray, xi 74 <| .pointer (some ⟨g1, 0 + 2, none⟩), xi 75 <| .agg [.bool (decide ((Za8 c).y < 0)), cb].toArray, xi 76 <| .int .u8 (Zcy ((Zbp l 30).1) ((Za8 c).x) ((Za8 c).y)), xi 77 <| .bool (decide ((Zcy ((Zbp l 30).1) ((Za8 c).x) ((Za8 c).y)) = (Zcy ((Zbp l 30).1) ((Za8 c).x) ((Za8 c).y)))), xi 78 <| .bool true, xi 79 <| .agg [sv2].toArray, xi 80 <| .agg [sv3].toArray, xi 81 <| .bool true, xi 82 <| .bool true, xi 83 <| .bool true, xi 84 <| .int .i64 ((Zc6 ((Zbp l 30).1) ((Za8 c).x) ((Za8 c).y) c.st).2), xi 85 <| .int .i64 ((Zc6 ((Zbp l 30).1) ((Za8 c).x) ((Za8 c).y) c.st).2), xi 86 <| .bool (decide ((Zc6 ((Zbp l 30).1) ((Za8 c).x) ((Za8 c).y) c.st).2 = (Zc6 ((Zbp l 30).1) ((Za8 c).x) ((Za8 c).y) c.st).2)), xi 87 <| .bool (decide ((Zc6 ((Zbp l 30).1) ((Za8 c).x) ((Za8 c).y) c.st).2 = (Zc6 ((Zbp l 30).1) ((Za8 c).x) ((Za8 c).y) c.st).2)), xi 88 <| .bool true, xi 89 <| .agg [v2].toArray, xi 90 <| .int .u8 (Zer ((Zbp l 30).1)), xi 91 <| .agg [sv1].toArray, xi 92 <| .int .u8 (Zer ((Zbp l 30).1)), xi 93 <| .bool (decide ((Zer ((Zbp l 30).1)) = (Zer ((Zbp l 30).1)))), xi 94 <| .bool (decide ((Zer ((Zbp l 30).1)) = (Zer ((Zbp l 30).1)))), xi 95 <| .bool true, xi 96 <| .agg [v2].toArray, xi 97 <| .agg [sv1].toArray, xi 98 <| .bool true, xi 99 <| .bool true] [[], [], [1], [], [3], [0, 2, 4], [], [], [7], [], [9], [6, 8, 10], [5, 11], [12], [13], [13], [13, 14, 15], [13, 16], [17], [18], [18], [18, 19, 20], [18, 21], [22], [23], [23, 24], [23], [23, 26], [23, 25, 27], [23, 28], [29], [30], [30], [30, 31, 32], [30, 33]] [(3, (pp g1)), (4, .bool false), (5, (pp g2)), (7, (pp g4)), (8, (pp g5)), (9, .int .i64 ((Zc6 ((Zbp l 30).1) ((Za8 c).x) ((Za8 c).y) c.st).2)), (10, (pp g6)), (11, .int .i64 ((Zc6 ((Zbp l 30).1) ((Za8 c).x) ((Za8 c).y) c.st).2))] sb kr kr Za gnt ⟨kv, kv, kv, kv, kv, kv, kv, kv, kv, kv, kv, kv, kv, kv, kv, kv, kv, kv, kv, kv, kv, kv, kv, kv, kv, kv, kv, kv, kv, kv, kv, kv, kv, kv, kv, trivial⟩ ?_
 intro w26 k26 hs11
 have hb20 := Zf hb19 k26
 have hO11 := hO10.g0 k26
 refine ⟨⟨?_, ?_, ?_, ?_, ?_, ?_, ?_, ?_, ?_, ?_, ?_, ?_, ?_, ?_, ?_, ?_, ?_, ?_, ?_, ?_, ?_, ?_, ?_, ?_, ?_, ?_, ?_, ?_, ?_, ?_, ?_, ?_, ?_, ?_, ?_, trivial⟩, ?_⟩
 ·intro w27 k27
  refine op1 (Zp Za6 rfl ((((((((hB7.g0 k14).g0 k15).gne k16 om).g0 k17).g0 k18).gne k19 om).g0 k26).g0 k27).range rfl ?_)
  exact ⟨rfl, Za _⟩
 ·intro w28 k28
  refine op1 (Zn Zc4 rfl ?_)
  exact ⟨rfl, Za _⟩
 ·intro w29 k29
  rintro _ rfl
  refine op1 (Zbf (us := [.bool (decide ((Za8 c).x < 0)), ca]) Zx rfl ((((((((((((hB5.g0 k10).grown k11 (fun e => by have := hO1.ne_blk (hB5.g0 k10) dc; simp_all)).g0 k12).gne k13 om).g0 k14).g0 k15).gne k16 om).g0 k17).g0 k18).gne k19 om).g0 k26).g0 k29).range (j := 0) rfl rfl ?_)
  exact ⟨rfl, Za _⟩
 ·intro w30 k30
  refine op1 (Zn Zd0 rfl ?_)
  exact ⟨rfl, Za _⟩
 ·intro w31 k31
  rintro _ rfl
  refine op1 (Zbf (us := [.bool (decide ((Za8 c).y < 0)), cb]) Zx rfl ((((((((((((hB5.g0 k10).grown k11 (fun e => by have := hO1.ne_blk (hB5.g0 k10) dc; simp_all)).g0 k12).gne k13 om).g0 k14).g0 k15).gne k16 om).g0 k17).g0 k18).gne k19 om).g0 k26).g0 k31).range (j := 2) rfl rfl ?_)
  exact ⟨rfl, Za _⟩
 ·intro w32 k32
  have hb26 := Zf hb20 k32
  have hO17 := hO11.g0 k32
  rintro _ rfl _ rfl _ rfl
  refine op1 (Zq fn30 rfl (Zkd (x := (Za8 c).x) (y := (Za8 c).y) (n0 := n0) (Zu hn0 hb26) hO17.sl hq.can (by have := hq.nodes; have := hq.len; omega) ((((((((((((hS4.gg0 k10).ggO k11 hO1 dc om).gg0 k12).ggB k13 hB6 dc om).gg0 k14).gg0 k15).ggB k16 hB8 dc om).gg0 k17).gg0 k18).ggB k19 hB10 dc om).gg0 k26).gg0 k32) ((((((((((((hS5.gg0 k10).ggO k11 hO1 dc om).gg0 k12).ggB k13 hB6 dc om).gg0 k14).gg0 k15).ggB k16 hB8 dc om).gg0 k17).gg0 k18).ggB k19 hB10 dc om).gg0 k26).gg0 k32) (Bd.le hbdc.1 (show 50 ≤ 50 by decide)) (Bd.le hbdc.2 (show 50 ≤ 50 by decide))) ?_)
  rintro _ w33 ⟨hq14, rfl⟩
  have k33 := Zi hq14 none
  have hz22 := hq14.size
  have hb27 := Zf hb26 k33
  have hz23 := hb27.size
  have hcr1 := celQ_rng hq.can ((Za8 c).x) ((Za8 c).y)
  exact ⟨rfl, k33⟩
 ·intro w34 k34
  refine op1 (Zp Za6 rfl ((((((((((((((((hB3.g0 k6).g0 k7).g0 k8).g0 k9).g0 k10).grown k11 (fun e => by have := hO1.ne_blk (((((hB3.g0 k6).g0 k7).g0 k8).g0 k9).g0 k10) dc; simp_all)).g0 k12).gne k13 om).g0 k14).g0 k15).gne k16 om).g0 k17).g0 k18).gne k19 om).g0 k26).g0 k34).range rfl ?_)
  exact ⟨rfl, Za _⟩
 ·intro w35 k35
  refine op1 (Zn Zc4 rfl ?_)
  exact ⟨rfl, Za _⟩
 ·intro w36 k36
  rintro _ rfl
  refine op1 (Zbf (us := [.bool (decide ((Za8 c).x < 0)), ca]) Zx rfl ((((((((((((hB5.g0 k10).grown k11 (fun e => by have := hO1.ne_blk (hB5.g0 k10) dc; simp_all)).g0 k12).gne k13 om).g0 k14).g0 k15).gne k16 om).g0 k17).g0 k18).gne k19 om).g0 k26).g0 k36).range (j := 0) rfl rfl ?_)
  exact ⟨rfl, Za _⟩
 ·intro w37 k37
  refine op1 (Zn Zd0 rfl ?_)
  exact ⟨rfl, Za _⟩
 ·intro w38 k38
  rintro _ rfl
  refine op1 (Zbf (us := [.bool (decide ((Za8 c).y < 0)), cb]) Zx rfl ((((((((((((hB5.g0 k10).grown k11 (fun e => by have := hO1.ne_blk (hB5.g0 k10) dc; simp_all)).g0 k12).gne k13 om).g0 k14).g0 k15).gne k16 om).g0 k17).g0 k18).gne k19 om).g0 k26).g0 k38).range (j := 2) rfl rfl ?_)
  exact ⟨rfl, Za _⟩
 ·intro w39 k39
  have hb33 := Zf hb20 k39
  rintro _ rfl _ rfl _ rfl
  refine op1 (Zq fn31 rfl (rget_any (x := (Za8 c).x) (y := (Za8 c).y) (n0 := n0) (Zu hn0 hb33) (((Sl.gSmall Zy (((Sl.gSmall Zy (((Sl.gSmall Zy ((Sl.gO ((((((Sl.gSmall Zy (hS2.g0 k4) k5 hB2 dc).g0 k6).g0 k7).g0 k8).g0 k9).g0 k10) k11 (fun g_ h_ => by have h9_ := (hO1.lt g_ h_).1; have h0_ := k4.size; have h1_ := k5.size; have h2_ := k6.size; have h3_ := k7.size; have h4_ := k8.size; have h5_ := k9.size; have h6_ := k10.size; omega)).g0 k12) k13 hB6 dc).g0 k14).g0 k15) k16 hB8 dc).g0 k17).g0 k18) k19 hB10 dc).g0 k26).g0 k39) hq.can (by have := hq.nodes; have := hq.len; omega) ((((((((((((hS4.gg0 k10).ggO k11 hO1 dc om).gg0 k12).ggB k13 hB6 dc om).gg0 k14).gg0 k15).ggB k16 hB8 dc om).gg0 k17).gg0 k18).ggB k19 hB10 dc om).gg0 k26).gg0 k39) ((((((((((((hS5.gg0 k10).ggO k11 hO1 dc om).gg0 k12).ggB k13 hB6 dc om).gg0 k14).gg0 k15).ggB k16 hB8 dc om).gg0 k17).gg0 k18).ggB k19 hB10 dc om).gg0 k26).gg0 k39) (Bd.le hbdc.1 (show 50 ≤ 50 by decide)) (Bd.le hbdc.2 (show 50 ≤ 50 by decide))) ?_)
  rintro _ w40 ⟨hq15, rfl⟩
  have k40 := Zi hq15 none
  have hz24 := hq15.size
  have hb34 := Zf hb33 k40
  have hz25 := hb34.size
  have hcr2 := celQ_rng hq.can ((Za8 c).x) ((Za8 c).y)
  exact ⟨rfl, k40⟩
 ·intro w41 k41
  rintro _ rfl _ rfl
  refine op1 (Zbu rfl rfl ?_)
  exact ⟨rfl, Za _⟩
 ·intro w42 k42
  rintro _ rfl
  refine op1 (Zc rfl ?_)
  exact ⟨(by rw [decide_eq_true h5]), Za _⟩
 ·intro w43 k43
  rintro _ rfl
  refine Zas (Zp Za6 rfl (((((hB9.g0 k17).g0 k18).gne k19 om).g0 k26).g0 k43).range rfl ?_)
  exact ⟨rfl, Za _⟩
 ·intro w44 k44
  rintro _ rfl
  refine Zas (Zp Za6 rfl ((hB11.g0 k26).g0 k44).range rfl ?_)
  exact ⟨rfl, Za _⟩
 ·intro w45 k45
  have hb39 := Zf hb20 k45
  rintro _ rfl _ rfl _ rfl
  refine Zas (Zq fn32 rfl (Nd.rsame_any ((((Sl.gSmall Zy (((Sl.gSmall Zy (hS6.g0 k15) k16 hB8 dc).g0 k17).g0 k18) k19 hB10 dc).g0 k26).g0 k45)).none ((((Sl.gSmall Zy (hS7.g0 k18) k19 hB10 dc).g0 k26).g0 k45)).none) ?_)
  rintro v5 w46 ⟨hq16, hv3⟩
  rw [show (Nd.eqv ((Zc6 ((Zbp l 30).1) ((Za8 c).x) ((Za8 c).y) c.st).1) ((Zc6 ((Zbp l 30).1) ((Za8 c).x) ((Za8 c).y) c.st).1)) = true from (eqv_self _)] at hv3
  subst hv3
  have k46 := Zi hq16 none
  have hz26 := hq16.size
  have hb40 := Zf hb39 k46
  have hz27 := hb40.size
  exact ⟨rfl, k46⟩
 ·intro w47 k47
  rintro _ rfl _ rfl
  refine op1 (Zr rfl rfl ?_)
  exact ⟨rfl, Za _⟩
 ·intro w48 k48
  rintro _ rfl
  refine op1 (Zc rfl ?_)
  exact ⟨rfl, Za _⟩
 ·intro w49 k49
  rintro _ rfl
  refine Zas (Zc rfl ?_)
  exact ⟨rfl, Za _⟩
 ·intro w50 k50
  rintro _ rfl
  refine Zas (Zc rfl ?_)
  exact ⟨rfl, Za _⟩
 ·intro w51 k51
  rintro _ rfl _ rfl _ rfl
  refine Zas (Zbu rfl rfl ?_)
  exact ⟨rfl, Za _⟩
 ·intro w52 k52
  rintro _ rfl _ rfl
  refine op1 (Zr rfl rfl ?_)
  exact ⟨rfl, Za _⟩
 ·intro w53 k53
  rintro _ rfl
  refine op1 (Zc rfl ?_)
  exact ⟨(by rw [decide_eq_true h6]), Za _⟩
 ·intro w54 k54
  rintro _ rfl
  refine Zas (Zp Za6 rfl ((((((((hB7.g0 k14).g0 k15).gne k16 om).g0 k17).g0 k18).gne k19 om).g0 k26).g0 k54).range rfl ?_)
  exact ⟨rfl, Za _⟩
 ·intro w55 k55
  have hb49 := Zf hb20 k55
  have hO40 := hO11.g0 k55
  rintro _ rfl _ rfl
  refine Zas (Zq fn33 rfl (most_any (n0 := n0) (Zu hn0 hb49) hO40.sl hq.can (by have := hq.nodes; have := hq.len; omega)) ?_)
  rintro _ w56 ⟨hq17, rfl⟩
  have k56 := Zi hq17 none
  have hz28 := hq17.size
  have hb50 := Zf hb49 k56
  have hz29 := hb50.size
  exact ⟨rfl, k56⟩
 ·intro w57 k57
  rintro _ rfl
  refine Zas (Zp Za6 rfl ((((((((((((((((hB3.g0 k6).g0 k7).g0 k8).g0 k9).g0 k10).grown k11 (fun e => by have := hO1.ne_blk (((((hB3.g0 k6).g0 k7).g0 k8).g0 k9).g0 k10) dc; simp_all)).g0 k12).gne k13 om).g0 k14).g0 k15).gne k16 om).g0 k17).g0 k18).gne k19 om).g0 k26).g0 k57).range rfl ?_)
  exact ⟨rfl, Za _⟩
 ·intro w58 k58
  have hb52 := Zf hb20 k58
  rintro _ rfl _ rfl
  refine Zas (Zq fn34 rfl (rmost_any (((Sl.gSmall Zy (((Sl.gSmall Zy (((Sl.gSmall Zy ((Sl.gO ((((((Sl.gSmall Zy (hS2.g0 k4) k5 hB2 dc).g0 k6).g0 k7).g0 k8).g0 k9).g0 k10) k11 (fun g_ h_ => by have h9_ := (hO1.lt g_ h_).1; have h0_ := k4.size; have h1_ := k5.size; have h2_ := k6.size; have h3_ := k7.size; have h4_ := k8.size; have h5_ := k9.size; have h6_ := k10.size; omega)).g0 k12) k13 hB6 dc).g0 k14).g0 k15) k16 hB8 dc).g0 k17).g0 k18) k19 hB10 dc).g0 k26).g0 k58) hq.can (by have := hq.nodes; have := hq.len; omega)) ?_)
  rintro _ w59 ⟨hq18, rfl⟩
  have k59 := Zi hq18 none
  have hz30 := hq18.size
  have hb53 := Zf hb52 k59
  have hz31 := hb53.size
  exact ⟨rfl, k59⟩
 ·intro w60 k60
  rintro _ rfl _ rfl _ rfl
  refine Zas (Zbu rfl rfl ?_)
  exact ⟨rfl, Za _⟩
 ·intro w61 k61
  rintro _ rfl _ rfl
  refine op1 (Zr rfl rfl ?_)
  exact ⟨rfl, Za _⟩
 ·intro w62 k62
  rintro _ rfl
  refine op1 (Zc rfl ?_)
  exact ⟨(by rw [decide_eq_true h7]), Za _⟩
 ·intro w63 k63
  rintro _ rfl
  refine Zas (Zp Za6 rfl ((((((((hB7.g0 k14).g0 k15).gne k16 om).g0 k17).g0 k18).gne k19 om).g0 k26).g0 k63).range rfl ?_)
  exact ⟨rfl, Za _⟩
 ·intro w64 k64
  rintro _ rfl
  refine Zas (Zp Za6 rfl ((((((((((((((((hB3.g0 k6).g0 k7).g0 k8).g0 k9).g0 k10).grown k11 (fun e => by have := hO1.ne_blk (((((hB3.g0 k6).g0 k7).g0 k8).g0 k9).g0 k10) dc; simp_all)).g0 k12).gne k13 om).g0 k14).g0 k15).gne k16 om).g0 k17).g0 k18).gne k19 om).g0 k26).g0 k64).range rfl ?_)
  exact ⟨rfl, Za _⟩
 ·intro w65 k65
  have hb59 := Zf hb20 k65
  have hO50 := hO11.g0 k65
  rintro _ rfl _ rfl _ rfl
  refine Zas (Zq fn32 rfl (Nd.rsame_any (hO50.sl).none ((((Sl.gSmall Zy (((Sl.gSmall Zy (((Sl.gSmall Zy ((Sl.gO ((((((Sl.gSmall Zy (hS2.g0 k4) k5 hB2 dc).g0 k6).g0 k7).g0 k8).g0 k9).g0 k10) k11 (fun g_ h_ => by have h9_ := (hO1.lt g_ h_).1; have h0_ := k4.size; have h1_ := k5.size; have h2_ := k6.size; have h3_ := k7.size; have h4_ := k8.size; have h5_ := k9.size; have h6_ := k10.size; omega)).g0 k12) k13 hB6 dc).g0 k14).g0 k15) k16 hB8 dc).g0 k17).g0 k18) k19 hB10 dc).g0 k26).g0 k65)).none) ?_)
  rintro v6 w66 ⟨hq19, hv4⟩
  rw [show (Nd.eqv ((Zbp l 30).1) ((Zbp l 30).1)) = true from (eqv_self _)] at hv4
  subst hv4
  have k66 := Zi hq19 none
  have hz32 := hq19.size
  have hb60 := Zf hb59 k66
  have hz33 := hb60.size
  exact ⟨rfl, k66⟩
 ·intro w67 k67
  rintro _ rfl _ rfl
  refine op1 (Zr rfl rfl ?_)
  exact ⟨rfl, Za _⟩
 intro w68 k68
 have hb62 := Zf hb20 k68
 have hz34 := k26.size
 have hz35 := k68.size
 rintro _ rfl _ rfl _ rfl _ rfl _ rfl _ rfl _ rfl _ rfl _ rfl _ rfl _ rfl _ rfl _ rfl _ rfl _ rfl _ rfl _ rfl _ rfl _ rfl _ rfl _ rfl _ rfl _ rfl _ rfl _ rfl _ rfl _ rfl _ rfl _ rfl _ rfl _ rfl _ rfl _ rfl _ rfl _ rfl
 refine st (Ze rfl (Zg (Zd (Zaa rfl rfl ?_))))
 exact ⟨_, rfl, hb62, rfl⟩
end Go.Proofs.Ytfljelnfjbbknaa.Lm
