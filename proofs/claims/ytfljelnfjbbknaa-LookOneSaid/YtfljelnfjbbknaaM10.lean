/- Part of the proof: a library for walks, plain laws, and functions' walks. -/
import Derived.Test.YtfljelnfjbbknaaM9
import Derived.Test.YtfljelnfjbbknaaM4
import Derived.Test.YtfljelnfjbbknaaM3
import Derived.Test.YtfljelnfjbbknaaM5
import Derived.Test.YtfljelnfjbbknaaM6
import Derived.Test.YtfljelnfjbbknaaM7
set_option maxRecDepth 20000
set_option linter.unusedSimpArgs false
set_option linter.unusedVariables false
namespace Go.Proofs.Ytfljelnfjbbknaa.Lm
open Go.RowKit Go.Gw
end Go.Proofs.Ytfljelnfjbbknaa.Lm
namespace Go.Proofs.Ytfljelnfjbbknaa.Lm
open Go.RowKit Go.Gw
end Go.Proofs.Ytfljelnfjbbknaa.Lm
namespace Go.Gw
open Go.RowKit
theorem Sl.ggTwo {U n0 : Nat} {S : Nat → Prop} {a b : World} {s : Value} {xs : List Int} (h : Sl Kd.u32 a (G U n0 a) s xs) (k : Two S a b) (hS : ∀ i, i < a.heap.size → S i → G U n0 a i) : Sl Kd.u32 b (G U n0 b) s xs :=
  h.gkeep (fun i hi hG => k.keep i hi (fun hs => hG (hS i hi hs))) Zd9
end Go.Gw
namespace Go.Proofs.Ytfljelnfjbbknaa.Lm
open Go.RowKit Go.Gw
set_option maxHeartbeats 4000000 in
theorem paint_any {a0 : World} {n0 : Nat} (hn0 : n0 ≤ a0.heap.size) {gp : Nat} (hgp : a0.heap.size ≤ gp) {pa pb : Value} {A B s : Int} (hA : 0 ≤ A) (hB_ : 0 ≤ B) (hs : 0 ≤ s ∧ s ≤ 255) :
    ∀ (f : Nat) {w : World} {vo : Value} {o : List Nd} {n lv : Int}, lv = f → 1 ≤ f ∧ f ≤ 1329 → Zah o = true → NumIn o n lv → o.length + f ≤ 1000000 → Below a0.heap.size a0 w → Gw.Own Kd.node 101 a0.heap.size w (fun _ => False) vo o →
    Blk w gp 95 [vo, pa, pb, .int .u8 s].toArray → Sl Kd.u32 w (G 83 n0 w) pa (ml A) → Sl Kd.u32 w (G 83 n0 w) pb (ml B) →
    Calls Try.prog 60 [.pointer (some ⟨gp, 0, none⟩), .int .i64 lv, .int .i64 n].toArray w (Ret fun r w' => r = .int .i64 (Zcr f o n (A % (2 * hf lv)) (B % (2 * hf lv)) s).2 ∧ ∃ vo', Below a0.heap.size a0 w' ∧ Gw.Own Kd.node 101 a0.heap.size w' (fun _ => False) vo' (Zcr f o n (A % (2 * hf lv)) (B % (2 * hf lv)) s).1 ∧
      Blk w' gp 95 [vo', pa, pb, .int .u8 s].toArray ∧ Sl Kd.u32 w' (G 83 n0 w') pa (ml A) ∧ Sl Kd.u32 w' (G 83 n0 w') pb (ml B) ∧ Frm (fun k => k = gp) w vo w' vo') := by
  intro f
  induction f with
  | zero =>
    intro w vo o n lv hlv0 hf9 ho hni hon hb0 hE hB hpa hpb
    omega
  | succ f ih =>
    intro w vo o n lv hlv0 hf9 ho hni hon hb0 hE hB hpa hpb
    have hz0 := hb0.size
    have hF0 := Frm.refl (fun k => k = gp) w vo
    have hsz := hb0.size
    have hlv2 : lv = (f : Int) + 1 := by omega
    have hlv : 1 ≤ lv ∧ lv ≤ 1329 := by omega
    have hgl := hB.lt
    have hnr := hni.1
    refine enter Try.func60 rfl rfl (Zh (Zb (st (Ze rfl (Zg (Zd (Zh ?_)))))))
    refine Zb (st (Zc rfl (st (Zbo (ps := [(0, .tmp 9)]) (ccs := [#[.int .i64 lv]]) (cells := [.int .i64 lv, .int .i64 0, .int .i64 0, .int .i64 0, .int .i64 0]) rfl rfl (by kernel_rfl) ?_))))
    have hlt_1 := (hB).lt
    refine st (Zat Zdd ?_)
    intro g1 w1 hg1 hB1 k1 hs1
    have hz1 := hb0.size
    have hn1 := Zeh hE hg1
    have hb1 := Zf hb0 k1
    have hF1 := hF0.none k1
    have hO1 := hE.g0 k1
    refine st0 (Zae Za9 rfl rfl hB1 rfl rfl rfl ?_)
    intro w2 hB2 k2 hs2
    have hb2 := Zv hb1 k2 (by first | omega | (have h9 := (hb1).size; omega))
    have hF2 := hF1.put k2 (by first | exact .inr (by omega) | exact .inl (by assumption) | exact .inl (.inl rfl) | exact .inl (.inr rfl) | exact .inl (.inr (.inl rfl)) | exact .inl (.inr (.inr rfl)))
    have hO2 := Own.keptN Zac hO1 k2 hn1
    refine Zg (Zd ?_)
    refine w_cut (α := Unit) (fun (_ : Unit) => [(0, .pointer (some ⟨gp, 0, none⟩)), (1, .int .i64 lv), (6, .int .i64 0), (7, .pointer (some ⟨g1, 0, none⟩))]) (fun (_ : Unit) W => Below a0.heap.size a0 W ∧ (Gw.Own Kd.node 101 a0.heap.size W (fun _ => False) vo o) ∧ (Blk W gp 95 [vo, pa, pb, .int .u8 s].toArray) ∧ (Sl Kd.u32 W (G 83 n0 W) pa (ml A)) ∧ (Sl Kd.u32 W (G 83 n0 W) pb (ml B)) ∧ (vo.ownBlock ≠ some g1) ∧ (Frm (fun k => k = gp) w vo W vo) ∧ (Blk W g1 101 [.int .i64 ((Zq o n lv).lv), .int .i64 ((Zq o n lv).k0), .int .i64 ((Zq o n lv).k1), .int .i64 ((Zq o n lv).k2), .int .i64 ((Zq o n lv).k3)].toArray)) ?_ ?_
    · refine Zh (Zb (st (Zc rfl (st (Zcj rfl rfl (Zg (Zd ?_)))))))
      refine Zw rfl (fun h1 => ?_) (fun h1 => ?_)
      rotate_left
      · refine Zn ?_
        exact Zfl () ⟨hb2, hO2, ((hB.g0 k1).gne k2 (by omega)), ((hpa.gg0 k1).ggB k2 hB1 (by decide) (by omega)), ((hpb.gg0 k1).ggB k2 hB1 (by decide) (by omega)), hn1, hF2, (by rw [show (Zq o n lv) = _ from if_neg h1]; exact hB2)⟩ (by exact ⟨rfl, rfl, rfl, rfl, trivial⟩)
      refine Zb (st (Zc rfl (st (Zeb rfl (st (Zm Zgz rfl (st (Zs Zcu rfl ((hB.g0 k1).gne k2 (by omega)).range (j := 0) rfl (st (Zc rfl (st (Zbh rfl rfl (by omega) ?_))))))))))))
      refine st (Zaz Za7 rfl rfl hO2.sl (by omega) (by omega) ?_)
      rintro b1 o1 _ ⟨rfl, _⟩ hc1 hF3 hlt1
      refine st (Zu Za9 rfl hc1 rfl (st0 (Zae Za9 rfl rfl hB2 rfl rfl rfl ?_)))
      intro w3 hB3 k3 hs3
      have hb3 := Zv hb2 k3 (by first | omega | (have h9 := (hb2).size; omega))
      have hF4 := hF2.put k3 (by first | exact .inr (by omega) | exact .inl (by assumption) | exact .inl (.inl rfl) | exact .inl (.inr rfl) | exact .inl (.inr (.inl rfl)) | exact .inl (.inr (.inr rfl)))
      have hO3 := Own.keptN Zac hO2 k3 hn1
      refine Zg ?_
      exact Zfl () ⟨hb3, hO3, (((hB.g0 k1).gne k2 (by omega)).gne k3 (by omega)), (((hpa.gg0 k1).ggB k2 hB1 (by decide) (by omega)).ggB k3 hB2 (by decide) (by omega)), (((hpb.gg0 k1).ggB k2 hB1 (by decide) (by omega)).ggB k3 hB2 (by decide) (by omega)), hn1, hF4, (by rw [show (Zq o n lv) = _ from if_pos h1]; exact hB3)⟩ (by exact ⟨rfl, rfl, rfl, rfl, trivial⟩)
    rintro _ w4 ⟨hb4, hOh, hBh, hpah, hpbh, hn7, hFh, hbh1⟩
    have hz2 := hb4.size
    have hbh1l := hbh1.lt
    refine Zh (Zb (st (Zc rfl (st (Zc rfl (st (Zeb rfl (st (Zm fld95_1 rfl (st (Zau (us := [pa, pb]) Zgq rfl hBh.range (j := 1) rfl rfl ?_)))))))))))
    refine st (Zp fn65 rfl (Zl0 (A := A) (B := B) (n0 := n0) (Zy hn0 hb4) hpah hpbh hA hB_ (by omega)) ?_)
    rintro _ w5 ⟨hq1, rfl⟩
    have k4 := Zi hq1 none
    have hz3 := hq1.size
    have hb5 := Zf hb4 k4
    have hz4 := hb5.size
    have hF5 := hFh.none k4
    have hO4 := hOh.g0 k4
    have hkq1 := Zij lv (A % (2 * hf lv)) (B % (2 * hf lv))
    refine st (Ze rfl (Zg (Zd (Zh (Zh (Zb (st (Zc rfl ?_))))))))
    refine st (Zbr rfl rfl (Zg (Zd ?_)))
    refine Zw rfl (fun h2 => ?_) (fun h2 => ?_)
    · have hlv1 := h2
      refine Zb (st (Zc rfl (st (Zc rfl (st (Zeb rfl (st (Zm fld95_2 rfl (st (Zs one5 rfl (hBh.g0 k4).range (j := 3) rfl (st (Zhl Zif Zjn rfl (by omega) ?_))))))))))))
      refine st (Zm Za5 rfl (st (Zbs Zcq rfl rfl (by omega) (by omega) (st0 (Zeo Zbj rfl rfl (hbh1.g0 k4) (by omega) (by omega) ?_)))))
      intro w6 hB4 k5 hs4
      have hb6 := Zv hb5 k5 (by first | omega | (have h9 := (hb5).size; omega))
      have hF6 := hF5.put k5 (by first | exact .inr (by omega) | exact .inl (by assumption) | exact .inl (.inl rfl) | exact .inl (.inr rfl) | exact .inl (.inr (.inl rfl)) | exact .inl (.inr (.inr rfl)))
      have hO5 := Own.keptN Zac hO4 k5 hn7
      refine Zg (Zd (Zh ?_))
      refine w_drawD 11 (Two (fun i => i = gp ∨ vo.ownBlock = some i)) (fun a b => a.grownBy b none) (Two (fun i => i = gp ∨ vo.ownBlock = some i)) [(some 48, fun v _ => v = .pointer (some ⟨gp, 0, none⟩)), (some 49, fun v _ => v = .pointer (some ⟨gp, 0, none⟩)), (some 50, fun v _ => v = .pointer (some ⟨gp, 0, none⟩)), (some 51, fun v _ => v = .pointer (some ⟨gp, 0 + 0, none⟩)), (some 52, fun v _ => v = vo), (some 53, fun v _ => v = .agg (Nd.cells (⟨(Zq o n lv).lv, (if (kq lv (A % (2 * hf lv)) (B % (2 * hf lv))) = 0 then s else (Zq o n lv).k0), (if (kq lv (A % (2 * hf lv)) (B % (2 * hf lv))) = 1 then s else (Zq o n lv).k1), (if (kq lv (A % (2 * hf lv)) (B % (2 * hf lv))) = 2 then s else (Zq o n lv).k2), (if (kq lv (A % (2 * hf lv)) (B % (2 * hf lv))) = 3 then s else (Zq o n lv).k3)⟩ : Nd)).toArray), (some 54, fun v W => Sl Kd.node W (fun _ => False) v [(⟨(Zq o n lv).lv, (if (kq lv (A % (2 * hf lv)) (B % (2 * hf lv))) = 0 then s else (Zq o n lv).k0), (if (kq lv (A % (2 * hf lv)) (B % (2 * hf lv))) = 1 then s else (Zq o n lv).k1), (if (kq lv (A % (2 * hf lv)) (B % (2 * hf lv))) = 2 then s else (Zq o n lv).k2), (if (kq lv (A % (2 * hf lv)) (B % (2 * hf lv))) = 3 then s else (Zq o n lv).k3)⟩ : Nd)]), (some 55, fun v W => (Gw.Own Kd.node 101 a0.heap.size W (fun _ => False) v (o ++ [(⟨(Zq o n lv).lv, (if (kq lv (A % (2 * hf lv)) (B % (2 * hf lv))) = 0 then s else (Zq o n lv).k0), (if (kq lv (A % (2 * hf lv)) (B % (2 * hf lv))) = 1 then s else (Zq o n lv).k1), (if (kq lv (A % (2 * hf lv)) (B % (2 * hf lv))) = 2 then s else (Zq o n lv).k2), (if (kq lv (A % (2 * hf lv)) (B % (2 * hf lv))) = 3 then s else (Zq o n lv).k3)⟩ : Nd)]) ∧ (v.ownBlock = vo.ownBlock ∨ ∃ q, v.ownBlock = some q ∧ w6.heap.size ≤ q)) ∧ Blk W gp 95 [vo, pa, pb, .int .u8 s].toArray), (some 56, fun v _ => v = .pointer (some ⟨gp, 0, none⟩)), (some 57, fun v _ => v = .pointer (some ⟨gp, 0 + 0, none⟩)), (none, fun _ W => ∃ u, (Gw.Own Kd.node 101 a0.heap.size W (fun _ => False) u (o ++ [(⟨(Zq o n lv).lv, (if (kq lv (A % (2 * hf lv)) (B % (2 * hf lv))) = 0 then s else (Zq o n lv).k0), (if (kq lv (A % (2 * hf lv)) (B % (2 * hf lv))) = 1 then s else (Zq o n lv).k1), (if (kq lv (A % (2 * hf lv)) (B % (2 * hf lv))) = 2 then s else (Zq o n lv).k2), (if (kq lv (A % (2 * hf lv)) (B % (2 * hf lv))) = 3 then s else (Zq o n lv).k3)⟩ : Nd)]) ∧ (u.ownBlock = vo.ownBlock ∨ ∃ q, u.ownBlock = some q ∧ w6.heap.size ≤ q)) ∧ Blk W gp 95 [u, pa, pb, .int .u8 s].toArray)] [[], [], [1], [2], [3], [], [5], [4, 6], [0], [8], [7, 9]] [[], [], [1], [2, 1], [3, 2, 1], [], [5], [4, 6, 3, 2, 1, 5], [], [], [7, 6, 5, 4, 3, 2, 1]] [[], [], [], [], [], [], [7], [10], [], [], []] [false, false, false, false, false, false, false, true, false, false, true] [true, true, true, true, true, true, false, false, true, true, false] [false, true, true, true, true, true, true, true, false, false, false] [(0, .pointer (some ⟨gp, 0, none⟩)), (6, .int .i64 0), (7, .pointer (some ⟨g1, 0, none⟩))] (by exact ⟨rfl, rfl, rfl, trivial⟩) (by kernel_rfl) (by kernel_rfl) (by kernel_rfl) rfl (Two.refl _) (fun _ _ _ h k => h.trans k) (fun _ _ h => Two.none h) (fun _ _ h => h) ⟨fun _ _ _ h _ => by exact h, fun _ _ _ h _ => by exact h, fun _ _ _ h _ => by exact h, fun _ _ _ h _ => by exact h, fun _ _ _ h _ => by exact h, fun _ _ _ h _ => by exact h, fun _ _ _ h _ => by exact h, fun _ _ _ h _ => by exact h, fun _ _ _ h _ => by exact h, fun _ _ _ h _ => by exact h, fun _ _ _ h _ => by exact h, fun _ _ _ h _ => by exact h, fun _ _ _ h k => h.g0 k, fun _ _ _ h k => ⟨⟨h.1.1.g0 k, h.1.2⟩, h.2.g0 k⟩, fun _ _ _ h _ => by exact h, fun _ _ _ h _ => by exact h, fun _ _ _ h _ => by exact h, fun _ _ _ h _ => by exact h, fun _ _ _ h k => by obtain ⟨u, h⟩ := h; exact ⟨u, ⟨h.1.1.g0 k, h.1.2⟩, h.2.g0 k⟩, trivial⟩ Za (fun _ _ _ => Zaa) rfl ?_
      intro w7 k6 hs5
      have hb7 := Zf hb6 k6
      have hF7 := hF6.none k6
      have hO6 := hO5.g0 k6
      refine ⟨⟨?_, ?_, ?_, ?_, ?_, ?_, ?_, ?_, ?_, ?_, ?_, trivial⟩, ?_⟩
      · intro w8z_ kb_
        exact op1 (Zc rfl ⟨rfl, Za _⟩)
      · intro w8z_ kb_
        have hb_ := Zf hb7 kb_
        have hz_ := hb_.size
        have he_ := kb_.size
        exact op1 (Zc rfl ⟨rfl, Za _⟩)
      · intro w8z_ kb_
        have hb_ := Zf hb7 kb_
        have hz_ := hb_.size
        have he_ := kb_.size
        rintro _ rfl
        exact op1 (Zeb rfl ⟨rfl, Za _⟩)
      · intro w8z_ kb_
        have hb_ := Zf hb7 kb_
        have hz_ := hb_.size
        have he_ := kb_.size
        rintro _ rfl
        exact op1 (Zm Zgz rfl ⟨rfl, Za _⟩)
      · intro w8z_ kb_
        have hb_ := Zf hb7 kb_
        have hz_ := hb_.size
        have he_ := kb_.size
        rintro _ rfl
        exact op1 (Zs Zcu rfl ((((hBh.g0 k4).gne k5 (by omega)).g0 k6).g0 kb_).range (j := 0) rfl ⟨rfl, Za _⟩)
      · intro w8z_ kb_
        have hb_ := Zf hb7 kb_
        have hz_ := hb_.size
        have he_ := kb_.size
        exact op1 (Zu Za9 rfl ((hB4.g0 k6).g0 kb_).range rfl ⟨rfl, Za _⟩)
      · intro w8z_ kb_
        have hb_ := Zf hb7 kb_
        have hz_ := hb_.size
        have he_ := kb_.size
        rintro _ rfl
        refine op1 (Zay (ps := [(0, .tmp 53)]) (ccs := [(Nd.cells (⟨(Zq o n lv).lv, (if (kq lv (A % (2 * hf lv)) (B % (2 * hf lv))) = 0 then s else (Zq o n lv).k0), (if (kq lv (A % (2 * hf lv)) (B % (2 * hf lv))) = 1 then s else (Zq o n lv).k1), (if (kq lv (A % (2 * hf lv)) (B % (2 * hf lv))) = 2 then s else (Zq o n lv).k2), (if (kq lv (A % (2 * hf lv)) (B % (2 * hf lv))) = 3 then s else (Zq o n lv).k3)⟩ : Nd)).toArray]) (e := 101) (cells := Nd.cells (⟨(Zq o n lv).lv, (if (kq lv (A % (2 * hf lv)) (B % (2 * hf lv))) = 0 then s else (Zq o n lv).k0), (if (kq lv (A % (2 * hf lv)) (B % (2 * hf lv))) = 1 then s else (Zq o n lv).k1), (if (kq lv (A % (2 * hf lv)) (B % (2 * hf lv))) = 2 then s else (Zq o n lv).k2), (if (kq lv (A % (2 * hf lv)) (B % (2 * hf lv))) = 3 then s else (Zq o n lv).k3)⟩ : Nd)) rfl rfl (by kernel_rfl) (by decide) Zih ?_)
        intro gz_ wz_ hgz_ hBz_ kz_ hsz_
        exact ⟨Zb9 [(⟨(Zq o n lv).lv, (if (kq lv (A % (2 * hf lv)) (B % (2 * hf lv))) = 0 then s else (Zq o n lv).k0), (if (kq lv (A % (2 * hf lv)) (B % (2 * hf lv))) = 1 then s else (Zq o n lv).k1), (if (kq lv (A % (2 * hf lv)) (B % (2 * hf lv))) = 2 then s else (Zq o n lv).k2), (if (kq lv (A % (2 * hf lv)) (B % (2 * hf lv))) = 3 then s else (Zq o n lv).k3)⟩ : Nd)] hBz_ (fun h => h) rfl (by decide), kz_⟩
      · intro w8z_ kb_
        have hb_ := Zf hb7 kb_
        have hz_ := hb_.size
        have he_ := kb_.size
        intro v_ hv_; subst v_
        intro vl_ hl_
        refine op1 (Zjj (K := Kd.node) Za7 rfl rfl (hO6.g0 kb_) Zac hl_ Zc6 (by simp; omega) (by simp; omega) (by omega) (fun _ h => h.elim) ?_)
        intro vz_ wz_ hPz_ kz_ hor_ _
        refine ⟨⟨⟨hPz_, ?_⟩, ?_⟩, Two.of kz_ (fun r hr => .inr hr)⟩
        · rcases hor_ with h_ | h_
          · exact .inl h_
          · exact .inr ⟨_, h_, by omega⟩
        · exact ((((hBh.g0 k4).gne k5 (by omega)).g0 k6).g0 kb_).grown kz_ (fun e => Zfa (hO6.ne_blk (((hBh.g0 k4).gne k5 (by omega)).g0 k6) (by decide)) e.symm)
      · intro w8z_ kb_
        rintro _ rfl
        exact op1 (Zeb rfl ⟨rfl, Za _⟩)
      · intro w8z_ kb_
        rintro _ rfl
        exact op1 (Zm Zgz rfl ⟨rfl, Za _⟩)
      · intro w8z_ kb_
        rintro v29 ⟨⟨h29, hr29⟩, hB29⟩ _ rfl
        refine op1 (Zdp Zcu rfl rfl h29.one hB29 (by simp) ?_)
        intro wz_ hBz_ kz_ _
        exact ⟨⟨v29, ⟨h29.keptF Zac kz_ (.inr (Zfa (h29.ne_blk hB29 (by decide)))), hr29⟩, hBz_⟩, Two.of kz_ (by rintro r ⟨⟩; exact .inl rfl)⟩
      rintro w8 k7 _ rfl _ rfl _ rfl _ rfl
      intro v_ hv_; subst v_
      rintro _ rfl v28 _ v29 _ _ rfl _ rfl _ ⟨v30, ⟨h30, hr30⟩, hB30⟩
      have hgax : g1 ≠ gp := (Zgp (hB4.g0 k6) (((hBh.g0 k4).gne k5 (by omega)).g0 k6) (by decide))
      have hr2 : v30.ownBlock = vo.ownBlock ∨ ∃ q, v30.ownBlock = some q ∧ w7.heap.size ≤ q := by rw [hs5]; exact hr30
      have hb8 := k7.below hb7 hb7.size (fun i hi h_ => h_.elim (fun h_ => by omega) (fun h_ => by have := (hO6.lt i h_).1; omega))
      have hB5 := (hB4.g0 k6).two k7 (fun h_ => h_.elim hgax hn7)
      have hS1 := Sl.ggTwo (((hpah.gg0 k4).ggB k5 (hbh1.g0 k4) (by decide) (by omega)).gg0 k6) k7 (fun i_ _ h_ => h_.elim (fun h_ => by subst h_; exact Blk.isG (((hBh.g0 k4).gne k5 (by omega)).g0 k6) (by decide) (by omega)) (fun h_ => hO6.isG h_ (by decide) (by omega)))
      have hS2 := Sl.ggTwo (((hpbh.gg0 k4).ggB k5 (hbh1.g0 k4) (by decide) (by omega)).gg0 k6) k7 (fun i_ _ h_ => h_.elim (fun h_ => by subst h_; exact Blk.isG (((hBh.g0 k4).gne k5 (by omega)).g0 k6) (by decide) (by omega)) (fun h_ => hO6.isG h_ (by decide) (by omega)))
      have hF8 := hF7.two k7 (fun i h_ => h_.imp id id) hr2
      have hz5 := hb8.size
      have hn2 := Zj3 hn7 hr2 (by have := ((hB4.g0 k6)).lt; omega)
      refine Zg (Zd (Zh (Zb (st (Zc rfl (st (Zeb rfl (st (Zm Zgz rfl ?_)))))))))
      refine st (Zs Zcu rfl hB30.range (j := 0) rfl (st (Zar Za7 rfl h30.sl (st (Ze rfl (Zg (Zd (Zx rfl rfl ?_))))))))
      have hf0 : f = 0 := by omega
      subst hf0
      have e_ : Zcr (0 + 1) o n (A % (2 * hf lv)) (B % (2 * hf lv)) s = (o ++ [(Zq o n lv).setK (kq lv (A % (2 * hf lv)) (B % (2 * hf lv))) s], (o.length : Int) + 1) := by rw [hlv1]; exact put_leaf
      rw [e_]
      refine ⟨_, rfl, by simp, v30, hb8, ?_, hB30, hS1, hS2, hF8⟩
      exact h30
    have hlv1 := h2
    refine Zb (st (Zc rfl (st (Zc rfl (st (Zc rfl (st (Zbh rfl rfl (by omega) (st (Zc rfl (st (Zm Za5 rfl ?_))))))))))))
    refine st (Zbs Zcq rfl rfl (by omega) (by omega) (st (Zdz Zbj rfl (hbh1.g0 k4).range (j := 1) rfl rfl (by omega) (by omega) (st (Zp fn60 rfl (ih (lv := (lv - 1)) (n := (Zao ((Zq o n lv).k0) ((Zq o n lv).k1) ((Zq o n lv).k2) ((Zq o n lv).k3) (kq lv (A % (2 * hf lv)) (B % (2 * hf lv))))) (by omega) (by omega) ho (here_kid ho hni hlv1 (Zij _ _ _).1 (Zij _ _ _).2) (by omega) hb5 hO4 (hBh.g0 k4) (hpah.gg0 k4) (hpbh.gg0 k4)) ?_)))))
    rintro _ w9 ⟨rfl, vo1, hb9, hO7, hB6, hS3, hS4, hF9⟩
    have hnp_ : g1 ≠ gp := Zgp (hbh1.g0 k4) (hBh.g0 k4) (by decide)
    have hB7 := Blk.frm (hbh1.g0 k4) hF9 hnp_ hn7
    have hn3 := (hF9.2 _ ((hbh1.g0 k4)).lt hnp_ hn7).2
    have hz6 := hb9.size
    have hF10 := hF5.trans hF9
    have hlt_2 := hB7.lt
    have hpn_ := put_len f o (Zao ((Zq o n lv).k0) ((Zq o n lv).k1) ((Zq o n lv).k2) ((Zq o n lv).k3) (kq lv (A % (2 * hf lv)) (B % (2 * hf lv)))) (A % (2 * hf (lv - 1))) (B % (2 * hf (lv - 1))) s
    refine st (Zm Za5 rfl (st (Zbs Zcq rfl rfl (by omega) (by omega) (st0 (Zeo Zbj rfl rfl hB7 (by omega) (by omega) ?_)))))
    intro w10 hB8 k9 hs6
    have hb10 := Zv hb9 k9 (by first | omega | (have h9 := (hb9).size; omega))
    have hF11 := hF10.put k9 (by first | exact .inr (by omega) | exact .inl (by assumption) | exact .inl (.inl rfl) | exact .inl (.inr rfl) | exact .inl (.inr (.inl rfl)) | exact .inl (.inr (.inr rfl)))
    have hO8 := Own.keptN Zac hO7 k9 hn3
    refine Zg (Zd (Zh ?_))
    refine w_drawD 11 (Two (fun i => i = gp ∨ vo1.ownBlock = some i)) (fun a b => a.grownBy b none) (Two (fun i => i = gp ∨ vo1.ownBlock = some i)) [(some 48, fun v _ => v = .pointer (some ⟨gp, 0, none⟩)), (some 49, fun v _ => v = .pointer (some ⟨gp, 0, none⟩)), (some 50, fun v _ => v = .pointer (some ⟨gp, 0, none⟩)), (some 51, fun v _ => v = .pointer (some ⟨gp, 0 + 0, none⟩)), (some 52, fun v _ => v = vo1), (some 53, fun v _ => v = .agg (Nd.cells (⟨(Zq o n lv).lv, (if (kq lv (A % (2 * hf lv)) (B % (2 * hf lv))) = 0 then (Zcr f o (Zao ((Zq o n lv).k0) ((Zq o n lv).k1) ((Zq o n lv).k2) ((Zq o n lv).k3) (kq lv (A % (2 * hf lv)) (B % (2 * hf lv)))) (A % (2 * hf (lv - 1))) (B % (2 * hf (lv - 1))) s).2 else (Zq o n lv).k0), (if (kq lv (A % (2 * hf lv)) (B % (2 * hf lv))) = 1 then (Zcr f o (Zao ((Zq o n lv).k0) ((Zq o n lv).k1) ((Zq o n lv).k2) ((Zq o n lv).k3) (kq lv (A % (2 * hf lv)) (B % (2 * hf lv)))) (A % (2 * hf (lv - 1))) (B % (2 * hf (lv - 1))) s).2 else (Zq o n lv).k1), (if (kq lv (A % (2 * hf lv)) (B % (2 * hf lv))) = 2 then (Zcr f o (Zao ((Zq o n lv).k0) ((Zq o n lv).k1) ((Zq o n lv).k2) ((Zq o n lv).k3) (kq lv (A % (2 * hf lv)) (B % (2 * hf lv)))) (A % (2 * hf (lv - 1))) (B % (2 * hf (lv - 1))) s).2 else (Zq o n lv).k2), (if (kq lv (A % (2 * hf lv)) (B % (2 * hf lv))) = 3 then (Zcr f o (Zao ((Zq o n lv).k0) ((Zq o n lv).k1) ((Zq o n lv).k2) ((Zq o n lv).k3) (kq lv (A % (2 * hf lv)) (B % (2 * hf lv)))) (A % (2 * hf (lv - 1))) (B % (2 * hf (lv - 1))) s).2 else (Zq o n lv).k3)⟩ : Nd)).toArray), (some 54, fun v W => Sl Kd.node W (fun _ => False) v [(⟨(Zq o n lv).lv, (if (kq lv (A % (2 * hf lv)) (B % (2 * hf lv))) = 0 then (Zcr f o (Zao ((Zq o n lv).k0) ((Zq o n lv).k1) ((Zq o n lv).k2) ((Zq o n lv).k3) (kq lv (A % (2 * hf lv)) (B % (2 * hf lv)))) (A % (2 * hf (lv - 1))) (B % (2 * hf (lv - 1))) s).2 else (Zq o n lv).k0), (if (kq lv (A % (2 * hf lv)) (B % (2 * hf lv))) = 1 then (Zcr f o (Zao ((Zq o n lv).k0) ((Zq o n lv).k1) ((Zq o n lv).k2) ((Zq o n lv).k3) (kq lv (A % (2 * hf lv)) (B % (2 * hf lv)))) (A % (2 * hf (lv - 1))) (B % (2 * hf (lv - 1))) s).2 else (Zq o n lv).k1), (if (kq lv (A % (2 * hf lv)) (B % (2 * hf lv))) = 2 then (Zcr f o (Zao ((Zq o n lv).k0) ((Zq o n lv).k1) ((Zq o n lv).k2) ((Zq o n lv).k3) (kq lv (A % (2 * hf lv)) (B % (2 * hf lv)))) (A % (2 * hf (lv - 1))) (B % (2 * hf (lv - 1))) s).2 else (Zq o n lv).k2), (if (kq lv (A % (2 * hf lv)) (B % (2 * hf lv))) = 3 then (Zcr f o (Zao ((Zq o n lv).k0) ((Zq o n lv).k1) ((Zq o n lv).k2) ((Zq o n lv).k3) (kq lv (A % (2 * hf lv)) (B % (2 * hf lv)))) (A % (2 * hf (lv - 1))) (B % (2 * hf (lv - 1))) s).2 else (Zq o n lv).k3)⟩ : Nd)]), (some 55, fun v W => (Gw.Own Kd.node 101 a0.heap.size W (fun _ => False) v ((Zcr f o (Zao ((Zq o n lv).k0) ((Zq o n lv).k1) ((Zq o n lv).k2) ((Zq o n lv).k3) (kq lv (A % (2 * hf lv)) (B % (2 * hf lv)))) (A % (2 * hf (lv - 1))) (B % (2 * hf (lv - 1))) s).1 ++ [(⟨(Zq o n lv).lv, (if (kq lv (A % (2 * hf lv)) (B % (2 * hf lv))) = 0 then (Zcr f o (Zao ((Zq o n lv).k0) ((Zq o n lv).k1) ((Zq o n lv).k2) ((Zq o n lv).k3) (kq lv (A % (2 * hf lv)) (B % (2 * hf lv)))) (A % (2 * hf (lv - 1))) (B % (2 * hf (lv - 1))) s).2 else (Zq o n lv).k0), (if (kq lv (A % (2 * hf lv)) (B % (2 * hf lv))) = 1 then (Zcr f o (Zao ((Zq o n lv).k0) ((Zq o n lv).k1) ((Zq o n lv).k2) ((Zq o n lv).k3) (kq lv (A % (2 * hf lv)) (B % (2 * hf lv)))) (A % (2 * hf (lv - 1))) (B % (2 * hf (lv - 1))) s).2 else (Zq o n lv).k1), (if (kq lv (A % (2 * hf lv)) (B % (2 * hf lv))) = 2 then (Zcr f o (Zao ((Zq o n lv).k0) ((Zq o n lv).k1) ((Zq o n lv).k2) ((Zq o n lv).k3) (kq lv (A % (2 * hf lv)) (B % (2 * hf lv)))) (A % (2 * hf (lv - 1))) (B % (2 * hf (lv - 1))) s).2 else (Zq o n lv).k2), (if (kq lv (A % (2 * hf lv)) (B % (2 * hf lv))) = 3 then (Zcr f o (Zao ((Zq o n lv).k0) ((Zq o n lv).k1) ((Zq o n lv).k2) ((Zq o n lv).k3) (kq lv (A % (2 * hf lv)) (B % (2 * hf lv)))) (A % (2 * hf (lv - 1))) (B % (2 * hf (lv - 1))) s).2 else (Zq o n lv).k3)⟩ : Nd)]) ∧ (v.ownBlock = vo1.ownBlock ∨ ∃ q, v.ownBlock = some q ∧ w10.heap.size ≤ q)) ∧ Blk W gp 95 [vo1, pa, pb, .int .u8 s].toArray), (some 56, fun v _ => v = .pointer (some ⟨gp, 0, none⟩)), (some 57, fun v _ => v = .pointer (some ⟨gp, 0 + 0, none⟩)), (none, fun _ W => ∃ u, (Gw.Own Kd.node 101 a0.heap.size W (fun _ => False) u ((Zcr f o (Zao ((Zq o n lv).k0) ((Zq o n lv).k1) ((Zq o n lv).k2) ((Zq o n lv).k3) (kq lv (A % (2 * hf lv)) (B % (2 * hf lv)))) (A % (2 * hf (lv - 1))) (B % (2 * hf (lv - 1))) s).1 ++ [(⟨(Zq o n lv).lv, (if (kq lv (A % (2 * hf lv)) (B % (2 * hf lv))) = 0 then (Zcr f o (Zao ((Zq o n lv).k0) ((Zq o n lv).k1) ((Zq o n lv).k2) ((Zq o n lv).k3) (kq lv (A % (2 * hf lv)) (B % (2 * hf lv)))) (A % (2 * hf (lv - 1))) (B % (2 * hf (lv - 1))) s).2 else (Zq o n lv).k0), (if (kq lv (A % (2 * hf lv)) (B % (2 * hf lv))) = 1 then (Zcr f o (Zao ((Zq o n lv).k0) ((Zq o n lv).k1) ((Zq o n lv).k2) ((Zq o n lv).k3) (kq lv (A % (2 * hf lv)) (B % (2 * hf lv)))) (A % (2 * hf (lv - 1))) (B % (2 * hf (lv - 1))) s).2 else (Zq o n lv).k1), (if (kq lv (A % (2 * hf lv)) (B % (2 * hf lv))) = 2 then (Zcr f o (Zao ((Zq o n lv).k0) ((Zq o n lv).k1) ((Zq o n lv).k2) ((Zq o n lv).k3) (kq lv (A % (2 * hf lv)) (B % (2 * hf lv)))) (A % (2 * hf (lv - 1))) (B % (2 * hf (lv - 1))) s).2 else (Zq o n lv).k2), (if (kq lv (A % (2 * hf lv)) (B % (2 * hf lv))) = 3 then (Zcr f o (Zao ((Zq o n lv).k0) ((Zq o n lv).k1) ((Zq o n lv).k2) ((Zq o n lv).k3) (kq lv (A % (2 * hf lv)) (B % (2 * hf lv)))) (A % (2 * hf (lv - 1))) (B % (2 * hf (lv - 1))) s).2 else (Zq o n lv).k3)⟩ : Nd)]) ∧ (u.ownBlock = vo1.ownBlock ∨ ∃ q, u.ownBlock = some q ∧ w10.heap.size ≤ q)) ∧ Blk W gp 95 [u, pa, pb, .int .u8 s].toArray)] [[], [], [1], [2], [3], [], [5], [4, 6], [0], [8], [7, 9]] [[], [], [1], [2, 1], [3, 2, 1], [], [5], [4, 6, 3, 2, 1, 5], [], [], [7, 6, 5, 4, 3, 2, 1]] [[], [], [], [], [], [], [7], [10], [], [], []] [false, false, false, false, false, false, false, true, false, false, true] [true, true, true, true, true, true, false, false, true, true, false] [false, true, true, true, true, true, true, true, false, false, false] [(0, .pointer (some ⟨gp, 0, none⟩)), (6, .int .i64 0), (7, .pointer (some ⟨g1, 0, none⟩))] (by exact ⟨rfl, rfl, rfl, trivial⟩) (by kernel_rfl) (by kernel_rfl) (by kernel_rfl) rfl (Two.refl _) (fun _ _ _ h k => h.trans k) (fun _ _ h => Two.none h) (fun _ _ h => h) ⟨fun _ _ _ h _ => by exact h, fun _ _ _ h _ => by exact h, fun _ _ _ h _ => by exact h, fun _ _ _ h _ => by exact h, fun _ _ _ h _ => by exact h, fun _ _ _ h _ => by exact h, fun _ _ _ h _ => by exact h, fun _ _ _ h _ => by exact h, fun _ _ _ h _ => by exact h, fun _ _ _ h _ => by exact h, fun _ _ _ h _ => by exact h, fun _ _ _ h _ => by exact h, fun _ _ _ h k => h.g0 k, fun _ _ _ h k => ⟨⟨h.1.1.g0 k, h.1.2⟩, h.2.g0 k⟩, fun _ _ _ h _ => by exact h, fun _ _ _ h _ => by exact h, fun _ _ _ h _ => by exact h, fun _ _ _ h _ => by exact h, fun _ _ _ h k => by obtain ⟨u, h⟩ := h; exact ⟨u, ⟨h.1.1.g0 k, h.1.2⟩, h.2.g0 k⟩, trivial⟩ Za (fun _ _ _ => Zaa) rfl ?_
    intro w11 k10 hs7
    have hb11 := Zf hb10 k10
    have hF12 := hF11.none k10
    have hO9 := hO8.g0 k10
    refine ⟨⟨?_, ?_, ?_, ?_, ?_, ?_, ?_, ?_, ?_, ?_, ?_, trivial⟩, ?_⟩
    · intro w8z_ kb_
      exact op1 (Zc rfl ⟨rfl, Za _⟩)
    · intro w8z_ kb_
      have hb_ := Zf hb11 kb_
      have hz_ := hb_.size
      have he_ := kb_.size
      exact op1 (Zc rfl ⟨rfl, Za _⟩)
    · intro w8z_ kb_
      have hb_ := Zf hb11 kb_
      have hz_ := hb_.size
      have he_ := kb_.size
      rintro _ rfl
      exact op1 (Zeb rfl ⟨rfl, Za _⟩)
    · intro w8z_ kb_
      have hb_ := Zf hb11 kb_
      have hz_ := hb_.size
      have he_ := kb_.size
      rintro _ rfl
      exact op1 (Zm Zgz rfl ⟨rfl, Za _⟩)
    · intro w8z_ kb_
      have hb_ := Zf hb11 kb_
      have hz_ := hb_.size
      have he_ := kb_.size
      rintro _ rfl
      exact op1 (Zs Zcu rfl (((hB6.gne k9 (by omega)).g0 k10).g0 kb_).range (j := 0) rfl ⟨rfl, Za _⟩)
    · intro w8z_ kb_
      have hb_ := Zf hb11 kb_
      have hz_ := hb_.size
      have he_ := kb_.size
      exact op1 (Zu Za9 rfl ((hB8.g0 k10).g0 kb_).range rfl ⟨rfl, Za _⟩)
    · intro w8z_ kb_
      have hb_ := Zf hb11 kb_
      have hz_ := hb_.size
      have he_ := kb_.size
      rintro _ rfl
      refine op1 (Zay (ps := [(0, .tmp 53)]) (ccs := [(Nd.cells (⟨(Zq o n lv).lv, (if (kq lv (A % (2 * hf lv)) (B % (2 * hf lv))) = 0 then (Zcr f o (Zao ((Zq o n lv).k0) ((Zq o n lv).k1) ((Zq o n lv).k2) ((Zq o n lv).k3) (kq lv (A % (2 * hf lv)) (B % (2 * hf lv)))) (A % (2 * hf (lv - 1))) (B % (2 * hf (lv - 1))) s).2 else (Zq o n lv).k0), (if (kq lv (A % (2 * hf lv)) (B % (2 * hf lv))) = 1 then (Zcr f o (Zao ((Zq o n lv).k0) ((Zq o n lv).k1) ((Zq o n lv).k2) ((Zq o n lv).k3) (kq lv (A % (2 * hf lv)) (B % (2 * hf lv)))) (A % (2 * hf (lv - 1))) (B % (2 * hf (lv - 1))) s).2 else (Zq o n lv).k1), (if (kq lv (A % (2 * hf lv)) (B % (2 * hf lv))) = 2 then (Zcr f o (Zao ((Zq o n lv).k0) ((Zq o n lv).k1) ((Zq o n lv).k2) ((Zq o n lv).k3) (kq lv (A % (2 * hf lv)) (B % (2 * hf lv)))) (A % (2 * hf (lv - 1))) (B % (2 * hf (lv - 1))) s).2 else (Zq o n lv).k2), (if (kq lv (A % (2 * hf lv)) (B % (2 * hf lv))) = 3 then (Zcr f o (Zao ((Zq o n lv).k0) ((Zq o n lv).k1) ((Zq o n lv).k2) ((Zq o n lv).k3) (kq lv (A % (2 * hf lv)) (B % (2 * hf lv)))) (A % (2 * hf (lv - 1))) (B % (2 * hf (lv - 1))) s).2 else (Zq o n lv).k3)⟩ : Nd)).toArray]) (e := 101) (cells := Nd.cells (⟨(Zq o n lv).lv, (if (kq lv (A % (2 * hf lv)) (B % (2 * hf lv))) = 0 then (Zcr f o (Zao ((Zq o n lv).k0) ((Zq o n lv).k1) ((Zq o n lv).k2) ((Zq o n lv).k3) (kq lv (A % (2 * hf lv)) (B % (2 * hf lv)))) (A % (2 * hf (lv - 1))) (B % (2 * hf (lv - 1))) s).2 else (Zq o n lv).k0), (if (kq lv (A % (2 * hf lv)) (B % (2 * hf lv))) = 1 then (Zcr f o (Zao ((Zq o n lv).k0) ((Zq o n lv).k1) ((Zq o n lv).k2) ((Zq o n lv).k3) (kq lv (A % (2 * hf lv)) (B % (2 * hf lv)))) (A % (2 * hf (lv - 1))) (B % (2 * hf (lv - 1))) s).2 else (Zq o n lv).k1), (if (kq lv (A % (2 * hf lv)) (B % (2 * hf lv))) = 2 then (Zcr f o (Zao ((Zq o n lv).k0) ((Zq o n lv).k1) ((Zq o n lv).k2) ((Zq o n lv).k3) (kq lv (A % (2 * hf lv)) (B % (2 * hf lv)))) (A % (2 * hf (lv - 1))) (B % (2 * hf (lv - 1))) s).2 else (Zq o n lv).k2), (if (kq lv (A % (2 * hf lv)) (B % (2 * hf lv))) = 3 then (Zcr f o (Zao ((Zq o n lv).k0) ((Zq o n lv).k1) ((Zq o n lv).k2) ((Zq o n lv).k3) (kq lv (A % (2 * hf lv)) (B % (2 * hf lv)))) (A % (2 * hf (lv - 1))) (B % (2 * hf (lv - 1))) s).2 else (Zq o n lv).k3)⟩ : Nd)) rfl rfl (by kernel_rfl) (by decide) Zih ?_)
      intro gz_ wz_ hgz_ hBz_ kz_ hsz_
      exact ⟨Zb9 [(⟨(Zq o n lv).lv, (if (kq lv (A % (2 * hf lv)) (B % (2 * hf lv))) = 0 then (Zcr f o (Zao ((Zq o n lv).k0) ((Zq o n lv).k1) ((Zq o n lv).k2) ((Zq o n lv).k3) (kq lv (A % (2 * hf lv)) (B % (2 * hf lv)))) (A % (2 * hf (lv - 1))) (B % (2 * hf (lv - 1))) s).2 else (Zq o n lv).k0), (if (kq lv (A % (2 * hf lv)) (B % (2 * hf lv))) = 1 then (Zcr f o (Zao ((Zq o n lv).k0) ((Zq o n lv).k1) ((Zq o n lv).k2) ((Zq o n lv).k3) (kq lv (A % (2 * hf lv)) (B % (2 * hf lv)))) (A % (2 * hf (lv - 1))) (B % (2 * hf (lv - 1))) s).2 else (Zq o n lv).k1), (if (kq lv (A % (2 * hf lv)) (B % (2 * hf lv))) = 2 then (Zcr f o (Zao ((Zq o n lv).k0) ((Zq o n lv).k1) ((Zq o n lv).k2) ((Zq o n lv).k3) (kq lv (A % (2 * hf lv)) (B % (2 * hf lv)))) (A % (2 * hf (lv - 1))) (B % (2 * hf (lv - 1))) s).2 else (Zq o n lv).k2), (if (kq lv (A % (2 * hf lv)) (B % (2 * hf lv))) = 3 then (Zcr f o (Zao ((Zq o n lv).k0) ((Zq o n lv).k1) ((Zq o n lv).k2) ((Zq o n lv).k3) (kq lv (A % (2 * hf lv)) (B % (2 * hf lv)))) (A % (2 * hf (lv - 1))) (B % (2 * hf (lv - 1))) s).2 else (Zq o n lv).k3)⟩ : Nd)] hBz_ (fun h => h) rfl (by decide), kz_⟩
    · intro w8z_ kb_
      have hb_ := Zf hb11 kb_
      have hz_ := hb_.size
      have he_ := kb_.size
      intro v_ hv_; subst v_
      intro vl_ hl_
      refine op1 (Zjj (K := Kd.node) Za7 rfl rfl (hO9.g0 kb_) Zac hl_ Zc6 (by simp; omega) (by simp; omega) (by omega) (fun _ h => h.elim) ?_)
      intro vz_ wz_ hPz_ kz_ hor_ _
      refine ⟨⟨⟨hPz_, ?_⟩, ?_⟩, Two.of kz_ (fun r hr => .inr hr)⟩
      · rcases hor_ with h_ | h_
        · exact .inl h_
        · exact .inr ⟨_, h_, by omega⟩
      · exact (((hB6.gne k9 (by omega)).g0 k10).g0 kb_).grown kz_ (fun e => Zfa (hO9.ne_blk ((hB6.gne k9 (by omega)).g0 k10) (by decide)) e.symm)
    · intro w8z_ kb_
      rintro _ rfl
      exact op1 (Zeb rfl ⟨rfl, Za _⟩)
    · intro w8z_ kb_
      rintro _ rfl
      exact op1 (Zm Zgz rfl ⟨rfl, Za _⟩)
    · intro w8z_ kb_
      rintro v29 ⟨⟨h29, hr29⟩, hB29⟩ _ rfl
      refine op1 (Zdp Zcu rfl rfl h29.one hB29 (by simp) ?_)
      intro wz_ hBz_ kz_ _
      exact ⟨⟨v29, ⟨h29.keptF Zac kz_ (.inr (Zfa (h29.ne_blk hB29 (by decide)))), hr29⟩, hBz_⟩, Two.of kz_ (by rintro r ⟨⟩; exact .inl rfl)⟩
    rintro w12 k11 _ rfl _ rfl _ rfl _ rfl
    intro v_ hv_; subst v_
    rintro _ rfl v28 _ v29 _ _ rfl _ rfl _ ⟨v30, ⟨h30, hr30⟩, hB30⟩
    have hgax : g1 ≠ gp := (Zgp (hB8.g0 k10) ((hB6.gne k9 (by omega)).g0 k10) (by decide))
    have hr3 : v30.ownBlock = vo1.ownBlock ∨ ∃ q, v30.ownBlock = some q ∧ w11.heap.size ≤ q := by rw [hs7]; exact hr30
    have hb12 := k11.below hb11 hb11.size (fun i hi h_ => h_.elim (fun h_ => by omega) (fun h_ => by have := (hO9.lt i h_).1; omega))
    have hB9 := (hB8.g0 k10).two k11 (fun h_ => h_.elim hgax hn3)
    have hS5 := Sl.ggTwo ((hS3.ggB k9 hB7 (by decide) (by omega)).gg0 k10) k11 (fun i_ _ h_ => h_.elim (fun h_ => by subst h_; exact Blk.isG ((hB6.gne k9 (by omega)).g0 k10) (by decide) (by omega)) (fun h_ => hO9.isG h_ (by decide) (by omega)))
    have hS6 := Sl.ggTwo ((hS4.ggB k9 hB7 (by decide) (by omega)).gg0 k10) k11 (fun i_ _ h_ => h_.elim (fun h_ => by subst h_; exact Blk.isG ((hB6.gne k9 (by omega)).g0 k10) (by decide) (by omega)) (fun h_ => hO9.isG h_ (by decide) (by omega)))
    have hF13 := hF12.two k11 (fun i h_ => h_.imp id id) hr3
    have hz7 := hb12.size
    have hn4 := Zj3 hn3 hr3 (by have := ((hB8.g0 k10)).lt; omega)
    refine Zg (Zd (Zh (Zb (st (Zc rfl (st (Zeb rfl (st (Zm Zgz rfl ?_)))))))))
    refine st (Zs Zcu rfl hB30.range (j := 0) rfl (st (Zar Za7 rfl h30.sl (st (Ze rfl (Zg (Zd (Zx rfl rfl ?_))))))))
    have e_ : Zcr (f + 1) o n (A % (2 * hf lv)) (B % (2 * hf lv)) s = ((Zcr f o (Zao ((Zq o n lv).k0) ((Zq o n lv).k1) ((Zq o n lv).k2) ((Zq o n lv).k3) (kq lv (A % (2 * hf lv)) (B % (2 * hf lv)))) (A % (2 * hf (lv - 1))) (B % (2 * hf (lv - 1))) s).1 ++ [(Zq o n lv).setK (kq lv (A % (2 * hf lv)) (B % (2 * hf lv))) (Zcr f o (Zao ((Zq o n lv).k0) ((Zq o n lv).k1) ((Zq o n lv).k2) ((Zq o n lv).k3) (kq lv (A % (2 * hf lv)) (B % (2 * hf lv)))) (A % (2 * hf (lv - 1))) (B % (2 * hf (lv - 1))) s).2], ((Zcr f o (Zao ((Zq o n lv).k0) ((Zq o n lv).k1) ((Zq o n lv).k2) ((Zq o n lv).k3) (kq lv (A % (2 * hf lv)) (B % (2 * hf lv)))) (A % (2 * hf (lv - 1))) (B % (2 * hf (lv - 1))) s).1.length : Int) + 1) := by rw [put_nd (by omega), show (f : Int) + 1 = lv by omega, Zkr (by omega), Zkr (by omega)]; rfl
    rw [e_]
    refine ⟨_, rfl, by simp, v30, hb12, ?_, hB30, hS5, hS6, hF13⟩
    exact h30
end Go.Proofs.Ytfljelnfjbbknaa.Lm
namespace Go.Gw
open Go.RowKit
def Zha (P : Program) (ops : Array Oper) (n : Nat) (D : List Deferred) (ρ0 ρe : Env) (w0 : World) (R R0 R1 : World → World → Prop) (sp : Zb8) : List Oper → List (List Nat) → List Bool → List Bool → List Bool → Zb8 → Prop
  | o :: os, d :: ds, true :: bs, true :: cs, e :: es, (_, φ) :: r => (∀ w, R0 w0 w → Zd1 sp d (cond e (ρe ++ ρ0) ρ0) w (fun ρ => Op1 P ops o n D ρ w (fun v w' => φ v w' ∧ R1 w w'))) ∧ Zha P ops n D ρ0 ρe w0 R R0 R1 sp os ds bs cs es r
  | o :: os, d :: ds, true :: bs, false :: cs, e :: es, (_, φ) :: r => (∀ w, R w0 w → Zd1 sp d (cond e (ρe ++ ρ0) ρ0) w (fun ρ => Op1 P ops o n D ρ w (fun v w' => φ v w' ∧ R1 w w'))) ∧ Zha P ops n D ρ0 ρe w0 R R0 R1 sp os ds bs cs es r
  | o :: os, d :: ds, false :: bs, true :: cs, e :: es, (_, φ) :: r => (∀ w, R0 w0 w → Zd1 sp d (cond e (ρe ++ ρ0) ρ0) w (fun ρ => Op1 P ops o n D ρ w (fun v w' => φ v w' ∧ R0 w w'))) ∧ Zha P ops n D ρ0 ρe w0 R R0 R1 sp os ds bs cs es r
  | o :: os, d :: ds, false :: bs, false :: cs, e :: es, (_, φ) :: r => (∀ w, R w0 w → Zd1 sp d (cond e (ρe ++ ρ0) ρ0) w (fun ρ => Op1 P ops o n D ρ w (fun v w' => φ v w' ∧ R0 w w'))) ∧ Zha P ops n D ρ0 ρe w0 R R0 R1 sp os ds bs cs es r
  | _, _, _, _, _, [] => True
  | _, _, _, _, _, _ => False
section
variable {P : Program} {l : List Oper} {Q : Exit → Act → World → Prop} {n m : Nat} {D : List Deferred} {ρ0 ρe : Env} {w0 : World} {R R0 R1 : World → World → Prop} {sp : Zb8} {ds anc con : List (List Nat)} {big st1 cls es : List Bool}
theorem Zha.at_ {ops : Array Oper} : ∀ {l' : List Oper} {ds' : List (List Nat)} {bs' cs' es' : List Bool} {sp' : Zb8}, Zha P ops n D ρ0 ρe w0 R R0 R1 sp l' ds' bs' cs' es' sp' → ∀ {i : Nat} {dst : Option Nat} {φ : Value → World → Prop} {o : Oper}, sp'[i]? = some (dst, φ) → l'[i]? = some o →
    ∀ w, Zfc R R0 cs' i w0 w → Zd1 sp (ds'.getD i []) (cond (es'.getD i false) (ρe ++ ρ0) ρ0) w (fun ρ => Op1 P ops o n D ρ w (fun v w' => φ v w' ∧ Zc3 R0 R1 bs' i w w')) := by
  intro l' ds' bs' cs' es' sp' h
  induction sp' generalizing l' ds' bs' cs' es' with
  | nil => intro i dst φ o hs; simp at hs
  | cons p r ih =>
    intro i dst φ o hs hl
    obtain ⟨pd, pφ⟩ := p
    match l', ds', bs', cs', es', h with
    | o' :: os, d :: dd, true :: bb, true :: cc, e :: ee, h =>
      obtain ⟨h1, h2⟩ := h
      cases i with
      | zero => simp at hs hl; obtain ⟨rfl, rfl⟩ := hs; subst hl; simpa [Zc3, Zfc] using h1
      | succ i => simp at hs hl; simpa [Zc3, Zfc] using ih h2 hs hl
    | o' :: os, d :: dd, true :: bb, false :: cc, e :: ee, h =>
      obtain ⟨h1, h2⟩ := h
      cases i with
      | zero => simp at hs hl; obtain ⟨rfl, rfl⟩ := hs; subst hl; simpa [Zc3, Zfc] using h1
      | succ i => simp at hs hl; simpa [Zc3, Zfc] using ih h2 hs hl
    | o' :: os, d :: dd, false :: bb, true :: cc, e :: ee, h =>
      obtain ⟨h1, h2⟩ := h
      cases i with
      | zero => simp at hs hl; obtain ⟨rfl, rfl⟩ := hs; subst hl; simpa [Zc3, Zfc] using h1
      | succ i => simp at hs hl; simpa [Zc3, Zfc] using ih h2 hs hl
    | o' :: os, d :: dd, false :: bb, false :: cc, e :: ee, h =>
      obtain ⟨h1, h2⟩ := h
      cases i with
      | zero => simp at hs hl; obtain ⟨rfl, rfl⟩ := hs; subst hl; simpa [Zc3, Zfc] using h1
      | succ i => simp at hs hl; simpa [Zc3, Zfc] using ih h2 hs hl
end
end Go.Gw
namespace Go.Gw
open Go.RowKit
end Go.Gw
namespace Go.Proofs.Ytfljelnfjbbknaa.Lm
open Go.RowKit Go.Gw
end Go.Proofs.Ytfljelnfjbbknaa.Lm
namespace Go.Gw
open Go.RowKit
end Go.Gw
namespace Go.Gw
open Go.RowKit
theorem Zk6 {c : Cl} {u : Int} (h : inC c u = true) : ∀ (n : Nat) (v : Int), v ≤ u → upL c n v ≤ u
  | 0, v, hv => hv
  | n + 1, v, hv => by
    unfold upL
    split
    · rename_i hc
      refine Zk6 h n (v + 1) ?_
      by_cases e : v = u
      · subst e; rw [h] at hc; exact absurd hc.2 (by decide)
      · omega
    · exact hv
theorem lvUp_eq {q : List Nd} (h : Can q) {x y u : Int} (h1 : max (Zaq q) 1 ≤ u) (h2 : u ≤ 1329) (hf : ∀ j : Int, max (Zaq q) 1 ≤ j → j < u → inC ⟨x, y, 0⟩ j = false) (hin : inC ⟨x, y, 0⟩ u = true) : Zd5 q x y = u := by
  obtain ⟨⟨a, b⟩, c⟩ := Zhu h x y
  have d : Zd5 q x y ≤ u := Zk6 hin 1331 _ h1
  by_cases e : Zd5 q x y = u
  · exact e
  · have := hf _ a (by omega); rw [c (by omega)] at this; cases this
theorem lvUp_out {q : List Nd} (h : Can q) {x y : Int} (hf : ∀ j : Int, max (Zaq q) 1 ≤ j → j < 1329 → inC ⟨x, y, 0⟩ j = false) (h9 : inC ⟨x, y, 0⟩ 1329 = false) : 1329 < Zd5 q x y := by
  obtain ⟨⟨a, b⟩, c⟩ := Zhu h x y
  refine Classical.byContradiction fun e => ?_
  have hi := c (by omega)
  by_cases e2 : Zd5 q x y = 1329
  · rw [e2, h9] at hi; cases hi
  · rw [hf _ a (by omega)] at hi; cases hi
theorem out_cel {q : List Nd} (h : Can q) {x y : Int} (ho : 1329 < Zd5 q x y) : Zbg q x y = 0 := by
  by_cases e : q = []
  · subst e; rfl
  · have hv := Zke h.ok e
    refine get_none h ?_
    cases hi : inC ⟨x, y, 0⟩ (Zaq q)
    · rfl
    · have := Zk6 hi 1331 (max (Zaq q) 1) (by omega)
      unfold Zd5 at ho; omega
theorem set_out {q : List Nd} (h : Can q) {x y s : Int} (ho : 1329 < Zd5 q x y) (hs : s ≠ Zbg q x y) : Zba q x y s = ([], 4) := by
  unfold Zba; rw [if_pos ho, if_neg (by rw [← out_cel h ho]; exact hs)]
theorem set_up {q : List Nd} {x y s u : Int} (e : Zd5 q x y = u) (hu : u ≤ 1329) (hin : inC ⟨x, y, 0⟩ u = true) :
    Zba q x y s = ofL (Zcr u.toNat (Zc5 q u) (Zc5 q u).length ((x + hf u) % (2 * hf u)) ((y + hf u) % (2 * hf u)) s).1 (Zcr u.toNat (Zc5 q u) (Zc5 q u).length ((x + hf u) % (2 * hf u)) ((y + hf u) % (2 * hf u)) s).2 := by
  unfold inC at hin; rw [decide_eq_true_eq] at hin; simp only at hin
  unfold Zba; rw [if_neg (by omega), e]; unfold putQ
  rw [Zi8 (by omega), Zi8 (by omega)]
theorem last_rng {q : List Nd} (h : Can q) : 0 ≤ (Zl q).lv ∧ (Zl q).lv ≤ 1329 := by
  by_cases e : q = []
  · subst e; exact ⟨by decide, by decide⟩
  · rw [lastN_lv e]; have := Zgj h; omega
end Go.Gw
namespace Go.Proofs.Ytfljelnfjbbknaa.Nd
open Go.RowKit Go.Gw
theorem Zl7 {a w : World} {ga gk : Nat} {vo : Value} {o : List Nd} {M : List (Nd × Int)} {x : Nd} (hb0 : Below a.heap.size a w) (hga : a.heap.size ≤ ga) (hgk : a.heap.size ≤ gk) (hBA : Blk w ga 126 [vo, .map (some gk)].toArray) (hMK : Zch Nd.val ekI w gk M) (hE : Gw.Own Kd.node 101 a.heap.size w (fun _ => False) vo o)
    (hMI : MInv M o) (hol : o.length ≤ 200000) : Calls Try.prog 94 [.pointer (some ⟨ga, 0, none⟩), .agg x.cells.toArray].toArray w (Ret fun v w' => v = .int .i64 (Zcc o x).2 ∧ ∃ vo' M', Below a.heap.size a w' ∧ Blk w' ga 126 [vo', .map (some gk)].toArray ∧ Zch Nd.val ekI w' gk M' ∧ Gw.Own Kd.node 101 a.heap.size w' (fun _ => False) vo' (Zcc o x).1 ∧ MInv M' (Zcc o x).1 ∧ Frm (fun g => g = ga ∨ g = gk) w vo w' vo') := by
  have hz0 := hb0.size
  have hF0 := Frm.refl (fun g => g = ga ∨ g = gk) w vo
  have hgal := hBA.lt
  refine enter Try.func94 rfl rfl (Zh (Zb (st (Zcb rfl ?_))))
  intro g1 w1 hg1 hB1 k1 hs1
  have hn1 := Zeh hE hg1
  have hb1 := Zf hb0 k1
  have hF1 := hF0.none k1
  have hO1 := hE.g0 k1
  have hM1 := hMK.g0 k1
  refine st (Ze rfl (Zg (Zd (Zh (Zh (Zb (st (Zm Za5 rfl ?_))))))))
  refine st (Zau (us := [.int .i64 x.k0, .int .i64 x.k1, .int .i64 x.k2, .int .i64 x.k3]) row99 rfl hB1.range (j := 1) rfl rfl (st (Zbo (ps := []) (ccs := []) (cells := [.int .i64 0, .int .i64 0, .int .i64 0, .int .i64 0]) rfl rfl (by kernel_rfl) (st (s_eq4 four99 (by kernel_rfl) (by kernel_rfl) (by kernel_rfl) rfl rfl (Zg (Zd ?_)))))))
  refine Zw rfl (fun h1 => ?_) (fun h1 => ?_)
  · refine Zh (Zb (st (Ze rfl (Zg (Zd (Zx rfl rfl ?_))))))
    have hv : Zcc o x = (o, 0) := intr_zero h1
    refine ⟨_, rfl, ?_, vo, _, hb1, (hBA.g0 k1), hM1, ?_, ?_, hF1⟩
    · rw [hv]
    · rw [hv]; exact hO1
    · rw [hv]; exact hMI
  refine Zn (Zd (Zh (Zh ?_)))
  refine Zby 10 (fun a b => a.grownBy b none) [(some 12, Is <| .pointer (some ⟨ga, 0, none⟩)), (some 13, Is <| .pointer (some ⟨ga, 0, none⟩)), (some 14, Is <| .pointer (some ⟨ga, 0 + 1, none⟩)), (some 15, Is <| .map (some gk)), (some 16, Is <| .agg [.int .i64 x.lv, .int .i64 x.k0, .int .i64 x.k1, .int .i64 x.k2, .int .i64 x.k3].toArray), (some 17, Is <| .tuple #[.int .i64 ((Zd0 M x).getD 0), .bool ((Zd0 M x).isSome)]), (some 11, Is <| .tuple #[.int .i64 ((Zd0 M x).getD 0), .bool ((Zd0 M x).isSome)]), (some 18, Is <| .int .i64 ((Zd0 M x).getD 0)), (some 19, Is <| .bool ((Zd0 M x).isSome)), (some 5, Is <| .int .i64 ((Zd0 M x).getD 0))] [[], [0], [1], [2], [], [3, 4], [5], [6], [6], [7]] [(0, .pointer (some ⟨ga, 0, none⟩)), (3, .pointer (some ⟨g1, 0, none⟩)), (4, .int .i64 0)] (by exact ⟨rfl, rfl, rfl, trivial⟩) (by kernel_rfl) (by kernel_rfl) Za (fun _ _ _ => Zaa) ⟨kv, kv, kv, kv, kv, kv, kv, kv, kv, kv, trivial⟩ ?_
  intro w2 k2 hs2
  have hb2 := Zf hb1 k2
  have hF2 := hF1.none k2
  have hO2 := hO1.g0 k2
  have hM2 := hM1.g0 k2
  refine ⟨⟨?_, ?_, ?_, ?_, ?_, ?_, ?_, ?_, ?_, ?_, trivial⟩, ?_⟩
  · intro w3 k3
    have hM3 := hM2.g0 k3
    refine op1 (Zc rfl ?_)
    exact ⟨rfl, Za _⟩
  · intro w4 k4
    have hM4 := hM2.g0 k4
    rintro _ rfl
    refine op1 (Zeb rfl ?_)
    exact ⟨rfl, Za _⟩
  · intro w5 k5
    have hM5 := hM2.g0 k5
    rintro _ rfl
    refine op1 (Zm fld126_1 rfl ?_)
    exact ⟨rfl, Za _⟩
  · intro w6 k6
    have hM6 := hM2.g0 k6
    rintro _ rfl
    refine op1 (Zs one124 rfl (((hBA.g0 k1).g0 k2).g0 k6).range (j := 1) rfl ?_)
    exact ⟨rfl, Za _⟩
  · intro w7 k7
    have hM7 := hM2.g0 k7
    refine op1 (Zu Za9 rfl ((hB1.g0 k2).g0 k7).range rfl ?_)
    exact ⟨rfl, Za _⟩
  · intro w8 k8
    have hM8 := hM2.g0 k8
    rintro _ rfl _ rfl
    refine op1 (Zl3 map124 keyNode rfl rfl hM8 (by kernel_rfl) ?_)
    exact ⟨rfl, Za _⟩
  · intro w9 k9
    have hM9 := hM2.g0 k9
    rintro _ rfl
    refine op1 (Zc rfl ?_)
    exact ⟨rfl, Za _⟩
  · intro w10 k10
    have hM10 := hM2.g0 k10
    rintro _ rfl
    refine op1 (Zag rfl rfl ?_)
    exact ⟨rfl, Za _⟩
  · intro w11 k11
    have hM11 := hM2.g0 k11
    rintro _ rfl
    refine op1 (Zag rfl rfl ?_)
    exact ⟨rfl, Za _⟩
  · intro w12 k12
    have hM12 := hM2.g0 k12
    rintro _ rfl
    refine op1 (Ze rfl ?_)
    exact ⟨rfl, Za _⟩
  intro w13 k13
  have hb13 := Zf hb2 k13
  have hF13 := hF2.none k13
  have hO13 := hO2.g0 k13
  have hM13 := hM2.g0 k13
  rintro _ rfl _ rfl _ rfl _ rfl _ rfl _ rfl _ rfl _ rfl _ rfl _ rfl
  refine st (Ze rfl (Zg (Zd (Zh (Zb (st (Zc rfl (Zg ?_))))))))
  refine Zd ?_
  refine Zbd rfl (fun h2 => ?_) (fun h2 => ?_)
  · refine Zh (Zb (st (Zc rfl (st (Ze rfl (Zg (Zd (Zx rfl rfl ?_))))))))
    have hv := minv_yes hMI h2 h1
    refine ⟨_, rfl, ?_, vo, _, hb13, (((hBA.g0 k1).g0 k2).g0 k13), hM13, ?_, ?_, hF13⟩
    · rw [hv]
    · rw [hv]; exact hO13
    · rw [hv]; exact hMI
  refine Zn (Zd (Zh ?_))
  refine w_drawD 11 (Two (fun i => i = ga ∨ vo.ownBlock = some i)) (fun a b => a.grownBy b none) (Two (fun i => i = ga ∨ vo.ownBlock = some i)) [(some 22, fun v _ => v = .pointer (some ⟨ga, 0, none⟩)), (some 23, fun v _ => v = .pointer (some ⟨ga, 0, none⟩)), (some 24, fun v _ => v = .pointer (some ⟨ga, 0, none⟩)), (some 25, fun v _ => v = .pointer (some ⟨ga, 0 + 0, none⟩)), (some 26, fun v _ => v = vo), (some 27, fun v _ => v = .agg [.int .i64 x.lv, .int .i64 x.k0, .int .i64 x.k1, .int .i64 x.k2, .int .i64 x.k3].toArray), (some 28, fun v W => Sl Kd.node W (fun _ => False) v [x]), (some 29, fun v W => (Gw.Own Kd.node 101 a.heap.size W (fun _ => False) v (o ++ [x]) ∧ (v.ownBlock = vo.ownBlock ∨ ∃ q, v.ownBlock = some q ∧ w13.heap.size ≤ q)) ∧ Blk W ga 126 [vo, .map (some gk)].toArray), (some 30, fun v _ => v = .pointer (some ⟨ga, 0, none⟩)), (some 31, fun v _ => v = .pointer (some ⟨ga, 0 + 0, none⟩)), (none, fun _ W => ∃ u, (Gw.Own Kd.node 101 a.heap.size W (fun _ => False) u (o ++ [x]) ∧ (u.ownBlock = vo.ownBlock ∨ ∃ q, u.ownBlock = some q ∧ w13.heap.size ≤ q)) ∧ Blk W ga 126 [u, .map (some gk)].toArray)] [[], [], [1], [2], [3], [], [5], [4, 6], [0], [8], [7, 9]] [[], [], [1], [2, 1], [3, 2, 1], [], [5], [4, 6, 3, 2, 1, 5], [], [], [7, 6, 5, 4, 3, 2, 1]] [[], [], [], [], [], [], [7], [10], [], [], []] [false, false, false, false, false, false, false, true, false, false, true] [true, true, true, true, true, true, false, false, true, true, false] [false, true, true, true, true, true, true, true, false, false, false] [(0, .pointer (some ⟨ga, 0, none⟩)), (3, .pointer (some ⟨g1, 0, none⟩)), (4, .int .i64 0)] (by exact ⟨rfl, rfl, rfl, trivial⟩) (by kernel_rfl) (by kernel_rfl) (by kernel_rfl) rfl (Two.refl _) (fun _ _ _ h k => h.trans k) (fun _ _ h => Two.none h) (fun _ _ h => h) ⟨fun _ _ _ h _ => by exact h, fun _ _ _ h _ => by exact h, fun _ _ _ h _ => by exact h, fun _ _ _ h _ => by exact h, fun _ _ _ h _ => by exact h, fun _ _ _ h _ => by exact h, fun _ _ _ h _ => by exact h, fun _ _ _ h _ => by exact h, fun _ _ _ h _ => by exact h, fun _ _ _ h _ => by exact h, fun _ _ _ h _ => by exact h, fun _ _ _ h _ => by exact h, fun _ _ _ h k => h.g0 k, fun _ _ _ h k => ⟨⟨h.1.1.g0 k, h.1.2⟩, h.2.g0 k⟩, fun _ _ _ h _ => by exact h, fun _ _ _ h _ => by exact h, fun _ _ _ h _ => by exact h, fun _ _ _ h _ => by exact h, fun _ _ _ h k => by obtain ⟨u, h⟩ := h; exact ⟨u, ⟨h.1.1.g0 k, h.1.2⟩, h.2.g0 k⟩, trivial⟩ Za (fun _ _ _ => Zaa) rfl ?_
  intro w14 k14 hs3
  have hb14 := Zf hb13 k14
  have hF14 := hF13.none k14
  have hO14 := hO13.g0 k14
  have hM14 := hM13.g0 k14
  refine ⟨⟨?_, ?_, ?_, ?_, ?_, ?_, ?_, ?_, ?_, ?_, ?_, trivial⟩, ?_⟩
  · intro w8z_ kb_
    exact op1 (Zc rfl ⟨rfl, Za _⟩)
  · intro w8z_ kb_
    have hb_ := Zf hb14 kb_
    have hz_ := hb_.size
    have he_ := kb_.size
    exact op1 (Zc rfl ⟨rfl, Za _⟩)
  · intro w8z_ kb_
    have hb_ := Zf hb14 kb_
    have hz_ := hb_.size
    have he_ := kb_.size
    rintro _ rfl
    exact op1 (Zeb rfl ⟨rfl, Za _⟩)
  · intro w8z_ kb_
    have hb_ := Zf hb14 kb_
    have hz_ := hb_.size
    have he_ := kb_.size
    rintro _ rfl
    exact op1 (Zm Zin rfl ⟨rfl, Za _⟩)
  · intro w8z_ kb_
    have hb_ := Zf hb14 kb_
    have hz_ := hb_.size
    have he_ := kb_.size
    rintro _ rfl
    exact op1 (Zs Zcu rfl (((((hBA.g0 k1).g0 k2).g0 k13).g0 k14).g0 kb_).range (j := 0) rfl ⟨rfl, Za _⟩)
  · intro w8z_ kb_
    have hb_ := Zf hb14 kb_
    have hz_ := hb_.size
    have he_ := kb_.size
    exact op1 (Zu Za9 rfl ((((hB1.g0 k2).g0 k13).g0 k14).g0 kb_).range rfl ⟨rfl, Za _⟩)
  · intro w8z_ kb_
    have hb_ := Zf hb14 kb_
    have hz_ := hb_.size
    have he_ := kb_.size
    rintro _ rfl
    refine op1 (Zay (ps := [(0, .tmp 27)]) (ccs := [(Nd.cells x).toArray]) (e := 101) (cells := Nd.cells x) rfl rfl (by kernel_rfl) (by decide) Zih ?_)
    intro gz_ wz_ hgz_ hBz_ kz_ hsz_
    exact ⟨Zb9 [x] hBz_ (fun h => h) rfl (by decide), kz_⟩
  · intro w8z_ kb_
    have hb_ := Zf hb14 kb_
    have hz_ := hb_.size
    have he_ := kb_.size
    intro v_ hv_; subst v_
    intro vl_ hl_
    refine op1 (Zjj (K := Kd.node) Za7 rfl rfl (hO14.g0 kb_) Zac hl_ Zc6 (by simp; omega) (by simp; omega) (by omega) (fun _ h => h.elim) ?_)
    intro vz_ wz_ hPz_ kz_ hor_ _
    refine ⟨⟨⟨hPz_, ?_⟩, ?_⟩, Two.of kz_ (fun r hr => .inr hr)⟩
    · rcases hor_ with h_ | h_
      · exact .inl h_
      · exact .inr ⟨_, h_, by omega⟩
    · exact (((((hBA.g0 k1).g0 k2).g0 k13).g0 k14).g0 kb_).grown kz_ (fun e => Zfa (hO14.ne_blk ((((hBA.g0 k1).g0 k2).g0 k13).g0 k14) (by decide)) e.symm)
  · intro w8z_ kb_
    rintro _ rfl
    exact op1 (Zeb rfl ⟨rfl, Za _⟩)
  · intro w8z_ kb_
    rintro _ rfl
    exact op1 (Zm Zin rfl ⟨rfl, Za _⟩)
  · intro w8z_ kb_
    rintro v29 ⟨⟨h29, hr29⟩, hB29⟩ _ rfl
    refine op1 (Zdp Zcu rfl rfl h29.one hB29 (by simp) ?_)
    intro wz_ hBz_ kz_ _
    exact ⟨⟨v29, ⟨h29.keptF Zac kz_ (.inr (Zfa (h29.ne_blk hB29 (by decide)))), hr29⟩, hBz_⟩, Two.of kz_ (by rintro r ⟨⟩; exact .inl rfl)⟩
  rintro w15 k15 _ rfl _ rfl _ rfl _ rfl
  intro v_ hv_; subst v_
  rintro _ rfl v28 _ v29 _ _ rfl _ rfl _ ⟨v30, ⟨h30, hr30⟩, hB30⟩
  have hgax : g1 ≠ ga := (Zgp (((hB1.g0 k2).g0 k13).g0 k14) ((((hBA.g0 k1).g0 k2).g0 k13).g0 k14) (by decide))
  have hgkx : gk ≠ ga := hM14.ne_blk ((((hBA.g0 k1).g0 k2).g0 k13).g0 k14)
  have hr1 : v30.ownBlock = vo.ownBlock ∨ ∃ q, v30.ownBlock = some q ∧ w14.heap.size ≤ q := by rw [hs3]; exact hr30
  have hb15 := k15.below hb14 hb14.size (fun i hi h_ => h_.elim (fun h_ => by omega) (fun h_ => by have := (hO14.lt i h_).1; omega))
  have hB2 := (((hB1.g0 k2).g0 k13).g0 k14).two k15 (fun h_ => h_.elim hgax hn1)
  have hM15 := hM14.two k15 (fun h_ => h_.elim hgkx (Zk2 hM14 hO14))
  have hF15 := hF14.two k15 (fun i h_ => h_.imp .inl id) hr1
  have hz1 := hb15.size
  have hn2 := Zj3 hn1 hr1 (by have := (((hB1.g0 k2).g0 k13).g0 k14).lt; omega)
  refine Zg (Zd (Zh ?_))
  refine Zby 10 (fun a b => a.grownBy b none) [(some 32, Is <| .pointer (some ⟨ga, 0, none⟩)), (some 33, Is <| .pointer (some ⟨ga, 0, none⟩)), (some 34, Is <| .pointer (some ⟨ga, 0 + 1, none⟩)), (some 35, Is <| .map (some gk)), (some 36, Is <| .agg [.int .i64 x.lv, .int .i64 x.k0, .int .i64 x.k1, .int .i64 x.k2, .int .i64 x.k3].toArray), (some 37, Is <| .pointer (some ⟨ga, 0, none⟩)), (some 38, Is <| .pointer (some ⟨ga, 0, none⟩)), (some 39, Is <| .pointer (some ⟨ga, 0 + 0, none⟩)), (some 40, Is <| v30), (some 41, Is <| .int .i64 ((o ++ [x]).length : Int))] [[], [0], [1], [2], [], [], [5], [6], [7], [8]] [(0, .pointer (some ⟨ga, 0, none⟩)), (3, .pointer (some ⟨g1, 0, none⟩)), (4, .int .i64 0)] (by exact ⟨rfl, rfl, rfl, trivial⟩) (by kernel_rfl) (by kernel_rfl) Za (fun _ _ _ => Zaa) ⟨kv, kv, kv, kv, kv, kv, kv, kv, kv, kv, trivial⟩ ?_
  intro w16 k16 hs4
  have hb16 := Zf hb15 k16
  have hF16 := hF15.none k16
  have hO15 := h30.g0 k16
  have hM16 := hM15.g0 k16
  refine ⟨⟨?_, ?_, ?_, ?_, ?_, ?_, ?_, ?_, ?_, ?_, trivial⟩, ?_⟩
  · intro w17 k17
    have hM17 := hM16.g0 k17
    refine op1 (Zc rfl ?_)
    exact ⟨rfl, Za _⟩
  · intro w18 k18
    have hM18 := hM16.g0 k18
    rintro _ rfl
    refine op1 (Zeb rfl ?_)
    exact ⟨rfl, Za _⟩
  · intro w19 k19
    have hM19 := hM16.g0 k19
    rintro _ rfl
    refine op1 (Zm fld126_1 rfl ?_)
    exact ⟨rfl, Za _⟩
  · intro w20 k20
    have hM20 := hM16.g0 k20
    rintro _ rfl
    refine op1 (Zs one124 rfl ((hB30.g0 k16).g0 k20).range (j := 1) rfl ?_)
    exact ⟨rfl, Za _⟩
  · intro w21 k21
    have hM21 := hM16.g0 k21
    refine op1 (Zu Za9 rfl ((hB2.g0 k16).g0 k21).range rfl ?_)
    exact ⟨rfl, Za _⟩
  · intro w22 k22
    have hM22 := hM16.g0 k22
    refine op1 (Zc rfl ?_)
    exact ⟨rfl, Za _⟩
  · intro w23 k23
    have hM23 := hM16.g0 k23
    rintro _ rfl
    refine op1 (Zeb rfl ?_)
    exact ⟨rfl, Za _⟩
  · intro w24 k24
    have hM24 := hM16.g0 k24
    rintro _ rfl
    refine op1 (Zm Zin rfl ?_)
    exact ⟨rfl, Za _⟩
  · intro w25 k25
    have hM25 := hM16.g0 k25
    rintro _ rfl
    refine op1 (Zs Zcu rfl ((hB30.g0 k16).g0 k25).range (j := 0) rfl ?_)
    exact ⟨rfl, Za _⟩
  · intro w26 k26
    have hO25 := hO15.g0 k26
    have hM26 := hM16.g0 k26
    intro v_ hv_; subst v_
    refine op1 (Zar Za7 rfl hO25.sl ?_)
    exact ⟨rfl, Za _⟩
  intro w27 k27
  have hb27 := Zf hb16 k27
  have hF27 := hF16.none k27
  have hO26 := hO15.g0 k27
  have hM27 := hM16.g0 k27
  rintro _ rfl _ rfl _ rfl _ rfl _ rfl _ rfl _ rfl _ rfl
  intro v_ hv_; subst v_
  rintro _ rfl
  refine st0 (Zkf (a := x) (v := ((o ++ [x]).length : Int)) map124 keyNode rfl rfl rfl hM27 ?_)
  intro w28 hM28 k28 hs5
  have hb28 := Zv hb27 k28 (by first | omega | (have h9 := (hb27).size; omega))
  have hF28 := hF27.put k28 (by first | exact .inr (by omega) | exact .inl (by assumption) | exact .inl (.inl rfl) | exact .inl (.inr rfl) | exact .inl (.inr (.inl rfl)) | exact .inl (.inr (.inr rfl)))
  have hO27 := Own.keptF Zac hO26 k28 (hM27.ne_own hO26)
  refine Zg (Zd (Zh (Zb (st (Zc rfl (st (Zeb rfl (st (Zm Zin rfl ?_)))))))))
  refine st (Zs Zcu rfl (((hB30.g0 k16).g0 k27).gne k28 (hM27.ne_blk ((hB30.g0 k16).g0 k27)).symm).range (j := 0) rfl (st (Zar Za7 rfl hO27.sl (st (Ze rfl (Zg (Zd (Zx rfl rfl ?_))))))))
  have hv := minv_no hMI h2 h1
  refine ⟨_, rfl, ?_, v30, _, hb28, (((hB30.g0 k16).g0 k27).gne k28 (hM27.ne_blk ((hB30.g0 k16).g0 k27)).symm), hM28, ?_, ?_, hF28⟩
  · rw [hv.1]; simp
  · rw [hv.1]; exact hO27
  · rw [hv.1]; exact minv_push hMI hv.2 (by simp)
end Go.Proofs.Ytfljelnfjbbknaa.Nd
namespace Go.Proofs.Ytfljelnfjbbknaa.Nd
open Go.RowKit Go.Gw
theorem visit1_any {a0 : World} {vl : Value} {L : List Nd} {F : Nat → Prop} {g7 g2 g8 g6 ga gd gk : Nat} (hl : Sl Kd.node a0 F vl L) (hl_ok : Zah L = true) (hll : L.length ≤ 110000) (hne0 : a0.heap.size ≤ ga ∧ a0.heap.size ≤ gd ∧ a0.heap.size ≤ gk) (hdst : Dist g7 g2 g8 g6 ga gd gk) :
    ∀ (f : Nat) {w : World} {vo : Value} {o : List Nd} {D : List (Int × Int)} {M : List (Nd × Int)} {n : Int}, n < f → 0 ≤ n → n ≤ L.length → Below a0.heap.size a0 w → Blk w g7 127 [.map (some gd)].toArray → Blk w g2 22 [vl].toArray → Blk w g8 128 [.func (.func 93) [].toArray [.pointer (some ⟨g7, 0, none⟩), .pointer (some ⟨g2, 0, none⟩), .pointer (some ⟨g8, 0, none⟩), .pointer (some ⟨g6, 0, none⟩)].toArray].toArray → Blk w g6 123 [Value.pointer (some ⟨ga, 0, none⟩)].toArray → Blk w ga 126 [vo, .map (some gk)].toArray → Zch ekI ekI w gd D → Zch Nd.val ekI w gk M → Gw.Own Kd.node 101 a0.heap.size w (fun _ => False) vo o → DOk L D o → MInv M o → CanL o →
    Calls Try.prog 93 ([] ++ [Value.int .i64 n] ++ [Value.pointer (some ⟨g7, 0, none⟩), Value.pointer (some ⟨g2, 0, none⟩), Value.pointer (some ⟨g8, 0, none⟩), Value.pointer (some ⟨g6, 0, none⟩)]).toArray w (Ret fun v w' => v = .int .i64 (vis (tr L n) o).2 ∧ ∃ vo' D' M', Below a0.heap.size a0 w' ∧ Blk w' ga 126 [vo', .map (some gk)].toArray ∧ Zch ekI ekI w' gd D' ∧ Zch Nd.val ekI w' gk M' ∧ Gw.Own Kd.node 101 a0.heap.size w' (fun _ => False) vo' (vis (tr L n) o).1 ∧
      DOk L D' (vis (tr L n) o).1 ∧ MInv M' (vis (tr L n) o).1 ∧ CanL (vis (tr L n) o).1 ∧ (∀ i : Int, n < i → Zd0 D' i = Zd0 D i) ∧ Frm (fun g => g = ga ∨ g = gd ∨ g = gk) w vo w' vo') := by
  intro f
  induction f with
  | zero => intro w vo o D M n hnf hn0; omega
  | succ f ih =>
    intro w vo o D M n hnf hn0 hn1b hb0 hQ7 hQ2 hQ8 hQ6 hBA hMD hMK hE hdok0 hmi0 hcan0
    have hnf2 : n ≤ (f : Int) := by omega
    have hgl7 := hQ7.lt
    have hgl2 := hQ2.lt
    have hgl8 := hQ8.lt
    have hgl6 := hQ6.lt
    have hgla := hBA.lt
    have hgld := hMD.lt
    have hglk := hMK.lt
    have hdk_ : gd ≠ gk := fun e => hdst.dx (.inr e)
    have hz0 := hb0.size
    have hF0 := Frm.refl (fun g => g = ga ∨ g = gd ∨ g = gk) w vo
    refine enter Try.func93 rfl rfl (Zh (Zb (st (Ze rfl (Zg (Zd (Zh ?_)))))))
    refine Zh (Zb (st (Zs one127 rfl hQ7.range (j := 0) rfl (st (Zc rfl (st (Zl3 map127 keyI rfl rfl hMD (by kernel_rfl) (st (Zc rfl (st (Zag rfl rfl ?_)))))))))))
    refine st (Zag rfl rfl (st (Ze rfl (st (Ze rfl (Zg (Zd (Zh (Zb ?_)))))))))
    refine st (Zc rfl (Zg (Zd ?_)))
    refine Zbd rfl (fun h1 => ?_) (fun h1 => ?_)
    · obtain ⟨m_, hm_⟩ := Option.isSome_iff_exists.1 h1
      have hv_ := (hdok0.ok n m_ hm_).2.2
      refine Zh (Zb (st (Zc rfl (st (Ze rfl (Zg (Zd (Zx rfl rfl ?_))))))))
      rw [hm_]
      refine ⟨_, rfl, ?_, vo, D, M, hb0, hBA, hMD, hMK, ?_, ?_, ?_, ?_, fun _ _ => rfl, hF0⟩
      · rw [hv_]; rfl
      · rw [hv_]; exact hE
      · rw [hv_]; exact hdok0
      · rw [hv_]; exact hmi0
      · rw [hv_]; exact hcan0
    have hn1p : 1 ≤ n := by
      rcases Int.lt_or_le 0 n with q | q
      · omega
      · exfalso; have e : n = 0 := by omega
        rw [e, hdok0.zero] at h1; cases h1
    have hkr := Zdg hl_ok (i := n - 1) (by omega) (by omega)
    have hno_ : Zd0 D n = none := by simpa using h1
    refine Zn (Zd (Zh (Zb (st (Zs Zcu rfl hQ2.range (j := 0) rfl (st (Zc rfl (st (Zbh rfl rfl (by omega) ?_)))))))))
    refine st (Zaz Za7 rfl rfl (hl.at0 hb0) (by omega) (by omega) ?_)
    rintro b1 o1 _ ⟨rfl, _⟩ hc1 hF1 hlt1
    have hl_1 := Loc.lt hF1
    refine st (Zu Za9 rfl hc1 rfl (st (Zat Zdd ?_)))
    intro g1 w1 hg1 hB1 k1 hs1
    have hz1 := hb0.size
    have hn1 := Zeh hE hg1
    have hb1 := Zf hb0 k1
    have hF2 := hF0.none k1
    have hO1 := hE.g0 k1
    have hM1 := hMK.g0 k1
    have hM2 := hMD.g0 k1
    refine st0 (Zae Za9 rfl rfl hB1 rfl rfl rfl ?_)
    intro w2 hB2 k2 hs2
    have hb2 := Zv hb1 k2 (by first | omega | (have h9 := (hb1).size; omega))
    have hF3 := hF2.put k2 (by first | exact .inr (by omega) | exact .inl (by assumption) | exact .inl (.inl rfl) | exact .inl (.inr rfl) | exact .inl (.inr (.inl rfl)) | exact .inl (.inr (.inr rfl)))
    have hO2 := Own.keptN Zac hO1 k2 hn1
    have hM3 := hM1.kept k2 (by simpa using hM1.ne_blk hB1)
    have hM4 := hM2.kept k2 (by simpa using hM2.ne_blk hB1)
    clear hB1
    refine Zg (Zd (Zh (Zh (Zb (st (Zm Za6 rfl (st (Zs Zbj rfl hB2.range (j := 0) rfl ?_))))))))
    refine st (Zcj rfl rfl (Zg (Zd ?_)))
    refine Zw rfl (fun h2 => ?_) (fun h2 => ?_)
    rotate_left
    · refine Zn (Zd (Zh (Zb (st (Zs one123 rfl ((hQ6.g0 k1).gne k2 (by omega)).range (j := 0) rfl (st (Zu Za9 rfl hB2.range rfl ?_)))))))
      have hlen9 := hdok0.len
      have hcnt9 := hdok0.cnt
      refine st (Zp fn94 rfl (Zl7 (x := (⟨(ix L (n - 1)).lv, (ix L (n - 1)).k0, (ix L (n - 1)).k1, (ix L (n - 1)).k2, (ix L (n - 1)).k3⟩ : Nd)) hb2 (by omega) (by omega) ((hBA.g0 k1).gne k2 (by omega)) hM3 hO2 hmi0 (by omega)) ?_)
      rintro _ w8 ⟨rfl, vo3, M3, hb8, hB15, hM13, hO7, hp8, hp9⟩
      have hz5 := hb8.size
      have hB16 := Blk.frm ((hQ7.g0 k1).gne k2 (by omega)) hp9 (not3 hdst.x7) (Zfa (hO2.ne_blk ((hQ7.g0 k1).gne k2 (by omega)) (by decide)))
      have hB17 := Blk.frm ((hQ2.g0 k1).gne k2 (by omega)) hp9 (not3 hdst.x2) (Zfa (hO2.ne_blk ((hQ2.g0 k1).gne k2 (by omega)) (by decide)))
      have hB18 := Blk.frm ((hQ8.g0 k1).gne k2 (by omega)) hp9 (not3 hdst.x8) (Zfa (hO2.ne_blk ((hQ8.g0 k1).gne k2 (by omega)) (by decide)))
      have hB19 := Blk.frm ((hQ6.g0 k1).gne k2 (by omega)) hp9 (not3 hdst.x6) (Zfa (hO2.ne_blk ((hQ6.g0 k1).gne k2 (by omega)) (by decide)))
      have hM14 := Zch.frm hM4 hp9 hdst.dx (Zk2 hM4 hO2)
      have hF8 := hF3.trans (hp9.mono (fun g_ h_ => h_.elim .inl (fun h_ => .inr (.inr h_))))
      refine st (Ze rfl (Zg (Zd (Zh (Zb (st (Zs one127 rfl hB16.range (j := 0) rfl (st (Zc rfl ?_)))))))))
      refine st (Zc rfl (st0 (Zkf (a := n) (v := (Zcc o (⟨(ix L (n - 1)).lv, (ix L (n - 1)).k0, (ix L (n - 1)).k1, (ix L (n - 1)).k2, (ix L (n - 1)).k3⟩ : Nd)).2) map127 keyI rfl rfl rfl hM14 ?_)))
      intro w9 hM15 k8 hs5
      have hb9 := Zv hb8 k8 (by first | omega | (have h9 := (hb8).size; omega))
      have hF9 := hF8.put k8 (by first | exact .inr (by omega) | exact .inl (by assumption) | exact .inl (.inl rfl) | exact .inl (.inr rfl) | exact .inl (.inr (.inl rfl)) | exact .inl (.inr (.inr rfl)))
      have hO8 := Own.keptF Zac hO7 k8 (hM14.ne_own hO7)
      have hM16 := hM13.kept k8 (by simp; omega)
      refine Zg (Zd (Zh (Zb (st (Zc rfl (st (Ze rfl (Zg ?_))))))))
      refine Zd (Zx rfl rfl ?_)
      have hv : vis (tr L n) o = Zcc o (⟨(ix L (n - 1)).lv, (ix L (n - 1)).k0, (ix L (n - 1)).k1, (ix L (n - 1)).k2, (ix L (n - 1)).k3⟩ : Nd) := Zi3 hl_ok hn1p hn1b (st4_zero L (ix L (n - 1)) o) (.inr ⟨rfl, by assumption⟩)
      have hs9 := Zgo (t := tr L n) o
      have hc9 := (Zc1 (tr L n) (Zil hl_ok n hn0 hn1b (ix L (n - 1)).lv (fun _ => rfl)) hcan0).1
      rw [hv] at hs9 hc9
      refine ⟨_, rfl, ?_, vo3, _, M3, hb9, (hB15.gne k8 (hM14.ne_blk hB15).symm), hM15, hM16, ?_, ?_, ?_, ?_, fun i_ hi_ => ?_, hF9⟩
      · rw [hv]
      · rw [hv]; exact hO8
      · rw [hv]; exact hdok0.put (Ze7 _ _) (Zj8 _ _) hn0 hn1b hno_ hs9
      · rw [hv]; exact hp8
      · rw [hv]; exact hc9
      · rw [Zgg, if_neg (by omega)]
    refine Zh (Zb (st (Zm Za5 rfl (st (Zau (us := [.int .i64 ((ix L (n - 1)).k0), .int .i64 ((ix L (n - 1)).k1), .int .i64 ((ix L (n - 1)).k2), .int .i64 ((ix L (n - 1)).k3)]) row99 rfl hB2.range (j := 1) rfl rfl (st (Zc rfl (Zg (Zd ?_)))))))))
    refine Zz ?_
    refine Za4 (α := Int × List Nd × Value × List (Int × Int) × List (Nd × Int) × Int × Int × Int × Int) (fun ((k, ok, vk, Dk, Mk, a, b, c, e) : Int × List Nd × Value × List (Int × Int) × List (Nd × Int) × Int × Int × Int × Int) => [(0, .int .i64 n), (1, .pointer (some ⟨g7, 0, none⟩)), (3, .pointer (some ⟨g8, 0, none⟩)), (4, .pointer (some ⟨g6, 0, none⟩)), (6, .int .i64 0), (9, .pointer (some ⟨g1, 0, none⟩)), (30, .agg [.int .i64 ((ix L (n - 1)).k0), .int .i64 ((ix L (n - 1)).k1), .int .i64 ((ix L (n - 1)).k2), .int .i64 ((ix L (n - 1)).k3)].toArray), (31, .int .i64 k)]) (fun ((k, ok, vk, Dk, Mk, a, b, c, e) : Int × List Nd × Value × List (Int × Int) × List (Nd × Int) × Int × Int × Int × Int) W => Below a0.heap.size a0 W ∧ (0 ≤ k ∧ k ≤ 4) ∧ (St4 L (ix L (n - 1)) o k ok a b c e) ∧ (Blk W g7 127 [.map (some gd)].toArray) ∧ (Blk W g2 22 [vl].toArray) ∧ (Blk W g8 128 [.func (.func 93) [].toArray [.pointer (some ⟨g7, 0, none⟩), .pointer (some ⟨g2, 0, none⟩), .pointer (some ⟨g8, 0, none⟩), .pointer (some ⟨g6, 0, none⟩)].toArray].toArray) ∧ (Blk W g6 123 [.pointer (some ⟨ga, 0, none⟩)].toArray) ∧ (Blk W ga 126 [vk, .map (some gk)].toArray) ∧ (Blk W g1 101 [.int .i64 ((ix L (n - 1)).lv), .int .i64 a, .int .i64 b, .int .i64 c, .int .i64 e].toArray) ∧ (Zch ekI ekI W gd Dk) ∧ (Zch Nd.val ekI W gk Mk) ∧ (Gw.Own Kd.node 101 a0.heap.size W (fun _ => False) vk ok) ∧ (DOk L Dk ok) ∧ (MInv Mk ok) ∧ (CanL ok) ∧ (∀ i : Int, n ≤ i → Zd0 Dk i = Zd0 D i) ∧ (Frm (fun g => g = ga ∨ g = gd ∨ g = gk) w vo W vk) ∧ (vk.ownBlock ≠ some g1)) (fun ((k, ok, vk, Dk, Mk, a, b, c, e) : Int × List Nd × Value × List (Int × Int) × List (Nd × Int) × Int × Int × Int × Int) => (4 - k).toNat) ((0), (o), (vo), (D), (M), ((ix L (n - 1)).k0), ((ix L (n - 1)).k1), ((ix L (n - 1)).k2), ((ix L (n - 1)).k3)) ⟨hb2, by omega, st4_zero L (ix L (n - 1)) o, ((hQ7.g0 k1).gne k2 (by omega)), ((hQ2.g0 k1).gne k2 (by omega)), ((hQ8.g0 k1).gne k2 (by omega)), ((hQ6.g0 k1).gne k2 (by omega)), ((hBA.g0 k1).gne k2 (by omega)), hB2, hM4, hM3, hO2, hdok0, hmi0, hcan0, fun _ _ => rfl, hF3, hn1⟩ (by exact ⟨rfl, rfl, rfl, rfl, rfl, rfl, rfl, rfl, trivial⟩) ?_
    rintro ⟨k, ok, vk, Dk, Mk, a, b, c, e⟩ w3 ⟨hb3, hk, hst, hC7, hC2, hC8, hC6, hCA, hCx, hMDk, hMKk, hOk, hdok, hmi, hcan, hhi, hFk, hne⟩
    dsimp only at *
    have hz2 := hb3.size
    refine Zh (Zb (st (Zbf rfl rfl (Zg (Zd (Zh ?_))))))
    refine Zw rfl (fun h3 => ?_) (fun h3 => ?_)
    rotate_left
    · refine Zan (Zk (Zk (Zt (Zd (Zh (Zb ?_))))))
      refine st (Zs one123 rfl hC6.range (j := 0) rfl (st (Zu Za9 rfl hCx.range rfl ?_)))
      have hlen9 := hdok.len
      have hcnt9 := hdok.cnt
      refine st (Zp fn94 rfl (Zl7 (x := (⟨(ix L (n - 1)).lv, a, b, c, e⟩ : Nd)) hb3 (by omega) (by omega) hCA hMKk hOk hmi (by omega)) ?_)
      rintro _ w6 ⟨rfl, vo2, M2, hb6, hB10, hM9, hO5, hp6, hp7⟩
      have hz4 := hb6.size
      have hB11 := Blk.frm hC7 hp7 (not3 hdst.x7) (Zfa (hOk.ne_blk hC7 (by decide)))
      have hB12 := Blk.frm hC2 hp7 (not3 hdst.x2) (Zfa (hOk.ne_blk hC2 (by decide)))
      have hB13 := Blk.frm hC8 hp7 (not3 hdst.x8) (Zfa (hOk.ne_blk hC8 (by decide)))
      have hB14 := Blk.frm hC6 hp7 (not3 hdst.x6) (Zfa (hOk.ne_blk hC6 (by decide)))
      have hM10 := Zch.frm hMDk hp7 hdst.dx (Zk2 hMDk hOk)
      have hF6 := hFk.trans (hp7.mono (fun g_ h_ => h_.elim .inl (fun h_ => .inr (.inr h_))))
      refine st (Ze rfl (Zg (Zd (Zh (Zb (st (Zs one127 rfl hB11.range (j := 0) rfl (st (Zc rfl ?_)))))))))
      refine st (Zc rfl (st0 (Zkf (a := n) (v := (Zcc ok (⟨(ix L (n - 1)).lv, a, b, c, e⟩ : Nd)).2) map127 keyI rfl rfl rfl hM10 ?_)))
      intro w7 hM11 k6 hs4
      have hb7 := Zv hb6 k6 (by first | omega | (have h9 := (hb6).size; omega))
      have hF7 := hF6.put k6 (by first | exact .inr (by omega) | exact .inl (by assumption) | exact .inl (.inl rfl) | exact .inl (.inr rfl) | exact .inl (.inr (.inl rfl)) | exact .inl (.inr (.inr rfl)))
      have hO6 := Own.keptF Zac hO5 k6 (hM10.ne_own hO5)
      have hM12 := hM9.kept k6 (by simp; omega)
      refine Zg (Zd (Zh (Zb (st (Zc rfl (st (Ze rfl (Zg ?_))))))))
      refine Zd (Zx rfl rfl ?_)
      have hv : vis (tr L n) o = Zcc ok (⟨(ix L (n - 1)).lv, a, b, c, e⟩ : Nd) := Zi3 hl_ok hn1p hn1b hst (.inl ⟨by omega, by assumption⟩)
      have hs9 := Zgo (t := tr L n) o
      have hc9 := (Zc1 (tr L n) (Zil hl_ok n hn0 hn1b (ix L (n - 1)).lv (fun _ => rfl)) hcan0).1
      rw [hv] at hs9 hc9
      refine ⟨_, rfl, ?_, vo2, _, M2, hb7, (hB10.gne k6 (hM10.ne_blk hB10).symm), hM11, hM12, ?_, ?_, ?_, ?_, fun i_ hi_ => ?_, hF7⟩
      · rw [hv]
      · rw [hv]; exact hO6
      · rw [hv]; exact hdok.put (Ze7 _ _) (Zj8 _ _) hn0 hn1b ((hhi n (Int.le_refl _)).trans hno_) hs9
      · rw [hv]; exact hp6
      · rw [hv]; exact hc9
      · rw [Zgg, if_neg (by omega)]; exact hhi i_ (by omega)
    refine Zn (Zd (Zh (Zz (Zh (Zb (st (Zc rfl ?_)))))))
    refine st (Zkm Zcq Zbj rfl rfl (by omega) (by omega) (st (Ze rfl (st (Ze rfl (Zg (Zd (Zb (st (Zc rfl ?_))))))))))
    refine st (Zs one128 rfl hC8.range (j := 0) rfl (st (Zc rfl ?_)))
    have hkr2 := hkr (by omega) k hk.1 (by omega)
    unfold Nd.kid at hkr2
    refine st (s_callc fn93 rfl rfl (ih (n := (Zao ((ix L (n - 1)).k0) ((ix L (n - 1)).k1) ((ix L (n - 1)).k2) ((ix L (n - 1)).k3) k)) (by omega) (by omega) (by omega) hb3 hC7 hC2 hC8 hC6 hCA hMDk hMKk hOk hdok hmi hcan) ?_)
    rintro _ w4 ⟨rfl, vo1, D1, M1, hb4, hB3, hM5, hM6, hO3, hp1, hp2, hp3, hp4, hp5⟩
    have hz3 := hb4.size
    have hB4 := Blk.frm hC7 hp5 hdst.x7 (Zfa (hOk.ne_blk hC7 (by decide)))
    have hB5 := Blk.frm hC2 hp5 hdst.x2 (Zfa (hOk.ne_blk hC2 (by decide)))
    have hB6 := Blk.frm hC8 hp5 hdst.x8 (Zfa (hOk.ne_blk hC8 (by decide)))
    have hB7 := Blk.frm hC6 hp5 hdst.x6 (Zfa (hOk.ne_blk hC6 (by decide)))
    have hB8 := Blk.frm hCx hp5 (fun h_ => by rcases h_ with h_ | h_ | h_ <;> omega) (hne)
    have hn2 := (hp5.2 _ hCx.lt (fun h_ => by rcases h_ with h_ | h_ | h_ <;> omega) hne).2
    have hF4 := hFk.trans hp5
    refine st (Zm Za5 rfl (st (Zbs Zcq rfl rfl (by omega) (by omega) (st0 (Zeo Zbj rfl rfl hB8 (by omega) (by omega) ?_)))))
    intro w5 hB9 k4 hs3
    have hb5 := Zv hb4 k4 (by first | omega | (have h9 := (hb4).size; omega))
    have hF5 := hF4.put k4 (by first | exact .inr (by omega) | exact .inl (by assumption) | exact .inl (.inl rfl) | exact .inl (.inr rfl) | exact .inl (.inr (.inl rfl)) | exact .inl (.inr (.inr rfl)))
    have hO4 := Own.keptN Zac hO3 k4 hn2
    have hM7 := hM5.kept k4 (by simpa using hM5.ne_blk hB8)
    have hM8 := hM6.kept k4 (by simpa using hM6.ne_blk hB8)
    clear hB8
    refine Zg (Zab (Zd (Zb (st (Zaj rfl rfl (by omega) (st (Zc rfl (Zg ?_))))))))
    exact Zad (((k + 1)), ((vis (tr L ((Zao ((ix L (n - 1)).k0) ((ix L (n - 1)).k1) ((ix L (n - 1)).k2) ((ix L (n - 1)).k3) k))) ok).1), (vo1), (D1), (M1), ((if k = 0 then (vis (tr L ((Zao ((ix L (n - 1)).k0) ((ix L (n - 1)).k1) ((ix L (n - 1)).k2) ((ix L (n - 1)).k3) k))) ok).2 else a)), ((if k = 1 then (vis (tr L ((Zao ((ix L (n - 1)).k0) ((ix L (n - 1)).k1) ((ix L (n - 1)).k2) ((ix L (n - 1)).k3) k))) ok).2 else b)), ((if k = 2 then (vis (tr L ((Zao ((ix L (n - 1)).k0) ((ix L (n - 1)).k1) ((ix L (n - 1)).k2) ((ix L (n - 1)).k3) k))) ok).2 else c)), ((if k = 3 then (vis (tr L ((Zao ((ix L (n - 1)).k0) ((ix L (n - 1)).k1) ((ix L (n - 1)).k2) ((ix L (n - 1)).k3) k))) ok).2 else e))) ⟨hb5, by dsimp only; omega, st4_step hst hk.1 (by omega) rfl, (hB4.gne k4 (by omega)), (hB5.gne k4 (by omega)), (hB6.gne k4 (by omega)), (hB7.gne k4 (by omega)), (hB3.gne k4 (by omega)), hB9, hM7, hM8, hO4, hp1, hp2, hp3, fun i_ hi_ => (hp4 i_ (by omega)).trans (hhi i_ hi_), hF5, hn2⟩ (by omega) (by exact ⟨rfl, rfl, rfl, rfl, rfl, rfl, rfl, rfl, trivial⟩)
end Go.Proofs.Ytfljelnfjbbknaa.Nd
namespace Go.Proofs.Ytfljelnfjbbknaa.Nd
open Go.RowKit Go.Gw
set_option maxHeartbeats 1000000 in
theorem of_any {va : Value} {l : List Nd} {F : Nat → Prop} {w : World} (hl : Sl Kd.node w F va l) {n : Int} (hll : l.length ≤ 100000) :
    Calls Try.prog 61 [va, .int .i64 n].toArray w (Zbi w fun v w' => ∃ sv, v = .tuple #[.agg #[sv], .int .i64 (ofL l n).2] ∧ Sl Kd.node w' (fun _ => False) sv (ofL l n).1 ∧ (ofL l n).1.length ≤ l.length + 1330) := by
  have hb0 := Below.refl w.heap.size w
  have hln1 := hl.lenle
  refine enter Try.func61 rfl rfl (Zh (Zb (st (s_box1 rfl hl.cells1 ?_))))
  intro g1 w1 hg1 hB1 k1 hs1
  have hb1 := Zf hb0 k1
  refine st (Zat Zfg ?_)
  intro g2 w2 hg2 hB2 k2 hs2
  have hz1 := hb1.size
  have hb2 := Zf hb1 k2
  refine st (Ze rfl (Zg (Zd (Zh (Zh (Zb (st (Zs Zcu rfl (hB1.g0 k2).range (j := 0) rfl ?_))))))))
  refine st (Zp fn91 rfl (loose_any (hl.at0 hb2)) ?_)
  rintro _ w3 ⟨hq1, rfl⟩
  have k3 := Zi hq1 none
  have hz2 := hq1.size
  have hb3 := Zf hb2 k3
  have hz3 := hb3.size
  refine st (Zdk rfl (st (Zc rfl ?_)))
  refine Zdu 12 rfl (fun h1 => ?_) (fun h1 => ?_)
  · refine Zj rfl rfl (Zj rfl rfl (st (Zo rfl rfl (st (Zc rfl (Zj rfl rfl (Zj rfl rfl (Zj rfl rfl ?_))))))))
    refine Zj rfl rfl (st (Zo rfl rfl (Zg (Zd (Zb5 rfl (Zh (Zb ?_)))))))
    refine st (Zbo (ps := []) (ccs := []) (cells := [.slice none 0 0]) rfl rfl (by kernel_rfl) (st0 (Zae Za8 rfl rfl (hB2.g0 k3) rfl rfl rfl ?_)))
    intro w4 hB3 k4 hs3
    have hb4 := Zv hb3 k4 (by first | omega | (have h9 := (hb3).size; omega))
    refine st (Ze rfl (Zg (Zd (Zci rfl Za8 rfl rfl hB3.range rfl ?_))))
    refine ⟨_, rfl, hb4, .slice none 0 0, ?_, ?_, ?_⟩
    · rw [Zgk (by first | exact .inl (by simpa using h1) | exact .inr (by omega))]
    · rw [Zgk (by first | exact .inl (by simpa using h1) | exact .inr (by omega))]; exact (Own.nil Kd.node 101 0 _ _).sl
    · rw [Zgk (by first | exact .inl (by simpa using h1) | exact .inr (by omega))]; simp
  have hl_ok : Zah l = true := by simpa using h1
  refine stg (Zc rfl (stg (Zbf rfl rfl (st (Zo rfl rfl (st (Zc rfl ?_)))))))
  refine Za0 16 rfl (fun h2 => ?_) (fun h2 => ?_)
  · refine Zj rfl rfl (Zj rfl rfl (Zj rfl rfl (Zj rfl rfl (st (Zo rfl rfl (Zg (Zd ?_)))))))
    refine Zb5 rfl (Zh (Zb (st (Zbo (ps := []) (ccs := []) (cells := [.slice none 0 0]) rfl rfl (by kernel_rfl) (st0 (Zae Za8 rfl rfl (hB2.g0 k3) rfl rfl rfl ?_))))))
    intro w5 hB4 k5 hs4
    have hb5 := Zv hb3 k5 (by first | omega | (have h9 := (hb3).size; omega))
    refine st (Ze rfl (Zg (Zd (Zci rfl Za8 rfl rfl hB4.range rfl ?_))))
    refine ⟨_, rfl, hb5, .slice none 0 0, ?_, ?_, ?_⟩
    · rw [Zgk (by first | exact .inl (by simpa using h1) | exact .inr (by omega))]
    · rw [Zgk (by first | exact .inl (by simpa using h1) | exact .inr (by omega))]; exact (Own.nil Kd.node 101 0 _ _).sl
    · rw [Zgk (by first | exact .inl (by simpa using h1) | exact .inr (by omega))]; simp
  refine stg (Zc rfl (stg (Zs Zcu rfl ((hB1.g0 k2).g0 k3).range (j := 0) rfl (stg (Zar Za7 rfl (hl.at0 hb3) (stg (Zcj rfl rfl (st (Zo rfl rfl (Zg (Zd ?_)))))))))))
  refine Zw rfl (fun h3 => ?_) (fun h3 => ?_)
  · refine Zh (Zb (st (Zbo (ps := []) (ccs := []) (cells := [.slice none 0 0]) rfl rfl (by kernel_rfl) (st0 (Zae Za8 rfl rfl (hB2.g0 k3) rfl rfl rfl ?_)))))
    intro w6 hB5 k6 hs5
    have hb6 := Zv hb3 k6 (by first | omega | (have h9 := (hb3).size; omega))
    refine st (Ze rfl (Zg (Zd (Zci rfl Za8 rfl rfl hB5.range rfl ?_))))
    refine ⟨_, rfl, hb6, .slice none 0 0, ?_, ?_, ?_⟩
    · rw [Zgk (by first | exact .inl (by simpa using h1) | exact .inr (by omega))]
    · rw [Zgk (by first | exact .inl (by simpa using h1) | exact .inr (by omega))]; exact (Own.nil Kd.node 101 0 _ _).sl
    · rw [Zgk (by first | exact .inl (by simpa using h1) | exact .inr (by omega))]; simp
  refine Zn (Zd (Zh (Zb (st (Zs Zcu rfl ((hB1.g0 k2).g0 k3).range (j := 0) rfl (st (Zc rfl (st (Zp fn92 rfl (shrink_any (n0 := n) (hl.at0 hb3) hl_ok hll (by omega) (by omega)) ?_)))))))))
  rintro _ w7 ⟨hq2, L1, n1, v1, rfl, hS1, hLok1, hn1, hn2, hT1, hH1, hLl1⟩
  have k7 := Zi hq2 none
  have hz4 := hq2.size
  have hO1 := Own.rebase hS1 hb3.size
  have hb7 := Zf hb3 k7
  have hz5 := hb7.size
  have hlen9 := Zeg L1
  refine st (Zc rfl (st (Zag rfl rfl (st (Zag rfl rfl (st0 (Zdp Zcu rfl rfl (hO1.one) (((hB1.g0 k2).g0 k3).g0 k7) (of_decide_eq_true rfl) ?_)))))))
  intro w8 hB6 k8 hs6
  have hb8 := Zv hb7 k8 (by first | omega | (have h9 := (hb7).size; omega))
  have hO2 := Own.keptF Zac hO1 k8 (hO1.ne_blk (((hB1.g0 k2).g0 k3).g0 k7) (by decide))
  refine st (Ze rfl (Zg (Zd (Zh (Zb (st (s_makemap Nd.val ekI ?_)))))))
  intro g3 w9 hg3 hM1 k9 hs7
  have hb9 := Zf hb8 k9
  refine st (Zbo (ps := [(1, .tmp 29)]) (ccs := [#[.map (some g3)]]) (cells := [.slice none 0 0, .map (some g3)]) rfl rfl (by kernel_rfl) (st (Zcb rfl ?_)))
  intro g4 w10 hg4 hB7 k10 hs8
  have hb10 := Zf hb9 k10
  have hM2 := hM1.g0 k10
  refine st (Zat zero123 ?_)
  intro g5 w11 hg5 hB8 k11 hs9
  have hz6 := hb10.size
  have hb11 := Zf hb10 k11
  have hM3 := hM2.g0 k11
  refine st0 (Zdp one123 rfl rfl rfl hB8 (of_decide_eq_true rfl) ?_)
  intro w12 hB9 k12 hs10
  have hb12 := Zv hb11 k12 (by first | omega | (have h9 := (hb11).size; omega))
  have hM4 := hM3.kept k12 (by simpa using hM3.ne_blk hB8)
  clear hB8
  refine Zg (Zd (Zh (Zb (st (s_makemap ekI ekI ?_)))))
  intro g6 w13 hg6 hM5 k13 hs11
  have hb13 := Zf hb12 k13
  have hM6 := hM4.g0 k13
  refine st0 (s_mapins (a := 0) (v := 0) map127 keyI rfl rfl rfl hM5 ?_)
  intro w14 hM7 k14 hs12
  have hb14 := Zv hb13 k14 (by first | omega | (have h9 := (hb13).size; omega))
  have hM8 := hM6.kept k14 (by simp; omega)
  refine st (Zc rfl (st (Zat zero127 ?_)))
  intro g7 w15 hg7 hB10 k15 hs13
  have hz7 := hb14.size
  have hb15 := Zf hb14 k15
  have hM9 := hM8.g0 k15
  have hM10 := hM7.g0 k15
  refine st0 (Zdp one127 rfl rfl rfl hB10 (of_decide_eq_true rfl) ?_)
  intro w16 hB11 k16 hs14
  have hb16 := Zv hb15 k16 (by first | omega | (have h9 := (hb15).size; omega))
  have hM11 := hM9.kept k16 (by simpa using hM9.ne_blk hB10)
  have hM12 := hM10.kept k16 (by simpa using hM10.ne_blk hB10)
  clear hB10
  refine Zg (Zd (Zh (Zb (st (Zat zero128 ?_)))))
  intro g8 w17 hg8 hB12 k17 hs15
  have hz8 := hb16.size
  have hM13 := hM11.g0 k17
  have hM14 := hM12.g0 k17
  refine Zg (Zd (Zh (Zb (st (s_func rfl rfl (st0 (Zdp one128 rfl rfl rfl hB12 (of_decide_eq_true rfl) ?_)))))))
  intro w18 hB13 k18 hs16
  have hM15 := hM13.kept k18 (by simpa using hM13.ne_blk hB12)
  have hM16 := hM14.kept k18 (by simpa using hM14.ne_blk hB12)
  clear hB12
  refine Zg (Zd (Zh (Zb (st (Zs one128 rfl hB13.range (j := 0) rfl (st (Zc rfl ?_)))))))
  have hb19 := Below.refl w8.heap.size w8
  have hb20 := Zf hb19 k9
  have hb21 := Zf hb20 k10
  have hb22 := Zf hb21 k11
  have hb23 := Zv hb22 k12 (by omega)
  have hb24 := Zf hb23 k13
  have hb25 := Zv hb24 k14 (by omega)
  have hb26 := Zf hb25 k15
  have hb27 := Zv hb26 k16 (by omega)
  have hb28 := Zf hb27 k17
  have hb29 := Zv hb28 k18 (by omega)
  have hdst1 : Dist g7 g1 g8 g5 g4 g6 g3 := ⟨by omega, by omega, by omega, by omega, by omega⟩
  have hmd9 := hM16
  rw [show mput ([] : List (Int × Int)) 0 0 = [(0, 0)] from rfl] at hmd9
  refine st (s_callc fn93 rfl rfl (visit1_any (a0 := w8) hO2.sl hLok1 (by omega) ⟨by omega, by omega, by omega⟩ hdst1 (L1.length + 1) (n := n1) (by omega) (by omega) (by omega) hb29 ((hB11.g0 k17).gne k18 (by omega)) ((((((((((hB6.g0 k9).g0 k10).g0 k11).gne k12 (by omega)).g0 k13).gne k14 (hM5.ne_blk (((((hB6.g0 k9).g0 k10).g0 k11).gne k12 (by omega)).g0 k13)).symm).g0 k15).gne k16 (by omega)).g0 k17).gne k18 (by omega)) hB13 ((((((hB9.g0 k13).gne k14 (hM5.ne_blk (hB9.g0 k13)).symm).g0 k15).gne k16 (by omega)).g0 k17).gne k18 (by omega)) ((((((((hB7.g0 k11).gne k12 (by omega)).g0 k13).gne k14 (hM5.ne_blk (((hB7.g0 k11).gne k12 (by omega)).g0 k13)).symm).g0 k15).gne k16 (by omega)).g0 k17).gne k18 (by omega)) hmd9 hM15 (Own.nil _ _ _ _ _) (dok_start _) minv_nil Zg4) ?_)
  rintro _ w19 ⟨rfl, vo1, D1, M1, hb30, hB14, hM17, hM18, hO13, hp1, hp2, hp3, hp4, hp5⟩
  have hb31 := hb8.trans (hb30.mono hb8.size)
  have hz9 := hb31.size
  have hB15 := Blk.frm ((((((hB9.g0 k13).gne k14 (hM5.ne_blk (hB9.g0 k13)).symm).g0 k15).gne k16 (by omega)).g0 k17).gne k18 (by omega)) hp5 hdst1.x6 (by simp [Value.ownBlock])
  have hB16 : Blk w19 g2 25 _ := (hb30.block _ (((hB2.g0 k3).g0 k7).gne k8 (by omega)).lt).trans (((hB2.g0 k3).g0 k7).gne k8 (by omega))
  refine Zg (Zd (Zh (Zb (st (Zs one123 rfl hB15.range (j := 0) rfl (st (Zeb rfl (st (Zm Zin rfl ?_)))))))))
  refine st (Zs Zcu rfl hB14.range (j := 0) rfl (st (Zbo (ps := [(0, .tmp 41)]) (ccs := [#[vo1]]) (cells := [vo1]) rfl (by simp only [List.map_cons, List.map_nil, hO13.cells1] <;> rfl) (by kernel_rfl) (st0 (Zae Za8 rfl rfl hB16 (by simp only [List.all_cons, List.all_nil, hO13.one, Bool.and_true, Bool.and_self] <;> rfl) rfl rfl ?_)))))
  intro w20 hB17 k20 hs17
  have hb32 := Zv hb31 k20 (by first | omega | (have h9 := (hb31).size; omega))
  have hO14 := Own.keptF Zac hO13 k20 (hO13.ne_blk hB16 (by decide))
  clear hB16
  refine st (Ze rfl (Zg (Zd (Zci rfl Za8 rfl rfl hB17.range rfl ?_))))
  refine ⟨_, rfl, hb32, vo1, ?_, ?_, ?_⟩
  · rw [Zit hl_ok (by omega) (by omega)]
  · rw [Zit hl_ok (by omega) (by omega), canT, ← hT1]; exact hO14.sl
  · rw [Zit hl_ok (by omega) (by omega), canT, ← hT1]; have q1_ := hp1.cnt; have q2_ := hp1.len; simp only; omega
set_option maxHeartbeats 1000000 in
theorem growO_any {va : Value} {l : List Nd} {F : Nat → Prop} {w : World} (hl : Sl Kd.node w F va l) {level : Int} (hll : l.length ≤ 100000) (hlv : 0 ≤ (Zl l).lv ∧ (Zl l).lv ≤ 1329) (hle : level ≤ 1329) :
    Calls Try.prog 59 [.agg [va].toArray, .int .i64 level].toArray w (Zbi w fun v w' => ∃ sv, v = .tuple #[sv, .int .i64 ((Zc5 l level).length : Int)] ∧ Gw.Own Kd.node 101 w.heap.size w' (fun _ => False) sv (Zc5 l level)) := by
  have hb0 := Below.refl w.heap.size w
  have hln0 := hl.lenle
  refine enter Try.func59 rfl rfl (Zh (Zb (st (Zcb rfl ?_))))
  intro g1 w1 hg1 hB1 k1 hs1
  change Blk w1 g1 25 [va].toArray at hB1
  have hb1 := Zf hb0 k1
  refine st (Ze rfl (st (Ze rfl (Zg (Zd (Zh (Zb (st (Zm Zdy rfl ?_)))))))))
  refine st (Zs Zcu rfl hB1.range (j := 0) rfl (st (Zp fn90 rfl (Zht (hl.at0 hb1) (by omega)) ?_)))
  rintro v1 w2 ⟨hq1, hS1⟩
  have k2 := Zi hq1 none
  have hO1 := Own.rebase hS1 hb1.size
  have hb2 := Zf hb1 k2
  have hz1 := hb2.size
  refine st (Ze rfl (Zg (Zd (Zh (Zb (st (Zc rfl (st (Zar Za7 rfl hO1.sl ?_)))))))))
  refine st (Ze rfl (Zg (Zd (Zh (Zh (Zb (st (Zc rfl ?_))))))))
  refine st (Zbr rfl rfl (st (Zc rfl ?_)))
  refine Za0 20 rfl (fun h1 => ?_) (fun h1 => ?_)
  · refine Zj rfl rfl (Zj rfl rfl (st (Zo rfl rfl (Zg (Zd (Zb5 rfl (Zh ?_)))))))
    refine Zb (st (Zc rfl (st (Zc rfl (st (Ze rfl (st (Ze rfl (Zg (Zd ?_))))))))))
    refine Zev rfl rfl rfl ?_
    have hnil : l = [] := List.eq_nil_of_length_eq_zero (by omega)
    subst hnil
    exact ⟨_, rfl, hb2, _, rfl, hO1⟩
  refine stg (Zc rfl (stg (Zcj rfl rfl (st (Zo rfl rfl (Zg (Zd ?_)))))))
  refine Zw rfl (fun h2 => ?_) (fun h2 => ?_)
  · refine Zh (Zb (st (Zc rfl (st (Zc rfl (st (Ze rfl (st (Ze rfl (Zg ?_))))))))))
    refine Zd (Zev rfl rfl rfl ?_)
    exfalso
    omega
  have hl13 := h2
  refine Zn (Zd (Zh (Zh (Zb (st (Zc rfl (st (Zc rfl ?_))))))))
  refine st (Zbh rfl rfl (by omega) (st (Zaz Za7 rfl rfl hO1.sl (by omega) (by omega) ?_)))
  rintro b1 o1 _ ⟨rfl, _⟩ hc1 hF1 hlt1
  refine st (Zu Za9 rfl hc1 rfl (st (Zat Zdd ?_)))
  intro g2 w3 hg2 hB2 k3 hs2
  have hz2 := hb2.size
  have hn1 := Zeh hO1 hg2
  have hb3 := Zf hb2 k3
  have hO2 := hO1.g0 k3
  refine st0 (Zae Za9 rfl rfl hB2 rfl rfl rfl ?_)
  intro w4 hB3 k4 hs3
  have hb4 := Zv hb3 k4 (by first | omega | (have h9 := (hb3).size; omega))
  have hO3 := Own.keptN Zac hO2 k4 hn1
  clear hB2
  refine Zg (Zd (Zz ?_))
  refine Za4 (α := List Nd × Value × Nat) (fun ((o, vk, go) : List Nd × Value × Nat) => [(1, .int .i64 level), (4, .slice none 0 0), (5, .int .i64 0), (6, vk), (7, .int .i64 (o.length : Int)), (8, .pointer (some ⟨go, 0, none⟩))]) (fun ((o, vk, go) : List Nd × Value × Nat) W => Below w.heap.size w W ∧ (1 ≤ o.length ∧ (o.length : Int) ≤ l.length + 5 * (Zl o).lv ∧ 0 ≤ (Zl o).lv ∧ (Zl o).lv ≤ 1329) ∧ (Zf4 (level - (Zl o).lv).toNat o = Zf4 (level - (Zl l).lv).toNat l) ∧ (Blk W go 101 [.int .i64 ((Zl o).lv), .int .i64 ((Zl o).k0), .int .i64 ((Zl o).k1), .int .i64 ((Zl o).k2), .int .i64 ((Zl o).k3)].toArray) ∧ (Gw.Own Kd.node 101 w.heap.size W (fun _ => False) vk (o)) ∧ (vk.ownBlock ≠ some go)) (fun ((o, vk, go) : List Nd × Value × Nat) => (level - (Zl o).lv).toNat) ((l), (v1), (g2)) ⟨hb4, by omega, rfl, hB3, hO3, hn1⟩ (by exact ⟨rfl, rfl, rfl, rfl, rfl, rfl, trivial⟩) ?_
  rintro ⟨o, vk, go⟩ w5 ⟨hb5, hoo, hgf, hBo, hOo, hno⟩
  dsimp only at *
  have hz3 := hb5.size
  have hgol := hBo.lt
  refine Zh (Zh (Zb (st (Zm Za6 rfl (st (Zs Zbj rfl hBo.range (j := 0) rfl (st (Zc rfl (st (Zbf rfl rfl ?_))))))))))
  refine Zg (Zd ?_)
  refine Zw rfl (fun h3 => ?_) (fun h3 => ?_)
  rotate_left
  · refine Zan (Zk (Zk (Zt (Zd (Zh (Zb ?_))))))
    refine st (Zc rfl (st (Zc rfl (st (Ze rfl (st (Ze rfl (Zg (Zd (Zev rfl rfl rfl ?_))))))))))
    rw [grow_end h3] at hgf
    subst hgf
    have hgq : Zc5 l level = Zf4 (level - (Zl l).lv).toNat l := if_neg (by rintro rfl; simp at *)
    rw [hgq]
    exact ⟨_, rfl, hb5, _, rfl, hOo⟩
  have hlt := h3
  refine Zn (Zd (Zh (Zz (Zh (Zb (st (Zm Za6 rfl ?_)))))))
  refine st (Zs Zbj rfl hBo.range (j := 0) rfl (st (Zaj rfl rfl (by omega) (st (Zbo (ps := [(0, .tmp 42)]) (ccs := [#[.int .i64 ((Zl o).lv + 1)]]) (cells := [.int .i64 ((Zl o).lv + 1), .int .i64 0, .int .i64 0, .int .i64 0, .int .i64 0]) rfl rfl (by kernel_rfl) (st (Zat Zdd ?_)))))))
  intro g3 w6 hg3 hB4 k5 hs4
  have hz4 := hb5.size
  have hn2 := Zeh hOo hg3
  have hb6 := Zf hb5 k5
  have hO4 := hOo.g0 k5
  refine st0 (Zae Za9 rfl rfl hB4 rfl rfl rfl ?_)
  intro w7 hB5 k6 hs5
  have hb7 := Zv hb6 k6 (by first | omega | (have h9 := (hb6).size; omega))
  have hO5 := Own.keptN Zac hO4 k6 hn2
  clear hB4
  refine Zg (Zd (Zh (Zh (Zb (st (Zm Za5 rfl (st (Zau (us := [.int .i64 ((Zl o).k0), .int .i64 ((Zl o).k1), .int .i64 ((Zl o).k2), .int .i64 ((Zl o).k3)]) row99 rfl ((hBo.g0 k5).gne k6 (by omega)).range (j := 1) rfl rfl ?_))))))))
  refine st (Zc rfl (Zg (Zd (Zz ?_))))
  refine Za4 (α := Int × List Nd × Value × Int × Int × Int × Int) (fun ((k, ok, vj, a, b, c, e) : Int × List Nd × Value × Int × Int × Int × Int) => [(1, .int .i64 level), (4, .slice none 0 0), (5, .int .i64 0), (6, vj), (7, .int .i64 (o.length : Int)), (8, .pointer (some ⟨go, 0, none⟩)), (9, .pointer (some ⟨g3, 0, none⟩)), (45, .agg [.int .i64 ((Zl o).k0), .int .i64 ((Zl o).k1), .int .i64 ((Zl o).k2), .int .i64 ((Zl o).k3)].toArray), (46, .int .i64 k)]) (fun ((k, ok, vj, a, b, c, e) : Int × List Nd × Value × Int × Int × Int × Int) W => Below w.heap.size w W ∧ (0 ≤ k ∧ k ≤ 4) ∧ ((ok, a, b, c, e) = grS (Zl o) o k.toNat) ∧ ((ok.length : Int) ≤ o.length + k) ∧ (Blk W g3 101 [.int .i64 ((Zl o).lv + 1), .int .i64 a, .int .i64 b, .int .i64 c, .int .i64 e].toArray) ∧ (Blk W go 101 [.int .i64 ((Zl o).lv), .int .i64 ((Zl o).k0), .int .i64 ((Zl o).k1), .int .i64 ((Zl o).k2), .int .i64 ((Zl o).k3)].toArray) ∧ (Gw.Own Kd.node 101 w.heap.size W (fun _ => False) vj (ok)) ∧ (vj.ownBlock ≠ some g3) ∧ (vj.ownBlock ≠ some go)) (fun ((k, ok, vj, a, b, c, e) : Int × List Nd × Value × Int × Int × Int × Int) => (4 - k).toNat) ((0), (o), (vk), (0), (0), (0), (0)) ⟨hb7, by omega, rfl, by omega, hB5, ((hBo.g0 k5).gne k6 (by omega)), hO5, hn2, hno⟩ (by exact ⟨rfl, rfl, rfl, rfl, rfl, rfl, rfl, rfl, rfl, trivial⟩) ?_
  rintro ⟨k, ok, vj, a, b, c, e⟩ w8 ⟨hb8, hk, hgs, hokl, hBx, hBo2, hOj, hnx, hno2⟩
  dsimp only at *
  have hz5 := hb8.size
  have hgol2 := hBo2.lt
  have hgxl2 := hBx.lt
  refine Zh (Zb (st (Zbf rfl rfl (Zg (Zd (Zh ?_))))))
  refine Zw rfl (fun h4 => ?_) (fun h4 => ?_)
  rotate_left
  · refine Zan (Zk (Zk (Zt (Zd (Zh (Zb ?_))))))
    refine st (Zc rfl (st (Zu Za9 rfl hBx.range rfl (st (Zay (ps := [(0, .tmp 71)]) (ccs := [#[.int .i64 ((Zl o).lv + 1), .int .i64 a, .int .i64 b, .int .i64 c, .int .i64 e]]) (e := 101) (cells := [.int .i64 ((Zl o).lv + 1), .int .i64 a, .int .i64 b, .int .i64 c, .int .i64 e]) rfl rfl (by kernel_rfl) (by decide) Zih ?_)))))
    intro g6 w15 hg6 hB11 k13 hs11
    have hb15 := Zf hb8 k13
    have hz9 := hb15.size
    have hO12 := hOj.g0 k13
    have hS3 := Zb9 (F := fun _ => False) ([⟨((Zl o).lv + 1), a, b, c, e⟩] : List Nd) hB11 (fun h => h) rfl (by first | decide | simp)
    refine st (Zbc (K := Kd.node) Za7 rfl rfl hO12 (Zb9 (F := Out (fun _ => False) vj) ([⟨((Zl o).lv + 1), a, b, c, e⟩] : List Nd) hB11 (fun h => h.elim id (fun h => by have h9 := (hOj.lt _ h).2; omega)) rfl (by first | decide | simp)) Zc6 (by simp; omega) (by simp; omega) (by first | exact Nat.le_refl _ | omega) (fun _ h => h.elim) ?_)
    intro v3 w16 hO13 k14 hr3
    have hn7 := Ze8 hnx hr3 (by have := (hBx.g0 k13).lt; omega)
    have hn8 := Ze8 hno2 hr3 (by have := (hBo2.g0 k13).lt; omega)
    have hb16 := hb15.grown k14 hb15.size (fun k_ hk_ => (hO12.lt k_ hk_).1)
    have hz10 := hb16.size
    refine st (Ze rfl (Zg (Zd (Zb (st (Zc rfl (st (Zar Za7 rfl hO13.sl (st (Ze rfl ?_))))))))))
    refine Zg (Zab (Zd (Zh (Zh (Zb (st (Zu Za9 rfl ((hBo2.g0 k13).grown k14 (fun e => hno2 e.symm)).range rfl ?_)))))))
    refine Zg (Zd (Zb (st (Zat Zdd ?_))))
    intro g7 w17 hg7 hB12 k15 hs12
    have hz11 := hb16.size
    have hn9 := Zeh hO13 hg7
    have hb17 := Zf hb16 k15
    have hO14 := hO13.g0 k15
    refine st0 (Zae Za9 rfl rfl hB12 rfl rfl rfl ?_)
    intro w18 hB13 k16 hs13
    have hb18 := Zv hb17 k16 (by first | omega | (have h9 := (hb17).size; omega))
    have hO15 := Own.keptN Zac hO14 k16 hn9
    clear hB12
    refine Zg (Zd (Zb ?_))
    have hlx9 : ((ok ++ ([⟨((Zl o).lv + 1), a, b, c, e⟩] : List Nd)).length : Int) = ok.length + 1 := by simp
    refine st (Zc rfl (st (Zc rfl (st (Zbh rfl rfl (by omega) (st (Zaz Za7 rfl rfl hO15.sl (by omega) (by omega) ?_)))))))
    rintro b2 o2 _ ⟨rfl, _⟩ hc2 hF2 hlt2
    refine st (Zu Za9 rfl hc2 rfl (st0 (Zae Za9 rfl rfl hB13 rfl rfl rfl ?_)))
    intro w19 hB14 k17 hs14
    have hb19 := Zv hb18 k17 (by first | omega | (have h9 := (hb18).size; omega))
    have hO16 := Own.keptN Zac hO15 k17 hn9
    clear hB13
    refine Zg ?_
    have hgs4 : (ok, a, b, c, e) = grS (Zl o) o 4 := by rw [(by omega : k = 4)] at hgs; exact hgs
    have hgr := grow_round (level := level) hgs4 hlt
    have hll9 : ((ok ++ ([⟨((Zl o).lv + 1), a, b, c, e⟩] : List Nd)).length : Int) = ok.length + 1 := by simp
    have hla9 := grow_last (o := ok) (x := ⟨(Zl o).lv + 1, a, b, c, e⟩)
    exact Zad ((ok ++ ([⟨((Zl o).lv + 1), a, b, c, e⟩] : List Nd)), (v3), (g7)) ⟨hb19, by dsimp only; rw [hla9]; simp only; omega, by dsimp only; rw [hgr]; exact hgf, by dsimp only; have hq9 := hB14; rw [show ix (ok ++ ([⟨((Zl o).lv + 1), a, b, c, e⟩] : List Nd)) (((ok ++ ([⟨((Zl o).lv + 1), a, b, c, e⟩] : List Nd)).length : Int) - 1) = _ from hla9] at hq9; rw [hla9]; exact hq9, hO16, hn9⟩ (by dsimp only; rw [hla9]; simp only; omega) (by exact ⟨rfl, rfl, rfl, rfl, rfl, rfl, trivial⟩)
  refine Zn (Zd (Zh (Zz (Zh (Zb (st (Zc rfl ?_)))))))
  refine st (Zkm Zcq Zbj rfl rfl (by omega) (by omega) (st (Ze rfl (st (Ze rfl (Zg (Zd (Zh (Zh ?_)))))))))
  refine Zb (st (Zc rfl (st (Zbr rfl rfl (Zg (Zd ?_))))))
  refine Zw rfl (fun h5 => ?_) (fun h5 => ?_)
  · refine Zan (Zk (Zt (Zd (Zb (st (Zaj rfl rfl (by omega) (st (Zc rfl ?_))))))))
    refine Zg ?_
    exact Zad (((k + 1)), (ok), (vj), (a), (b), (c), (e)) ⟨hb8, by dsimp only; first | omega | (simp; omega), grS_step hk.1 hgs (by unfold Nd.kid; exact h5), by dsimp only; first | omega | (simp; omega), hBx, hBo2, hOj, hnx, hno2⟩ (by omega) (by exact ⟨rfl, rfl, rfl, rfl, rfl, rfl, rfl, rfl, rfl, trivial⟩)
  refine Zn (Zd (Zh (Zb (st (Zm Za6 rfl (st (Zs Zbj rfl hBo2.range (j := 0) rfl (st (Zbo (ps := [(0, .tmp 53)]) (ccs := [#[.int .i64 ((Zl o).lv)]]) (cells := [.int .i64 ((Zl o).lv), .int .i64 0, .int .i64 0, .int .i64 0, .int .i64 0]) rfl rfl (by kernel_rfl) ?_)))))))))
  refine st (Zat Zdd ?_)
  intro g4 w9 hg4 hB6 k7 hs6
  have hz6 := hb8.size
  have hn3 := Zeh hOj hg4
  have hb9 := Zf hb8 k7
  have hO6 := hOj.g0 k7
  refine st0 (Zae Za9 rfl rfl hB6 rfl rfl rfl ?_)
  intro w10 hB7 k8 hs7
  have hb10 := Zv hb9 k8 (by first | omega | (have h9 := (hb9).size; omega))
  have hO7 := Own.keptN Zac hO6 k8 hn3
  clear hB6
  refine Zg (Zd (Zh (Zb (st (Zc rfl (st (Zbh rfl rfl (by omega) (st (Zc rfl ?_)))))))))
  refine st (Zm Za5 rfl (st (Zbs Zcq rfl rfl (by omega) (by omega) (st0 (Zeo Zbj rfl rfl hB7 (by omega) (by omega) ?_)))))
  intro w11 hB8 k9 hs8
  have hb11 := Zv hb10 k9 (by first | omega | (have h9 := (hb10).size; omega))
  have hO8 := Own.keptN Zac hO7 k9 hn3
  clear hB7
  refine Zg (Zd (Zh (Zb (st (Zc rfl (st (Zu Za9 rfl hB8.range rfl ?_)))))))
  refine st (Zay (ps := [(0, .tmp 61)]) (ccs := [#[.int .i64 ((Zl o).lv), .int .i64 (if (3 - k) = 0 then (Zao ((Zl o).k0) ((Zl o).k1) ((Zl o).k2) ((Zl o).k3) k) else 0), .int .i64 (if (3 - k) = 1 then (Zao ((Zl o).k0) ((Zl o).k1) ((Zl o).k2) ((Zl o).k3) k) else 0), .int .i64 (if (3 - k) = 2 then (Zao ((Zl o).k0) ((Zl o).k1) ((Zl o).k2) ((Zl o).k3) k) else 0), .int .i64 (if (3 - k) = 3 then (Zao ((Zl o).k0) ((Zl o).k1) ((Zl o).k2) ((Zl o).k3) k) else 0)]]) (e := 101) (cells := [.int .i64 ((Zl o).lv), .int .i64 (if (3 - k) = 0 then (Zao ((Zl o).k0) ((Zl o).k1) ((Zl o).k2) ((Zl o).k3) k) else 0), .int .i64 (if (3 - k) = 1 then (Zao ((Zl o).k0) ((Zl o).k1) ((Zl o).k2) ((Zl o).k3) k) else 0), .int .i64 (if (3 - k) = 2 then (Zao ((Zl o).k0) ((Zl o).k1) ((Zl o).k2) ((Zl o).k3) k) else 0), .int .i64 (if (3 - k) = 3 then (Zao ((Zl o).k0) ((Zl o).k1) ((Zl o).k2) ((Zl o).k3) k) else 0)]) rfl rfl (by kernel_rfl) (by decide) Zih ?_)
  intro g5 w12 hg5 hB9 k10 hs9
  have hb12 := Zf hb11 k10
  have hz7 := hb12.size
  have hO9 := hO8.g0 k10
  have hS2 := Zb9 (F := fun _ => False) ([⟨(Zl o).lv, (if (3 - k) = 0 then (Zao ((Zl o).k0) ((Zl o).k1) ((Zl o).k2) ((Zl o).k3) k) else 0), (if (3 - k) = 1 then (Zao ((Zl o).k0) ((Zl o).k1) ((Zl o).k2) ((Zl o).k3) k) else 0), (if (3 - k) = 2 then (Zao ((Zl o).k0) ((Zl o).k1) ((Zl o).k2) ((Zl o).k3) k) else 0), (if (3 - k) = 3 then (Zao ((Zl o).k0) ((Zl o).k1) ((Zl o).k2) ((Zl o).k3) k) else 0)⟩] : List Nd) hB9 (fun h => h) rfl (by first | decide | simp)
  refine st (Zbc (K := Kd.node) Za7 rfl rfl hO9 (Zb9 (F := Out (fun _ => False) vj) ([⟨(Zl o).lv, (if (3 - k) = 0 then (Zao ((Zl o).k0) ((Zl o).k1) ((Zl o).k2) ((Zl o).k3) k) else 0), (if (3 - k) = 1 then (Zao ((Zl o).k0) ((Zl o).k1) ((Zl o).k2) ((Zl o).k3) k) else 0), (if (3 - k) = 2 then (Zao ((Zl o).k0) ((Zl o).k1) ((Zl o).k2) ((Zl o).k3) k) else 0), (if (3 - k) = 3 then (Zao ((Zl o).k0) ((Zl o).k1) ((Zl o).k2) ((Zl o).k3) k) else 0)⟩] : List Nd) hB9 (fun h => h.elim id (fun h => by have h9 := (hO8.lt _ h).2; omega)) rfl (by first | decide | simp)) Zc6 (by simp; omega) (by simp; omega) (by first | exact Nat.le_refl _ | omega) (fun _ h => h.elim) ?_)
  intro v2 w13 hO10 k11 hr2
  have hn4 := Ze8 hnx hr2 (by have := ((((hBx.g0 k7).gne k8 (by omega)).gne k9 (by omega)).g0 k10).lt; omega)
  have hn5 := Ze8 hno2 hr2 (by have := ((((hBo2.g0 k7).gne k8 (by omega)).gne k9 (by omega)).g0 k10).lt; omega)
  have hn6 := Ze8 hn3 hr2 (by have := (hB8.g0 k10).lt; omega)
  have hb13 := hb12.grown k11 hb12.size (fun k_ hk_ => (hO9.lt k_ hk_).1)
  have hz8 := hb13.size
  refine st (Ze rfl (Zg (Zd (Zb (st (Zc rfl (st (Zc rfl (st (Zar Za7 rfl hO10.sl ?_))))))))))
  refine st (Zm Za5 rfl (st (Zbs Zcq rfl rfl (by omega) (by omega) (st0 (Zeo Zbj rfl rfl (((((hBx.g0 k7).gne k8 (by omega)).gne k9 (by omega)).g0 k10).grown k11 (fun e => hnx e.symm)) (by omega) (by omega) ?_)))))
  intro w14 hB10 k12 hs10
  have hb14 := Zv hb13 k12 (by first | omega | (have h9 := (hb13).size; omega))
  have hO11 := Own.keptN Zac hO10 k12 hn4
  refine Zg (Zab (Zd (Zb (st (Zaj rfl rfl (by omega) (st (Zc rfl (Zg ?_))))))))
  exact Zad (((k + 1)), (ok ++ ([⟨(Zl o).lv, (if (3 - k) = 0 then (Zao ((Zl o).k0) ((Zl o).k1) ((Zl o).k2) ((Zl o).k3) k) else 0), (if (3 - k) = 1 then (Zao ((Zl o).k0) ((Zl o).k1) ((Zl o).k2) ((Zl o).k3) k) else 0), (if (3 - k) = 2 then (Zao ((Zl o).k0) ((Zl o).k1) ((Zl o).k2) ((Zl o).k3) k) else 0), (if (3 - k) = 3 then (Zao ((Zl o).k0) ((Zl o).k1) ((Zl o).k2) ((Zl o).k3) k) else 0)⟩] : List Nd)), (v2), ((if k = 0 then ((ok ++ ([⟨(Zl o).lv, (if (3 - k) = 0 then (Zao ((Zl o).k0) ((Zl o).k1) ((Zl o).k2) ((Zl o).k3) k) else 0), (if (3 - k) = 1 then (Zao ((Zl o).k0) ((Zl o).k1) ((Zl o).k2) ((Zl o).k3) k) else 0), (if (3 - k) = 2 then (Zao ((Zl o).k0) ((Zl o).k1) ((Zl o).k2) ((Zl o).k3) k) else 0), (if (3 - k) = 3 then (Zao ((Zl o).k0) ((Zl o).k1) ((Zl o).k2) ((Zl o).k3) k) else 0)⟩] : List Nd)).length : Int) else a)), ((if k = 1 then ((ok ++ ([⟨(Zl o).lv, (if (3 - k) = 0 then (Zao ((Zl o).k0) ((Zl o).k1) ((Zl o).k2) ((Zl o).k3) k) else 0), (if (3 - k) = 1 then (Zao ((Zl o).k0) ((Zl o).k1) ((Zl o).k2) ((Zl o).k3) k) else 0), (if (3 - k) = 2 then (Zao ((Zl o).k0) ((Zl o).k1) ((Zl o).k2) ((Zl o).k3) k) else 0), (if (3 - k) = 3 then (Zao ((Zl o).k0) ((Zl o).k1) ((Zl o).k2) ((Zl o).k3) k) else 0)⟩] : List Nd)).length : Int) else b)), ((if k = 2 then ((ok ++ ([⟨(Zl o).lv, (if (3 - k) = 0 then (Zao ((Zl o).k0) ((Zl o).k1) ((Zl o).k2) ((Zl o).k3) k) else 0), (if (3 - k) = 1 then (Zao ((Zl o).k0) ((Zl o).k1) ((Zl o).k2) ((Zl o).k3) k) else 0), (if (3 - k) = 2 then (Zao ((Zl o).k0) ((Zl o).k1) ((Zl o).k2) ((Zl o).k3) k) else 0), (if (3 - k) = 3 then (Zao ((Zl o).k0) ((Zl o).k1) ((Zl o).k2) ((Zl o).k3) k) else 0)⟩] : List Nd)).length : Int) else c)), ((if k = 3 then ((ok ++ ([⟨(Zl o).lv, (if (3 - k) = 0 then (Zao ((Zl o).k0) ((Zl o).k1) ((Zl o).k2) ((Zl o).k3) k) else 0), (if (3 - k) = 1 then (Zao ((Zl o).k0) ((Zl o).k1) ((Zl o).k2) ((Zl o).k3) k) else 0), (if (3 - k) = 2 then (Zao ((Zl o).k0) ((Zl o).k1) ((Zl o).k2) ((Zl o).k3) k) else 0), (if (3 - k) = 3 then (Zao ((Zl o).k0) ((Zl o).k1) ((Zl o).k2) ((Zl o).k3) k) else 0)⟩] : List Nd)).length : Int) else e))) ⟨hb14, by dsimp only; first | omega | (simp; omega), grS_put hk.1 hgs (by unfold Nd.kid; exact h5), by dsimp only; first | omega | (simp; omega), hB10, ((((((hBo2.g0 k7).gne k8 (by omega)).gne k9 (by omega)).g0 k10).grown k11 (fun e => hno2 e.symm)).gne k12 (by omega)), hO11, hn4, hn5⟩ (by omega) (by exact ⟨rfl, rfl, rfl, rfl, rfl, rfl, rfl, rfl, rfl, trivial⟩)
end Go.Proofs.Ytfljelnfjbbknaa.Nd
namespace Go.Proofs.Ytfljelnfjbbknaa.Nd
open Go.RowKit Go.Gw
end Go.Proofs.Ytfljelnfjbbknaa.Nd
namespace Go.Proofs.Ytfljelnfjbbknaa.Lm
open Go.RowKit Go.Gw
set_option maxHeartbeats 1000000 in
theorem Zj7 {w : World} {x y s : Int} {n0 : Nat} (hn0 : n0 ≤ w.heap.size) {va : Value} {l : List Nd} {F : Nat → Prop} (hl : Sl Kd.node w F va l) (hcan : Gw.Can l) (hll : l.length ≤ 90000) {px py : Value} (hpx : Sl Kd.u32 w (G 83 n0 w) px (ml x)) (hpy : Sl Kd.u32 w (G 83 n0 w) py (ml y)) (hbx : Bd 50 x) (hby : Bd 50 y) (hs : 0 ≤ s ∧ s ≤ 255)  :
    Calls Try.prog 28 [.agg [va].toArray, .agg [.bool (decide (x < 0)), px].toArray, .agg [.bool (decide (y < 0)), py].toArray, .int .u8 s].toArray w (Zbi w fun r W => ∃ sv, r = .tuple #[.agg #[sv], .int .i64 (Zba l x y s).2] ∧ Sl Kd.node W (fun _ => False) sv (Zba l x y s).1) := by
  have hb0 := Below.refl w.heap.size w
  have hlr := Zgj hcan
  have hlast := last_rng hcan
  refine enter Try.func28 rfl rfl (Zh (Zb (st (Zcb rfl ?_))))
  intro g1 w1 hg1 hB1 k1 hs1
  change Blk w1 g1 25 [va].toArray at hB1
  have hb1 := Zf hb0 k1
  refine st (Zcb rfl ?_)
  intro g2 w2 hg2 hB2 k2 hs2
  change Blk w2 g2 31 [.bool (decide (x < 0)), px].toArray at hB2
  have hb2 := Zf hb1 k2
  refine st (Zcb rfl ?_)
  intro g3 w3 hg3 hB3 k3 hs3
  change Blk w3 g3 31 [.bool (decide (y < 0)), py].toArray at hB3
  have hb3 := Zf hb2 k3
  have hlt_1 := (((hB1.g0 k2).g0 k3)).lt
  have hlt_2 := ((hB2.g0 k3)).lt
  have hlt_3 := (hB3).lt
  refine st (Zat Zfg ?_)
  intro g4 w4 hg4 hB4 k4 hs4
  have hz1 := hb3.size
  have hb4 := Zf hb3 k4
  refine st (Ze rfl (Zg (Zd (Zh (Zh (Zb (st (Zc rfl ?_))))))))
  refine st (Zu Za8 rfl (((hB1.g0 k2).g0 k3).g0 k4).range rfl (st (Zu Zaf rfl ((hB2.g0 k3).g0 k4).range rfl (st (Zu Zaf rfl (hB3.g0 k4).range rfl (st (Zp fn30 rfl (Zef (x := x) (y := y) (n0 := n0) (Zy hn0 hb4) (hl.at0 hb4) hcan (by omega) ((((hpx.gg0 k1).gg0 k2).gg0 k3).gg0 k4) ((((hpy.gg0 k1).gg0 k2).gg0 k3).gg0 k4) (Bd.le hbx (show 50 ≤ 50 by decide)) (Bd.le hby (show 50 ≤ 50 by decide))) ?_)))))))
  rintro _ w5 ⟨hq1, rfl⟩
  have k5 := Zi hq1 none
  have hz2 := hq1.size
  have hb5 := Zf hb4 k5
  have hz3 := hb5.size
  have hcr1 := Zds hcan x y
  refine st (Zbr rfl rfl (Zg (Zd ?_)))
  refine Zw rfl (fun h1 => ?_) (fun h1 => ?_)
  · have hsc := h1
    refine Zh (Zb (st (Zu Za8 rfl ((((hB1.g0 k2).g0 k3).g0 k4).g0 k5).range rfl (st0 (Zae Za8 rfl rfl (hB4.g0 k5) (by simp only [List.all_cons, List.all_nil, hl.one, Bool.and_true, Bool.and_self] <;> rfl) rfl rfl ?_)))))
    intro w6 hB5 k6 hs5
    have hb6 := Zv hb5 k6 (by first | omega | (have h9 := (hb5).size; omega))
    refine st (Ze rfl (Zg (Zd (Zci rfl Za8 rfl rfl hB5.range rfl ?_))))
    rw [set_same hcan hs hsc]
    exact ⟨_, rfl, hb6, _, rfl, ((hl.at0 hb6)).none⟩
  have hsc := h1
  refine Zn (Zd (Zh (Zb (st (Zu Za8 rfl ((((hB1.g0 k2).g0 k3).g0 k4).g0 k5).range rfl (st (Zp fn43 rfl (Nd.level_any (hl.at0 hb5)) ?_)))))))
  rintro _ w7 ⟨hq2, rfl⟩
  have k7 := Zi hq2 none
  have hz4 := hq2.size
  have hb7 := Zf hb5 k7
  have hz5 := hb7.size
  refine st (s_max rfl rfl (st (Ze rfl (Zg (Zd (Zh (Zb (st (Zc rfl ?_)))))))))
  refine st (Zu Zaf rfl ((((hB2.g0 k3).g0 k4).g0 k5).g0 k7).range rfl (st (Zu Zaf rfl (((hB3.g0 k4).g0 k5).g0 k7).range rfl (st (Zp fn58 rfl (spot_any (x := x) (y := y) (n0 := n0) (Zy hn0 hb7) ((((((hpx.gg0 k1).gg0 k2).gg0 k3).gg0 k4).gg0 k5).gg0 k7) ((((((hpy.gg0 k1).gg0 k2).gg0 k3).gg0 k4).gg0 k5).gg0 k7) (Bd.le hbx (show 50 ≤ 50 by decide)) (Bd.le hby (show 50 ≤ 50 by decide)) (by omega)) ?_)))))
  rintro _ w8 ⟨hq3, v1, v2, rfl, hS1, hS2⟩
  have k8 := Zi hq3 none
  have hz6 := hq3.size
  have hb8 := Zf hb7 k8
  have hz7 := hb8.size
  refine st (Zc rfl (st (Zag rfl rfl (st (Zag rfl rfl ?_)))))
  have hlt_4 := (((((((hB1.g0 k2).g0 k3).g0 k4).g0 k5).g0 k7).g0 k8)).lt
  have hlt_5 := ((((((hB2.g0 k3).g0 k4).g0 k5).g0 k7).g0 k8)).lt
  have hlt_6 := (((((hB3.g0 k4).g0 k5).g0 k7).g0 k8)).lt
  have hlt_7 := ((((hB4.g0 k5).g0 k7).g0 k8)).lt
  refine st (Zat zero89 ?_)
  intro g5 w9 hg5 hB6 k9 hs6
  have hz8 := hb8.size
  have hb9 := Zf hb8 k9
  refine st0 (Zae Zgq rfl rfl hB6 (by simp only [List.all_cons, List.all_nil, hS1.one, hS2.one, Bool.and_true, Bool.and_self] <;> rfl) rfl rfl ?_)
  intro w10 hB7 k10 hs7
  have hb10 := Zv hb9 k10 (by first | omega | (have h9 := (hb9).size; omega))
  refine st (Ze rfl (Zg (Zd (Zh (Zz ?_)))))
  refine Za4 (α := Int × Value × Value) (fun ((u, pa, pb) : Int × Value × Value) => [(3, .int .u8 s), (4, .pointer (some ⟨g1, 0, none⟩)), (5, .pointer (some ⟨g2, 0, none⟩)), (6, .pointer (some ⟨g3, 0, none⟩)), (8, .pointer (some ⟨g4, 0, none⟩)), (9, .int .i64 0), (10, .int .i64 u), (11, .pointer (some ⟨g5, 0, none⟩)), (12, .bool (inC ⟨x, y, 0⟩ u))]) (fun ((u, pa, pb) : Int × Value × Value) W => Below w.heap.size w W ∧ (max (Zaq l) 1 ≤ u ∧ u ≤ 1329) ∧ (∀ j : Int, max (Zaq l) 1 ≤ j → j < u → inC ⟨x, y, 0⟩ j = false) ∧ (Blk W g1 25 [va].toArray) ∧ (Blk W g2 31 [.bool (decide (x < 0)), px].toArray) ∧ (Blk W g3 31 [.bool (decide (y < 0)), py].toArray) ∧ (Blk W g4 25 [.slice none 0 0].toArray) ∧ (Blk W g5 89 [pa, pb].toArray) ∧ (Sl Kd.u32 W (G 83 n0 W) px (ml x)) ∧ (Sl Kd.u32 W (G 83 n0 W) py (ml y)) ∧ (Sl Kd.u32 W (G 83 n0 W) pa (ml (x + hf u))) ∧ (Sl Kd.u32 W (G 83 n0 W) pb (ml (y + hf u)))) (fun ((u, pa, pb) : Int × Value × Value) => (1329 - u).toNat) (((max (Zaq l) 1)), (v1), (v2)) ⟨hb10, by omega, fun j _ _ => by omega, ((((((((hB1.g0 k2).g0 k3).g0 k4).g0 k5).g0 k7).g0 k8).g0 k9).gne k10 (by omega)), (((((((hB2.g0 k3).g0 k4).g0 k5).g0 k7).g0 k8).g0 k9).gne k10 (by omega)), ((((((hB3.g0 k4).g0 k5).g0 k7).g0 k8).g0 k9).gne k10 (by omega)), (((((hB4.g0 k5).g0 k7).g0 k8).g0 k9).gne k10 (by omega)), hB7, (((((((((hpx.gg0 k1).gg0 k2).gg0 k3).gg0 k4).gg0 k5).gg0 k7).gg0 k8).gg0 k9).ggB k10 hB6 (by decide) (by omega)), (((((((((hpy.gg0 k1).gg0 k2).gg0 k3).gg0 k4).gg0 k5).gg0 k7).gg0 k8).gg0 k9).ggB k10 hB6 (by decide) (by omega)), ((hS1.gg0 k9).ggB k10 hB6 (by decide) (by omega)), ((hS2.gg0 k9).ggB k10 hB6 (by decide) (by omega))⟩ (by exact ⟨rfl, rfl, rfl, rfl, rfl, rfl, rfl, rfl, rfl, trivial⟩) ?_
  rintro ⟨u, pa, pb⟩ w11 ⟨hb11, hu, hno, hbl0, hbl1, hbl2, hbl3, hbl4, hsl1_1, hsl2_1, hsl4_0, hsl4_1⟩
  dsimp only at *
  have hz9 := hb11.size
  have hbl0l := hbl0.lt
  have hbl1l := hbl1.lt
  have hbl2l := hbl2.lt
  have hbl3l := hbl3.lt
  have hbl4l := hbl4.lt
  refine Zh (Zh (Zb (st (Zc rfl (st (Zdk rfl (st (Zc rfl ?_))))))))
  refine Zdu 36 rfl (fun h2 => ?_) (fun h2 => ?_)
  · have hin : inC ⟨x, y, 0⟩ u = false := by simpa using h2
    refine stg (Zc rfl (stg (Zbf rfl rfl (st (Zo rfl rfl (Zg (Zd ?_)))))))
    refine Zw rfl (fun h3 => ?_) (fun h3 => ?_)
    rotate_left
    · refine Zan (Zk (Zk (Zt (Zd (Zh (Zh ?_))))))
      refine Zb (st (Zc rfl (st (Zdk rfl (Zg (Zd ?_))))))
      refine Zbd rfl (fun h4 => ?_) (fun h4 => absurd (h2.symm.trans h4) (by decide))
      have hin : inC ⟨x, y, 0⟩ u = false := by simpa using h4
      refine Zh (Zb (st (Zbo (ps := []) (ccs := []) (cells := [.slice none 0 0]) rfl rfl (by kernel_rfl) (st0 (Zae Za8 rfl rfl hbl3 rfl rfl rfl ?_)))))
      intro w14 hB9 k13 hs9
      have hb14 := Zv hb11 k13 (by first | omega | (have h9 := (hb11).size; omega))
      refine st (Ze rfl (Zg (Zd (Zci rfl Za8 rfl rfl hB9.range rfl ?_))))
      have hu9 : u = 1329 := by omega
      subst hu9
      rw [set_out hcan (lvUp_out hcan hno hin) hsc]
      exact ⟨_, rfl, hb14, _, rfl, Sl.nil0⟩
    refine Zn (Zd (Zz (Zh (Zb (st (Zc rfl (st (Zaj rfl rfl (by omega) ?_))))))))
    refine st (Ze rfl (Zg (Zd (Zb (st (Zc rfl (st (Zu Zaf rfl hbl1.range rfl (st (Zu Zaf rfl hbl2.range rfl ?_))))))))))
    refine st (Zp fn58 rfl (spot_any (x := x) (y := y) (n0 := n0) (Zy hn0 hb11) hsl1_1 hsl2_1 (Bd.le hbx (show 50 ≤ 50 by decide)) (Bd.le hby (show 50 ≤ 50 by decide)) (by omega)) ?_)
    rintro _ w12 ⟨hq4, v3, v4, rfl, hS3, hS4⟩
    have k11 := Zi hq4 none
    have hz10 := hq4.size
    have hb12 := Zf hb11 k11
    have hz11 := hb12.size
    refine st (Zc rfl (st (Zag rfl rfl (st (Zag rfl rfl (st0 (Zae Zgq rfl rfl (hbl4.g0 k11) (by simp only [List.all_cons, List.all_nil, hS3.one, hS4.one, Bool.and_true, Bool.and_self] <;> rfl) rfl rfl ?_)))))))
    intro w13 hB8 k12 hs8
    have hb13 := Zv hb12 k12 (by first | omega | (have h9 := (hb12).size; omega))
    refine st (Ze rfl (Zg (Zab ?_)))
    exact Zad (((u + 1)), (v3), (v4)) ⟨hb13, by omega, fun j j0 j1 => if e : j = u then by rw [e]; exact hin else hno j j0 (by omega), ((hbl0.g0 k11).gne k12 (by omega)), ((hbl1.g0 k11).gne k12 (by omega)), ((hbl2.g0 k11).gne k12 (by omega)), ((hbl3.g0 k11).gne k12 (by omega)), hB8, ((hsl1_1.gg0 k11).ggB k12 (hbl4.g0 k11) (by decide) (by omega)), ((hsl2_1.gg0 k11).ggB k12 (hbl4.g0 k11) (by decide) (by omega)), (hS3.ggB k12 (hbl4.g0 k11) (by decide) (by omega)), (hS4.ggB k12 (hbl4.g0 k11) (by decide) (by omega))⟩ (by omega) (by exact ⟨rfl, rfl, rfl, rfl, rfl, rfl, rfl, rfl, rfl, trivial⟩)
  have hin : inC ⟨x, y, 0⟩ u = true := by simpa using h2
  refine Zj rfl rfl (Zj rfl rfl (st (Zo rfl rfl (Zg (Zd (Zbv rfl (Zan ?_)))))))
  refine Zk (Zk (Zt (Zd (Zh (Zh (Zb ?_))))))
  refine st (Zc rfl (st (Zdk rfl (Zg (Zd (Zbd rfl (fun h5 => absurd (h2.symm.trans h5) (by decide)) (fun h5 => ?_)))))))
  have hin : inC ⟨x, y, 0⟩ u = true := by simpa using h5
  refine Zn (Zd (Zh (Zb (st (Zu Za8 rfl hbl0.range rfl (st (Zc rfl (st (Zp fn59 rfl (Nd.growO_any (level := u) (hl.at0 hb11) (by omega) hlast (by omega)) ?_)))))))))
  rintro _ w15 ⟨hq5, v5, rfl, hO1⟩
  have k14 := Zi hq5 none
  have hz12 := hq5.size
  have hb15 := Zf hb11 k14
  have hz13 := hb15.size
  have hO2 := hO1.rebase (b' := w.heap.size) hb11.size
  obtain ⟨hgo, hgn, _, hgl⟩ := grown_sem hcan (v := u) (by omega) (by omega) (by omega)
  refine st (Zc rfl (st (Zag rfl rfl (st (Zag rfl rfl (st (Ze rfl (st (Ze rfl (Zg (Zd ?_)))))))))))
  refine Zh (Zb (st (Zc rfl (st (Zu Zgq rfl (hbl4.g0 k14).range rfl (st (Zc rfl (st (Zbo (ps := [(0, .tmp 58), (1, .tmp 59), (2, .tmp 60)]) (ccs := [#[v5], #[pa, pb], #[.int .u8 s]]) (cells := [v5, pa, pb, .int .u8 s]) rfl (by simp only [List.map_cons, List.map_nil]; change [(v5 : Value).cells, (Value.agg #[pa, pb]).cells, (.int .u8 s : Value).cells] = _; simp only [hO2.cells1] <;> rfl) (by kernel_rfl) (st (Zcb rfl ?_)))))))))))
  intro g6 w16 hg6 hB10 k15 hs10
  change Blk w16 g6 95 [v5, pa, pb, .int .u8 s].toArray at hB10
  have hb16 := Zf hb15 k15
  have hO3 := hO2.g0 k15
  refine st (Ze rfl (Zg (Zd (Zh (Zb (st (Zc rfl (st (Zc rfl ?_)))))))))
  refine st (Zc rfl (st (Zp fn60 rfl (paint_any (a0 := w) (n0 := n0) (by omega) (gp := g6) (by omega) (A := (x + hf u)) (B := (y + hf u)) (s := s) (spot_pos hin).1 (spot_pos hin).2 hs u.toNat (n := ((Zc5 l u).length : Int)) (lv := u) (by omega) (by omega) hgo hgn (by omega) hb16 hO3 hB10 ((hsl4_0.gg0 k14).gg0 k15) ((hsl4_1.gg0 k14).gg0 k15)) ?_)))
  rintro _ w17 ⟨rfl, vo1, hb17, hO4, hB11, hS5, hS6, hF1⟩
  have hB12 := Blk.frm ((hbl3.g0 k14).g0 k15) hF1 (Zgp ((hbl3.g0 k14).g0 k15) hB10 (by decide)) (hO3.neB ((hbl3.g0 k14).g0 k15) (by decide))
  have hz14 := hb17.size
  have hpl_ := put_len u.toNat (Zc5 l u) ((Zc5 l u).length : Int) ((x + hf u) % (2 * hf u)) ((y + hf u) % (2 * hf u)) s
  refine st (Ze rfl (Zg (Zd (Zh (Zb (st (Zc rfl (st (Zeb rfl ?_)))))))))
  refine st (Zm Zgz rfl (st (Zs Zcu rfl hB11.range (j := 0) rfl (st (Zc rfl (st (Zp fn61 rfl (Nd.of_any (n := (Zcr u.toNat (Zc5 l u) ((Zc5 l u).length : Int) ((x + hf u) % (2 * hf u)) ((y + hf u) % (2 * hf u)) s).2) hO4.sl (by omega)) ?_)))))))
  rintro _ w18 ⟨hq6, sv1, rfl, hS7, _⟩
  have k17 := Zi hq6 none
  have hz15 := hq6.size
  have hb18 := Zf hb17 k17
  have hz16 := hb18.size
  refine st (Zag rfl rfl (st (Zag rfl rfl (st0 (Zae Za8 rfl rfl (hB12.g0 k17) (by simp only [List.all_cons, List.all_nil, hS7.one, Bool.and_true, Bool.and_self] <;> rfl) rfl rfl ?_)))))
  intro w19 hB13 k18 hs11
  have hb19 := Zv hb18 k18 (by first | omega | (have h9 := (hb18).size; omega))
  refine st (Ze rfl (Zg (Zd (Zci rfl Za8 rfl rfl hB13.range rfl ?_))))
  rw [set_up (lvUp_eq hcan hu.1 hu.2 hno hin) hu.2 hin]
  exact ⟨_, rfl, hb19, _, rfl, (Sl.gSmall Zac hS7 k18 (hB12.g0 k17) (by decide))⟩
end Go.Proofs.Ytfljelnfjbbknaa.Lm
namespace Go.Proofs.Ytfljelnfjbbknaa.Lm
open Go.RowKit Go.Gw
end Go.Proofs.Ytfljelnfjbbknaa.Lm
namespace Go.Gw
open Go.RowKit
theorem Sl.nq {w : World} {F : Nat → Prop} {v : Value} {xs : List Nd} {t : Nat} (h : Sl Kd.node w F v xs) : Sl Kd.node w (fun g => BlkN w g t 1) v xs := by
  obtain ⟨A, c, e, h1, h2, h3⟩ := h
  refine ⟨A, c, e, h1, h2, fun i x hx => ?_⟩
  obtain ⟨g, o, us, ea, hg, hF, hr, hc⟩ := h3 i x hx
  refine ⟨g, o, us, ea, hg, ?_, hr, hc⟩
  rintro ⟨cs, hs, hB⟩
  have hu : us = x.cells := hr.1
  have h4 := hc 4 (.int .i64 x.k3) (by rw [hu]; rfl)
  have h5 : w.cell? ⟨g, o + i * Kd.node.sz + 4, Option.none⟩ = cs[o + i * Kd.node.sz + 4]? := hB.cell _
  rw [h5, Array.getElem?_eq_none (by omega)] at h4
  cases h4
section
variable {N t U n0 : Nat} {Q : World → Array Value → Prop} {a b : World}
theorem Rg.nodes (k : Rg N t 1 Q a b) {F : Nat → Prop} {v : Value} {xs : List Nd} (h : Sl Kd.node a F v xs) : Sl Kd.node b (fun _ => False) v xs :=
  (Sl.keep (h.nq (t := t)) (fun i hi hF => (k.block i hi).resolve_right (fun h => hF h.2.1))).weak (fun _ _ h => h.elim)
theorem nodes_sto {g : Nat} (hB : BlkN a g t 1) (k : a.grownBy b (some g)) {F : Nat → Prop} {v : Value} {xs : List Nd} (h : Sl Kd.node a F v xs) : Sl Kd.node b (fun _ => False) v xs :=
  (Sl.keep (h.nq (t := t)) (fun i hi hF => k.block i hi (by rintro ⟨⟩; exact hF hB))).weak (fun _ _ h => h.elim)
def Zix (xs : List Nd) (w : World) (cs : Array Value) : Prop := ∃ s, cs = [s].toArray ∧ Sl Kd.node w (fun _ => False) s xs
theorem quad_st {xs : List Nd} (a b : World) (cs : Array Value) (k : Rg N t 1 Q a b) (h : Zix xs a cs) : Zix xs b cs := by
  obtain ⟨s, rfl, h⟩ := h
  exact ⟨s, rfl, k.nodes h⟩
end
def Q8 : List Nd := (Zba [] 5 (-7) 9).1
theorem set8a : Zba [] 5 (-7) 9 = (Q8, 0) := Prod.ext rfl (by decide +kernel)
theorem set8b : Zba Q8 5 (-7) 0 = ([], 0) := by decide +kernel
theorem set8c : (Zba Q8 (hf 1329) (-7) 1).2 = 4 := by decide +kernel
theorem most8 : Zjp Q8 = 9 := by decide +kernel
theorem len8 : Q8.length ≤ 100 := by decide +kernel
theorem can8 : Can Q8 := (Zlb Ze0 (x := 5) (y := -7) (s := 9) ⟨by decide, by decide⟩ (by decide +kernel)).1
theorem get8 (X Y : Int) : Zbg Q8 X Y = if X = 5 ∧ Y = -7 then 9 else Zbg [] X Y := (Zlb Ze0 (x := 5) (y := -7) (s := 9) ⟨by decide, by decide⟩ (by decide +kernel)).2 X Y
theorem get8a : Zbg Q8 5 (-7) = 9 := by rw [get8]; rfl
theorem get8b : Zbg Q8 (-7) 5 = 0 := by rw [get8]; rfl
theorem get8c : Zbg [] 5 (-7) = 0 := rfl
theorem right8 : Zfm Q8 = true := by decide +kernel
end Go.Gw
namespace Go.Proofs.Ytfljelnfjbbknaa.Lm
open Go.RowKit Go.Gw
set_option maxHeartbeats 1000000 in
theorem alive8_any {w : World} {n0 : Nat} (hn0 : n0 ≤ w.heap.size)  :
    Calls Try.prog 25 [].toArray w (Zbi w fun v _ => v = .bool true) := by
  have hb0 := Below.refl w.heap.size w
  refine enter Try.func25 rfl rfl (Zh (Zb (st (Ze rfl (Zg (Zd (Zh ?_)))))))
  refine Zb (st (Zp fn20 rfl (rof2_any (n0 := n0) (Zy hn0 hb0) (by omega)) ?_))
  rintro _ w1 ⟨hq1, v1, rfl, hS1⟩
  have k1 := Zi hq1 none
  have hz1 := hq1.size
  have hb1 := Zf hb0 k1
  have hz2 := hb1.size
  refine st (Zp fn20 rfl (rof2_any (n0 := n0) (Zy hn0 hb1) (by omega)) ?_)
  rintro _ w2 ⟨hq2, v2, rfl, hS2⟩
  have k2 := Zi hq2 none
  have hz3 := hq2.size
  have hb2 := Zf hb1 k2
  have hz4 := hb2.size
  refine st (Zat Zcw ?_)
  intro g1 w3 hg1 hB1 k3 hs1
  have hz5 := hb2.size
  have hb3 := Zf hb2 k3
  have hlt_1 := (hB1).lt
  refine st (Zat Zcw ?_)
  intro g2 w4 hg2 hB2 k4 hs2
  have hz6 := hb3.size
  have hb4 := Zf hb3 k4
  refine st0 (Zae Zaf rfl rfl (hB1.g0 k4) (by simp only [List.all_cons, List.all_nil, hS1.one, Bool.and_true, Bool.and_self] <;> rfl) rfl rfl ?_)
  intro w5 hB3 k5 hs3
  have hb5 := Zv hb4 k5 (by first | omega | (have h9 := (hb4).size; omega))
  refine st0 (Zae Zaf rfl rfl (hB2.gne k5 (by omega)) (by simp only [List.all_cons, List.all_nil, hS2.one, Bool.and_true, Bool.and_self] <;> rfl) rfl rfl ?_)
  intro w6 hB4 k6 hs4
  have hb6 := Zv hb5 k6 (by first | omega | (have h9 := (hb5).size; omega))
  refine Zg (Zd (Zh (Zb (st (Zbo (ps := []) (ccs := []) (cells := [.slice none 0 0]) rfl rfl (by kernel_rfl) (st (Zu Zaf rfl (hB3.gne k6 (by omega)).range rfl (st (Zu Zaf rfl hB4.range rfl ?_)))))))))
  refine st (Zp fn28 rfl (Zj7 (x := (5 : Int)) (y := (-7 : Int)) (s := 9) (n0 := n0) (Zy hn0 hb6) ((Sl.nil0 (K := Kd.node) (F := fun _ => False)).at0 hb6) Ze0 (by decide) (((((hS1.gg0 k2).gg0 k3).gg0 k4).ggB k5 (hB1.g0 k4) (by decide) (by omega)).ggB k6 (hB2.gne k5 (by omega)) (by decide) (by omega)) ((((hS2.gg0 k3).gg0 k4).ggB k5 (hB1.g0 k4) (by decide) (by omega)).ggB k6 (hB2.gne k5 (by omega)) (by decide) (by omega)) (Bd.le (Zdq (by omega)) (show 2 ≤ 50 by decide)) (Bd.le (Zdq (by omega)) (show 2 ≤ 50 by decide)) (by first | omega | decide)) ?_)
  rintro v_ w7 ⟨hq3, sv1, hv1, hS3⟩
  rw [set8a] at hv1 hS3
  subst hv1
  dsimp only at hS3
  have k7 := Zi hq3 none
  have hz7 := hq3.size
  have hb7 := Zf hb6 k7
  have hz8 := hb7.size
  refine st (Zc rfl (st (Zag rfl rfl (st (Zag rfl rfl ?_)))))
  have hlt_2 := (((hB3.gne k6 (by omega)).g0 k7)).lt
  have hlt_3 := ((hB4.g0 k7)).lt
  refine st (Zat Zfg ?_)
  intro g3 w8 hg3 hB5 k8 hs5
  have hz9 := hb7.size
  have hb8 := Zf hb7 k8
  refine st0 (Zae Za8 rfl rfl hB5 (by simp only [List.all_cons, List.all_nil, hS3.one, Bool.and_true, Bool.and_self] <;> rfl) rfl rfl ?_)
  intro w9 hB6 k9 hs6
  have hb9 := Zv hb8 k9 (by first | omega | (have h9 := (hb8).size; omega))
  refine st (Ze rfl (Zg (Zd (Zh (Zb (st (Zu Za8 rfl hB6.range rfl (st (Zu Zaf rfl ((((hB3.gne k6 (by omega)).g0 k7).g0 k8).gne k9 (by omega)).range rfl ?_)))))))))
  refine st (Zu Zaf rfl (((hB4.g0 k7).g0 k8).gne k9 (by omega)).range rfl ?_)
  refine st (Zp fn28 rfl (Zj7 (x := (5 : Int)) (y := (-7 : Int)) (s := 0) (n0 := n0) (Zy hn0 hb9) (Sl.gSmall Zac (hS3.g0 k8) k9 hB5 (by decide)) can8 (by have := len8; omega) ((((((((hS1.gg0 k2).gg0 k3).gg0 k4).ggB k5 (hB1.g0 k4) (by decide) (by omega)).ggB k6 (hB2.gne k5 (by omega)) (by decide) (by omega)).gg0 k7).gg0 k8).ggB k9 hB5 (by decide) (by omega)) (((((((hS2.gg0 k3).gg0 k4).ggB k5 (hB1.g0 k4) (by decide) (by omega)).ggB k6 (hB2.gne k5 (by omega)) (by decide) (by omega)).gg0 k7).gg0 k8).ggB k9 hB5 (by decide) (by omega)) (Bd.le (Zdq (by omega)) (show 2 ≤ 50 by decide)) (Bd.le (Zdq (by omega)) (show 2 ≤ 50 by decide)) (by first | omega | decide)) ?_)
  rintro v_ w10 ⟨hq4, sv2, hv2, hS4⟩
  rw [set8b] at hv2 hS4
  subst hv2
  dsimp only at hS4
  have k10 := Zi hq4 none
  have hz10 := hq4.size
  have hb10 := Zf hb9 k10
  have hz11 := hb10.size
  refine st (Zc rfl (st (Zag rfl rfl (st (Zag rfl rfl ?_)))))
  have hlt_4 := ((((((hB3.gne k6 (by omega)).g0 k7).g0 k8).gne k9 (by omega)).g0 k10)).lt
  have hlt_5 := (((((hB4.g0 k7).g0 k8).gne k9 (by omega)).g0 k10)).lt
  have hlt_6 := ((hB6.g0 k10)).lt
  refine st (Zat Zfg ?_)
  intro g4 w11 hg4 hB7 k11 hs7
  have hz12 := hb10.size
  have hb11 := Zf hb10 k11
  refine st0 (Zae Za8 rfl rfl hB7 (by simp only [List.all_cons, List.all_nil, hS4.one, Bool.and_true, Bool.and_self] <;> rfl) rfl rfl ?_)
  intro w12 hB8 k12 hs8
  have hb12 := Zv hb11 k12 (by first | omega | (have h9 := (hb11).size; omega))
  refine st (Ze rfl (Zg (Zd (Zh ?_))))
  refine w_drawS (dd := 7) (td := 7) (cs := [false, false, false, false, false, false, false, false, true]) (ψ := PtrG w12.heap.size 25 1 (Zix ((Zba Q8 (hf 1329) (-7 : Int) 1).1))) 9 (Rg w12.heap.size 25 1 (Zix ((Zba Q8 (hf 1329) (-7 : Int) 1).1))) [(some 26, Is <| .agg [sv1].toArray), (some 27, fun v W => Zb6 83 n0 W v ((hf 1329))), (some 28, Is <| .agg [.bool (decide ((-7 : Int) < 0)), v2].toArray), (some 29, fun v W => ∃ sv3 : Value, v = .tuple #[.agg [sv3].toArray, .int .i64 4] ∧ Sl Kd.node W (fun _ => False) sv3 ((Zba Q8 (hf 1329) (-7 : Int) 1).1)), (some 25, fun v W => ∃ sv3 : Value, v = .tuple #[.agg [sv3].toArray, .int .i64 4] ∧ Sl Kd.node W (fun _ => False) sv3 ((Zba Q8 (hf 1329) (-7 : Int) 1).1)), (some 30, fun v W => ∃ sv3 : Value, v = .agg [sv3].toArray ∧ Sl Kd.node W (fun _ => False) sv3 ((Zba Q8 (hf 1329) (-7 : Int) 1).1)), (some 31, Is <| .int .i64 4), (some 7, Zhm w12.heap.size 25 1), (none, fun _ _ => True)] [[], [], [], [0, 1, 2], [3], [4], [4], [], [7, 5]] [false, false, false, false, false, false, false, false, false] [(0, .bool false), (1, .pointer (some ⟨g1, 0, none⟩)), (2, .pointer (some ⟨g2, 0, none⟩)), (3, .pointer (some ⟨g3, 0, none⟩)), (4, .int .i64 0), (5, .pointer (some ⟨g4, 0, none⟩)), (6, .int .i64 0)] (by exact ⟨rfl, rfl, rfl, rfl, rfl, rfl, rfl, trivial⟩) (by kernel_rfl) (by kernel_rfl) Rg.refl (Rg.trans quad_st) ⟨fun _ _ _ h _ => h, fun _ _ _ h k => by obtain ⟨a, e, h⟩ := h; exact ⟨a, e, k.nums (by decide) (show n0 ≤ w12.heap.size by omega) h⟩, fun _ _ _ h _ => h, fun _ _ _ h k => by obtain ⟨sv3, e, h0⟩ := h; exact ⟨sv3, e, k.nodes h0⟩, fun _ _ _ h k => by obtain ⟨sv3, e, h0⟩ := h; exact ⟨sv3, e, k.nodes h0⟩, fun _ _ _ h k => by obtain ⟨sv3, e, h0⟩ := h; exact ⟨sv3, e, k.nodes h0⟩, fun _ _ _ h _ => h, Zhm.stG, fun _ _ _ h _ => h, trivial⟩ ⟨(fun h => by cases h), (fun h => by cases h), (fun h => by cases h), (fun h => by cases h), (fun h => by cases h), (fun h => by cases h), (fun h => by cases h), (fun h => by cases h), (fun h => by cases h), trivial⟩ rfl (fun i h _ => by rcases i with _ | _ | _ | _ | _ | _ | _ | _ | _ | i <;> simp at h ⊢) (PtrG.st quad_st) ⟨8, rfl, by decide⟩ ?_
  intro w17 k17 hs11
  have hb13 := Zf hb12 k17
  refine ⟨⟨?_, ?_, ?_, ?_, ?_, ?_, ?_, ?_, ?_, trivial⟩, ?_⟩
  · intro w18 k18r
    have k18 := Rg.grown k18r (by omega)
    refine op1 (Zu Za8 rfl (((((hB6.g0 k10).g0 k11).gne k12 (by omega)).g0 k17).g0 k18).range rfl ?_)
    exact ⟨rfl, Rg.refl _, (fun h => by cases h), (fun h => by cases h)⟩
  · intro w19 k19r
    have k19 := Rg.grown k19r (by omega)
    have hb15 := Zf hb13 k19
    refine op1 (Zp fn47 rfl (Zjf (n0 := n0) (Zy hn0 hb15)) ?_)
    rintro v6 w20 ⟨hq7, hv5⟩
    rw [show (Zf8 1 (1328 : Int)) = (hf 1329) from (shl_hf (v := 1329) (by decide))] at hv5
    obtain ⟨v5, rfl, hS7⟩ := hv5
    have k20 := Zi hq7 none
    have hz13 := hq7.size
    have hb16 := Zf hb15 k20
    have hz14 := hb16.size
    exact ⟨⟨_, rfl, hS7⟩, Rg.of (k20), (fun h => by cases h), (fun h => by cases h)⟩
  · intro w21 k21r
    have k21 := Rg.grown k21r (by omega)
    refine op1 (Zu Zaf rfl ((((((((hB4.g0 k7).g0 k8).gne k9 (by omega)).g0 k10).g0 k11).gne k12 (by omega)).g0 k17).g0 k21).range rfl ?_)
    exact ⟨rfl, Rg.refl _, (fun h => by cases h), (fun h => by cases h)⟩
  · intro w22 k22r
    have k22 := Rg.grown k22r (by omega)
    have hb18 := Zf hb13 k22
    rintro _ rfl _ ⟨v7, rfl, hS8⟩ _ rfl
    refine op1 (Zp fn28 rfl (Zj7 (x := (hf 1329)) (y := (-7 : Int)) (s := 1) (n0 := n0) (Zy hn0 hb18) (((Sl.gSmall Zac (((Sl.gSmall Zac (hS3.g0 k8) k9 hB5 (by decide)).g0 k10).g0 k11) k12 hB7 (by decide)).g0 k17).g0 k22) can8 (by have := len8; omega) hS8 ((((((((((((hS2.gg0 k3).gg0 k4).ggB k5 (hB1.g0 k4) (by decide) (by omega)).ggB k6 (hB2.gne k5 (by omega)) (by decide) (by omega)).gg0 k7).gg0 k8).ggB k9 hB5 (by decide) (by omega)).gg0 k10).gg0 k11).ggB k12 hB7 (by decide) (by omega)).gg0 k17).gg0 k22) (Bd.le (Zec (by decide)) (show 42 ≤ 50 by decide)) (Bd.le (Zdq (by omega)) (show 2 ≤ 50 by decide)) (by first | omega | decide)) ?_)
    rintro v_ w23 ⟨hq8, sv4, hv6, hS9⟩
    rw [set8c] at hv6
    subst hv6
    have k23 := Zi hq8 none
    have hz15 := hq8.size
    have hb19 := Zf hb18 k23
    have hz16 := hb19.size
    exact ⟨⟨_, rfl, hS9⟩, Rg.of (k23), (fun h => by cases h), (fun h => by cases h)⟩
  · intro w24 k24r
    have k24 := Rg.grown k24r (by omega)
    rintro _ ⟨v8, rfl, hS10⟩
    refine op1 (Zc rfl ?_)
    exact ⟨⟨_, rfl, hS10⟩, Rg.refl _, (fun h => by cases h), (fun h => by cases h)⟩
  · intro w25 k25r
    have k25 := Rg.grown k25r (by omega)
    rintro _ ⟨v9, rfl, hS11⟩
    refine op1 (Zag rfl rfl ?_)
    exact ⟨⟨_, rfl, hS11⟩, Rg.refl _, (fun h => by cases h), (fun h => by cases h)⟩
  · intro w26 k26r
    have k26 := Rg.grown k26r (by omega)
    rintro _ ⟨v10, rfl, hS12⟩
    refine op1 (Zag rfl rfl ?_)
    exact ⟨rfl, Rg.refl _, (fun h => by cases h), (fun h => by cases h)⟩
  · intro w27 k27r
    have k27 := Rg.grown k27r (by omega)
    refine op1 (Zat Zfg ?_)
    intro g6 w28 hg6 hB11 k28 hs12
    have hz_ := k27.size
    exact ⟨⟨g6, rfl, by omega, _, rfl, hB11⟩, Rg.of k28, (fun h => by cases h), (fun h => by cases h)⟩
  · intro w29 k29r
    have k29 := Rg.grown k29r (by omega)
    rintro _ ⟨g7, rfl, hg7, hB12, hc1, hB13⟩ _ ⟨v11, rfl, hS13⟩
    refine op1 (Zae Za8 rfl rfl hB13 (by simp only [List.all_cons, List.all_nil, (hS13).none.one, Bool.and_true, Bool.and_self] <;> rfl) rfl hc1 ?_)
    intro w30 hB14 k30 hs13
    have hT1 : Zix ((Zba Q8 (hf 1329) (-7 : Int) 1).1) _ [v11].toArray := ⟨v11, rfl, nodes_sto ⟨_, hc1, hB13⟩ k30 (hS13).none⟩
    exact ⟨trivial, Rg.sto ⟨_, hc1, hB13⟩ hB14 rfl hT1 k30 hg7, (fun h => by cases h), fun _ => ⟨_, rfl, _, rfl, hg7, _, hB14, rfl, hT1⟩⟩
  intro w31 k31r
  have k31 := Rg.grown k31r (by omega)
  have hb25 := Zf hb13 k31
  rintro _ rfl _ ⟨v12, rfl, hS14⟩ _ rfl _ ⟨v13, rfl, hS15⟩ _ ⟨v14, rfl, hS16⟩ _ ⟨v15, rfl, hS17⟩ _ rfl _ ⟨g8, rfl, hg8, hB15, hc2, hB16⟩ hp1
  obtain ⟨_, he1, _, _, hB17, _, v16, rfl, hS18⟩ := hp1 _ rfl
  cases he1
  have hlt_11 := hB17.lt
  refine st (Ze rfl (Zg (Zd (Zh (Zb (st (Zc rfl (st (Zbr rfl rfl ?_)))))))))
  rw [show decide ((0 : Int) = 0) = true from rfl]
  refine st (Zc rfl (stg (Zc rfl (stg (Zbr rfl rfl ?_)))))
  rw [show decide ((0 : Int) = 0) = true from rfl]
  refine st (Zo rfl rfl (st (Zc rfl (stg (Zc rfl (stg (Zbr rfl rfl ?_)))))))
  rw [show decide ((4 : Int) = 4) = true from rfl]
  refine st (Zo rfl rfl (st (Zc rfl (stg (Zu Za8 rfl (((((hB6.g0 k10).g0 k11).gne k12 (by omega)).g0 k17).g0 k31).range rfl (stg (Zu Zaf rfl (((((((((hB3.gne k6 (by omega)).g0 k7).g0 k8).gne k9 (by omega)).g0 k10).g0 k11).gne k12 (by omega)).g0 k17).g0 k31).range rfl (stg (Zu Zaf rfl ((((((((hB4.g0 k7).g0 k8).gne k9 (by omega)).g0 k10).g0 k11).gne k12 (by omega)).g0 k17).g0 k31).range rfl ?_)))))))))
  refine stg (Zp fn30 rfl (Zef (x := (5 : Int)) (y := (-7 : Int)) (n0 := n0) (Zy hn0 hb25) (((Sl.gSmall Zac (((Sl.gSmall Zac (hS3.g0 k8) k9 hB5 (by decide)).g0 k10).g0 k11) k12 hB7 (by decide)).g0 k17).g0 k31) can8 (by have := len8; omega) (((((((((((((hS1.gg0 k2).gg0 k3).gg0 k4).ggB k5 (hB1.g0 k4) (by decide) (by omega)).ggB k6 (hB2.gne k5 (by omega)) (by decide) (by omega)).gg0 k7).gg0 k8).ggB k9 hB5 (by decide) (by omega)).gg0 k10).gg0 k11).ggB k12 hB7 (by decide) (by omega)).gg0 k17).gg0 k31) ((((((((((((hS2.gg0 k3).gg0 k4).ggB k5 (hB1.g0 k4) (by decide) (by omega)).ggB k6 (hB2.gne k5 (by omega)) (by decide) (by omega)).gg0 k7).gg0 k8).ggB k9 hB5 (by decide) (by omega)).gg0 k10).gg0 k11).ggB k12 hB7 (by decide) (by omega)).gg0 k17).gg0 k31) (Bd.le (Zdq (by omega)) (show 2 ≤ 50 by decide)) (Bd.le (Zdq (by omega)) (show 2 ≤ 50 by decide))) ?_)
  rintro v17 w32 ⟨hq9, hv7⟩
  rw [show (Zbg Q8 (5 : Int) (-7 : Int)) = 9 from get8a] at hv7
  subst hv7
  have k32 := Zi hq9 none
  have hz17 := hq9.size
  have hb26 := Zf hb25 k32
  have hz18 := hb26.size
  refine stg (Zbr rfl rfl ?_)
  rw [show decide ((9 : Int) = 9) = true from rfl]
  refine st (Zo rfl rfl (st (Zc rfl (stg (Zu Za8 rfl ((((((hB6.g0 k10).g0 k11).gne k12 (by omega)).g0 k17).g0 k31).g0 k32).range rfl (stg (Zu Zaf rfl (((((((((hB4.g0 k7).g0 k8).gne k9 (by omega)).g0 k10).g0 k11).gne k12 (by omega)).g0 k17).g0 k31).g0 k32).range rfl (stg (Zu Zaf rfl ((((((((((hB3.gne k6 (by omega)).g0 k7).g0 k8).gne k9 (by omega)).g0 k10).g0 k11).gne k12 (by omega)).g0 k17).g0 k31).g0 k32).range rfl ?_)))))))))
  refine stg (Zp fn30 rfl (Zef (x := (-7 : Int)) (y := (5 : Int)) (n0 := n0) (Zy hn0 hb26) ((((Sl.gSmall Zac (((Sl.gSmall Zac (hS3.g0 k8) k9 hB5 (by decide)).g0 k10).g0 k11) k12 hB7 (by decide)).g0 k17).g0 k31).g0 k32) can8 (by have := len8; omega) (((((((((((((hS2.gg0 k3).gg0 k4).ggB k5 (hB1.g0 k4) (by decide) (by omega)).ggB k6 (hB2.gne k5 (by omega)) (by decide) (by omega)).gg0 k7).gg0 k8).ggB k9 hB5 (by decide) (by omega)).gg0 k10).gg0 k11).ggB k12 hB7 (by decide) (by omega)).gg0 k17).gg0 k31).gg0 k32) ((((((((((((((hS1.gg0 k2).gg0 k3).gg0 k4).ggB k5 (hB1.g0 k4) (by decide) (by omega)).ggB k6 (hB2.gne k5 (by omega)) (by decide) (by omega)).gg0 k7).gg0 k8).ggB k9 hB5 (by decide) (by omega)).gg0 k10).gg0 k11).ggB k12 hB7 (by decide) (by omega)).gg0 k17).gg0 k31).gg0 k32) (Bd.le (Zdq (by omega)) (show 2 ≤ 50 by decide)) (Bd.le (Zdq (by omega)) (show 2 ≤ 50 by decide))) ?_)
  rintro v18 w33 ⟨hq10, hv8⟩
  rw [show (Zbg Q8 (-7 : Int) (5 : Int)) = 0 from get8b] at hv8
  subst hv8
  have k33 := Zi hq10 none
  have hz19 := hq10.size
  have hb27 := Zf hb26 k33
  have hz20 := hb27.size
  refine stg (Zbr rfl rfl ?_)
  rw [show decide ((0 : Int) = 0) = true from rfl]
  refine st (Zo rfl rfl (st (Zc rfl (stg (Zu Za8 rfl (((((((hB6.g0 k10).g0 k11).gne k12 (by omega)).g0 k17).g0 k31).g0 k32).g0 k33).range rfl (stg (Zp fn33 rfl (most_any (n0 := n0) (Zy hn0 hb27) (((((Sl.gSmall Zac (((Sl.gSmall Zac (hS3.g0 k8) k9 hB5 (by decide)).g0 k10).g0 k11) k12 hB7 (by decide)).g0 k17).g0 k31).g0 k32).g0 k33) can8 (by have := len8; omega)) ?_)))))))
  rintro v19 w34 ⟨hq11, hv9⟩
  rw [show (Zjp Q8) = 9 from most8] at hv9
  subst hv9
  have k34 := Zi hq11 none
  have hz21 := hq11.size
  have hb28 := Zf hb27 k34
  have hz22 := hb28.size
  refine stg (Zbr rfl rfl ?_)
  rw [show decide ((9 : Int) = 9) = true from rfl]
  refine st (Zo rfl rfl (st (Zc rfl (stg (Zm Zdy rfl (stg (Zs Zcu rfl (((((hB8.g0 k17).g0 k31).g0 k32).g0 k33).g0 k34).range (j := 0) rfl (stg (Zar Za7 rfl ((((((Sl.gSmall Zac (hS4.g0 k11) k12 hB7 (by decide)).g0 k17).g0 k31).g0 k32).g0 k33).g0 k34) ?_)))))))))
  rw [show ((([] : List Nd).length : Nat) : Int) = 0 from rfl]
  refine stg (Zbr rfl rfl ?_)
  rw [show decide ((0 : Int) = 0) = true from rfl]
  refine st (Zo rfl rfl (st (Zc rfl (stg (Zbo (ps := []) (ccs := []) (cells := [.slice none 0 0]) rfl rfl (by kernel_rfl) (stg (Zu Zaf rfl ((((((((((((hB3.gne k6 (by omega)).g0 k7).g0 k8).gne k9 (by omega)).g0 k10).g0 k11).gne k12 (by omega)).g0 k17).g0 k31).g0 k32).g0 k33).g0 k34).range rfl (stg (Zu Zaf rfl (((((((((((hB4.g0 k7).g0 k8).gne k9 (by omega)).g0 k10).g0 k11).gne k12 (by omega)).g0 k17).g0 k31).g0 k32).g0 k33).g0 k34).range rfl ?_)))))))))
  refine stg (Zp fn30 rfl (Zef (x := (5 : Int)) (y := (-7 : Int)) (n0 := n0) (Zy hn0 hb28) ((Sl.nil0 (K := Kd.node) (F := fun _ => False)).at0 hb28) Ze0 (by decide) ((((((((((((((((hS1.gg0 k2).gg0 k3).gg0 k4).ggB k5 (hB1.g0 k4) (by decide) (by omega)).ggB k6 (hB2.gne k5 (by omega)) (by decide) (by omega)).gg0 k7).gg0 k8).ggB k9 hB5 (by decide) (by omega)).gg0 k10).gg0 k11).ggB k12 hB7 (by decide) (by omega)).gg0 k17).gg0 k31).gg0 k32).gg0 k33).gg0 k34) (((((((((((((((hS2.gg0 k3).gg0 k4).ggB k5 (hB1.g0 k4) (by decide) (by omega)).ggB k6 (hB2.gne k5 (by omega)) (by decide) (by omega)).gg0 k7).gg0 k8).ggB k9 hB5 (by decide) (by omega)).gg0 k10).gg0 k11).ggB k12 hB7 (by decide) (by omega)).gg0 k17).gg0 k31).gg0 k32).gg0 k33).gg0 k34) (Bd.le (Zdq (by omega)) (show 2 ≤ 50 by decide)) (Bd.le (Zdq (by omega)) (show 2 ≤ 50 by decide))) ?_)
  rintro v20 w35 ⟨hq12, hv10⟩
  rw [show (Zbg ([] : List Nd) (5 : Int) (-7 : Int)) = 0 from get8c] at hv10
  subst hv10
  have k35 := Zi hq12 none
  have hz23 := hq12.size
  have hb29 := Zf hb28 k35
  have hz24 := hb29.size
  refine stg (Zbr rfl rfl ?_)
  rw [show decide ((0 : Int) = 0) = true from rfl]
  refine st (Zo rfl rfl (st (Zc rfl (stg (Zu Za8 rfl (((((((((hB6.g0 k10).g0 k11).gne k12 (by omega)).g0 k17).g0 k31).g0 k32).g0 k33).g0 k34).g0 k35).range rfl (stg (Zp fn35 rfl (Nd.rright_any (((((((Sl.gSmall Zac (((Sl.gSmall Zac (hS3.g0 k8) k9 hB5 (by decide)).g0 k10).g0 k11) k12 hB7 (by decide)).g0 k17).g0 k31).g0 k32).g0 k33).g0 k34).g0 k35) (by have := len8; omega)) ?_)))))))
  rintro v21 w36 ⟨hq13, hv11⟩
  rw [show (Zfm Q8) = true from right8] at hv11
  subst hv11
  have k36 := Zi hq13 none
  have hz25 := hq13.size
  have hb30 := Zf hb29 k36
  have hz26 := hb30.size
  refine st (Zo rfl rfl (st (Ze rfl (Zg (Zd (Zx rfl rfl ?_))))))
  exact ⟨_, rfl, hb30, rfl⟩
end Go.Proofs.Ytfljelnfjbbknaa.Lm
namespace Go.Gw
open Go.RowKit
theorem great_in {l : List RCl} {m : Int} (h : Zfy l m = false) {c : RCl} (hc : c ∈ l) (hx : Lim c.xs) (hy : Lim c.ys) : Bd 50 (Zr c).x ∧ Bd 50 (Zr c).y := by
  unfold Zfy at h
  rw [Bool.or_eq_false_iff] at h
  have hg := List.any_eq_false.1 h.2 c hc
  unfold Zh2 at hg
  simp at hg
  exact ⟨sg_bd hx (by omega) _, sg_bd hy (by omega) _⟩
end Go.Gw
namespace Go.Proofs.Ytfljelnfjbbknaa.Lm
open Go.RowKit Go.Gw
end Go.Proofs.Ytfljelnfjbbknaa.Lm
namespace Go.Proofs.Ytfljelnfjbbknaa.Lm
open Go.RowKit Go.Gw
end Go.Proofs.Ytfljelnfjbbknaa.Lm
namespace Go.Gw
open Go.RowKit
theorem set_len {q : List Nd} (h : Can q) {x y s : Int} (hs : 0 ≤ s ∧ s ≤ 255) : (Zba q x y s).1.length ≤ q.length + 9304 := by
  unfold Zba
  split
  · split <;> simp
  · rename_i hn
    obtain ⟨⟨a, b⟩, c⟩ := Zhu h x y
    have P := (putQ_sem h hs (show Zaq q ≤ Zd5 q x y by omega) (by omega) (by omega) (c (by omega))).2.2.2
    have := ofL_len (putQ q x y s (Zd5 q x y)).1 (putQ q x y s (Zd5 q x y)).2
    omega
theorem one_back {q : List Nd} (h : Can q) {x y s : Int} (hs : 0 ≤ s ∧ s ≤ 255) (h0 : (Zba q x y s).2 = 0) : Zba (Zba q x y s).1 x y (Zbg q x y) = (q, 0) := by
  obtain ⟨hp, hc⟩ := Zlb h hs h0
  have hr := Zds h x y
  have h2 : (Zba (Zba q x y s).1 x y (Zbg q x y)).2 = 0 := by
    refine Classical.byContradiction fun e => ?_
    obtain ⟨_, hz, ho⟩ := set_no hp hr e
    obtain ⟨⟨a, b⟩, c⟩ := Zhu h x y
    by_cases hl : 1329 < Zd5 q x y
    · exact hz (out_cel h hl)
    · have hi := c (by omega)
      have hm : inC ⟨x, y, 0⟩ 1329 = true := inC_mono (v := Zd5 q x y) (by omega) (by omega) hi
      exact absurd (set_fits hp (x := x) (y := y) hr hm) e
  obtain ⟨hb, hd⟩ := Zlb hp hr h2
  refine Prod.ext (can_eq hb h fun X Y => ?_) h2
  rw [hd, hc]
  split
  · rename_i e; rw [e.1, e.2]
  · rfl
end Go.Gw
