/- Part of the proof: a library for walks, plain laws, and functions' walks. -/
import Derived.Test.YtfljelnfjbbknaaM10
set_option maxRecDepth 20000
set_option linter.unusedSimpArgs false
set_option linter.unusedVariables false
namespace Go.Proofs.Ytfljelnfjbbknaa.Lm
open Go.RowKit Go.Gw
set_option maxHeartbeats 1000000 in
theorem all_any {w : World} {F : Nat → Prop} {va : Value} {l : List RCl} {n0 : Nat} (hn0 : n0 ≤ w.heap.size) (hl : Sl (Kd.rcell 83 n0) w F va l) :
    Calls Try.prog 9 [va].toArray w (Zbh w fun v _ => v = .bool true) := by
  have hb0 := Below.refl w.heap.size w
  have hln1 := hl.lenle
  refine enter Try.func9 rfl rfl (Zh (Zb (st (Ze rfl (Zg (Zd (Zh ?_)))))))
  refine Zh (Zb (st (Zp fn25 rfl (alive8_any (n0 := n0) (Zz hn0 hb0)) ?_)))
  rintro _ w1 ⟨hq1, rfl⟩
  have k1 := Zi hq1 none
  have hz1 := hq1.size
  have hb1 := Zf hb0 k1
  have hz2 := hb1.size
  refine st (Zdr rfl (Zg (Zd (Zbn rfl (Zm (Zd (Zh ?_)))))))
  refine Zb (st (Zc rfl (st (Zp fn18 rfl (quad_any (m := 20) (n0 := n0) (Zz hn0 hb1) (hl.at0 hb1) (by omega)) ?_))))
  rintro _ w2 ⟨hq2, sv1, rfl, hS1⟩
  have hS2 := hS1.loc
  have k2 := Zi hq2 none
  have hz3 := hq2.size
  have hb2 := Zf hb1 k2
  have hz4 := hb2.size
  refine st (Zc rfl (st (Zae rfl rfl (st (Zae rfl rfl (st (Zar Ze0 ?_)))))))
  intro g1 w3 hg1 hB1 k3 hs1
  have hz5 := hb2.size
  have hb3 := Zf hb2 k3
  refine st0 (Zab Za9 rfl rfl hB1 (by simp only [List.all_cons, List.all_nil, hS2.one, Bool.and_true, Bool.and_self] <;> rfl) rfl rfl ?_)
  intro w4 hB2 k4 hs2
  have hb4 := Zt hb3 k4 (by first | omega | (have h9 := (hb3).size; omega))
  refine st (Ze rfl (Zg (Zd (Zh (Zh (Zb (st (Zc rfl ?_))))))))
  refine st (Zdr rfl (Zg (Zd ?_)))
  refine Za8 rfl (fun h1 => ?_) (fun h1 => ?_)
  · refine Zh (Zb (st (Ze rfl (Zg (Zd (Zy rfl rfl ?_))))))
    exact ⟨_, rfl, hb4, rfl⟩
  have hq := quad_ok (m := 20) hl (by simpa using h1)
  have hlc := Zl2 hl hq.all
  have hL := hq.lst
  refine Zm (Zd (Zh (Zb (st (Zc rfl (st (Zp fn19 rfl (last_any (n0 := n0) (Zz hn0 hb4) (hlc.at0 hb4) hq.cb (by have := hq.len; simp; omega)) ?_)))))))
  rintro v1 w5 ⟨hq3, hO1⟩
  have k5 := Zi hq3 none
  have hz6 := hq3.size
  have hb5 := Zf hb4 k5
  have hz7 := hb5.size
  have hO2 := hO1.rebase (b' := w.heap.size) hb4.size
  have hcs := cbd_lastL hq.cb
  have hls := Zll (l.map Zba)
  rw [List.length_map] at hls
  have hqn := hq.len
  refine st (Ze rfl (Zg (Zd (Zh (Zb ?_)))))
  have hlt_1 := ((hB2.g0 k5)).lt
  refine st (Zar Ze0 ?_)
  intro g2 w6 hg2 hB3 k6 hs3
  have hz8 := hb5.size
  have hb6 := Zf hb5 k6
  have hO3 := hO2.g0 k6
  refine Zg (Zd (Zh (Zh (Zb (st (Ze rfl (Zg ?_)))))))
  refine Zd (Zw ?_)
  refine Za2 (α := Int × Value) (fun ((i, sv_) : Int × Value) => [(3, .pointer (some ⟨g1, 0, none⟩)), (5, v1), (6, .pointer (some ⟨g2, 0, none⟩)), (7, .int .i64 i)]) (fun ((i, sv_) : Int × Value) W => Below w.heap.size w W ∧ (0 ≤ i ∧ i ≤ (Zak (l.map Zba)).length) ∧ (Blk W g1 25 [sv1].toArray) ∧ (Sl Kd.node W (fun _ => False) sv1 ((Zc1 l 20).1)) ∧ (Blk W g2 25 [sv_].toArray) ∧ (Sl Kd.node W (fun _ => False) sv_ (qOf ((Zak (l.map Zba)).take (i).toNat))) ∧ (Gw.Own (Kd.cell 83 n0) 47 w.heap.size W (fun _ => False) v1 (Zak (l.map Zba)))) (fun ((i, sv_) : Int × Value) => ((Zak (l.map Zba)).length - i).toNat) ((0), (.slice none 0 0)) ⟨hb6, by omega, ((hB2.g0 k5).g0 k6), ((((Sl.gSmall Zad (hS2.g0 k3) k4 hB1 (show 1 < 5 by decide)).g0 k5).g0 k6)).none, hB3, (by rw [show (qOf ((Zak (l.map Zba)).take (0 : Int).toNat)) = [] from qOf_nil]; exact Sl.nil0), hO3⟩ (by exact ⟨rfl, rfl, rfl, rfl, trivial⟩) ?_
  rintro ⟨i, sv_⟩ w7 ⟨hb7, hi, hwi, hwsi, hpi, hpsi, hOi⟩
  dsimp only at *
  have hz9 := hb7.size
  have hwil := hwi.lt
  have hpil := hpi.lt
  refine Zh (Zh (Zb (st (Zc rfl (st (Zc rfl (st (Zap Zb4 rfl hOi.sl.loc (st (Zbb rfl rfl ?_))))))))))
  refine Zg (Zd ?_)
  refine Zv rfl (fun h2 => ?_) (fun h2 => ?_)
  · have hlt := h2
    have hset := hL.put hi.1 hlt
    refine Zm (Zd (Zh (Zw (Zh ?_))))
    obtain ⟨b1, o1, _, hat1, ⟨ca1, cb1, rfl, hca1, hcb1, hcs1⟩, hc1, hF1, hlt1⟩ := hOi.sl.loc.elem i (by omega) (by omega)
    replace hca1 := hca1.ofGF
    replace hcb1 := hcb1.ofGF
    obtain ⟨b2, o2, _, hat2, ⟨ca2, cb2, rfl, hca2, hcb2, hcs2⟩, hc2, hF2, hlt2⟩ := hOi.sl.loc.elem i (by omega) (by omega)
    replace hca2 := hca2.ofGF
    replace hcb2 := hcb2.ofGF
    obtain ⟨b3, o3, _, hat3, ⟨ca3, cb3, rfl, hca3, hcb3, hcs3⟩, hc3, hF3, hlt3⟩ := hOi.sl.loc.elem i (by omega) (by omega)
    replace hca3 := hca3.ofGF
    replace hcb3 := hcb3.ofGF
    refine Zj0 (dd := 20) (td := 8) (cs := [false, false, false, false, false, false, false, false, false, false, false, false, false, false, false, false, false, false, false, false, false, true]) (ψ := PtrG w7.heap.size 25 1 (Zgp (qOf ((Zak (l.map Zba)).take (i + 1).toNat)))) 22 (Rg w7.heap.size 25 1 (Zgp (qOf ((Zak (l.map Zba)).take (i + 1).toNat)))) [(some 31, Is <| .agg [sv_].toArray), (some 32, Is <| v1), (some 33, Is <| .int .i64 i), (some 34, Is <| .pointer (some ⟨b1, o1, none⟩)), (some 35, Is <| .pointer (some ⟨b1, o1 + 0, none⟩)), (some 36, Is <| .agg [.bool (decide ((ix (Zak (l.map Zba)) i).x < 0)), ca1].toArray), (some 37, Is <| v1), (some 38, Is <| .int .i64 i), (some 39, Is <| .pointer (some ⟨b2, o2, none⟩)), (some 40, Is <| .pointer (some ⟨b2, o2 + 2, none⟩)), (some 41, Is <| .agg [.bool (decide ((ix (Zak (l.map Zba)) i).y < 0)), cb2].toArray), (some 42, Is <| v1), (some 43, Is <| .int .i64 i), (some 44, Is <| .pointer (some ⟨b3, o3, none⟩)), (some 45, Is <| .pointer (some ⟨b3, o3 + 4, none⟩)), (some 46, Is <| .int .u8 ((ix (Zak (l.map Zba)) i).st)), (some 47, fun v W => ∃ sv2 : Value, v = .tuple #[.agg [sv2].toArray, .int .i64 0] ∧ Sl Kd.node W (fun _ => False) sv2 (qOf ((Zak (l.map Zba)).take (i + 1).toNat))), (some 30, fun v W => ∃ sv2 : Value, v = .tuple #[.agg [sv2].toArray, .int .i64 0] ∧ Sl Kd.node W (fun _ => False) sv2 (qOf ((Zak (l.map Zba)).take (i + 1).toNat))), (some 48, fun v W => ∃ sv2 : Value, v = .agg [sv2].toArray ∧ Sl Kd.node W (fun _ => False) sv2 (qOf ((Zak (l.map Zba)).take (i + 1).toNat))), (some 49, Is <| .int .i64 0), (some 8, Zgr w7.heap.size 25 1), (none, fun _ _ => True)] [[], [], [], [1, 2], [3], [4], [], [], [6, 7], [8], [9], [], [], [11, 12], [13], [14], [0, 5, 10, 15], [16], [17], [17], [], [20, 18]] [false, false, false, false, false, false, false, false, false, false, false, false, false, false, false, false, false, false, false, false, false, false] [(3, .pointer (some ⟨g1, 0, none⟩)), (5, v1), (6, .pointer (some ⟨g2, 0, none⟩)), (7, .int .i64 i)] (by exact ⟨rfl, rfl, rfl, rfl, trivial⟩) (by kernel_rfl) (by kernel_rfl) Rg.refl (Rg.trans Zjh) ⟨fun _ _ _ h _ => h, fun _ _ _ h _ => h, fun _ _ _ h _ => h, fun _ _ _ h _ => h, fun _ _ _ h _ => h, fun _ _ _ h _ => h, fun _ _ _ h _ => h, fun _ _ _ h _ => h, fun _ _ _ h _ => h, fun _ _ _ h _ => h, fun _ _ _ h _ => h, fun _ _ _ h _ => h, fun _ _ _ h _ => h, fun _ _ _ h _ => h, fun _ _ _ h _ => h, fun _ _ _ h _ => h, fun _ _ _ h k => by obtain ⟨sv2, e, h0⟩ := h; exact ⟨sv2, e, k.nodes h0⟩, fun _ _ _ h k => by obtain ⟨sv2, e, h0⟩ := h; exact ⟨sv2, e, k.nodes h0⟩, fun _ _ _ h k => by obtain ⟨sv2, e, h0⟩ := h; exact ⟨sv2, e, k.nodes h0⟩, fun _ _ _ h _ => h, Zgr.stG, fun _ _ _ h _ => h, trivial⟩ ⟨(fun h => by cases h), (fun h => by cases h), (fun h => by cases h), (fun h => by cases h), (fun h => by cases h), (fun h => by cases h), (fun h => by cases h), (fun h => by cases h), (fun h => by cases h), (fun h => by cases h), (fun h => by cases h), (fun h => by cases h), (fun h => by cases h), (fun h => by cases h), (fun h => by cases h), (fun h => by cases h), (fun h => by cases h), (fun h => by cases h), (fun h => by cases h), (fun h => by cases h), (fun h => by cases h), (fun h => by cases h), trivial⟩ rfl (fun i h _ => by rcases i with _ | _ | _ | _ | _ | _ | _ | _ | _ | _ | _ | _ | _ | _ | _ | _ | _ | _ | _ | _ | _ | _ | i <;> simp at h ⊢) (PtrG.st Zjh) ⟨21, rfl, by decide⟩ ?_
    intro w11 k10 hs6
    have hb8 := Zf hb7 k10
    have hO4 := hOi.g0 k10
    refine ⟨⟨?_, ?_, ?_, ?_, ?_, ?_, ?_, ?_, ?_, ?_, ?_, ?_, ?_, ?_, ?_, ?_, ?_, ?_, ?_, ?_, ?_, ?_, trivial⟩, ?_⟩
    · intro w12 k11r
      have k11 := Rg.grown k11r (by omega)
      refine op1 (Zu Za9 rfl ((hpi.g0 k10).g0 k11).range rfl ?_)
      exact ⟨rfl, Rg.refl _, (fun h => by cases h), (fun h => by cases h)⟩
    · intro w13 k12r
      have k12 := Rg.grown k12r (by omega)
      refine op1 (Zc rfl ?_)
      exact ⟨rfl, Rg.refl _, (fun h => by cases h), (fun h => by cases h)⟩
    · intro w14 k13r
      have k13 := Rg.grown k13r (by omega)
      refine op1 (Zc rfl ?_)
      exact ⟨rfl, Rg.refl _, (fun h => by cases h), (fun h => by cases h)⟩
    · intro w15 k14r
      have k14 := Rg.grown k14r (by omega)
      intro v_ hv_; subst v_
      rintro _ rfl
      refine op1 (Zbd Zb4 rfl rfl hat1 ?_)
      exact ⟨rfl, Rg.refl _, (fun h => by cases h), (fun h => by cases h)⟩
    · intro w16 k15r
      have k15 := Rg.grown k15r (by omega)
      rintro _ rfl
      refine op1 (Zn Zdl rfl ?_)
      exact ⟨rfl, Rg.refl _, (fun h => by cases h), (fun h => by cases h)⟩
    · intro w17 k16r
      have k16 := Rg.grown k16r (by omega)
      rintro _ rfl
      refine op1 (Zbl (us := [.bool (decide ((ix (Zak (l.map Zba)) i).x < 0)), ca1]) Zah rfl (Zaf (Zaf hc1 k10) k16) (j := 0) rfl rfl ?_)
      exact ⟨rfl, Rg.refl _, (fun h => by cases h), (fun h => by cases h)⟩
    · intro w18 k17r
      have k17 := Rg.grown k17r (by omega)
      refine op1 (Zc rfl ?_)
      exact ⟨rfl, Rg.refl _, (fun h => by cases h), (fun h => by cases h)⟩
    · intro w19 k18r
      have k18 := Rg.grown k18r (by omega)
      refine op1 (Zc rfl ?_)
      exact ⟨rfl, Rg.refl _, (fun h => by cases h), (fun h => by cases h)⟩
    · intro w20 k19r
      have k19 := Rg.grown k19r (by omega)
      intro v_ hv_; subst v_
      rintro _ rfl
      refine op1 (Zbd Zb4 rfl rfl hat2 ?_)
      exact ⟨rfl, Rg.refl _, (fun h => by cases h), (fun h => by cases h)⟩
    · intro w21 k20r
      have k20 := Rg.grown k20r (by omega)
      rintro _ rfl
      refine op1 (Zn Ze1 rfl ?_)
      exact ⟨rfl, Rg.refl _, (fun h => by cases h), (fun h => by cases h)⟩
    · intro w22 k21r
      have k21 := Rg.grown k21r (by omega)
      rintro _ rfl
      refine op1 (Zbl (us := [.bool (decide ((ix (Zak (l.map Zba)) i).y < 0)), cb2]) Zah rfl (Zaf (Zaf hc2 k10) k21) (j := 2) rfl rfl ?_)
      exact ⟨rfl, Rg.refl _, (fun h => by cases h), (fun h => by cases h)⟩
    · intro w23 k22r
      have k22 := Rg.grown k22r (by omega)
      refine op1 (Zc rfl ?_)
      exact ⟨rfl, Rg.refl _, (fun h => by cases h), (fun h => by cases h)⟩
    · intro w24 k23r
      have k23 := Rg.grown k23r (by omega)
      refine op1 (Zc rfl ?_)
      exact ⟨rfl, Rg.refl _, (fun h => by cases h), (fun h => by cases h)⟩
    · intro w25 k24r
      have k24 := Rg.grown k24r (by omega)
      intro v_ hv_; subst v_
      rintro _ rfl
      refine op1 (Zbd Zb4 rfl rfl hat3 ?_)
      exact ⟨rfl, Rg.refl _, (fun h => by cases h), (fun h => by cases h)⟩
    · intro w26 k25r
      have k25 := Rg.grown k25r (by omega)
      rintro _ rfl
      refine op1 (Zn fld47_2 rfl ?_)
      exact ⟨rfl, Rg.refl _, (fun h => by cases h), (fun h => by cases h)⟩
    · intro w27 k26r
      have k26 := Rg.grown k26r (by omega)
      rintro _ rfl
      refine op1 (Zs one5 rfl (Zaf (Zaf hc3 k10) k26) (j := 4) rfl ?_)
      exact ⟨rfl, Rg.refl _, (fun h => by cases h), (fun h => by cases h)⟩
    · intro w28 k27r
      have k27 := Rg.grown k27r (by omega)
      have hb25 := Zf hb8 k27
      rintro _ rfl _ rfl _ rfl _ rfl
      refine op1 (Zp fn28 rfl (Zke (x := (ix (Zak (l.map Zba)) i).x) (y := (ix (Zak (l.map Zba)) i).y) (s := (ix (Zak (l.map Zba)) i).st) (n0 := n0) (Zz hn0 hb25) ((hpsi.g0 k10).g0 k27) (hL.sub (List.take_sublist _ _)).1 (by have := Zi9 (List.take_sublist (i).toNat (Zak (l.map Zba))); have := hls; have := hqn; omega) ((hca1.gg0 k10).gg0 k27) ((hcb2.gg0 k10).gg0 k27) (Bd.le (Zcp hcs (by omega) (by omega)).1 (show 50 ≤ 50 by decide)) (Bd.le (Zcp hcs (by omega) (by omega)).2 (show 50 ≤ 50 by decide)) (by first | omega | decide)) ?_)
      rintro v_ w29 ⟨hq5, sv3, hv2, hS4⟩
      rw [hset] at hv2 hS4
      subst hv2
      dsimp only at hS4
      have k28 := Zi hq5 none
      have hz10 := hq5.size
      have hb26 := Zf hb25 k28
      have hz11 := hb26.size
      exact ⟨⟨_, rfl, hS4⟩, Rg.of (k28), (fun h => by cases h), (fun h => by cases h)⟩
    · intro w30 k29r
      have k29 := Rg.grown k29r (by omega)
      rintro _ ⟨v2, rfl, hS5⟩
      refine op1 (Zc rfl ?_)
      exact ⟨⟨_, rfl, hS5⟩, Rg.refl _, (fun h => by cases h), (fun h => by cases h)⟩
    · intro w31 k30r
      have k30 := Rg.grown k30r (by omega)
      rintro _ ⟨v3, rfl, hS6⟩
      refine op1 (Zae rfl rfl ?_)
      exact ⟨⟨_, rfl, hS6⟩, Rg.refl _, (fun h => by cases h), (fun h => by cases h)⟩
    · intro w32 k31r
      have k31 := Rg.grown k31r (by omega)
      rintro _ ⟨v4, rfl, hS7⟩
      refine op1 (Zae rfl rfl ?_)
      exact ⟨rfl, Rg.refl _, (fun h => by cases h), (fun h => by cases h)⟩
    · intro w33 k32r
      have k32 := Rg.grown k32r (by omega)
      refine op1 (Zar Ze0 ?_)
      intro g4 w34 hg4 hB6 k33 hs7
      have hz_ := k32.size
      exact ⟨⟨g4, rfl, by omega, _, rfl, hB6⟩, Rg.of k33, (fun h => by cases h), (fun h => by cases h)⟩
    · intro w35 k34r
      have k34 := Rg.grown k34r (by omega)
      rintro _ ⟨g5, rfl, hg5, hB7, hc4, hB8⟩ _ ⟨v5, rfl, hS8⟩
      refine op1 (Zab Za9 rfl rfl hB8 (by simp only [List.all_cons, List.all_nil, (hS8).none.one, Bool.and_true, Bool.and_self] <;> rfl) rfl hc4 ?_)
      intro w36 hB9 k35 hs8
      have hT1 : Zgp (qOf ((Zak (l.map Zba)).take (i + 1).toNat)) _ [v5].toArray := ⟨v5, rfl, Zle ⟨_, hc4, hB8⟩ k35 (hS8).none⟩
      exact ⟨trivial, Rg.sto ⟨_, hc4, hB8⟩ hB9 rfl hT1 k35 hg5, (fun h => by cases h), fun _ => ⟨_, rfl, _, rfl, hg5, _, hB9, rfl, hT1⟩⟩
    intro w37 k36r
    have k36 := Rg.grown k36r (by omega)
    have hb32 := Zf hb8 k36
    have hO28 := hO4.g0 k36
    rintro _ rfl
    intro v_ hv_; subst v_
    rintro _ rfl _ rfl _ rfl _ rfl
    intro v_ hv_; subst v_
    rintro _ rfl _ rfl _ rfl _ rfl
    intro v_ hv_; subst v_
    rintro _ rfl _ rfl _ rfl _ rfl _ ⟨v6, rfl, hS9⟩ _ ⟨v7, rfl, hS10⟩ _ ⟨v8, rfl, hS11⟩ _ rfl _ ⟨g6, rfl, hg6, hB10, hc5, hB11⟩ hp1
    obtain ⟨_, he1, _, _, hB12, _, v9, rfl, hS12⟩ := hp1 _ rfl
    cases he1
    have hlt_4 := hB12.lt
    refine st (Ze rfl (Zg (Zd (Zh (Zh (Zb (st (Zc rfl ?_))))))))
    refine st (s_ne rfl rfl ?_)
    rw [show decide ((0 : Int) ≠ 0) = false from rfl]
    refine st (Zc rfl (stg (Zu Za9 rfl hB12.range rfl (stg (Zp fn35 rfl (Nd.rright_any hS12 (by have := Zi9 (List.take_sublist (i + 1).toNat (Zak (l.map Zba))); have := hls; have := hqn; omega)) ?_)))))
    rintro v10 w38 ⟨hq6, hv3⟩
    rw [show (Zes (qOf ((Zak (l.map Zba)).take (i + 1).toNat))) = true from ((hL.sub (List.take_sublist _ _)).1).right] at hv3
    subst hv3
    have k37 := Zi hq6 none
    have hz12 := hq6.size
    have hb33 := Zf hb32 k37
    have hz13 := hb33.size
    have hO29 := hO28.g0 k37
    refine stg (Zdr rfl (st (Zq rfl rfl (Zg (Zd (Zbn rfl (Zm (Zd ?_))))))))
    refine Zb (st (Zu Za9 rfl (hB12.g0 k37).range rfl (st0 (Zab Za9 rfl rfl (((hpi.g0 k10).g0 k36).g0 k37) (by simp only [List.all_cons, List.all_nil, hS12.one, Bool.and_true, Bool.and_self] <;> rfl) rfl rfl ?_))))
    intro w39 hB13 k38 hs9
    have hb34 := Zt hb33 k38 (by first | omega | (have h9 := (hb33).size; omega))
    have hO30 := Own.keptG (Zfb 83 n0) hO29 k38 (Blk.isG (((hpi.g0 k10).g0 k36).g0 k37) (by decide) (by omega)) (hO29.neB (((hpi.g0 k10).g0 k36).g0 k37) (by decide))
    refine Zg (Zx (Zd (Zb (st (Zc rfl (st (Zai rfl rfl (by omega) (st (Ze rfl ?_)))))))))
    refine Zg ?_
    exact Zaa (((i + 1)), (v9)) ⟨hb34, by omega, ((((hwi.g0 k10).g0 k36).g0 k37).gne k38 (by omega)), ((Sl.gSmall Zad (((hwsi.g0 k10).g0 k36).g0 k37) k38 (((hpi.g0 k10).g0 k36).g0 k37) (show 1 < 5 by decide))).none, hB13, ((Sl.gSmall Zad (hS12.g0 k37) k38 (((hpi.g0 k10).g0 k36).g0 k37) (show 1 < 5 by decide))).none, hO30⟩ (by dsimp only; omega) (by exact ⟨rfl, rfl, rfl, rfl, trivial⟩)
  have hei : i = ((Zak (l.map Zba)).length : Int) := by omega
  refine Zam (Zk (Zk (Zr (Zd (Zh (Zh ?_))))))
  refine Zb (st (Zu Za9 rfl hpi.range rfl (st (Zu Za9 rfl hwi.range rfl (st (Zp fn32 rfl (Nd.rsame_any (hpsi).none (hwsi).none) ?_))))))
  rintro v11 w40 ⟨hq7, hv4⟩
  rw [show (Nd.eqv (qOf ((Zak (l.map Zba)).take (i).toNat)) ((Zc1 l 20).1)) = true from (by rw [List.take_of_length_le (by omega), hq.qOf]; exact eqv_self _)] at hv4
  subst hv4
  have k39 := Zi hq7 none
  have hz14 := hq7.size
  have hb35 := Zf hb7 k39
  have hz15 := hb35.size
  have hO31 := hOi.g0 k39
  refine st (Zdr rfl (Zg (Zd (Zbn rfl (Zm (Zd (Zh ?_)))))))
  refine Zh (Zb (st (Ze rfl (Zg (Zd (Zw ?_))))))
  refine Za2 (α := Int × Value) (fun ((j, tv_) : Int × Value) => [(5, v1), (6, .pointer (some ⟨g2, 0, none⟩)), (10, .int .i64 j)]) (fun ((j, tv_) : Int × Value) W => Below w.heap.size w W ∧ (0 ≤ j ∧ j ≤ (Zak (l.map Zba)).length) ∧ (Blk W g1 25 [sv1].toArray) ∧ (Sl Kd.node W (fun _ => False) sv1 ((Zc1 l 20).1)) ∧ (Blk W g2 25 [tv_].toArray) ∧ (Sl Kd.node W (fun _ => False) tv_ (qOf ((Zak (l.map Zba)).drop (j).toNat))) ∧ (Gw.Own (Kd.cell 83 n0) 47 w.heap.size W (fun _ => False) v1 (Zak (l.map Zba)))) (fun ((j, tv_) : Int × Value) => ((Zak (l.map Zba)).length - j).toNat) ((0), (sv_)) ⟨hb35, by omega, (hwi.g0 k39), ((hwsi.g0 k39)).none, (hpi.g0 k39), (by have h_ := ((hpsi.g0 k39)).none; rw [show (qOf ((Zak (l.map Zba)).take (i).toNat)) = (qOf ((Zak (l.map Zba)).drop (0 : Int).toNat)) from by rw [List.take_of_length_le (by omega)]; rfl] at h_; exact h_), hO31⟩ (by exact ⟨rfl, rfl, rfl, trivial⟩) ?_
  rintro ⟨j, tv_⟩ w41 ⟨hb36, hj, hwj, hwsj, hpj, hpsj, hOj⟩
  dsimp only at *
  have hz16 := hb36.size
  have hwjl := hwj.lt
  have hpjl := hpj.lt
  refine Zh (Zh (Zb (st (Zc rfl (st (Zc rfl (st (Zap Zb4 rfl hOj.sl.loc (st (Zbb rfl rfl ?_))))))))))
  refine Zg (Zd ?_)
  refine Zv rfl (fun h3 => ?_) (fun h3 => ?_)
  rotate_left
  · have hej : j = ((Zak (l.map Zba)).length : Int) := by omega
    refine Zam (Zk (Zk (Zr (Zd (Zh (Zb ?_))))))
    refine st (Zn Zdt rfl (st (Zs Zcq rfl hpj.range (j := 0) rfl (st (Zap Za5 rfl hpsj (st (Zbx rfl rfl (st (Ze rfl (Zg (Zd ?_)))))))))))
    refine Zy rfl rfl ?_
    exact ⟨_, rfl, hb36, congrArg Value.bool (decide_eq_true (by rw [List.drop_of_length_le (by omega), qOf_nil]; rfl))⟩
  have hlt := h3
  have hset := hL.take hj.1 hlt
  refine Zm (Zd (Zh (Zw (Zh ?_))))
  obtain ⟨b4, o4, _, hat4, ⟨ca4, cb4, rfl, hca4, hcb4, hcs4⟩, hc6, hF4, hlt4⟩ := hOj.sl.loc.elem j (by omega) (by omega)
  replace hca4 := hca4.ofGF
  replace hcb4 := hcb4.ofGF
  obtain ⟨b5, o5, _, hat5, ⟨ca5, cb5, rfl, hca5, hcb5, hcs5⟩, hc7, hF5, hlt5⟩ := hOj.sl.loc.elem j (by omega) (by omega)
  replace hca5 := hca5.ofGF
  replace hcb5 := hcb5.ofGF
  refine Zj0 (dd := 15) (td := 11) (cs := [false, false, false, false, false, false, false, false, false, false, false, false, false, false, false, false, true]) (ψ := PtrG w41.heap.size 25 1 (Zgp (qOf ((Zak (l.map Zba)).drop (j + 1).toNat)))) 17 (Rg w41.heap.size 25 1 (Zgp (qOf ((Zak (l.map Zba)).drop (j + 1).toNat)))) [(some 69, Is <| .agg [tv_].toArray), (some 70, Is <| v1), (some 71, Is <| .int .i64 j), (some 72, Is <| .pointer (some ⟨b4, o4, none⟩)), (some 73, Is <| .pointer (some ⟨b4, o4 + 0, none⟩)), (some 74, Is <| .agg [.bool (decide ((ix (Zak (l.map Zba)) j).x < 0)), ca4].toArray), (some 75, Is <| v1), (some 76, Is <| .int .i64 j), (some 77, Is <| .pointer (some ⟨b5, o5, none⟩)), (some 78, Is <| .pointer (some ⟨b5, o5 + 2, none⟩)), (some 79, Is <| .agg [.bool (decide ((ix (Zak (l.map Zba)) j).y < 0)), cb5].toArray), (some 80, fun v W => ∃ sv4 : Value, v = .tuple #[.agg [sv4].toArray, .int .i64 0] ∧ Sl Kd.node W (fun _ => False) sv4 (qOf ((Zak (l.map Zba)).drop (j + 1).toNat))), (some 68, fun v W => ∃ sv4 : Value, v = .tuple #[.agg [sv4].toArray, .int .i64 0] ∧ Sl Kd.node W (fun _ => False) sv4 (qOf ((Zak (l.map Zba)).drop (j + 1).toNat))), (some 81, fun v W => ∃ sv4 : Value, v = .agg [sv4].toArray ∧ Sl Kd.node W (fun _ => False) sv4 (qOf ((Zak (l.map Zba)).drop (j + 1).toNat))), (some 82, Is <| .int .i64 0), (some 11, Zgr w41.heap.size 25 1), (none, fun _ _ => True)] [[], [], [], [1, 2], [3], [4], [], [], [6, 7], [8], [9], [0, 5, 10], [11], [12], [12], [], [15, 13]] [false, false, false, false, false, false, false, false, false, false, false, false, false, false, false, false, false] [(5, v1), (6, .pointer (some ⟨g2, 0, none⟩)), (10, .int .i64 j)] (by exact ⟨rfl, rfl, rfl, trivial⟩) (by kernel_rfl) (by kernel_rfl) Rg.refl (Rg.trans Zjh) ⟨fun _ _ _ h _ => h, fun _ _ _ h _ => h, fun _ _ _ h _ => h, fun _ _ _ h _ => h, fun _ _ _ h _ => h, fun _ _ _ h _ => h, fun _ _ _ h _ => h, fun _ _ _ h _ => h, fun _ _ _ h _ => h, fun _ _ _ h _ => h, fun _ _ _ h _ => h, fun _ _ _ h k => by obtain ⟨sv4, e, h0⟩ := h; exact ⟨sv4, e, k.nodes h0⟩, fun _ _ _ h k => by obtain ⟨sv4, e, h0⟩ := h; exact ⟨sv4, e, k.nodes h0⟩, fun _ _ _ h k => by obtain ⟨sv4, e, h0⟩ := h; exact ⟨sv4, e, k.nodes h0⟩, fun _ _ _ h _ => h, Zgr.stG, fun _ _ _ h _ => h, trivial⟩ ⟨(fun h => by cases h), (fun h => by cases h), (fun h => by cases h), (fun h => by cases h), (fun h => by cases h), (fun h => by cases h), (fun h => by cases h), (fun h => by cases h), (fun h => by cases h), (fun h => by cases h), (fun h => by cases h), (fun h => by cases h), (fun h => by cases h), (fun h => by cases h), (fun h => by cases h), (fun h => by cases h), (fun h => by cases h), trivial⟩ rfl (fun i h _ => by rcases i with _ | _ | _ | _ | _ | _ | _ | _ | _ | _ | _ | _ | _ | _ | _ | _ | _ | i <;> simp at h ⊢) (PtrG.st Zjh) ⟨16, rfl, by decide⟩ ?_
  intro w45 k43 hs12
  have hb37 := Zf hb36 k43
  have hO32 := hOj.g0 k43
  refine ⟨⟨?_, ?_, ?_, ?_, ?_, ?_, ?_, ?_, ?_, ?_, ?_, ?_, ?_, ?_, ?_, ?_, ?_, trivial⟩, ?_⟩
  · intro w46 k44r
    have k44 := Rg.grown k44r (by omega)
    refine op1 (Zu Za9 rfl ((hpj.g0 k43).g0 k44).range rfl ?_)
    exact ⟨rfl, Rg.refl _, (fun h => by cases h), (fun h => by cases h)⟩
  · intro w47 k45r
    have k45 := Rg.grown k45r (by omega)
    refine op1 (Zc rfl ?_)
    exact ⟨rfl, Rg.refl _, (fun h => by cases h), (fun h => by cases h)⟩
  · intro w48 k46r
    have k46 := Rg.grown k46r (by omega)
    refine op1 (Zc rfl ?_)
    exact ⟨rfl, Rg.refl _, (fun h => by cases h), (fun h => by cases h)⟩
  · intro w49 k47r
    have k47 := Rg.grown k47r (by omega)
    intro v_ hv_; subst v_
    rintro _ rfl
    refine op1 (Zbd Zb4 rfl rfl hat4 ?_)
    exact ⟨rfl, Rg.refl _, (fun h => by cases h), (fun h => by cases h)⟩
  · intro w50 k48r
    have k48 := Rg.grown k48r (by omega)
    rintro _ rfl
    refine op1 (Zn Zdl rfl ?_)
    exact ⟨rfl, Rg.refl _, (fun h => by cases h), (fun h => by cases h)⟩
  · intro w51 k49r
    have k49 := Rg.grown k49r (by omega)
    rintro _ rfl
    refine op1 (Zbl (us := [.bool (decide ((ix (Zak (l.map Zba)) j).x < 0)), ca4]) Zah rfl (Zaf (Zaf hc6 k43) k49) (j := 0) rfl rfl ?_)
    exact ⟨rfl, Rg.refl _, (fun h => by cases h), (fun h => by cases h)⟩
  · intro w52 k50r
    have k50 := Rg.grown k50r (by omega)
    refine op1 (Zc rfl ?_)
    exact ⟨rfl, Rg.refl _, (fun h => by cases h), (fun h => by cases h)⟩
  · intro w53 k51r
    have k51 := Rg.grown k51r (by omega)
    refine op1 (Zc rfl ?_)
    exact ⟨rfl, Rg.refl _, (fun h => by cases h), (fun h => by cases h)⟩
  · intro w54 k52r
    have k52 := Rg.grown k52r (by omega)
    intro v_ hv_; subst v_
    rintro _ rfl
    refine op1 (Zbd Zb4 rfl rfl hat5 ?_)
    exact ⟨rfl, Rg.refl _, (fun h => by cases h), (fun h => by cases h)⟩
  · intro w55 k53r
    have k53 := Rg.grown k53r (by omega)
    rintro _ rfl
    refine op1 (Zn Ze1 rfl ?_)
    exact ⟨rfl, Rg.refl _, (fun h => by cases h), (fun h => by cases h)⟩
  · intro w56 k54r
    have k54 := Rg.grown k54r (by omega)
    rintro _ rfl
    refine op1 (Zbl (us := [.bool (decide ((ix (Zak (l.map Zba)) j).y < 0)), cb5]) Zah rfl (Zaf (Zaf hc7 k43) k54) (j := 2) rfl rfl ?_)
    exact ⟨rfl, Rg.refl _, (fun h => by cases h), (fun h => by cases h)⟩
  · intro w57 k55r
    have k55 := Rg.grown k55r (by omega)
    have hb49 := Zf hb37 k55
    rintro _ rfl _ rfl _ rfl
    refine op1 (Zp fn28 rfl (Zke (x := (ix (Zak (l.map Zba)) j).x) (y := (ix (Zak (l.map Zba)) j).y) (s := 0) (n0 := n0) (Zz hn0 hb49) ((hpsj.g0 k43).g0 k55) (hL.sub (List.drop_sublist _ _)).1 (by have := Zi9 (List.drop_sublist (j).toNat (Zak (l.map Zba))); have := hls; have := hqn; omega) ((hca4.gg0 k43).gg0 k55) ((hcb5.gg0 k43).gg0 k55) (Bd.le (Zcp hcs (by omega) (by omega)).1 (show 50 ≤ 50 by decide)) (Bd.le (Zcp hcs (by omega) (by omega)).2 (show 50 ≤ 50 by decide)) (by first | omega | decide)) ?_)
    rintro v_ w58 ⟨hq9, sv5, hv6, hS14⟩
    rw [hset] at hv6 hS14
    subst hv6
    dsimp only at hS14
    have k56 := Zi hq9 none
    have hz17 := hq9.size
    have hb50 := Zf hb49 k56
    have hz18 := hb50.size
    exact ⟨⟨_, rfl, hS14⟩, Rg.of (k56), (fun h => by cases h), (fun h => by cases h)⟩
  · intro w59 k57r
    have k57 := Rg.grown k57r (by omega)
    rintro _ ⟨v12, rfl, hS15⟩
    refine op1 (Zc rfl ?_)
    exact ⟨⟨_, rfl, hS15⟩, Rg.refl _, (fun h => by cases h), (fun h => by cases h)⟩
  · intro w60 k58r
    have k58 := Rg.grown k58r (by omega)
    rintro _ ⟨v13, rfl, hS16⟩
    refine op1 (Zae rfl rfl ?_)
    exact ⟨⟨_, rfl, hS16⟩, Rg.refl _, (fun h => by cases h), (fun h => by cases h)⟩
  · intro w61 k59r
    have k59 := Rg.grown k59r (by omega)
    rintro _ ⟨v14, rfl, hS17⟩
    refine op1 (Zae rfl rfl ?_)
    exact ⟨rfl, Rg.refl _, (fun h => by cases h), (fun h => by cases h)⟩
  · intro w62 k60r
    have k60 := Rg.grown k60r (by omega)
    refine op1 (Zar Ze0 ?_)
    intro g8 w63 hg8 hB16 k61 hs13
    have hz_ := k60.size
    exact ⟨⟨g8, rfl, by omega, _, rfl, hB16⟩, Rg.of k61, (fun h => by cases h), (fun h => by cases h)⟩
  · intro w64 k62r
    have k62 := Rg.grown k62r (by omega)
    rintro _ ⟨g9, rfl, hg9, hB17, hc8, hB18⟩ _ ⟨v15, rfl, hS18⟩
    refine op1 (Zab Za9 rfl rfl hB18 (by simp only [List.all_cons, List.all_nil, (hS18).none.one, Bool.and_true, Bool.and_self] <;> rfl) rfl hc8 ?_)
    intro w65 hB19 k63 hs14
    have hT2 : Zgp (qOf ((Zak (l.map Zba)).drop (j + 1).toNat)) _ [v15].toArray := ⟨v15, rfl, Zle ⟨_, hc8, hB18⟩ k63 (hS18).none⟩
    exact ⟨trivial, Rg.sto ⟨_, hc8, hB18⟩ hB19 rfl hT2 k63 hg9, (fun h => by cases h), fun _ => ⟨_, rfl, _, rfl, hg9, _, hB19, rfl, hT2⟩⟩
  intro w66 k64r
  have k64 := Rg.grown k64r (by omega)
  have hb56 := Zf hb37 k64
  have hO51 := hO32.g0 k64
  rintro _ rfl
  intro v_ hv_; subst v_
  rintro _ rfl _ rfl _ rfl _ rfl
  intro v_ hv_; subst v_
  rintro _ rfl _ rfl _ rfl _ rfl _ ⟨v16, rfl, hS19⟩ _ ⟨v17, rfl, hS20⟩ _ ⟨v18, rfl, hS21⟩ _ rfl _ ⟨g10, rfl, hg10, hB20, hc9, hB21⟩ hp2
  obtain ⟨_, he2, _, _, hB22, _, v19, rfl, hS22⟩ := hp2 _ rfl
  cases he2
  have hlt_7 := hB22.lt
  refine st (Ze rfl (Zg (Zd (Zh (Zh (Zb (st (Zc rfl ?_))))))))
  refine st (s_ne rfl rfl ?_)
  rw [show decide ((0 : Int) ≠ 0) = false from rfl]
  refine st (Zc rfl (stg (Zu Za9 rfl hB22.range rfl (stg (Zp fn35 rfl (Nd.rright_any hS22 (by have := Zi9 (List.drop_sublist (j + 1).toNat (Zak (l.map Zba))); have := hls; have := hqn; omega)) ?_)))))
  rintro v20 w67 ⟨hq10, hv7⟩
  rw [show (Zes (qOf ((Zak (l.map Zba)).drop (j + 1).toNat))) = true from ((hL.sub (List.drop_sublist _ _)).1).right] at hv7
  subst hv7
  have k65 := Zi hq10 none
  have hz19 := hq10.size
  have hb57 := Zf hb56 k65
  have hz20 := hb57.size
  have hO52 := hO51.g0 k65
  refine stg (Zdr rfl (st (Zq rfl rfl (Zg (Zd (Zbn rfl (Zm (Zd ?_))))))))
  refine Zb (st (Zu Za9 rfl (hB22.g0 k65).range rfl (st0 (Zab Za9 rfl rfl (((hpj.g0 k43).g0 k64).g0 k65) (by simp only [List.all_cons, List.all_nil, hS22.one, Bool.and_true, Bool.and_self] <;> rfl) rfl rfl ?_))))
  intro w68 hB23 k66 hs15
  have hb58 := Zt hb57 k66 (by first | omega | (have h9 := (hb57).size; omega))
  have hO53 := Own.keptG (Zfb 83 n0) hO52 k66 (Blk.isG (((hpj.g0 k43).g0 k64).g0 k65) (by decide) (by omega)) (hO52.neB (((hpj.g0 k43).g0 k64).g0 k65) (by decide))
  refine Zg (Zx (Zd (Zb (st (Zc rfl (st (Zai rfl rfl (by omega) (st (Ze rfl ?_)))))))))
  refine Zg ?_
  exact Zaa (((j + 1)), (v19)) ⟨hb58, by omega, ((((hwj.g0 k43).g0 k64).g0 k65).gne k66 (by omega)), ((Sl.gSmall Zad (((hwsj.g0 k43).g0 k64).g0 k65) k66 (((hpj.g0 k43).g0 k64).g0 k65) (show 1 < 5 by decide))).none, hB23, ((Sl.gSmall Zad (hS22.g0 k65) k66 (((hpj.g0 k43).g0 k64).g0 k65) (show 1 < 5 by decide))).none, hO53⟩ (by dsimp only; omega) (by exact ⟨rfl, rfl, rfl, trivial⟩)
end Go.Proofs.Ytfljelnfjbbknaa.Lm
