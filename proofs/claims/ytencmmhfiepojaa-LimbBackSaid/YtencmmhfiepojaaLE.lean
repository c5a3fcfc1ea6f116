/- Part of the proof that is named in YtencmmhfiepojaaLRowBack: a library for walks, or a function's walk. -/
import Derived.Test.YtencmmhfiepojaaLD
import Derived.Test.YtencmmhfiepojaaLimbSpec4
import Derived.Test.YtencmmhfiepojaaGw25
import Derived.Test.YtencmmhfiepojaaGw17
set_option maxRecDepth 20000
set_option linter.unusedSimpArgs false
set_option linter.unusedVariables false
namespace Go.Proofs.Ytencmmhfiepojaa
open Go.RowKit Go.Gw
theorem div32_any {w : World} {h l y : Int} (hh : 0 ≤ h) (hy : h < y) (hl : 0 ≤ l ∧ l < 4294967296) (hyb : y < 4294967296) :
    Calls Try.prog 82 [.int .u32 h, .int .u32 l, .int .u32 y].toArray w (Pure w fun v _ => v = .tuple #[.int .u32 ((h * 4294967296 + l) / y), .int .u32 ((h * 4294967296 + l) % y)]) := by
  have hb0 := Below.refl w.heap.size w
  have hz := ior_add (h := h) (x := l) (by omega) (by omega)
  have hq := div32_q hh hl hy
  have hr := div32_r hh hl hy
  refine enter Try.func82 rfl rfl ?_
  refine w_seq ?_
  refine w_region ?_
  refine st (s_assign rfl ?_)
  refine st (s_assign rfl ?_)
  refine r_end ?_
  refine n_then ?_
  refine w_seq ?_
  refine w_seq ?_
  refine w_region ?_
  refine st (s_move rfl ?_)
  refine st (s_ne rfl rfl ?_)
  refine st (s_move rfl ?_)
  refine r_caseP 11 rfl (fun h1 => ?_) (fun h1 => ?_)
  · refine stg (s_move rfl ?_)
    refine stg (s_move rfl ?_)
    refine stg (s_le rfl rfl ?_)
    refine st (s_pick rfl rfl ?_)
    refine r_end ?_
    refine n_then ?_
    refine w_condP rfl (fun h2 => absurd h2 (by omega)) (fun h2 => ?_)
    refine w_skip' ?_
    refine n_then ?_
    refine w_seq ?_
    refine w_region ?_
    refine st (s_move rfl ?_)
    refine st (s_convk (M := 18446744073709551616) rfl rfl intk44 intk76 rfl (by omega) ?_)
    refine st (s_shlk (M := 18446744073709551616) (p := 4294967296) rfl rfl rfl rfl (by decide) (by decide) ?_)
    refine st (s_move rfl ?_)
    refine st (s_convk (M := 18446744073709551616) rfl rfl intk44 intk76 rfl (by omega) ?_)
    refine st (s_or (M := 18446744073709551616) rfl rfl rfl rfl (by omega) (by omega) ?_)
    refine st (s_assign rfl ?_)
    refine r_end ?_
    refine n_then ?_
    refine w_seq ?_
    refine w_draw 11 (fun a b => a.grownBy b none) [(some 23, fun v _ => v = .int .u64 (ior ((h * 4294967296) % 18446744073709551616) l)), (some 24, fun v _ => v = .int .u32 y), (some 25, fun v _ => v = .int .u64 y), (some 26, fun v _ => v = .int .u64 ((ior ((h * 4294967296) % 18446744073709551616) l) / y)), (some 27, fun v _ => v = .int .u32 (((ior ((h * 4294967296) % 18446744073709551616) l) / y) % 4294967296)), (some 28, fun v _ => v = .int .u64 (ior ((h * 4294967296) % 18446744073709551616) l)), (some 29, fun v _ => v = .int .u32 y), (some 30, fun v _ => v = .int .u64 y), (some 31, fun v _ => v = .int .u64 ((ior ((h * 4294967296) % 18446744073709551616) l) % y)), (some 32, fun v _ => v = .int .u32 (((ior ((h * 4294967296) % 18446744073709551616) l) % y) % 4294967296)), (some 6, fun v _ => v = .int .u32 (((ior ((h * 4294967296) % 18446744073709551616) l) / y) % 4294967296))] [[], [], [1], [0, 2], [3], [], [], [6], [5, 7], [8], [4]] [(2, .int .u32 y), (7, .int .u32 0), (8, .int .u64 (ior ((h * 4294967296) % 18446744073709551616) l))] (by exact ⟨rfl, rfl, rfl, trivial⟩) (by kernel_rfl) (by kernel_rfl) grown_none_refl (fun _ _ _ => grown_none_trans) ⟨fun _ _ _ h _ => h, fun _ _ _ h _ => h, fun _ _ _ h _ => h, fun _ _ _ h _ => h, fun _ _ _ h _ => h, fun _ _ _ h _ => h, fun _ _ _ h _ => h, fun _ _ _ h _ => h, fun _ _ _ h _ => h, fun _ _ _ h _ => h, fun _ _ _ h _ => h, trivial⟩ ?_
    intro w1 k1 hs1
    have hb1 := below_g0 hb0 k1
    refine ⟨⟨?_, ?_, ?_, ?_, ?_, ?_, ?_, ?_, ?_, ?_, ?_, trivial⟩, ?_⟩
    · intro w2 k2
      have hb2 := below_g0 hb1 k2
      refine op1 (s_move rfl ?_)
      exact ⟨rfl, grown_none_refl _⟩
    · intro w3 k3
      have hb3 := below_g0 hb1 k3
      refine op1 (s_move rfl ?_)
      exact ⟨rfl, grown_none_refl _⟩
    · intro w4 k4
      have hb4 := below_g0 hb1 k4
      rintro _ rfl
      refine op1 (s_convk (M := 18446744073709551616) rfl rfl intk44 intk76 rfl (by omega) ?_)
      exact ⟨rfl, grown_none_refl _⟩
    · intro w5 k5
      have hb5 := below_g0 hb1 k5
      rintro _ rfl
      rintro _ rfl
      refine op1 (s_quok (M := 18446744073709551616) rfl rfl rfl rfl (by omega) (by omega) ?_)
      exact ⟨rfl, grown_none_refl _⟩
    · intro w6 k6
      have hb6 := below_g0 hb1 k6
      rintro _ rfl
      refine op1 (s_convm (M := 4294967296) rfl rfl intk76 intk44 rfl ?_)
      exact ⟨rfl, grown_none_refl _⟩
    · intro w7 k7
      have hb7 := below_g0 hb1 k7
      refine op1 (s_move rfl ?_)
      exact ⟨rfl, grown_none_refl _⟩
    · intro w8 k8
      have hb8 := below_g0 hb1 k8
      refine op1 (s_move rfl ?_)
      exact ⟨rfl, grown_none_refl _⟩
    · intro w9 k9
      have hb9 := below_g0 hb1 k9
      rintro _ rfl
      refine op1 (s_convk (M := 18446744073709551616) rfl rfl intk44 intk76 rfl (by omega) ?_)
      exact ⟨rfl, grown_none_refl _⟩
    · intro w10 k10
      have hb10 := below_g0 hb1 k10
      rintro _ rfl
      rintro _ rfl
      refine op1 (s_remk rfl rfl (by omega) (by omega) ?_)
      exact ⟨rfl, grown_none_refl _⟩
    · intro w11 k11
      have hb11 := below_g0 hb1 k11
      rintro _ rfl
      refine op1 (s_convm (M := 4294967296) rfl rfl intk76 intk44 rfl ?_)
      exact ⟨rfl, grown_none_refl _⟩
    · intro w12 k12
      have hb12 := below_g0 hb1 k12
      rintro _ rfl
      refine op1 (s_assign rfl ?_)
      exact ⟨rfl, grown_none_refl _⟩
    · intro w13 k13
      have hb13 := below_g0 hb1 k13
      rintro _ rfl
      rintro _ rfl
      rintro _ rfl
      rintro _ rfl
      rintro _ rfl
      rintro _ rfl
      rintro _ rfl
      rintro _ rfl
      rintro _ rfl
      rintro _ rfl
      rintro _ rfl
      refine st (s_assign rfl ?_)
      refine r_end ?_
      refine n_then ?_
      refine w_ret2 rfl rfl rfl ?_
      exact ⟨_, rfl, hb13, by rw [hz, Int.emod_eq_of_lt hq.1 hq.2, Int.emod_eq_of_lt (a := (h * 4294967296 + l) % y) (b := 4294967296) hr.1 (by omega)]⟩
  · refine s_pass rfl rfl ?_
    refine s_pass rfl rfl ?_
    refine s_pass rfl rfl ?_
    refine st (s_pick rfl rfl ?_)
    refine r_end ?_
    refine n_then ?_
    refine w_condF rfl ?_
    refine w_skip' ?_
    refine n_then ?_
    refine w_seq ?_
    refine w_region ?_
    refine st (s_move rfl ?_)
    refine st (s_convk (M := 18446744073709551616) rfl rfl intk44 intk76 rfl (by omega) ?_)
    refine st (s_shlk (M := 18446744073709551616) (p := 4294967296) rfl rfl rfl rfl (by decide) (by decide) ?_)
    refine st (s_move rfl ?_)
    refine st (s_convk (M := 18446744073709551616) rfl rfl intk44 intk76 rfl (by omega) ?_)
    refine st (s_or (M := 18446744073709551616) rfl rfl rfl rfl (by omega) (by omega) ?_)
    refine st (s_assign rfl ?_)
    refine r_end ?_
    refine n_then ?_
    refine w_seq ?_
    refine w_draw 11 (fun a b => a.grownBy b none) [(some 23, fun v _ => v = .int .u64 (ior ((h * 4294967296) % 18446744073709551616) l)), (some 24, fun v _ => v = .int .u32 y), (some 25, fun v _ => v = .int .u64 y), (some 26, fun v _ => v = .int .u64 ((ior ((h * 4294967296) % 18446744073709551616) l) / y)), (some 27, fun v _ => v = .int .u32 (((ior ((h * 4294967296) % 18446744073709551616) l) / y) % 4294967296)), (some 28, fun v _ => v = .int .u64 (ior ((h * 4294967296) % 18446744073709551616) l)), (some 29, fun v _ => v = .int .u32 y), (some 30, fun v _ => v = .int .u64 y), (some 31, fun v _ => v = .int .u64 ((ior ((h * 4294967296) % 18446744073709551616) l) % y)), (some 32, fun v _ => v = .int .u32 (((ior ((h * 4294967296) % 18446744073709551616) l) % y) % 4294967296)), (some 6, fun v _ => v = .int .u32 (((ior ((h * 4294967296) % 18446744073709551616) l) / y) % 4294967296))] [[], [], [1], [0, 2], [3], [], [], [6], [5, 7], [8], [4]] [(2, .int .u32 y), (7, .int .u32 0), (8, .int .u64 (ior ((h * 4294967296) % 18446744073709551616) l))] (by exact ⟨rfl, rfl, rfl, trivial⟩) (by kernel_rfl) (by kernel_rfl) grown_none_refl (fun _ _ _ => grown_none_trans) ⟨fun _ _ _ h _ => h, fun _ _ _ h _ => h, fun _ _ _ h _ => h, fun _ _ _ h _ => h, fun _ _ _ h _ => h, fun _ _ _ h _ => h, fun _ _ _ h _ => h, fun _ _ _ h _ => h, fun _ _ _ h _ => h, fun _ _ _ h _ => h, fun _ _ _ h _ => h, trivial⟩ ?_
    intro w14 k14 hs2
    have hb14 := below_g0 hb0 k14
    refine ⟨⟨?_, ?_, ?_, ?_, ?_, ?_, ?_, ?_, ?_, ?_, ?_, trivial⟩, ?_⟩
    · intro w15 k15
      have hb15 := below_g0 hb14 k15
      refine op1 (s_move rfl ?_)
      exact ⟨rfl, grown_none_refl _⟩
    · intro w16 k16
      have hb16 := below_g0 hb14 k16
      refine op1 (s_move rfl ?_)
      exact ⟨rfl, grown_none_refl _⟩
    · intro w17 k17
      have hb17 := below_g0 hb14 k17
      rintro _ rfl
      refine op1 (s_convk (M := 18446744073709551616) rfl rfl intk44 intk76 rfl (by omega) ?_)
      exact ⟨rfl, grown_none_refl _⟩
    · intro w18 k18
      have hb18 := below_g0 hb14 k18
      rintro _ rfl
      rintro _ rfl
      refine op1 (s_quok (M := 18446744073709551616) rfl rfl rfl rfl (by omega) (by omega) ?_)
      exact ⟨rfl, grown_none_refl _⟩
    · intro w19 k19
      have hb19 := below_g0 hb14 k19
      rintro _ rfl
      refine op1 (s_convm (M := 4294967296) rfl rfl intk76 intk44 rfl ?_)
      exact ⟨rfl, grown_none_refl _⟩
    · intro w20 k20
      have hb20 := below_g0 hb14 k20
      refine op1 (s_move rfl ?_)
      exact ⟨rfl, grown_none_refl _⟩
    · intro w21 k21
      have hb21 := below_g0 hb14 k21
      refine op1 (s_move rfl ?_)
      exact ⟨rfl, grown_none_refl _⟩
    · intro w22 k22
      have hb22 := below_g0 hb14 k22
      rintro _ rfl
      refine op1 (s_convk (M := 18446744073709551616) rfl rfl intk44 intk76 rfl (by omega) ?_)
      exact ⟨rfl, grown_none_refl _⟩
    · intro w23 k23
      have hb23 := below_g0 hb14 k23
      rintro _ rfl
      rintro _ rfl
      refine op1 (s_remk rfl rfl (by omega) (by omega) ?_)
      exact ⟨rfl, grown_none_refl _⟩
    · intro w24 k24
      have hb24 := below_g0 hb14 k24
      rintro _ rfl
      refine op1 (s_convm (M := 4294967296) rfl rfl intk76 intk44 rfl ?_)
      exact ⟨rfl, grown_none_refl _⟩
    · intro w25 k25
      have hb25 := below_g0 hb14 k25
      rintro _ rfl
      refine op1 (s_assign rfl ?_)
      exact ⟨rfl, grown_none_refl _⟩
    · intro w26 k26
      have hb26 := below_g0 hb14 k26
      rintro _ rfl
      rintro _ rfl
      rintro _ rfl
      rintro _ rfl
      rintro _ rfl
      rintro _ rfl
      rintro _ rfl
      rintro _ rfl
      rintro _ rfl
      rintro _ rfl
      rintro _ rfl
      refine st (s_assign rfl ?_)
      refine r_end ?_
      refine n_then ?_
      refine w_ret2 rfl rfl rfl ?_
      exact ⟨_, rfl, hb26, by rw [hz, Int.emod_eq_of_lt hq.1 hq.2, Int.emod_eq_of_lt (a := (h * 4294967296 + l) % y) (b := 4294967296) hr.1 (by omega)]⟩

theorem div_any {w : World} {a : Value} {m : Int} {xs : List Int} (ha : Sl Kd.u32 w (fun _ => False) a xs) (hm : 0 ≤ m ∧ m < 4294967296) (hla : xs.length ≤ 100000) :
    Calls Try.prog 42 [a, .int .u32 m].toArray w (Pure w fun r W => ∃ v, r = .tuple #[v, .int .u32 (if m = 0 then 0 else nv xs % m)] ∧ Sl Kd.u32 W (fun _ => False) v (tl (nv xs / m))) := by
  have hb0 := Below.refl w.heap.size w
  have hln1 := ha.lenle
  refine menter 10 Try.func42 rfl rfl ?_
  refine w_seq ?_
  refine w_region ?_
  refine st (s_box rfl ?_)
  intro g1 w1 hg1 hB1 k1 hs1
  have hb1 := below_g0 hb0 k1
  refine st (s_assign rfl ?_)
  refine st (s_assign rfl ?_)
  refine r_end ?_
  refine n_then ?_
  refine w_seq ?_
  refine w_seq ?_
  refine w_region ?_
  refine st (s_load one44 rfl hB1.range (j := 0) rfl ?_)
  refine st (s_eq rfl rfl ?_)
  refine r_end ?_
  refine n_then ?_
  refine w_condP rfl (fun h1 => ?_) (fun h1 => ?_)
  · refine w_seq ?_
    refine w_region ?_
    refine st (s_assign rfl ?_)
    refine st (s_assign rfl ?_)
    refine r_end ?_
    refine n_then ?_
    refine w_ret' ?_
    refine n_then_ret ?_
    have hm0 : m = 0 := h1
    subst hm0
    exact m_ret2 rfl rfl rfl ⟨_, rfl, hb1, _, rfl, by rw [Int.ediv_zero, tl_zero (Int.le_refl _)]; exact (Own.nil Kd.u32 44 w.heap.size _ (fun _ => False)).sl⟩
  · refine w_skip' ?_
    refine n_then ?_
    refine w_seq ?_
    refine w_region ?_
    refine st (s_move rfl ?_)
    refine st (s_len sl32 rfl (ha.at0 hb1) ?_)
    refine st (s_make (K := Kd.u32) (base := w1.heap.size) (F := (fun _ => False)) sl32 rfl (by omega) (by omega) (by omega) (fun _ _ => ⟨rfl, by decide⟩) (Nat.le_refl _) (fun _ h => h.elim) ?_)
    intro v1 w2 hO1 k2
    have hn1 := own_fresh hO1 (g := g1) (by have := hB1.lt; omega)
    have hO2 := hO1.rebase (b' := w.heap.size) (by omega)
    have hb2 := below_g0 hb1 k2
    have hz1 := hb2.size
    refine st (s_alloc zero32 ?_)
    intro g2 w3 hg2 hB2 k3 hs2
    have hb3 := below_g0 hb2 k3
    have hO3 := hO2.g0 k3
    refine st0 (s_store one32 rfl rfl (hO3.one) hB2 (of_decide_eq_true rfl) ?_)
    intro w4 hB3 k4 hs3
    have hb4 := below_g hb3 k4 (by omega)
    have hO4 := Own.keptF u32_flat hO3 k4 (hO3.ne_blk hB2 (by decide))
    clear hB2
    refine r_end ?_
    refine n_then ?_
    refine w_seq ?_
    refine w_region ?_
    refine st (s_alloc zero44 ?_)
    intro g3 w5 hg3 hB4 k5 hs4
    have hn2 := own_new hO4 hg3
    have hb5 := below_g0 hb4 k5
    have hO5 := hO4.g0 k5
    refine r_end ?_
    refine n_then ?_
    refine w_seq ?_
    refine w_seq ?_
    refine w_region ?_
    refine st (s_move rfl ?_)
    have hOB : ∀ g, v1.ownBlock = some g → g < w5.heap.size := fun g h => (hO5.lt g h).2
    refine st (s_call fn79 rfl (back_any ((ha.at0 hb5)).none) ?_)
    rintro _ w6 ⟨hq1, gb1, rfl, hg4, hB5⟩
    have k6 := grown_of_below hq1 none
    have hz2 := hq1.size
    have hb6 := below_g0 hb5 k6
    have hz3 := hb6.size
    have hO6 := hO5.g0 k6
    refine r_end ?_
    refine n_then ?_
    refine w_block ?_
    have hzz1 := k1.size
    have hzz2 := k2.size
    have hzz3 := k3.size
    have hzz4 := k4.size
    have hzz5 := k5.size
    have hzz6 := k6.size
    have hgbl := hB5.lt
    refine i_range (xs := xs) (n0 := w.heap.size) rfl fn91 (back_stops ha hb6 hB5) (hB5.lt) (by omega) (fun pre W => Below w.heap.size w W ∧ Blk W g1 44 #[.int .u32 m] ∧ Blk W g2 32 #[v1] ∧ ∃ os l, Blk W g3 44 #[.int .u32 l] ∧ Gw.Own Kd.u32 44 w.heap.size W (fun _ => False) v1 os ∧ os.length = xs.length ∧ (0 ≤ l ∧ l < m) ∧ DivSt xs m pre os l) (fun _ _ _ => False) (fun s A B row h hg hr => by
        obtain ⟨h1, h2, h3, os, l, h4, h5, h6, h7, h8⟩ := h
        exact ⟨Below.ownK h1 (Nat.le_refl _) (by omega) hg hr, h2.ownK hg hr, h3.ownK hg hr, os, l, h4.ownK hg hr, h5.ownK u32_flat hg hr, h6, h7, h8⟩) (fun _ _ _ _ _ h _ _ => h.elim) (⟨hb6, (((((hB1.g0 k2).g0 k3).gne k4 (by omega)).g0 k5).g0 k6), ((hB3.g0 k5).g0 k6), _, _, (hB4.g0 k6), hO6, by simp, by omega, divSt_nil (by simp)⟩) (fun x => [(3, .pointer (some ⟨g1, 0, none⟩)), (4, .slice none 0 0), (5, .int .u32 0), (6, .pointer (some ⟨g2, 0, none⟩)), (7, .pointer (some ⟨g3, 0, none⟩)), (8, .int .i64 x.1.1), (9, .int .u32 x.1.2), (16, .func (.func 91) #[] #[.pointer (some ⟨gb1, 0, none⟩)])]) (fun l x W => ?_) (fun l pre x W hl hi hlen => ?_) (fun Dk zs W hD hS hi hK => ?_) (fun Dk c pre W hD hS hi hK => ?_)
    · refine i_seq ?_
      refine i_region ?_
      refine ist (s_assign rfl ?_)
      refine i_end ?_
      refine in_then ?_
      refine i_region ?_
      refine ist (s_assign rfl ?_)
      refine i_end ?_
      exact n_set (by exact ⟨rfl, rfl, rfl, rfl, rfl, rfl, rfl, rfl, trivial⟩)
    · obtain ⟨hbW, hmW, hoW, os, l_, hlW, hOW, hol, hlm, hdv⟩ := hi
      have hzW := hbW.size
      obtain ⟨hx0, hx1, hx2⟩ := x.2
      have hxb := (lim_sl ha).ix x.1.1
      rw [← hx2] at hxb
      refine i_block ?_
      obtain ⟨gD1, hgD1, hl_1, hl_2⟩ := own_block hOW (by omega)
      have hlB := hOB _ hgD1
      refine i_drawD (by rintro ⟨a, w, h⟩; exact h) rfl 11 (fun a b => a.grownBy b (some gD1)) (fun a b => a.grownBy b none) (fun a b => a.grownBy b (some gD1)) [(some 20, fun v _ => v = v1), (some 21, fun v _ => v = .int .i64 x.1.1), (some 22, fun v _ => v = .int .u32 l_), (some 23, fun v _ => v = .int .u32 x.1.2), (some 24, fun v _ => v = .int .u32 m), (some 25, fun v _ => v = .tuple #[.int .u32 ((l_ * 4294967296 + x.1.2) / m), .int .u32 ((l_ * 4294967296 + x.1.2) % m)]), (some 19, fun v _ => v = .tuple #[.int .u32 ((l_ * 4294967296 + x.1.2) / m), .int .u32 ((l_ * 4294967296 + x.1.2) % m)]), (some 26, fun v _ => v = .int .u32 ((l_ * 4294967296 + x.1.2) / m)), (some 27, fun v _ => v = .int .u32 ((l_ * 4294967296 + x.1.2) % m)), (some 28, fun v _ => v = .pointer (some ⟨gD1, (x.1.1).toNat * 1, none⟩)), (none, fun _ W => Gw.Own Kd.u32 44 w.heap.size W (fun _ => False) v1 (os.set (x.1.1).toNat ((l_ * 4294967296 + x.1.2) / m)))] [[], [], [], [], [], [2, 3, 4], [5], [6], [6], [0, 1], [7, 9]] [[], [], [], [], [], [2, 3, 4], [2, 3, 4, 5], [2, 3, 4, 5, 6], [2, 3, 4, 5, 6], [0, 1, 2, 3, 4, 5, 6, 7], [0, 1, 2, 3, 4, 5, 6, 7, 9]] [[], [], [], [], [], [], [], [], [], [], []] [false, false, false, false, false, false, false, false, false, false, true] [true, true, true, true, true, true, true, true, true, true, false] [true, true, true, true, true, true, true, true, false, true, true] [(3, .pointer (some ⟨g1, 0, none⟩)), (4, .slice none 0 0), (5, .int .u32 0), (6, .pointer (some ⟨g2, 0, none⟩)), (7, .pointer (some ⟨g3, 0, none⟩)), (8, .int .i64 x.1.1), (9, .int .u32 x.1.2)] (by exact ⟨rfl, rfl, rfl, rfl, rfl, rfl, rfl, trivial⟩) (by kernel_rfl) (by kernel_rfl) (by kernel_rfl) rfl (grown_some_refl gD1) grown_some_trans (fun _ _ h => grown_none_row h) (fun _ _ h => h) ⟨fun _ _ _ h _ => by exact h, fun _ _ _ h _ => by exact h, fun _ _ _ h _ => by exact h, fun _ _ _ h _ => by exact h, fun _ _ _ h _ => by exact h, fun _ _ _ h _ => by exact h, fun _ _ _ h _ => by exact h, fun _ _ _ h _ => by exact h, fun _ _ _ h _ => by exact h, fun _ _ _ h _ => by exact h, fun _ _ _ h _ => by exact h, fun _ _ _ h _ => by exact h, fun _ _ _ h _ => by exact h, fun _ _ _ h _ => by exact h, fun _ _ _ h _ => by exact h, fun _ _ _ h _ => by exact h, fun _ _ _ h _ => by exact h, fun _ _ _ h _ => by exact h, fun _ _ _ h _ => by exact h, fun _ _ _ h _ => by exact h, fun _ _ _ h k => h.g0 k, trivial⟩ grown_none_refl (fun _ _ _ => grown_none_trans) rfl ?_
      intro w9 k9 hs6
      have hb7 := below_g0 hbW k9
      have hO8 := hOW.g0 k9
      refine ⟨⟨?_, ?_, ?_, ?_, ?_, ?_, ?_, ?_, ?_, ?_, ?_, trivial⟩, ?_⟩
      · intro w10 k10
        have hb8 := below_g0 hb7 k10
        have hz4 := hb8.size
        have hO9 := hO8.g0 k10
        refine op1 (s_load one32 rfl ((hoW.g0 k9).g0 k10).range (j := 0) rfl ?_)
        exact ⟨rfl, grown_none_refl _⟩
      · intro w11 k11
        have hb9 := below_g0 hb7 k11
        have hz5 := hb9.size
        have hO10 := hO8.g0 k11
        refine op1 (s_move rfl ?_)
        exact ⟨rfl, grown_none_refl _⟩
      · intro w12 k12
        have hb10 := below_g0 hb7 k12
        have hz6 := hb10.size
        have hO11 := hO8.g0 k12
        refine op1 (s_load one44 rfl ((hlW.g0 k9).g0 k12).range (j := 0) rfl ?_)
        exact ⟨rfl, grown_none_refl _⟩
      · intro w13 k13
        have hb11 := below_g0 hb7 k13
        have hz7 := hb11.size
        have hO12 := hO8.g0 k13
        refine op1 (s_move rfl ?_)
        exact ⟨rfl, grown_none_refl _⟩
      · intro w14 k14
        have hb12 := below_g0 hb7 k14
        have hz8 := hb12.size
        have hO13 := hO8.g0 k14
        refine op1 (s_load one44 rfl ((hmW.g0 k9).g0 k14).range (j := 0) rfl ?_)
        exact ⟨rfl, grown_none_refl _⟩
      · intro w15 k15
        have hb13 := below_g0 hb7 k15
        have hz9 := hb13.size
        have hO14 := hO8.g0 k15
        rintro _ rfl
        rintro _ rfl
        rintro _ rfl
        refine op1 (s_call fn82 rfl (div32_any (by omega) (by omega) (by omega) (by omega)) ?_)
        rintro _ w16 ⟨hq3, rfl⟩
        have k16 := grown_of_below hq3 none
        have hz10 := hq3.size
        have hb14 := below_g0 hb13 k16
        have hz11 := hb14.size
        have hO15 := hO14.g0 k16
        exact ⟨rfl, k16⟩
      · intro w17 k17
        have hb15 := below_g0 hb7 k17
        have hz12 := hb15.size
        have hO16 := hO8.g0 k17
        rintro _ rfl
        refine op1 (s_move rfl ?_)
        exact ⟨rfl, grown_none_refl _⟩
      · intro w18 k18
        have hb16 := below_g0 hb7 k18
        have hz13 := hb16.size
        have hO17 := hO8.g0 k18
        rintro _ rfl
        refine op1 (s_extract rfl rfl ?_)
        exact ⟨rfl, grown_none_refl _⟩
      · intro w19 k19
        rintro _ rfl
        refine op1 (s_extract rfl rfl ?_)
        exact ⟨rfl, grown_none_refl _⟩
      · intro w20 k20
        have hb17 := below_g0 hb7 k20
        have hz14 := hb17.size
        have hO18 := hO8.g0 k20
        intro v_ hv_; subst v_
        rintro _ rfl
        refine op1 (s_oidx sl32 rfl rfl hO18 (by omega) (by first | omega | (simp; done) | (simp; omega)) ?_)
        intro g5 hg6 hl_5 hl_6
        obtain rfl := Option.some.inj (hg6.symm.trans hgD1)
        exact ⟨rfl, grown_none_refl _⟩
      · intro w21 k21
        have hb18 := below_g0 hb7 k21
        have hz15 := hb18.size
        have hO19 := hO8.g0 k21
        rintro _ rfl
        rintro _ rfl
        refine op1 (s_ostore one44 rfl rfl rfl rfl hO19 hgD1 (by omega) (by first | omega | (simp; done) | (simp; omega)) ⟨rfl, div32_q (by omega) (by omega) (by omega)⟩ ?_)
        intro w22 hO20 k22 hs7
        have hb19 := below_g hb18 k22 (by omega)
        exact ⟨hO20, k22⟩
      · intro w23 k23
        intro v_ hv_; subst v_
        rintro _ rfl
        rintro _ rfl
        rintro _ rfl
        rintro _ rfl
        rintro _ rfl
        rintro _ rfl
        rintro _ rfl
        rintro _ rfl
        rintro _ rfl
        intro v_ hO21
        have hb20 := below_g hb7 k23 (by omega)
        have hz16 := hb20.size
        refine st0 (s_store one44 rfl rfl rfl ((hlW.g0 k9).gne k23 (ne_own_of hn2 hgD1)) (of_decide_eq_true rfl) ?_)
        intro w24 hB6 k24 hs8
        have hb21 := below_g hb20 k24 (by omega)
        have hO22 := Own.keptN u32_flat hO21 k24 hn2
        refine r_end ?_
        refine n_block ?_
        have hzz7 := k9.size
        have hzz8 := k23.size
        have hzz9 := k24.size
        have hKF : KeepsFrom w6.heap.size W _ := ((KeepsFrom.of_grownBy k9 (fun j e => by cases e)).trans (KeepsFrom.of_grownBy k23 (fun j e => by cases e; omega))).trans (KeepsFrom.of_grownBy k24 (fun j e => by cases e; omega))
        have hKP : KpL gb1 w.heap.size W _ := kpl_t (kpl_t (kpl_grown k9 (by intro e; cases e) (by omega) (fun j e => by cases e)) (kpl_grown k23 (by intro e; cases e; omega) (by omega) (fun j e => by cases e; omega))) (kpl_grown k24 (by intro e; cases e; omega) (by omega) (fun j e => by cases e; omega))
        exact n_own ⟨hKF, hKP, hb21, (((hmW.g0 k9).gne k23 (ne_own_of hn1 hgD1)).gne k24 (by omega)), (((hoW.g0 k9).gne k23 (hO8.blk_ne (hoW.g0 k9) (by decide) hgD1)).gne k24 (by omega)), _, _, hB6, hO22, by rw [List.length_set]; exact hol, ⟨Int.emod_nonneg _ (by omega), Int.emod_lt_of_pos _ (by omega)⟩, div_step hdv hol (by omega)⟩
    · obtain ⟨hbW, hmW, hoW, os, l_, hlW, hOW, hol, hlm, hdv⟩ := hi
      have hzW := hbW.size
      obtain ⟨hl9, ho9⟩ := div_end hdv hS
      refine n_block ?_
      refine n_then ?_
      refine w_seq ?_
      refine w_draw 4 (fun a b => a.grownBy b none) [(some 29, fun v _ => v = v1), (some 30, fun v W => Sl Kd.u32 W (fun _ => False) v (tl (nv os))), (some 31, fun v _ => v = .int .u32 l_), (some 4, fun v W => Sl Kd.u32 W (fun _ => False) v (tl (nv os)))] [[], [0], [], [1]] [(5, .int .u32 0), (6, .pointer (some ⟨g2, 0, none⟩)), (7, .pointer (some ⟨g3, 0, none⟩))] (by exact ⟨rfl, rfl, rfl, trivial⟩) (by kernel_rfl) (by kernel_rfl) grown_none_refl (fun _ _ _ => grown_none_trans) ⟨fun _ _ _ h _ => h, fun _ _ _ h k => h.g0 k, fun _ _ _ h _ => h, fun _ _ _ h k => h.g0 k, trivial⟩ ?_
      intro w26 k26 hs9
      have hb22 := below_g0 hbW k26
      have hO23 := hOW.g0 k26
      refine ⟨⟨?_, ?_, ?_, ?_, trivial⟩, ?_⟩
      · intro w27 k27
        have hb23 := below_g0 hb22 k27
        have hO24 := hO23.g0 k27
        refine op1 (s_load one32 rfl ((hoW.g0 k26).g0 k27).range (j := 0) rfl ?_)
        exact ⟨rfl, grown_none_refl _⟩
      · intro w28 k28
        have hb24 := below_g0 hb22 k28
        have hO25 := hO23.g0 k28
        intro v_ hv_; subst v_
        refine op1 (s_call fn74 rfl (cut_any hO25.sl) ?_)
        rintro v3 w29 ⟨hq5, hS3⟩
        have k29 := grown_of_below hq5 none
        have hz17 := hq5.size
        have hb25 := below_g0 hb24 k29
        have hz18 := hb25.size
        have hO26 := hO25.g0 k29
        have hS4 := hS3.none.g0 k29
        exact ⟨hS4, k29⟩
      · intro w30 k30
        have hb26 := below_g0 hb22 k30
        have hO27 := hO23.g0 k30
        refine op1 (s_load one44 rfl ((hlW.g0 k26).g0 k30).range (j := 0) rfl ?_)
        exact ⟨rfl, grown_none_refl _⟩
      · intro w31 k31
        have hb27 := below_g0 hb22 k31
        have hO28 := hO23.g0 k31
        intro v4 hS5
        refine op1 (s_assign rfl ?_)
        exact ⟨hS5, grown_none_refl _⟩
      · intro w32 k32
        have hb28 := below_g0 hb22 k32
        have hO29 := hO23.g0 k32
        intro v_ hv_; subst v_
        intro v5 hS6
        rintro _ rfl
        intro v6 hS7
        refine st (s_assign rfl ?_)
        refine r_end ?_
        refine n_then ?_
        refine w_ret' ?_
        have hK2 := ((k32.block Dk (Array.getElem?_eq_some_iff.1 ((k26.block Dk (Array.getElem?_eq_some_iff.1 hK).1 (fun e => by cases e)).trans hK)).1 (fun e => by cases e)).trans ((k26.block Dk (Array.getElem?_eq_some_iff.1 hK).1 (fun e => by cases e)).trans hK))
        refine m_ret2' rfl rfl rfl hK2 ⟨_, rfl, Below.mark hb28 (Nat.le_refl _) (by omega) hK2, _, by rw [hl9, if_neg (by omega)], ?_⟩
        rw [← ho9]
        exact Sl.mark u32_flat hS7 hK2
    · exact hi.elim
end Go.Proofs.Ytencmmhfiepojaa
