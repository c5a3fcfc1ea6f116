/- Part of the proof that is named in YtencmmhfiepojaaLRowBack: a library for walks, or a function's walk. -/
import Derived.Test.YtencmmhfiepojaaLFacts
set_option maxRecDepth 20000
set_option linter.unusedSimpArgs false
set_option linter.unusedVariables false
namespace Go.Proofs.Ytencmmhfiepojaa
open Go.RowKit Go.Gw
theorem back_stops {w00 w0 : World} {F : Nat → Prop} {v : Value} {xs : List Int} {gb : Nat} (hS : Sl Kd.u32 w00 F v xs) (hB0 : Below w00.heap.size w00 w0) (hbk0 : Blk w0 gb 32 #[v]) :
    SeqStopsK Fence.wide 9 Try.prog 91 #[.pointer (some ⟨gb, 0, none⟩)] (encL (xs := xs)) (KpL gb w00.heap.size) (fun ys => ys.map (·.1) = bkt xs xs.length) (fun pre => ∃ k, k ≤ xs.length ∧ pre.map (·.1) = bkt xs k) xs.length w0 := by
  intro l J Jx w hW hJa hJxa hY h0
  have hln1 := hS.lenle
  have hb0 := hB0.trans (hW.mono hB0.size)
  have hbk : Blk w gb 32 [v].toArray := (hW.block gb hbk0.lt).trans hbk0
  rw [show (#[Value.func (.yield l) #[] #[]] ++ #[Value.pointer (some ⟨gb, 0, none⟩)] : Array Value) = [.func (.yield l) #[] #[], .pointer (some ⟨gb, 0, none⟩)].toArray from rfl]
  have hz0 := hb0.size
  refine ienter Try.func91 rfl rfl ?_
  refine i_seq ?_
  refine i_region ?_
  refine ist (s_load one32 rfl hbk.range (j := 0) rfl ?_)
  refine ist (s_len sl32 rfl (hS.at0 hb0) ?_)
  refine ist (s_sub rfl rfl (by omega) ?_)
  refine ist (s_assign rfl ?_)
  refine i_end ?_
  refine in_then ?_
  refine i_block ?_
  refine i_loop (α := Int) (fun (i : Int) => [(0, .func (.yield l) #[] #[]), (1, .pointer (some ⟨gb, 0, none⟩)), (3, .int .i64 i)]) (fun (i : Int) W => Below w00.heap.size w00 W ∧ (-1 ≤ i ∧ i < xs.length) ∧ (∃ pre : List (LX xs), J pre W ∧ pre.map (·.1) = bkt xs ((xs.length : Int) - 1 - i).toNat) ∧ (Blk W gb 32 [v].toArray)) (fun (i : Int) => (i + 1).toNat) ((xs.length : Int) - 1) ⟨hb0, by omega, ⟨[], h0, by rw [show ((xs.length : Int) - 1 - ((xs.length : Int) - 1)).toNat = 0 by omega]; rfl⟩, hbk⟩ (by exact ⟨rfl, rfl, rfl, trivial⟩) ?_
  rintro i w1 ⟨hb1, hi, hJ, hBl1⟩
  have hz1 := hb1.size
  refine i_seq ?_
  refine i_seq ?_
  refine i_region ?_
  refine ist (s_move rfl ?_)
  refine ist (s_ge rfl rfl ?_)
  refine i_end ?_
  refine in_then ?_
  refine i_condP rfl (fun h1 => ?_) (fun h1 => ?_)
  · refine i_skip' ?_
    refine in_then ?_
    refine i_seq ?_
    refine i_block ?_
    refine i_seq ?_
    refine i_region ?_
    refine ist (s_move rfl ?_)
    refine ist (s_move rfl ?_)
    refine ist (s_load one32 rfl hBl1.range (j := 0) rfl ?_)
    refine ist (s_move rfl ?_)
    refine ist (s_idx sl32 rfl rfl (hS.at0 hb1) (by omega) (by omega) ?_)
    rintro b1 o1 _ ⟨rfl, hr1⟩ hc1 hF1 hlt1
    have hl_1 := Loc.lt hF1
    refine ist (s_load one44 rfl hc1 (j := 0) rfl ?_)
    obtain ⟨pre, hJp, hpm⟩ := hJ
    have hpl := congrArg List.length hpm
    rw [List.length_map, bkt_len] at hpl
    have hY1 := hY pre ⟨(i, ix xs i), by show 0 ≤ i; omega, by show i < _; omega, rfl⟩ w1 hJp (by rw [hpl]; omega)
    refine i_yield rfl rfl hY1 ?_
    rintro _ W3 (⟨rfl, hJ3, hk3⟩ | ⟨rfl, hJ3⟩)
    · refine ⟨_, rfl, ?_⟩
      have hb2 := hb1.trans hk3.2
      have hbk1 := hBl1.kpl hk3
      have hz9 := hb2.size
      refine ist (s_not rfl ?_)
      refine i_end ?_
      refine in_then ?_
      refine i_condF rfl ?_
      refine i_skip' ?_
      refine n_block ?_
      refine in_then ?_
      refine i_region ?_
      refine ist (s_move rfl ?_)
      refine ist (s_sub rfl rfl (by omega) ?_)
      refine ist (s_assign rfl ?_)
      refine i_end ?_
      exact n_round ((i - 1)) ⟨hb2, by omega, ⟨pre ++ [_], hJ3, by rw [List.map_append, hpm, show ((xs.length : Int) - 1 - (i - 1)).toNat = ((xs.length : Int) - 1 - i).toNat + 1 by omega, bkt_succ, show (xs.length : Int) - 1 - (((xs.length : Int) - 1 - i).toNat : Nat) = i by omega]; rfl⟩, hbk1⟩ (by omega) (by exact ⟨rfl, rfl, rfl, trivial⟩)
    · refine ⟨_, rfl, ?_⟩
      refine ist (s_not rfl ?_)
      refine i_end ?_
      refine in_then ?_
      refine i_condT rfl ?_
      refine i_ret ?_
      refine n_block_ret ?_
      refine n_then_ret ?_
      refine n_then_ret ?_
      refine n_block_ret ?_
      refine n_ret0 rfl ?_
      exact ⟨⟨_, rfl⟩, .inr ⟨pre ++ [_], ⟨((xs.length : Int) - 1 - i).toNat + 1, by omega, by rw [List.map_append, hpm, bkt_succ, show (xs.length : Int) - 1 - (((xs.length : Int) - 1 - i).toNat : Nat) = i by omega]; rfl⟩, hJ3⟩⟩
  · refine i_exit' ?_
    refine n_then_exit ?_
    refine n_then_exit ?_
    refine n_block_exit ?_
    refine n_end0 (fn := Try.f91) rfl ?_
    obtain ⟨pre, hJp, hpm⟩ := hJ
    exact ⟨⟨_, rfl⟩, .inl ⟨pre, by show List.map _ _ = _; rw [hpm, show ((xs.length : Int) - 1 - i).toNat = xs.length by omega], hJp⟩⟩

theorem right_any {w : World} {a : Value} {xs : List Int} (ha : Sl Kd.u32 w (fun _ => False) a xs) :
    Calls Try.prog 38 [a].toArray w (Pure w fun v _ => v = .bool (rightB xs)) := by
  have hb0 := Below.refl w.heap.size w
  have hln1 := ha.lenle
  refine enter Try.func38 rfl rfl ?_
  refine w_seq ?_
  refine w_region ?_
  refine st (s_assign rfl ?_)
  refine r_end ?_
  refine n_then ?_
  refine w_seq ?_
  refine w_region ?_
  refine st (s_move rfl ?_)
  refine st (s_len sl32 rfl (ha.at0 hb0) ?_)
  refine st (s_eq rfl rfl ?_)
  refine st (s_move rfl ?_)
  refine r_caseP 6 rfl (fun h1 => ?_) (fun h1 => ?_)
  · refine s_pass rfl rfl ?_
    refine s_pass rfl rfl ?_
    refine s_pass rfl rfl ?_
    refine s_pass rfl rfl ?_
    refine s_pass rfl rfl ?_
    refine s_pass rfl rfl ?_
    refine s_pass rfl rfl ?_
    refine st (s_pick rfl rfl ?_)
    refine st (s_assign rfl ?_)
    refine r_end ?_
    refine n_then ?_
    refine w_ret1 rfl rfl ?_
    exact ⟨_, rfl, hb0, by rw [right_nil h1]⟩
  · refine stg (s_move rfl ?_)
    refine stg (s_move rfl ?_)
    refine stg (s_len sl32 rfl (ha.at0 hb0) ?_)
    refine stg (s_sub rfl rfl (by omega) ?_)
    refine stg (s_idx sl32 rfl rfl (ha.at0 hb0) (by omega) (by omega) ?_)
    rintro b1 o1 _ ⟨rfl, hr1⟩ hc1 hF1 hlt1
    have hl_1 := Loc.lt hF1
    refine stg (s_load one44 rfl hc1 (j := 0) rfl ?_)
    refine stg (s_ne rfl rfl ?_)
    refine st (s_pick rfl rfl ?_)
    refine st (s_assign rfl ?_)
    refine r_end ?_
    refine n_then ?_
    refine w_ret1 rfl rfl ?_
    exact ⟨_, rfl, hb0, by rw [right_ne h1]⟩

theorem rright_any {w : World} {a : Value} {xs : List Int} (ha : Sl Kd.u32 w (fun _ => False) a xs) :
    Calls Try.prog 39 [a].toArray w (Pure w fun v _ => v = .bool (rightB xs)) := by
  have hb0 := Below.refl w.heap.size w
  have hln1 := ha.lenle
  refine enter Try.func39 rfl rfl ?_
  refine w_seq ?_
  refine w_region ?_
  refine st (s_assign rfl ?_)
  refine r_end ?_
  refine n_then ?_
  refine w_seq ?_
  refine w_region ?_
  refine st (s_move rfl ?_)
  refine st (s_len sl32 rfl (ha.at0 hb0) ?_)
  refine st (s_eq rfl rfl ?_)
  refine st (s_move rfl ?_)
  refine r_caseP 6 rfl (fun h1 => ?_) (fun h1 => ?_)
  · refine s_pass rfl rfl ?_
    refine s_pass rfl rfl ?_
    refine s_pass rfl rfl ?_
    refine s_pass rfl rfl ?_
    refine s_pass rfl rfl ?_
    refine s_pass rfl rfl ?_
    refine s_pass rfl rfl ?_
    refine st (s_pick rfl rfl ?_)
    refine st (s_assign rfl ?_)
    refine r_end ?_
    refine n_then ?_
    refine w_ret1 rfl rfl ?_
    exact ⟨_, rfl, hb0, by rw [right_nil h1]⟩
  · refine stg (s_move rfl ?_)
    refine stg (s_move rfl ?_)
    refine stg (s_len sl32 rfl (ha.at0 hb0) ?_)
    refine stg (s_sub rfl rfl (by omega) ?_)
    refine stg (s_idx sl32 rfl rfl (ha.at0 hb0) (by omega) (by omega) ?_)
    rintro b1 o1 _ ⟨rfl, hr1⟩ hc1 hF1 hlt1
    have hl_1 := Loc.lt hF1
    refine stg (s_load one44 rfl hc1 (j := 0) rfl ?_)
    refine stg (s_ne rfl rfl ?_)
    refine st (s_pick rfl rfl ?_)
    refine st (s_assign rfl ?_)
    refine r_end ?_
    refine n_then ?_
    refine w_ret1 rfl rfl ?_
    exact ⟨_, rfl, hb0, by rw [right_ne h1]⟩

theorem cut_any {w : World} {F : Nat → Prop} {a : Value} {xs : List Int} (ha : Sl Kd.u32 w F a xs) :
    Calls Try.prog 74 [a].toArray w (Pure w fun v _ => Sl Kd.u32 w F v (tl (nv xs))) := by
  have hb0 := Below.refl w.heap.size w
  have hln1 := ha.lenle
  refine enter Try.func74 rfl rfl ?_
  refine w_seq ?_
  refine w_region ?_
  refine st (s_assign rfl ?_)
  refine r_end ?_
  refine n_then ?_
  refine w_seq ?_
  refine w_block ?_
  refine w_loop (α := Value × List Int) (fun ((v, ys) : Value × List Int) => [(0, v), (2, .slice none 0 0)]) (fun ((v, ys) : Value × List Int) W => Below w.heap.size w W ∧ (Sl Kd.u32 w F v ys) ∧ (nv ys = nv xs)) (fun ((v, ys) : Value × List Int) => ys.length) ((a), (xs)) ⟨hb0, ha, rfl⟩ (by exact ⟨rfl, rfl, trivial⟩) ?_
  rintro ⟨v, ys⟩ w1 ⟨hb1, hv, hn⟩
  dsimp only at *
  have hz1 := hb1.size
  have hln9 := hv.lenle
  refine w_seq ?_
  refine w_seq ?_
  refine w_region ?_
  refine st (s_move rfl ?_)
  refine st (s_call fn38 rfl (right_any ((hv.at0 hb1)).none) ?_)
  rintro _ w2 ⟨hq1, rfl⟩
  have k1 := grown_of_below hq1 none
  have hz2 := hq1.size
  have hb2 := below_g0 hb1 k1
  have hz3 := hb2.size
  refine st (s_not rfl ?_)
  refine r_end ?_
  refine n_then ?_
  refine w_cond rfl (fun h1 => ?_) (fun h1 => ?_)
  · have hc2 := nv_cut (by simpa using h1)
    refine w_skip' ?_
    refine n_then ?_
    refine w_block ?_
    refine w_region ?_
    refine st (s_move rfl ?_)
    refine st (s_move rfl ?_)
    refine st (s_len sl32 rfl (hv.at0 hb2) ?_)
    refine st (s_sub rfl rfl (by omega) ?_)
    refine st (s_slhi sl32 rfl rfl (hv.at0 hb2) (by first | omega | (simp; omega)) (by first | omega | (simp; omega)) ?_)
    intro v1 hS1
    refine st (s_assign rfl ?_)
    refine r_end ?_
    refine n_block ?_
    exact n_round ((v1), (ys.take (((ys.length : Int) - 1)).toNat)) ⟨hb2, (hS1).orig u32_flat hb2, by rw [show ((ys.length : Int) - 1).toNat = ys.length - 1 by omega]; exact hc2.2.trans hn⟩ (by simp; omega) (by exact ⟨rfl, rfl, trivial⟩)
  · have hc3 : rightB ys = true := by simpa using h1
    refine w_exit' ?_
    refine n_then_exit ?_
    refine n_then_exit ?_
    refine n_block_exit ?_
    refine n_then ?_
    refine w_seq ?_
    refine w_region ?_
    refine st (s_move rfl ?_)
    refine st (s_assign rfl ?_)
    refine r_end ?_
    refine n_then ?_
    refine w_ret1 rfl rfl ?_
    exact ⟨_, rfl, hb2, by rw [← hn, tl_nv (lim_sl hv) hc3]; exact hv⟩

theorem clone_any {w : World} {a : Value} {xs : List Int} (ha : Sl Kd.u32 w (fun _ => False) a xs) (hlen : xs.length ≤ 1000000000) :
    Calls Try.prog 72 [a].toArray w (Pure w fun v W => Gw.Own Kd.u32 44 w.heap.size W (fun _ => False) v xs) := by
  have hb0 := Below.refl w.heap.size w
  have hln1 := ha.lenle
  refine enter Try.func72 rfl rfl ?_
  refine w_seq ?_
  refine w_region ?_
  refine st (s_assign rfl ?_)
  refine r_end ?_
  refine n_then ?_
  refine w_seq ?_
  refine w_seq ?_
  refine w_region ?_
  refine st (s_move rfl ?_)
  refine st (s_slnil sl32 rfl rfl (ha.at0 hb0) ?_)
  refine r_end ?_
  refine n_then ?_
  refine w_cond rfl (fun h1 => ?_) (fun h1 => ?_)
  · refine w_seq ?_
    refine w_region ?_
    refine st (s_assign rfl ?_)
    refine r_end ?_
    refine n_then ?_
    refine w_ret1 rfl rfl ?_
    have e := nil_of_nilS (ha.at0 hb0) h1
    subst e
    exact ⟨_, rfl, hb0, Own.nil _ _ _ _ _⟩
  · refine w_skip' ?_
    refine n_then ?_
    refine w_seq ?_
    refine w_region ?_
    refine st (s_bslice0 (K := Kd.u32) (base := w.heap.size) (F := (fun _ => False)) sl32 (by omega) (fun _ h => h.elim) ?_)
    intro v1 w1 hO1 k1
    have hb1 := below_g0 hb0 k1
    have hz1 := hb1.size
    refine st (s_move rfl ?_)
    refine st (s_append (K := Kd.u32) sl32 rfl rfl hO1 ((ha.at0 hb1).weak (fun k hk h => h.elim (fun h => by first | exact h.elim | exact h | exact Or.inl h) (fun h => by have h9 := (hO1.lt k h).1; first | exact Or.inr h9 | (simp [Loc]; omega)))) u32_ones (by simp; omega) (by simp; omega) (by first | exact Nat.le_refl _ | omega) (fun _ h => h.elim) ?_)
    intro v2 w2 hO2 k2 hr1
    rw [List.nil_append] at hO2
    have hb2 := hb1.grown k2 hb1.size (fun k_ hk_ => (hO1.lt k_ hk_).1)
    have hz2 := hb2.size
    refine st (s_assign rfl ?_)
    refine r_end ?_
    refine n_then ?_
    refine w_ret1 rfl rfl ?_
    exact ⟨_, rfl, hb2, hO2⟩

theorem norm_any {w : World} {a : Value} {xs : List Int} (ha : Sl Kd.u32 w (fun _ => False) a xs) (hlen : xs.length ≤ 1000000000) :
    Calls Try.prog 40 [a].toArray w (Pure w fun v W => Sl Kd.u32 W (fun _ => False) v (tl (nv xs))) := by
  have hb0 := Below.refl w.heap.size w
  have hln1 := ha.lenle
  refine enter Try.func40 rfl rfl ?_
  refine w_seq ?_
  refine w_region ?_
  refine st (s_assign rfl ?_)
  refine r_end ?_
  refine n_then ?_
  refine w_seq ?_
  refine w_region ?_
  refine st (s_move rfl ?_)
  refine st (s_call fn72 rfl (clone_any ((ha.at0 hb0)).none (by first | omega | (simp; done) | (simp; omega))) ?_)
  rintro v1 w1 ⟨hq1, hO2⟩
  have k1 := grown_of_below hq1 none
  have hz1 := hq1.size
  have hb1 := below_g0 hb0 k1
  have hz2 := hb1.size
  have hO1 := hO2.rebase (b' := w.heap.size) (by omega)
  refine st (s_call fn74 rfl (cut_any hO1.sl) ?_)
  rintro v2 w2 ⟨hq2, hS1⟩
  have k2 := grown_of_below hq2 none
  have hz3 := hq2.size
  have hb2 := below_g0 hb1 k2
  have hz4 := hb2.size
  have hO3 := hO1.g0 k2
  have hS2 := hS1.none.g0 k2
  refine st (s_assign rfl ?_)
  refine r_end ?_
  refine n_then ?_
  refine w_ret1 rfl rfl ?_
  exact ⟨_, rfl, hb2, hS2⟩

theorem back_any {w : World} {a : Value} {xs : List Int} (ha : Sl Kd.u32 w (fun _ => False) a xs) :
    Calls Try.prog 79 [a].toArray w (Pure w fun r W => ∃ gb, r = .func (.func 91) #[] #[.pointer (some ⟨gb, 0, none⟩)] ∧ w.heap.size ≤ gb ∧ Blk W gb 32 #[a]) := by
  have hb0 := Below.refl w.heap.size w
  have hln1 := ha.lenle
  refine enter Try.func79 rfl rfl ?_
  refine w_seq ?_
  refine w_region ?_
  refine st (s_box1 rfl ha.cells1 ?_)
  intro g1 w1 hg1 hB1 k1 hs1
  have hb1 := below_g0 hb0 k1
  refine st (s_assign rfl ?_)
  refine r_end ?_
  refine n_then ?_
  refine w_seq ?_
  refine w_region ?_
  refine st (s_func rfl rfl ?_)
  refine st (s_assign rfl ?_)
  refine r_end ?_
  refine n_then ?_
  refine w_ret1 rfl rfl ?_
  exact ⟨_, rfl, hb1, _, rfl, by omega, hB1⟩

theorem cmp_any {w : World} {a b : Value} {xs ys : List Int} (ha : Sl Kd.u32 w (fun _ => False) a xs) (hb : Sl Kd.u32 w (fun _ => False) b ys) :
    Calls Try.prog 28 [a, b].toArray w (Pure w fun v _ => v = .int .i64 (cmpI (nv xs) (nv ys))) := by
  have hb0 := Below.refl w.heap.size w
  have hln1 := ha.lenle
  have hln2 := hb.lenle
  refine menter 10 Try.func28 rfl rfl ?_
  refine w_seq ?_
  refine w_region ?_
  refine st (s_box1 rfl hb.cells1 ?_)
  intro g1 w1 hg1 hB1 k1 hs1
  have hb1 := below_g0 hb0 k1
  refine st (s_alloc zero3 ?_)
  intro g2 w2 hg2 hB2 k2 hs2
  have hb2 := below_g0 hb1 k2
  refine r_end ?_
  refine n_then ?_
  refine w_seq ?_
  refine w_drawE 5 (fun a b => a.grownBy b none) [(some 7, fun v _ => v = a), (some 8, fun v _ => Sl Kd.u32 w (fun _ => False) v (tl (nv xs))), (some 9, fun v _ => Sl Kd.u32 w (fun _ => False) v ys), (some 10, fun v _ => Sl Kd.u32 w (fun _ => False) v (tl (nv ys))), (some 0, fun v _ => Sl Kd.u32 w (fun _ => False) v (tl (nv xs)))] [[], [0], [], [2], [1]] [(3, .pointer (some ⟨g1, 0, none⟩)), (4, .pointer (some ⟨g2, 0, none⟩))] [(0, a)] [true, false, false, false, false] (by exact ⟨rfl, rfl, trivial⟩) (by exact ⟨rfl, trivial⟩) (by kernel_rfl) (by kernel_rfl) (by kernel_rfl) (by kernel_rfl) grown_none_refl (fun _ _ _ => grown_none_trans) ⟨fun _ _ _ h _ => h, fun _ _ _ h _ => h, fun _ _ _ h _ => h, fun _ _ _ h _ => h, fun _ _ _ h _ => h, trivial⟩ ?_
  intro w5 k5 hs3
  have hb3 := below_g0 hb2 k5
  refine ⟨⟨?_, ?_, ?_, ?_, ?_, trivial⟩, ?_⟩
  · intro w6 k6
    have hb4 := below_g0 hb3 k6
    refine op1 (s_move rfl ?_)
    exact ⟨rfl, grown_none_refl _⟩
  · intro w7 k7
    have hb5 := below_g0 hb3 k7
    intro v_ hv_; subst v_
    refine op1 (s_call fn74 rfl (cut_any (ha.at0 hb5)) ?_)
    rintro v3 w8 ⟨hq3, hS5⟩
    have hS6 := hS5.orig u32_flat hb5
    have k8 := grown_of_below hq3 none
    have hz1 := hq3.size
    have hb6 := below_g0 hb5 k8
    have hz2 := hb6.size
    exact ⟨hS6, k8⟩
  · intro w9 k9
    have hb7 := below_g0 hb3 k9
    refine op1 (s_load one32 rfl (((hB1.g0 k2).g0 k5).g0 k9).range (j := 0) rfl ?_)
    exact ⟨hb, grown_none_refl _⟩
  · intro w10 k10
    have hb8 := below_g0 hb3 k10
    intro v4 hS7
    refine op1 (s_call fn74 rfl (cut_any (hS7.at0 hb8)) ?_)
    rintro v5 w11 ⟨hq4, hS8⟩
    have hS9 := hS8.orig u32_flat hb8
    have k11 := grown_of_below hq4 none
    have hz3 := hq4.size
    have hb9 := below_g0 hb8 k11
    have hz4 := hb9.size
    exact ⟨hS9, k11⟩
  · intro w12 k12
    have hb10 := below_g0 hb3 k12
    intro v6 hS10
    refine op1 (s_assign rfl ?_)
    exact ⟨hS10, grown_none_refl _⟩
  · intro w13 k13
    have hb11 := below_g0 hb3 k13
    intro v_ hv_; subst v_
    intro v7 hS11
    intro v8 hS12
    intro v9 hS13
    intro v10 hS14
    refine st0 (s_store one32 rfl rfl (hS13.one) (((hB1.g0 k2).g0 k5).g0 k13) (of_decide_eq_true rfl) ?_)
    intro w14 hB3 k14 hs4
    have hb12 := below_g hb11 k14 (by omega)
    refine r_end ?_
    refine n_then ?_
    refine w_seq ?_
    refine w_seq ?_
    refine w_region ?_
    refine st (s_move rfl ?_)
    refine st (s_len sl32 rfl (hS14.at0 hb12) ?_)
    refine st (s_load one32 rfl hB3.range (j := 0) rfl ?_)
    refine st (s_len sl32 rfl (hS13.at0 hb12) ?_)
    refine st (s_ne rfl rfl ?_)
    refine r_end ?_
    refine n_then ?_
    refine w_condP rfl (fun h1 => ?_) (fun h1 => ?_)
    · refine w_seq ?_
      refine w_seq ?_
      refine w_region ?_
      refine st (s_move rfl ?_)
      refine st (s_len sl32 rfl (hS14.at0 hb12) ?_)
      refine st (s_load one32 rfl hB3.range (j := 0) rfl ?_)
      refine st (s_len sl32 rfl (hS13.at0 hb12) ?_)
      refine st (s_lt rfl rfl ?_)
      refine r_end ?_
      refine n_then ?_
      refine w_condP rfl (fun h2 => ?_) (fun h2 => ?_)
      · refine w_seq ?_
        refine w_region ?_
        refine st0 (s_store one3 rfl rfl rfl (((hB2.g0 k5).g0 k13).gne k14 (by omega)) (of_decide_eq_true rfl) ?_)
        intro w15 hB4 k15 hs5
        have hb13 := below_g hb12 k15 (by omega)
        refine r_end ?_
        refine n_then ?_
        refine w_ret' ?_
        refine n_then_ret ?_
        refine n_then_ret ?_
        exact m_retc rfl one3 rfl hB4 rfl ⟨_, rfl, hb13, by rw [cmpI_lt (cmp_len (nv_nonneg (lim_sl ha)) (nv_nonneg (lim_sl hb)) (by omega))]; rfl⟩
      · refine w_skip' ?_
        refine n_then ?_
        refine w_seq ?_
        refine w_region ?_
        refine st0 (s_store one3 rfl rfl rfl (((hB2.g0 k5).g0 k13).gne k14 (by omega)) (of_decide_eq_true rfl) ?_)
        intro w16 hB5 k16 hs6
        have hb14 := below_g hb12 k16 (by omega)
        refine r_end ?_
        refine n_then ?_
        refine w_ret' ?_
        refine n_then_ret ?_
        exact m_retc rfl one3 rfl hB5 rfl ⟨_, rfl, hb14, by rw [cmpI_gt (cmp_len (nv_nonneg (lim_sl hb)) (nv_nonneg (lim_sl ha)) (by omega))]; rfl⟩
    · refine w_skip' ?_
      refine n_then ?_
      refine w_seq ?_
      refine w_seq ?_
      refine w_region ?_
      refine st (s_move rfl ?_)
      refine st (s_call fn79 rfl (back_any ((hS14.at0 hb12)).none) ?_)
      rintro _ w17 ⟨hq5, gb1, rfl, hg3, hB6⟩
      have k17 := grown_of_below hq5 none
      have hz5 := hq5.size
      have hb15 := below_g0 hb12 k17
      have hz6 := hb15.size
      refine r_end ?_
      refine n_then ?_
      refine w_block ?_
      have hzz1 := k1.size
      have hzz2 := k2.size
      have hzz3 := k5.size
      have hzz4 := k13.size
      have hzz5 := k14.size
      have hzz6 := k17.size
      refine i_range (xs := (tl (nv xs))) (n0 := w.heap.size) rfl fn91 (back_stops hS14 hb15 hB6) (hB6.lt) (by omega) (fun pre W => (∀ p ∈ pre, p.1.2 = ix (tl (nv ys)) p.1.1) ∧ Below w.heap.size w W ∧ Blk W g2 3 #[.int .i64 0] ∧ Blk W g1 32 #[v9]) (fun c pre W => c = .ret ∧ ∃ (pre0 : List (LX (tl (nv xs)))) (x : LX (tl (nv xs))) (r : Int), pre = pre0 ++ [x] ∧ (∀ p ∈ pre0, p.1.2 = ix (tl (nv ys)) p.1.1) ∧ ((r = -1 ∧ x.1.2 < ix (tl (nv ys)) x.1.1) ∨ (r = 1 ∧ ix (tl (nv ys)) x.1.1 < x.1.2)) ∧ Below w.heap.size w W ∧ Blk W g2 3 #[.int .i64 r]) (fun s A B row h hg hr => ⟨h.1, Below.ownK h.2.1 (Nat.le_refl _) (by omega) hg hr, h.2.2.1.ownK hg hr, h.2.2.2.ownK hg hr⟩) (fun c s A B row h hg hr => by
          obtain ⟨rfl, pre0, x, r, e, h1, h2, h3, h4⟩ := h
          exact ⟨rfl, pre0, x, r, e, h1, h2, Below.ownK h3 (Nat.le_refl _) (by omega) hg hr, h4.ownK hg hr⟩) (⟨fun p hp => by (cases hp), hb15, ((((hB2.g0 k5).g0 k13).gne k14 (by omega)).g0 k17), (hB3.g0 k17)⟩) (fun x => [(3, .pointer (some ⟨g1, 0, none⟩)), (4, .pointer (some ⟨g2, 0, none⟩)), (5, .int .i64 x.1.1), (6, .int .u32 x.1.2), (22, .func (.func 91) #[] #[.pointer (some ⟨gb1, 0, none⟩)])]) (fun l x W => ?_) (fun l pre x W hl hi hlen => ?_) (fun Dk zs W hD hS hi hK => ?_) (fun Dk c pre W hD hS hi hK => ?_)
      · refine i_seq ?_
        refine i_region ?_
        refine ist (s_assign rfl ?_)
        refine i_end ?_
        refine in_then ?_
        refine i_region ?_
        refine ist (s_assign rfl ?_)
        refine i_end ?_
        exact n_set (by exact ⟨rfl, rfl, rfl, rfl, rfl, trivial⟩)
      · obtain ⟨hpe, hbW, hrW, hgW⟩ := hi
        have hzW := hbW.size
        obtain ⟨hx0, hx1, hx2⟩ := x.2
        refine i_block ?_
        refine i_block ?_
        refine i_seq ?_
        refine i_region ?_
        refine ist (s_move rfl ?_)
        refine ist (s_load one32 rfl hgW.range (j := 0) rfl ?_)
        refine ist (s_move rfl ?_)
        refine ist (s_idx sl32 rfl rfl (hS13.at0 hbW) (by omega) (by omega) ?_)
        rintro b1 o1 _ ⟨rfl, hr1⟩ hc1 hF1 hlt1
        have hl_1 := Loc.lt hF1
        refine ist (s_load one44 rfl hc1 (j := 0) rfl ?_)
        refine ist (s_lt rfl rfl ?_)
        refine ist (s_assign rfl ?_)
        refine i_end ?_
        refine in_then ?_
        refine i_condP rfl (fun h3 => ?_) (fun h3 => ?_)
        · refine i_seq ?_
          refine i_region ?_
          refine ist0 (s_store one3 rfl rfl rfl hrW (of_decide_eq_true rfl) ?_)
          intro w18 hB7 k18 hs7
          have hb16 := below_g hbW k18 (by omega)
          clear hrW
          refine i_end ?_
          refine in_then ?_
          refine i_ret ?_
          refine n_block_ret ?_
          refine n_block_ret ?_
          exact n_own_ret ⟨KeepsFrom.of_grownBy k18 (fun j e => by cases e; omega), rfl, pre, x, _, rfl, hpe, .inl ⟨rfl, by omega⟩, hb16, hB7⟩
        · refine i_seq ?_
          refine i_region ?_
          refine ist (s_move rfl ?_)
          refine ist (s_load one32 rfl hgW.range (j := 0) rfl ?_)
          refine ist (s_move rfl ?_)
          refine ist (s_idx sl32 rfl rfl (hS13.at0 hbW) (by omega) (by omega) ?_)
          rintro b2 o2 _ ⟨rfl, hr2⟩ hc2 hF2 hlt2
          have hl_2 := Loc.lt hF2
          refine ist (s_load one44 rfl hc2 (j := 0) rfl ?_)
          refine ist (s_gt rfl rfl ?_)
          refine ist (s_assign rfl ?_)
          refine i_end ?_
          refine in_then ?_
          refine i_condP rfl (fun h4 => ?_) (fun h4 => ?_)
          · refine i_seq ?_
            refine i_region ?_
            refine ist0 (s_store one3 rfl rfl rfl hrW (of_decide_eq_true rfl) ?_)
            intro w19 hB8 k19 hs8
            have hb17 := below_g hbW k19 (by omega)
            clear hrW
            refine i_end ?_
            refine in_then ?_
            refine i_ret ?_
            refine n_block_ret ?_
            refine n_block_ret ?_
            exact n_own_ret ⟨KeepsFrom.of_grownBy k19 (fun j e => by cases e; omega), rfl, pre, x, _, rfl, hpe, .inr ⟨rfl, by omega⟩, hb17, hB8⟩
          · refine i_skip' ?_
            refine n_block ?_
            refine n_block ?_
            exact n_own ⟨KeepsFrom.refl _ _, ⟨rfl, Below.refl _ _⟩, fun p hp => by
                rcases List.mem_append.1 hp with hp | hp
                · exact hpe p hp
                · rw [List.mem_singleton.1 hp]; omega, hbW, hrW, hgW⟩
      · obtain ⟨hpe, hbW, hrW, hgW⟩ := hi
        have hzW := hbW.size
        have hneD : g2 ≠ Dk := by
          rintro rfl
          rw [show W.heap[_]? = _ from hrW] at hK
          cases hK
        refine n_block ?_
        refine n_then ?_
        refine w_seq ?_
        refine w_region ?_
        refine st0 (s_store one3 rfl rfl rfl hrW (of_decide_eq_true rfl) ?_)
        intro w20 hB9 k20 hs9
        have hb18 := below_g hbW k20 (by omega)
        clear hrW
        refine r_end ?_
        refine n_then ?_
        refine w_ret' ?_
        have hK2 := (k20.block Dk (Array.getElem?_eq_some_iff.1 hK).1 (fun e => hneD (by cases e; rfl))).trans hK
        exact m_retc' rfl one3 rfl hB9 rfl hK2 ⟨_, rfl, Below.mark hb18 (Nat.le_refl _) (by omega) hK2, by rw [cmp_full (nv_nonneg (lim_sl ha)) (nv_nonneg (lim_sl hb)) (by omega) hS hpe]; rfl⟩
      · obtain ⟨rfl, pre0, x, r, rfl, hpe, hr, hbW, hrW⟩ := hi
        obtain ⟨k, hk, hpk⟩ := hS
        refine w_ret' ?_
        refine n_block_ret ?_
        refine n_then_ret ?_
        have hst := cmp_stop (nv_nonneg (lim_sl ha)) (nv_nonneg (lim_sl hb)) (by omega) hpk hpe
        have hv : r = cmpI (nv xs) (nv ys) := hr.elim (fun h => by rw [h.1, hst.1 h.2]) (fun h => by rw [h.1, hst.2 h.2])
        exact m_retc' rfl one3 rfl hrW rfl hK ⟨_, rfl, Below.mark hbW (Nat.le_refl _) (by omega) hK, by rw [hv]; rfl⟩
end Go.Proofs.Ytencmmhfiepojaa
