/- Part of the proof: a library for walks, plain laws, and functions' walks. -/
import Derived.Test.YtfljelnfjbbknaaM5
import Derived.Test.YtfljelnfjbbknaaRows
import Derived.Test.YtfljelnfjbbknaaM3
import Derived.Test.YtfljelnfjbbknaaM4
set_option linter.unusedSimpArgs false
set_option linter.unusedVariables false
set_option maxRecDepth 20000
namespace Go.Gw
open Go.RowKit
theorem Zkv {n : Int} (h : 0 ≤ n) : ((n.natAbs : Nat) : Int) = n := by omega
theorem spot_in {x y v : Int} (h : 1 ≤ v) : inC ⟨x, y, 0⟩ v = (!decide (x + hf v < 0) && !decide (y + hf v < 0) && decide (Zeb (nv (ml (x + hf v))) ≤ v) && decide (Zeb (nv (ml (y + hf v))) ≤ v)) := by
  have p := Zc0 v
  unfold inC
  rw [Zc7, Zc7]
  by_cases hx : x + hf v < 0
  · rw [decide_eq_true hx]; simp; omega
  · by_cases hy : y + hf v < 0
    · rw [decide_eq_true hy]; simp; omega
    · rw [decide_eq_false hx, decide_eq_false hy, Zkv om, Zkv om]
      have e1 := len_in (n := x + hf v) h om
      have e2 := len_in (n := y + hf v) h om
      simp only [Bool.not_false, Bool.true_and]
      rw [← Bool.decide_and]
      refine decide_eq_decide.2 ?_
      rw [e1, e2]
      omega
theorem kq_bits {A B v : Int} (h : 1 ≤ v) (hA : 0 ≤ A) (hB : 0 ≤ B) : kq v (A % (2 * hf v)) (B % (2 * hf v)) = (if Zex (nv (ml A)) (v - 1) then 1 else 0) + (if Zex (nv (ml B)) (v - 1) then 2 else 0) := by
  rw [Zc7, Zc7, Zkv hA, Zkv hB, bit_half h hA, bit_half h hB]
  unfold kq
  simp only [decide_eq_true_eq]
structure At (l : List Nd) (n A B C : Int) : Prop where
  r : 0 ≤ n ∧ n ≤ l.length
  no : n = 0 → C = 0
  yes : 0 < n → cat (tr l n) (A % (2 * hf (ix l (n - 1)).lv)) (B % (2 * hf (ix l (n - 1)).lv)) = C
theorem at_start {l : List Nd} (hl : l ≠ []) {x y : Int} (hin : inC ⟨x, y, 0⟩ (Zag l) = true) : At l l.length (x + hf (Zag l)) (y + hf (Zag l)) (Zcy l x y) := by
  have h0 : l.length ≠ 0 := fun e => hl (List.eq_nil_of_length_eq_zero e)
  have hv : (ix l ((l.length : Int) - 1)).lv = Zag l := by unfold Zag; rw [if_neg h0]
  unfold inC at hin; rw [decide_eq_true_eq] at hin
  simp only at hin
  refine ⟨by omega, fun e => by omega, fun _ => ?_⟩
  rw [hv, Zjo om, Zjo om]; rfl
theorem at_next {l : List Nd} (hl : Zaf l = true) {n A B C : Int} (h : At l n A B C) (h0 : 0 < n) (hv : (ix l (n - 1)).lv ≠ 1) : At l ((ix l (n - 1)).kid (kq (ix l (n - 1)).lv (A % (2 * hf (ix l (n - 1)).lv)) (B % (2 * hf (ix l (n - 1)).lv)))) A B C := by
  have hr := h.r
  have hlv := Ze9 hl (i := n - 1) om om
  have hk := Zey (ix l (n - 1)).lv (A % (2 * hf (ix l (n - 1)).lv)) (B % (2 * hf (ix l (n - 1)).lv))
  have hc := h.yes h0
  rw [get_nd hl om hr.2 hv, Zke om, Zke om] at hc
  have kr := Zc1 hl (i := n - 1) om om hv _ hk.1 hk.2
  refine ⟨⟨kr.1, by omega⟩, fun e => ?_, fun hp => ?_⟩
  · rw [e, Zc8] at hc; exact hc.symm
  · have e := Zdm hl (i := n - 1) om om hk.1 hk.2 hv om
    rw [e.2.2]; exact hc
theorem at_leaf {l : List Nd} (hl : Zaf l = true) {n A B C : Int} (h : At l n A B C) (h0 : 0 < n) (hv : (ix l (n - 1)).lv = 1) : (ix l (n - 1)).kid (kq (ix l (n - 1)).lv (A % (2 * hf (ix l (n - 1)).lv)) (B % (2 * hf (ix l (n - 1)).lv))) = C ∧ 0 ≤ C ∧ C ≤ 255 := by
  have hr := h.r
  have hc := h.yes h0
  have rA := mod_rng (a := A) (v := (ix l (n - 1)).lv)
  have rB := mod_rng (a := B) (v := (ix l (n - 1)).lv)
  have hk := Zey (ix l (n - 1)).lv (A % (2 * hf (ix l (n - 1)).lv)) (B % (2 * hf (ix l (n - 1)).lv))
  have hv' := hv
  rw [hv] at hc rA rB hk ⊢
  rw [Zhm] at hc rA rB hk ⊢
  rw [get_leaf hl om hr.2 hv rA rB] at hc
  refine ⟨hc, ?_⟩
  have hn : NumIn l n 1 := ⟨hr, fun _ => hv⟩
  have hs := here_st hl hn hk.1 hk.2
  unfold Zl at hs
  rw [if_pos h0, hc] at hs
  exact hs
theorem get_none {l : List Nd} (h : Can l) {x y : Int} (hin : inC ⟨x, y, 0⟩ (Zag l) = false) : Zcy l x y = 0 := celQ_out h fun hn => by
  unfold inC at hin; rw [decide_eq_false_iff_not] at hin; exact hin hn
theorem spot_pos {x y v : Int} (h : inC ⟨x, y, 0⟩ v = true) : 0 ≤ x + hf v ∧ 0 ≤ y + hf v := by
  unfold inC at h; rw [decide_eq_true_eq] at h; simp only at h; omega
theorem celQ_rng {l : List Nd} (h : Can l) (x y : Int) : 0 ≤ Zcy l x y ∧ Zcy l x y ≤ 255 := by
  have : ∀ (t : Tr) {v X Y : Int}, wf v t → 0 ≤ cat t X Y ∧ cat t X Y ≤ 255 := by
    intro t
    induction t with
    | no => intro v X Y _; exact ⟨Int.le_refl _, by show (0 : Int) ≤ 255; decide⟩
    | leaf a b c d => intro v X Y hw; obtain ⟨_, ha, hb, hc, hd⟩ := hw; simp only [cat]; (repeat' split) <;> first | assumption | omega
    | nd u a b c d ia ib ic id =>
      intro v X Y hw
      obtain ⟨rfl, _, _, ha, hb, hc, hd⟩ := hw
      simp only [cat]
      split
      · split
        · exact ia ha
        · exact ic hc
      · split
        · exact ib hb
        · exact id hd
  exact this _ h.wf
end Go.Gw
namespace Go.Proofs.Ytfljelnfjbbknaa.Lm
open Go.RowKit Go.Gw
theorem zero89 : ZeroF Try.prog 89 #[.slice none 0 0, .slice none 0 0] := ⟨by kernel_rfl⟩
theorem fn89 : FunF Try.prog 89 := ⟨_, _, Try.func89, by decide +kernel, rfl⟩
theorem Zg0 : RowF Try.prog 89 2 := ⟨by kernel_rfl⟩
theorem arr89 : ArrF Try.prog 89 2 29 1 := ⟨by kernel_rfl, by kernel_rfl⟩
theorem fn95 : FunF Try.prog 95 := ⟨_, _, Try.func95, by decide +kernel, rfl⟩
theorem fn58 : FunF Try.prog 58 := ⟨_, _, Try.func58, by decide +kernel, rfl⟩
theorem fn65 : FunF Try.prog 65 := ⟨_, _, Try.func65, by decide +kernel, rfl⟩
theorem fn62 : FunF Try.prog 62 := ⟨_, _, Try.func62, by decide +kernel, rfl⟩
theorem fn66 : FunF Try.prog 66 := ⟨_, _, Try.func66, by decide +kernel, rfl⟩
theorem Zg7 : FieldF Try.prog 95 0 0 := ⟨by kernel_rfl⟩
theorem fld95_1 : FieldF Try.prog 95 1 1 := ⟨by kernel_rfl⟩
theorem fld95_2 : FieldF Try.prog 95 2 3 := ⟨by kernel_rfl⟩
theorem fn60 : FunF Try.prog 60 := ⟨_, _, Try.func60, by decide +kernel, rfl⟩
theorem fn64 : FunF Try.prog 64 := ⟨_, _, Try.func64, by decide +kernel, rfl⟩
theorem fn30 : FunF Try.prog 30 := ⟨_, _, Try.func30, by decide +kernel, rfl⟩
theorem fn59 : FunF Try.prog 59 := ⟨_, _, Try.func59, by decide +kernel, rfl⟩
theorem fn61 : FunF Try.prog 61 := ⟨_, _, Try.func61, by decide +kernel, rfl⟩
theorem fn63 : FunF Try.prog 63 := ⟨_, _, Try.func63, by decide +kernel, rfl⟩
theorem fn28 : FunF Try.prog 28 := ⟨_, _, Try.func28, by decide +kernel, rfl⟩
theorem fn33 : FunF Try.prog 33 := ⟨_, _, Try.func33, by decide +kernel, rfl⟩
theorem fn35 : FunF Try.prog 35 := ⟨_, _, Try.func35, by decide +kernel, rfl⟩
theorem fn25 : FunF Try.prog 25 := ⟨_, _, Try.func25, by decide +kernel, rfl⟩
theorem fn29 : FunF Try.prog 29 := ⟨_, _, Try.func29, by decide +kernel, rfl⟩
theorem fn31 : FunF Try.prog 31 := ⟨_, _, Try.func31, by decide +kernel, rfl⟩
theorem fn32 : FunF Try.prog 32 := ⟨_, _, Try.func32, by decide +kernel, rfl⟩
theorem fn34 : FunF Try.prog 34 := ⟨_, _, Try.func34, by decide +kernel, rfl⟩
theorem fn18 : FunF Try.prog 18 := ⟨_, _, Try.func18, by decide +kernel, rfl⟩
end Go.Proofs.Ytfljelnfjbbknaa.Lm
namespace Go.Proofs.Ytfljelnfjbbknaa.Lm
open Go.RowKit Go.Gw
theorem back_stops {w00 w0 : World} {F : Nat → Prop} {v : Value} {xs : List Int} {gb : Nat} (hS : Sl Kd.u32 w00 F v xs) (hB0 : Below w00.heap.size w00 w0) (hbk0 : Blk w0 gb 29 #[v]) :
  SeqStopsK Fence.wide 9 Try.prog 114 #[(pp gb)] (encL (xs := xs)) (KpL gb w00.heap.size) (fun ys => ys.map (·.1) = bkt xs xs.length) (fun pre => ∃ k, k ≤ xs.length ∧ pre.map (·.1) = bkt xs k) xs.length w0 := by
 intro l J Jx w hW hJa hJxa hY h0
 have hln1 := hS.lenle
 have hb0 := hB0.trans (hW.mono hB0.size)
 have hbk : Blk w gb 29 [v].toArray := (hW.block gb hbk0.lt).trans hbk0
 rw [show (#[Value.func (.yield l) #[] #[]] ++ #[Value.pointer (some ⟨gb, 0, none⟩)] : Array Value) = [.func (.yield l) #[] #[], (pp gb)].toArray from rfl]
 have hz0 := hb0.size
 refine ienter Try.func114 rfl rfl (Zj3 (Zeq (ist (Zt Zcd rfl hbk.range (j := 0) rfl (ist (Zaq Zbx rfl (hS.at0 hb0) (ist (Za7 rfl rfl om (ist (Ze rfl ?_))))))))))
 refine Zi0 (Zfg (i_block (i_loop (α := Int) (fun (i : Int) => [(0, .func (.yield l) #[] #[]), (1, (pp gb)), (3, .int .i64 i)]) (fun (i : Int) W => Below w00.heap.size w00 W ∧ (-1 ≤ i ∧ i < xs.length) ∧ (∃ pre : List (LX xs), J pre W ∧ pre.map (·.1) = bkt xs ((xs.length : Int) - 1 - i).toNat) ∧ (Blk W gb 29 [v].toArray)) (fun (i : Int) => (i + 1).toNat) ((xs.length : Int) - 1) ⟨hb0, by omega, ⟨[], h0, by rw [show ((xs.length : Int) - 1 - ((xs.length : Int) - 1)).toNat = 0 by omega]; rfl⟩, hbk⟩ sb ?_)))
 rintro i w1 ⟨hb1, hi, hJ, hBl1⟩
 have hz1 := hb1.size
 refine Zj3 (Zj3 (Zeq (ist (Zc rfl (ist (Zg3 rfl rfl (Zi0 (Zfg ?_))))))))
 refine i_condP rfl (fun h1 => ?_) (fun h1 => ?_)
 rotate_left
 ·refine i_exit' (Zk (Zk (Zs (n_end0 (fn := Try.f114) rfl ?_))))
  obtain ⟨pre, hJp, hpm⟩ := hJ
  exact ⟨⟨_, rfl⟩, .inl ⟨pre, by show List.map _ _ = _; rw [hpm, show ((xs.length : Int) - 1 - i).toNat = xs.length by omega], hJp⟩⟩
 refine i_skip' (Zfg (Zj3 (i_block (Zj3 (Zeq (ist (Zc rfl ?_)))))))
 refine ist (Zc rfl (ist (Zt Zcd rfl hBl1.range (j := 0) rfl (ist (Zc rfl (ist (Zat Zbx rfl rfl (hS.at0 hb1) om om ?_)))))))
 rintro b1 o1 _ ⟨rfl, hr1⟩ hc1 hF1 hlt1
 have hl_1 := Loc.lt hF1
 refine ist (Zt Zde rfl hc1 (j := 0) rfl ?_)
 obtain ⟨pre, hJp, hpm⟩ := hJ
 have hpl := congrArg List.length hpm
 rw [List.length_map, bkt_len] at hpl
 have hY1 := hY pre ⟨(i, ix xs i), by show 0 ≤ i; omega, by show i < _; omega, rfl⟩ w1 hJp (by rw [hpl]; omega)
 refine i_yield rfl rfl hY1 ?_
 rintro _ W3 (⟨rfl, hJ3, hk3⟩ | ⟨rfl, hJ3⟩)
 ·refine ⟨_, rfl, ?_⟩
  have hb2 := hb1.trans hk3.2
  have hbk1 := hBl1.kpl hk3
  have hz9 := hb2.size
  refine ist (Zdd rfl (Zi0 (Zfg (i_condF rfl (i_skip' (Zab (Zfg ?_)))))))
  refine Zeq (ist (Zc rfl (ist (Za7 rfl rfl om (ist (Ze rfl (Zi0 ?_)))))))
  exact Zac ((i - 1)) ⟨hb2, by omega, ⟨pre ++ [_], hJ3, by rw [List.map_append, hpm, show ((xs.length : Int) - 1 - (i - 1)).toNat = ((xs.length : Int) - 1 - i).toNat + 1 by omega, bkt_succ, show (xs.length : Int) - 1 - (((xs.length : Int) - 1 - i).toNat : Nat) = i by omega]; rfl⟩, hbk1⟩ om sb
 ·refine ⟨_, rfl, ?_⟩
  refine ist (Zdd rfl (Zi0 (Zfg (i_condT rfl (i_ret (Zd8 (Zfp ?_)))))))
  refine Zfp (Zd8 (n_ret0 rfl ?_))
  exact ⟨⟨_, rfl⟩, .inr ⟨pre ++ [_], ⟨((xs.length : Int) - 1 - i).toNat + 1, by omega, by rw [List.map_append, hpm, bkt_succ, show (xs.length : Int) - 1 - (((xs.length : Int) - 1 - i).toNat : Nat) = i by omega]; rfl⟩, hJ3⟩⟩
set_option maxHeartbeats 1000000 in
theorem right_any {w : World} {a : Value} {xs : List Int} (ha : Sl Kd.u32 w (fun _ => False) a xs) :
  Calls Try.prog 111 [a].toArray w (Zbh w fun v _ => v = .bool (Zdb xs)) := by
 have hb0 := Below.refl w.heap.size w
 have hln1 := ha.lenle
 refine enter Try.func111 rfl rfl (Zh (Zb (st (Ze rfl (Zg (Zd (Zh ?_)))))))
 refine Zb (st (Zc rfl (st (Zaq Zbx rfl (ha.at0 hb0) (st (Zbu rfl rfl (st (Zc rfl ?_))))))))
 refine Zax 6 rfl (fun h1 => ?_) (fun h1 => ?_)
 ·refine Zj rfl rfl (Zj rfl rfl (Zj rfl rfl (Zj rfl rfl (Zj rfl rfl (Zj rfl rfl (Zj rfl rfl ?_))))))
  refine st (Zr rfl rfl (st (Ze rfl (Zg (Zd (Zaa rfl rfl ?_))))))
  exact ⟨_, rfl, hb0, by rw [right_nil h1]⟩
 refine stg (Zc rfl (stg (Zc rfl (stg (Zaq Zbx rfl (ha.at0 hb0) (stg (Za7 rfl rfl om (stg (Zat Zbx rfl rfl (ha.at0 hb0) om om ?_)))))))))
 rintro b1 o1 _ ⟨rfl, hr1⟩ hc1 hF1 hlt1
 have hl_1 := Loc.lt hF1
 refine stg (Zt Zde rfl hc1 (j := 0) rfl (stg (s_ne rfl rfl (st (Zr rfl rfl (st (Ze rfl (Zg (Zd (Zaa rfl rfl ?_))))))))))
 exact ⟨_, rfl, hb0, by rw [right_ne h1]⟩
set_option maxHeartbeats 1000000 in
theorem rright_any {w : World} {a : Value} {xs : List Int} (ha : Sl Kd.u32 w (fun _ => False) a xs) :
  Calls Try.prog 57 [a].toArray w (Zbh w fun v _ => v = .bool (Zdb xs)) := by
 have hb0 := Below.refl w.heap.size w
 have hln1 := ha.lenle
 refine enter Try.func57 rfl rfl (Zh (Zb (st (Ze rfl (Zg (Zd (Zh ?_)))))))
 refine Zb (st (Zc rfl (st (Zaq Zbx rfl (ha.at0 hb0) (st (Zbu rfl rfl (st (Zc rfl ?_))))))))
 refine Zax 6 rfl (fun h1 => ?_) (fun h1 => ?_)
 ·refine Zj rfl rfl (Zj rfl rfl (Zj rfl rfl (Zj rfl rfl (Zj rfl rfl (Zj rfl rfl (Zj rfl rfl ?_))))))
  refine st (Zr rfl rfl (st (Ze rfl (Zg (Zd (Zaa rfl rfl ?_))))))
  exact ⟨_, rfl, hb0, by rw [right_nil h1]⟩
 refine stg (Zc rfl (stg (Zc rfl (stg (Zaq Zbx rfl (ha.at0 hb0) (stg (Za7 rfl rfl om (stg (Zat Zbx rfl rfl (ha.at0 hb0) om om ?_)))))))))
 rintro b1 o1 _ ⟨rfl, hr1⟩ hc1 hF1 hlt1
 have hl_1 := Loc.lt hF1
 refine stg (Zt Zde rfl hc1 (j := 0) rfl (stg (s_ne rfl rfl (st (Zr rfl rfl (st (Ze rfl (Zg (Zd (Zaa rfl rfl ?_))))))))))
 exact ⟨_, rfl, hb0, by rw [right_ne h1]⟩
set_option maxHeartbeats 1000000 in
theorem Zg9 {w : World} {F : Nat → Prop} {a : Value} {xs : List Int} (ha : Sl Kd.u32 w F a xs) :
  Calls Try.prog 99 [a].toArray w (Zbh w fun v _ => Sl Kd.u32 w F v (tl (nv xs))) := by
 have hb0 := Below.refl w.heap.size w
 have hln1 := ha.lenle
 refine enter Try.func99 rfl rfl (Zh (Zb (st (Ze rfl (Zg (Zd (Zh ?_)))))))
 refine Zz (Za2 (α := Value × List Int) (fun ((v, ys) : Value × List Int) => [(0, v), (2, .slice none 0 0)]) (fun ((v, ys) : Value × List Int) W => Below w.heap.size w W ∧ (Sl Kd.u32 w F v ys) ∧ (nv ys = nv xs)) (fun ((v, ys) : Value × List Int) => ys.length) ((a), (xs)) ⟨hb0, ha, rfl⟩ sb ?_)
 rintro ⟨v, ys⟩ w1 ⟨hb1, hv, hn⟩
 dsimp only at *
 have hz1 := hb1.size
 have hln9 := hv.lenle
 refine Zh (Zh (Zb (st (Zc rfl (st (Zq fn111 rfl (right_any ((hv.at0 hb1)).none) ?_))))))
 rintro _ w2 ⟨hq1, rfl⟩
 have k1 := Zi hq1 none
 have hz2 := hq1.size
 have hb2 := Zf hb1 k1
 have hz3 := hb2.size
 refine st (Zdd rfl (Zg (Zd ?_)))
 refine Zba rfl (fun h1 => ?_) (fun h1 => ?_)
 rotate_left
 ·have hc3 : Zdb ys = true := by simpa using h1
  refine Zak (Zk (Zk (Zs (Zd (Zh (Zb ?_))))))
  refine st (Zc rfl (st (Ze rfl (Zg (Zd (Zaa rfl rfl ?_))))))
  exact ⟨_, rfl, hb2, by rw [← hn, tl_nv (Zay hv) hc3]; exact hv⟩
 have hc2 := nv_cut (by simpa using h1)
 refine Zo (Zd (Zz (Zb (st (Zc rfl (st (Zc rfl (st (Zaq Zbx rfl (hv.at0 hb2) ?_)))))))))
 refine st (Za7 rfl rfl om (st (s_slhi Zbx rfl rfl (hv.at0 hb2) (by first | omega | (simp; omega)) (by first | omega | (simp; omega)) ?_)))
 intro v1 hS1
 refine st (Ze rfl (Zg (Zab ?_)))
 exact Zac ((v1), (ys.take (((ys.length : Int) - 1)).toNat)) ⟨hb2, (hS1).orig Zd6 hb2, by rw [show ((ys.length : Int) - 1).toNat = ys.length - 1 by omega]; exact hc2.2.trans hn⟩ (by simp; omega) sb
set_option maxHeartbeats 1000000 in
theorem Zh6 {w : World} {a : Value} {xs : List Int} (ha : Sl Kd.u32 w (fun _ => False) a xs) (hlen : xs.length ≤ 1000000000) :
  Calls Try.prog 103 [a].toArray w (Zbh w fun v W => Gw.Own Kd.u32 83 w.heap.size W (fun _ => False) v xs) := by
 have hb0 := Below.refl w.heap.size w
 have hln1 := ha.lenle
 refine enter Try.func103 rfl rfl (Zh (Zb (st (Ze rfl (Zg (Zd (Zh ?_)))))))
 refine Zh (Zb (st (Zc rfl (st (s_slnil Zbx rfl rfl (ha.at0 hb0) (Zg (Zd ?_)))))))
 refine Zba rfl (fun h1 => ?_) (fun h1 => ?_)
 ·refine Zh (Zb (st (Ze rfl (Zg (Zd (Zaa rfl rfl ?_))))))
  have e := Zmb (ha.at0 hb0) h1
  subst e
  exact ⟨_, rfl, hb0, Own.nil _ _ _ _ _⟩
 refine Zo (Zd (Zh (Zb (st (Zhr (K := Kd.u32) (base := w.heap.size) (F := (fun _ => False)) Zbx om (fun _ h => h.elim) ?_)))))
 intro v1 w1 hO1 k1
 have hb1 := Zf hb0 k1
 have hz1 := hb1.size
 refine st (Zc rfl (st (Za4 (K := Kd.u32) Zbx rfl rfl hO1 ((ha.at0 hb1).weak (fun k hk h => h.elim (fun h => by first | exact h.elim | exact h | exact Or.inl h) (fun h => by have h9 := (hO1.lt k h).1; first | exact Or.inr h9 | (simp [Loc]; omega)))) u32_ones (by simp; omega) (by simp; omega) (by first | exact Nat.le_refl _ | omega) (fun _ h => h.elim) ?_)))
 intro v2 w2 hO2 k2 hr1
 rw [List.nil_append] at hO2
 have hb2 := hb1.grown k2 hb1.size (fun k_ hk_ => (hO1.lt k_ hk_).1)
 have hz2 := hb2.size
 refine st (Ze rfl (Zg (Zd (Zaa rfl rfl ?_))))
 exact ⟨_, rfl, hb2, hO2⟩
set_option maxHeartbeats 1000000 in
theorem norm_any {w : World} {n0 : Nat} (hn0 : n0 ≤ w.heap.size) {a : Value} {xs : List Int} (ha : Sl Kd.u32 w (G 83 n0 w) a xs) (hlen : xs.length ≤ 1000000000) :
  Calls Try.prog 81 [a].toArray w (Zbh w fun v W => Sl Kd.u32 W (G 83 n0 W) v (tl (nv xs))) := by
 have hb0 := Below.refl w.heap.size w
 have hln1 := ha.lenle
 refine enter Try.func81 rfl rfl (Zh (Zb (st (Ze rfl (Zg (Zd (Zh ?_)))))))
 refine Zb (st (Zc rfl (st (Zq fn103 rfl (Zh6 ((ha.at0 hb0)).none (by first | omega | (simp; done) | (simp; omega))) ?_))))
 rintro v1 w1 ⟨hq1, hO2⟩
 have k1 := Zi hq1 none
 have hz1 := hq1.size
 have hb1 := Zf hb0 k1
 have hz2 := hb1.size
 have hO1 := hO2.rebase (b' := w.heap.size) om
 refine st (Zq fn99 rfl (Zg9 (hO1.slG (n0 := n0))) ?_)
 rintro v2 w2 ⟨hq2, hS1⟩
 have k2 := Zi hq2 none
 have hz3 := hq2.size
 have hb2 := Zf hb1 k2
 have hz4 := hb2.size
 have hS2 := hS1.gg0 k2
 refine st (Ze rfl (Zg (Zd (Zaa rfl rfl ?_))))
 exact ⟨_, rfl, hb2, hS2⟩
set_option maxHeartbeats 1000000 in
theorem back_any {w : World} {a : Value} {xs : List Int} (ha : Sl Kd.u32 w (fun _ => False) a xs) :
  Calls Try.prog 104 [a].toArray w (Zbh w fun r W => ∃ gb, r = .func (.func 114) #[] #[(pp gb)] ∧ w.heap.size ≤ gb ∧ Blk W gb 29 #[a]) := by
 have hb0 := Below.refl w.heap.size w
 have hln1 := ha.lenle
 refine enter Try.func104 rfl rfl (Zh (Zb (st (s_box1 rfl ha.cells1 ?_))))
 intro g1 w1 hg1 hB1 k1 hs1
 have hb1 := Zf hb0 k1
 refine st (Ze rfl (Zg (Zd (Zh (Zb (st (s_func rfl rfl (st (Ze rfl ?_)))))))))
 refine Zg (Zd (Zaa rfl rfl ?_))
 exact ⟨_, rfl, hb1, _, rfl, by omega, hB1⟩
set_option maxHeartbeats 1000000 in
theorem cmp_any {w : World} {a b : Value} {xs ys : List Int} (ha : Sl Kd.u32 w (fun _ => False) a xs) (hb : Sl Kd.u32 w (fun _ => False) b ys) :
  Calls Try.prog 82 [a, b].toArray w (Zbh w fun v _ => v = .int .i64 (Zbt (nv xs) (nv ys))) := by
 have hb0 := Below.refl w.heap.size w
 have hln1 := ha.lenle
 have hln2 := hb.lenle
 refine menter 10 Try.func82 rfl rfl (Zh (Zb (st (s_box1 rfl hb.cells1 ?_))))
 intro g1 w1 hg1 hB1 k1 hs1
 have hb1 := Zf hb0 k1
 refine st (Zan zero3 ?_)
 intro g2 w2 hg2 hB2 k2 hs2
 have hz1 := hb1.size
 have hb2 := Zf hb1 k2
 refine Zg (Zd (Zh ?_))
 refine w_drawE 5 GN [xi 7 <| a, (some 8, fun v _ => Sl Kd.u32 w (fun _ => False) v (tl (nv xs))), (some 9, fun v _ => Sl Kd.u32 w (fun _ => False) v ys), (some 10, fun v _ => Sl Kd.u32 w (fun _ => False) v (tl (nv ys))), (some 0, fun v _ => Sl Kd.u32 w (fun _ => False) v (tl (nv xs)))] [[], [0], [], [2], [1]] [(3, (pp g1)), (4, (pp g2))] [(0, a)] [true, false, false, false, false] sb sb kr kr kr kr Za gnt ⟨kv, fun _ _ _ h _ => h, fun _ _ _ h _ => h, fun _ _ _ h _ => h, fun _ _ _ h _ => h, trivial⟩ ?_
 intro w5 k5 hs3
 have hb3 := Zf hb2 k5
 refine ⟨⟨?_, ?_, ?_, ?_, ?_, trivial⟩, ?_⟩
 ·intro w6 k6
  refine op1 (Zc rfl ?_)
  exact ⟨rfl, Za _⟩
 ·intro w7 k7
  have hb5 := Zf hb3 k7
  intro v_ hv_; subst v_
  refine op1 (Zq fn99 rfl (Zg9 (ha.at0 hb5)) ?_)
  rintro v3 w8 ⟨hq3, hS5⟩
  have hS6 := hS5.orig Zd6 hb5
  have k8 := Zi hq3 none
  have hz2 := hq3.size
  have hb6 := Zf hb5 k8
  have hz3 := hb6.size
  exact ⟨hS6, k8⟩
 ·intro w9 k9
  refine op1 (Zt Zcd rfl (((hB1.g0 k2).g0 k5).g0 k9).range (j := 0) rfl ?_)
  exact ⟨hb, Za _⟩
 ·intro w10 k10
  have hb8 := Zf hb3 k10
  intro v4 hS7
  refine op1 (Zq fn99 rfl (Zg9 (hS7.at0 hb8)) ?_)
  rintro v5 w11 ⟨hq4, hS8⟩
  have hS9 := hS8.orig Zd6 hb8
  have k11 := Zi hq4 none
  have hz4 := hq4.size
  have hb9 := Zf hb8 k11
  have hz5 := hb9.size
  exact ⟨hS9, k11⟩
 ·intro w12 k12
  intro v6 hS10
  refine op1 (Ze rfl ?_)
  exact ⟨hS10, Za _⟩
 intro w13 k13
 have hb11 := Zf hb3 k13
 intro v_ hv_; subst v_
 rintro v7 hS11 v8 hS12 v9 hS13 v10 hS14
 refine st0 (Zdt Zcd rfl rfl (hS13.one) (((hB1.g0 k2).g0 k5).g0 k13) (of_decide_eq_true rfl) ?_)
 intro w14 hB3 k14 hs4
 have hb12 := belowa hb11 k14
 refine Zg (Zd (Zh (Zh (Zb (st (Zc rfl (st (Zaq Zbx rfl (hS14.at0 hb12) ?_))))))))
 refine st (Zt Zcd rfl hB3.range (j := 0) rfl (st (Zaq Zbx rfl (hS13.at0 hb12) (st (s_ne rfl rfl (Zg (Zd ?_)))))))
 refine Zw rfl (fun h1 => ?_) (fun h1 => ?_)
 ·refine Zh (Zh (Zb (st (Zc rfl (st (Zaq Zbx rfl (hS14.at0 hb12) (st (Zt Zcd rfl hB3.range (j := 0) rfl (st (Zaq Zbx rfl (hS13.at0 hb12) ?_))))))))))
  refine st (Zbd rfl rfl (Zg (Zd ?_)))
  refine Zw rfl (fun h2 => ?_) (fun h2 => ?_)
  ·refine Zh (Zb (st0 (Zdt Za9 rfl rfl rfl (((hB2.g0 k5).g0 k13).gne k14 om) (of_decide_eq_true rfl) ?_)))
   intro w15 hB4 k15 hs5
   have hb13 := belowa hb12 k15
   refine Zg (Zd (w_ret' (Zfp (Zfp ?_))))
   exact m_retc rfl Za9 rfl hB4 rfl ⟨_, rfl, hb13, by rw [cmpI_lt (cmp_len (Zap (Zay ha)) (Zap (Zay hb)) om)]; rfl⟩
  refine Zo (Zd (Zh (Zb (st0 (Zdt Za9 rfl rfl rfl (((hB2.g0 k5).g0 k13).gne k14 om) (of_decide_eq_true rfl) ?_)))))
  intro w16 hB5 k16 hs6
  have hb14 := belowa hb12 k16
  refine Zg (Zd (w_ret' (Zfp ?_)))
  exact m_retc rfl Za9 rfl hB5 rfl ⟨_, rfl, hb14, by rw [cmpI_gt (cmp_len (Zap (Zay hb)) (Zap (Zay ha)) om)]; rfl⟩
 refine Zo (Zd (Zh (Zh (Zb (st (Zc rfl (st (Zq fn104 rfl (back_any ((hS14.at0 hb12)).none) ?_))))))))
 rintro _ w17 ⟨hq5, gb1, rfl, hg3, hB6⟩
 have k17 := Zi hq5 none
 have hz6 := hq5.size
 have hb15 := Zf hb12 k17
 have hz7 := hb15.size
 refine Zg (Zd (Zz ?_))
 have hzz1 := k1.size
 have hzz2 := k2.size
 have hzz3 := k5.size
 have hzz4 := k13.size
 have hzz5 := k14.size
 have hzz6 := k17.size
 refine i_range (xs := (tl (nv xs))) (n0 := w.heap.size) rfl fn114 (back_stops hS14 hb15 hB6) (hB6.lt) om (fun pre W => (∀ p ∈ pre, p.1.2 = ix (tl (nv ys)) p.1.1) ∧ Below w.heap.size w W ∧ Blk W g2 3 #[.int .i64 0] ∧ Blk W g1 29 #[v9]) (fun c pre W => c = .ret ∧ ∃ (pre0 : List (LX (tl (nv xs)))) (x : LX (tl (nv xs))) (r : Int), pre = pre0 ++ [x] ∧ (∀ p ∈ pre0, p.1.2 = ix (tl (nv ys)) p.1.1) ∧ ((r = -1 ∧ x.1.2 < ix (tl (nv ys)) x.1.1) ∨ (r = 1 ∧ ix (tl (nv ys)) x.1.1 < x.1.2)) ∧ Below w.heap.size w W ∧ Blk W g2 3 #[.int .i64 r]) (fun s A B row h hg hr => ⟨h.1, Below.ownK h.2.1 (Nat.le_refl _) om hg hr, h.2.2.1.ownK hg hr, h.2.2.2.ownK hg hr⟩) (fun c s A B row h hg hr => by
   obtain ⟨rfl, pre0, x, r, e, h1, h2, h3, h4⟩ := h
   exact ⟨rfl, pre0, x, r, e, h1, h2, Below.ownK h3 (Nat.le_refl _) om hg hr, h4.ownK hg hr⟩) (⟨fun p hp => by (cases hp), hb15, ((((hB2.g0 k5).g0 k13).gne k14 om).g0 k17), (hB3.g0 k17)⟩) (fun x => [(3, (pp g1)), (4, (pp g2)), (5, .int .i64 x.1.1), (6, .int .u32 x.1.2), (22, .func (.func 114) #[] #[(pp gb1)])]) (fun l x W => ?_) (fun l pre x W hl hi hlen => ?_) (fun Dk zs W hD hS hi hK => ?_) (fun Dk c pre W hD hS hi hK => ?_)
 ·refine Zj3 (Zeq (ist (Ze rfl (Zi0 (Zfg (Zeq (ist (Ze rfl ?_))))))))
  refine Zi0 ?_
  exact n_set sb
 ·obtain ⟨hpe, hbW, hrW, hgW⟩ := hi
  have hzW := hbW.size
  obtain ⟨hx0, hx1, hx2⟩ := x.2
  refine i_block (i_block (Zj3 (Zeq (ist (Zc rfl (ist (Zt Zcd rfl hgW.range (j := 0) rfl (ist (Zc rfl ?_)))))))))
  refine ist (Zat Zbx rfl rfl (hS13.at0 hbW) om om ?_)
  rintro b1 o1 _ ⟨rfl, hr1⟩ hc1 hF1 hlt1
  have hl_1 := Loc.lt hF1
  refine ist (Zt Zde rfl hc1 (j := 0) rfl (ist (Zbd rfl rfl (ist (Ze rfl (Zi0 (Zfg ?_)))))))
  refine i_condP rfl (fun h3 => ?_) (fun h3 => ?_)
  ·refine Zj3 (Zeq (ist0 (Zdt Za9 rfl rfl rfl hrW (of_decide_eq_true rfl) ?_)))
   intro w18 hB7 k18 hs7
   have hb16 := Zhf hbW k18 (by first | omega | (have h9 := (hbW).size; omega))
   clear hrW
   refine Zi0 (Zfg (i_ret (Zd8 (Zd8 ?_))))
   exact n_own_ret ⟨KeepsFrom.of_grownBy k18 (fun j e => by cases e; omega), rfl, pre, x, _, rfl, hpe, .inl ⟨rfl, by omega⟩, hb16, hB7⟩
  refine Zj3 (Zeq (ist (Zc rfl (ist (Zt Zcd rfl hgW.range (j := 0) rfl (ist (Zc rfl (ist (Zat Zbx rfl rfl (hS13.at0 hbW) om om ?_)))))))))
  rintro b2 o2 _ ⟨rfl, hr2⟩ hc2 hF2 hlt2
  have hl_2 := Loc.lt hF2
  refine ist (Zt Zde rfl hc2 (j := 0) rfl (ist (Zch rfl rfl (ist (Ze rfl (Zi0 (Zfg ?_)))))))
  refine i_condP rfl (fun h4 => ?_) (fun h4 => ?_)
  rotate_left
  ·refine i_skip' (Zab (Zab ?_))
   exact n_own ⟨KeepsFrom.refl _ _, ⟨rfl, Below.refl _ _⟩, fun p hp => by
    rcases List.mem_append.1 hp with hp | hp
    ·exact hpe p hp
    ·rw [List.mem_singleton.1 hp]; omega, hbW, hrW, hgW⟩
  refine Zj3 (Zeq (ist0 (Zdt Za9 rfl rfl rfl hrW (of_decide_eq_true rfl) ?_)))
  intro w19 hB8 k19 hs8
  have hb17 := Zhf hbW k19 (by first | omega | (have h9 := (hbW).size; omega))
  clear hrW
  refine Zi0 (Zfg (i_ret (Zd8 (Zd8 ?_))))
  exact n_own_ret ⟨KeepsFrom.of_grownBy k19 (fun j e => by cases e; omega), rfl, pre, x, _, rfl, hpe, .inr ⟨rfl, by omega⟩, hb17, hB8⟩
 ·obtain ⟨hpe, hbW, hrW, hgW⟩ := hi
  have hzW := hbW.size
  have hneD : g2 ≠ Dk := by
   rintro rfl
   rw [show W.heap[_]? = _ from hrW] at hK
   cases hK
  refine Zab (Zd (Zh (Zb (st0 (Zdt Za9 rfl rfl rfl hrW (of_decide_eq_true rfl) ?_)))))
  intro w20 hB9 k20 hs9
  have hb18 := Zhf hbW k20 (by first | omega | (have h9 := (hbW).size; omega))
  clear hrW
  refine Zg (Zd (w_ret' ?_))
  have hK2 := (k20.block Dk (Array.getElem?_eq_some_iff.1 hK).1 (fun e => hneD (by cases e; rfl))).trans hK
  exact m_retc' rfl Za9 rfl hB9 rfl hK2 ⟨_, rfl, Below.mark hb18 (Nat.le_refl _) om hK2, by rw [cmp_full (Zap (Zay ha)) (Zap (Zay hb)) om hS hpe]; rfl⟩
 ·obtain ⟨rfl, pre0, x, r, rfl, hpe, hr, hbW, hrW⟩ := hi
  obtain ⟨k, hk, hpk⟩ := hS
  refine w_ret' (Zd8 (Zfp ?_))
  have hst := cmp_stop (Zap (Zay ha)) (Zap (Zay hb)) om hpk hpe
  have hv : r = Zbt (nv xs) (nv ys) := hr.elim (fun h => by rw [h.1, hst.1 h.2]) (fun h => by rw [h.1, hst.2 h.2])
  exact m_retc' rfl Za9 rfl hrW rfl hK ⟨_, rfl, Below.mark hbW (Nat.le_refl _) om hK, by rw [hv]; rfl⟩
end Go.Proofs.Ytfljelnfjbbknaa.Lm
namespace Go.Proofs.Ytfljelnfjbbknaa.Lm
open Go.RowKit Go.Gw
set_option maxHeartbeats 1000000 in
theorem Zjj {w : World} {x y c : Int} (hx : 0 ≤ x ∧ x < 4294967296) (hy : 0 ≤ y ∧ y < 4294967296) (hc : 0 ≤ c ∧ c ≤ 1) :
  Calls Try.prog 112 [.int .u32 x, .int .u32 y, .int .u32 c].toArray w (Zbh w fun v _ => v = .tuple #[.int .u32 ((x + y + c) % 4294967296), .int .u32 ((x + y + c) / 4294967296)]) := by
 have hb0 := Below.refl w.heap.size w
 refine enter Try.func112 rfl rfl (Zh (Zb (st (Ze rfl (st (Ze rfl (Zg (Zd ?_))))))))
 refine Zh (Zb (st (Zc rfl (st (s_convk (M := 18446744073709551616) rfl rfl Zdu Zec rfl om (st (Zc rfl (st (s_convk (M := 18446744073709551616) rfl rfl Zdu Zec rfl om (st (s_addk (M := 18446744073709551616) rfl rfl rfl rfl om ?_)))))))))))
 refine st (Zc rfl (st (s_convk (M := 18446744073709551616) rfl rfl Zdu Zec rfl om (st (s_addk (M := 18446744073709551616) rfl rfl rfl rfl om (st (Ze rfl (Zg (Zd (Zh ?_))))))))))
 refine Zb (st (Zc rfl (st (Zco (M := 4294967296) rfl rfl Zec Zdu rfl (st (Ze rfl (Zg (Zd (Zh ?_)))))))))
 refine Zb (st (Zc rfl (st (Zio (p := 4294967296) rfl rfl dc dc (st (Zco (M := 4294967296) rfl rfl Zec Zdu rfl (st (Ze rfl (Zg (Zd ?_))))))))))
 refine Zdl rfl rfl rfl ?_
 exact ⟨_, rfl, hb0, by rw [show (x + y + c) / 4294967296 % 4294967296 = (x + y + c) / 4294967296 by omega]⟩
set_option maxHeartbeats 1000000 in
theorem sub32_any {w : World} {x y c : Int} (hx : 0 ≤ x ∧ x < 4294967296) (hy : 0 ≤ y ∧ y < 4294967296) (hc : 0 ≤ c ∧ c ≤ 1) :
  Calls Try.prog 113 [.int .u32 x, .int .u32 y, .int .u32 c].toArray w (Zbh w fun v _ => v = .tuple #[.int .u32 ((x - y - c) % 4294967296), .int .u32 (if x < y + c then 1 else 0)]) := by
 have hb0 := Below.refl w.heap.size w
 refine enter Try.func113 rfl rfl (Zh (Zb (st (Ze rfl (st (Ze rfl (Zg (Zd ?_))))))))
 refine Zh (Zb (st (Zc rfl (st (Zc rfl (st (s_subk (M := 4294967296) rfl rfl rfl rfl (st (Zc rfl (st (s_subk (M := 4294967296) rfl rfl rfl rfl ?_)))))))))))
 refine st (Ze rfl (Zg (Zd (Zh (Zb (st (Zc rfl (st (s_com32 rfl (by first | omega | exact Zby om om | exact Zdg om | exact Zdg (Zby om om) | exact Zby om (Zby om om)) ?_)))))))))
 refine st (Zc rfl (st (s_and (M := 4294967296) rfl rfl rfl rfl (by first | omega | exact Zby om om | exact Zdg om | exact Zdg (Zby om om) | exact Zby om (Zby om om)) (by first | omega | exact Zby om om | exact Zdg om | exact Zkp om) (st (Zc rfl (st (Zc rfl ?_)))))))
 refine st (s_xor (M := 4294967296) rfl rfl rfl rfl (by first | omega | exact Zby om om | exact Zdg om | exact Zdg (Zby om om) | exact Zby om (Zby om om)) (by first | omega | exact Zby om om | exact Zdg om | exact Zkp om) (st (s_com32 rfl (by first | omega | exact Zby om om | exact Zdg om | exact Zdg (Zby om om) | exact Zby om (Zby om om)) (st (Zc rfl ?_)))))
 refine st (s_and (M := 4294967296) rfl rfl rfl rfl (by first | omega | exact Zby om om | exact Zdg om | exact Zdg (Zby om om) | exact Zby om (Zby om om)) (by first | omega | exact Zby om om | exact Zdg om | exact Zkp om) ?_)
 refine st (s_or (M := 4294967296) rfl rfl rfl rfl (by first | omega | exact Zby om om | exact Zdg om | exact Zdg (Zby om om) | exact Zby om (Zby om om)) (by first | omega | exact Zby om om | exact Zdg om | exact Zkp om) (st (Zio (p := 2147483648) rfl rfl dc dc (st (Ze rfl (Zg (Zd (Zdl rfl rfl rfl ?_))))))))
 exact ⟨_, rfl, hb0, by rw [borrow_bit hx hy hc, show ((x - y) % 4294967296 - c) % 4294967296 = (x - y - c) % 4294967296 by omega]⟩
set_option maxHeartbeats 1000000 in
theorem add_any {w : World} {n0 : Nat} (hn0 : n0 ≤ w.heap.size) {a b : Value} {xs ys : List Int} (ha : Sl Kd.u32 w (G 83 n0 w) a xs) (hb : Sl Kd.u32 w (G 83 n0 w) b ys) (hla : xs.length ≤ 100000) (hlb : ys.length ≤ 100000) :
  Calls Try.prog 100 [a, b].toArray w (Zbh w fun v W => Sl Kd.u32 W (G 83 n0 W) v (tl (nv xs + nv ys))) := by
 have hb0 := Below.refl w.heap.size w
 have hln1 := ha.lenle
 have hln2 := hb.lenle
 refine enter Try.func100 rfl rfl (Zh (Zb (st (Ze rfl (Zg (Zd (Zh ?_)))))))
 refine Zh (Zb (st (Zc rfl (st (Zaq Zbx rfl (ha.at0 hb0) (st (Zc rfl (st (Zaq Zbx rfl (hb.at0 hb0) (st (Zbd rfl rfl ?_)))))))))))
 refine Zg (Zd ?_)
 refine Zw rfl (fun h1 => ?_) (fun h1 => ?_)
 rotate_left
 ·refine Zo (Zd (Zh (Zb (st (Zc rfl (st (Zaq Zbx rfl (ha.at0 hb0) (st (Zah rfl rfl om ?_)))))))))
  refine st (Zi5 (K := Kd.u32) (base := w.heap.size) (F := (fun _ => False)) Zbx rfl om om om (fun _ _ => ⟨rfl, by decide⟩) om (fun _ h => h.elim) ?_)
  intro v3 w9 hO8 k8
  have hb9 := Zf hb0 k8
  have hz9 := hb9.size
  refine st (Ze rfl (Zg (Zd (Zh (Zb (st (Ze rfl (Zg ?_))))))))
  refine Zd (Zh (Zh (Zb (st (Zc rfl (st (Zaq Zbx rfl (ha.at0 hb9) (st (Zc rfl ?_)))))))))
  refine Zg (Zd (Zz ?_))
  refine Za2 (α := Int × List Int × Int) (fun ((i, os, c) : Int × List Int × Int) => [(0, a), (1, b), (4, .slice none 0 0), (5, v3), (6, .int .u32 c), (21, a), (22, .int .i64 (xs.length : Int)), (23, .int .i64 i)]) (fun ((i, os, c) : Int × List Int × Int) W => Below w.heap.size w W ∧ (0 ≤ i ∧ i ≤ (xs).length) ∧ ((os.length : Int) = (xs).length + 1) ∧ (0 ≤ c ∧ c ≤ 1) ∧ (Gw.Own Kd.u32 83 w.heap.size W (fun _ => False) v3 os) ∧ (nv (os.take i.toNat) + PW i.toNat * c = nv ((xs).take i.toNat) + nv ((ys).take i.toNat))) (fun ((i, os, c) : Int × List Int × Int) => ((xs).length - i).toNat) ((0), (List.replicate (((xs.length : Int) + 1)).toNat 0), (0)) ⟨hb9, by omega, by first | (simp; done) | (simp; omega), by omega, hO8, by simp [nv]⟩ sb ?_
  rintro ⟨i, os, c⟩ w10 ⟨hb10, hi, hol, hc, hO, hn⟩
  dsimp only at *
  have hz10 := hb10.size
  have hxa := (Zay ha).ix i
  have hxb := (Zay hb).ix i
  refine Zh (Zb (st (Zbd rfl rfl (Zg (Zd (Zh ?_))))))
  refine Zw rfl (fun h4 => ?_) (fun h4 => ?_)
  rotate_left
  ·refine Zak (Zk (Zk (Zs (Zd (Zh (Zb ?_))))))
   refine st (Zc rfl (st (Zc rfl (st (Zaq Zbx rfl (ha.at0 hb10) (st (Zc rfl (st (Zdv Zbx rfl rfl hO om (by first | omega | (simp; done) | (simp; omega)) ?_)))))))))
   intro g6 hg6 hl_15 hl_16
   refine st0 (Zcl Zde rfl rfl rfl rfl hO hg6 om (by first | omega | (simp; done) | (simp; omega)) ⟨rfl, by omega⟩ ?_)
   intro w15 hO13 k13 hs6
   have hb15 := belowa hb10 k13
   refine Zg (Zd (Zh (Zb (st (Zc rfl (st (Zq fn99 rfl (Zg9 (hO13.slG (n0 := n0))) ?_)))))))
   rintro v4 w16 ⟨hq6, hS3⟩
   have k14 := Zi hq6 none
   have hz15 := hq6.size
   have hb16 := Zf hb15 k14
   have hz16 := hb16.size
   have hS4 := hS3.gg0 k14
   refine st (Ze rfl (Zg (Zd (Zaa rfl rfl ?_))))
   have hend := add_end hn hi.1 om om om
   refine ⟨_, rfl, hb16, ?_⟩
   rw [← hend]
   exact hS4
  refine Zo (Zd (Zh (Zz (Zh (Zb (st (Zc rfl ?_)))))))
  refine st (Zat Zbx rfl rfl (ha.at0 hb10) om om ?_)
  rintro b3 o3 _ ⟨rfl, hr3⟩ hc3 hF3 hlt3
  have hl_9 := Loc.lt hF3
  refine st (Zt Zde rfl hc3 (j := 0) rfl (st (Ze rfl (st (Ze rfl (Zg (Zd (Zh (Zb ?_)))))))))
  refine st (Ze rfl (Zg (Zd (Zh (Zh (Zb (st (Zc rfl ?_))))))))
  refine st (Zc rfl (st (Zaq Zbx rfl (hb.at0 hb10) (st (Zbd rfl rfl (Zg (Zd ?_)))))))
  refine Zw rfl (fun h5 => ?_) (fun h5 => ?_)
  rotate_left
  ·refine Zo (Zd (Zb (st (Zc rfl (st (Zc rfl (st (Zc rfl (st (Zc rfl ?_))))))))))
   refine st (Zc rfl (st (Zq fn112 rfl (Zjj om om om) ?_)))
   rintro _ w13 ⟨hq5, rfl⟩
   have k11 := Zi hq5 none
   have hz13 := hq5.size
   have hb13 := Zf hb10 k11
   have hz14 := hb13.size
   have hO11 := hO.g0 k11
   refine st (Zc rfl (st (Zad rfl rfl (st (Zad rfl rfl (st (Zdv Zbx rfl rfl hO11 om (by first | omega | (simp; done) | (simp; omega)) ?_)))))))
   intro g5 hg5 hl_13 hl_14
   refine st0 (Zcl Zde rfl rfl rfl rfl hO11 hg5 om (by first | omega | (simp; done) | (simp; omega)) ⟨rfl, by omega⟩ ?_)
   intro w14 hO12 k12 hs5
   have hb14 := belowa hb13 k12
   refine st (Ze rfl (Zg (Zab (Zd (Zb (st (Zah rfl rfl om (st (Zc rfl ?_)))))))))
   refine Zg ?_
   exact Zac (((i + 1)), (os.set (i).toNat (((ix xs i) + (0 : Int) + c) % 4294967296)), ((((ix xs i) + (0 : Int) + c) / 4294967296))) ⟨hb14, by omega, by simp; omega, by dsimp only; exact ⟨by omega, by omega⟩, hO12, Zk4 hn hi.1 om rfl (ix_over om).symm⟩ om sb
  refine Zb (st (Zc rfl (st (Zc rfl (st (Zat Zbx rfl rfl (hb.at0 hb10) om om ?_))))))
  rintro b4 o4 _ ⟨rfl, hr4⟩ hc4 hF4 hlt4
  have hl_10 := Loc.lt hF4
  refine st (Zt Zde rfl hc4 (j := 0) rfl (st (Ze rfl (Zg (Zd (Zb (st (Zc rfl (st (Zc rfl ?_))))))))))
  refine st (Zc rfl (st (Zc rfl (st (Zc rfl (st (Zq fn112 rfl (Zjj om om om) ?_)))))))
  rintro _ w11 ⟨hq4, rfl⟩
  have k9 := Zi hq4 none
  have hz11 := hq4.size
  have hb11 := Zf hb10 k9
  have hz12 := hb11.size
  have hO9 := hO.g0 k9
  refine st (Zc rfl (st (Zad rfl rfl (st (Zad rfl rfl (st (Zdv Zbx rfl rfl hO9 om (by first | omega | (simp; done) | (simp; omega)) ?_)))))))
  intro g4 hg4 hl_11 hl_12
  refine st0 (Zcl Zde rfl rfl rfl rfl hO9 hg4 om (by first | omega | (simp; done) | (simp; omega)) ⟨rfl, by omega⟩ ?_)
  intro w12 hO10 k10 hs4
  have hb12 := belowa hb11 k10
  refine st (Ze rfl (Zg (Zab (Zd (Zb (st (Zah rfl rfl om (st (Zc rfl ?_)))))))))
  refine Zg ?_
  exact Zac (((i + 1)), (os.set (i).toNat (((ix xs i) + (ix ys i) + c) % 4294967296)), ((((ix xs i) + (ix ys i) + c) / 4294967296))) ⟨hb12, by omega, by simp; omega, by dsimp only; exact ⟨by omega, by omega⟩, hO10, Zk4 hn hi.1 om rfl rfl⟩ om sb
 refine Zb (st (Zc rfl (st (Zc rfl (st (Ze rfl (st (Ze rfl (Zg (Zd ?_))))))))))
 refine Zh (Zb (st (Zc rfl (st (Zaq Zbx rfl (hb.at0 hb0) (st (Zah rfl rfl om (st (Zi5 (K := Kd.u32) (base := w.heap.size) (F := (fun _ => False)) Zbx rfl om om om (fun _ _ => ⟨rfl, by decide⟩) om (fun _ h => h.elim) ?_)))))))))
 intro v1 w1 hO1 k1
 have hb1 := Zf hb0 k1
 have hz1 := hb1.size
 refine st (Ze rfl (Zg (Zd (Zh (Zb (st (Ze rfl (Zg ?_))))))))
 refine Zd (Zh (Zh (Zb (st (Zc rfl (st (Zaq Zbx rfl (hb.at0 hb1) (st (Zc rfl ?_)))))))))
 refine Zg (Zd (Zz ?_))
 refine Za2 (α := Int × List Int × Int) (fun ((i, os, c) : Int × List Int × Int) => [(0, b), (1, a), (4, .slice none 0 0), (5, v1), (6, .int .u32 c), (21, b), (22, .int .i64 (ys.length : Int)), (23, .int .i64 i)]) (fun ((i, os, c) : Int × List Int × Int) W => Below w.heap.size w W ∧ (0 ≤ i ∧ i ≤ (ys).length) ∧ ((os.length : Int) = (ys).length + 1) ∧ (0 ≤ c ∧ c ≤ 1) ∧ (Gw.Own Kd.u32 83 w.heap.size W (fun _ => False) v1 os) ∧ (nv (os.take i.toNat) + PW i.toNat * c = nv ((ys).take i.toNat) + nv ((xs).take i.toNat))) (fun ((i, os, c) : Int × List Int × Int) => ((ys).length - i).toNat) ((0), (List.replicate (((ys.length : Int) + 1)).toNat 0), (0)) ⟨hb1, by omega, by first | (simp; done) | (simp; omega), by omega, hO1, by simp [nv]⟩ sb ?_
 rintro ⟨i, os, c⟩ w2 ⟨hb2, hi, hol, hc, hO, hn⟩
 dsimp only at *
 have hz2 := hb2.size
 have hxa := (Zay hb).ix i
 have hxb := (Zay ha).ix i
 refine Zh (Zb (st (Zbd rfl rfl (Zg (Zd (Zh ?_))))))
 refine Zw rfl (fun h2 => ?_) (fun h2 => ?_)
 rotate_left
 ·refine Zak (Zk (Zk (Zs (Zd (Zh (Zb ?_))))))
  refine st (Zc rfl (st (Zc rfl (st (Zaq Zbx rfl (hb.at0 hb2) (st (Zc rfl (st (Zdv Zbx rfl rfl hO om (by first | omega | (simp; done) | (simp; omega)) ?_)))))))))
  intro g3 hg3 hl_7 hl_8
  refine st0 (Zcl Zde rfl rfl rfl rfl hO hg3 om (by first | omega | (simp; done) | (simp; omega)) ⟨rfl, by omega⟩ ?_)
  intro w7 hO6 k6 hs3
  have hb7 := belowa hb2 k6
  refine Zg (Zd (Zh (Zb (st (Zc rfl (st (Zq fn99 rfl (Zg9 (hO6.slG (n0 := n0))) ?_)))))))
  rintro v2 w8 ⟨hq3, hS1⟩
  have k7 := Zi hq3 none
  have hz7 := hq3.size
  have hb8 := Zf hb7 k7
  have hz8 := hb8.size
  have hS2 := hS1.gg0 k7
  refine st (Ze rfl (Zg (Zd (Zaa rfl rfl ?_))))
  have hend := add_end hn hi.1 om om om
  refine ⟨_, rfl, hb8, ?_⟩
  rw [Int.add_comm (nv xs), ← hend]
  exact hS2
 refine Zo (Zd (Zh (Zz (Zh (Zb (st (Zc rfl ?_)))))))
 refine st (Zat Zbx rfl rfl (hb.at0 hb2) om om ?_)
 rintro b1 o1 _ ⟨rfl, hr1⟩ hc1 hF1 hlt1
 have hl_1 := Loc.lt hF1
 refine st (Zt Zde rfl hc1 (j := 0) rfl (st (Ze rfl (st (Ze rfl (Zg (Zd (Zh (Zb ?_)))))))))
 refine st (Ze rfl (Zg (Zd (Zh (Zh (Zb (st (Zc rfl ?_))))))))
 refine st (Zc rfl (st (Zaq Zbx rfl (ha.at0 hb2) (st (Zbd rfl rfl (Zg (Zd ?_)))))))
 refine Zw rfl (fun h3 => ?_) (fun h3 => ?_)
 rotate_left
 ·refine Zo (Zd (Zb (st (Zc rfl (st (Zc rfl (st (Zc rfl (st (Zc rfl ?_))))))))))
  refine st (Zc rfl (st (Zq fn112 rfl (Zjj om om om) ?_)))
  rintro _ w5 ⟨hq2, rfl⟩
  have k4 := Zi hq2 none
  have hz5 := hq2.size
  have hb5 := Zf hb2 k4
  have hz6 := hb5.size
  have hO4 := hO.g0 k4
  refine st (Zc rfl (st (Zad rfl rfl (st (Zad rfl rfl (st (Zdv Zbx rfl rfl hO4 om (by first | omega | (simp; done) | (simp; omega)) ?_)))))))
  intro g2 hg2 hl_5 hl_6
  refine st0 (Zcl Zde rfl rfl rfl rfl hO4 hg2 om (by first | omega | (simp; done) | (simp; omega)) ⟨rfl, by omega⟩ ?_)
  intro w6 hO5 k5 hs2
  have hb6 := belowa hb5 k5
  refine st (Ze rfl (Zg (Zab (Zd (Zb (st (Zah rfl rfl om (st (Zc rfl ?_)))))))))
  refine Zg ?_
  exact Zac (((i + 1)), (os.set (i).toNat (((ix ys i) + (0 : Int) + c) % 4294967296)), ((((ix ys i) + (0 : Int) + c) / 4294967296))) ⟨hb6, by omega, by simp; omega, by dsimp only; exact ⟨by omega, by omega⟩, hO5, Zk4 hn hi.1 om rfl (ix_over om).symm⟩ om sb
 refine Zb (st (Zc rfl (st (Zc rfl (st (Zat Zbx rfl rfl (ha.at0 hb2) om om ?_))))))
 rintro b2 o2 _ ⟨rfl, hr2⟩ hc2 hF2 hlt2
 have hl_2 := Loc.lt hF2
 refine st (Zt Zde rfl hc2 (j := 0) rfl (st (Ze rfl (Zg (Zd (Zb (st (Zc rfl (st (Zc rfl ?_))))))))))
 refine st (Zc rfl (st (Zc rfl (st (Zc rfl (st (Zq fn112 rfl (Zjj om om om) ?_)))))))
 rintro _ w3 ⟨hq1, rfl⟩
 have k2 := Zi hq1 none
 have hz3 := hq1.size
 have hb3 := Zf hb2 k2
 have hz4 := hb3.size
 have hO2 := hO.g0 k2
 refine st (Zc rfl (st (Zad rfl rfl (st (Zad rfl rfl (st (Zdv Zbx rfl rfl hO2 om (by first | omega | (simp; done) | (simp; omega)) ?_)))))))
 intro g1 hg1 hl_3 hl_4
 refine st0 (Zcl Zde rfl rfl rfl rfl hO2 hg1 om (by first | omega | (simp; done) | (simp; omega)) ⟨rfl, by omega⟩ ?_)
 intro w4 hO3 k3 hs1
 have hb4 := belowa hb3 k3
 refine st (Ze rfl (Zg (Zab (Zd (Zb (st (Zah rfl rfl om (st (Zc rfl ?_)))))))))
 refine Zg ?_
 exact Zac (((i + 1)), (os.set (i).toNat (((ix ys i) + (ix xs i) + c) % 4294967296)), ((((ix ys i) + (ix xs i) + c) / 4294967296))) ⟨hb4, by omega, by simp; omega, by dsimp only; exact ⟨by omega, by omega⟩, hO3, Zk4 hn hi.1 om rfl rfl⟩ om sb
end Go.Proofs.Ytfljelnfjbbknaa.Lm
namespace Go.Proofs.Ytfljelnfjbbknaa.Lm
open Go.RowKit Go.Gw
set_option maxHeartbeats 1000000 in
theorem sub_any {w : World} {n0 : Nat} (hn0 : n0 ≤ w.heap.size) {a b : Value} {xs ys : List Int} (ha : Sl Kd.u32 w (G 83 n0 w) a xs) (hb : Sl Kd.u32 w (G 83 n0 w) b ys) (hla : xs.length ≤ 100000) (hlb : ys.length ≤ 100000) :
  Calls Try.prog 101 [a, b].toArray w (Zbh w fun r W => ∃ v, r = .tuple #[v, .bool (decide (nv ys ≤ nv xs))] ∧ Sl Kd.u32 W (G 83 n0 W) v (tl (nv xs - nv ys))) := by
 have hb0 := Below.refl w.heap.size w
 have hln1 := ha.lenle
 have hln2 := hb.lenle
 refine enter Try.func101 rfl rfl (Zh (Zb (st (Ze rfl (st (Ze rfl (Zg (Zd ?_))))))))
 refine Zh (Zh (Zb (st (Zc rfl (st (Zc rfl (st (Zq fn82 rfl (cmp_any ((ha.at0 hb0)).none ((hb.at0 hb0)).none) ?_))))))))
 rintro _ w1 ⟨hq1, rfl⟩
 have k1 := Zi hq1 none
 have hz1 := hq1.size
 have hb1 := Zf hb0 k1
 have hz2 := hb1.size
 refine st (Zbd rfl rfl (Zg (Zd ?_)))
 refine Zw rfl (fun h1 => ?_) (fun h1 => ?_)
 ·refine Zh (Zb (st (Ze rfl (st (Ze rfl (Zg (Zd (Zdl rfl rfl rfl ?_))))))))
  have hlt : nv xs < nv ys := by have := h1; unfold Zbt at this; split at this <;> (try split at this) <;> omega
  exact ⟨_, rfl, hb1, _, by rw [decide_eq_false om], by rw [Zfv om]; exact nilG⟩
 refine Zo (Zd (Zh (Zb (st (Zc rfl (st (Zq fn103 rfl (Zh6 ((ha.at0 hb1)).none (by first | omega | (simp; done) | (simp; omega))) ?_)))))))
 rintro v1 w2 ⟨hq2, hO2⟩
 have k2 := Zi hq2 none
 have hz3 := hq2.size
 have hb2 := Zf hb1 k2
 have hz4 := hb2.size
 have hO1 := hO2.rebase (b' := w.heap.size) om
 refine st (Ze rfl (Zg (Zd (Zh (Zb (st (Ze rfl (Zg ?_))))))))
 refine Zd (Zh (Zh (Zb (st (Zc rfl (st (Zaq Zbx rfl hO1.sl (st (Zc rfl ?_)))))))))
 refine Zg (Zd (Zz ?_))
 refine Za2 (α := Int × List Int × Int) (fun ((i, os, c) : Int × List Int × Int) => [(1, b), (4, .slice none 0 0), (5, .bool false), (6, v1), (7, .int .u32 c), (17, .int .i64 (xs.length : Int)), (18, .int .i64 i)]) (fun ((i, os, c) : Int × List Int × Int) W => Below w.heap.size w W ∧ (0 ≤ i ∧ i ≤ xs.length) ∧ (os.length = xs.length) ∧ (0 ≤ c ∧ c ≤ 1) ∧ (Gw.Own Kd.u32 83 w.heap.size W (fun _ => False) v1 os) ∧ (nv (os.take i.toNat) = nv (xs.take i.toNat) - nv (ys.take i.toNat) + PW i.toNat * c) ∧ (∀ j : Int, i ≤ j → ix os j = ix xs j)) (fun ((i, os, c) : Int × List Int × Int) => (xs.length - i).toNat) ((0), (xs), (0)) ⟨hb2, by omega, rfl, by omega, hO1, by simp [nv], fun _ _ => rfl⟩ sb ?_
 rintro ⟨i, os, c⟩ w3 ⟨hb3, hi, hol, hc, hO, hn, hd⟩
 dsimp only at *
 have hz5 := hb3.size
 have hxo := (Zay hO.sl).ix i
 have hxb := (Zay hb).ix i
 refine Zh (Zb (st (Zbd rfl rfl (Zg (Zd (Zh ?_))))))
 refine Zw rfl (fun h2 => ?_) (fun h2 => ?_)
 rotate_left
 ·refine Zak (Zk (Zk (Zs (Zd (Zh (Zb ?_))))))
  refine st (Zc rfl (st (Zq fn99 rfl (Zg9 (hO.slG (n0 := n0))) ?_)))
  rintro v2 w8 ⟨hq5, hS1⟩
  have k7 := Zi hq5 none
  have hz10 := hq5.size
  have hb8 := Zf hb3 k7
  have hz11 := hb8.size
  have hS2 := hS1.gg0 k7
  refine st (Ze rfl (st (Ze rfl (Zg (Zd (Zdl rfl rfl rfl ?_))))))
  have hle : nv ys ≤ nv xs := by have := h1; unfold Zbt at this; split at this <;> (try split at this) <;> omega
  have hend := sub_end hn om hol hc (Zay hO.sl) (Zay ha) (Zay hb) hle
  exact ⟨_, rfl, hb8, _, by rw [decide_eq_true hle], by rw [← hend]; exact hS2⟩
 refine Zo (Zd (Zh (Zz (Zh (Zb (st (Zc rfl ?_)))))))
 refine st (Ze rfl (Zg (Zd (Zh (Zb (st (Ze rfl (Zg ?_))))))))
 refine Zd (Zh (Zh (Zb (st (Zc rfl (st (Zc rfl (st (Zaq Zbx rfl (hb.at0 hb3) ?_)))))))))
 refine st (Zbd rfl rfl (Zg (Zd ?_)))
 refine Zw rfl (fun h3 => ?_) (fun h3 => ?_)
 rotate_left
 ·refine Zo (Zd (Zb (st (Zc rfl (st (Zc rfl (st (Zc rfl (st (Zc rfl ?_))))))))))
  refine st (Zat Zbx rfl rfl hO.sl om om ?_)
  rintro b3 o3 _ ⟨rfl, hr3⟩ hc3 hF3 hlt3
  refine st (Zt Zde rfl hc3 (j := 0) rfl (st (Zc rfl (st (Zc rfl (st (Zq fn113 rfl (sub32_any om om om) ?_)))))))
  rintro _ w6 ⟨hq4, rfl⟩
  have k5 := Zi hq4 none
  have hz8 := hq4.size
  have hb6 := Zf hb3 k5
  have hz9 := hb6.size
  have hO5 := hO.g0 k5
  refine st (Zc rfl (st (Zad rfl rfl (st (Zad rfl rfl (st (Zdv Zbx rfl rfl hO5 om (by first | omega | (simp; done) | (simp; omega)) ?_)))))))
  intro g2 hg2 hl_4 hl_5
  refine st0 (Zcl Zde rfl rfl rfl rfl hO5 hg2 om (by first | omega | (simp; done) | (simp; omega)) ⟨rfl, by omega⟩ ?_)
  intro w7 hO6 k6 hs2
  have hb7 := belowa hb6 k6
  refine st (Ze rfl (Zg (Zab (Zd (Zb (st (Zah rfl rfl om (st (Zc rfl ?_)))))))))
  refine Zg ?_
  exact Zac (((i + 1)), (os.set (i).toNat (((ix os i) - (0 : Int) - c) % 4294967296)), ((if (ix os i) < (0 : Int) + c then 1 else 0))) ⟨hb7, by omega, by simp; omega, by dsimp only; split <;> omega, hO6, sub_step hn hi.1 om (hd i om) (ix_over om).symm hxo dc hc, fun j hj => by rw [Zh4 hi.1 om om]; exact hd j om⟩ om sb
 refine Zb (st (Zc rfl (st (Zc rfl (st (Zat Zbx rfl rfl (hb.at0 hb3) om om ?_))))))
 rintro b1 o1 _ ⟨rfl, hr1⟩ hc1 hF1 hlt1
 have hl_1 := Loc.lt hF1
 refine st (Zt Zde rfl hc1 (j := 0) rfl (st (Ze rfl (Zg (Zd (Zb (st (Zc rfl (st (Zc rfl ?_))))))))))
 refine st (Zc rfl (st (Zc rfl (st (Zat Zbx rfl rfl hO.sl om om ?_)))))
 rintro b2 o2 _ ⟨rfl, hr2⟩ hc2 hF2 hlt2
 refine st (Zt Zde rfl hc2 (j := 0) rfl (st (Zc rfl (st (Zc rfl (st (Zq fn113 rfl (sub32_any om om om) ?_)))))))
 rintro _ w4 ⟨hq3, rfl⟩
 have k3 := Zi hq3 none
 have hz6 := hq3.size
 have hb4 := Zf hb3 k3
 have hz7 := hb4.size
 have hO3 := hO.g0 k3
 refine st (Zc rfl (st (Zad rfl rfl (st (Zad rfl rfl (st (Zdv Zbx rfl rfl hO3 om (by first | omega | (simp; done) | (simp; omega)) ?_)))))))
 intro g1 hg1 hl_2 hl_3
 refine st0 (Zcl Zde rfl rfl rfl rfl hO3 hg1 om (by first | omega | (simp; done) | (simp; omega)) ⟨rfl, by omega⟩ ?_)
 intro w5 hO4 k4 hs1
 have hb5 := belowa hb4 k4
 refine st (Ze rfl (Zg (Zab (Zd (Zb (st (Zah rfl rfl om (st (Zc rfl ?_)))))))))
 refine Zg ?_
 exact Zac (((i + 1)), (os.set (i).toNat (((ix os i) - (ix ys i) - c) % 4294967296)), ((if (ix os i) < (ix ys i) + c then 1 else 0))) ⟨hb5, by omega, by simp; omega, by dsimp only; split <;> omega, hO4, sub_step hn hi.1 om (hd i om) rfl hxo hxb hc, fun j hj => by rw [Zh4 hi.1 om om]; exact hd j om⟩ om sb
set_option maxHeartbeats 1000000 in
theorem fits_any {w : World} {n : Int} :
  Calls Try.prog 98 [.int .i64 n].toArray w (Zbh w fun v _ => v = .bool (fitB n)) := by
 have hb0 := Below.refl w.heap.size w
 refine enter Try.func98 rfl rfl (Zh (Zb (st (Ze rfl (Zg (Zd (Zh ?_)))))))
 refine Zb (st (Zc rfl (st (Zg3 rfl rfl (st (Zc rfl ?_))))))
 refine Zax 5 rfl (fun h1 => ?_) (fun h1 => ?_)
 rotate_left
 ·refine Zj rfl rfl (Zj rfl rfl (st (Zr rfl rfl (st (Ze rfl (Zg (Zd (Zaa rfl rfl ?_))))))))
  exact ⟨_, rfl, hb0, by unfold fitB; rw [decide_eq_false h1]; rfl⟩
 refine stg (Zc rfl (stg (s_le rfl rfl (st (Zr rfl rfl (st (Ze rfl (Zg (Zd (Zaa rfl rfl ?_))))))))))
 exact ⟨_, rfl, hb0, by unfold fitB; rw [decide_eq_true h1]; rfl⟩
end Go.Proofs.Ytfljelnfjbbknaa.Lm
namespace Go.Proofs.Ytfljelnfjbbknaa.Lm
open Go.RowKit Go.Gw
set_option maxHeartbeats 1000000 in
theorem shl_any {w : World} {n0 : Nat} (hn0 : n0 ≤ w.heap.size) {a : Value} {n : Int} {xs : List Int} (ha : Sl Kd.u32 w (G 83 n0 w) a xs) (hla : xs.length ≤ 100000) :
  Calls Try.prog 77 [a, .int .i64 n].toArray w (Zbh w fun v W => Sl Kd.u32 W (G 83 n0 W) v (shlL xs n)) := by
 have hb0 := Below.refl w.heap.size w
 have hln1 := ha.lenle
 refine enter Try.func77 rfl rfl (Zh (Zb (st (Ze rfl (Zg (Zd (Zh ?_)))))))
 refine Zh (Zb (st (Zc rfl (st (Zq fn98 rfl (fits_any) ?_)))))
 rintro _ w1 ⟨hq1, rfl⟩
 have k1 := Zi hq1 none
 have hz1 := hq1.size
 have hb1 := Zf hb0 k1
 have hz2 := hb1.size
 refine st (Zdd rfl (Zg (Zd ?_)))
 refine Zba rfl (fun h1 => ?_) (fun h1 => ?_)
 ·have hft : fitB n = false := by simpa using h1
  refine Zh (Zb (st (Ze rfl (Zg (Zd (Zaa rfl rfl ?_))))))
  exact ⟨_, rfl, hb1, by unfold shlL; rw [if_neg (by rw [hft]; decide)]; exact nilG⟩
 have hft : fitB n = true := by simpa using h1
 have hnb : 0 ≤ n ∧ n ≤ 10000 := by simpa [fitB] using hft
 refine Zo (Zd (Zh (Zb (st (Zc rfl (st (Zaq Zbx rfl (ha.at0 hb1) (st (Zc rfl ?_)))))))))
 refine st (s_quoi rfl rfl om om (st (Zah rfl rfl om (st (Zah rfl rfl om (st (Zi5 (K := Kd.u32) (base := w.heap.size) (F := (fun _ => False)) Zbx rfl om om om (fun _ _ => ⟨rfl, by decide⟩) om (fun _ h => h.elim) ?_)))))))
 intro v1 w2 hO1 k2
 have hb2 := Zf hb1 k2
 have hz3 := hb2.size
 refine st (Ze rfl (Zg (Zd (Zh (Zh (Zb (st (Zc rfl ?_))))))))
 refine st (Zaq Zbx rfl (ha.at0 hb2) (st (Zc rfl (Zg (Zd (Zz ?_))))))
 refine Za2 (α := Int × List Int) (fun ((i, os) : Int × List Int) => [(1, .int .i64 n), (4, .slice none 0 0), (5, v1), (19, a), (20, .int .i64 (xs.length : Int)), (21, .int .i64 i)]) (fun ((i, os) : Int × List Int) W => Below w.heap.size w W ∧ (0 ≤ i ∧ i ≤ xs.length) ∧ ((os.length : Int) = xs.length + n / 32 + 1) ∧ (Gw.Own Kd.u32 83 w.heap.size W (fun _ => False) v1 os) ∧ (nv (os.take (i + n / 32 + 1).toNat) = nv (xs.take i.toNat) * 2 ^ n.toNat) ∧ (ix os (i + n / 32) < 2 ^ (n % 32).toNat) ∧ (∀ j : Int, i + n / 32 < j → ix os j = 0)) (fun ((i, os) : Int × List Int) => (xs.length - i).toNat) ((0), (List.replicate ((((xs.length : Int) + (n / 32)) + 1)).toNat 0)) ⟨hb2, by omega, by rw [List.length_replicate]; omega, hO1, by rw [nv_zeros]; simp [nv], by rw [ix_zeros]; exact Za5 _, fun j _ => ix_zeros _ _⟩ sb ?_
 rintro ⟨i, os⟩ w3 ⟨hb3, hi, hol, hO, hn, hp, hz⟩
 dsimp only at *
 have hz4 := hb3.size
 have hxa := (Zay ha).ix i
 have hxo := (Zay hO.sl).ix (i + (n / 32))
 have hstep := fun (h1 : i < xs.length) => shl_step (Zay ha) (Zay hO.sl) hi.1 h1 hnb.1 hol hz hp hn
 refine Zh (Zb (st (Zbd rfl rfl (Zg (Zd (Zh ?_))))))
 refine Zw rfl (fun h2 => ?_) (fun h2 => ?_)
 rotate_left
 ·refine Zak (Zk (Zk (Zs (Zd (Zh (Zb ?_))))))
  refine st (Zc rfl (st (Zq fn99 rfl (Zg9 (hO.slG (n0 := n0))) ?_)))
  rintro v2 w32 ⟨hq2, hS1⟩
  have k31 := Zi hq2 none
  have hz5 := hq2.size
  have hb32 := Zf hb3 k31
  have hz6 := hb32.size
  have hS2 := hS1.gg0 k31
  refine st (Ze rfl (Zg (Zd (Zaa rfl rfl ?_))))
  have hend := shl_end hn om hol
  exact ⟨_, rfl, hb32, by unfold shlL; rw [if_pos hft, ← hend]; exact hS2⟩
 have hstep := hstep om
 refine Zo (Zd (Zh (Zz (Zh (Zb (st (Zc rfl ?_)))))))
 refine st (Zat Zbx rfl rfl (ha.at0 hb3) om (by first | omega | (rw [List.length_set]; omega)) ?_)
 rintro b1 o1 _ ⟨rfl, hr1⟩ hc1 hF1 hlt1
 have hl_1 := Loc.lt hF1
 refine st (Zt Zde rfl hc1 (j := 0) rfl (st (Ze rfl (st (Ze rfl (Zg (Zd (Zh (Zb ?_)))))))))
 refine st (Zc rfl (st (Zc rfl (st (s_quoi rfl rfl om om (st (Zah rfl rfl om (st (Ze rfl (Zg (Zd ?_)))))))))))
 refine Zh ?_
 obtain ⟨b2, o2, _, hat1, ⟨rfl, hr2⟩, hc2, hF2, hlt2⟩ := hO.sl.elem (i + (n / 32)) om (by first | omega | (rw [List.length_set]; omega))
 refine Zce 9 GN [xi 30 <| v1, xi 31 <| .int .i64 (i + (n / 32)), xi 32 <| .pointer (some ⟨b2, o2, none⟩), xi 33 <| .int .u32 (ix os (i + (n / 32))), xi 34 <| .int .u32 (ix xs i), xi 35 <| .int .i64 n, xi 36 <| .int .i64 (n % 32), xi 37 <| .int .u32 (((ix xs i) * (2 ^ ((n % 32)).toNat)) % 4294967296), xi 38 <| .int .u32 (ior (ix os (i + (n / 32))) (((ix xs i) * (2 ^ ((n % 32)).toNat)) % 4294967296))] [[], [], [0, 1], [2], [], [], [5], [4, 6], [3, 7]] [(1, .int .i64 n), (4, .slice none 0 0), (5, v1), (7, .int .u32 (ix xs i)), (8, .int .i64 (i + (n / 32))), (19, a), (20, .int .i64 (xs.length : Int)), (21, .int .i64 i)] sb kr kr Za gnt ⟨kv, kv, kv, kv, kv, kv, kv, kv, kv, trivial⟩ ?_
 intro w4 k3 hs1
 have hb4 := Zf hb3 k3
 have hO2 := hO.g0 k3
 refine ⟨⟨?_, ?_, ?_, ?_, ?_, ?_, ?_, ?_, ?_, trivial⟩, ?_⟩
 ·intro w5 k4
  refine op1 (Zc rfl ?_)
  exact ⟨rfl, Za _⟩
 ·intro w6 k5
  refine op1 (Zc rfl ?_)
  exact ⟨rfl, Za _⟩
 ·intro w7 k6
  intro v_ hv_; subst v_
  rintro _ rfl
  refine op1 (Zbo Zbx rfl rfl hat1 ?_)
  exact ⟨rfl, Za _⟩
 ·intro w8 k7
  rintro _ rfl
  refine op1 (Zt Zde rfl (Zaj (Zaj hc2 k3) k7) (j := 0) rfl ?_)
  exact ⟨rfl, Za _⟩
 ·intro w9 k8
  refine op1 (Zc rfl ?_)
  exact ⟨rfl, Za _⟩
 ·intro w10 k9
  refine op1 (Zc rfl ?_)
  exact ⟨rfl, Za _⟩
 ·intro w11 k10
  rintro _ rfl
  refine op1 (Zew rfl rfl om om ?_)
  exact ⟨rfl, Za _⟩
 ·intro w12 k11
  rintro _ rfl _ rfl
  refine op1 (s_shlk (M := 4294967296) (p := (2 ^ ((n % 32)).toNat)) rfl rfl rfl rfl om (by rw [Nat.min_eq_left (by show ((n % 32)).toNat ≤ 32; omega)]) ?_)
  exact ⟨rfl, Za _⟩
 ·intro w13 k12
  rintro _ rfl _ rfl
  refine op1 (s_or (M := 4294967296) rfl rfl rfl rfl om om ?_)
  exact ⟨rfl, Za _⟩
 intro w14 k13
 have hb14 := Zf hb4 k13
 have hO12 := hO2.g0 k13
 intro v_ hv_; subst v_
 rintro _ rfl _ rfl _ rfl _ rfl _ rfl _ rfl _ rfl _ rfl
 refine st (Zdv Zbx rfl rfl hO12 om (by first | omega | (rw [List.length_set]; omega) | (simp; omega)) ?_)
 intro g1 hg1 hl_2 hl_3
 refine st0 (Zcl Zde rfl rfl rfl rfl hO12 hg1 om (by first | omega | (rw [List.length_set]; omega) | (simp; omega)) ⟨rfl, by first | omega | exact ior_lt om om⟩ ?_)
 intro w15 hO13 k14 hs2
 have hb15 := belowa hb14 k14
 refine Zg (Zd ?_)
 have hxo2 := (Zay hO13.sl).ix (i + (n / 32) + 1)
 obtain ⟨b3, o3, _, hat2, ⟨rfl, hr3⟩, hc3, hF3, hlt3⟩ := hO13.sl.elem ((i + (n / 32)) + 1) om (by first | omega | (rw [List.length_set]; omega))
 refine Zce 13 GN [xi 40 <| v1, xi 41 <| .int .i64 (i + (n / 32)), xi 42 <| .int .i64 ((i + (n / 32)) + 1), xi 43 <| .pointer (some ⟨b3, o3, none⟩), xi 44 <| .int .u32 (ix (os.set ((i + (n / 32))).toNat (ior (ix os (i + (n / 32))) (((ix xs i) * (2 ^ ((n % 32)).toNat)) % 4294967296))) ((i + (n / 32)) + 1)), xi 45 <| .int .u32 (ix xs i), xi 46 <| .int .u64 (ix xs i), xi 47 <| .int .i64 n, xi 48 <| .int .i64 (n % 32), xi 49 <| .int .u64 (((ix xs i) * (2 ^ ((n % 32)).toNat)) % 18446744073709551616), xi 50 <| .int .u64 ((((ix xs i) * (2 ^ ((n % 32)).toNat)) % 18446744073709551616) / 4294967296), xi 51 <| .int .u32 (((((ix xs i) * (2 ^ ((n % 32)).toNat)) % 18446744073709551616) / 4294967296) % 4294967296), xi 52 <| .int .u32 (ior (ix (os.set ((i + (n / 32))).toNat (ior (ix os (i + (n / 32))) (((ix xs i) * (2 ^ ((n % 32)).toNat)) % 4294967296))) ((i + (n / 32)) + 1)) (((((ix xs i) * (2 ^ ((n % 32)).toNat)) % 18446744073709551616) / 4294967296) % 4294967296))] [[], [], [1], [0, 2], [3], [], [5], [], [7], [6, 8], [9], [10], [4, 11]] [(1, .int .i64 n), (4, .slice none 0 0), (5, v1), (7, .int .u32 (ix xs i)), (8, .int .i64 (i + (n / 32))), (19, a), (20, .int .i64 (xs.length : Int)), (21, .int .i64 i)] sb kr kr Za gnt ⟨kv, kv, kv, kv, kv, kv, kv, kv, kv, kv, kv, kv, kv, trivial⟩ ?_
 intro w16 k15 hs3
 have hb16 := Zf hb15 k15
 have hO14 := hO13.g0 k15
 refine ⟨⟨?_, ?_, ?_, ?_, ?_, ?_, ?_, ?_, ?_, ?_, ?_, ?_, ?_, trivial⟩, ?_⟩
 ·intro w17 k16
  refine op1 (Zc rfl ?_)
  exact ⟨rfl, Za _⟩
 ·intro w18 k17
  refine op1 (Zc rfl ?_)
  exact ⟨rfl, Za _⟩
 ·intro w19 k18
  rintro _ rfl
  refine op1 (Zah rfl rfl om ?_)
  exact ⟨rfl, Za _⟩
 ·intro w20 k19
  intro v_ hv_; subst v_
  rintro _ rfl
  refine op1 (Zbo Zbx rfl rfl hat2 ?_)
  exact ⟨rfl, Za _⟩
 ·intro w21 k20
  rintro _ rfl
  refine op1 (Zt Zde rfl (Zaj (Zaj hc3 k15) k20) (j := 0) rfl ?_)
  exact ⟨rfl, Za _⟩
 ·intro w22 k21
  refine op1 (Zc rfl ?_)
  exact ⟨rfl, Za _⟩
 ·intro w23 k22
  rintro _ rfl
  refine op1 (s_convk (M := 18446744073709551616) rfl rfl Zdu Zec rfl om ?_)
  exact ⟨rfl, Za _⟩
 ·intro w24 k23
  refine op1 (Zc rfl ?_)
  exact ⟨rfl, Za _⟩
 ·intro w25 k24
  rintro _ rfl
  refine op1 (Zew rfl rfl om om ?_)
  exact ⟨rfl, Za _⟩
 ·intro w26 k25
  rintro _ rfl _ rfl
  refine op1 (s_shlk (M := 18446744073709551616) (p := (2 ^ ((n % 32)).toNat)) rfl rfl rfl rfl om (by rw [Nat.min_eq_left (by show ((n % 32)).toNat ≤ 64; omega)]) ?_)
  exact ⟨rfl, Za _⟩
 ·intro w27 k26
  rintro _ rfl
  refine op1 (Zio (p := 4294967296) rfl rfl dc dc ?_)
  exact ⟨rfl, Za _⟩
 ·intro w28 k27
  rintro _ rfl
  refine op1 (Zco (M := 4294967296) rfl rfl Zec Zdu rfl ?_)
  exact ⟨rfl, Za _⟩
 ·intro w29 k28
  rintro _ rfl _ rfl
  refine op1 (s_or (M := 4294967296) rfl rfl rfl rfl om om ?_)
  exact ⟨rfl, Za _⟩
 intro w30 k29
 have hb30 := Zf hb16 k29
 have hO28 := hO14.g0 k29
 intro v_ hv_; subst v_
 rintro _ rfl _ rfl _ rfl _ rfl _ rfl _ rfl _ rfl _ rfl _ rfl _ rfl _ rfl _ rfl
 refine st (Zdv Zbx rfl rfl hO28 om (by first | omega | (rw [List.length_set]; omega) | (simp; omega)) ?_)
 intro g2 hg2 hl_4 hl_5
 refine st0 (Zcl Zde rfl rfl rfl rfl hO28 hg2 om (by first | omega | (rw [List.length_set]; omega) | (simp; omega)) ⟨rfl, by first | omega | exact ior_lt om om⟩ ?_)
 intro w31 hO29 k30 hs4
 have hb31 := belowa hb30 k30
 refine Zg (Zab (Zd (Zb (st (Zah rfl rfl om (st (Zc rfl (Zg ?_))))))))
 exact Zac (((i + 1)), ((os.set ((i + (n / 32))).toNat (ior (ix os (i + (n / 32))) (((ix xs i) * (2 ^ ((n % 32)).toNat)) % 4294967296))).set (((i + (n / 32)) + 1)).toNat (ior (ix (os.set ((i + (n / 32))).toNat (ior (ix os (i + (n / 32))) (((ix xs i) * (2 ^ ((n % 32)).toNat)) % 4294967296))) ((i + (n / 32)) + 1)) (((((ix xs i) * (2 ^ ((n % 32)).toNat)) % 18446744073709551616) / 4294967296) % 4294967296)))) ⟨hb31, by omega, by rw [List.length_set, List.length_set]; exact hol, hO29, hstep.1, hstep.2.1, hstep.2.2⟩ om sb
end Go.Proofs.Ytfljelnfjbbknaa.Lm
namespace Go.Proofs.Ytfljelnfjbbknaa.Lm
open Go.RowKit Go.Gw
set_option maxHeartbeats 1000000 in
theorem len32_any {w : World} {x : Int} (hx : 0 ≤ x ∧ x < 4294967296) :
  Calls Try.prog 106 [.int .u32 x].toArray w (Zbh w fun v _ => v = .int .i64 (Zeb x)) := by
 have hb0 := Below.refl w.heap.size w
 refine enter Try.func106 rfl rfl (Zh (Zb (st (Ze rfl (Zg (Zd (Zh ?_)))))))
 refine Zh (Zb (st (Zc rfl (st (Zg3 rfl rfl (Zg (Zd ?_)))))))
 refine Zw rfl (fun h1 => ?_) (fun h1 => ?_)
 rotate_left
 ·refine Zo (Zd (Zh (Zh (Zb (st (Zc rfl (st (Zg3 rfl rfl ?_))))))))
  refine Zg (Zd ?_)
  refine Zw rfl (fun h3 => ?_) (fun h3 => ?_)
  rotate_left
  ·refine Zo (Zd (Zh (Zb (st (Zc rfl (st (Zc rfl (st (Zco (M := 256) rfl rfl Zdu Zgs rfl ?_)))))))))
   refine st (s_sidx str9 rfl rfl om (tab_lt (by decide +kernel) om) (st (Zgt Zgs Zh5 rfl (bl_conv _ _) (st (Zah rfl rfl (by first | omega | exact Zlx om) (st (Ze rfl (Zg (Zd (Zaa rfl rfl ?_))))))))))
   exact ⟨_, rfl, hb0, congrArg (Value.int .i64) (len_fin (by decide +kernel) om om)⟩
  refine Zh (Zb (st (Zc rfl (st (Zio (p := 256) rfl rfl dc dc (st (Ze rfl (Zg (Zd ?_)))))))))
  refine Zb (st (Zc rfl (st (Zah rfl rfl (by first | omega | exact Zlx om) (st (Ze rfl (Zg (Zd (Zh ?_)))))))))
  refine Zb (st (Zc rfl (st (Zc rfl (st (Zco (M := 256) rfl rfl Zdu Zgs rfl (st (s_sidx str9 rfl rfl om (tab_lt (by decide +kernel) om) (st (Zgt Zgs Zh5 rfl (bl_conv _ _) (st (Zah rfl rfl (by first | omega | exact Zlx om) ?_))))))))))))
  refine st (Ze rfl (Zg (Zd (Zaa rfl rfl ?_))))
  have e2 := blen8 (x := x) om
  exact ⟨_, rfl, hb0, congrArg (Value.int .i64) (len_fin (by decide +kernel) om om)⟩
 refine Zh (Zb (st (Zc rfl (st (Zio (p := 65536) rfl rfl dc dc (st (Ze rfl (Zg (Zd ?_)))))))))
 refine Zb (st (Ze rfl (Zg (Zd (Zh (Zh (Zb ?_)))))))
 refine st (Zc rfl (st (Zg3 rfl rfl (Zg (Zd ?_)))))
 refine Zw rfl (fun h2 => ?_) (fun h2 => ?_)
 rotate_left
 ·refine Zo (Zd (Zh (Zb (st (Zc rfl (st (Zc rfl (st (Zco (M := 256) rfl rfl Zdu Zgs rfl ?_)))))))))
  refine st (s_sidx str9 rfl rfl om (tab_lt (by decide +kernel) om) (st (Zgt Zgs Zh5 rfl (bl_conv _ _) (st (Zah rfl rfl (by first | omega | exact Zlx om) (st (Ze rfl (Zg (Zd (Zaa rfl rfl ?_))))))))))
  have e1 := blen16 (x := x) om
  exact ⟨_, rfl, hb0, congrArg (Value.int .i64) (len_fin (by decide +kernel) om om)⟩
 refine Zh (Zb (st (Zc rfl (st (Zio (p := 256) rfl rfl dc dc (st (Ze rfl (Zg (Zd ?_)))))))))
 refine Zb (st (Zc rfl (st (Zah rfl rfl (by first | omega | exact Zlx om) (st (Ze rfl (Zg (Zd (Zh ?_)))))))))
 refine Zb (st (Zc rfl (st (Zc rfl (st (Zco (M := 256) rfl rfl Zdu Zgs rfl (st (s_sidx str9 rfl rfl om (tab_lt (by decide +kernel) om) (st (Zgt Zgs Zh5 rfl (bl_conv _ _) (st (Zah rfl rfl (by first | omega | exact Zlx om) ?_))))))))))))
 refine st (Ze rfl (Zg (Zd (Zaa rfl rfl ?_))))
 have e1 := blen16 (x := x) om
 have e2 := blen8 (x := (x / 65536)) om
 exact ⟨_, rfl, hb0, congrArg (Value.int .i64) (len_fin (by decide +kernel) om om)⟩
set_option maxHeartbeats 1000000 in
theorem len_any {w : World} {a : Value} {xs : List Int} (ha : Sl Kd.u32 w (fun _ => False) a xs) (hla : xs.length ≤ 100000) :
  Calls Try.prog 89 [a].toArray w (Zbh w fun v _ => v = .int .i64 (Zeb (nv xs))) := by
 have hb0 := Below.refl w.heap.size w
 have hln1 := ha.lenle
 have hx9 := (Zem (nv xs)).ix (((tl (nv xs)).length : Int) - 1)
 have hb9 := blen_le hx9
 have hl9 := Zlm (Zap (Zay ha)) (Zj2 (Zay ha))
 refine enter Try.func89 rfl rfl (Zh (Zb (st (Ze rfl (Zg (Zd (Zh ?_)))))))
 refine Zb (st (Zc rfl (st (Zq fn99 rfl (Zg9 (ha.at0 hb0)) ?_))))
 rintro v1 w1 ⟨hq1, hS1⟩
 have hS2 := hS1.orig Zd6 hb0
 have k1 := Zi hq1 none
 have hz1 := hq1.size
 have hb1 := Zf hb0 k1
 have hz2 := hb1.size
 refine st (Ze rfl (Zg (Zd (Zh (Zh (Zb (st (Zc rfl ?_))))))))
 refine st (Zaq Zbx rfl (hS2.at0 hb1) (st (Zbu rfl rfl (Zg (Zd ?_)))))
 refine Zw rfl (fun h1 => ?_) (fun h1 => ?_)
 ·refine Zh (Zb (st (Ze rfl (Zg (Zd (Zaa rfl rfl ?_))))))
  have e : tl (nv xs) = [] := List.eq_nil_of_length_eq_zero om
  have e2 : nv xs ≤ 0 := by rw [← Zf3 (Zap (Zay ha)), e]; exact Int.le_refl _
  exact ⟨_, rfl, hb1, by rw [Zhv e2]⟩
 refine Zo (Zd (Zh (Zb (st (Zc rfl (st (Zaq Zbx rfl (hS2.at0 hb1) (st (Za7 rfl rfl om ?_)))))))))
 refine st (s_mul rfl rfl om (st (Zc rfl (st (Zc rfl (st (Zaq Zbx rfl (hS2.at0 hb1) (st (Za7 rfl rfl om (st (Zat Zbx rfl rfl (hS2.at0 hb1) om om ?_)))))))))))
 rintro b1 o1 _ ⟨rfl, hr1⟩ hc1 hF1 hlt1
 have hl_1 := Loc.lt hF1
 refine st (Zt Zde rfl hc1 (j := 0) rfl (st (Zq fn106 rfl (len32_any om) ?_)))
 rintro _ w2 ⟨hq2, rfl⟩
 have k2 := Zi hq2 none
 have hz3 := hq2.size
 have hb2 := Zf hb1 k2
 have hz4 := hb2.size
 refine st (Zah rfl rfl om (st (Ze rfl (Zg (Zd (Zaa rfl rfl ?_))))))
 have e := blen_last (Zem (nv xs)) (Zki (nv xs)) h1
 rw [Zf3 (Zap (Zay ha))] at e
 exact ⟨_, rfl, hb2, by rw [← e]⟩
set_option maxHeartbeats 1000000 in
theorem bit_any {w : World} {a : Value} {i : Int} {xs : List Int} (ha : Sl Kd.u32 w (fun _ => False) a xs) (hi : i ≤ 9223372036854775807) :
  Calls Try.prog 95 [a, .int .i64 i].toArray w (Zbh w fun v _ => v = .bool (Zex (nv xs) i)) := by
 have hb0 := Below.refl w.heap.size w
 have hln1 := ha.lenle
 have hxi := (Zay ha).ix (i / 32)
 have hsb := shr_bd hxi (i % 32)
 refine enter Try.func95 rfl rfl (Zh (Zb (st (Ze rfl (Zg (Zd (Zh ?_)))))))
 refine Zb (st (Zc rfl (st (Zg3 rfl rfl (st (Zc rfl ?_))))))
 refine Zax 7 rfl (fun h1 => ?_) (fun h1 => ?_)
 rotate_left
 ·refine Zj rfl rfl (Zj rfl rfl (Zj rfl rfl (Zj rfl rfl (Zj rfl rfl (st (Zr rfl rfl (st (Zc rfl ?_))))))))
  refine Zj rfl rfl (Zj rfl rfl (Zj rfl rfl (Zj rfl rfl (Zj rfl rfl (Zj rfl rfl (Zj rfl rfl ?_))))))
  refine Zj rfl rfl (Zj rfl rfl (Zj rfl rfl (st (Zr rfl rfl (st (Ze rfl (Zg (Zd ?_))))))))
  refine Zaa rfl rfl ?_
  exact ⟨_, rfl, hb0, by rw [bit_no1 om]⟩
 refine stg (Zc rfl (stg (s_quoi rfl rfl om om (stg (Zc rfl (stg (Zaq Zbx rfl (ha.at0 hb0) (stg (Zbd rfl rfl (st (Zr rfl rfl (st (Zc rfl ?_)))))))))))))
 refine Zax 14 rfl (fun h2 => ?_) (fun h2 => ?_)
 rotate_left
 ·refine Zj rfl rfl (Zj rfl rfl (Zj rfl rfl (Zj rfl rfl (Zj rfl rfl (Zj rfl rfl (Zj rfl rfl ?_))))))
  refine Zj rfl rfl (Zj rfl rfl (Zj rfl rfl (st (Zr rfl rfl (st (Ze rfl (Zg (Zd ?_))))))))
  refine Zaa rfl rfl ?_
  exact ⟨_, rfl, hb0, by rw [bit_no2 (Zay ha) om om]⟩
 refine stg (Zc rfl (stg (Zc rfl (stg (s_quoi rfl rfl om om (stg (Zat Zbx rfl rfl (ha.at0 hb0) om om ?_)))))))
 rintro b1 o1 _ ⟨rfl, hr1⟩ hc1 hF1 hlt1
 have hl_1 := Loc.lt hF1
 refine stg (Zt Zde rfl hc1 (j := 0) rfl (stg (Zc rfl (stg (Zew rfl rfl om om (stg (Zio (p := (2 ^ ((i % 32)).toNat)) rfl rfl om (by rw [Nat.min_eq_left (by show ((i % 32)).toNat ≤ 32; omega)]) (stg (s_and (M := 4294967296) rfl rfl rfl rfl om om (stg (Zbu rfl rfl (st (Zr rfl rfl ?_)))))))))))))
 refine st (Ze rfl (Zg (Zd (Zaa rfl rfl ?_))))
 exact ⟨_, rfl, hb0, by rw [bit_yes (Zay ha) om om]⟩
end Go.Proofs.Ytfljelnfjbbknaa.Lm
namespace Go.Proofs.Ytfljelnfjbbknaa.Lm
open Go.RowKit Go.Gw
set_option maxHeartbeats 1000000 in
theorem bcut_any {w : World} {F : Nat → Prop} {a : Value} {xs : List Bool} (ha : Sl Kd.bool w F a xs) :
  Calls Try.prog 105 [a].toArray w (Zbh w fun v _ => Sl Kd.bool w F v (tb (bv xs))) := by
 have hb0 := Below.refl w.heap.size w
 have hln1 := ha.lenle
 refine enter Try.func105 rfl rfl (Zh (Zb (st (Ze rfl (Zg (Zd (Zh ?_)))))))
 refine Zz (Za2 (α := Value × List Bool) (fun ((v, ys) : Value × List Bool) => [(0, v), (2, .slice none 0 0)]) (fun ((v, ys) : Value × List Bool) W => Below w.heap.size w W ∧ (Sl Kd.bool w F v ys) ∧ (bv ys = bv xs)) (fun ((v, ys) : Value × List Bool) => ys.length) ((a), (xs)) ⟨hb0, ha, rfl⟩ sb ?_)
 rintro ⟨v, ys⟩ w1 ⟨hb1, hv, hn⟩
 dsimp only at *
 have hz1 := hb1.size
 have hln9 := hv.lenle
 refine Zh (Zh (Zb (st (Zc rfl (st (Zaq Zcq rfl (hv.at0 hb1) (st (Zch rfl rfl (st (Zc rfl ?_))))))))))
 refine Zax 6 rfl (fun h1 => ?_) (fun h1 => ?_)
 rotate_left
 ·have hc3 : Zip ys := .inl (List.eq_nil_of_length_eq_zero om)
  refine Zj rfl rfl (Zj rfl rfl (Zj rfl rfl (Zj rfl rfl (Zj rfl rfl (Zj rfl rfl (Zj rfl rfl ?_))))))
  refine st (Zr rfl rfl (Zg (Zd (Zbv rfl (Zak (Zk (Zk ?_)))))))
  refine Zs (Zd (Zh (Zb (st (Zc rfl (st (Ze rfl (Zg ?_))))))))
  refine Zd (Zaa rfl rfl ?_)
  exact ⟨_, rfl, hb1, by rw [← hn, tb_bv hc3]; exact hv⟩
 refine stg (Zc rfl (stg (Zc rfl (stg (Zaq Zcq rfl (hv.at0 hb1) (stg (Za7 rfl rfl om (stg (Zat Zcq rfl rfl (hv.at0 hb1) om om ?_)))))))))
 rintro b1 o1 _ ⟨rfl, _⟩ hc1 hF1 hlt1
 have hl_1 := Loc.lt hF1
 refine stg (Zt Zeg rfl hc1 (j := 0) rfl (stg (Zdd rfl (st (Zr rfl rfl (Zg (Zd ?_)))))))
 refine Zba rfl (fun h2 => ?_) (fun h2 => ?_)
 rotate_left
 ·have hc3 : Zip ys := .inr (by simpa using h2)
  refine Zak (Zk (Zk (Zs (Zd (Zh (Zb ?_))))))
  refine st (Zc rfl (st (Ze rfl (Zg (Zd (Zaa rfl rfl ?_))))))
  exact ⟨_, rfl, hb1, by rw [← hn, tb_bv hc3]; exact hv⟩
 have hc2 := bv_cut h1 (by simpa using h2)
 refine Zo (Zd (Zz (Zb (st (Zc rfl (st (Zc rfl (st (Zaq Zcq rfl (hv.at0 hb1) ?_)))))))))
 refine st (Za7 rfl rfl om (st (s_slhi Zcq rfl rfl (hv.at0 hb1) (by first | omega | (simp; omega)) (by first | omega | (simp; omega)) ?_)))
 intro v1 hS1
 refine st (Ze rfl (Zg (Zab ?_)))
 exact Zac ((v1), (ys.take (((ys.length : Int) - 1)).toNat)) ⟨hb1, (hS1).orig Zft hb1, by rw [show ((ys.length : Int) - 1).toNat = ys.length - 1 by omega]; exact hc2.trans hn⟩ (by simp; omega) sb
set_option maxHeartbeats 1000000 in
theorem Zih {w : World} {a : Value} {i : Int} {xs : List Bool} (ha : Sl Kd.bool w (fun _ => False) a xs) :
  Calls Try.prog 86 [a, .int .i64 i].toArray w (Zbh w fun v _ => v = .bool (atB xs i)) := by
 have hb0 := Below.refl w.heap.size w
 have hln1 := ha.lenle
 refine enter Try.func86 rfl rfl (Zh (Zb (st (Ze rfl (Zg (Zd (Zh ?_)))))))
 refine Zb (st (Zc rfl (st (Zg3 rfl rfl (st (Zc rfl ?_))))))
 refine Zax 7 rfl (fun h1 => ?_) (fun h1 => ?_)
 rotate_left
 ·refine Zj rfl rfl (Zj rfl rfl (Zj rfl rfl (Zj rfl rfl (st (Zr rfl rfl (st (Zc rfl (Zj rfl rfl ?_))))))))
  refine Zj rfl rfl (Zj rfl rfl (Zj rfl rfl (st (Zr rfl rfl (st (Ze rfl (Zg (Zd ?_))))))))
  refine Zaa rfl rfl ?_
  exact ⟨_, rfl, hb0, by unfold atB; rw [decide_eq_false h1]; rfl⟩
 refine stg (Zc rfl (stg (Zc rfl (stg (Zaq Zcq rfl (ha.at0 hb0) (stg (Zbd rfl rfl (st (Zr rfl rfl (st (Zc rfl ?_)))))))))))
 refine Zax 13 rfl (fun h2 => ?_) (fun h2 => ?_)
 rotate_left
 ·refine Zj rfl rfl (Zj rfl rfl (Zj rfl rfl (Zj rfl rfl (st (Zr rfl rfl (st (Ze rfl (Zg ?_))))))))
  refine Zd (Zaa rfl rfl ?_)
  exact ⟨_, rfl, hb0, by unfold atB; rw [decide_eq_true om, decide_eq_false h2]; rfl⟩
 refine stg (Zc rfl (stg (Zc rfl (stg (Zat Zcq rfl rfl (ha.at0 hb0) om om ?_)))))
 rintro b1 o1 _ ⟨rfl, _⟩ hc1 hF1 hlt1
 have hl_1 := Loc.lt hF1
 refine stg (Zt Zeg rfl hc1 (j := 0) rfl (st (Zr rfl rfl (st (Ze rfl (Zg (Zd (Zaa rfl rfl ?_))))))))
 exact ⟨_, rfl, hb0, by unfold atB; rw [decide_eq_true om, decide_eq_true om, Bool.true_and, Bool.true_and]⟩
set_option maxHeartbeats 1000000 in
theorem Ze7 {w : World} {a : Value} {xs : List Int} (ha : Sl Kd.u32 w (fun _ => False) a xs) (hla : xs.length ≤ 100000) :
  Calls Try.prog 85 [a].toArray w (Zbh w fun v W => Sl Kd.bool W (fun _ => False) v (tb (nv xs))) := by
 have hb0 := Below.refl w.heap.size w
 have hln1 := ha.lenle
 refine enter Try.func85 rfl rfl (Zh (Zb (st (Ze rfl (Zg (Zd (Zh ?_)))))))
 refine Zb (st (Ze rfl (Zg (Zd (Zh (Zh (Zb ?_)))))))
 refine st (Ze rfl (Zg (Zd (Zz (Za2 (α := Int × Value × List Bool) (fun ((i, v, os) : Int × Value × List Bool) => [(0, a), (2, .slice none 0 0), (3, v), (4, .int .i64 i)]) (fun ((i, v, os) : Int × Value × List Bool) W => Below w.heap.size w W ∧ (0 ≤ i ∧ i ≤ xs.length) ∧ (Gw.Own Kd.bool 4 w.heap.size W (fun _ => False) v os) ∧ ((os.length : Int) = 32 * i) ∧ (bv os = nv (xs.take i.toNat))) (fun ((i, v, os) : Int × Value × List Bool) => (xs.length - i).toNat) ((0), (.slice none 0 0), ([])) ⟨hb0, by omega, Own.nil Kd.bool 4 _ _ _, rfl, rfl⟩ sb ?_)))))
 rintro ⟨i, v, os⟩ w1 ⟨hb1, hi, hO, hol, hn⟩
 dsimp only at *
 have hz1 := hb1.size
 have hxa := (Zay ha).ix i
 refine Zh (Zh (Zb (st (Zc rfl (st (Zc rfl (st (Zaq Zbx rfl (ha.at0 hb1) (st (Zbd rfl rfl ?_))))))))))
 refine Zg (Zd ?_)
 refine Zw rfl (fun h1 => ?_) (fun h1 => ?_)
 rotate_left
 ·refine Zak (Zk (Zk (Zs (Zd (Zh (Zb ?_))))))
  refine st (Zc rfl (st (Zq fn105 rfl (bcut_any hO.sl) ?_)))
  rintro v2 w5 ⟨hq1, hS1⟩
  have k3 := Zi hq1 none
  have hz5 := hq1.size
  have hb5 := Zf hb1 k3
  have hz6 := hb5.size
  have hS2 := hS1.none.g0 k3
  refine st (Ze rfl (Zg (Zd (Zaa rfl rfl ?_))))
  refine ⟨_, rfl, hb5, ?_⟩
  rw [← show bv os = nv xs by rw [hn, List.take_of_length_le om]]
  exact hS2
 refine Zo (Zd (Zh (Zz (Zh (Zb (st (Zc rfl ?_)))))))
 refine st (Zc rfl (st (Zat Zbx rfl rfl (ha.at0 hb1) om om ?_)))
 rintro b1 o1 _ ⟨rfl, hr1⟩ hc1 hF1 hlt1
 have hl_1 := Loc.lt hF1
 refine st (Zt Zde rfl hc1 (j := 0) rfl (st (Ze rfl (Zg (Zd (Zh (Zb (st (Ze rfl ?_)))))))))
 refine Zg (Zd (Zz ?_))
 refine Za2 (α := Int × Value × List Bool × Int) (fun ((k, v, os, x) : Int × Value × List Bool × Int) => [(0, a), (2, .slice none 0 0), (3, v), (4, .int .i64 i), (5, .int .u32 x), (6, .int .i64 k)]) (fun ((k, v, os, x) : Int × Value × List Bool × Int) W => Below w.heap.size w W ∧ (0 ≤ k ∧ k ≤ 32) ∧ (Gw.Own Kd.bool 4 w.heap.size W (fun _ => False) v os) ∧ ((os.length : Int) = 32 * i + k) ∧ (0 ≤ x ∧ x < 2 ^ (32 - k).toNat) ∧ (x < 4294967296) ∧ (bv os + 2 ^ os.length * x = nv (xs.take i.toNat) + PW i.toNat * ix xs i)) (fun ((k, v, os, x) : Int × Value × List Bool × Int) => (32 - k).toNat) ((0), (v), (os), (ix xs i)) ⟨hb1, by omega, hO, by omega, ⟨hxa.1, hxa.2⟩, hxa.2, by rw [hn, Zlf, show os.length = 32 * i.toNat by omega]⟩ sb ?_
 rintro ⟨k, v, os, x⟩ w2 ⟨hb2, hk, hO, hol, hx2, hxl, hn2⟩
 dsimp only at *
 have hz2 := hb2.size
 refine Zh (Zh (Zb (st (Zc rfl (st (Zbd rfl rfl (Zg (Zd ?_))))))))
 refine Zw rfl (fun h2 => ?_) (fun h2 => ?_)
 rotate_left
 ·refine Zak (Zk (Zk (Zs (Zab (Zd (Zb ?_))))))
  refine st (Zc rfl (st (Zah rfl rfl om (st (Ze rfl (Zg ?_))))))
  exact Zac (((i + 1)), (v), (os)) ⟨hb2, by omega, hO, by dsimp only; omega, bits_next (bits_end hn2 hx2 om) hi.1⟩ om sb
 refine Zo (Zd (Zh (Zz (Zb (st (Zc rfl (st (Zc rfl ?_))))))))
 refine st (Zew rfl rfl om om (st (Zbu rfl rfl (st (Zau (ps := [(0, .tmp 24)]) (ccs := [#[.bool (decide ((x % 2) = 1))]]) (e := 4) (cells := [.bool (decide ((x % 2) = 1))]) rfl rfl kr dc nz4 ?_)))))
 intro g1 w3 hg1 hB1 k1 hs1
 have hb3 := Zf hb2 k1
 have hz3 := hb3.size
 have hO1 := hO.g0 k1
 refine st (Za4 (K := Kd.bool) Zcq rfl rfl hO1 (Zcu hB1 hO (fun h => h) hg1) Zb5 (by simp; omega) (by simp; omega) (by first | exact Nat.le_refl _ | omega) (fun _ h => h.elim) ?_)
 intro v1 w4 hO2 k2 hr2
 have hb4 := hb3.grown k2 hb3.size (fun k_ hk_ => (hO1.lt k_ hk_).1)
 have hz4 := hb4.size
 refine st (Zc rfl (st (s_quok (M := 4294967296) rfl rfl rfl rfl om om (st (Ze rfl (st (Ze rfl (Zg (Zab (Zd ?_))))))))))
 refine Zb (st (Zc rfl (st (Zah rfl rfl om (st (Ze rfl (Zg ?_)))))))
 exact Zac (((k + 1)), (v1), (os ++ [decide ((x % 2) = 1)]), ((x / 2))) ⟨hb4, by omega, hO2, by simp; omega, half_bd hx2 hk.1 om, by dsimp only; omega, bits_step hn2⟩ om sb
end Go.Proofs.Ytfljelnfjbbknaa.Lm
namespace Go.Proofs.Ytfljelnfjbbknaa.Lm
open Go.RowKit Go.Gw
set_option maxHeartbeats 1000000 in
theorem rof_any {w : World} {n0 : Nat} (hn0 : n0 ≤ w.heap.size) {a : Value} {xs : List Bool} (ha : Sl Kd.bool w (fun _ => False) a xs) (hla : xs.length ≤ 10000000) :
  Calls Try.prog 87 [a].toArray w (Zbh w fun v W => Sl Kd.u32 W (G 83 n0 W) v (tl (bv xs))) := by
 have hb0 := Below.refl w.heap.size w
 have hln1 := ha.lenle
 have hbl : ((tb (bv xs)).length : Int) ≤ 10000000 := tb_le om
 refine enter Try.func87 rfl rfl (Zh (Zb (st (Ze rfl (Zg (Zd (Zh ?_)))))))
 refine Zb (st (Zc rfl (st (Zq fn105 rfl (bcut_any (ha.at0 hb0)) ?_))))
 rintro v1 w1 ⟨hq1, hS1⟩
 have hS2 := hS1.orig Zft hb0
 have k1 := Zi hq1 none
 have hz1 := hq1.size
 have hb1 := Zf hb0 k1
 have hz2 := hb1.size
 refine st (Ze rfl (Zg (Zd (Zh (Zb (st (Ze rfl (Zg ?_))))))))
 refine Zd (Zh (Zh (Zb (st (Ze rfl (Zg (Zd ?_)))))))
 refine Zz ?_
 refine Za2 (α := Int × Value × List Int) (fun ((i, v, os) : Int × Value × List Int) => [(0, v1), (2, .slice none 0 0), (3, v), (4, .int .i64 i)]) (fun ((i, v, os) : Int × Value × List Int) W => Below w.heap.size w W ∧ (0 ≤ i ∧ i ≤ (tb (bv xs)).length + 31) ∧ (Gw.Own Kd.u32 83 w.heap.size W (fun _ => False) v os) ∧ ((os.length : Int) * 32 = i) ∧ (nv os + PW os.length * bv ((tb (bv xs)).drop i.toNat) = bv (tb (bv xs))) ∧ ((i < (tb (bv xs)).length) ∨ Zdb os = true)) (fun ((i, v, os) : Int × Value × List Int) => ((tb (bv xs)).length - i).toNat) ((0), (.slice none 0 0), ([])) ⟨hb1, by omega, Own.nil Kd.u32 83 _ _ _, rfl, by simp [nv, PW_zero], .inr rfl⟩ sb ?_
 rintro ⟨i, v, os⟩ w2 ⟨hb2, hi, hO, hol, hn, hr⟩
 dsimp only at *
 have hz3 := hb2.size
 refine Zh (Zh (Zb (st (Zc rfl (st (Zc rfl (st (Zaq Zcq rfl (hS2.at0 hb2) (st (Zbd rfl rfl ?_))))))))))
 refine Zg (Zd ?_)
 refine Zw rfl (fun h1 => ?_) (fun h1 => ?_)
 rotate_left
 ·refine Zak (Zk (Zk (Zs (Zd (Zh (Zb ?_))))))
  refine st (Zc rfl (st (Ze rfl (Zg (Zd (Zaa rfl rfl ?_))))))
  have he := of_end (Zay hO.sl) om hn hr
  rw [bv_tb (bv_bd xs).1] at he
  refine ⟨_, rfl, hb2, ?_⟩
  rw [he]
  exact hO.slG
 refine Zo (Zd (Zh (Zz (Zh (Zb (st (Ze rfl ?_)))))))
 refine st (Ze rfl (Zg (Zd (Zh (Zh (Zb (st (Zc rfl ?_))))))))
 refine st (Ze rfl (Zg (Zd (Zz ?_))))
 refine Za2 (α := Int × Int × Int) (fun ((k, x, p) : Int × Int × Int) => [(0, v1), (2, .slice none 0 0), (3, v), (4, .int .i64 i), (5, .int .u32 x), (6, .int .u32 p), (7, .int .i64 k)]) (fun ((k, x, p) : Int × Int × Int) W => Below w.heap.size w W ∧ (i ≤ k ∧ k ≤ (tb (bv xs)).length ∧ k ≤ i + 32) ∧ (x = bv (((tb (bv xs)).drop i.toNat).take (k - i).toNat)) ∧ (p = 2 ^ (k - i).toNat % 4294967296) ∧ (Gw.Own Kd.u32 83 w.heap.size W (fun _ => False) v os)) (fun ((k, x, p) : Int × Int × Int) => (i + 32 - k).toNat) ((i), (0), (1)) ⟨hb2, by omega, by rw [Int.sub_self]; rfl, by rw [Int.sub_self]; rfl, hO⟩ sb ?_
 rintro ⟨k, x, p⟩ w3 ⟨hb3, hk, hx, hp, hO2⟩
 dsimp only at *
 have hz4 := hb3.size
 refine Zh (Zh (Zb (st (Zc rfl (st (Zc rfl (st (Zaq Zcq rfl (hS2.at0 hb3) (st (Zbd rfl rfl ?_))))))))))
 refine st (Zc rfl ?_)
 refine Zax 21 rfl (fun h2 => ?_) (fun h2 => ?_)
 rotate_left
 ·refine Zj rfl rfl (Zj rfl rfl (Zj rfl rfl (Zj rfl rfl (st (Zr rfl rfl (Zg (Zd ?_)))))))
  refine Zbv rfl (Zak (Zk (Zk (Zs (Zd (Zb ?_))))))
  have hch := of_chunk hi.1 hk hx om
  have hnx := of_next (right_tb _) hi.1 om hch hn
  refine st (Zc rfl (st (Zc rfl (st (Zau (ps := [(0, .tmp 39)]) (ccs := [#[.int .u32 x]]) (e := 83) (cells := [.int .u32 x]) rfl rfl kr dc nz83 ?_)))))
  intro g2 w6 hg2 hB2 k4 hs2
  have hb6 := Zf hb3 k4
  have hz7 := hb6.size
  have hO3 := hO2.g0 k4
  refine st (Za4 (K := Kd.u32) Zbx rfl rfl hO3 (lit_u32 hB2 hO2 (fun h => h) hg2 om) u32_ones (by simp; omega) (by simp; omega) (by first | exact Nat.le_refl _ | omega) (fun _ h => h.elim) ?_)
  intro v3 w7 hO4 k5 hr3
  have hb7 := hb6.grown k5 hb6.size (fun k_ hk_ => (hO3.lt k_ hk_).1)
  have hz8 := hb7.size
  refine st (Ze rfl (Zg (Zab (Zd (Zb (st (Zc rfl (st (Zah rfl rfl om ?_)))))))))
  refine st (Ze rfl (Zg ?_))
  exact Zac (((i + 32)), (v3), (os ++ [x])) ⟨hb7, by omega, hO4, by simp; omega, hnx.2.1, hnx.2.2⟩ om sb
 refine stg (Zc rfl (stg (Zc rfl (stg (Zah rfl rfl om (stg (Zbd rfl rfl (st (Zr rfl rfl (Zg (Zd ?_)))))))))))
 refine Zw rfl (fun h3 => ?_) (fun h3 => ?_)
 rotate_left
 ·refine Zak (Zk (Zk (Zs (Zd (Zb ?_)))))
  have hch := of_chunk hi.1 hk hx om
  have hnx := of_next (right_tb _) hi.1 om hch hn
  refine st (Zc rfl (st (Zc rfl (st (Zau (ps := [(0, .tmp 39)]) (ccs := [#[.int .u32 x]]) (e := 83) (cells := [.int .u32 x]) rfl rfl kr dc nz83 ?_)))))
  intro g1 w4 hg1 hB1 k2 hs1
  have hb4 := Zf hb3 k2
  have hz5 := hb4.size
  have hO1 := hO2.g0 k2
  refine st (Za4 (K := Kd.u32) Zbx rfl rfl hO1 (lit_u32 hB1 hO2 (fun h => h) hg1 om) u32_ones (by simp; omega) (by simp; omega) (by first | exact Nat.le_refl _ | omega) (fun _ h => h.elim) ?_)
  intro v2 w5 hO2 k3 hr2
  have hb5 := hb4.grown k3 hb4.size (fun k_ hk_ => (hO1.lt k_ hk_).1)
  have hz6 := hb5.size
  refine st (Ze rfl (Zg (Zab (Zd (Zb (st (Zc rfl (st (Zah rfl rfl om ?_)))))))))
  refine st (Ze rfl (Zg ?_))
  exact Zac (((i + 32)), (v2), (os ++ [x])) ⟨hb5, by omega, hO2, by simp; omega, hnx.2.1, hnx.2.2⟩ om sb
 obtain ⟨e1, e2, e3, e4, e5, e6, e7⟩ := of_step hi.1 ⟨hk.1, by omega, by omega⟩ hx hp
 refine Zo (Zd (Zh (Zz (Zh (Zh (Zb ?_))))))
 refine st (Zc rfl (st (Zc rfl (st (Zat Zcq rfl rfl (hS2.at0 hb3) om om ?_)))))
 rintro b1 o1 _ ⟨rfl, _⟩ hc1 hF1 hlt1
 have hl_1 := Loc.lt hF1
 refine st (Zt Zeg rfl hc1 (j := 0) rfl (Zg (Zd ?_)))
 refine Zba rfl (fun h4 => ?_) (fun h4 => ?_)
 rotate_left
 ·refine Zo (Zd (Zb (st (Zc rfl (st (s_mulm (M := 4294967296) rfl rfl rfl rfl (st (Ze rfl (Zg ?_)))))))))
  refine Zab (Zd (Zb (st (Zc rfl (st (Zah rfl rfl om (st (Ze rfl (Zg ?_)))))))))
  exact Zac (((k + 1)), (x), (((p * 2) % 4294967296))) ⟨hb3, by omega, by have e8 := e7; rw [h4] at e8; simpa [bn] using e8, e6, hO2⟩ om sb
 refine Zb (st (Zc rfl (st (Zc rfl (st (s_addk (M := 4294967296) rfl rfl rfl rfl om (st (Ze rfl (Zg (Zd ?_))))))))))
 refine Zb (st (Zc rfl (st (s_mulm (M := 4294967296) rfl rfl rfl rfl (st (Ze rfl (Zg (Zab (Zd ?_)))))))))
 refine Zb (st (Zc rfl (st (Zah rfl rfl om (st (Ze rfl (Zg ?_)))))))
 exact Zac (((k + 1)), ((x + p)), (((p * 2) % 4294967296))) ⟨hb3, by omega, by have e8 := e7; rw [h4] at e8; simpa [bn] using e8, e6, hO2⟩ om sb
set_option maxHeartbeats 1000000 in
theorem rnorm_any {w : World} {n0 : Nat} (hn0 : n0 ≤ w.heap.size) {a : Value} {xs : List Int} (ha : Sl Kd.u32 w (G 83 n0 w) a xs) (hla : xs.length ≤ 100000) :
  Calls Try.prog 84 [a].toArray w (Zbh w fun v W => Sl Kd.u32 W (G 83 n0 W) v (tl (nv xs))) := by
 have hb0 := Below.refl w.heap.size w
 have hln1 := ha.lenle
 have hbl := Ze5 (Zay ha)
 refine enter Try.func84 rfl rfl (Zh (Zb (st (Ze rfl (Zg (Zd (Zh ?_)))))))
 refine Zb (st (Zc rfl (st (Zq fn85 rfl (Ze7 ((ha.at0 hb0)).none (by first | omega | (simp; done) | (simp; omega))) ?_))))
 rintro v1 w1 ⟨hq1, hS1⟩
 have k1 := Zi hq1 none
 have hz1 := hq1.size
 have hb1 := Zf hb0 k1
 have hz2 := hb1.size
 refine st (Zq fn87 rfl (rof_any (n0 := n0) (Zu hn0 hb1) (hS1).none (by first | omega | (simp; done) | (simp; omega))) ?_)
 rintro v2 w2 ⟨hq2, hS2⟩
 have k2 := Zi hq2 none
 have hz3 := hq2.size
 have hb2 := Zf hb1 k2
 have hz4 := hb2.size
 refine st (Ze rfl (Zg (Zd (Zaa rfl rfl ?_))))
 refine ⟨_, rfl, hb2, ?_⟩
 have h := hS2
 rwa [bv_tb (Zap (Zay ha))] at h
set_option maxHeartbeats 1000000 in
theorem rcmp_any {w : World} {a b : Value} {xs ys : List Int} (ha : Sl Kd.u32 w (fun _ => False) a xs) (hb : Sl Kd.u32 w (fun _ => False) b ys) (hla : xs.length ≤ 100000) (hlb : ys.length ≤ 100000) :
  Calls Try.prog 88 [a, b].toArray w (Zbh w fun v _ => v = .int .i64 (Zbt (nv xs) (nv ys))) := by
 have hb0 := Below.refl w.heap.size w
 have hln1 := ha.lenle
 have hln2 := hb.lenle
 have hpa := Zap (Zay ha)
 have hpb := Zap (Zay hb)
 have hla2 := Ze5 (Zay ha)
 have hlb2 := Ze5 (Zay hb)
 have hba := Zgp (n := nv xs)
 have hbb := Zgp (n := nv ys)
 refine enter Try.func88 rfl rfl (Zh (Zb (st (Ze rfl (Zg (Zd (Zh ?_)))))))
 refine Zb (st (Zc rfl (st (Zq fn85 rfl (Ze7 ((ha.at0 hb0)).none (by first | omega | (simp; done) | (simp; omega))) ?_))))
 rintro v1 w1 ⟨hq1, hS1⟩
 have k1 := Zi hq1 none
 have hz1 := hq1.size
 have hb1 := Zf hb0 k1
 have hz2 := hb1.size
 refine st (Zc rfl (st (Zq fn85 rfl (Ze7 ((hb.at0 hb1)).none (by first | omega | (simp; done) | (simp; omega))) ?_)))
 rintro v2 w2 ⟨hq2, hS2⟩
 have k2 := Zi hq2 none
 have hz3 := hq2.size
 have hb2 := Zf hb1 k2
 have hz4 := hb2.size
 refine st (Ze rfl (st (Ze rfl (Zg (Zd (Zh (Zh (Zb ?_))))))))
 refine st (Zc rfl (st (Zaq Zcq rfl (hS1.g0 k2) (st (Zc rfl (st (Zaq Zcq rfl hS2 (st (s_max rfl rfl (st (Za7 rfl rfl om (st (Ze rfl ?_)))))))))))))
 refine Zg (Zd (Zz (Za2 (α := Int) (fun (i : Int) => [(5, v1), (6, v2), (7, .int .i64 i)]) (fun (i : Int) W => Below w.heap.size w W ∧ (-1 ≤ i ∧ i ≤ 3200000) ∧ (nv xs / 2 ^ (i + 1).toNat = nv ys / 2 ^ (i + 1).toNat) ∧ (Sl Kd.bool W (fun _ => False) v1 (tb (nv xs))) ∧ (Sl Kd.bool W (fun _ => False) v2 (tb (nv ys)))) (fun (i : Int) => (i + 1).toNat) ((max ((tb (nv xs)).length : Int) ((tb (nv ys)).length : Int)) - 1) ⟨hb2, by omega, by rw [div_top hpa om, div_top hpb om], (hS1.g0 k2), hS2⟩ sb ?_)))
 rintro i w3 ⟨hb3, hi, hn, hS3, hS4⟩
 have hz5 := hb3.size
 refine Zh (Zh (Zb (st (Zc rfl (st (Zg3 rfl rfl (Zg (Zd ?_))))))))
 refine Zw rfl (fun h1 => ?_) (fun h1 => ?_)
 rotate_left
 ·refine Zak (Zk (Zk (Zs (Zd (Zh (Zb ?_))))))
  refine st (Ze rfl (Zg (Zd (Zaa rfl rfl ?_))))
  exact ⟨_, rfl, hb3, by rw [bcmp_end om hn]⟩
 refine Zo (Zd (Zh (Zz (Zh (Zb (st (Zc rfl ?_)))))))
 refine st (Zc rfl (st (Zq fn86 rfl (Zih (hS3).none) ?_)))
 rintro v3 w4 ⟨hq3, hv1⟩
 rw [Ziu (Zap (Zay ha))] at hv1
 subst hv1
 have k3 := Zi hq3 none
 have hz6 := hq3.size
 have hb4 := Zf hb3 k3
 have hz7 := hb4.size
 refine st (Zc rfl (st (Zc rfl (st (Zq fn86 rfl (Zih ((hS4.g0 k3)).none) ?_)))))
 rintro v4 w5 ⟨hq4, hv2⟩
 rw [Ziu (Zap (Zay hb))] at hv2
 subst hv2
 have k4 := Zi hq4 none
 have hz8 := hq4.size
 have hb5 := Zf hb4 k4
 have hz9 := hb5.size
 refine st (s_nebool bool4 rfl rfl (Zg (Zd ?_)))
 refine Zba rfl (fun h2 => ?_) (fun h2 => ?_)
 rotate_left
 ·refine Zo (Zab (Zd (Zb (st (Zc rfl (st (Za7 rfl rfl om (st (Ze rfl ?_)))))))))
  refine Zg ?_
  exact Zac ((i - 1)) ⟨hb5, by omega, bcmp_next om hn (by simpa using h2), ((hS3.g0 k3).g0 k4), ((hS4.g0 k3).g0 k4)⟩ om sb
 refine Zh (Zh (Zb (st (Zc rfl (st (Zc rfl (st (Zq fn86 rfl (Zih (((hS3.g0 k3).g0 k4)).none) ?_))))))))
 rintro v5 w6 ⟨hq5, hv3⟩
 rw [Ziu (Zap (Zay ha))] at hv3
 subst hv3
 have k5 := Zi hq5 none
 have hz10 := hq5.size
 have hb6 := Zf hb5 k5
 have hz11 := hb6.size
 refine Zg (Zd ?_)
 refine Zba rfl (fun h3 => ?_) (fun h3 => ?_)
 ·refine Zh (Zb (st (Ze rfl (Zg (Zd (Zaa rfl rfl ?_))))))
  exact ⟨_, rfl, hb6, by rw [bcmp_gt om hn h3 (by rw [h3] at h2; simpa using h2)]⟩
 refine Zo (Zd (Zh (Zb (st (Ze rfl (Zg (Zd ?_)))))))
 refine Zaa rfl rfl ?_
 exact ⟨_, rfl, hb6, by rw [bcmp_lt om hn h3 (by rw [h3] at h2; simpa using h2)] <;> rfl⟩
set_option maxHeartbeats 1000000 in
theorem radd_any {w : World} {n0 : Nat} (hn0 : n0 ≤ w.heap.size) {a b : Value} {xs ys : List Int} (ha : Sl Kd.u32 w (G 83 n0 w) a xs) (hb : Sl Kd.u32 w (G 83 n0 w) b ys) (hla : xs.length ≤ 100000) (hlb : ys.length ≤ 100000) :
  Calls Try.prog 54 [a, b].toArray w (Zbh w fun v W => Sl Kd.u32 W (G 83 n0 W) v (tl (nv xs + nv ys))) := by
 have hb0 := Below.refl w.heap.size w
 have hln1 := ha.lenle
 have hln2 := hb.lenle
 have hpa := Zap (Zay ha)
 have hpb := Zap (Zay hb)
 have hla2 := Ze5 (Zay ha)
 have hlb2 := Ze5 (Zay hb)
 have hba := Zgp (n := nv xs)
 have hbb := Zgp (n := nv ys)
 refine enter Try.func54 rfl rfl (Zh (Zb (st (Ze rfl (Zg (Zd (Zh ?_)))))))
 refine Zb (st (Zc rfl (st (Zq fn85 rfl (Ze7 ((ha.at0 hb0)).none (by first | omega | (simp; done) | (simp; omega))) ?_))))
 rintro v1 w1 ⟨hq1, hS1⟩
 have k1 := Zi hq1 none
 have hz1 := hq1.size
 have hb1 := Zf hb0 k1
 have hz2 := hb1.size
 refine st (Zc rfl (st (Zq fn85 rfl (Ze7 ((hb.at0 hb1)).none (by first | omega | (simp; done) | (simp; omega))) ?_)))
 rintro v2 w2 ⟨hq2, hS2⟩
 have k2 := Zi hq2 none
 have hz3 := hq2.size
 have hb2 := Zf hb1 k2
 have hz4 := hb2.size
 refine st (Ze rfl (st (Ze rfl (Zg (Zd (Zh (Zb ?_)))))))
 have hzz1 := k1.size
 have hzz2 := k2.size
 have hS3 := (((ha.at0 hb2)).unlocG hb2)
 have hS4 := (((hb.at0 hb2)).unlocG hb2)
 have hS5 := ((hS1.g0 k2)).none
 have hS6 := (hS2).none
 have hb3 := Below.refl w2.heap.size w2
 refine st (Ze rfl (Zg (Zd (Zh (Zb (st (Ze rfl (Zg ?_))))))))
 refine Zd (Zh (Zh (Zb (st (Ze rfl (Zg (Zd ?_)))))))
 refine Zz ?_
 refine Za2 (α := Int × Value × List Bool × Bool) (fun ((i, v, os, c) : Int × Value × List Bool × Bool) => [(4, .slice none 0 0), (5, v1), (6, v2), (7, v), (8, .bool c), (9, .int .i64 i)]) (fun ((i, v, os, c) : Int × Value × List Bool × Bool) W => Below w2.heap.size w2 W ∧ (0 ≤ i ∧ i ≤ max ((tb (nv xs)).length : Int) ((tb (nv ys)).length : Int) + 1) ∧ (Gw.Own Kd.bool 4 w2.heap.size W (fun _ => False) v os) ∧ ((os.length : Int) = i) ∧ (bv os + 2 ^ i.toNat * bn c = nv xs % 2 ^ i.toNat + nv ys % 2 ^ i.toNat)) (fun ((i, v, os, c) : Int × Value × List Bool × Bool) => (max ((tb (nv xs)).length : Int) ((tb (nv ys)).length : Int) + 1 - i).toNat) ((0), (.slice none 0 0), ([]), (false)) ⟨hb3, by omega, Own.nil Kd.bool 4 _ _ _, rfl, by simp [bv, bn, Int.emod_one]⟩ sb ?_
 rintro ⟨i, v, os, c⟩ w3 ⟨hb4, hi, hO, hol, hn⟩
 dsimp only at *
 have hz5 := hb4.size
 refine Zh (Zh (Zb (st (Zc rfl (st (Zc rfl (st (Zaq Zcq rfl (hS5.at0 hb4) (st (Zc rfl ?_))))))))))
 refine st (Zaq Zcq rfl (hS6.at0 hb4) (st (s_max rfl rfl (st (s_le rfl rfl (Zg (Zd ?_)))))))
 refine Zw rfl (fun h1 => ?_) (fun h1 => ?_)
 rotate_left
 ·refine Zak (Zk (Zk (Zs (Zd (Zh (Zb ?_))))))
  refine st (Zc rfl (st (Zq fn87 rfl (rof_any (n0 := n0) (Zu hn0 (hb2.trans (hb4.mono hb2.size))) hO.sl.none (by first | omega | (simp; done) | (simp; omega))) ?_)))
  rintro v14 w23 ⟨hq6, hS7⟩
  have k22 := Zi hq6 none
  have hz28 := hq6.size
  have hb24 := Zf hb4 k22
  have hz29 := hb24.size
  refine st (Ze rfl (Zg (Zd (Zaa rfl rfl ?_))))
  have he := badd_end hpa hpb hi.1 hol hn om om
  refine ⟨_, rfl, (hb2.trans (hb24.mono hb2.size)), ?_⟩
  rw [← he]
  exact hS7
 refine Zo (Zd (Zh (Zz (Zh (Zb (st (Ze rfl ?_)))))))
 refine Zg (Zd (Zh (Zh (Zb (st (Zc rfl (st (Zc rfl ?_))))))))
 refine st (Zq fn86 rfl (Zih ((hS5.at0 hb4)).none) ?_)
 rintro v3 w4 ⟨hq3, hv1⟩
 rw [Ziu (Zap (Zay ha))] at hv1
 subst hv1
 have k3 := Zi hq3 none
 have hz6 := hq3.size
 have hb5 := Zf hb4 k3
 have hz7 := hb5.size
 have hO1 := hO.g0 k3
 refine Zg (Zd ?_)
 refine Zba rfl (fun h2 => ?_) (fun h2 => ?_)
 rotate_left
 ·refine Zo (Zd (Zh (Zh (Zb (st (Zc rfl (st (Zc rfl ?_))))))))
  refine st (Zq fn86 rfl (Zih ((hS6.at0 hb5)).none) ?_)
  rintro v9 w14 ⟨hq5, hv3⟩
  rw [Ziu (Zap (Zay hb))] at hv3
  subst hv3
  have k13 := Zi hq5 none
  have hz18 := hq5.size
  have hb15 := Zf hb5 k13
  have hz19 := hb15.size
  have hO11 := hO1.g0 k13
  refine Zg (Zd ?_)
  refine Zba rfl (fun h6 => ?_) (fun h6 => ?_)
  rotate_left
  ·refine Zo (Zd (Zh (Zh (Zb (st (Zc rfl (Zg ?_)))))))
   refine Zd ?_
   refine Zba rfl (fun h8 => ?_) (fun h8 => ?_)
   rotate_left
   ·refine Zo (Zd (Zb (st (Zc rfl (st (Zc rfl (st (Zew rfl rfl om om (st (Zbu rfl rfl ?_))))))))))
    refine st (Zau (ps := [(0, .tmp 40)]) (ccs := [#[.bool (decide ((0 % 2) = 1))]]) (e := 4) (cells := [.bool (decide ((0 % 2) = 1))]) rfl rfl kr dc nz4 ?_)
    intro g8 w21 hg8 hB8 k20 hs8
    have hb22 := Zf hb15 k20
    have hz26 := hb22.size
    have hO18 := hO11.g0 k20
    refine st (Za4 (K := Kd.bool) Zcq rfl rfl hO18 (Zcu hB8 hO11 (fun h => h) hg8) Zb5 (by simp; omega) (by simp; omega) (by first | exact Nat.le_refl _ | omega) (fun _ h => h.elim) ?_)
    intro v13 w22 hO19 k21 hr8
    have hb23 := hb22.grown k21 hb22.size (fun k_ hk_ => (hO18.lt k_ hk_).1)
    have hz27 := hb23.size
    refine st (Zc rfl (st (Zch rfl rfl (st (Ze rfl (st (Ze rfl (Zg (Zab (Zd ?_))))))))))
    refine Zb (st (Zc rfl (st (Zah rfl rfl om (st (Ze rfl (Zg ?_)))))))
    exact Zac (((i + 1)), (v13), (os ++ [decide ((0 % 2) = 1)]), (decide (1 < 0))) ⟨hb23, by omega, hO19, by simp; omega, Ze6 hpa hpb hi.1 hol hn (by rw [h2, h6, h8] <;> rfl)⟩ om sb
   refine Zb (st (Zc rfl (st (Zah rfl rfl om (st (Ze rfl (Zg (Zd (Zb ?_)))))))))
   refine st (Zc rfl (st (Zc rfl (st (Zew rfl rfl om om (st (Zbu rfl rfl (st (Zau (ps := [(0, .tmp 40)]) (ccs := [#[.bool (decide (((0 + 1) % 2) = 1))]]) (e := 4) (cells := [.bool (decide (((0 + 1) % 2) = 1))]) rfl rfl kr dc nz4 ?_)))))))))
   intro g7 w19 hg7 hB7 k18 hs7
   have hb20 := Zf hb15 k18
   have hz24 := hb20.size
   have hO16 := hO11.g0 k18
   refine st (Za4 (K := Kd.bool) Zcq rfl rfl hO16 (Zcu hB7 hO11 (fun h => h) hg7) Zb5 (by simp; omega) (by simp; omega) (by first | exact Nat.le_refl _ | omega) (fun _ h => h.elim) ?_)
   intro v12 w20 hO17 k19 hr7
   have hb21 := hb20.grown k19 hb20.size (fun k_ hk_ => (hO16.lt k_ hk_).1)
   have hz25 := hb21.size
   refine st (Zc rfl (st (Zch rfl rfl (st (Ze rfl (st (Ze rfl (Zg (Zab (Zd ?_))))))))))
   refine Zb (st (Zc rfl (st (Zah rfl rfl om (st (Ze rfl (Zg ?_)))))))
   exact Zac (((i + 1)), (v12), (os ++ [decide (((0 + 1) % 2) = 1)]), (decide (1 < (0 + 1)))) ⟨hb21, by omega, hO17, by simp; omega, Ze6 hpa hpb hi.1 hol hn (by rw [h2, h6, h8] <;> rfl)⟩ om sb
  refine Zb (st (Zc rfl (st (Zah rfl rfl om (st (Ze rfl (Zg (Zd (Zh ?_)))))))))
  refine Zh (Zb (st (Zc rfl (Zg (Zd ?_)))))
  refine Zba rfl (fun h7 => ?_) (fun h7 => ?_)
  rotate_left
  ·refine Zo (Zd (Zb (st (Zc rfl (st (Zc rfl (st (Zew rfl rfl om om (st (Zbu rfl rfl ?_))))))))))
   refine st (Zau (ps := [(0, .tmp 40)]) (ccs := [#[.bool (decide (((0 + 1) % 2) = 1))]]) (e := 4) (cells := [.bool (decide (((0 + 1) % 2) = 1))]) rfl rfl kr dc nz4 ?_)
   intro g6 w17 hg6 hB6 k16 hs6
   have hb18 := Zf hb15 k16
   have hz22 := hb18.size
   have hO14 := hO11.g0 k16
   refine st (Za4 (K := Kd.bool) Zcq rfl rfl hO14 (Zcu hB6 hO11 (fun h => h) hg6) Zb5 (by simp; omega) (by simp; omega) (by first | exact Nat.le_refl _ | omega) (fun _ h => h.elim) ?_)
   intro v11 w18 hO15 k17 hr6
   have hb19 := hb18.grown k17 hb18.size (fun k_ hk_ => (hO14.lt k_ hk_).1)
   have hz23 := hb19.size
   refine st (Zc rfl (st (Zch rfl rfl (st (Ze rfl (st (Ze rfl (Zg (Zab (Zd ?_))))))))))
   refine Zb (st (Zc rfl (st (Zah rfl rfl om (st (Ze rfl (Zg ?_)))))))
   exact Zac (((i + 1)), (v11), (os ++ [decide (((0 + 1) % 2) = 1)]), (decide (1 < (0 + 1)))) ⟨hb19, by omega, hO15, by simp; omega, Ze6 hpa hpb hi.1 hol hn (by rw [h2, h6, h7] <;> rfl)⟩ om sb
  refine Zb (st (Zc rfl (st (Zah rfl rfl om (st (Ze rfl (Zg (Zd (Zb ?_)))))))))
  refine st (Zc rfl (st (Zc rfl (st (Zew rfl rfl om om (st (Zbu rfl rfl (st (Zau (ps := [(0, .tmp 40)]) (ccs := [#[.bool (decide ((((0 + 1) + 1) % 2) = 1))]]) (e := 4) (cells := [.bool (decide ((((0 + 1) + 1) % 2) = 1))]) rfl rfl kr dc nz4 ?_)))))))))
  intro g5 w15 hg5 hB5 k14 hs5
  have hb16 := Zf hb15 k14
  have hz20 := hb16.size
  have hO12 := hO11.g0 k14
  refine st (Za4 (K := Kd.bool) Zcq rfl rfl hO12 (Zcu hB5 hO11 (fun h => h) hg5) Zb5 (by simp; omega) (by simp; omega) (by first | exact Nat.le_refl _ | omega) (fun _ h => h.elim) ?_)
  intro v10 w16 hO13 k15 hr5
  have hb17 := hb16.grown k15 hb16.size (fun k_ hk_ => (hO12.lt k_ hk_).1)
  have hz21 := hb17.size
  refine st (Zc rfl (st (Zch rfl rfl (st (Ze rfl (st (Ze rfl (Zg (Zab (Zd ?_))))))))))
  refine Zb (st (Zc rfl (st (Zah rfl rfl om (st (Ze rfl (Zg ?_)))))))
  exact Zac (((i + 1)), (v10), (os ++ [decide ((((0 + 1) + 1) % 2) = 1)]), (decide (1 < ((0 + 1) + 1)))) ⟨hb17, by omega, hO13, by simp; omega, Ze6 hpa hpb hi.1 hol hn (by rw [h2, h6, h7] <;> rfl)⟩ om sb
 refine Zb (st (Zc rfl (st (Zah rfl rfl om (st (Ze rfl (Zg (Zd (Zh ?_)))))))))
 refine Zh (Zb (st (Zc rfl (st (Zc rfl (st (Zq fn86 rfl (Zih ((hS6.at0 hb5)).none) ?_)))))))
 rintro v4 w5 ⟨hq4, hv2⟩
 rw [Ziu (Zap (Zay hb))] at hv2
 subst hv2
 have k4 := Zi hq4 none
 have hz8 := hq4.size
 have hb6 := Zf hb5 k4
 have hz9 := hb6.size
 have hO2 := hO1.g0 k4
 refine Zg (Zd ?_)
 refine Zba rfl (fun h3 => ?_) (fun h3 => ?_)
 rotate_left
 ·refine Zo (Zd (Zh (Zh (Zb (st (Zc rfl (Zg ?_)))))))
  refine Zd ?_
  refine Zba rfl (fun h5 => ?_) (fun h5 => ?_)
  rotate_left
  ·refine Zo (Zd (Zb (st (Zc rfl (st (Zc rfl (st (Zew rfl rfl om om (st (Zbu rfl rfl ?_))))))))))
   refine st (Zau (ps := [(0, .tmp 40)]) (ccs := [#[.bool (decide (((0 + 1) % 2) = 1))]]) (e := 4) (cells := [.bool (decide (((0 + 1) % 2) = 1))]) rfl rfl kr dc nz4 ?_)
   intro g4 w12 hg4 hB4 k11 hs4
   have hb13 := Zf hb6 k11
   have hz16 := hb13.size
   have hO9 := hO2.g0 k11
   refine st (Za4 (K := Kd.bool) Zcq rfl rfl hO9 (Zcu hB4 hO2 (fun h => h) hg4) Zb5 (by simp; omega) (by simp; omega) (by first | exact Nat.le_refl _ | omega) (fun _ h => h.elim) ?_)
   intro v8 w13 hO10 k12 hr4
   have hb14 := hb13.grown k12 hb13.size (fun k_ hk_ => (hO9.lt k_ hk_).1)
   have hz17 := hb14.size
   refine st (Zc rfl (st (Zch rfl rfl (st (Ze rfl (st (Ze rfl (Zg (Zab (Zd ?_))))))))))
   refine Zb (st (Zc rfl (st (Zah rfl rfl om (st (Ze rfl (Zg ?_)))))))
   exact Zac (((i + 1)), (v8), (os ++ [decide (((0 + 1) % 2) = 1)]), (decide (1 < (0 + 1)))) ⟨hb14, by omega, hO10, by simp; omega, Ze6 hpa hpb hi.1 hol hn (by rw [h2, h3, h5] <;> rfl)⟩ om sb
  refine Zb (st (Zc rfl (st (Zah rfl rfl om (st (Ze rfl (Zg (Zd (Zb ?_)))))))))
  refine st (Zc rfl (st (Zc rfl (st (Zew rfl rfl om om (st (Zbu rfl rfl (st (Zau (ps := [(0, .tmp 40)]) (ccs := [#[.bool (decide ((((0 + 1) + 1) % 2) = 1))]]) (e := 4) (cells := [.bool (decide ((((0 + 1) + 1) % 2) = 1))]) rfl rfl kr dc nz4 ?_)))))))))
  intro g3 w10 hg3 hB3 k9 hs3
  have hb11 := Zf hb6 k9
  have hz14 := hb11.size
  have hO7 := hO2.g0 k9
  refine st (Za4 (K := Kd.bool) Zcq rfl rfl hO7 (Zcu hB3 hO2 (fun h => h) hg3) Zb5 (by simp; omega) (by simp; omega) (by first | exact Nat.le_refl _ | omega) (fun _ h => h.elim) ?_)
  intro v7 w11 hO8 k10 hr3
  have hb12 := hb11.grown k10 hb11.size (fun k_ hk_ => (hO7.lt k_ hk_).1)
  have hz15 := hb12.size
  refine st (Zc rfl (st (Zch rfl rfl (st (Ze rfl (st (Ze rfl (Zg (Zab (Zd ?_))))))))))
  refine Zb (st (Zc rfl (st (Zah rfl rfl om (st (Ze rfl (Zg ?_)))))))
  exact Zac (((i + 1)), (v7), (os ++ [decide ((((0 + 1) + 1) % 2) = 1)]), (decide (1 < ((0 + 1) + 1)))) ⟨hb12, by omega, hO8, by simp; omega, Ze6 hpa hpb hi.1 hol hn (by rw [h2, h3, h5] <;> rfl)⟩ om sb
 refine Zb (st (Zc rfl (st (Zah rfl rfl om (st (Ze rfl (Zg (Zd (Zh ?_)))))))))
 refine Zh (Zb (st (Zc rfl (Zg (Zd ?_)))))
 refine Zba rfl (fun h4 => ?_) (fun h4 => ?_)
 rotate_left
 ·refine Zo (Zd (Zb (st (Zc rfl (st (Zc rfl (st (Zew rfl rfl om om (st (Zbu rfl rfl ?_))))))))))
  refine st (Zau (ps := [(0, .tmp 40)]) (ccs := [#[.bool (decide ((((0 + 1) + 1) % 2) = 1))]]) (e := 4) (cells := [.bool (decide ((((0 + 1) + 1) % 2) = 1))]) rfl rfl kr dc nz4 ?_)
  intro g2 w8 hg2 hB2 k7 hs2
  have hb9 := Zf hb6 k7
  have hz12 := hb9.size
  have hO5 := hO2.g0 k7
  refine st (Za4 (K := Kd.bool) Zcq rfl rfl hO5 (Zcu hB2 hO2 (fun h => h) hg2) Zb5 (by simp; omega) (by simp; omega) (by first | exact Nat.le_refl _ | omega) (fun _ h => h.elim) ?_)
  intro v6 w9 hO6 k8 hr2
  have hb10 := hb9.grown k8 hb9.size (fun k_ hk_ => (hO5.lt k_ hk_).1)
  have hz13 := hb10.size
  refine st (Zc rfl (st (Zch rfl rfl (st (Ze rfl (st (Ze rfl (Zg (Zab (Zd ?_))))))))))
  refine Zb (st (Zc rfl (st (Zah rfl rfl om (st (Ze rfl (Zg ?_)))))))
  exact Zac (((i + 1)), (v6), (os ++ [decide ((((0 + 1) + 1) % 2) = 1)]), (decide (1 < ((0 + 1) + 1)))) ⟨hb10, by omega, hO6, by simp; omega, Ze6 hpa hpb hi.1 hol hn (by rw [h2, h3, h4] <;> rfl)⟩ om sb
 refine Zb (st (Zc rfl (st (Zah rfl rfl om (st (Ze rfl (Zg (Zd (Zb ?_)))))))))
 refine st (Zc rfl (st (Zc rfl (st (Zew rfl rfl om om (st (Zbu rfl rfl (st (Zau (ps := [(0, .tmp 40)]) (ccs := [#[.bool (decide (((((0 + 1) + 1) + 1) % 2) = 1))]]) (e := 4) (cells := [.bool (decide (((((0 + 1) + 1) + 1) % 2) = 1))]) rfl rfl kr dc nz4 ?_)))))))))
 intro g1 w6 hg1 hB1 k5 hs1
 have hb7 := Zf hb6 k5
 have hz10 := hb7.size
 have hO3 := hO2.g0 k5
 refine st (Za4 (K := Kd.bool) Zcq rfl rfl hO3 (Zcu hB1 hO2 (fun h => h) hg1) Zb5 (by simp; omega) (by simp; omega) (by first | exact Nat.le_refl _ | omega) (fun _ h => h.elim) ?_)
 intro v5 w7 hO4 k6 hr1
 have hb8 := hb7.grown k6 hb7.size (fun k_ hk_ => (hO3.lt k_ hk_).1)
 have hz11 := hb8.size
 refine st (Zc rfl (st (Zch rfl rfl (st (Ze rfl (st (Ze rfl (Zg (Zab (Zd ?_))))))))))
 refine Zb (st (Zc rfl (st (Zah rfl rfl om (st (Ze rfl (Zg ?_)))))))
 exact Zac (((i + 1)), (v5), (os ++ [decide (((((0 + 1) + 1) + 1) % 2) = 1)]), (decide (1 < (((0 + 1) + 1) + 1)))) ⟨hb8, by omega, hO4, by simp; omega, Ze6 hpa hpb hi.1 hol hn (by rw [h2, h3, h4] <;> rfl)⟩ om sb
set_option maxHeartbeats 1000000 in
theorem rsub_any {w : World} {n0 : Nat} (hn0 : n0 ≤ w.heap.size) {a b : Value} {xs ys : List Int} (ha : Sl Kd.u32 w (G 83 n0 w) a xs) (hb : Sl Kd.u32 w (G 83 n0 w) b ys) (hla : xs.length ≤ 100000) (hlb : ys.length ≤ 100000) :
  Calls Try.prog 55 [a, b].toArray w (Zbh w fun r W => ∃ v, r = .tuple #[v, .bool (decide (nv ys ≤ nv xs))] ∧ Sl Kd.u32 W (G 83 n0 W) v (tl (nv xs - nv ys))) := by
 have hb0 := Below.refl w.heap.size w
 have hln1 := ha.lenle
 have hln2 := hb.lenle
 have hpa := Zap (Zay ha)
 have hpb := Zap (Zay hb)
 have hla2 := Ze5 (Zay ha)
 have hlb2 := Ze5 (Zay hb)
 have hba := Zgp (n := nv xs)
 have hbb := Zgp (n := nv ys)
 refine enter Try.func55 rfl rfl (Zh (Zb (st (Ze rfl (st (Ze rfl (Zg (Zd ?_))))))))
 refine Zh (Zh (Zb (st (Zc rfl (st (Zc rfl (st (Zq fn88 rfl (rcmp_any ((ha.at0 hb0)).none ((hb.at0 hb0)).none (by first | omega | (simp; done) | (simp; omega)) (by first | omega | (simp; done) | (simp; omega))) ?_))))))))
 rintro _ w1 ⟨hq1, rfl⟩
 have k1 := Zi hq1 none
 have hz1 := hq1.size
 have hb1 := Zf hb0 k1
 have hz2 := hb1.size
 refine st (Zbd rfl rfl (Zg (Zd ?_)))
 refine Zw rfl (fun h1 => ?_) (fun h1 => ?_)
 ·refine Zh (Zb (st (Ze rfl (st (Ze rfl (Zg (Zd (Zdl rfl rfl rfl ?_))))))))
  have hlt : nv xs < nv ys := by have := h1; unfold Zbt at this; split at this <;> (try split at this) <;> omega
  exact ⟨_, rfl, hb1, _, by rw [decide_eq_false om], by rw [Zfv om]; exact nilG⟩
 refine Zo (Zd (Zh (Zb (st (Zc rfl (st (Zq fn85 rfl (Ze7 ((ha.at0 hb1)).none (by first | omega | (simp; done) | (simp; omega))) ?_)))))))
 rintro v1 w2 ⟨hq2, hS1⟩
 have k2 := Zi hq2 none
 have hz3 := hq2.size
 have hb2 := Zf hb1 k2
 have hz4 := hb2.size
 refine st (Zc rfl (st (Zq fn85 rfl (Ze7 ((hb.at0 hb2)).none (by first | omega | (simp; done) | (simp; omega))) ?_)))
 rintro v2 w3 ⟨hq3, hS2⟩
 have k3 := Zi hq3 none
 have hz5 := hq3.size
 have hb3 := Zf hb2 k3
 have hz6 := hb3.size
 refine st (Ze rfl (st (Ze rfl (Zg (Zd (Zh (Zb ?_)))))))
 have hzz1 := k1.size
 have hzz2 := k2.size
 have hzz3 := k3.size
 have hS3 := (((ha.at0 hb3)).unlocG hb3)
 have hS4 := (((hb.at0 hb3)).unlocG hb3)
 have hS5 := ((hS1.g0 k3)).none
 have hS6 := (hS2).none
 have hb4 := Below.refl w3.heap.size w3
 refine st (Ze rfl (Zg (Zd (Zh (Zb (st (Ze rfl (Zg ?_))))))))
 refine Zd (Zh (Zh (Zb (st (Ze rfl (Zg (Zd ?_)))))))
 refine Zz ?_
 refine Za2 (α := Int × Value × List Bool × Int) (fun ((i, v, os, u) : Int × Value × List Bool × Int) => [(4, .slice none 0 0), (5, .bool false), (6, v1), (7, v2), (8, v), (9, .int .i64 u), (10, .int .i64 i)]) (fun ((i, v, os, u) : Int × Value × List Bool × Int) W => Below w3.heap.size w3 W ∧ (0 ≤ i ∧ i ≤ ((tb (nv xs)).length : Int)) ∧ (Gw.Own Kd.bool 4 w3.heap.size W (fun _ => False) v os) ∧ ((os.length : Int) = i) ∧ (0 ≤ u ∧ u ≤ 1) ∧ (bv os = nv xs % 2 ^ i.toNat - nv ys % 2 ^ i.toNat + 2 ^ i.toNat * u)) (fun ((i, v, os, u) : Int × Value × List Bool × Int) => (((tb (nv xs)).length : Int) - i).toNat) ((0), (.slice none 0 0), ([]), (0)) ⟨hb4, by omega, Own.nil Kd.bool 4 _ _ _, rfl, by omega, by simp [bv, Int.emod_one]⟩ sb ?_
 rintro ⟨i, v, os, u⟩ w4 ⟨hb5, hi, hO, hol, hu, hn⟩
 dsimp only at *
 have hz7 := hb5.size
 refine Zh (Zh (Zb (st (Zc rfl (st (Zc rfl (st (Zaq Zcq rfl (hS5.at0 hb5) (st (Zbd rfl rfl ?_))))))))))
 refine Zg (Zd ?_)
 refine Zw rfl (fun h2 => ?_) (fun h2 => ?_)
 rotate_left
 ·refine Zak (Zk (Zk (Zs (Zd (Zh (Zb ?_))))))
  refine st (Zc rfl (st (Zq fn87 rfl (rof_any (n0 := n0) (Zu hn0 (hb3.trans (hb5.mono hb3.size))) hO.sl.none (by first | omega | (simp; done) | (simp; omega))) ?_)))
  rintro v14 w24 ⟨hq7, hS7⟩
  have k23 := Zi hq7 none
  have hz30 := hq7.size
  have hb25 := Zf hb5 k23
  have hz31 := hb25.size
  refine st (Ze rfl (st (Ze rfl (Zg (Zd (Zdl rfl rfl rfl ?_))))))
  have hle : nv ys ≤ nv xs := by have := h1; unfold Zbt at this; split at this <;> (try split at this) <;> omega
  have hend := bsub_end hpa hpb hle hol hn hu om
  exact ⟨_, rfl, (hb3.trans (hb25.mono hb3.size)), _, by rw [decide_eq_true hle], by rw [← hend]; exact hS7⟩
 refine Zo (Zd (Zh (Zz (Zh (Zb (st (Zc rfl ?_)))))))
 refine st (s_neg rfl om (st (Ze rfl (Zg (Zd (Zh (Zh (Zb ?_))))))))
 refine st (Zc rfl (st (Zc rfl (st (Zq fn86 rfl (Zih ((hS5.at0 hb5)).none) ?_)))))
 rintro v3 w5 ⟨hq4, hv1⟩
 rw [Ziu (Zap (Zay ha))] at hv1
 subst hv1
 have k4 := Zi hq4 none
 have hz8 := hq4.size
 have hb6 := Zf hb5 k4
 have hz9 := hb6.size
 have hO1 := hO.g0 k4
 refine Zg (Zd ?_)
 refine Zba rfl (fun h3 => ?_) (fun h3 => ?_)
 rotate_left
 ·refine Zo (Zd (Zh (Zh (Zb (st (Zc rfl (st (Zc rfl ?_))))))))
  refine st (Zq fn86 rfl (Zih ((hS6.at0 hb6)).none) ?_)
  rintro v9 w15 ⟨hq6, hv3⟩
  rw [Ziu (Zap (Zay hb))] at hv3
  subst hv3
  have k14 := Zi hq6 none
  have hz20 := hq6.size
  have hb16 := Zf hb6 k14
  have hz21 := hb16.size
  have hO11 := hO1.g0 k14
  refine Zg (Zd ?_)
  refine Zba rfl (fun h7 => ?_) (fun h7 => ?_)
  rotate_left
  ·refine Zo (Zd (Zh (Zb (st (Ze rfl (Zg (Zd ?_)))))))
   refine Zh (Zh (Zb (st (Zc rfl (st (Zbd rfl rfl (Zg (Zd ?_))))))))
   refine Zw rfl (fun h9 => ?_) (fun h9 => ?_)
   rotate_left
   ·refine Zo (Zd (Zb (st (Zc rfl (st (Zc rfl (st (Zbu rfl rfl (st (Zau (ps := [(0, .tmp 44)]) (ccs := [#[.bool (decide ((-u) = 1))]]) (e := 4) (cells := [.bool (decide ((-u) = 1))]) rfl rfl kr dc nz4 ?_))))))))))
    intro g8 w22 hg8 hB8 k21 hs8
    have hb23 := Zf hb16 k21
    have hz28 := hb23.size
    have hO18 := hO11.g0 k21
    refine st (Za4 (K := Kd.bool) Zcq rfl rfl hO18 (Zcu hB8 hO11 (fun h => h) hg8) Zb5 (by simp; omega) (by simp; omega) (by first | exact Nat.le_refl _ | omega) (fun _ h => h.elim) ?_)
    intro v13 w23 hO19 k22 hr8
    have hb24 := hb23.grown k22 hb23.size (fun k_ hk_ => (hO18.lt k_ hk_).1)
    have hz29 := hb24.size
    refine st (Ze rfl (Zg (Zab (Zd (Zb (st (Zc rfl (st (Zah rfl rfl om ?_)))))))))
    refine st (Ze rfl (Zg ?_))
    exact Zac (((i + 1)), (v13), (os ++ [decide ((-u) = 1)]), (0)) ⟨hb24, by omega, hO19, by simp; omega, by dsimp only; omega, Zfb hpa hpb hi.1 hol hn (u' := 0) (by rw [h3, h7]; simp only [bn]; simp; try omega) om⟩ om sb
   refine Zb (st (Zc rfl (st (Zah rfl rfl om (st (Ze rfl (st (Ze rfl (Zg (Zd ?_))))))))))
   refine Zb (st (Zc rfl (st (Zc rfl (st (Zbu rfl rfl (st (Zau (ps := [(0, .tmp 44)]) (ccs := [#[.bool (decide (((-u) + 2) = 1))]]) (e := 4) (cells := [.bool (decide (((-u) + 2) = 1))]) rfl rfl kr dc nz4 ?_))))))))
   intro g7 w20 hg7 hB7 k19 hs7
   have hb21 := Zf hb16 k19
   have hz26 := hb21.size
   have hO16 := hO11.g0 k19
   refine st (Za4 (K := Kd.bool) Zcq rfl rfl hO16 (Zcu hB7 hO11 (fun h => h) hg7) Zb5 (by simp; omega) (by simp; omega) (by first | exact Nat.le_refl _ | omega) (fun _ h => h.elim) ?_)
   intro v12 w21 hO17 k20 hr7
   have hb22 := hb21.grown k20 hb21.size (fun k_ hk_ => (hO16.lt k_ hk_).1)
   have hz27 := hb22.size
   refine st (Ze rfl (Zg (Zab (Zd (Zb (st (Zc rfl (st (Zah rfl rfl om ?_)))))))))
   refine st (Ze rfl (Zg ?_))
   exact Zac (((i + 1)), (v12), (os ++ [decide (((-u) + 2) = 1)]), (1)) ⟨hb22, by omega, hO17, by simp; omega, by dsimp only; omega, Zfb hpa hpb hi.1 hol hn (u' := 1) (by rw [h3, h7]; simp only [bn]; simp; try omega) om⟩ om sb
  refine Zb (st (Zc rfl (st (Za7 rfl rfl om (st (Ze rfl (Zg (Zd (Zh ?_)))))))))
  refine Zb (st (Ze rfl (Zg (Zd (Zh (Zh (Zb ?_)))))))
  refine st (Zc rfl (st (Zbd rfl rfl (Zg (Zd ?_)))))
  refine Zw rfl (fun h8 => ?_) (fun h8 => ?_)
  rotate_left
  ·refine Zo (Zd (Zb (st (Zc rfl (st (Zc rfl (st (Zbu rfl rfl (st (Zau (ps := [(0, .tmp 44)]) (ccs := [#[.bool (decide (((-u) - 1) = 1))]]) (e := 4) (cells := [.bool (decide (((-u) - 1) = 1))]) rfl rfl kr dc nz4 ?_))))))))))
   intro g6 w18 hg6 hB6 k17 hs6
   have hb19 := Zf hb16 k17
   have hz24 := hb19.size
   have hO14 := hO11.g0 k17
   refine st (Za4 (K := Kd.bool) Zcq rfl rfl hO14 (Zcu hB6 hO11 (fun h => h) hg6) Zb5 (by simp; omega) (by simp; omega) (by first | exact Nat.le_refl _ | omega) (fun _ h => h.elim) ?_)
   intro v11 w19 hO15 k18 hr6
   have hb20 := hb19.grown k18 hb19.size (fun k_ hk_ => (hO14.lt k_ hk_).1)
   have hz25 := hb20.size
   refine st (Ze rfl (Zg (Zab (Zd (Zb (st (Zc rfl (st (Zah rfl rfl om ?_)))))))))
   refine st (Ze rfl (Zg ?_))
   exact Zac (((i + 1)), (v11), (os ++ [decide (((-u) - 1) = 1)]), (0)) ⟨hb20, by omega, hO15, by simp; omega, by dsimp only; omega, Zfb hpa hpb hi.1 hol hn (u' := 0) (by rw [h3, h7]; simp only [bn]; simp; try omega) om⟩ om sb
  refine Zb (st (Zc rfl (st (Zah rfl rfl om (st (Ze rfl (st (Ze rfl (Zg (Zd ?_))))))))))
  refine Zb (st (Zc rfl (st (Zc rfl (st (Zbu rfl rfl (st (Zau (ps := [(0, .tmp 44)]) (ccs := [#[.bool (decide ((((-u) - 1) + 2) = 1))]]) (e := 4) (cells := [.bool (decide ((((-u) - 1) + 2) = 1))]) rfl rfl kr dc nz4 ?_))))))))
  intro g5 w16 hg5 hB5 k15 hs5
  have hb17 := Zf hb16 k15
  have hz22 := hb17.size
  have hO12 := hO11.g0 k15
  refine st (Za4 (K := Kd.bool) Zcq rfl rfl hO12 (Zcu hB5 hO11 (fun h => h) hg5) Zb5 (by simp; omega) (by simp; omega) (by first | exact Nat.le_refl _ | omega) (fun _ h => h.elim) ?_)
  intro v10 w17 hO13 k16 hr5
  have hb18 := hb17.grown k16 hb17.size (fun k_ hk_ => (hO12.lt k_ hk_).1)
  have hz23 := hb18.size
  refine st (Ze rfl (Zg (Zab (Zd (Zb (st (Zc rfl (st (Zah rfl rfl om ?_)))))))))
  refine st (Ze rfl (Zg ?_))
  exact Zac (((i + 1)), (v10), (os ++ [decide ((((-u) - 1) + 2) = 1)]), (1)) ⟨hb18, by omega, hO13, by simp; omega, by dsimp only; omega, Zfb hpa hpb hi.1 hol hn (u' := 1) (by rw [h3, h7]; simp only [bn]; simp; try omega) om⟩ om sb
 refine Zb (st (Zc rfl (st (Zah rfl rfl om (st (Ze rfl (Zg (Zd (Zh ?_)))))))))
 refine Zh (Zb (st (Zc rfl (st (Zc rfl (st (Zq fn86 rfl (Zih ((hS6.at0 hb6)).none) ?_)))))))
 rintro v4 w6 ⟨hq5, hv2⟩
 rw [Ziu (Zap (Zay hb))] at hv2
 subst hv2
 have k5 := Zi hq5 none
 have hz10 := hq5.size
 have hb7 := Zf hb6 k5
 have hz11 := hb7.size
 have hO2 := hO1.g0 k5
 refine Zg (Zd ?_)
 refine Zba rfl (fun h4 => ?_) (fun h4 => ?_)
 rotate_left
 ·refine Zo (Zd (Zh (Zb (st (Ze rfl (Zg (Zd ?_)))))))
  refine Zh (Zh (Zb (st (Zc rfl (st (Zbd rfl rfl (Zg (Zd ?_))))))))
  refine Zw rfl (fun h6 => ?_) (fun h6 => ?_)
  rotate_left
  ·refine Zo (Zd (Zb (st (Zc rfl (st (Zc rfl (st (Zbu rfl rfl (st (Zau (ps := [(0, .tmp 44)]) (ccs := [#[.bool (decide (((-u) + 1) = 1))]]) (e := 4) (cells := [.bool (decide (((-u) + 1) = 1))]) rfl rfl kr dc nz4 ?_))))))))))
   intro g4 w13 hg4 hB4 k12 hs4
   have hb14 := Zf hb7 k12
   have hz18 := hb14.size
   have hO9 := hO2.g0 k12
   refine st (Za4 (K := Kd.bool) Zcq rfl rfl hO9 (Zcu hB4 hO2 (fun h => h) hg4) Zb5 (by simp; omega) (by simp; omega) (by first | exact Nat.le_refl _ | omega) (fun _ h => h.elim) ?_)
   intro v8 w14 hO10 k13 hr4
   have hb15 := hb14.grown k13 hb14.size (fun k_ hk_ => (hO9.lt k_ hk_).1)
   have hz19 := hb15.size
   refine st (Ze rfl (Zg (Zab (Zd (Zb (st (Zc rfl (st (Zah rfl rfl om ?_)))))))))
   refine st (Ze rfl (Zg ?_))
   exact Zac (((i + 1)), (v8), (os ++ [decide (((-u) + 1) = 1)]), (0)) ⟨hb15, by omega, hO10, by simp; omega, by dsimp only; omega, Zfb hpa hpb hi.1 hol hn (u' := 0) (by rw [h3, h4]; simp only [bn]; simp; try omega) om⟩ om sb
  refine Zb (st (Zc rfl (st (Zah rfl rfl om (st (Ze rfl (st (Ze rfl (Zg (Zd ?_))))))))))
  refine Zb (st (Zc rfl (st (Zc rfl (st (Zbu rfl rfl (st (Zau (ps := [(0, .tmp 44)]) (ccs := [#[.bool (decide ((((-u) + 1) + 2) = 1))]]) (e := 4) (cells := [.bool (decide ((((-u) + 1) + 2) = 1))]) rfl rfl kr dc nz4 ?_))))))))
  intro g3 w11 hg3 hB3 k10 hs3
  have hb12 := Zf hb7 k10
  have hz16 := hb12.size
  have hO7 := hO2.g0 k10
  refine st (Za4 (K := Kd.bool) Zcq rfl rfl hO7 (Zcu hB3 hO2 (fun h => h) hg3) Zb5 (by simp; omega) (by simp; omega) (by first | exact Nat.le_refl _ | omega) (fun _ h => h.elim) ?_)
  intro v7 w12 hO8 k11 hr3
  have hb13 := hb12.grown k11 hb12.size (fun k_ hk_ => (hO7.lt k_ hk_).1)
  have hz17 := hb13.size
  refine st (Ze rfl (Zg (Zab (Zd (Zb (st (Zc rfl (st (Zah rfl rfl om ?_)))))))))
  refine st (Ze rfl (Zg ?_))
  exact Zac (((i + 1)), (v7), (os ++ [decide ((((-u) + 1) + 2) = 1)]), (1)) ⟨hb13, by omega, hO8, by simp; omega, by dsimp only; omega, Zfb hpa hpb hi.1 hol hn (u' := 1) (by rw [h3, h4]; simp only [bn]; simp; try omega) om⟩ om sb
 refine Zb (st (Zc rfl (st (Za7 rfl rfl om (st (Ze rfl (Zg (Zd (Zh ?_)))))))))
 refine Zb (st (Ze rfl (Zg (Zd (Zh (Zh (Zb ?_)))))))
 refine st (Zc rfl (st (Zbd rfl rfl (Zg (Zd ?_)))))
 refine Zw rfl (fun h5 => ?_) (fun h5 => ?_)
 rotate_left
 ·refine Zo (Zd (Zb (st (Zc rfl (st (Zc rfl (st (Zbu rfl rfl (st (Zau (ps := [(0, .tmp 44)]) (ccs := [#[.bool (decide ((((-u) + 1) - 1) = 1))]]) (e := 4) (cells := [.bool (decide ((((-u) + 1) - 1) = 1))]) rfl rfl kr dc nz4 ?_))))))))))
  intro g2 w9 hg2 hB2 k8 hs2
  have hb10 := Zf hb7 k8
  have hz14 := hb10.size
  have hO5 := hO2.g0 k8
  refine st (Za4 (K := Kd.bool) Zcq rfl rfl hO5 (Zcu hB2 hO2 (fun h => h) hg2) Zb5 (by simp; omega) (by simp; omega) (by first | exact Nat.le_refl _ | omega) (fun _ h => h.elim) ?_)
  intro v6 w10 hO6 k9 hr2
  have hb11 := hb10.grown k9 hb10.size (fun k_ hk_ => (hO5.lt k_ hk_).1)
  have hz15 := hb11.size
  refine st (Ze rfl (Zg (Zab (Zd (Zb (st (Zc rfl (st (Zah rfl rfl om ?_)))))))))
  refine st (Ze rfl (Zg ?_))
  exact Zac (((i + 1)), (v6), (os ++ [decide ((((-u) + 1) - 1) = 1)]), (0)) ⟨hb11, by omega, hO6, by simp; omega, by dsimp only; omega, Zfb hpa hpb hi.1 hol hn (u' := 0) (by rw [h3, h4]; simp only [bn]; simp; try omega) om⟩ om sb
 refine Zb (st (Zc rfl (st (Zah rfl rfl om (st (Ze rfl (st (Ze rfl (Zg (Zd ?_))))))))))
 refine Zb (st (Zc rfl (st (Zc rfl (st (Zbu rfl rfl (st (Zau (ps := [(0, .tmp 44)]) (ccs := [#[.bool (decide (((((-u) + 1) - 1) + 2) = 1))]]) (e := 4) (cells := [.bool (decide (((((-u) + 1) - 1) + 2) = 1))]) rfl rfl kr dc nz4 ?_))))))))
 intro g1 w7 hg1 hB1 k6 hs1
 have hb8 := Zf hb7 k6
 have hz12 := hb8.size
 have hO3 := hO2.g0 k6
 refine st (Za4 (K := Kd.bool) Zcq rfl rfl hO3 (Zcu hB1 hO2 (fun h => h) hg1) Zb5 (by simp; omega) (by simp; omega) (by first | exact Nat.le_refl _ | omega) (fun _ h => h.elim) ?_)
 intro v5 w8 hO4 k7 hr1
 have hb9 := hb8.grown k7 hb8.size (fun k_ hk_ => (hO3.lt k_ hk_).1)
 have hz13 := hb9.size
 refine st (Ze rfl (Zg (Zab (Zd (Zb (st (Zc rfl (st (Zah rfl rfl om ?_)))))))))
 refine st (Ze rfl (Zg ?_))
 exact Zac (((i + 1)), (v5), (os ++ [decide (((((-u) + 1) - 1) + 2) = 1)]), (1)) ⟨hb9, by omega, hO4, by simp; omega, by dsimp only; omega, Zfb hpa hpb hi.1 hol hn (u' := 1) (by rw [h3, h4]; simp only [bn]; simp; try omega) om⟩ om sb
end Go.Proofs.Ytfljelnfjbbknaa.Lm
namespace Go.Proofs.Ytfljelnfjbbknaa.Lm
open Go.RowKit Go.Gw
set_option maxHeartbeats 1000000 in
theorem rshl_any {w : World} {n0 : Nat} (hn0 : n0 ≤ w.heap.size) {a : Value} {n : Int} {xs : List Int} (ha : Sl Kd.u32 w (G 83 n0 w) a xs) (hla : xs.length ≤ 100000) :
  Calls Try.prog 102 [a, .int .i64 n].toArray w (Zbh w fun v W => Sl Kd.u32 W (G 83 n0 W) v (shlL xs n)) := by
 have hb0 := Below.refl w.heap.size w
 have hln1 := ha.lenle
 have hla2 := Ze5 (Zay ha)
 refine enter Try.func102 rfl rfl (Zh (Zb (st (Ze rfl (Zg (Zd (Zh ?_)))))))
 refine Zh (Zb (st (Zc rfl (st (Zbd rfl rfl (st (Zc rfl ?_)))))))
 refine Zax 7 rfl (fun h1 => ?_) (fun h1 => ?_)
 ·refine Zj rfl rfl (Zj rfl rfl (st (Zr rfl rfl (Zg (Zd (Zb0 rfl (Zh ?_)))))))
  refine Zb (st (Ze rfl (Zg (Zd (Zaa rfl rfl ?_)))))
  exact ⟨_, rfl, hb0, by unfold shlL; rw [if_neg (by rw [fit_no om]; decide)]; exact nilG⟩
 refine stg (Zc rfl (stg (Zch rfl rfl (st (Zr rfl rfl (Zg (Zd ?_)))))))
 refine Zw rfl (fun h2 => ?_) (fun h2 => ?_)
 ·refine Zh (Zb (st (Ze rfl (Zg (Zd (Zaa rfl rfl ?_))))))
  exact ⟨_, rfl, hb0, by unfold shlL; rw [if_neg (by rw [fit_no om]; decide)]; exact nilG⟩
 refine Zo (Zd (Zh ?_))
 refine w_drawC 6 (fun a b => Below (w.heap.size) a b) (Big0 (w.heap.size)) (Big (w.heap.size)) [(some 11, fun v _ => v = .int .i64 n), (some 12, fun v W => Gw.Own Kd.bool 4 w.heap.size W (fun _ => False) v (List.replicate (n).toNat false)), (some 13, fun v _ => v = a), (some 14, fun v W => Sl Kd.bool W (fun _ => False) v (tb (nv xs))), (some 15, fun v W => Gw.Own Kd.bool 4 w.heap.size W (fun _ => False) v (List.replicate (n).toNat false ++ tb (nv xs))), (some 16, fun v W => Sl Kd.u32 W (G 83 n0 W) v (tl (bv (List.replicate (n).toNat false ++ tb (nv xs)))))] [[], [0], [], [2], [1, 3], [4]] [[], [0], [], [2], [1, 3, 0, 2], [4, 1, 3, 0, 2]] [[], [4], [], [4], [], []] [false, false, false, false, true, false] [true, false, true, false, false, false] [(0, a), (1, .int .i64 n), (4, .slice none 0 0)] sb kr kr kr rfl (Below.refl _) (fun _ _ _ h k => h.trans k) (fun _ _ h => h.below) (fun _ _ h => h.below) ⟨fun _ _ _ h _ => by exact h, fun _ _ _ h _ => by exact h, fun _ _ _ h k => h.g0 k.2, fun _ _ _ h _ => by exact h, fun _ _ _ h _ => by exact h, fun _ _ _ h k => h.g0 k.2, fun _ _ _ h k => h.g0 k.2, fun _ _ _ h k => h.gg0 k.2, trivial⟩ ?_
 intro w1 k1 hs1
 have hb1 := Zf hb0 k1
 refine ⟨⟨?_, ?_, ?_, ?_, ?_, ?_, trivial⟩, ?_⟩
 ·intro w8z_ kb
  have kgz_ := Zi (show Below w1.heap.size w1 w8z_ by rw [hs1]; exact kb) none
  have hbz_ := Zf hb1 kgz_
  have hzz_ := hbz_.size
  have hez_ := kb.size
  exact op1 (Zc rfl ⟨rfl, ⟨by omega, World.grownBy.refl _ _⟩⟩)
 ·intro w8z_ kb
  have kgz_ := Zi (show Below w1.heap.size w1 w8z_ by rw [hs1]; exact kb) none
  have hbz_ := Zf hb1 kgz_
  have hzz_ := hbz_.size
  have hez_ := kb.size
  rintro _ rfl
  refine op1 (Zi5 (K := Kd.bool) (base := w.heap.size) (F := fun _ => False) Zcq rfl om om om (fun _ _ => ⟨rfl, trivial⟩) om (fun _ h => h.elim) ?_)
  intro vz_ wz_ hOz_ kz_
  exact ⟨hOz_, ⟨by omega, kz_⟩⟩
 ·intro w8z_ kb
  have kgz_ := Zi (show Below w1.heap.size w1 w8z_ by rw [hs1]; exact kb) none
  have hbz_ := Zf hb1 kgz_
  have hzz_ := hbz_.size
  have hez_ := kb.size
  exact op1 (Zc rfl ⟨rfl, ⟨by omega, World.grownBy.refl _ _⟩⟩)
 ·intro w8z_ kb
  have kgz_ := Zi (show Below w1.heap.size w1 w8z_ by rw [hs1]; exact kb) none
  have hbz_ := Zf hb1 kgz_
  have hzz_ := hbz_.size
  have hez_ := kb.size
  intro v_ hv_; subst v_
  refine op1 (Zq fn85 rfl (Ze7 ((ha.at0 hbz_)).none om) ?_)
  rintro vz_ wz_ ⟨hqz_, hSz_⟩
  exact ⟨hSz_, ⟨by omega, Zi hqz_ none⟩⟩
 ·intro w8z_ kb
  have kgz_ := Zi (show Below w1.heap.size w1 w8z_ by rw [hs1]; exact kb) none
  have hbz_ := Zf hb1 kgz_
  have hzz_ := hbz_.size
  have hez_ := kb.size
  intro v12z_ h12z_ v14z_ h14z_
  refine op1 (Zjw (K := Kd.bool) Zcq rfl rfl h12z_ Zft h14z_ Zb5 (by simp; omega) (by simp; omega) om (fun _ h => h.elim) ?_)
  intro vz_ wz_ hPz_ kz_ horz_ hzz2_
  exact ⟨hPz_, ⟨by omega, _, kz_, fun g hg => (h12z_.lt g hg).1⟩⟩
 ·intro w8z_ kb
  have kgz_ := Zi (show Below w1.heap.size w1 w8z_ by rw [hs1]; exact kb) none
  have hbz_ := Zf hb1 kgz_
  have hzz_ := hbz_.size
  have hez_ := kb.size
  intro v15z_ h15z_
  refine op1 (Zq fn87 rfl (rof_any (n0 := n0) (Zu hn0 hbz_) h15z_.sl (by simp; omega)) ?_)
  rintro vz_ wz_ ⟨hqz_, hSz_⟩
  exact ⟨hSz_, ⟨by omega, Zi hqz_ none⟩⟩
 intro w2 kb
 have k2 := Zi (show Below w1.heap.size w1 w2 by rw [hs1]; exact kb) none
 have hb2 := Zf hb1 k2
 have hz1 := hb2.size
 rintro _ rfl v12 _
 intro v_ hv_; subst v_
 rintro v14 _ v15 h15 v16 h16
 refine st (Ze rfl (Zg (Zd (Zaa rfl rfl ?_))))
 exact ⟨_, rfl, hb2, by unfold shlL; rw [if_pos (fit_yes om om), ← shl_bits (Zap (Zay ha))]; exact h16⟩
end Go.Proofs.Ytfljelnfjbbknaa.Lm
namespace Go.Proofs.Ytfljelnfjbbknaa.Lm
open Go.RowKit Go.Gw
set_option maxHeartbeats 1000000 in
theorem Zhb {w : World} {ng : Bool} {a : Value} {xs : List Int} (ha : Sl Kd.u32 w (fun _ => False) a xs) :
  Calls Try.prog 27 [.agg [.bool ng, a].toArray].toArray w (Zbh w fun v _ => v = .bool (bigR ng xs)) := by
 have hb0 := Below.refl w.heap.size w
 refine enter Try.func27 rfl rfl (Zh (Zb (st (Zbs rfl ?_))))
 intro g1 w1 hg1 hB1 k1 hs1
 change Blk w1 g1 31 [.bool ng, a].toArray at hB1
 have hb1 := Zf hb0 k1
 refine st (Ze rfl (Zg (Zd (Zh (Zb (st (Zn Zbr rfl (st (Zt Zcd rfl hB1.range (j := 1) rfl ?_)))))))))
 refine st (Zq fn57 rfl (rright_any ((ha.at0 hb1)).none) ?_)
 rintro _ w2 ⟨hq1, rfl⟩
 have k2 := Zi hq1 none
 have hz1 := hq1.size
 have hb2 := Zf hb1 k2
 have hz2 := hb2.size
 refine st (Zc rfl ?_)
 refine Zd7 6 rfl (fun h1 => ?_) (fun h1 => ?_)
 rotate_left
 ·refine Zj rfl rfl (Zj rfl rfl (Zj rfl rfl (Zal rfl rfl (Zal rfl rfl (Zal rfl rfl (Zal rfl rfl ?_))))))
  refine Zj rfl rfl (Zj rfl rfl (st (Zr rfl rfl (st (Ze rfl (Zg (Zd (Zaa rfl rfl ?_))))))))
  exact ⟨_, rfl, hb2, by unfold bigR; rw [h1]; first | rfl | (rw [Bool.true_and, Bool.not_true, Bool.false_or]; exact congrArg Value.bool (decide_eq_decide.2 om))⟩
 refine stg (Zn Zdh rfl (stg (Zt Zeg rfl (hB1.g0 k2).range (j := 0) rfl (stg (Zc rfl ?_)))))
 refine Zd7 9 rfl (fun h2 => ?_) (fun h2 => ?_)
 rotate_left
 ·refine Zj rfl rfl (Zj rfl rfl (Zj rfl rfl (Zj rfl rfl (stg (Zr rfl rfl (stg (Zdd rfl (st (Zr rfl rfl ?_)))))))))
  refine st (Ze rfl (Zg (Zd (Zaa rfl rfl ?_))))
  exact ⟨_, rfl, hb2, by unfold bigR; rw [h1, h2]; first | rfl | (rw [Bool.true_and, Bool.not_true, Bool.false_or]; exact congrArg Value.bool (decide_eq_decide.2 om))⟩
 refine stg (Zn Zbr rfl (stg (Zt Zcd rfl (hB1.g0 k2).range (j := 1) rfl (stg (Zaq Zbx rfl (ha.at0 hb2) (stg (Zbu rfl rfl (stg (Zr rfl rfl (stg (s_notP rfl (st (Zr rfl rfl ?_)))))))))))))
 refine st (Ze rfl (Zg (Zd (Zaa rfl rfl ?_))))
 exact ⟨_, rfl, hb2, by unfold bigR; rw [h1, h2]; first | rfl | (rw [Bool.true_and, Bool.not_true, Bool.false_or]; exact congrArg Value.bool (decide_eq_decide.2 om))⟩
set_option maxHeartbeats 1000000 in
theorem Zfq {w : World} {n0 : Nat} (hn0 : n0 ≤ w.heap.size) {ng : Bool} {a : Value} {m : Int} (ha : Sl Kd.u32 w (G 83 n0 w) a (tl m)) (hm : 0 ≤ m) :
  Calls Try.prog 76 [.bool ng, a].toArray w (Zbh w fun v W => Zbw 83 n0 W v (sg ng m)) := by
 have hb0 := Below.refl w.heap.size w
 have hln1 := ha.lenle
 refine enter Try.func76 rfl rfl (Zh (Zb (st (Zan Zb3 ?_))))
 intro g1 w1 hg1 hB1 k1 hs1
 have hz1 := hb0.size
 have hb1 := Zf hb0 k1
 refine Zg (Zd (Zh (Zb (st (Zc rfl (st (Zc rfl ?_)))))))
 refine Zd7 6 rfl (fun h1 => ?_) (fun h1 => ?_)
 rotate_left
 ·refine Zj rfl rfl (Zj rfl rfl (Zj rfl rfl (st (Zr rfl rfl (st (Zc rfl (st (Zbe (ps := [(0, .tmp 10), (1, .tmp 11)]) (ccs := [#[.bool false], #[a]]) (cells := [.bool false, a]) rfl (by simp only [List.map_cons, List.map_nil, ha.cells1] <;> rfl) kr (st0 (Zv Zx rfl rfl hB1 (by simp only [List.all_cons, List.all_nil, ha.one, Bool.and_true, Bool.and_self] <;> rfl) rfl rfl ?_))))))))))
  intro w3 hB3 k3 hs3
  have hb3 := belowa hb1 k3
  refine Zg (Zd (Zcx rfl Zx rfl hB3.range rfl ?_))
  exact ⟨_, rfl, hb3, _, by rw [sg_pos hm h1], by rw [← sg_ml ng hm]; exact (((ha.at0 hb3)).unlocG hb3)⟩
 refine stg (Zc rfl (stg (Zaq Zbx rfl (ha.at0 hb1) (stg (Zch rfl rfl (st (Zr rfl rfl (st (Zc rfl (st (Zbe (ps := [(0, .tmp 10), (1, .tmp 11)]) (ccs := [#[.bool (decide (0 < ((tl m).length : Int)))], #[a]]) (cells := [.bool (decide (0 < ((tl m).length : Int))), a]) rfl (by simp only [List.map_cons, List.map_nil, ha.cells1] <;> rfl) kr (st0 (Zv Zx rfl rfl hB1 (by simp only [List.all_cons, List.all_nil, ha.one, Bool.and_true, Bool.and_self] <;> rfl) rfl rfl ?_)))))))))))))
 intro w2 hB2 k2 hs2
 have hb2 := belowa hb1 k2
 refine Zg (Zd (Zcx rfl Zx rfl hB2.range rfl ?_))
 exact ⟨_, rfl, hb2, _, by rw [sg_neg hm h1], by rw [← sg_ml ng hm]; exact (((ha.at0 hb2)).unlocG hb2)⟩
set_option maxHeartbeats 1000000 in
theorem of_any {w : World} {n0 : Nat} (hn0 : n0 ≤ w.heap.size) {n : Int} (hn : -9223372036854775808 ≤ n ∧ n ≤ 9223372036854775807) :
  Calls Try.prog 49 [.int .i64 n].toArray w (Zbh w fun v W => Zbw 83 n0 W v (n)) := by
 have hb0 := Below.refl w.heap.size w
 refine enter Try.func49 rfl rfl (Zh (Zb (st (Zan Zb3 ?_))))
 intro g1 w1 hg1 hB1 k1 hs1
 have hz1 := hb0.size
 have hb1 := Zf hb0 k1
 refine Zg (Zd (Zh (Zb (st (Zc rfl (st (Zco (M := 18446744073709551616) rfl rfl Zh5 Zec rfl (st (Ze rfl ?_)))))))))
 refine Zg (Zd (Zh (Zh (Zb (st (Zc rfl (st (Zbd rfl rfl ?_))))))))
 refine Zg (Zd ?_)
 refine Zw rfl (fun h1 => ?_) (fun h1 => ?_)
 rotate_left
 ·refine Zo (Zd (Zh (Zb (st (Zc rfl (st (Zbd rfl rfl (st (Zc rfl ?_)))))))))
  refine st (Zco (M := 4294967296) rfl rfl Zec Zdu rfl (st (Zc rfl (st (Zio (p := 4294967296) rfl rfl dc dc (st (Zco (M := 4294967296) rfl rfl Zec Zdu rfl (st (Zau (ps := [(0, .tmp 13), (1, .tmp 16)]) (ccs := [#[.int .u32 ((n % 18446744073709551616) % 4294967296)], #[.int .u32 (((n % 18446744073709551616) / 4294967296) % 4294967296)]]) (e := 83) (cells := [.int .u32 ((n % 18446744073709551616) % 4294967296), .int .u32 (((n % 18446744073709551616) / 4294967296) % 4294967296)]) rfl rfl kr dc nz83 ?_)))))))))
  intro g3 w6 hg3 hB4 k6 hs4
  have hb6 := Zf hb1 k6
  have hz7 := hb6.size
  have hS4 := Ziw (F := fun _ => False) ([((n % 18446744073709551616) % 4294967296), (((n % 18446744073709551616) / 4294967296) % 4294967296)] : List Int) hB4 (fun h => h) rfl (by first | decide | simp) (by intro x hx; simp at hx; omega)
  refine st (Zq fn81 rfl (norm_any (n0 := n0) (Zu hn0 hb6) (Sl.litG hB4 hS4) (by first | omega | (simp; done) | (simp; omega))) ?_)
  rintro v3 w7 ⟨hq3, hS5⟩
  have k7 := Zi hq3 none
  have hz8 := hq3.size
  have hb7 := Zf hb6 k7
  have hz9 := hb7.size
  refine st (Zq fn76 rfl (Zfq (m := nv ([((n % 18446744073709551616) % 4294967296), (((n % 18446744073709551616) / 4294967296) % 4294967296)] : List Int)) (n0 := n0) (Zu hn0 hb7) hS5 (Zap (by intro x hx; simp at hx; omega))) ?_)
  rintro _ w8 ⟨hq4, v4, rfl, hS6⟩
  have k8 := Zi hq4 none
  have hz10 := hq4.size
  have hb8 := Zf hb7 k8
  have hz11 := hb8.size
  refine st0 (Zv Zx rfl rfl (((hB1.g0 k6).g0 k7).g0 k8) (by simp only [List.all_cons, List.all_nil, hS6.one, Bool.and_true, Bool.and_self] <;> rfl) rfl rfl ?_)
  intro w9 hB5 k9 hs5
  have hb9 := belowa hb8 k9
  refine Zg (Zd (Zcx rfl Zx rfl hB5.range rfl ?_))
  exact ⟨_, rfl, hb9, Zai (of_pos hn h1) (hS6.ggB k9 (((hB1.g0 k6).g0 k7).g0 k8) dc om)⟩
 refine Zb (st (Zc rfl (st (s_negk (M := 18446744073709551616) rfl rfl rfl (st (Ze rfl (Zg (Zd (Zh ?_)))))))))
 refine Zb (st (Zc rfl (st (Zbd rfl rfl (st (Zc rfl (st (Zco (M := 4294967296) rfl rfl Zec Zdu rfl (st (Zc rfl (st (Zio (p := 4294967296) rfl rfl dc dc ?_))))))))))))
 refine st (Zco (M := 4294967296) rfl rfl Zec Zdu rfl (st (Zau (ps := [(0, .tmp 13), (1, .tmp 16)]) (ccs := [#[.int .u32 (((-(n % 18446744073709551616)) % 18446744073709551616) % 4294967296)], #[.int .u32 ((((-(n % 18446744073709551616)) % 18446744073709551616) / 4294967296) % 4294967296)]]) (e := 83) (cells := [.int .u32 (((-(n % 18446744073709551616)) % 18446744073709551616) % 4294967296), .int .u32 ((((-(n % 18446744073709551616)) % 18446744073709551616) / 4294967296) % 4294967296)]) rfl rfl kr dc nz83 ?_)))
 intro g2 w2 hg2 hB2 k2 hs2
 have hb2 := Zf hb1 k2
 have hz2 := hb2.size
 have hS1 := Ziw (F := fun _ => False) ([(((-(n % 18446744073709551616)) % 18446744073709551616) % 4294967296), ((((-(n % 18446744073709551616)) % 18446744073709551616) / 4294967296) % 4294967296)] : List Int) hB2 (fun h => h) rfl (by first | decide | simp) (by intro x hx; simp at hx; omega)
 refine st (Zq fn81 rfl (norm_any (n0 := n0) (Zu hn0 hb2) (Sl.litG hB2 hS1) (by first | omega | (simp; done) | (simp; omega))) ?_)
 rintro v1 w3 ⟨hq1, hS2⟩
 have k3 := Zi hq1 none
 have hz3 := hq1.size
 have hb3 := Zf hb2 k3
 have hz4 := hb3.size
 refine st (Zq fn76 rfl (Zfq (m := nv ([(((-(n % 18446744073709551616)) % 18446744073709551616) % 4294967296), ((((-(n % 18446744073709551616)) % 18446744073709551616) / 4294967296) % 4294967296)] : List Int)) (n0 := n0) (Zu hn0 hb3) hS2 (Zap (by intro x hx; simp at hx; omega))) ?_)
 rintro _ w4 ⟨hq2, v2, rfl, hS3⟩
 have k4 := Zi hq2 none
 have hz5 := hq2.size
 have hb4 := Zf hb3 k4
 have hz6 := hb4.size
 refine st0 (Zv Zx rfl rfl (((hB1.g0 k2).g0 k3).g0 k4) (by simp only [List.all_cons, List.all_nil, hS3.one, Bool.and_true, Bool.and_self] <;> rfl) rfl rfl ?_)
 intro w5 hB3 k5 hs3
 have hb5 := belowa hb4 k5
 refine Zg (Zd (Zcx rfl Zx rfl hB3.range rfl ?_))
 exact ⟨_, rfl, hb5, Zai (of_neg hn h1) (hS3.ggB k5 (((hB1.g0 k2).g0 k3).g0 k4) dc om)⟩
set_option maxHeartbeats 1000000 in
theorem badd_any0 {w : World} {n0 : Nat} (hn0 : n0 ≤ w.heap.size)  {a : Value} {n : Int} {b : Value} {m : Int} (ha : Sl Kd.u32 w (G 83 n0 w) a (ml n)) (hb : Sl Kd.u32 w (G 83 n0 w) b (ml m)) (hbn : Bd 90000 n) (hbm : Bd 90000 m)  :
  Calls Try.prog 78 [.agg [.bool (decide (n < 0)), a].toArray, .agg [.bool (decide (m < 0)), b].toArray].toArray w (Zbh w fun v W => Zbw 83 n0 W v (n + m)) := by
 have hb0 := Below.refl w.heap.size w
 have hln := Zf9 hbn
 have hlm := Zf9 hbm
 have hnn := Zc7 n
 have hnm := Zc7 m
 refine enter Try.func78 rfl rfl (Zh (Zb (st (Zbs rfl ?_))))
 intro g1 w1 hg1 hB1 k1 hs1
 change Blk w1 g1 31 [.bool (decide (n < 0)), a].toArray at hB1
 have hb1 := Zf hb0 k1
 refine st (Zbs rfl ?_)
 intro g2 w2 hg2 hB2 k2 hs2
 change Blk w2 g2 31 [.bool (decide (m < 0)), b].toArray at hB2
 have hb2 := Zf hb1 k2
 have hlt_1 := ((hB1.g0 k2)).lt
 have hlt_2 := (hB2).lt
 refine st (Zan Zb3 ?_)
 intro g3 w3 hg3 hB3 k3 hs3
 have hz1 := hb2.size
 have hb3 := Zf hb2 k3
 refine Zg (Zd (Zh (Zh (Zb (st (Zn Zdh rfl (st (Zt Zeg rfl ((hB1.g0 k2).g0 k3).range (j := 0) rfl ?_))))))))
 refine st (Zn Zdh rfl (st (Zt Zeg rfl (hB2.g0 k3).range (j := 0) rfl (st (s_eqbool bool4 rfl rfl (Zg (Zd ?_)))))))
 refine Zba rfl (fun h1 => ?_) (fun h1 => ?_)
 ·refine Zh ?_
  refine Zce 8 GN [xi 12 <| .pointer (some ⟨g1, 0 + 0, none⟩), xi 13 <| .bool (decide (n < 0)), xi 14 <| .pointer (some ⟨g1, 0 + 1, none⟩), (some 15, fun v _ => Sl Kd.u32 w (G 83 n0 w) v (ml n)), xi 16 <| .pointer (some ⟨g2, 0 + 1, none⟩), (some 17, fun v _ => Sl Kd.u32 w (G 83 n0 w) v (ml m)), (some 18, fun v W => Sl Kd.u32 W (G 83 n0 W) v (tl (nv (ml n) + nv (ml m)))), (some 19, fun v W => Zbw 83 n0 W v (sg (decide (n < 0)) (nv (ml n) + nv (ml m))))] [[], [0], [], [2], [], [4], [3, 5], [1, 6]] [(2, (pp g1)), (3, (pp g2)), (4, (pp g3))] sb kr kr Za gnt ⟨kv, kv, kv, fun _ _ _ h _ => h, kv, fun _ _ _ h _ => h, fun _ _ _ h k => h.gg0 k, fun _ _ _ h k => h.g0 k, trivial⟩ ?_
  intro w6 k6 hs4
  have hb4 := Zf hb3 k6
  refine ⟨⟨?_, ?_, ?_, ?_, ?_, ?_, ?_, ?_, trivial⟩, ?_⟩
  ·intro w7 k7
   refine op1 (Zn Zdh rfl ?_)
   exact ⟨rfl, Za _⟩
  ·intro w8 k8
   rintro _ rfl
   refine op1 (Zt Zeg rfl ((((hB1.g0 k2).g0 k3).g0 k6).g0 k8).range (j := 0) rfl ?_)
   exact ⟨rfl, Za _⟩
  ·intro w9 k9
   refine op1 (Zn Zbr rfl ?_)
   exact ⟨rfl, Za _⟩
  ·intro w10 k10
   rintro _ rfl
   refine op1 (Zt Zcd rfl ((((hB1.g0 k2).g0 k3).g0 k6).g0 k10).range (j := 1) rfl ?_)
   exact ⟨ha, Za _⟩
  ·intro w11 k11
   refine op1 (Zn Zbr rfl ?_)
   exact ⟨rfl, Za _⟩
  ·intro w12 k12
   rintro _ rfl
   refine op1 (Zt Zcd rfl (((hB2.g0 k3).g0 k6).g0 k12).range (j := 1) rfl ?_)
   exact ⟨hb, Za _⟩
  ·intro w13 k13
   have hb11 := Zf hb4 k13
   rintro v3 hS3 v4 hS4
   refine op1 (Zq fn100 rfl (add_any (n0 := n0) (Zu hn0 hb11) (((hS3.at0 hb11)).unlocG hb11) (((hS4.at0 hb11)).unlocG hb11) (by first | omega | (simp; done) | (simp; omega)) (by first | omega | (simp; done) | (simp; omega))) ?_)
   rintro v5 w14 ⟨hq3, hS5⟩
   have k14 := Zi hq3 none
   have hz2 := hq3.size
   have hb12 := Zf hb11 k14
   have hz3 := hb12.size
   exact ⟨hS5, k14⟩
  ·intro w15 k15
   have hb13 := Zf hb4 k15
   rintro _ rfl v6 hS6
   refine op1 (Zq fn76 rfl (Zfq (m := nv (ml n) + nv (ml m)) (n0 := n0) (Zu hn0 hb13) hS6 (by first | omega | exact Zjq om | exact shrN_nn (by first | omega | exact Zap (Zem _)) | exact Zap (Zem _))) ?_)
   rintro _ w16 ⟨hq4, v7, rfl, hS7⟩
   have k16 := Zi hq4 none
   have hz4 := hq4.size
   have hb14 := Zf hb13 k16
   have hz5 := hb14.size
   exact ⟨⟨_, rfl, hS7⟩, k16⟩
  intro w17 k17
  have hb15 := Zf hb4 k17
  rintro _ rfl _ rfl _ rfl v8 hS8 _ rfl v9 hS9 v10 hS10 _ ⟨v11, rfl, hS11⟩
  refine st0 (Zv Zx rfl rfl ((hB3.g0 k6).g0 k17) (by simp only [List.all_cons, List.all_nil, hS11.one, Bool.and_true, Bool.and_self] <;> rfl) rfl rfl ?_)
  intro w18 hB4 k18 hs5
  have hb16 := belowa hb15 k18
  refine Zg (Zd (Zcx rfl Zx rfl hB4.range rfl ?_))
  exact ⟨_, rfl, hb16, Zai (sg_add (eq_of_beq h1)) (hS11.ggB k18 ((hB3.g0 k6).g0 k17) dc om)⟩
 refine Zo (Zd (Zh (Zh (Zb (st (Zn Zbr rfl (st (Zt Zcd rfl ((hB1.g0 k2).g0 k3).range (j := 1) rfl ?_))))))))
 refine st (Zn Zbr rfl (st (Zt Zcd rfl (hB2.g0 k3).range (j := 1) rfl (st (Zq fn82 rfl (cmp_any ((ha.at0 hb3)).none ((hb.at0 hb3)).none) ?_)))))
 rintro _ w19 ⟨hq5, rfl⟩
 have k19 := Zi hq5 none
 have hz6 := hq5.size
 have hb17 := Zf hb3 k19
 have hz7 := hb17.size
 refine st (Zbd rfl rfl (Zg (Zd ?_)))
 refine Zw rfl (fun h2 => ?_) (fun h2 => ?_)
 rotate_left
 ·have hc2 := cmpI_nneg h2
  refine Zo (Zd (Zh (Zb (st (Zn Zbr rfl (st (Zt Zcd rfl (((hB1.g0 k2).g0 k3).g0 k19).range (j := 1) rfl (st (Zn Zbr rfl ?_)))))))))
  refine st (Zt Zcd rfl ((hB2.g0 k3).g0 k19).range (j := 1) rfl (st (Zq fn101 rfl (sub_any (n0 := n0) (Zu hn0 hb17) (((ha.at0 hb17)).unlocG hb17) (((hb.at0 hb17)).unlocG hb17) (by first | omega | (simp; done) | (simp; omega)) (by first | omega | (simp; done) | (simp; omega))) ?_)))
  rintro _ w25 ⟨hq8, v14, rfl, hS14⟩
  have k25 := Zi hq8 none
  have hz12 := hq8.size
  have hb23 := Zf hb17 k25
  have hz13 := hb23.size
  refine st (Zc rfl (st (Zad rfl rfl (st (Zad rfl rfl (st (Ze rfl (st (Ze rfl (Zg (Zd ?_)))))))))))
  refine Zh (Zb (st (Zn Zdh rfl (st (Zt Zeg rfl ((((hB1.g0 k2).g0 k3).g0 k19).g0 k25).range (j := 0) rfl (st (Zc rfl (st (Zq fn76 rfl (Zfq (m := nv (ml n) - nv (ml m)) (n0 := n0) (Zu hn0 hb23) hS14 (by first | omega | exact Zjq om | exact shrN_nn (by first | omega | exact Zap (Zem _)) | exact Zap (Zem _))) ?_)))))))))
  rintro _ w26 ⟨hq9, v15, rfl, hS15⟩
  have k26 := Zi hq9 none
  have hz14 := hq9.size
  have hb24 := Zf hb23 k26
  have hz15 := hb24.size
  refine st0 (Zv Zx rfl rfl (((hB3.g0 k19).g0 k25).g0 k26) (by simp only [List.all_cons, List.all_nil, hS15.one, Bool.and_true, Bool.and_self] <;> rfl) rfl rfl ?_)
  intro w27 hB8 k27 hs9
  have hb25 := belowa hb24 k27
  refine Zg (Zd (Zcx rfl Zx rfl hB8.range rfl ?_))
  exact ⟨_, rfl, hb25, Zai (sg_sub (fun e => by rw [e, beq_self_eq_true] at h1; cases h1) hc2) (hS15.ggB k27 (((hB3.g0 k19).g0 k25).g0 k26) dc om)⟩
 have hc2 := cmpI_neg h2
 refine Zb (st (Zp Zx rfl ((hB2.g0 k3).g0 k19).range rfl (st (Zp Zx rfl (((hB1.g0 k2).g0 k3).g0 k19).range rfl (st0 (Zv Zx rfl rfl (((hB1.g0 k2).g0 k3).g0 k19) (by simp only [List.all_cons, List.all_nil, hb.one, Bool.and_true, Bool.and_self] <;> rfl) rfl rfl ?_))))))
 intro w20 hB5 k20 hs6
 have hb18 := belowa hb17 k20
 refine st0 (Zv Zx rfl rfl (((hB2.g0 k3).g0 k19).gne k20 om) (by simp only [List.all_cons, List.all_nil, ha.one, Bool.and_true, Bool.and_self] <;> rfl) rfl rfl ?_)
 intro w21 hB6 k21 hs7
 have hb19 := belowa hb18 k21
 refine Zg (Zd (Zh (Zb (st (Zn Zbr rfl (st (Zt Zcd rfl (hB5.gne k21 om).range (j := 1) rfl (st (Zn Zbr rfl ?_)))))))))
 refine st (Zt Zcd rfl hB6.range (j := 1) rfl (st (Zq fn101 rfl (sub_any (n0 := n0) (Zu hn0 hb19) (((hb.at0 hb19)).unlocG hb19) (((ha.at0 hb19)).unlocG hb19) (by first | omega | (simp; done) | (simp; omega)) (by first | omega | (simp; done) | (simp; omega))) ?_)))
 rintro _ w22 ⟨hq6, v12, rfl, hS12⟩
 have k22 := Zi hq6 none
 have hz8 := hq6.size
 have hb20 := Zf hb19 k22
 have hz9 := hb20.size
 refine st (Zc rfl (st (Zad rfl rfl (st (Zad rfl rfl (st (Ze rfl (st (Ze rfl (Zg (Zd ?_)))))))))))
 refine Zh (Zb (st (Zn Zdh rfl (st (Zt Zeg rfl ((hB5.gne k21 om).g0 k22).range (j := 0) rfl (st (Zc rfl (st (Zq fn76 rfl (Zfq (m := nv (ml m) - nv (ml n)) (n0 := n0) (Zu hn0 hb20) hS12 (by first | omega | exact Zjq om | exact shrN_nn (by first | omega | exact Zap (Zem _)) | exact Zap (Zem _))) ?_)))))))))
 rintro _ w23 ⟨hq7, v13, rfl, hS13⟩
 have k23 := Zi hq7 none
 have hz10 := hq7.size
 have hb21 := Zf hb20 k23
 have hz11 := hb21.size
 refine st0 (Zv Zx rfl rfl (((((hB3.g0 k19).gne k20 om).gne k21 om).g0 k22).g0 k23) (by simp only [List.all_cons, List.all_nil, hS13.one, Bool.and_true, Bool.and_self] <;> rfl) rfl rfl ?_)
 intro w24 hB7 k24 hs8
 have hb22 := belowa hb21 k24
 refine Zg (Zd (Zcx rfl Zx rfl hB7.range rfl ?_))
 exact ⟨_, rfl, hb22, Zai ((sg_sub (fun e => by rw [e, beq_self_eq_true] at h1; cases h1) (Int.le_of_lt hc2)).trans (Int.add_comm m n)) (hS13.ggB k24 (((((hB3.g0 k19).gne k20 om).gne k21 om).g0 k22).g0 k23) dc om)⟩
theorem badd_any {w : World} {n0 : Nat} (hn0 : n0 ≤ w.heap.size)  {vn : Value} {n : Int} {vm : Value} {m : Int} (hn : Zbw 83 n0 w vn n) (hm : Zbw 83 n0 w vm m) (hbn : Bd 90000 n) (hbm : Bd 90000 m)  :
  Calls Try.prog 78 [vn, vm].toArray w (Zbh w fun v W => Zbw 83 n0 W v (n + m)) := by
 obtain ⟨sn, rfl, kn⟩ := hn
 obtain ⟨sm, rfl, km⟩ := hm
 exact badd_any0 hn0 kn km hbn hbm
set_option maxHeartbeats 1000000 in
theorem bpow_any {w : World} {n0 : Nat} (hn0 : n0 ≤ w.heap.size) {k : Int} :
  Calls Try.prog 42 [.int .i64 k].toArray w (Zbh w fun v W => Zbw 83 n0 W v (Zfm 1 k)) := by
 have hb0 := Below.refl w.heap.size w
 refine enter Try.func42 rfl rfl (Zh (Zb (st (Zan Zb3 ?_))))
 intro g1 w1 hg1 hB1 k1 hs1
 have hz1 := hb0.size
 have hb1 := Zf hb0 k1
 refine Zg (Zd (Zh (Zb (st (Zau (ps := [(0, .const (.int .u32 1))]) (ccs := [#[.int .u32 1]]) (e := 83) (cells := [.int .u32 1]) rfl rfl kr dc nz83 ?_)))))
 intro g2 w2 hg2 hB2 k2 hs2
 have hb2 := Zf hb1 k2
 have hz2 := hb2.size
 have hS1 := Ziw (F := fun _ => False) ([1] : List Int) hB2 (fun h => h) rfl (by first | decide | simp)
 refine st (Zc rfl (st (Zq fn77 rfl (shl_any (n0 := n0) (Zu hn0 hb2) (Sl.litG hB2 hS1) (by first | omega | (simp; done) | (simp; omega))) ?_)))
 rintro v1 w3 ⟨hq1, hS2⟩
 have k3 := Zi hq1 none
 have hz3 := hq1.size
 have hb3 := Zf hb2 k3
 have hz4 := hb3.size
 refine st (Zq fn76 rfl (Zfq (m := Zfm (nv ([1] : List Int)) k) (n0 := n0) (Zu hn0 hb3) (by have h9 := hS2; rw [shlL_tl] at h9; exact h9) (Zjq dc)) ?_)
 rintro _ w4 ⟨hq2, v2, rfl, hS3⟩
 have k4 := Zi hq2 none
 have hz5 := hq2.size
 have hb4 := Zf hb3 k4
 have hz6 := hb4.size
 refine st0 (Zv Zx rfl rfl (((hB1.g0 k2).g0 k3).g0 k4) (by simp only [List.all_cons, List.all_nil, hS3.one, Bool.and_true, Bool.and_self] <;> rfl) rfl rfl ?_)
 intro w5 hB3 k5 hs3
 have hb5 := belowa hb4 k5
 refine Zg (Zd (Zcx rfl Zx rfl hB3.range rfl ?_))
 exact ⟨_, rfl, hb5, Zai (pow_val k) (hS3.ggB k5 (((hB1.g0 k2).g0 k3).g0 k4) dc om)⟩
end Go.Proofs.Ytfljelnfjbbknaa.Lm
