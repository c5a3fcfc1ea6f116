/- Part of the proof: a library for walks, plain laws, and functions' walks. -/
import Derived.Test.YtfljelnfjbbknaaM4
import Derived.Test.YtfljelnfjbbknaaRows
import Derived.Test.YtfljelnfjbbknaaM5
import Derived.Test.YtfljelnfjbbknaaM2
import Derived.ChangeMaps5
import Derived.OpenShut
import Derived.Test.YtfljelnfjbbknaaM3
set_option maxRecDepth 20000
set_option linter.unusedSimpArgs false
set_option linter.unusedVariables false
set_option maxRecDepth 100000
namespace Go.Proofs.Ytfljelnfjbbknaa.Lm
open Go.RowKit Go.Gw
theorem Za7 : SlF Try.prog 22 101 5 40 (.agg #[.int .i64 0, .int .i64 0, .int .i64 0, .int .i64 0, .int .i64 0]) := ⟨by kernel_rfl, by kernel_rfl, rfl, by decide⟩
theorem Za9 : RowF Try.prog 101 5 := ⟨by kernel_rfl⟩
theorem Zdd : ZeroF Try.prog 101 #[.int .i64 0, .int .i64 0, .int .i64 0, .int .i64 0, .int .i64 0] := ⟨by kernel_rfl⟩
theorem Za6 : FieldF Try.prog 101 0 0 := ⟨by kernel_rfl⟩
theorem fn42 : FunF Try.prog 42 := ⟨_, _, Try.func42, by decide +kernel, rfl⟩
theorem Za5 : FieldF Try.prog 101 1 1 := ⟨by kernel_rfl⟩
theorem row99 : RowF Try.prog 99 4 := ⟨by kernel_rfl⟩
theorem Zcq : ArrF Try.prog 99 4 3 1 := ⟨by kernel_rfl, by kernel_rfl⟩
theorem Zdy : FieldF Try.prog 25 0 0 := ⟨by kernel_rfl⟩
theorem Zcu : OneF Try.prog 22 := ⟨by kernel_rfl⟩
theorem Za8 : RowF Try.prog 25 1 := ⟨by kernel_rfl⟩
theorem fn43 : FunF Try.prog 43 := ⟨_, _, Try.func43, by decide +kernel, rfl⟩
theorem fn24 : FunF Try.prog 24 := ⟨_, _, Try.func24, by decide +kernel, rfl⟩
theorem fn47 : FunF Try.prog 47 := ⟨_, _, Try.func47, by decide +kernel, rfl⟩
theorem fn23 : FunF Try.prog 23 := ⟨_, _, Try.func23, by decide +kernel, rfl⟩
theorem Zca : FieldF Try.prog 47 1 2 := ⟨by kernel_rfl⟩
theorem Zbt : FieldF Try.prog 47 0 0 := ⟨by kernel_rfl⟩
theorem Zcp : SlF Try.prog 39 47 5 72 (.agg #[.bool false, .slice none 0 0, .bool false, .slice none 0 0, .int .u8 0]) := ⟨by kernel_rfl, by kernel_rfl, rfl, by decide⟩
theorem Zim : RowF Try.prog 47 5 := ⟨by kernel_rfl⟩
theorem fn52 : FunF Try.prog 52 := ⟨_, _, Try.func52, by decide +kernel, rfl⟩
theorem nz47 : ∃ ie, Try.prog.info? 47 = some ie ∧ 0 < ie.size := nz_of (by kernel_rfl)
theorem Zgx : FieldF Try.prog 47 2 4 := ⟨by kernel_rfl⟩
theorem one5 : OneF Try.prog 5 := ⟨by kernel_rfl⟩
theorem fn71 : FunF Try.prog 71 := ⟨_, _, Try.func71, by decide +kernel, rfl⟩
theorem Zih : ∃ ie, Try.prog.info? 101 = some ie ∧ 0 < ie.size := nz_of (by kernel_rfl)
theorem Zfg : ZeroF Try.prog 25 #[.slice none 0 0] := ⟨by kernel_rfl⟩
theorem fn27 : FunF Try.prog 27 := ⟨_, _, Try.func27, by decide +kernel, rfl⟩
theorem fn19 : FunF Try.prog 19 := ⟨_, _, Try.func19, by decide +kernel, rfl⟩
theorem fn70 : FunF Try.prog 70 := ⟨_, _, Try.func70, by decide +kernel, rfl⟩
theorem fn11 : FunF Try.prog 11 := ⟨_, _, Try.func11, by decide +kernel, rfl⟩
theorem fn26 : FunF Try.prog 26 := ⟨_, _, Try.func26, by decide +kernel, rfl⟩
theorem fn36 : FunF Try.prog 36 := ⟨_, _, Try.func36, by decide +kernel, rfl⟩
end Go.Proofs.Ytfljelnfjbbknaa.Lm
namespace Go.Proofs.Ytfljelnfjbbknaa
open Go.ChangeShapes Go.WideShapes Go.ChangeAt Go.RowKit Go.Gw
theorem ownTry : ownKnob Try.prog.godebug = none := by kernel_rfl
theorem laidTry : laidOutB Try.prog = true := by kernel_rfl
theorem cellF : CellF Try.prog 47 31 4 29 83 5 := ⟨by kernel_rfl, ⟨by kernel_rfl, by kernel_rfl, by kernel_rfl, by kernel_rfl, by kernel_rfl, by kernel_rfl, by kernel_rfl, by kernel_rfl⟩, by kernel_rfl, by kernel_rfl, by kernel_rfl⟩
theorem cellsArg {H : Type} {enc : TypeId × Value → H} {w : World} {r : Reach} {b0 : Nat} {v : Value} {d : DataW H} {p : List MemPlace} (hv : Value.okWide Try.prog w r b0 39 v) (h : DataW.Trod enc Try.prog w 0 (fun _ => true) true 39 v d p) :
    ∃ l : List RCl, Sl (Kd.rcell 83 w.heap.size) w (fun _ => False) v l := cells_arg (by kernel_rfl) cellF hv h
theorem cellArg {H : Type} {enc : TypeId × Value → H} {w : World} {r : Reach} {b0 : Nat} {v : Value} {d : DataW H} {p : List MemPlace} (hv : Value.okWide Try.prog w r b0 47 v) (h : DataW.Trod enc Try.prog w 0 (fun _ => true) true 47 v d p) :
    ∃ (xn : Bool) (a : Value) (xs : List Int) (yn : Bool) (b : Value) (ys : List Int) (st : Int), v = .agg [.bool xn, a, .bool yn, b, .int .u8 st].toArray ∧ Sl Kd.u32 w (fun _ => False) a xs ∧ Sl Kd.u32 w (fun _ => False) b ys ∧ 0 ≤ st ∧ st ≤ 255 := cell_arg cellF hv h
end Go.Proofs.Ytfljelnfjbbknaa
namespace Go.Gw
open Go.RowKit
def Zcz (l o : List Nd) (i : Int) : Bool := decide ((vis (tr l i) o).1 = o)
theorem settled_up {l o p : List Nd} {i : Int} (h : Zcz l o i = true) (hp : o <+: p) : Zcz l p i = true := by
  unfold Zcz at *
  rw [decide_eq_true_eq] at *
  rw [Zdi (tr l i) (by rw [h]; exact hp)]
def cntS (l o : List Nd) : Nat := (List.range (l.length + 1)).countP fun (i : Nat) => Zcz l o i
theorem countP_le {α : Type} {p q : α → Bool} : ∀ {xs : List α}, (∀ x, p x = true → q x = true) → xs.countP p ≤ xs.countP q
  | [], _ => Nat.le_refl _
  | x :: r, h => by
    have ih := countP_le (xs := r) h
    rw [List.countP_cons, List.countP_cons]
    by_cases hp : p x = true
    · rw [if_pos hp, if_pos (h x hp)]; omega
    · rw [if_neg hp]; omega
theorem Zk8 {α : Type} {p q : α → Bool} : ∀ {xs : List α}, (∀ x, p x = true → q x = true) → (∃ x ∈ xs, p x = false ∧ q x = true) → xs.countP p + 1 ≤ xs.countP q
  | [], _, h => by obtain ⟨x, hx, _⟩ := h; cases hx
  | y :: r, h, he => by
    rw [List.countP_cons, List.countP_cons]
    obtain ⟨x, hx, h1, h2⟩ := he
    rcases List.mem_cons.1 hx with rfl | hx
    · have := countP_le (xs := r) h
      rw [if_neg (by rw [h1]; decide), if_pos h2]; omega
    · have ih := Zk8 (xs := r) h ⟨x, hx, h1, h2⟩
      by_cases hp : p y = true
      · rw [if_pos hp, if_pos (h y hp)]; omega
      · rw [if_neg hp]; omega
theorem cntS_lt {l o p : List Nd} {n : Int} (hp : o <+: p) (h0 : 0 ≤ n) (h1 : n ≤ l.length) (hn : Zcz l o n = false) (hs : Zcz l p n = true) : cntS l o + 1 ≤ cntS l p :=
  Zk8 (fun i h => settled_up h hp) ⟨n.toNat, by rw [List.mem_range]; omega, by rw [show ((n.toNat : Nat) : Int) = n by omega]; exact hn, by rw [show ((n.toNat : Nat) : Int) = n by omega]; exact hs⟩
theorem vis_cnt {l : List Nd} (hl : Zah l = true) : ∀ n : Int, 0 ≤ n → n ≤ l.length → ∀ o : List Nd, (vis (tr l n) o).1.length + cntS l o ≤ o.length + cntS l (vis (tr l n) o).1 := by
  have self : ∀ (n : Int) (o : List Nd), Zcz l (vis (tr l n) o).1 n = true := fun n o => by unfold Zcz; rw [Zgo]; exact decide_eq_true rfl
  have stay : ∀ {n : Int} {o : List Nd}, Zcz l o n = true → (vis (tr l n) o).1.length + cntS l o ≤ o.length + cntS l (vis (tr l n) o).1 := fun {n o} h => by
    unfold Zcz at h; rw [decide_eq_true_eq] at h; rw [h]; exact Nat.le_refl _
  refine Ziy hl _ (fun o => by rw [Zdf]; exact Nat.le_refl _) (fun n h0 h1 hv o => ?_) (fun n h0 h1 hv q0 q1 q2 q3 o => ?_)
  · by_cases hs : Zcz l o n = true
    · exact stay hs
    · have c := cntS_lt (Zbk (tr l n) o) (by omega) h1 (by simpa using hs) (self n o)
      have e : (vis (tr l n) o).1.length ≤ o.length + 1 := by rw [Zei hl h0 h1 hv]; exact Zj8 _ _
      omega
  · by_cases hs : Zcz l o n = true
    · exact stay hs
    · have p0 := Zbk (tr l (ix l (n - 1)).k0) o
      have c0 := q0 o
      have p1 := Zbk (tr l (ix l (n - 1)).k1) (vis (tr l (ix l (n - 1)).k0) o).1
      have c1 := q1 (vis (tr l (ix l (n - 1)).k0) o).1
      have p2 := Zbk (tr l (ix l (n - 1)).k2) (vis (tr l (ix l (n - 1)).k1) (vis (tr l (ix l (n - 1)).k0) o).1).1
      have c2 := q2 (vis (tr l (ix l (n - 1)).k1) (vis (tr l (ix l (n - 1)).k0) o).1).1
      have p3 := Zbk (tr l (ix l (n - 1)).k3) (vis (tr l (ix l (n - 1)).k2) (vis (tr l (ix l (n - 1)).k1) (vis (tr l (ix l (n - 1)).k0) o).1).1).1
      have c3 := q3 (vis (tr l (ix l (n - 1)).k2) (vis (tr l (ix l (n - 1)).k1) (vis (tr l (ix l (n - 1)).k0) o).1).1).1
      have sf := self n o
      rw [Zfq hl h0 h1 hv] at sf ⊢
      simp only [vis] at sf ⊢
      revert p3 c3 sf
      generalize hO : (vis (tr l (ix l (n - 1)).k3) (vis (tr l (ix l (n - 1)).k2) (vis (tr l (ix l (n - 1)).k1) (vis (tr l (ix l (n - 1)).k0) o).1).1).1).1 = O4
      intro p3 c3 sf
      by_cases h4 : Zcz l O4 n = true
      · 
        have pre := p0.trans (p1.trans (p2.trans p3))
        have e4 : (vis (tr l n) O4).1 = O4 := by unfold Zcz at h4; simpa using h4
        rw [Zfq hl h0 h1 hv] at e4
        simp only [vis] at e4
        have s0 := Zdi (tr l (ix l (n - 1)).k0) (o := o) (p := O4) (p1.trans (p2.trans p3))
        have s1 := Zdi (tr l (ix l (n - 1)).k1) (o := (vis (tr l (ix l (n - 1)).k0) o).1) (p := O4) (p2.trans p3)
        have s2 := Zdi (tr l (ix l (n - 1)).k2) (o := (vis (tr l (ix l (n - 1)).k1) (vis (tr l (ix l (n - 1)).k0) o).1).1) (p := O4) p3
        have s3 := Zdi (tr l (ix l (n - 1)).k3) (o := (vis (tr l (ix l (n - 1)).k2) (vis (tr l (ix l (n - 1)).k1) (vis (tr l (ix l (n - 1)).k0) o).1).1).1) (p := O4) (by rw [hO]; exact List.prefix_refl _)
        rw [s0] at e4; simp only at e4
        rw [s1] at e4; simp only at e4
        rw [s2] at e4; simp only at e4
        rw [s3] at e4; simp only at e4
        rw [e4]
        omega
      · have c := cntS_lt (n := n) (Ze7 O4 _) (by omega) h1 (by simpa using h4) sf
        have e := Zj8 O4 (⟨(ix l (n - 1)).lv, (vis (tr l (ix l (n - 1)).k0) o).2, (vis (tr l (ix l (n - 1)).k1) (vis (tr l (ix l (n - 1)).k0) o).1).2, (vis (tr l (ix l (n - 1)).k2) (vis (tr l (ix l (n - 1)).k1) (vis (tr l (ix l (n - 1)).k0) o).1).1).2, (vis (tr l (ix l (n - 1)).k3) (vis (tr l (ix l (n - 1)).k2) (vis (tr l (ix l (n - 1)).k1) (vis (tr l (ix l (n - 1)).k0) o).1).1).1).2⟩ : Nd)
        omega
theorem canT_len {l : List Nd} (hl : Zah l = true) {n : Int} (h0 : 0 ≤ n) (h1 : n ≤ l.length) : (canT (tr l n)).length ≤ l.length := by
  have h := vis_cnt hl n h0 h1 []
  unfold canT
  have c : cntS l (vis (tr l n) []).1 ≤ l.length + 1 := by unfold cntS; have := List.countP_le_length (p := fun i : Nat => Zcz l (vis (tr l n) []).1 i) (l := List.range (l.length + 1)); rwa [List.length_range] at this
  have z : 1 ≤ cntS l [] := by
    have := Zk8 (p := fun _ : Nat => false) (q := fun i : Nat => Zcz l [] i) (xs := List.range (l.length + 1)) (fun _ h => by cases h) ⟨0, by rw [List.mem_range]; omega, rfl, by
      show Zcz l [] ((0 : Nat) : Int) = true
      unfold Zcz; rw [show ((0 : Nat) : Int) = 0 from rfl, Zdf]; rfl⟩
    unfold cntS; omega
  simp only [List.length_nil] at h
  omega
theorem shrF_laid : ∀ (f : Nat) {l : List Nd} {n : Int}, Zah l = true → 0 ≤ n → n ≤ l.length → lvT (tr l n) ≤ f → ∃ (L : List Nd) (m : Int), Zah L = true ∧ (0 ≤ m ∧ m ≤ L.length) ∧ tr L m = shrF f (tr l n) ∧ L.length ≤ l.length + f
  | 0, l, n, hl, h0, h1, _ => ⟨l, n, hl, ⟨h0, h1⟩, rfl, Nat.le_refl _⟩
  | f + 1, l, n, hl, h0, h1, hf => by
    unfold shrF
    by_cases hh : hol (tr l n) = true
    · rw [if_pos hh]
      have hn : 1 ≤ n := by
        have : n ≠ 0 := fun e => by rw [e, Zdf] at hh; cases hh
        omega
      have hv : (ix l (n - 1)).lv ≠ 1 := fun e => by rw [Zei hl hn h1 e] at hh; cases hh
      have e := inn_tr hl hn h1 hv
      have hlv := Zfd hl (i := n - 1) (by omega) (by omega)
      have hl2 : lvT (tr (l ++ [Zd2 l n]) ((l.length : Int) + 1)) ≤ f := by
        rw [e, Zfq hl hn h1 hv]
        rw [Zfq hl hn h1 hv] at hf
        simp only [lvT] at hf
        by_cases h2 : (ix l (n - 1)).lv = 2
        · simp only [inn, if_pos h2, lvT]; omega
        · simp only [inn, if_neg h2, lvT]; omega
      obtain ⟨L, m, a, b, c, d⟩ := shrF_laid f (Zi4 hl hn h1 hv) (by omega) (by simp) hl2
      exact ⟨L, m, a, b, by rw [c, e], by simp at d; omega⟩
    · rw [if_neg hh]
      exact ⟨l, n, hl, ⟨h0, h1⟩, rfl, by omega⟩
theorem lvT_le {t : Tr} {v : Int} (h : wf v t) : lvT t ≤ 1329 := by
  cases t with
  | no => exact Nat.zero_le _
  | leaf a b c d => show 1 ≤ 1329; omega
  | nd u a b c d => obtain ⟨rfl, _, h3, _⟩ := h; simp only [lvT]; omega
theorem ofL_len (l : List Nd) (n : Int) : (ofL l n).1.length ≤ l.length + 1330 := by
  unfold ofL
  split
  · rename_i hc
    obtain ⟨hl, h0, h1⟩ := hc
    show (canT (Zg7 (tr l n))).length ≤ _
    unfold Zg7
    split
    · show ([] : List Nd).length ≤ _; simp
    · have hw := lvT_le (Zil hl n h0 h1 _ (fun _ => rfl))
      obtain ⟨L, m, a, b, c, d⟩ := shrF_laid (lvT (tr l n)) hl h0 h1 (Nat.le_refl _)
      unfold shr
      rw [← c]
      have := canT_len a b.1 b.2
      omega
  · simp
theorem ofCells_len (cs : List Cl) : (Zdx cs).1.length ≤ 1329 * cs.length + 1330 := by
  unfold Zdx
  split
  · simp
  · rename_i h
    have h1 := ofL_len (Zcn (Zbw (Zbb cs)).toNat (-(hf (Zbw (Zbb cs)))) (-(hf (Zbw (Zbb cs)))) (Zbb cs) []).1 (Zcn (Zbw (Zbb cs)).toNat (-(hf (Zbw (Zbb cs)))) (-(hf (Zbw (Zbb cs)))) (Zbb cs) []).2
    have h2 := Zhd (Zbw (Zbb cs)).toNat (-(hf (Zbw (Zbb cs)))) (-(hf (Zbw (Zbb cs)))) (Zbb cs) []
    have h3 := Nat.mul_le_mul (show (Zbw (Zbb cs)).toNat ≤ 1329 by omega) (lastL_len cs)
    simp only [List.length_nil] at h2
    omega
end Go.Gw
namespace Go.Gw
open Go.RowKit
theorem rcell_st {U n0 : Nat} {w : World} {F : Nat → Prop} {va : Value} {l : List RCl} (h : Sl (Kd.rcell U n0) w F va l) : StB (l.map Zr) := by
  intro c hc
  obtain ⟨r, hr, rfl⟩ := List.mem_map.1 hc
  obtain ⟨i, hi, rfl⟩ := List.getElem_of_mem hr
  obtain ⟨A, m, e, h1, h2, h3⟩ := h
  obtain ⟨g, o, us, _, _, _, ⟨a, b, _, _, _, h4, h5⟩, _⟩ := h3 i _ (List.getElem?_eq_getElem hi)
  exact ⟨h4, h5⟩
structure QuadOk (l : List RCl) (m : Int) : Prop where
  can : Can (Zap l m).1
  cel : ∀ X Y : Int, Zbg (Zap l m).1 X Y = stL (l.map Zr) X Y
  all : ∀ c ∈ l, Ze9 c = true
  cb : CBd (l.map Zr)
  len : (l.length : Int) ≤ m
  nodes : (Zap l m).1.length ≤ 1329 * l.length + 1330
  st : StB (l.map Zr)
  fit : Zbw (Zbb (l.map Zr)) ≤ 1329
theorem quad_can {U n0 : Nat} {w : World} {F : Nat → Prop} {va : Value} {l : List RCl} {m : Int} (hl : Sl (Kd.rcell U n0) w F va l) : Can (Zap l m).1 := by
  unfold Zap
  split
  · exact Ze0
  · unfold ofR
    split
    · exact (Zl1 (rcell_st hl)).1
    · exact Ze0
theorem quad_ok {U n0 : Nat} {w : World} {F : Nat → Prop} {va : Value} {l : List RCl} {m : Int} (hl : Sl (Kd.rcell U n0) w F va l) (h : (Zap l m).2 = true) : QuadOk l m := by
  have hst := rcell_st hl
  have hs := Zl1 hst
  have hlen := ofCells_len (l.map Zr)
  have hc := quad_can (m := m) hl
  unfold Zap at h hc
  by_cases hg : Zfy l m = true
  · rw [if_pos hg] at h; cases h
  · rw [if_neg hg] at h hc
    obtain ⟨g1, g2⟩ := great_out hl (by simpa using hg)
    have h := of_decide_eq_true h
    have e : (Zap l m).1 = (ofR l).1 := by unfold Zap; rw [if_neg hg]
    by_cases ha : l.all Ze9 = true
    · have e2 : ofR l = Zdx (l.map Zr) := by unfold ofR; rw [if_pos ha]
      rw [e2] at h
      refine ⟨by rw [e, e2]; exact hs.1, fun X Y => by rw [e, e2]; exact (hs.2.1 h).2 X Y, List.all_eq_true.1 ha, g2, g1, by rw [e, e2]; rw [List.length_map] at hlen; exact hlen, hst, (hs.2.1 h).1⟩
    · exfalso; unfold ofR at h; rw [if_neg ha] at h; cases h
variable {l : List RCl} {m : Int}
theorem QuadOk.last (h : QuadOk l m) (X Y : Int) : Zbg (Zap l m).1 X Y = stA (Zbb (l.map Zr)) X Y := by rw [h.cel, (Zk7 (l.map Zr)).2.2]
theorem QuadOk.at (h : QuadOk l m) {c : Cl} (hc : c ∈ Zbb (l.map Zr)) : Zbg (Zap l m).1 c.x c.y ≠ 0 := by
  obtain ⟨s1, s2, _⟩ := Zk7 (l.map Zr)
  rw [h.last, stA_mem s1 hc]; exact s2 c hc
theorem QuadOk.nil (h : QuadOk l m) (h0 : ((Zbb (l.map Zr)).length : Int) = 0) : (Zap l m).1 = [] := by
  refine celQ_zero h.can fun X Y => ?_
  rw [h.last, List.eq_nil_of_length_eq_zero (show (Zbb (l.map Zr)).length = 0 by omega)]; rfl
theorem QuadOk.some (h : QuadOk l m) (h0 : ¬ ((Zbb (l.map Zr)).length : Int) = 0) : (bxs (Zap l m).1).some = true := by
  refine Classical.byContradiction fun hn => ?_
  have hq := box_no h.can (by simpa using hn)
  have := h.at (ix_memC (l := Zbb (l.map Zr)) (i := 0) (by omega) (by omega))
  rw [hq, celQ_nil] at this; exact this rfl
theorem QuadOk.rng (h : QuadOk l m) {b : Bx} (ha : Around (Zbg (Zap l m).1) b) {i : Int} (h0 : 0 ≤ i) (h1 : i < (Zbb (l.map Zr)).length) : (b.x ≤ (ix (Zbb (l.map Zr)) i).x ∧ (ix (Zbb (l.map Zr)) i).x < b.x + b.w) ∧ b.y ≤ (ix (Zbb (l.map Zr)) i).y ∧ (ix (Zbb (l.map Zr)) i).y < b.y + b.h :=
  ha.rng _ _ (h.at (ix_memC h0 h1))
theorem QuadOk.any (h : QuadOk l m) {p : Cl → Bool} (he : ∃ X Y, Zbg (Zap l m).1 X Y ≠ 0 ∧ ∀ c : Cl, c.x = X → c.y = Y → p c = true) : (Zbb (l.map Zr)).any p = true := by
  obtain ⟨X, Y, hc, hp⟩ := he
  rw [h.last] at hc
  obtain ⟨c, hm, e1, e2⟩ := stA_is hc
  exact List.any_eq_true.2 ⟨c, hm, hp c e1 e2⟩
theorem QuadOk.west (h : QuadOk l m) {b : Bx} (ha : Around (Zbg (Zap l m).1) b) : (Zbb (l.map Zr)).any (fun c => decide (c.x = b.x)) = true := by
  obtain ⟨Y, hY⟩ := ha.west; exact h.any ⟨_, _, hY, fun c e _ => decide_eq_true e⟩
theorem QuadOk.east (h : QuadOk l m) {b : Bx} (ha : Around (Zbg (Zap l m).1) b) : (Zbb (l.map Zr)).any (fun c => decide (c.x = b.x + b.w - 1)) = true := by
  obtain ⟨Y, hY⟩ := ha.east; exact h.any ⟨_, _, hY, fun c e _ => decide_eq_true e⟩
theorem QuadOk.north (h : QuadOk l m) {b : Bx} (ha : Around (Zbg (Zap l m).1) b) : (Zbb (l.map Zr)).any (fun c => decide (c.y = b.y)) = true := by
  obtain ⟨Y, hY⟩ := ha.north; exact h.any ⟨_, _, hY, fun c _ e => decide_eq_true e⟩
theorem QuadOk.south (h : QuadOk l m) {b : Bx} (ha : Around (Zbg (Zap l m).1) b) : (Zbb (l.map Zr)).any (fun c => decide (c.y = b.y + b.h - 1)) = true := by
  obtain ⟨Y, hY⟩ := ha.south; exact h.any ⟨_, _, hY, fun c _ e => decide_eq_true e⟩
end Go.Gw
namespace Go.Gw
open Go.RowKit
theorem Zkg {n : Int} (h : 0 ≤ n) : ((n.natAbs : Nat) : Int) = n := by omega
theorem spot_in {x y v : Int} (h : 1 ≤ v) : inC ⟨x, y, 0⟩ v = (!decide (x + hf v < 0) && !decide (y + hf v < 0) && decide (Zd4 (nv (ml (x + hf v))) ≤ v) && decide (Zd4 (nv (ml (y + hf v))) ≤ v)) := by
  have p := Zcv v
  unfold inC
  rw [Zc2, Zc2]
  by_cases hx : x + hf v < 0
  · rw [decide_eq_true hx]; simp; omega
  · by_cases hy : y + hf v < 0
    · rw [decide_eq_true hy]; simp; omega
    · rw [decide_eq_false hx, decide_eq_false hy, Zkg (by omega), Zkg (by omega)]
      have e1 := len_in (n := x + hf v) h (by omega)
      have e2 := len_in (n := y + hf v) h (by omega)
      simp only [Bool.not_false, Bool.true_and]
      rw [← Bool.decide_and]
      refine decide_eq_decide.2 ?_
      rw [e1, e2]
      omega
theorem kq_bits {A B v : Int} (h : 1 ≤ v) (hA : 0 ≤ A) (hB : 0 ≤ B) : kq v (A % (2 * hf v)) (B % (2 * hf v)) = (if Zeu (nv (ml A)) (v - 1) then 1 else 0) + (if Zeu (nv (ml B)) (v - 1) then 2 else 0) := by
  rw [Zc2, Zc2, Zkg hA, Zkg hB, bit_half h hA, bit_half h hB]
  unfold kq
  simp only [decide_eq_true_eq]
structure At (l : List Nd) (n A B C : Int) : Prop where
  r : 0 ≤ n ∧ n ≤ l.length
  no : n = 0 → C = 0
  yes : 0 < n → cat (tr l n) (A % (2 * hf (ix l (n - 1)).lv)) (B % (2 * hf (ix l (n - 1)).lv)) = C
theorem at_start {l : List Nd} (hl : l ≠ []) {x y : Int} (hin : inC ⟨x, y, 0⟩ (Zaq l) = true) : At l l.length (x + hf (Zaq l)) (y + hf (Zaq l)) (Zbg l x y) := by
  have h0 : l.length ≠ 0 := fun e => hl (List.eq_nil_of_length_eq_zero e)
  have hv : (ix l ((l.length : Int) - 1)).lv = Zaq l := by unfold Zaq; rw [if_neg h0]
  unfold inC at hin; rw [decide_eq_true_eq] at hin
  simp only at hin
  refine ⟨by omega, fun e => by omega, fun _ => ?_⟩
  rw [hv, Zi8 (by omega), Zi8 (by omega)]; rfl
theorem at_next {l : List Nd} (hl : Zah l = true) {n A B C : Int} (h : At l n A B C) (h0 : 0 < n) (hv : (ix l (n - 1)).lv ≠ 1) : At l ((ix l (n - 1)).kid (kq (ix l (n - 1)).lv (A % (2 * hf (ix l (n - 1)).lv)) (B % (2 * hf (ix l (n - 1)).lv)))) A B C := by
  have hr := h.r
  have hlv := Zfd hl (i := n - 1) (by omega) (by omega)
  have hk := Zij (ix l (n - 1)).lv (A % (2 * hf (ix l (n - 1)).lv)) (B % (2 * hf (ix l (n - 1)).lv))
  have hc := h.yes h0
  rw [get_nd hl (by omega) hr.2 hv, Zkr (by omega), Zkr (by omega)] at hc
  have kr := Zdg hl (i := n - 1) (by omega) (by omega) hv _ hk.1 hk.2
  refine ⟨⟨kr.1, by omega⟩, fun e => ?_, fun hp => ?_⟩
  · rw [e, Zdf] at hc; exact hc.symm
  · have e := Zdl hl (i := n - 1) (by omega) (by omega) hk.1 hk.2 hv (by omega)
    rw [e.2.2]; exact hc
theorem at_leaf {l : List Nd} (hl : Zah l = true) {n A B C : Int} (h : At l n A B C) (h0 : 0 < n) (hv : (ix l (n - 1)).lv = 1) : (ix l (n - 1)).kid (kq (ix l (n - 1)).lv (A % (2 * hf (ix l (n - 1)).lv)) (B % (2 * hf (ix l (n - 1)).lv))) = C ∧ 0 ≤ C ∧ C ≤ 255 := by
  have hr := h.r
  have hc := h.yes h0
  have rA := mod_rng (a := A) (v := (ix l (n - 1)).lv)
  have rB := mod_rng (a := B) (v := (ix l (n - 1)).lv)
  have hk := Zij (ix l (n - 1)).lv (A % (2 * hf (ix l (n - 1)).lv)) (B % (2 * hf (ix l (n - 1)).lv))
  have hv' := hv
  rw [hv] at hc rA rB hk ⊢
  rw [Zhy] at hc rA rB hk ⊢
  rw [get_leaf hl (by omega) hr.2 hv rA rB] at hc
  refine ⟨hc, ?_⟩
  have hn : NumIn l n 1 := ⟨hr, fun _ => hv⟩
  have hs := here_st hl hn hk.1 hk.2
  unfold Zq at hs
  rw [if_pos h0, hc] at hs
  exact hs
theorem get_none {l : List Nd} (h : Can l) {x y : Int} (hin : inC ⟨x, y, 0⟩ (Zaq l) = false) : Zbg l x y = 0 := celQ_out h fun hn => by
  unfold inC at hin; rw [decide_eq_false_iff_not] at hin; exact hin hn
theorem spot_pos {x y v : Int} (h : inC ⟨x, y, 0⟩ v = true) : 0 ≤ x + hf v ∧ 0 ≤ y + hf v := by
  unfold inC at h; rw [decide_eq_true_eq] at h; simp only at h; omega
theorem Zds {l : List Nd} (h : Can l) (x y : Int) : 0 ≤ Zbg l x y ∧ Zbg l x y ≤ 255 := by
  have : ∀ (t : Tr) {v X Y : Int}, wf v t → 0 ≤ cat t X Y ∧ cat t X Y ≤ 255 := by
    intro t
    induction t with
    | no => intro v X Y _; exact ⟨Int.le_refl _, by show (0 : Int) ≤ 255; decide⟩
    | leaf a b c d => intro v X Y hw; obtain ⟨_, ha, hb, hc, hd⟩ := hw; simp only [cat]; (repeat' split) <;> first | assumption | omega
    | nd u a b c d ia ib ic id =>
      intro v X Y hw
      obtain ⟨rfl, _, _, ha, hb, hc, hd⟩ := hw
      simp only [cat]
      split
      · split
        · exact ia ha
        · exact ic hc
      · split
        · exact ib hb
        · exact id hd
  exact this _ h.wf
end Go.Gw
namespace Go.Proofs.Ytfljelnfjbbknaa.Lm
open Go.RowKit Go.Gw
theorem zero89 : ZeroF Try.prog 89 #[.slice none 0 0, .slice none 0 0] := ⟨by kernel_rfl⟩
theorem fn89 : FunF Try.prog 89 := ⟨_, _, Try.func89, by decide +kernel, rfl⟩
theorem Zgq : RowF Try.prog 89 2 := ⟨by kernel_rfl⟩
theorem arr89 : ArrF Try.prog 89 2 29 1 := ⟨by kernel_rfl, by kernel_rfl⟩
theorem fn95 : FunF Try.prog 95 := ⟨_, _, Try.func95, by decide +kernel, rfl⟩
theorem fn58 : FunF Try.prog 58 := ⟨_, _, Try.func58, by decide +kernel, rfl⟩
theorem fn65 : FunF Try.prog 65 := ⟨_, _, Try.func65, by decide +kernel, rfl⟩
theorem Zgz : FieldF Try.prog 95 0 0 := ⟨by kernel_rfl⟩
theorem fld95_1 : FieldF Try.prog 95 1 1 := ⟨by kernel_rfl⟩
theorem fld95_2 : FieldF Try.prog 95 2 3 := ⟨by kernel_rfl⟩
theorem fn60 : FunF Try.prog 60 := ⟨_, _, Try.func60, by decide +kernel, rfl⟩
theorem fn30 : FunF Try.prog 30 := ⟨_, _, Try.func30, by decide +kernel, rfl⟩
theorem fn59 : FunF Try.prog 59 := ⟨_, _, Try.func59, by decide +kernel, rfl⟩
theorem fn61 : FunF Try.prog 61 := ⟨_, _, Try.func61, by decide +kernel, rfl⟩
theorem fn28 : FunF Try.prog 28 := ⟨_, _, Try.func28, by decide +kernel, rfl⟩
theorem fn33 : FunF Try.prog 33 := ⟨_, _, Try.func33, by decide +kernel, rfl⟩
theorem fn35 : FunF Try.prog 35 := ⟨_, _, Try.func35, by decide +kernel, rfl⟩
theorem fn25 : FunF Try.prog 25 := ⟨_, _, Try.func25, by decide +kernel, rfl⟩
theorem fn32 : FunF Try.prog 32 := ⟨_, _, Try.func32, by decide +kernel, rfl⟩
theorem fn18 : FunF Try.prog 18 := ⟨_, _, Try.func18, by decide +kernel, rfl⟩
end Go.Proofs.Ytfljelnfjbbknaa.Lm
namespace Go.Proofs.Ytfljelnfjbbknaa.Lm
open Go.RowKit Go.Gw
theorem back_stops {w00 w0 : World} {F : Nat → Prop} {v : Value} {xs : List Int} {gb : Nat} (hS : Sl Kd.u32 w00 F v xs) (hB0 : Below w00.heap.size w00 w0) (hbk0 : Blk w0 gb 29 #[v]) :
    SeqStopsK Fence.wide 9 Try.prog 114 #[.pointer (some ⟨gb, 0, none⟩)] (encL (xs := xs)) (KpL gb w00.heap.size) (fun ys => ys.map (·.1) = bkt xs xs.length) (fun pre => ∃ k, k ≤ xs.length ∧ pre.map (·.1) = bkt xs k) xs.length w0 := by
  intro l J Jx w hW hJa hJxa hY h0
  have hln1 := hS.lenle
  have hb0 := hB0.trans (hW.mono hB0.size)
  have hbk : Blk w gb 29 [v].toArray := (hW.block gb hbk0.lt).trans hbk0
  rw [show (#[Value.func (.yield l) #[] #[]] ++ #[Value.pointer (some ⟨gb, 0, none⟩)] : Array Value) = [.func (.yield l) #[] #[], .pointer (some ⟨gb, 0, none⟩)].toArray from rfl]
  have hz0 := hb0.size
  refine ienter Try.func114 rfl rfl (Zjo (Zen (ist (Zs Zbz rfl hbk.range (j := 0) rfl (ist (Zar Zbq rfl (hS.at0 hb0) (ist (Zbh rfl rfl (by omega) (ist (Ze rfl ?_))))))))))
  refine Ziu (Ze5 (i_block (i_loop (α := Int) (fun (i : Int) => [(0, .func (.yield l) #[] #[]), (1, .pointer (some ⟨gb, 0, none⟩)), (3, .int .i64 i)]) (fun (i : Int) W => Below w00.heap.size w00 W ∧ (-1 ≤ i ∧ i < xs.length) ∧ (∃ pre : List (LX xs), J pre W ∧ pre.map (·.1) = bkt xs ((xs.length : Int) - 1 - i).toNat) ∧ (Blk W gb 29 [v].toArray)) (fun (i : Int) => (i + 1).toNat) ((xs.length : Int) - 1) ⟨hb0, by omega, ⟨[], h0, by rw [show ((xs.length : Int) - 1 - ((xs.length : Int) - 1)).toNat = 0 by omega]; rfl⟩, hbk⟩ (by exact ⟨rfl, rfl, rfl, trivial⟩) ?_)))
  rintro i w1 ⟨hb1, hi, hJ, hBl1⟩
  have hz1 := hb1.size
  refine Zjo (Zjo (Zen (ist (Zc rfl (ist (s_ge rfl rfl (Ziu (Ze5 ?_))))))))
  refine i_condP rfl (fun h1 => ?_) (fun h1 => ?_)
  rotate_left
  · refine i_exit' (Zk (Zk (Zt (n_end0 (fn := Try.f114) rfl ?_))))
    obtain ⟨pre, hJp, hpm⟩ := hJ
    exact ⟨⟨_, rfl⟩, .inl ⟨pre, by show List.map _ _ = _; rw [hpm, show ((xs.length : Int) - 1 - i).toNat = xs.length by omega], hJp⟩⟩
  refine i_skip' (Ze5 (Zjo (i_block (Zjo (Zen (ist (Zc rfl ?_)))))))
  refine ist (Zc rfl (ist (Zs Zbz rfl hBl1.range (j := 0) rfl (ist (Zc rfl (ist (Zaz Zbq rfl rfl (hS.at0 hb1) (by omega) (by omega) ?_)))))))
  rintro b1 o1 _ ⟨rfl, hr1⟩ hc1 hF1 hlt1
  have hl_1 := Loc.lt hF1
  refine ist (Zs Zc4 rfl hc1 (j := 0) rfl ?_)
  obtain ⟨pre, hJp, hpm⟩ := hJ
  have hpl := congrArg List.length hpm
  rw [List.length_map, bkt_len] at hpl
  have hY1 := hY pre ⟨(i, ix xs i), by show 0 ≤ i; omega, by show i < _; omega, rfl⟩ w1 hJp (by rw [hpl]; omega)
  refine i_yield rfl rfl hY1 ?_
  rintro _ W3 (⟨rfl, hJ3, hk3⟩ | ⟨rfl, hJ3⟩)
  · refine ⟨_, rfl, ?_⟩
    have hb2 := hb1.trans hk3.2
    have hbk1 := hBl1.kpl hk3
    have hz9 := hb2.size
    refine ist (Zdk rfl (Ziu (Ze5 (i_condF rfl (i_skip' (Zab (Ze5 ?_)))))))
    refine Zen (ist (Zc rfl (ist (Zbh rfl rfl (by omega) (ist (Ze rfl (Ziu ?_)))))))
    exact Zad ((i - 1)) ⟨hb2, by omega, ⟨pre ++ [_], hJ3, by rw [List.map_append, hpm, show ((xs.length : Int) - 1 - (i - 1)).toNat = ((xs.length : Int) - 1 - i).toNat + 1 by omega, bkt_succ, show (xs.length : Int) - 1 - (((xs.length : Int) - 1 - i).toNat : Nat) = i by omega]; rfl⟩, hbk1⟩ (by omega) (by exact ⟨rfl, rfl, rfl, trivial⟩)
  · refine ⟨_, rfl, ?_⟩
    refine ist (Zdk rfl (Ziu (Ze5 (i_condT rfl (i_ret (Zd7 (Zfi ?_)))))))
    refine Zfi (Zd7 (n_ret0 rfl ?_))
    exact ⟨⟨_, rfl⟩, .inr ⟨pre ++ [_], ⟨((xs.length : Int) - 1 - i).toNat + 1, by omega, by rw [List.map_append, hpm, bkt_succ, show (xs.length : Int) - 1 - (((xs.length : Int) - 1 - i).toNat : Nat) = i by omega]; rfl⟩, hJ3⟩⟩
set_option maxHeartbeats 1000000 in
theorem right_any {w : World} {a : Value} {xs : List Int} (ha : Sl Kd.u32 w (fun _ => False) a xs) :
    Calls Try.prog 111 [a].toArray w (Zbi w fun v _ => v = .bool (Zda xs)) := by
  have hb0 := Below.refl w.heap.size w
  have hln1 := ha.lenle
  refine enter Try.func111 rfl rfl (Zh (Zb (st (Ze rfl (Zg (Zd (Zh ?_)))))))
  refine Zb (st (Zc rfl (st (Zar Zbq rfl (ha.at0 hb0) (st (Zbr rfl rfl (st (Zc rfl ?_))))))))
  refine Za0 6 rfl (fun h1 => ?_) (fun h1 => ?_)
  · refine Zj rfl rfl (Zj rfl rfl (Zj rfl rfl (Zj rfl rfl (Zj rfl rfl (Zj rfl rfl (Zj rfl rfl ?_))))))
    refine st (Zo rfl rfl (st (Ze rfl (Zg (Zd (Zx rfl rfl ?_))))))
    exact ⟨_, rfl, hb0, by rw [right_nil h1]⟩
  refine stg (Zc rfl (stg (Zc rfl (stg (Zar Zbq rfl (ha.at0 hb0) (stg (Zbh rfl rfl (by omega) (stg (Zaz Zbq rfl rfl (ha.at0 hb0) (by omega) (by omega) ?_)))))))))
  rintro b1 o1 _ ⟨rfl, hr1⟩ hc1 hF1 hlt1
  have hl_1 := Loc.lt hF1
  refine stg (Zs Zc4 rfl hc1 (j := 0) rfl (stg (s_ne rfl rfl (st (Zo rfl rfl (st (Ze rfl (Zg (Zd (Zx rfl rfl ?_))))))))))
  exact ⟨_, rfl, hb0, by rw [right_ne h1]⟩
set_option maxHeartbeats 1000000 in
theorem rright_any {w : World} {a : Value} {xs : List Int} (ha : Sl Kd.u32 w (fun _ => False) a xs) :
    Calls Try.prog 57 [a].toArray w (Zbi w fun v _ => v = .bool (Zda xs)) := by
  have hb0 := Below.refl w.heap.size w
  have hln1 := ha.lenle
  refine enter Try.func57 rfl rfl (Zh (Zb (st (Ze rfl (Zg (Zd (Zh ?_)))))))
  refine Zb (st (Zc rfl (st (Zar Zbq rfl (ha.at0 hb0) (st (Zbr rfl rfl (st (Zc rfl ?_))))))))
  refine Za0 6 rfl (fun h1 => ?_) (fun h1 => ?_)
  · refine Zj rfl rfl (Zj rfl rfl (Zj rfl rfl (Zj rfl rfl (Zj rfl rfl (Zj rfl rfl (Zj rfl rfl ?_))))))
    refine st (Zo rfl rfl (st (Ze rfl (Zg (Zd (Zx rfl rfl ?_))))))
    exact ⟨_, rfl, hb0, by rw [right_nil h1]⟩
  refine stg (Zc rfl (stg (Zc rfl (stg (Zar Zbq rfl (ha.at0 hb0) (stg (Zbh rfl rfl (by omega) (stg (Zaz Zbq rfl rfl (ha.at0 hb0) (by omega) (by omega) ?_)))))))))
  rintro b1 o1 _ ⟨rfl, hr1⟩ hc1 hF1 hlt1
  have hl_1 := Loc.lt hF1
  refine stg (Zs Zc4 rfl hc1 (j := 0) rfl (stg (s_ne rfl rfl (st (Zo rfl rfl (st (Ze rfl (Zg (Zd (Zx rfl rfl ?_))))))))))
  exact ⟨_, rfl, hb0, by rw [right_ne h1]⟩
set_option maxHeartbeats 1000000 in
theorem Zg0 {w : World} {F : Nat → Prop} {a : Value} {xs : List Int} (ha : Sl Kd.u32 w F a xs) :
    Calls Try.prog 99 [a].toArray w (Zbi w fun v _ => Sl Kd.u32 w F v (tl (nv xs))) := by
  have hb0 := Below.refl w.heap.size w
  have hln1 := ha.lenle
  refine enter Try.func99 rfl rfl (Zh (Zb (st (Ze rfl (Zg (Zd (Zh ?_)))))))
  refine Zz (Za4 (α := Value × List Int) (fun ((v, ys) : Value × List Int) => [(0, v), (2, .slice none 0 0)]) (fun ((v, ys) : Value × List Int) W => Below w.heap.size w W ∧ (Sl Kd.u32 w F v ys) ∧ (nv ys = nv xs)) (fun ((v, ys) : Value × List Int) => ys.length) ((a), (xs)) ⟨hb0, ha, rfl⟩ (by exact ⟨rfl, rfl, trivial⟩) ?_)
  rintro ⟨v, ys⟩ w1 ⟨hb1, hv, hn⟩
  dsimp only at *
  have hz1 := hb1.size
  have hln9 := hv.lenle
  refine Zh (Zh (Zb (st (Zc rfl (st (Zp fn111 rfl (right_any ((hv.at0 hb1)).none) ?_))))))
  rintro _ w2 ⟨hq1, rfl⟩
  have k1 := Zi hq1 none
  have hz2 := hq1.size
  have hb2 := Zf hb1 k1
  have hz3 := hb2.size
  refine st (Zdk rfl (Zg (Zd ?_)))
  refine Zbd rfl (fun h1 => ?_) (fun h1 => ?_)
  rotate_left
  · have hc3 : Zda ys = true := by simpa using h1
    refine Zan (Zk (Zk (Zt (Zd (Zh (Zb ?_))))))
    refine st (Zc rfl (st (Ze rfl (Zg (Zd (Zx rfl rfl ?_))))))
    exact ⟨_, rfl, hb2, by rw [← hn, tl_nv (Zaw hv) hc3]; exact hv⟩
  have hc2 := nv_cut (by simpa using h1)
  refine Zn (Zd (Zz (Zb (st (Zc rfl (st (Zc rfl (st (Zar Zbq rfl (hv.at0 hb2) ?_)))))))))
  refine st (Zbh rfl rfl (by omega) (st (s_slhi Zbq rfl rfl (hv.at0 hb2) (by first | omega | (simp; omega)) (by first | omega | (simp; omega)) ?_)))
  intro v1 hS1
  refine st (Ze rfl (Zg (Zab ?_)))
  exact Zad ((v1), (ys.take (((ys.length : Int) - 1)).toNat)) ⟨hb2, (hS1).orig Zd9 hb2, by rw [show ((ys.length : Int) - 1).toNat = ys.length - 1 by omega]; exact hc2.2.trans hn⟩ (by simp; omega) (by exact ⟨rfl, rfl, trivial⟩)
set_option maxHeartbeats 1000000 in
theorem Zht {w : World} {a : Value} {xs : List Int} (ha : Sl Kd.u32 w (fun _ => False) a xs) (hlen : xs.length ≤ 1000000000) :
    Calls Try.prog 103 [a].toArray w (Zbi w fun v W => Gw.Own Kd.u32 83 w.heap.size W (fun _ => False) v xs) := by
  have hb0 := Below.refl w.heap.size w
  have hln1 := ha.lenle
  refine enter Try.func103 rfl rfl (Zh (Zb (st (Ze rfl (Zg (Zd (Zh ?_)))))))
  refine Zh (Zb (st (Zc rfl (st (s_slnil Zbq rfl rfl (ha.at0 hb0) (Zg (Zd ?_)))))))
  refine Zbd rfl (fun h1 => ?_) (fun h1 => ?_)
  · refine Zh (Zb (st (Ze rfl (Zg (Zd (Zx rfl rfl ?_))))))
    have e := Zl2 (ha.at0 hb0) h1
    subst e
    exact ⟨_, rfl, hb0, Own.nil _ _ _ _ _⟩
  refine Zn (Zd (Zh (Zb (st (Zlp (K := Kd.u32) (base := w.heap.size) (F := (fun _ => False)) Zbq (by omega) (fun _ h => h.elim) ?_)))))
  intro v1 w1 hO1 k1
  have hb1 := Zf hb0 k1
  have hz1 := hb1.size
  refine st (Zc rfl (st (Zbc (K := Kd.u32) Zbq rfl rfl hO1 ((ha.at0 hb1).weak (fun k hk h => h.elim (fun h => by first | exact h.elim | exact h | exact Or.inl h) (fun h => by have h9 := (hO1.lt k h).1; first | exact Or.inr h9 | (simp [Loc]; omega)))) u32_ones (by simp; omega) (by simp; omega) (by first | exact Nat.le_refl _ | omega) (fun _ h => h.elim) ?_)))
  intro v2 w2 hO2 k2 hr1
  rw [List.nil_append] at hO2
  have hb2 := hb1.grown k2 hb1.size (fun k_ hk_ => (hO1.lt k_ hk_).1)
  have hz2 := hb2.size
  refine st (Ze rfl (Zg (Zd (Zx rfl rfl ?_))))
  exact ⟨_, rfl, hb2, hO2⟩
set_option maxHeartbeats 1000000 in
theorem norm_any {w : World} {n0 : Nat} (hn0 : n0 ≤ w.heap.size) {a : Value} {xs : List Int} (ha : Sl Kd.u32 w (G 83 n0 w) a xs) (hlen : xs.length ≤ 1000000000) :
    Calls Try.prog 81 [a].toArray w (Zbi w fun v W => Sl Kd.u32 W (G 83 n0 W) v (tl (nv xs))) := by
  have hb0 := Below.refl w.heap.size w
  have hln1 := ha.lenle
  refine enter Try.func81 rfl rfl (Zh (Zb (st (Ze rfl (Zg (Zd (Zh ?_)))))))
  refine Zb (st (Zc rfl (st (Zp fn103 rfl (Zht ((ha.at0 hb0)).none (by first | omega | (simp; done) | (simp; omega))) ?_))))
  rintro v1 w1 ⟨hq1, hO2⟩
  have k1 := Zi hq1 none
  have hz1 := hq1.size
  have hb1 := Zf hb0 k1
  have hz2 := hb1.size
  have hO1 := hO2.rebase (b' := w.heap.size) (by omega)
  refine st (Zp fn99 rfl (Zg0 (hO1.slG (n0 := n0))) ?_)
  rintro v2 w2 ⟨hq2, hS1⟩
  have k2 := Zi hq2 none
  have hz3 := hq2.size
  have hb2 := Zf hb1 k2
  have hz4 := hb2.size
  have hS2 := hS1.gg0 k2
  refine st (Ze rfl (Zg (Zd (Zx rfl rfl ?_))))
  exact ⟨_, rfl, hb2, hS2⟩
set_option maxHeartbeats 1000000 in
theorem back_any {w : World} {a : Value} {xs : List Int} (ha : Sl Kd.u32 w (fun _ => False) a xs) :
    Calls Try.prog 104 [a].toArray w (Zbi w fun r W => ∃ gb, r = .func (.func 114) #[] #[.pointer (some ⟨gb, 0, none⟩)] ∧ w.heap.size ≤ gb ∧ Blk W gb 29 #[a]) := by
  have hb0 := Below.refl w.heap.size w
  have hln1 := ha.lenle
  refine enter Try.func104 rfl rfl (Zh (Zb (st (s_box1 rfl ha.cells1 ?_))))
  intro g1 w1 hg1 hB1 k1 hs1
  have hb1 := Zf hb0 k1
  refine st (Ze rfl (Zg (Zd (Zh (Zb (st (s_func rfl rfl (st (Ze rfl ?_)))))))))
  refine Zg (Zd (Zx rfl rfl ?_))
  exact ⟨_, rfl, hb1, _, rfl, by omega, hB1⟩
set_option maxHeartbeats 1000000 in
theorem cmp_any {w : World} {a b : Value} {xs ys : List Int} (ha : Sl Kd.u32 w (fun _ => False) a xs) (hb : Sl Kd.u32 w (fun _ => False) b ys) :
    Calls Try.prog 82 [a, b].toArray w (Zbi w fun v _ => v = .int .i64 (Zb1 (nv xs) (nv ys))) := by
  have hb0 := Below.refl w.heap.size w
  have hln1 := ha.lenle
  have hln2 := hb.lenle
  refine menter 10 Try.func82 rfl rfl (Zh (Zb (st (s_box1 rfl hb.cells1 ?_))))
  intro g1 w1 hg1 hB1 k1 hs1
  have hb1 := Zf hb0 k1
  refine st (Zat zero3 ?_)
  intro g2 w2 hg2 hB2 k2 hs2
  have hz1 := hb1.size
  have hb2 := Zf hb1 k2
  refine Zg (Zd (Zh ?_))
  refine w_drawE 5 (fun a b => a.grownBy b none) [(some 7, Is <| a), (some 8, fun v _ => Sl Kd.u32 w (fun _ => False) v (tl (nv xs))), (some 9, fun v _ => Sl Kd.u32 w (fun _ => False) v ys), (some 10, fun v _ => Sl Kd.u32 w (fun _ => False) v (tl (nv ys))), (some 0, fun v _ => Sl Kd.u32 w (fun _ => False) v (tl (nv xs)))] [[], [0], [], [2], [1]] [(3, .pointer (some ⟨g1, 0, none⟩)), (4, .pointer (some ⟨g2, 0, none⟩))] [(0, a)] [true, false, false, false, false] (by exact ⟨rfl, rfl, trivial⟩) (by exact ⟨rfl, trivial⟩) (by kernel_rfl) (by kernel_rfl) (by kernel_rfl) (by kernel_rfl) Za (fun _ _ _ => Zaa) ⟨kv, fun _ _ _ h _ => h, fun _ _ _ h _ => h, fun _ _ _ h _ => h, fun _ _ _ h _ => h, trivial⟩ ?_
  intro w5 k5 hs3
  have hb3 := Zf hb2 k5
  refine ⟨⟨?_, ?_, ?_, ?_, ?_, trivial⟩, ?_⟩
  · intro w6 k6
    refine op1 (Zc rfl ?_)
    exact ⟨rfl, Za _⟩
  · intro w7 k7
    have hb5 := Zf hb3 k7
    intro v_ hv_; subst v_
    refine op1 (Zp fn99 rfl (Zg0 (ha.at0 hb5)) ?_)
    rintro v3 w8 ⟨hq3, hS5⟩
    have hS6 := hS5.orig Zd9 hb5
    have k8 := Zi hq3 none
    have hz2 := hq3.size
    have hb6 := Zf hb5 k8
    have hz3 := hb6.size
    exact ⟨hS6, k8⟩
  · intro w9 k9
    refine op1 (Zs Zbz rfl (((hB1.g0 k2).g0 k5).g0 k9).range (j := 0) rfl ?_)
    exact ⟨hb, Za _⟩
  · intro w10 k10
    have hb8 := Zf hb3 k10
    intro v4 hS7
    refine op1 (Zp fn99 rfl (Zg0 (hS7.at0 hb8)) ?_)
    rintro v5 w11 ⟨hq4, hS8⟩
    have hS9 := hS8.orig Zd9 hb8
    have k11 := Zi hq4 none
    have hz4 := hq4.size
    have hb9 := Zf hb8 k11
    have hz5 := hb9.size
    exact ⟨hS9, k11⟩
  · intro w12 k12
    intro v6 hS10
    refine op1 (Ze rfl ?_)
    exact ⟨hS10, Za _⟩
  intro w13 k13
  have hb11 := Zf hb3 k13
  intro v_ hv_; subst v_
  rintro v7 hS11 v8 hS12 v9 hS13 v10 hS14
  refine st0 (Zdp Zbz rfl rfl (hS13.one) (((hB1.g0 k2).g0 k5).g0 k13) (of_decide_eq_true rfl) ?_)
  intro w14 hB3 k14 hs4
  have hb12 := Zv hb11 k14 (by first | omega | (have h9 := (hb11).size; omega))
  refine Zg (Zd (Zh (Zh (Zb (st (Zc rfl (st (Zar Zbq rfl (hS14.at0 hb12) ?_))))))))
  refine st (Zs Zbz rfl hB3.range (j := 0) rfl (st (Zar Zbq rfl (hS13.at0 hb12) (st (s_ne rfl rfl (Zg (Zd ?_)))))))
  refine Zw rfl (fun h1 => ?_) (fun h1 => ?_)
  · refine Zh (Zh (Zb (st (Zc rfl (st (Zar Zbq rfl (hS14.at0 hb12) (st (Zs Zbz rfl hB3.range (j := 0) rfl (st (Zar Zbq rfl (hS13.at0 hb12) ?_))))))))))
    refine st (Zbf rfl rfl (Zg (Zd ?_)))
    refine Zw rfl (fun h2 => ?_) (fun h2 => ?_)
    · refine Zh (Zb (st0 (Zdp Zbj rfl rfl rfl (((hB2.g0 k5).g0 k13).gne k14 (by omega)) (of_decide_eq_true rfl) ?_)))
      intro w15 hB4 k15 hs5
      have hb13 := Zv hb12 k15 (by first | omega | (have h9 := (hb12).size; omega))
      refine Zg (Zd (w_ret' (Zfi (Zfi ?_))))
      exact m_retc rfl Zbj rfl hB4 rfl ⟨_, rfl, hb13, by rw [cmpI_lt (cmp_len (Zam (Zaw ha)) (Zam (Zaw hb)) (by omega))]; rfl⟩
    refine Zn (Zd (Zh (Zb (st0 (Zdp Zbj rfl rfl rfl (((hB2.g0 k5).g0 k13).gne k14 (by omega)) (of_decide_eq_true rfl) ?_)))))
    intro w16 hB5 k16 hs6
    have hb14 := Zv hb12 k16 (by first | omega | (have h9 := (hb12).size; omega))
    refine Zg (Zd (w_ret' (Zfi ?_)))
    exact m_retc rfl Zbj rfl hB5 rfl ⟨_, rfl, hb14, by rw [cmpI_gt (cmp_len (Zam (Zaw hb)) (Zam (Zaw ha)) (by omega))]; rfl⟩
  refine Zn (Zd (Zh (Zh (Zb (st (Zc rfl (st (Zp fn104 rfl (back_any ((hS14.at0 hb12)).none) ?_))))))))
  rintro _ w17 ⟨hq5, gb1, rfl, hg3, hB6⟩
  have k17 := Zi hq5 none
  have hz6 := hq5.size
  have hb15 := Zf hb12 k17
  have hz7 := hb15.size
  refine Zg (Zd (Zz ?_))
  have hzz1 := k1.size
  have hzz2 := k2.size
  have hzz3 := k5.size
  have hzz4 := k13.size
  have hzz5 := k14.size
  have hzz6 := k17.size
  refine i_range (xs := (tl (nv xs))) (n0 := w.heap.size) rfl fn114 (back_stops hS14 hb15 hB6) (hB6.lt) (by omega) (fun pre W => (∀ p ∈ pre, p.1.2 = ix (tl (nv ys)) p.1.1) ∧ Below w.heap.size w W ∧ Blk W g2 3 #[.int .i64 0] ∧ Blk W g1 29 #[v9]) (fun c pre W => c = .ret ∧ ∃ (pre0 : List (LX (tl (nv xs)))) (x : LX (tl (nv xs))) (r : Int), pre = pre0 ++ [x] ∧ (∀ p ∈ pre0, p.1.2 = ix (tl (nv ys)) p.1.1) ∧ ((r = -1 ∧ x.1.2 < ix (tl (nv ys)) x.1.1) ∨ (r = 1 ∧ ix (tl (nv ys)) x.1.1 < x.1.2)) ∧ Below w.heap.size w W ∧ Blk W g2 3 #[.int .i64 r]) (fun s A B row h hg hr => ⟨h.1, Below.ownK h.2.1 (Nat.le_refl _) (by omega) hg hr, h.2.2.1.ownK hg hr, h.2.2.2.ownK hg hr⟩) (fun c s A B row h hg hr => by
      obtain ⟨rfl, pre0, x, r, e, h1, h2, h3, h4⟩ := h
      exact ⟨rfl, pre0, x, r, e, h1, h2, Below.ownK h3 (Nat.le_refl _) (by omega) hg hr, h4.ownK hg hr⟩) (⟨fun p hp => by (cases hp), hb15, ((((hB2.g0 k5).g0 k13).gne k14 (by omega)).g0 k17), (hB3.g0 k17)⟩) (fun x => [(3, .pointer (some ⟨g1, 0, none⟩)), (4, .pointer (some ⟨g2, 0, none⟩)), (5, .int .i64 x.1.1), (6, .int .u32 x.1.2), (22, .func (.func 114) #[] #[.pointer (some ⟨gb1, 0, none⟩)])]) (fun l x W => ?_) (fun l pre x W hl hi hlen => ?_) (fun Dk zs W hD hS hi hK => ?_) (fun Dk c pre W hD hS hi hK => ?_)
  · refine Zjo (Zen (ist (Ze rfl (Ziu (Ze5 (Zen (ist (Ze rfl ?_))))))))
    refine Ziu ?_
    exact n_set (by exact ⟨rfl, rfl, rfl, rfl, rfl, trivial⟩)
  · obtain ⟨hpe, hbW, hrW, hgW⟩ := hi
    have hzW := hbW.size
    obtain ⟨hx0, hx1, hx2⟩ := x.2
    refine i_block (i_block (Zjo (Zen (ist (Zc rfl (ist (Zs Zbz rfl hgW.range (j := 0) rfl (ist (Zc rfl ?_)))))))))
    refine ist (Zaz Zbq rfl rfl (hS13.at0 hbW) (by omega) (by omega) ?_)
    rintro b1 o1 _ ⟨rfl, hr1⟩ hc1 hF1 hlt1
    have hl_1 := Loc.lt hF1
    refine ist (Zs Zc4 rfl hc1 (j := 0) rfl (ist (Zbf rfl rfl (ist (Ze rfl (Ziu (Ze5 ?_)))))))
    refine i_condP rfl (fun h3 => ?_) (fun h3 => ?_)
    · refine Zjo (Zen (ist0 (Zdp Zbj rfl rfl rfl hrW (of_decide_eq_true rfl) ?_)))
      intro w18 hB7 k18 hs7
      have hb16 := Zv hbW k18 (by first | omega | (have h9 := (hbW).size; omega))
      clear hrW
      refine Ziu (Ze5 (i_ret (Zd7 (Zd7 ?_))))
      exact n_own_ret ⟨KeepsFrom.of_grownBy k18 (fun j e => by cases e; omega), rfl, pre, x, _, rfl, hpe, .inl ⟨rfl, by omega⟩, hb16, hB7⟩
    refine Zjo (Zen (ist (Zc rfl (ist (Zs Zbz rfl hgW.range (j := 0) rfl (ist (Zc rfl (ist (Zaz Zbq rfl rfl (hS13.at0 hbW) (by omega) (by omega) ?_)))))))))
    rintro b2 o2 _ ⟨rfl, hr2⟩ hc2 hF2 hlt2
    have hl_2 := Loc.lt hF2
    refine ist (Zs Zc4 rfl hc2 (j := 0) rfl (ist (Zcj rfl rfl (ist (Ze rfl (Ziu (Ze5 ?_)))))))
    refine i_condP rfl (fun h4 => ?_) (fun h4 => ?_)
    rotate_left
    · refine i_skip' (Zab (Zab ?_))
      exact n_own ⟨KeepsFrom.refl _ _, ⟨rfl, Below.refl _ _⟩, fun p hp => by
        rcases List.mem_append.1 hp with hp | hp
        · exact hpe p hp
        · rw [List.mem_singleton.1 hp]; omega, hbW, hrW, hgW⟩
    refine Zjo (Zen (ist0 (Zdp Zbj rfl rfl rfl hrW (of_decide_eq_true rfl) ?_)))
    intro w19 hB8 k19 hs8
    have hb17 := Zv hbW k19 (by first | omega | (have h9 := (hbW).size; omega))
    clear hrW
    refine Ziu (Ze5 (i_ret (Zd7 (Zd7 ?_))))
    exact n_own_ret ⟨KeepsFrom.of_grownBy k19 (fun j e => by cases e; omega), rfl, pre, x, _, rfl, hpe, .inr ⟨rfl, by omega⟩, hb17, hB8⟩
  · obtain ⟨hpe, hbW, hrW, hgW⟩ := hi
    have hzW := hbW.size
    have hneD : g2 ≠ Dk := by
      rintro rfl
      rw [show W.heap[_]? = _ from hrW] at hK
      cases hK
    refine Zab (Zd (Zh (Zb (st0 (Zdp Zbj rfl rfl rfl hrW (of_decide_eq_true rfl) ?_)))))
    intro w20 hB9 k20 hs9
    have hb18 := Zv hbW k20 (by first | omega | (have h9 := (hbW).size; omega))
    clear hrW
    refine Zg (Zd (w_ret' ?_))
    have hK2 := (k20.block Dk (Array.getElem?_eq_some_iff.1 hK).1 (fun e => hneD (by cases e; rfl))).trans hK
    exact m_retc' rfl Zbj rfl hB9 rfl hK2 ⟨_, rfl, Below.mark hb18 (Nat.le_refl _) (by omega) hK2, by rw [cmp_full (Zam (Zaw ha)) (Zam (Zaw hb)) (by omega) hS hpe]; rfl⟩
  · obtain ⟨rfl, pre0, x, r, rfl, hpe, hr, hbW, hrW⟩ := hi
    obtain ⟨k, hk, hpk⟩ := hS
    refine w_ret' (Zd7 (Zfi ?_))
    have hst := cmp_stop (Zam (Zaw ha)) (Zam (Zaw hb)) (by omega) hpk hpe
    have hv : r = Zb1 (nv xs) (nv ys) := hr.elim (fun h => by rw [h.1, hst.1 h.2]) (fun h => by rw [h.1, hst.2 h.2])
    exact m_retc' rfl Zbj rfl hrW rfl hK ⟨_, rfl, Below.mark hbW (Nat.le_refl _) (by omega) hK, by rw [hv]; rfl⟩
end Go.Proofs.Ytfljelnfjbbknaa.Lm
namespace Go.Proofs.Ytfljelnfjbbknaa.Lm
open Go.RowKit Go.Gw
set_option maxHeartbeats 1000000 in
theorem Zi1 {w : World} {x y c : Int} (hx : 0 ≤ x ∧ x < 4294967296) (hy : 0 ≤ y ∧ y < 4294967296) (hc : 0 ≤ c ∧ c ≤ 1) :
    Calls Try.prog 112 [.int .u32 x, .int .u32 y, .int .u32 c].toArray w (Zbi w fun v _ => v = .tuple #[.int .u32 ((x + y + c) % 4294967296), .int .u32 ((x + y + c) / 4294967296)]) := by
  have hb0 := Below.refl w.heap.size w
  refine enter Try.func112 rfl rfl (Zh (Zb (st (Ze rfl (st (Ze rfl (Zg (Zd ?_))))))))
  refine Zh (Zb (st (Zc rfl (st (s_convk (M := 18446744073709551616) rfl rfl Zdn Zea rfl (by omega) (st (Zc rfl (st (s_convk (M := 18446744073709551616) rfl rfl Zdn Zea rfl (by omega) (st (s_addk (M := 18446744073709551616) rfl rfl rfl rfl (by omega) ?_)))))))))))
  refine st (Zc rfl (st (s_convk (M := 18446744073709551616) rfl rfl Zdn Zea rfl (by omega) (st (s_addk (M := 18446744073709551616) rfl rfl rfl rfl (by omega) (st (Ze rfl (Zg (Zd (Zh ?_))))))))))
  refine Zb (st (Zc rfl (st (Zct (M := 4294967296) rfl rfl Zea Zdn rfl (st (Ze rfl (Zg (Zd (Zh ?_)))))))))
  refine Zb (st (Zc rfl (st (Zic (p := 4294967296) rfl rfl (by decide) (by decide) (st (Zct (M := 4294967296) rfl rfl Zea Zdn rfl (st (Ze rfl (Zg (Zd ?_))))))))))
  refine Zev rfl rfl rfl ?_
  exact ⟨_, rfl, hb0, by rw [show (x + y + c) / 4294967296 % 4294967296 = (x + y + c) / 4294967296 by omega]⟩
set_option maxHeartbeats 1000000 in
theorem sub32_any {w : World} {x y c : Int} (hx : 0 ≤ x ∧ x < 4294967296) (hy : 0 ≤ y ∧ y < 4294967296) (hc : 0 ≤ c ∧ c ≤ 1) :
    Calls Try.prog 113 [.int .u32 x, .int .u32 y, .int .u32 c].toArray w (Zbi w fun v _ => v = .tuple #[.int .u32 ((x - y - c) % 4294967296), .int .u32 (if x < y + c then 1 else 0)]) := by
  have hb0 := Below.refl w.heap.size w
  refine enter Try.func113 rfl rfl (Zh (Zb (st (Ze rfl (st (Ze rfl (Zg (Zd ?_))))))))
  refine Zh (Zb (st (Zc rfl (st (Zc rfl (st (s_subk (M := 4294967296) rfl rfl rfl rfl (st (Zc rfl (st (s_subk (M := 4294967296) rfl rfl rfl rfl ?_)))))))))))
  refine st (Ze rfl (Zg (Zd (Zh (Zb (st (Zc rfl (st (s_com32 rfl (by first | omega | exact Zbu (by omega) (by omega) | exact Zde (by omega) | exact Zde (Zbu (by omega) (by omega)) | exact Zbu (by omega) (Zbu (by omega) (by omega))) ?_)))))))))
  refine st (Zc rfl (st (s_and (M := 4294967296) rfl rfl rfl rfl (by first | omega | exact Zbu (by omega) (by omega) | exact Zde (by omega) | exact Zde (Zbu (by omega) (by omega)) | exact Zbu (by omega) (Zbu (by omega) (by omega))) (by first | omega | exact Zbu (by omega) (by omega) | exact Zde (by omega) | exact Zkw (by omega)) (st (Zc rfl (st (Zc rfl ?_)))))))
  refine st (s_xor (M := 4294967296) rfl rfl rfl rfl (by first | omega | exact Zbu (by omega) (by omega) | exact Zde (by omega) | exact Zde (Zbu (by omega) (by omega)) | exact Zbu (by omega) (Zbu (by omega) (by omega))) (by first | omega | exact Zbu (by omega) (by omega) | exact Zde (by omega) | exact Zkw (by omega)) (st (s_com32 rfl (by first | omega | exact Zbu (by omega) (by omega) | exact Zde (by omega) | exact Zde (Zbu (by omega) (by omega)) | exact Zbu (by omega) (Zbu (by omega) (by omega))) (st (Zc rfl ?_)))))
  refine st (s_and (M := 4294967296) rfl rfl rfl rfl (by first | omega | exact Zbu (by omega) (by omega) | exact Zde (by omega) | exact Zde (Zbu (by omega) (by omega)) | exact Zbu (by omega) (Zbu (by omega) (by omega))) (by first | omega | exact Zbu (by omega) (by omega) | exact Zde (by omega) | exact Zkw (by omega)) ?_)
  refine st (s_or (M := 4294967296) rfl rfl rfl rfl (by first | omega | exact Zbu (by omega) (by omega) | exact Zde (by omega) | exact Zde (Zbu (by omega) (by omega)) | exact Zbu (by omega) (Zbu (by omega) (by omega))) (by first | omega | exact Zbu (by omega) (by omega) | exact Zde (by omega) | exact Zkw (by omega)) (st (Zic (p := 2147483648) rfl rfl (by decide) (by decide) (st (Ze rfl (Zg (Zd (Zev rfl rfl rfl ?_))))))))
  exact ⟨_, rfl, hb0, by rw [borrow_bit hx hy hc, show ((x - y) % 4294967296 - c) % 4294967296 = (x - y - c) % 4294967296 by omega]⟩
set_option maxHeartbeats 1000000 in
theorem add_any {w : World} {n0 : Nat} (hn0 : n0 ≤ w.heap.size) {a b : Value} {xs ys : List Int} (ha : Sl Kd.u32 w (G 83 n0 w) a xs) (hb : Sl Kd.u32 w (G 83 n0 w) b ys) (hla : xs.length ≤ 100000) (hlb : ys.length ≤ 100000) :
    Calls Try.prog 100 [a, b].toArray w (Zbi w fun v W => Sl Kd.u32 W (G 83 n0 W) v (tl (nv xs + nv ys))) := by
  have hb0 := Below.refl w.heap.size w
  have hln1 := ha.lenle
  have hln2 := hb.lenle
  refine enter Try.func100 rfl rfl (Zh (Zb (st (Ze rfl (Zg (Zd (Zh ?_)))))))
  refine Zh (Zb (st (Zc rfl (st (Zar Zbq rfl (ha.at0 hb0) (st (Zc rfl (st (Zar Zbq rfl (hb.at0 hb0) (st (Zbf rfl rfl ?_)))))))))))
  refine Zg (Zd ?_)
  refine Zw rfl (fun h1 => ?_) (fun h1 => ?_)
  rotate_left
  · refine Zn (Zd (Zh (Zb (st (Zc rfl (st (Zar Zbq rfl (ha.at0 hb0) (st (Zaj rfl rfl (by omega) ?_)))))))))
    refine st (Ziv (K := Kd.u32) (base := w.heap.size) (F := (fun _ => False)) Zbq rfl (by omega) (by omega) (by omega) (fun _ _ => ⟨rfl, by decide⟩) (by omega) (fun _ h => h.elim) ?_)
    intro v3 w9 hO8 k8
    have hb9 := Zf hb0 k8
    have hz9 := hb9.size
    refine st (Ze rfl (Zg (Zd (Zh (Zb (st (Ze rfl (Zg ?_))))))))
    refine Zd (Zh (Zh (Zb (st (Zc rfl (st (Zar Zbq rfl (ha.at0 hb9) (st (Zc rfl ?_)))))))))
    refine Zg (Zd (Zz ?_))
    refine Za4 (α := Int × List Int × Int) (fun ((i, os, c) : Int × List Int × Int) => [(0, a), (1, b), (4, .slice none 0 0), (5, v3), (6, .int .u32 c), (21, a), (22, .int .i64 (xs.length : Int)), (23, .int .i64 i)]) (fun ((i, os, c) : Int × List Int × Int) W => Below w.heap.size w W ∧ (0 ≤ i ∧ i ≤ (xs).length) ∧ ((os.length : Int) = (xs).length + 1) ∧ (0 ≤ c ∧ c ≤ 1) ∧ (Gw.Own Kd.u32 83 w.heap.size W (fun _ => False) v3 os) ∧ (nv (os.take i.toNat) + PW i.toNat * c = nv ((xs).take i.toNat) + nv ((ys).take i.toNat))) (fun ((i, os, c) : Int × List Int × Int) => ((xs).length - i).toNat) ((0), (List.replicate (((xs.length : Int) + 1)).toNat 0), (0)) ⟨hb9, by omega, by first | (simp; done) | (simp; omega), by omega, hO8, by simp [nv]⟩ (by exact ⟨rfl, rfl, rfl, rfl, rfl, rfl, rfl, rfl, trivial⟩) ?_
    rintro ⟨i, os, c⟩ w10 ⟨hb10, hi, hol, hc, hO, hn⟩
    dsimp only at *
    have hz10 := hb10.size
    have hxa := (Zaw ha).ix i
    have hxb := (Zaw hb).ix i
    refine Zh (Zb (st (Zbf rfl rfl (Zg (Zd (Zh ?_))))))
    refine Zw rfl (fun h4 => ?_) (fun h4 => ?_)
    rotate_left
    · refine Zan (Zk (Zk (Zt (Zd (Zh (Zb ?_))))))
      refine st (Zc rfl (st (Zc rfl (st (Zar Zbq rfl (ha.at0 hb10) (st (Zc rfl (st (Zdm Zbq rfl rfl hO (by omega) (by first | omega | (simp; done) | (simp; omega)) ?_)))))))))
      intro g6 hg6 hl_15 hl_16
      refine st0 (Zcf Zc4 rfl rfl rfl rfl hO hg6 (by omega) (by first | omega | (simp; done) | (simp; omega)) ⟨rfl, by omega⟩ ?_)
      intro w15 hO13 k13 hs6
      have hb15 := Zv hb10 k13 (by first | omega | (have h9 := (hb10).size; omega))
      refine Zg (Zd (Zh (Zb (st (Zc rfl (st (Zp fn99 rfl (Zg0 (hO13.slG (n0 := n0))) ?_)))))))
      rintro v4 w16 ⟨hq6, hS3⟩
      have k14 := Zi hq6 none
      have hz15 := hq6.size
      have hb16 := Zf hb15 k14
      have hz16 := hb16.size
      have hS4 := hS3.gg0 k14
      refine st (Ze rfl (Zg (Zd (Zx rfl rfl ?_))))
      have hend := add_end hn hi.1 (by omega) (by omega) (by omega)
      refine ⟨_, rfl, hb16, ?_⟩
      rw [← hend]
      exact hS4
    refine Zn (Zd (Zh (Zz (Zh (Zb (st (Zc rfl ?_)))))))
    refine st (Zaz Zbq rfl rfl (ha.at0 hb10) (by omega) (by omega) ?_)
    rintro b3 o3 _ ⟨rfl, hr3⟩ hc3 hF3 hlt3
    have hl_9 := Loc.lt hF3
    refine st (Zs Zc4 rfl hc3 (j := 0) rfl (st (Ze rfl (st (Ze rfl (Zg (Zd (Zh (Zb ?_)))))))))
    refine st (Ze rfl (Zg (Zd (Zh (Zh (Zb (st (Zc rfl ?_))))))))
    refine st (Zc rfl (st (Zar Zbq rfl (hb.at0 hb10) (st (Zbf rfl rfl (Zg (Zd ?_)))))))
    refine Zw rfl (fun h5 => ?_) (fun h5 => ?_)
    rotate_left
    · refine Zn (Zd (Zb (st (Zc rfl (st (Zc rfl (st (Zc rfl (st (Zc rfl ?_))))))))))
      refine st (Zc rfl (st (Zp fn112 rfl (Zi1 (by omega) (by omega) (by omega)) ?_)))
      rintro _ w13 ⟨hq5, rfl⟩
      have k11 := Zi hq5 none
      have hz13 := hq5.size
      have hb13 := Zf hb10 k11
      have hz14 := hb13.size
      have hO11 := hO.g0 k11
      refine st (Zc rfl (st (Zag rfl rfl (st (Zag rfl rfl (st (Zdm Zbq rfl rfl hO11 (by omega) (by first | omega | (simp; done) | (simp; omega)) ?_)))))))
      intro g5 hg5 hl_13 hl_14
      refine st0 (Zcf Zc4 rfl rfl rfl rfl hO11 hg5 (by omega) (by first | omega | (simp; done) | (simp; omega)) ⟨rfl, by omega⟩ ?_)
      intro w14 hO12 k12 hs5
      have hb14 := Zv hb13 k12 (by first | omega | (have h9 := (hb13).size; omega))
      refine st (Ze rfl (Zg (Zab (Zd (Zb (st (Zaj rfl rfl (by omega) (st (Zc rfl ?_)))))))))
      refine Zg ?_
      exact Zad (((i + 1)), (os.set (i).toNat (((ix xs i) + (0 : Int) + c) % 4294967296)), ((((ix xs i) + (0 : Int) + c) / 4294967296))) ⟨hb14, by omega, by simp; omega, by dsimp only; exact ⟨by omega, by omega⟩, hO12, Zkb hn hi.1 (by omega) rfl (ix_over (by omega)).symm⟩ (by omega) (by exact ⟨rfl, rfl, rfl, rfl, rfl, rfl, rfl, rfl, trivial⟩)
    refine Zb (st (Zc rfl (st (Zc rfl (st (Zaz Zbq rfl rfl (hb.at0 hb10) (by omega) (by omega) ?_))))))
    rintro b4 o4 _ ⟨rfl, hr4⟩ hc4 hF4 hlt4
    have hl_10 := Loc.lt hF4
    refine st (Zs Zc4 rfl hc4 (j := 0) rfl (st (Ze rfl (Zg (Zd (Zb (st (Zc rfl (st (Zc rfl ?_))))))))))
    refine st (Zc rfl (st (Zc rfl (st (Zc rfl (st (Zp fn112 rfl (Zi1 (by omega) (by omega) (by omega)) ?_)))))))
    rintro _ w11 ⟨hq4, rfl⟩
    have k9 := Zi hq4 none
    have hz11 := hq4.size
    have hb11 := Zf hb10 k9
    have hz12 := hb11.size
    have hO9 := hO.g0 k9
    refine st (Zc rfl (st (Zag rfl rfl (st (Zag rfl rfl (st (Zdm Zbq rfl rfl hO9 (by omega) (by first | omega | (simp; done) | (simp; omega)) ?_)))))))
    intro g4 hg4 hl_11 hl_12
    refine st0 (Zcf Zc4 rfl rfl rfl rfl hO9 hg4 (by omega) (by first | omega | (simp; done) | (simp; omega)) ⟨rfl, by omega⟩ ?_)
    intro w12 hO10 k10 hs4
    have hb12 := Zv hb11 k10 (by first | omega | (have h9 := (hb11).size; omega))
    refine st (Ze rfl (Zg (Zab (Zd (Zb (st (Zaj rfl rfl (by omega) (st (Zc rfl ?_)))))))))
    refine Zg ?_
    exact Zad (((i + 1)), (os.set (i).toNat (((ix xs i) + (ix ys i) + c) % 4294967296)), ((((ix xs i) + (ix ys i) + c) / 4294967296))) ⟨hb12, by omega, by simp; omega, by dsimp only; exact ⟨by omega, by omega⟩, hO10, Zkb hn hi.1 (by omega) rfl rfl⟩ (by omega) (by exact ⟨rfl, rfl, rfl, rfl, rfl, rfl, rfl, rfl, trivial⟩)
  refine Zb (st (Zc rfl (st (Zc rfl (st (Ze rfl (st (Ze rfl (Zg (Zd ?_))))))))))
  refine Zh (Zb (st (Zc rfl (st (Zar Zbq rfl (hb.at0 hb0) (st (Zaj rfl rfl (by omega) (st (Ziv (K := Kd.u32) (base := w.heap.size) (F := (fun _ => False)) Zbq rfl (by omega) (by omega) (by omega) (fun _ _ => ⟨rfl, by decide⟩) (by omega) (fun _ h => h.elim) ?_)))))))))
  intro v1 w1 hO1 k1
  have hb1 := Zf hb0 k1
  have hz1 := hb1.size
  refine st (Ze rfl (Zg (Zd (Zh (Zb (st (Ze rfl (Zg ?_))))))))
  refine Zd (Zh (Zh (Zb (st (Zc rfl (st (Zar Zbq rfl (hb.at0 hb1) (st (Zc rfl ?_)))))))))
  refine Zg (Zd (Zz ?_))
  refine Za4 (α := Int × List Int × Int) (fun ((i, os, c) : Int × List Int × Int) => [(0, b), (1, a), (4, .slice none 0 0), (5, v1), (6, .int .u32 c), (21, b), (22, .int .i64 (ys.length : Int)), (23, .int .i64 i)]) (fun ((i, os, c) : Int × List Int × Int) W => Below w.heap.size w W ∧ (0 ≤ i ∧ i ≤ (ys).length) ∧ ((os.length : Int) = (ys).length + 1) ∧ (0 ≤ c ∧ c ≤ 1) ∧ (Gw.Own Kd.u32 83 w.heap.size W (fun _ => False) v1 os) ∧ (nv (os.take i.toNat) + PW i.toNat * c = nv ((ys).take i.toNat) + nv ((xs).take i.toNat))) (fun ((i, os, c) : Int × List Int × Int) => ((ys).length - i).toNat) ((0), (List.replicate (((ys.length : Int) + 1)).toNat 0), (0)) ⟨hb1, by omega, by first | (simp; done) | (simp; omega), by omega, hO1, by simp [nv]⟩ (by exact ⟨rfl, rfl, rfl, rfl, rfl, rfl, rfl, rfl, trivial⟩) ?_
  rintro ⟨i, os, c⟩ w2 ⟨hb2, hi, hol, hc, hO, hn⟩
  dsimp only at *
  have hz2 := hb2.size
  have hxa := (Zaw hb).ix i
  have hxb := (Zaw ha).ix i
  refine Zh (Zb (st (Zbf rfl rfl (Zg (Zd (Zh ?_))))))
  refine Zw rfl (fun h2 => ?_) (fun h2 => ?_)
  rotate_left
  · refine Zan (Zk (Zk (Zt (Zd (Zh (Zb ?_))))))
    refine st (Zc rfl (st (Zc rfl (st (Zar Zbq rfl (hb.at0 hb2) (st (Zc rfl (st (Zdm Zbq rfl rfl hO (by omega) (by first | omega | (simp; done) | (simp; omega)) ?_)))))))))
    intro g3 hg3 hl_7 hl_8
    refine st0 (Zcf Zc4 rfl rfl rfl rfl hO hg3 (by omega) (by first | omega | (simp; done) | (simp; omega)) ⟨rfl, by omega⟩ ?_)
    intro w7 hO6 k6 hs3
    have hb7 := Zv hb2 k6 (by first | omega | (have h9 := (hb2).size; omega))
    refine Zg (Zd (Zh (Zb (st (Zc rfl (st (Zp fn99 rfl (Zg0 (hO6.slG (n0 := n0))) ?_)))))))
    rintro v2 w8 ⟨hq3, hS1⟩
    have k7 := Zi hq3 none
    have hz7 := hq3.size
    have hb8 := Zf hb7 k7
    have hz8 := hb8.size
    have hS2 := hS1.gg0 k7
    refine st (Ze rfl (Zg (Zd (Zx rfl rfl ?_))))
    have hend := add_end hn hi.1 (by omega) (by omega) (by omega)
    refine ⟨_, rfl, hb8, ?_⟩
    rw [Int.add_comm (nv xs), ← hend]
    exact hS2
  refine Zn (Zd (Zh (Zz (Zh (Zb (st (Zc rfl ?_)))))))
  refine st (Zaz Zbq rfl rfl (hb.at0 hb2) (by omega) (by omega) ?_)
  rintro b1 o1 _ ⟨rfl, hr1⟩ hc1 hF1 hlt1
  have hl_1 := Loc.lt hF1
  refine st (Zs Zc4 rfl hc1 (j := 0) rfl (st (Ze rfl (st (Ze rfl (Zg (Zd (Zh (Zb ?_)))))))))
  refine st (Ze rfl (Zg (Zd (Zh (Zh (Zb (st (Zc rfl ?_))))))))
  refine st (Zc rfl (st (Zar Zbq rfl (ha.at0 hb2) (st (Zbf rfl rfl (Zg (Zd ?_)))))))
  refine Zw rfl (fun h3 => ?_) (fun h3 => ?_)
  rotate_left
  · refine Zn (Zd (Zb (st (Zc rfl (st (Zc rfl (st (Zc rfl (st (Zc rfl ?_))))))))))
    refine st (Zc rfl (st (Zp fn112 rfl (Zi1 (by omega) (by omega) (by omega)) ?_)))
    rintro _ w5 ⟨hq2, rfl⟩
    have k4 := Zi hq2 none
    have hz5 := hq2.size
    have hb5 := Zf hb2 k4
    have hz6 := hb5.size
    have hO4 := hO.g0 k4
    refine st (Zc rfl (st (Zag rfl rfl (st (Zag rfl rfl (st (Zdm Zbq rfl rfl hO4 (by omega) (by first | omega | (simp; done) | (simp; omega)) ?_)))))))
    intro g2 hg2 hl_5 hl_6
    refine st0 (Zcf Zc4 rfl rfl rfl rfl hO4 hg2 (by omega) (by first | omega | (simp; done) | (simp; omega)) ⟨rfl, by omega⟩ ?_)
    intro w6 hO5 k5 hs2
    have hb6 := Zv hb5 k5 (by first | omega | (have h9 := (hb5).size; omega))
    refine st (Ze rfl (Zg (Zab (Zd (Zb (st (Zaj rfl rfl (by omega) (st (Zc rfl ?_)))))))))
    refine Zg ?_
    exact Zad (((i + 1)), (os.set (i).toNat (((ix ys i) + (0 : Int) + c) % 4294967296)), ((((ix ys i) + (0 : Int) + c) / 4294967296))) ⟨hb6, by omega, by simp; omega, by dsimp only; exact ⟨by omega, by omega⟩, hO5, Zkb hn hi.1 (by omega) rfl (ix_over (by omega)).symm⟩ (by omega) (by exact ⟨rfl, rfl, rfl, rfl, rfl, rfl, rfl, rfl, trivial⟩)
  refine Zb (st (Zc rfl (st (Zc rfl (st (Zaz Zbq rfl rfl (ha.at0 hb2) (by omega) (by omega) ?_))))))
  rintro b2 o2 _ ⟨rfl, hr2⟩ hc2 hF2 hlt2
  have hl_2 := Loc.lt hF2
  refine st (Zs Zc4 rfl hc2 (j := 0) rfl (st (Ze rfl (Zg (Zd (Zb (st (Zc rfl (st (Zc rfl ?_))))))))))
  refine st (Zc rfl (st (Zc rfl (st (Zc rfl (st (Zp fn112 rfl (Zi1 (by omega) (by omega) (by omega)) ?_)))))))
  rintro _ w3 ⟨hq1, rfl⟩
  have k2 := Zi hq1 none
  have hz3 := hq1.size
  have hb3 := Zf hb2 k2
  have hz4 := hb3.size
  have hO2 := hO.g0 k2
  refine st (Zc rfl (st (Zag rfl rfl (st (Zag rfl rfl (st (Zdm Zbq rfl rfl hO2 (by omega) (by first | omega | (simp; done) | (simp; omega)) ?_)))))))
  intro g1 hg1 hl_3 hl_4
  refine st0 (Zcf Zc4 rfl rfl rfl rfl hO2 hg1 (by omega) (by first | omega | (simp; done) | (simp; omega)) ⟨rfl, by omega⟩ ?_)
  intro w4 hO3 k3 hs1
  have hb4 := Zv hb3 k3 (by first | omega | (have h9 := (hb3).size; omega))
  refine st (Ze rfl (Zg (Zab (Zd (Zb (st (Zaj rfl rfl (by omega) (st (Zc rfl ?_)))))))))
  refine Zg ?_
  exact Zad (((i + 1)), (os.set (i).toNat (((ix ys i) + (ix xs i) + c) % 4294967296)), ((((ix ys i) + (ix xs i) + c) / 4294967296))) ⟨hb4, by omega, by simp; omega, by dsimp only; exact ⟨by omega, by omega⟩, hO3, Zkb hn hi.1 (by omega) rfl rfl⟩ (by omega) (by exact ⟨rfl, rfl, rfl, rfl, rfl, rfl, rfl, rfl, trivial⟩)
end Go.Proofs.Ytfljelnfjbbknaa.Lm
namespace Go.Proofs.Ytfljelnfjbbknaa.Lm
open Go.RowKit Go.Gw
set_option maxHeartbeats 1000000 in
theorem sub_any {w : World} {n0 : Nat} (hn0 : n0 ≤ w.heap.size) {a b : Value} {xs ys : List Int} (ha : Sl Kd.u32 w (G 83 n0 w) a xs) (hb : Sl Kd.u32 w (G 83 n0 w) b ys) (hla : xs.length ≤ 100000) (hlb : ys.length ≤ 100000) :
    Calls Try.prog 101 [a, b].toArray w (Zbi w fun r W => ∃ v, r = .tuple #[v, .bool (decide (nv ys ≤ nv xs))] ∧ Sl Kd.u32 W (G 83 n0 W) v (tl (nv xs - nv ys))) := by
  have hb0 := Below.refl w.heap.size w
  have hln1 := ha.lenle
  have hln2 := hb.lenle
  refine enter Try.func101 rfl rfl (Zh (Zb (st (Ze rfl (st (Ze rfl (Zg (Zd ?_))))))))
  refine Zh (Zh (Zb (st (Zc rfl (st (Zc rfl (st (Zp fn82 rfl (cmp_any ((ha.at0 hb0)).none ((hb.at0 hb0)).none) ?_))))))))
  rintro _ w1 ⟨hq1, rfl⟩
  have k1 := Zi hq1 none
  have hz1 := hq1.size
  have hb1 := Zf hb0 k1
  have hz2 := hb1.size
  refine st (Zbf rfl rfl (Zg (Zd ?_)))
  refine Zw rfl (fun h1 => ?_) (fun h1 => ?_)
  · refine Zh (Zb (st (Ze rfl (st (Ze rfl (Zg (Zd (Zev rfl rfl rfl ?_))))))))
    have hlt : nv xs < nv ys := by have := h1; unfold Zb1 at this; split at this <;> (try split at this) <;> omega
    exact ⟨_, rfl, hb1, _, by rw [decide_eq_false (by omega)], by rw [Zfn (by omega)]; exact nilG⟩
  refine Zn (Zd (Zh (Zb (st (Zc rfl (st (Zp fn103 rfl (Zht ((ha.at0 hb1)).none (by first | omega | (simp; done) | (simp; omega))) ?_)))))))
  rintro v1 w2 ⟨hq2, hO2⟩
  have k2 := Zi hq2 none
  have hz3 := hq2.size
  have hb2 := Zf hb1 k2
  have hz4 := hb2.size
  have hO1 := hO2.rebase (b' := w.heap.size) (by omega)
  refine st (Ze rfl (Zg (Zd (Zh (Zb (st (Ze rfl (Zg ?_))))))))
  refine Zd (Zh (Zh (Zb (st (Zc rfl (st (Zar Zbq rfl hO1.sl (st (Zc rfl ?_)))))))))
  refine Zg (Zd (Zz ?_))
  refine Za4 (α := Int × List Int × Int) (fun ((i, os, c) : Int × List Int × Int) => [(1, b), (4, .slice none 0 0), (5, .bool false), (6, v1), (7, .int .u32 c), (17, .int .i64 (xs.length : Int)), (18, .int .i64 i)]) (fun ((i, os, c) : Int × List Int × Int) W => Below w.heap.size w W ∧ (0 ≤ i ∧ i ≤ xs.length) ∧ (os.length = xs.length) ∧ (0 ≤ c ∧ c ≤ 1) ∧ (Gw.Own Kd.u32 83 w.heap.size W (fun _ => False) v1 os) ∧ (nv (os.take i.toNat) = nv (xs.take i.toNat) - nv (ys.take i.toNat) + PW i.toNat * c) ∧ (∀ j : Int, i ≤ j → ix os j = ix xs j)) (fun ((i, os, c) : Int × List Int × Int) => (xs.length - i).toNat) ((0), (xs), (0)) ⟨hb2, by omega, rfl, by omega, hO1, by simp [nv], fun _ _ => rfl⟩ (by exact ⟨rfl, rfl, rfl, rfl, rfl, rfl, rfl, trivial⟩) ?_
  rintro ⟨i, os, c⟩ w3 ⟨hb3, hi, hol, hc, hO, hn, hd⟩
  dsimp only at *
  have hz5 := hb3.size
  have hxo := (Zaw hO.sl).ix i
  have hxb := (Zaw hb).ix i
  refine Zh (Zb (st (Zbf rfl rfl (Zg (Zd (Zh ?_))))))
  refine Zw rfl (fun h2 => ?_) (fun h2 => ?_)
  rotate_left
  · refine Zan (Zk (Zk (Zt (Zd (Zh (Zb ?_))))))
    refine st (Zc rfl (st (Zp fn99 rfl (Zg0 (hO.slG (n0 := n0))) ?_)))
    rintro v2 w8 ⟨hq5, hS1⟩
    have k7 := Zi hq5 none
    have hz10 := hq5.size
    have hb8 := Zf hb3 k7
    have hz11 := hb8.size
    have hS2 := hS1.gg0 k7
    refine st (Ze rfl (st (Ze rfl (Zg (Zd (Zev rfl rfl rfl ?_))))))
    have hle : nv ys ≤ nv xs := by have := h1; unfold Zb1 at this; split at this <;> (try split at this) <;> omega
    have hend := sub_end hn (by omega) hol hc (Zaw hO.sl) (Zaw ha) (Zaw hb) hle
    exact ⟨_, rfl, hb8, _, by rw [decide_eq_true hle], by rw [← hend]; exact hS2⟩
  refine Zn (Zd (Zh (Zz (Zh (Zb (st (Zc rfl ?_)))))))
  refine st (Ze rfl (Zg (Zd (Zh (Zb (st (Ze rfl (Zg ?_))))))))
  refine Zd (Zh (Zh (Zb (st (Zc rfl (st (Zc rfl (st (Zar Zbq rfl (hb.at0 hb3) ?_)))))))))
  refine st (Zbf rfl rfl (Zg (Zd ?_)))
  refine Zw rfl (fun h3 => ?_) (fun h3 => ?_)
  rotate_left
  · refine Zn (Zd (Zb (st (Zc rfl (st (Zc rfl (st (Zc rfl (st (Zc rfl ?_))))))))))
    refine st (Zaz Zbq rfl rfl hO.sl (by omega) (by omega) ?_)
    rintro b3 o3 _ ⟨rfl, hr3⟩ hc3 hF3 hlt3
    refine st (Zs Zc4 rfl hc3 (j := 0) rfl (st (Zc rfl (st (Zc rfl (st (Zp fn113 rfl (sub32_any (by omega) (by omega) (by omega)) ?_)))))))
    rintro _ w6 ⟨hq4, rfl⟩
    have k5 := Zi hq4 none
    have hz8 := hq4.size
    have hb6 := Zf hb3 k5
    have hz9 := hb6.size
    have hO5 := hO.g0 k5
    refine st (Zc rfl (st (Zag rfl rfl (st (Zag rfl rfl (st (Zdm Zbq rfl rfl hO5 (by omega) (by first | omega | (simp; done) | (simp; omega)) ?_)))))))
    intro g2 hg2 hl_4 hl_5
    refine st0 (Zcf Zc4 rfl rfl rfl rfl hO5 hg2 (by omega) (by first | omega | (simp; done) | (simp; omega)) ⟨rfl, by omega⟩ ?_)
    intro w7 hO6 k6 hs2
    have hb7 := Zv hb6 k6 (by first | omega | (have h9 := (hb6).size; omega))
    refine st (Ze rfl (Zg (Zab (Zd (Zb (st (Zaj rfl rfl (by omega) (st (Zc rfl ?_)))))))))
    refine Zg ?_
    exact Zad (((i + 1)), (os.set (i).toNat (((ix os i) - (0 : Int) - c) % 4294967296)), ((if (ix os i) < (0 : Int) + c then 1 else 0))) ⟨hb7, by omega, by simp; omega, by dsimp only; split <;> omega, hO6, sub_step hn hi.1 (by omega) (hd i (by omega)) (ix_over (by omega)).symm hxo (by decide) hc, fun j hj => by rw [Zhe hi.1 (by omega) (by omega)]; exact hd j (by omega)⟩ (by omega) (by exact ⟨rfl, rfl, rfl, rfl, rfl, rfl, rfl, trivial⟩)
  refine Zb (st (Zc rfl (st (Zc rfl (st (Zaz Zbq rfl rfl (hb.at0 hb3) (by omega) (by omega) ?_))))))
  rintro b1 o1 _ ⟨rfl, hr1⟩ hc1 hF1 hlt1
  have hl_1 := Loc.lt hF1
  refine st (Zs Zc4 rfl hc1 (j := 0) rfl (st (Ze rfl (Zg (Zd (Zb (st (Zc rfl (st (Zc rfl ?_))))))))))
  refine st (Zc rfl (st (Zc rfl (st (Zaz Zbq rfl rfl hO.sl (by omega) (by omega) ?_)))))
  rintro b2 o2 _ ⟨rfl, hr2⟩ hc2 hF2 hlt2
  refine st (Zs Zc4 rfl hc2 (j := 0) rfl (st (Zc rfl (st (Zc rfl (st (Zp fn113 rfl (sub32_any (by omega) (by omega) (by omega)) ?_)))))))
  rintro _ w4 ⟨hq3, rfl⟩
  have k3 := Zi hq3 none
  have hz6 := hq3.size
  have hb4 := Zf hb3 k3
  have hz7 := hb4.size
  have hO3 := hO.g0 k3
  refine st (Zc rfl (st (Zag rfl rfl (st (Zag rfl rfl (st (Zdm Zbq rfl rfl hO3 (by omega) (by first | omega | (simp; done) | (simp; omega)) ?_)))))))
  intro g1 hg1 hl_2 hl_3
  refine st0 (Zcf Zc4 rfl rfl rfl rfl hO3 hg1 (by omega) (by first | omega | (simp; done) | (simp; omega)) ⟨rfl, by omega⟩ ?_)
  intro w5 hO4 k4 hs1
  have hb5 := Zv hb4 k4 (by first | omega | (have h9 := (hb4).size; omega))
  refine st (Ze rfl (Zg (Zab (Zd (Zb (st (Zaj rfl rfl (by omega) (st (Zc rfl ?_)))))))))
  refine Zg ?_
  exact Zad (((i + 1)), (os.set (i).toNat (((ix os i) - (ix ys i) - c) % 4294967296)), ((if (ix os i) < (ix ys i) + c then 1 else 0))) ⟨hb5, by omega, by simp; omega, by dsimp only; split <;> omega, hO4, sub_step hn hi.1 (by omega) (hd i (by omega)) rfl hxo hxb hc, fun j hj => by rw [Zhe hi.1 (by omega) (by omega)]; exact hd j (by omega)⟩ (by omega) (by exact ⟨rfl, rfl, rfl, rfl, rfl, rfl, rfl, trivial⟩)
set_option maxHeartbeats 1000000 in
theorem fits_any {w : World} {n : Int} :
    Calls Try.prog 98 [.int .i64 n].toArray w (Zbi w fun v _ => v = .bool (fitB n)) := by
  have hb0 := Below.refl w.heap.size w
  refine enter Try.func98 rfl rfl (Zh (Zb (st (Ze rfl (Zg (Zd (Zh ?_)))))))
  refine Zb (st (Zc rfl (st (s_ge rfl rfl (st (Zc rfl ?_))))))
  refine Za0 5 rfl (fun h1 => ?_) (fun h1 => ?_)
  rotate_left
  · refine Zj rfl rfl (Zj rfl rfl (st (Zo rfl rfl (st (Ze rfl (Zg (Zd (Zx rfl rfl ?_))))))))
    exact ⟨_, rfl, hb0, by unfold fitB; rw [decide_eq_false h1]; rfl⟩
  refine stg (Zc rfl (stg (s_le rfl rfl (st (Zo rfl rfl (st (Ze rfl (Zg (Zd (Zx rfl rfl ?_))))))))))
  exact ⟨_, rfl, hb0, by unfold fitB; rw [decide_eq_true h1]; rfl⟩
end Go.Proofs.Ytfljelnfjbbknaa.Lm
namespace Go.Proofs.Ytfljelnfjbbknaa.Lm
open Go.RowKit Go.Gw
set_option maxHeartbeats 1000000 in
theorem shl_any {w : World} {n0 : Nat} (hn0 : n0 ≤ w.heap.size) {a : Value} {n : Int} {xs : List Int} (ha : Sl Kd.u32 w (G 83 n0 w) a xs) (hla : xs.length ≤ 100000) :
    Calls Try.prog 77 [a, .int .i64 n].toArray w (Zbi w fun v W => Sl Kd.u32 W (G 83 n0 W) v (shlL xs n)) := by
  have hb0 := Below.refl w.heap.size w
  have hln1 := ha.lenle
  refine enter Try.func77 rfl rfl (Zh (Zb (st (Ze rfl (Zg (Zd (Zh ?_)))))))
  refine Zh (Zb (st (Zc rfl (st (Zp fn98 rfl (fits_any) ?_)))))
  rintro _ w1 ⟨hq1, rfl⟩
  have k1 := Zi hq1 none
  have hz1 := hq1.size
  have hb1 := Zf hb0 k1
  have hz2 := hb1.size
  refine st (Zdk rfl (Zg (Zd ?_)))
  refine Zbd rfl (fun h1 => ?_) (fun h1 => ?_)
  · have hft : fitB n = false := by simpa using h1
    refine Zh (Zb (st (Ze rfl (Zg (Zd (Zx rfl rfl ?_))))))
    exact ⟨_, rfl, hb1, by unfold shlL; rw [if_neg (by rw [hft]; decide)]; exact nilG⟩
  have hft : fitB n = true := by simpa using h1
  have hnb : 0 ≤ n ∧ n ≤ 10000 := by simpa [fitB] using hft
  refine Zn (Zd (Zh (Zb (st (Zc rfl (st (Zar Zbq rfl (ha.at0 hb1) (st (Zc rfl ?_)))))))))
  refine st (s_quoi rfl rfl (by omega) (by omega) (st (Zaj rfl rfl (by omega) (st (Zaj rfl rfl (by omega) (st (Ziv (K := Kd.u32) (base := w.heap.size) (F := (fun _ => False)) Zbq rfl (by omega) (by omega) (by omega) (fun _ _ => ⟨rfl, by decide⟩) (by omega) (fun _ h => h.elim) ?_)))))))
  intro v1 w2 hO1 k2
  have hb2 := Zf hb1 k2
  have hz3 := hb2.size
  refine st (Ze rfl (Zg (Zd (Zh (Zh (Zb (st (Zc rfl ?_))))))))
  refine st (Zar Zbq rfl (ha.at0 hb2) (st (Zc rfl (Zg (Zd (Zz ?_))))))
  refine Za4 (α := Int × List Int) (fun ((i, os) : Int × List Int) => [(1, .int .i64 n), (4, .slice none 0 0), (5, v1), (19, a), (20, .int .i64 (xs.length : Int)), (21, .int .i64 i)]) (fun ((i, os) : Int × List Int) W => Below w.heap.size w W ∧ (0 ≤ i ∧ i ≤ xs.length) ∧ ((os.length : Int) = xs.length + n / 32 + 1) ∧ (Gw.Own Kd.u32 83 w.heap.size W (fun _ => False) v1 os) ∧ (nv (os.take (i + n / 32 + 1).toNat) = nv (xs.take i.toNat) * 2 ^ n.toNat) ∧ (ix os (i + n / 32) < 2 ^ (n % 32).toNat) ∧ (∀ j : Int, i + n / 32 < j → ix os j = 0)) (fun ((i, os) : Int × List Int) => (xs.length - i).toNat) ((0), (List.replicate ((((xs.length : Int) + (n / 32)) + 1)).toNat 0)) ⟨hb2, by omega, by rw [List.length_replicate]; omega, hO1, by rw [nv_zeros]; simp [nv], by rw [ix_zeros]; exact Za2 _, fun j _ => ix_zeros _ _⟩ (by exact ⟨rfl, rfl, rfl, rfl, rfl, rfl, trivial⟩) ?_
  rintro ⟨i, os⟩ w3 ⟨hb3, hi, hol, hO, hn, hp, hz⟩
  dsimp only at *
  have hz4 := hb3.size
  have hxa := (Zaw ha).ix i
  have hxo := (Zaw hO.sl).ix (i + (n / 32))
  have hstep := fun (h1 : i < xs.length) => shl_step (Zaw ha) (Zaw hO.sl) hi.1 h1 hnb.1 hol hz hp hn
  refine Zh (Zb (st (Zbf rfl rfl (Zg (Zd (Zh ?_))))))
  refine Zw rfl (fun h2 => ?_) (fun h2 => ?_)
  rotate_left
  · refine Zan (Zk (Zk (Zt (Zd (Zh (Zb ?_))))))
    refine st (Zc rfl (st (Zp fn99 rfl (Zg0 (hO.slG (n0 := n0))) ?_)))
    rintro v2 w32 ⟨hq2, hS1⟩
    have k31 := Zi hq2 none
    have hz5 := hq2.size
    have hb32 := Zf hb3 k31
    have hz6 := hb32.size
    have hS2 := hS1.gg0 k31
    refine st (Ze rfl (Zg (Zd (Zx rfl rfl ?_))))
    have hend := shl_end hn (by omega) hol
    exact ⟨_, rfl, hb32, by unfold shlL; rw [if_pos hft, ← hend]; exact hS2⟩
  have hstep := hstep (by omega)
  refine Zn (Zd (Zh (Zz (Zh (Zb (st (Zc rfl ?_)))))))
  refine st (Zaz Zbq rfl rfl (ha.at0 hb3) (by omega) (by first | omega | (rw [List.length_set]; omega)) ?_)
  rintro b1 o1 _ ⟨rfl, hr1⟩ hc1 hF1 hlt1
  have hl_1 := Loc.lt hF1
  refine st (Zs Zc4 rfl hc1 (j := 0) rfl (st (Ze rfl (st (Ze rfl (Zg (Zd (Zh (Zb ?_)))))))))
  refine st (Zc rfl (st (Zc rfl (st (s_quoi rfl rfl (by omega) (by omega) (st (Zaj rfl rfl (by omega) (st (Ze rfl (Zg (Zd ?_)))))))))))
  refine Zh ?_
  obtain ⟨b2, o2, _, hat1, ⟨rfl, hr2⟩, hc2, hF2, hlt2⟩ := hO.sl.elem (i + (n / 32)) (by omega) (by first | omega | (rw [List.length_set]; omega))
  refine Zby 9 (fun a b => a.grownBy b none) [(some 30, Is <| v1), (some 31, Is <| .int .i64 (i + (n / 32))), (some 32, Is <| .pointer (some ⟨b2, o2, none⟩)), (some 33, Is <| .int .u32 (ix os (i + (n / 32)))), (some 34, Is <| .int .u32 (ix xs i)), (some 35, Is <| .int .i64 n), (some 36, Is <| .int .i64 (n % 32)), (some 37, Is <| .int .u32 (((ix xs i) * (2 ^ ((n % 32)).toNat)) % 4294967296)), (some 38, Is <| .int .u32 (ior (ix os (i + (n / 32))) (((ix xs i) * (2 ^ ((n % 32)).toNat)) % 4294967296)))] [[], [], [0, 1], [2], [], [], [5], [4, 6], [3, 7]] [(1, .int .i64 n), (4, .slice none 0 0), (5, v1), (7, .int .u32 (ix xs i)), (8, .int .i64 (i + (n / 32))), (19, a), (20, .int .i64 (xs.length : Int)), (21, .int .i64 i)] (by exact ⟨rfl, rfl, rfl, rfl, rfl, rfl, rfl, rfl, trivial⟩) (by kernel_rfl) (by kernel_rfl) Za (fun _ _ _ => Zaa) ⟨kv, kv, kv, kv, kv, kv, kv, kv, kv, trivial⟩ ?_
  intro w4 k3 hs1
  have hb4 := Zf hb3 k3
  have hO2 := hO.g0 k3
  refine ⟨⟨?_, ?_, ?_, ?_, ?_, ?_, ?_, ?_, ?_, trivial⟩, ?_⟩
  · intro w5 k4
    refine op1 (Zc rfl ?_)
    exact ⟨rfl, Za _⟩
  · intro w6 k5
    refine op1 (Zc rfl ?_)
    exact ⟨rfl, Za _⟩
  · intro w7 k6
    intro v_ hv_; subst v_
    rintro _ rfl
    refine op1 (Zbm Zbq rfl rfl hat1 ?_)
    exact ⟨rfl, Za _⟩
  · intro w8 k7
    rintro _ rfl
    refine op1 (Zs Zc4 rfl (Zai (Zai hc2 k3) k7) (j := 0) rfl ?_)
    exact ⟨rfl, Za _⟩
  · intro w9 k8
    refine op1 (Zc rfl ?_)
    exact ⟨rfl, Za _⟩
  · intro w10 k9
    refine op1 (Zc rfl ?_)
    exact ⟨rfl, Za _⟩
  · intro w11 k10
    rintro _ rfl
    refine op1 (Zet rfl rfl (by omega) (by omega) ?_)
    exact ⟨rfl, Za _⟩
  · intro w12 k11
    rintro _ rfl _ rfl
    refine op1 (s_shlk (M := 4294967296) (p := (2 ^ ((n % 32)).toNat)) rfl rfl rfl rfl (by omega) (by rw [Nat.min_eq_left (by show ((n % 32)).toNat ≤ 32; omega)]) ?_)
    exact ⟨rfl, Za _⟩
  · intro w13 k12
    rintro _ rfl _ rfl
    refine op1 (s_or (M := 4294967296) rfl rfl rfl rfl (by omega) (by omega) ?_)
    exact ⟨rfl, Za _⟩
  intro w14 k13
  have hb14 := Zf hb4 k13
  have hO12 := hO2.g0 k13
  intro v_ hv_; subst v_
  rintro _ rfl _ rfl _ rfl _ rfl _ rfl _ rfl _ rfl _ rfl
  refine st (Zdm Zbq rfl rfl hO12 (by omega) (by first | omega | (rw [List.length_set]; omega) | (simp; omega)) ?_)
  intro g1 hg1 hl_2 hl_3
  refine st0 (Zcf Zc4 rfl rfl rfl rfl hO12 hg1 (by omega) (by first | omega | (rw [List.length_set]; omega) | (simp; omega)) ⟨rfl, by first | omega | exact ior_lt (by omega) (by omega)⟩ ?_)
  intro w15 hO13 k14 hs2
  have hb15 := Zv hb14 k14 (by first | omega | (have h9 := (hb14).size; omega))
  refine Zg (Zd ?_)
  have hxo2 := (Zaw hO13.sl).ix (i + (n / 32) + 1)
  obtain ⟨b3, o3, _, hat2, ⟨rfl, hr3⟩, hc3, hF3, hlt3⟩ := hO13.sl.elem ((i + (n / 32)) + 1) (by omega) (by first | omega | (rw [List.length_set]; omega))
  refine Zby 13 (fun a b => a.grownBy b none) [(some 40, Is <| v1), (some 41, Is <| .int .i64 (i + (n / 32))), (some 42, Is <| .int .i64 ((i + (n / 32)) + 1)), (some 43, Is <| .pointer (some ⟨b3, o3, none⟩)), (some 44, Is <| .int .u32 (ix (os.set ((i + (n / 32))).toNat (ior (ix os (i + (n / 32))) (((ix xs i) * (2 ^ ((n % 32)).toNat)) % 4294967296))) ((i + (n / 32)) + 1))), (some 45, Is <| .int .u32 (ix xs i)), (some 46, Is <| .int .u64 (ix xs i)), (some 47, Is <| .int .i64 n), (some 48, Is <| .int .i64 (n % 32)), (some 49, Is <| .int .u64 (((ix xs i) * (2 ^ ((n % 32)).toNat)) % 18446744073709551616)), (some 50, Is <| .int .u64 ((((ix xs i) * (2 ^ ((n % 32)).toNat)) % 18446744073709551616) / 4294967296)), (some 51, Is <| .int .u32 (((((ix xs i) * (2 ^ ((n % 32)).toNat)) % 18446744073709551616) / 4294967296) % 4294967296)), (some 52, Is <| .int .u32 (ior (ix (os.set ((i + (n / 32))).toNat (ior (ix os (i + (n / 32))) (((ix xs i) * (2 ^ ((n % 32)).toNat)) % 4294967296))) ((i + (n / 32)) + 1)) (((((ix xs i) * (2 ^ ((n % 32)).toNat)) % 18446744073709551616) / 4294967296) % 4294967296)))] [[], [], [1], [0, 2], [3], [], [5], [], [7], [6, 8], [9], [10], [4, 11]] [(1, .int .i64 n), (4, .slice none 0 0), (5, v1), (7, .int .u32 (ix xs i)), (8, .int .i64 (i + (n / 32))), (19, a), (20, .int .i64 (xs.length : Int)), (21, .int .i64 i)] (by exact ⟨rfl, rfl, rfl, rfl, rfl, rfl, rfl, rfl, trivial⟩) (by kernel_rfl) (by kernel_rfl) Za (fun _ _ _ => Zaa) ⟨kv, kv, kv, kv, kv, kv, kv, kv, kv, kv, kv, kv, kv, trivial⟩ ?_
  intro w16 k15 hs3
  have hb16 := Zf hb15 k15
  have hO14 := hO13.g0 k15
  refine ⟨⟨?_, ?_, ?_, ?_, ?_, ?_, ?_, ?_, ?_, ?_, ?_, ?_, ?_, trivial⟩, ?_⟩
  · intro w17 k16
    refine op1 (Zc rfl ?_)
    exact ⟨rfl, Za _⟩
  · intro w18 k17
    refine op1 (Zc rfl ?_)
    exact ⟨rfl, Za _⟩
  · intro w19 k18
    rintro _ rfl
    refine op1 (Zaj rfl rfl (by omega) ?_)
    exact ⟨rfl, Za _⟩
  · intro w20 k19
    intro v_ hv_; subst v_
    rintro _ rfl
    refine op1 (Zbm Zbq rfl rfl hat2 ?_)
    exact ⟨rfl, Za _⟩
  · intro w21 k20
    rintro _ rfl
    refine op1 (Zs Zc4 rfl (Zai (Zai hc3 k15) k20) (j := 0) rfl ?_)
    exact ⟨rfl, Za _⟩
  · intro w22 k21
    refine op1 (Zc rfl ?_)
    exact ⟨rfl, Za _⟩
  · intro w23 k22
    rintro _ rfl
    refine op1 (s_convk (M := 18446744073709551616) rfl rfl Zdn Zea rfl (by omega) ?_)
    exact ⟨rfl, Za _⟩
  · intro w24 k23
    refine op1 (Zc rfl ?_)
    exact ⟨rfl, Za _⟩
  · intro w25 k24
    rintro _ rfl
    refine op1 (Zet rfl rfl (by omega) (by omega) ?_)
    exact ⟨rfl, Za _⟩
  · intro w26 k25
    rintro _ rfl _ rfl
    refine op1 (s_shlk (M := 18446744073709551616) (p := (2 ^ ((n % 32)).toNat)) rfl rfl rfl rfl (by omega) (by rw [Nat.min_eq_left (by show ((n % 32)).toNat ≤ 64; omega)]) ?_)
    exact ⟨rfl, Za _⟩
  · intro w27 k26
    rintro _ rfl
    refine op1 (Zic (p := 4294967296) rfl rfl (by decide) (by decide) ?_)
    exact ⟨rfl, Za _⟩
  · intro w28 k27
    rintro _ rfl
    refine op1 (Zct (M := 4294967296) rfl rfl Zea Zdn rfl ?_)
    exact ⟨rfl, Za _⟩
  · intro w29 k28
    rintro _ rfl _ rfl
    refine op1 (s_or (M := 4294967296) rfl rfl rfl rfl (by omega) (by omega) ?_)
    exact ⟨rfl, Za _⟩
  intro w30 k29
  have hb30 := Zf hb16 k29
  have hO28 := hO14.g0 k29
  intro v_ hv_; subst v_
  rintro _ rfl _ rfl _ rfl _ rfl _ rfl _ rfl _ rfl _ rfl _ rfl _ rfl _ rfl _ rfl
  refine st (Zdm Zbq rfl rfl hO28 (by omega) (by first | omega | (rw [List.length_set]; omega) | (simp; omega)) ?_)
  intro g2 hg2 hl_4 hl_5
  refine st0 (Zcf Zc4 rfl rfl rfl rfl hO28 hg2 (by omega) (by first | omega | (rw [List.length_set]; omega) | (simp; omega)) ⟨rfl, by first | omega | exact ior_lt (by omega) (by omega)⟩ ?_)
  intro w31 hO29 k30 hs4
  have hb31 := Zv hb30 k30 (by first | omega | (have h9 := (hb30).size; omega))
  refine Zg (Zab (Zd (Zb (st (Zaj rfl rfl (by omega) (st (Zc rfl (Zg ?_))))))))
  exact Zad (((i + 1)), ((os.set ((i + (n / 32))).toNat (ior (ix os (i + (n / 32))) (((ix xs i) * (2 ^ ((n % 32)).toNat)) % 4294967296))).set (((i + (n / 32)) + 1)).toNat (ior (ix (os.set ((i + (n / 32))).toNat (ior (ix os (i + (n / 32))) (((ix xs i) * (2 ^ ((n % 32)).toNat)) % 4294967296))) ((i + (n / 32)) + 1)) (((((ix xs i) * (2 ^ ((n % 32)).toNat)) % 18446744073709551616) / 4294967296) % 4294967296)))) ⟨hb31, by omega, by rw [List.length_set, List.length_set]; exact hol, hO29, hstep.1, hstep.2.1, hstep.2.2⟩ (by omega) (by exact ⟨rfl, rfl, rfl, rfl, rfl, rfl, trivial⟩)
end Go.Proofs.Ytfljelnfjbbknaa.Lm
namespace Go.Proofs.Ytfljelnfjbbknaa.Lm
open Go.RowKit Go.Gw
set_option maxHeartbeats 1000000 in
theorem len32_any {w : World} {x : Int} (hx : 0 ≤ x ∧ x < 4294967296) :
    Calls Try.prog 106 [.int .u32 x].toArray w (Zbi w fun v _ => v = .int .i64 (Zd4 x)) := by
  have hb0 := Below.refl w.heap.size w
  refine enter Try.func106 rfl rfl (Zh (Zb (st (Ze rfl (Zg (Zd (Zh ?_)))))))
  refine Zh (Zb (st (Zc rfl (st (s_ge rfl rfl (Zg (Zd ?_)))))))
  refine Zw rfl (fun h1 => ?_) (fun h1 => ?_)
  rotate_left
  · refine Zn (Zd (Zh (Zh (Zb (st (Zc rfl (st (s_ge rfl rfl ?_))))))))
    refine Zg (Zd ?_)
    refine Zw rfl (fun h3 => ?_) (fun h3 => ?_)
    rotate_left
    · refine Zn (Zd (Zh (Zb (st (Zc rfl (st (Zc rfl (st (Zct (M := 256) rfl rfl Zdn Zif rfl ?_)))))))))
      refine st (s_sidx str9 rfl rfl (by omega) (tab_lt (by decide +kernel) (by omega)) (st (Zhl Zif Zjn rfl (bl_conv _ _) (st (Zaj rfl rfl (by first | omega | exact Zlk (by omega)) (st (Ze rfl (Zg (Zd (Zx rfl rfl ?_))))))))))
      exact ⟨_, rfl, hb0, congrArg (Value.int .i64) (len_fin (by decide +kernel) (by omega) (by omega))⟩
    refine Zh (Zb (st (Zc rfl (st (Zic (p := 256) rfl rfl (by decide) (by decide) (st (Ze rfl (Zg (Zd ?_)))))))))
    refine Zb (st (Zc rfl (st (Zaj rfl rfl (by first | omega | exact Zlk (by omega)) (st (Ze rfl (Zg (Zd (Zh ?_)))))))))
    refine Zb (st (Zc rfl (st (Zc rfl (st (Zct (M := 256) rfl rfl Zdn Zif rfl (st (s_sidx str9 rfl rfl (by omega) (tab_lt (by decide +kernel) (by omega)) (st (Zhl Zif Zjn rfl (bl_conv _ _) (st (Zaj rfl rfl (by first | omega | exact Zlk (by omega)) ?_))))))))))))
    refine st (Ze rfl (Zg (Zd (Zx rfl rfl ?_))))
    have e2 := blen8 (x := x) (by omega)
    exact ⟨_, rfl, hb0, congrArg (Value.int .i64) (len_fin (by decide +kernel) (by omega) (by omega))⟩
  refine Zh (Zb (st (Zc rfl (st (Zic (p := 65536) rfl rfl (by decide) (by decide) (st (Ze rfl (Zg (Zd ?_)))))))))
  refine Zb (st (Ze rfl (Zg (Zd (Zh (Zh (Zb ?_)))))))
  refine st (Zc rfl (st (s_ge rfl rfl (Zg (Zd ?_)))))
  refine Zw rfl (fun h2 => ?_) (fun h2 => ?_)
  rotate_left
  · refine Zn (Zd (Zh (Zb (st (Zc rfl (st (Zc rfl (st (Zct (M := 256) rfl rfl Zdn Zif rfl ?_)))))))))
    refine st (s_sidx str9 rfl rfl (by omega) (tab_lt (by decide +kernel) (by omega)) (st (Zhl Zif Zjn rfl (bl_conv _ _) (st (Zaj rfl rfl (by first | omega | exact Zlk (by omega)) (st (Ze rfl (Zg (Zd (Zx rfl rfl ?_))))))))))
    have e1 := blen16 (x := x) (by omega)
    exact ⟨_, rfl, hb0, congrArg (Value.int .i64) (len_fin (by decide +kernel) (by omega) (by omega))⟩
  refine Zh (Zb (st (Zc rfl (st (Zic (p := 256) rfl rfl (by decide) (by decide) (st (Ze rfl (Zg (Zd ?_)))))))))
  refine Zb (st (Zc rfl (st (Zaj rfl rfl (by first | omega | exact Zlk (by omega)) (st (Ze rfl (Zg (Zd (Zh ?_)))))))))
  refine Zb (st (Zc rfl (st (Zc rfl (st (Zct (M := 256) rfl rfl Zdn Zif rfl (st (s_sidx str9 rfl rfl (by omega) (tab_lt (by decide +kernel) (by omega)) (st (Zhl Zif Zjn rfl (bl_conv _ _) (st (Zaj rfl rfl (by first | omega | exact Zlk (by omega)) ?_))))))))))))
  refine st (Ze rfl (Zg (Zd (Zx rfl rfl ?_))))
  have e1 := blen16 (x := x) (by omega)
  have e2 := blen8 (x := (x / 65536)) (by omega)
  exact ⟨_, rfl, hb0, congrArg (Value.int .i64) (len_fin (by decide +kernel) (by omega) (by omega))⟩
set_option maxHeartbeats 1000000 in
theorem len_any {w : World} {a : Value} {xs : List Int} (ha : Sl Kd.u32 w (fun _ => False) a xs) (hla : xs.length ≤ 100000) :
    Calls Try.prog 89 [a].toArray w (Zbi w fun v _ => v = .int .i64 (Zd4 (nv xs))) := by
  have hb0 := Below.refl w.heap.size w
  have hln1 := ha.lenle
  have hx9 := (Zek (nv xs)).ix (((tl (nv xs)).length : Int) - 1)
  have hb9 := blen_le hx9
  have hl9 := Zll (Zam (Zaw ha)) (Zjl (Zaw ha))
  refine enter Try.func89 rfl rfl (Zh (Zb (st (Ze rfl (Zg (Zd (Zh ?_)))))))
  refine Zb (st (Zc rfl (st (Zp fn99 rfl (Zg0 (ha.at0 hb0)) ?_))))
  rintro v1 w1 ⟨hq1, hS1⟩
  have hS2 := hS1.orig Zd9 hb0
  have k1 := Zi hq1 none
  have hz1 := hq1.size
  have hb1 := Zf hb0 k1
  have hz2 := hb1.size
  refine st (Ze rfl (Zg (Zd (Zh (Zh (Zb (st (Zc rfl ?_))))))))
  refine st (Zar Zbq rfl (hS2.at0 hb1) (st (Zbr rfl rfl (Zg (Zd ?_)))))
  refine Zw rfl (fun h1 => ?_) (fun h1 => ?_)
  · refine Zh (Zb (st (Ze rfl (Zg (Zd (Zx rfl rfl ?_))))))
    have e : tl (nv xs) = [] := List.eq_nil_of_length_eq_zero (by omega)
    have e2 : nv xs ≤ 0 := by rw [← Zft (Zam (Zaw ha)), e]; exact Int.le_refl _
    exact ⟨_, rfl, hb1, by rw [Zhb e2]⟩
  refine Zn (Zd (Zh (Zb (st (Zc rfl (st (Zar Zbq rfl (hS2.at0 hb1) (st (Zbh rfl rfl (by omega) ?_)))))))))
  refine st (s_mul rfl rfl (by omega) (st (Zc rfl (st (Zc rfl (st (Zar Zbq rfl (hS2.at0 hb1) (st (Zbh rfl rfl (by omega) (st (Zaz Zbq rfl rfl (hS2.at0 hb1) (by omega) (by omega) ?_)))))))))))
  rintro b1 o1 _ ⟨rfl, hr1⟩ hc1 hF1 hlt1
  have hl_1 := Loc.lt hF1
  refine st (Zs Zc4 rfl hc1 (j := 0) rfl (st (Zp fn106 rfl (len32_any (by omega)) ?_)))
  rintro _ w2 ⟨hq2, rfl⟩
  have k2 := Zi hq2 none
  have hz3 := hq2.size
  have hb2 := Zf hb1 k2
  have hz4 := hb2.size
  refine st (Zaj rfl rfl (by omega) (st (Ze rfl (Zg (Zd (Zx rfl rfl ?_))))))
  have e := blen_last (Zek (nv xs)) (Zkl (nv xs)) h1
  rw [Zft (Zam (Zaw ha))] at e
  exact ⟨_, rfl, hb2, by rw [← e]⟩
set_option maxHeartbeats 1000000 in
theorem bit_any {w : World} {a : Value} {i : Int} {xs : List Int} (ha : Sl Kd.u32 w (fun _ => False) a xs) (hi : i ≤ 9223372036854775807) :
    Calls Try.prog 95 [a, .int .i64 i].toArray w (Zbi w fun v _ => v = .bool (Zeu (nv xs) i)) := by
  have hb0 := Below.refl w.heap.size w
  have hln1 := ha.lenle
  have hxi := (Zaw ha).ix (i / 32)
  have hsb := shr_bd hxi (i % 32)
  refine enter Try.func95 rfl rfl (Zh (Zb (st (Ze rfl (Zg (Zd (Zh ?_)))))))
  refine Zb (st (Zc rfl (st (s_ge rfl rfl (st (Zc rfl ?_))))))
  refine Za0 7 rfl (fun h1 => ?_) (fun h1 => ?_)
  rotate_left
  · refine Zj rfl rfl (Zj rfl rfl (Zj rfl rfl (Zj rfl rfl (Zj rfl rfl (st (Zo rfl rfl (st (Zc rfl ?_))))))))
    refine Zj rfl rfl (Zj rfl rfl (Zj rfl rfl (Zj rfl rfl (Zj rfl rfl (Zj rfl rfl (Zj rfl rfl ?_))))))
    refine Zj rfl rfl (Zj rfl rfl (Zj rfl rfl (st (Zo rfl rfl (st (Ze rfl (Zg (Zd ?_))))))))
    refine Zx rfl rfl ?_
    exact ⟨_, rfl, hb0, by rw [bit_no1 (by omega)]⟩
  refine stg (Zc rfl (stg (s_quoi rfl rfl (by omega) (by omega) (stg (Zc rfl (stg (Zar Zbq rfl (ha.at0 hb0) (stg (Zbf rfl rfl (st (Zo rfl rfl (st (Zc rfl ?_)))))))))))))
  refine Za0 14 rfl (fun h2 => ?_) (fun h2 => ?_)
  rotate_left
  · refine Zj rfl rfl (Zj rfl rfl (Zj rfl rfl (Zj rfl rfl (Zj rfl rfl (Zj rfl rfl (Zj rfl rfl ?_))))))
    refine Zj rfl rfl (Zj rfl rfl (Zj rfl rfl (st (Zo rfl rfl (st (Ze rfl (Zg (Zd ?_))))))))
    refine Zx rfl rfl ?_
    exact ⟨_, rfl, hb0, by rw [bit_no2 (Zaw ha) (by omega) (by omega)]⟩
  refine stg (Zc rfl (stg (Zc rfl (stg (s_quoi rfl rfl (by omega) (by omega) (stg (Zaz Zbq rfl rfl (ha.at0 hb0) (by omega) (by omega) ?_)))))))
  rintro b1 o1 _ ⟨rfl, hr1⟩ hc1 hF1 hlt1
  have hl_1 := Loc.lt hF1
  refine stg (Zs Zc4 rfl hc1 (j := 0) rfl (stg (Zc rfl (stg (Zet rfl rfl (by omega) (by omega) (stg (Zic (p := (2 ^ ((i % 32)).toNat)) rfl rfl (by omega) (by rw [Nat.min_eq_left (by show ((i % 32)).toNat ≤ 32; omega)]) (stg (s_and (M := 4294967296) rfl rfl rfl rfl (by omega) (by omega) (stg (Zbr rfl rfl (st (Zo rfl rfl ?_)))))))))))))
  refine st (Ze rfl (Zg (Zd (Zx rfl rfl ?_))))
  exact ⟨_, rfl, hb0, by rw [bit_yes (Zaw ha) (by omega) (by omega)]⟩
end Go.Proofs.Ytfljelnfjbbknaa.Lm
namespace Go.Proofs.Ytfljelnfjbbknaa.Lm
open Go.RowKit Go.Gw
set_option maxHeartbeats 1000000 in
theorem bcut_any {w : World} {F : Nat → Prop} {a : Value} {xs : List Bool} (ha : Sl Kd.bool w F a xs) :
    Calls Try.prog 105 [a].toArray w (Zbi w fun v _ => Sl Kd.bool w F v (tb (bv xs))) := by
  have hb0 := Below.refl w.heap.size w
  have hln1 := ha.lenle
  refine enter Try.func105 rfl rfl (Zh (Zb (st (Ze rfl (Zg (Zd (Zh ?_)))))))
  refine Zz (Za4 (α := Value × List Bool) (fun ((v, ys) : Value × List Bool) => [(0, v), (2, .slice none 0 0)]) (fun ((v, ys) : Value × List Bool) W => Below w.heap.size w W ∧ (Sl Kd.bool w F v ys) ∧ (bv ys = bv xs)) (fun ((v, ys) : Value × List Bool) => ys.length) ((a), (xs)) ⟨hb0, ha, rfl⟩ (by exact ⟨rfl, rfl, trivial⟩) ?_)
  rintro ⟨v, ys⟩ w1 ⟨hb1, hv, hn⟩
  dsimp only at *
  have hz1 := hb1.size
  have hln9 := hv.lenle
  refine Zh (Zh (Zb (st (Zc rfl (st (Zar Zcm rfl (hv.at0 hb1) (st (Zcj rfl rfl (st (Zc rfl ?_))))))))))
  refine Za0 6 rfl (fun h1 => ?_) (fun h1 => ?_)
  rotate_left
  · have hc3 : Zhx ys := .inl (List.eq_nil_of_length_eq_zero (by omega))
    refine Zj rfl rfl (Zj rfl rfl (Zj rfl rfl (Zj rfl rfl (Zj rfl rfl (Zj rfl rfl (Zj rfl rfl ?_))))))
    refine st (Zo rfl rfl (Zg (Zd (Zbv rfl (Zan (Zk (Zk ?_)))))))
    refine Zt (Zd (Zh (Zb (st (Zc rfl (st (Ze rfl (Zg ?_))))))))
    refine Zd (Zx rfl rfl ?_)
    exact ⟨_, rfl, hb1, by rw [← hn, tb_bv hc3]; exact hv⟩
  refine stg (Zc rfl (stg (Zc rfl (stg (Zar Zcm rfl (hv.at0 hb1) (stg (Zbh rfl rfl (by omega) (stg (Zaz Zcm rfl rfl (hv.at0 hb1) (by omega) (by omega) ?_)))))))))
  rintro b1 o1 _ ⟨rfl, _⟩ hc1 hF1 hlt1
  have hl_1 := Loc.lt hF1
  refine stg (Zs Zdv rfl hc1 (j := 0) rfl (stg (Zdk rfl (st (Zo rfl rfl (Zg (Zd ?_)))))))
  refine Zbd rfl (fun h2 => ?_) (fun h2 => ?_)
  rotate_left
  · have hc3 : Zhx ys := .inr (by simpa using h2)
    refine Zan (Zk (Zk (Zt (Zd (Zh (Zb ?_))))))
    refine st (Zc rfl (st (Ze rfl (Zg (Zd (Zx rfl rfl ?_))))))
    exact ⟨_, rfl, hb1, by rw [← hn, tb_bv hc3]; exact hv⟩
  have hc2 := bv_cut h1 (by simpa using h2)
  refine Zn (Zd (Zz (Zb (st (Zc rfl (st (Zc rfl (st (Zar Zcm rfl (hv.at0 hb1) ?_)))))))))
  refine st (Zbh rfl rfl (by omega) (st (s_slhi Zcm rfl rfl (hv.at0 hb1) (by first | omega | (simp; omega)) (by first | omega | (simp; omega)) ?_)))
  intro v1 hS1
  refine st (Ze rfl (Zg (Zab ?_)))
  exact Zad ((v1), (ys.take (((ys.length : Int) - 1)).toNat)) ⟨hb1, (hS1).orig Zff hb1, by rw [show ((ys.length : Int) - 1).toNat = ys.length - 1 by omega]; exact hc2.trans hn⟩ (by simp; omega) (by exact ⟨rfl, rfl, trivial⟩)
set_option maxHeartbeats 1000000 in
theorem Zh3 {w : World} {a : Value} {i : Int} {xs : List Bool} (ha : Sl Kd.bool w (fun _ => False) a xs) :
    Calls Try.prog 86 [a, .int .i64 i].toArray w (Zbi w fun v _ => v = .bool (atB xs i)) := by
  have hb0 := Below.refl w.heap.size w
  have hln1 := ha.lenle
  refine enter Try.func86 rfl rfl (Zh (Zb (st (Ze rfl (Zg (Zd (Zh ?_)))))))
  refine Zb (st (Zc rfl (st (s_ge rfl rfl (st (Zc rfl ?_))))))
  refine Za0 7 rfl (fun h1 => ?_) (fun h1 => ?_)
  rotate_left
  · refine Zj rfl rfl (Zj rfl rfl (Zj rfl rfl (Zj rfl rfl (st (Zo rfl rfl (st (Zc rfl (Zj rfl rfl ?_))))))))
    refine Zj rfl rfl (Zj rfl rfl (Zj rfl rfl (st (Zo rfl rfl (st (Ze rfl (Zg (Zd ?_))))))))
    refine Zx rfl rfl ?_
    exact ⟨_, rfl, hb0, by unfold atB; rw [decide_eq_false h1]; rfl⟩
  refine stg (Zc rfl (stg (Zc rfl (stg (Zar Zcm rfl (ha.at0 hb0) (stg (Zbf rfl rfl (st (Zo rfl rfl (st (Zc rfl ?_)))))))))))
  refine Za0 13 rfl (fun h2 => ?_) (fun h2 => ?_)
  rotate_left
  · refine Zj rfl rfl (Zj rfl rfl (Zj rfl rfl (Zj rfl rfl (st (Zo rfl rfl (st (Ze rfl (Zg ?_))))))))
    refine Zd (Zx rfl rfl ?_)
    exact ⟨_, rfl, hb0, by unfold atB; rw [decide_eq_true (by omega), decide_eq_false h2]; rfl⟩
  refine stg (Zc rfl (stg (Zc rfl (stg (Zaz Zcm rfl rfl (ha.at0 hb0) (by omega) (by omega) ?_)))))
  rintro b1 o1 _ ⟨rfl, _⟩ hc1 hF1 hlt1
  have hl_1 := Loc.lt hF1
  refine stg (Zs Zdv rfl hc1 (j := 0) rfl (st (Zo rfl rfl (st (Ze rfl (Zg (Zd (Zx rfl rfl ?_))))))))
  exact ⟨_, rfl, hb0, by unfold atB; rw [decide_eq_true (by omega), decide_eq_true (by omega), Bool.true_and, Bool.true_and]⟩
set_option maxHeartbeats 1000000 in
theorem Ze1 {w : World} {a : Value} {xs : List Int} (ha : Sl Kd.u32 w (fun _ => False) a xs) (hla : xs.length ≤ 100000) :
    Calls Try.prog 85 [a].toArray w (Zbi w fun v W => Sl Kd.bool W (fun _ => False) v (tb (nv xs))) := by
  have hb0 := Below.refl w.heap.size w
  have hln1 := ha.lenle
  refine enter Try.func85 rfl rfl (Zh (Zb (st (Ze rfl (Zg (Zd (Zh ?_)))))))
  refine Zb (st (Ze rfl (Zg (Zd (Zh (Zh (Zb ?_)))))))
  refine st (Ze rfl (Zg (Zd (Zz (Za4 (α := Int × Value × List Bool) (fun ((i, v, os) : Int × Value × List Bool) => [(0, a), (2, .slice none 0 0), (3, v), (4, .int .i64 i)]) (fun ((i, v, os) : Int × Value × List Bool) W => Below w.heap.size w W ∧ (0 ≤ i ∧ i ≤ xs.length) ∧ (Gw.Own Kd.bool 4 w.heap.size W (fun _ => False) v os) ∧ ((os.length : Int) = 32 * i) ∧ (bv os = nv (xs.take i.toNat))) (fun ((i, v, os) : Int × Value × List Bool) => (xs.length - i).toNat) ((0), (.slice none 0 0), ([])) ⟨hb0, by omega, Own.nil Kd.bool 4 _ _ _, rfl, rfl⟩ (by exact ⟨rfl, rfl, rfl, rfl, trivial⟩) ?_)))))
  rintro ⟨i, v, os⟩ w1 ⟨hb1, hi, hO, hol, hn⟩
  dsimp only at *
  have hz1 := hb1.size
  have hxa := (Zaw ha).ix i
  refine Zh (Zh (Zb (st (Zc rfl (st (Zc rfl (st (Zar Zbq rfl (ha.at0 hb1) (st (Zbf rfl rfl ?_))))))))))
  refine Zg (Zd ?_)
  refine Zw rfl (fun h1 => ?_) (fun h1 => ?_)
  rotate_left
  · refine Zan (Zk (Zk (Zt (Zd (Zh (Zb ?_))))))
    refine st (Zc rfl (st (Zp fn105 rfl (bcut_any hO.sl) ?_)))
    rintro v2 w5 ⟨hq1, hS1⟩
    have k3 := Zi hq1 none
    have hz5 := hq1.size
    have hb5 := Zf hb1 k3
    have hz6 := hb5.size
    have hS2 := hS1.none.g0 k3
    refine st (Ze rfl (Zg (Zd (Zx rfl rfl ?_))))
    refine ⟨_, rfl, hb5, ?_⟩
    rw [← show bv os = nv xs by rw [hn, List.take_of_length_le (by omega)]]
    exact hS2
  refine Zn (Zd (Zh (Zz (Zh (Zb (st (Zc rfl ?_)))))))
  refine st (Zc rfl (st (Zaz Zbq rfl rfl (ha.at0 hb1) (by omega) (by omega) ?_)))
  rintro b1 o1 _ ⟨rfl, hr1⟩ hc1 hF1 hlt1
  have hl_1 := Loc.lt hF1
  refine st (Zs Zc4 rfl hc1 (j := 0) rfl (st (Ze rfl (Zg (Zd (Zh (Zb (st (Ze rfl ?_)))))))))
  refine Zg (Zd (Zz ?_))
  refine Za4 (α := Int × Value × List Bool × Int) (fun ((k, v, os, x) : Int × Value × List Bool × Int) => [(0, a), (2, .slice none 0 0), (3, v), (4, .int .i64 i), (5, .int .u32 x), (6, .int .i64 k)]) (fun ((k, v, os, x) : Int × Value × List Bool × Int) W => Below w.heap.size w W ∧ (0 ≤ k ∧ k ≤ 32) ∧ (Gw.Own Kd.bool 4 w.heap.size W (fun _ => False) v os) ∧ ((os.length : Int) = 32 * i + k) ∧ (0 ≤ x ∧ x < 2 ^ (32 - k).toNat) ∧ (x < 4294967296) ∧ (bv os + 2 ^ os.length * x = nv (xs.take i.toNat) + PW i.toNat * ix xs i)) (fun ((k, v, os, x) : Int × Value × List Bool × Int) => (32 - k).toNat) ((0), (v), (os), (ix xs i)) ⟨hb1, by omega, hO, by omega, ⟨hxa.1, hxa.2⟩, hxa.2, by rw [hn, Zln, show os.length = 32 * i.toNat by omega]⟩ (by exact ⟨rfl, rfl, rfl, rfl, rfl, rfl, trivial⟩) ?_
  rintro ⟨k, v, os, x⟩ w2 ⟨hb2, hk, hO, hol, hx2, hxl, hn2⟩
  dsimp only at *
  have hz2 := hb2.size
  refine Zh (Zh (Zb (st (Zc rfl (st (Zbf rfl rfl (Zg (Zd ?_))))))))
  refine Zw rfl (fun h2 => ?_) (fun h2 => ?_)
  rotate_left
  · refine Zan (Zk (Zk (Zt (Zab (Zd (Zb ?_))))))
    refine st (Zc rfl (st (Zaj rfl rfl (by omega) (st (Ze rfl (Zg ?_))))))
    exact Zad (((i + 1)), (v), (os)) ⟨hb2, by omega, hO, by dsimp only; omega, bits_next (bits_end hn2 hx2 (by omega)) hi.1⟩ (by omega) (by exact ⟨rfl, rfl, rfl, rfl, trivial⟩)
  refine Zn (Zd (Zh (Zz (Zb (st (Zc rfl (st (Zc rfl ?_))))))))
  refine st (Zet rfl rfl (by omega) (by omega) (st (Zbr rfl rfl (st (Zay (ps := [(0, .tmp 24)]) (ccs := [#[.bool (decide ((x % 2) = 1))]]) (e := 4) (cells := [.bool (decide ((x % 2) = 1))]) rfl rfl (by kernel_rfl) (by decide) nz4 ?_)))))
  intro g1 w3 hg1 hB1 k1 hs1
  have hb3 := Zf hb2 k1
  have hz3 := hb3.size
  have hO1 := hO.g0 k1
  refine st (Zbc (K := Kd.bool) Zcm rfl rfl hO1 (Zco hB1 hO (fun h => h) hg1) Zb2 (by simp; omega) (by simp; omega) (by first | exact Nat.le_refl _ | omega) (fun _ h => h.elim) ?_)
  intro v1 w4 hO2 k2 hr2
  have hb4 := hb3.grown k2 hb3.size (fun k_ hk_ => (hO1.lt k_ hk_).1)
  have hz4 := hb4.size
  refine st (Zc rfl (st (s_quok (M := 4294967296) rfl rfl rfl rfl (by omega) (by omega) (st (Ze rfl (st (Ze rfl (Zg (Zab (Zd ?_))))))))))
  refine Zb (st (Zc rfl (st (Zaj rfl rfl (by omega) (st (Ze rfl (Zg ?_)))))))
  exact Zad (((k + 1)), (v1), (os ++ [decide ((x % 2) = 1)]), ((x / 2))) ⟨hb4, by omega, hO2, by simp; omega, half_bd hx2 hk.1 (by omega), by dsimp only; omega, bits_step hn2⟩ (by omega) (by exact ⟨rfl, rfl, rfl, rfl, rfl, rfl, trivial⟩)
end Go.Proofs.Ytfljelnfjbbknaa.Lm
namespace Go.Proofs.Ytfljelnfjbbknaa.Lm
open Go.RowKit Go.Gw
set_option maxHeartbeats 1000000 in
theorem rof_any {w : World} {n0 : Nat} (hn0 : n0 ≤ w.heap.size) {a : Value} {xs : List Bool} (ha : Sl Kd.bool w (fun _ => False) a xs) (hla : xs.length ≤ 10000000) :
    Calls Try.prog 87 [a].toArray w (Zbi w fun v W => Sl Kd.u32 W (G 83 n0 W) v (tl (bv xs))) := by
  have hb0 := Below.refl w.heap.size w
  have hln1 := ha.lenle
  have hbl : ((tb (bv xs)).length : Int) ≤ 10000000 := tb_le (by omega)
  refine enter Try.func87 rfl rfl (Zh (Zb (st (Ze rfl (Zg (Zd (Zh ?_)))))))
  refine Zb (st (Zc rfl (st (Zp fn105 rfl (bcut_any (ha.at0 hb0)) ?_))))
  rintro v1 w1 ⟨hq1, hS1⟩
  have hS2 := hS1.orig Zff hb0
  have k1 := Zi hq1 none
  have hz1 := hq1.size
  have hb1 := Zf hb0 k1
  have hz2 := hb1.size
  refine st (Ze rfl (Zg (Zd (Zh (Zb (st (Ze rfl (Zg ?_))))))))
  refine Zd (Zh (Zh (Zb (st (Ze rfl (Zg (Zd ?_)))))))
  refine Zz ?_
  refine Za4 (α := Int × Value × List Int) (fun ((i, v, os) : Int × Value × List Int) => [(0, v1), (2, .slice none 0 0), (3, v), (4, .int .i64 i)]) (fun ((i, v, os) : Int × Value × List Int) W => Below w.heap.size w W ∧ (0 ≤ i ∧ i ≤ (tb (bv xs)).length + 31) ∧ (Gw.Own Kd.u32 83 w.heap.size W (fun _ => False) v os) ∧ ((os.length : Int) * 32 = i) ∧ (nv os + PW os.length * bv ((tb (bv xs)).drop i.toNat) = bv (tb (bv xs))) ∧ ((i < (tb (bv xs)).length) ∨ Zda os = true)) (fun ((i, v, os) : Int × Value × List Int) => ((tb (bv xs)).length - i).toNat) ((0), (.slice none 0 0), ([])) ⟨hb1, by omega, Own.nil Kd.u32 83 _ _ _, rfl, by simp [nv, PW_zero], .inr rfl⟩ (by exact ⟨rfl, rfl, rfl, rfl, trivial⟩) ?_
  rintro ⟨i, v, os⟩ w2 ⟨hb2, hi, hO, hol, hn, hr⟩
  dsimp only at *
  have hz3 := hb2.size
  refine Zh (Zh (Zb (st (Zc rfl (st (Zc rfl (st (Zar Zcm rfl (hS2.at0 hb2) (st (Zbf rfl rfl ?_))))))))))
  refine Zg (Zd ?_)
  refine Zw rfl (fun h1 => ?_) (fun h1 => ?_)
  rotate_left
  · refine Zan (Zk (Zk (Zt (Zd (Zh (Zb ?_))))))
    refine st (Zc rfl (st (Ze rfl (Zg (Zd (Zx rfl rfl ?_))))))
    have he := of_end (Zaw hO.sl) (by omega) hn hr
    rw [bv_tb (bv_bd xs).1] at he
    refine ⟨_, rfl, hb2, ?_⟩
    rw [he]
    exact hO.slG
  refine Zn (Zd (Zh (Zz (Zh (Zb (st (Ze rfl ?_)))))))
  refine st (Ze rfl (Zg (Zd (Zh (Zh (Zb (st (Zc rfl ?_))))))))
  refine st (Ze rfl (Zg (Zd (Zz ?_))))
  refine Za4 (α := Int × Int × Int) (fun ((k, x, p) : Int × Int × Int) => [(0, v1), (2, .slice none 0 0), (3, v), (4, .int .i64 i), (5, .int .u32 x), (6, .int .u32 p), (7, .int .i64 k)]) (fun ((k, x, p) : Int × Int × Int) W => Below w.heap.size w W ∧ (i ≤ k ∧ k ≤ (tb (bv xs)).length ∧ k ≤ i + 32) ∧ (x = bv (((tb (bv xs)).drop i.toNat).take (k - i).toNat)) ∧ (p = 2 ^ (k - i).toNat % 4294967296) ∧ (Gw.Own Kd.u32 83 w.heap.size W (fun _ => False) v os)) (fun ((k, x, p) : Int × Int × Int) => (i + 32 - k).toNat) ((i), (0), (1)) ⟨hb2, by omega, by rw [Int.sub_self]; rfl, by rw [Int.sub_self]; rfl, hO⟩ (by exact ⟨rfl, rfl, rfl, rfl, rfl, rfl, rfl, trivial⟩) ?_
  rintro ⟨k, x, p⟩ w3 ⟨hb3, hk, hx, hp, hO2⟩
  dsimp only at *
  have hz4 := hb3.size
  refine Zh (Zh (Zb (st (Zc rfl (st (Zc rfl (st (Zar Zcm rfl (hS2.at0 hb3) (st (Zbf rfl rfl ?_))))))))))
  refine st (Zc rfl ?_)
  refine Za0 21 rfl (fun h2 => ?_) (fun h2 => ?_)
  rotate_left
  · refine Zj rfl rfl (Zj rfl rfl (Zj rfl rfl (Zj rfl rfl (st (Zo rfl rfl (Zg (Zd ?_)))))))
    refine Zbv rfl (Zan (Zk (Zk (Zt (Zd (Zb ?_))))))
    have hch := of_chunk hi.1 hk hx (by omega)
    have hnx := of_next (right_tb _) hi.1 (by omega) hch hn
    refine st (Zc rfl (st (Zc rfl (st (Zay (ps := [(0, .tmp 39)]) (ccs := [#[.int .u32 x]]) (e := 83) (cells := [.int .u32 x]) rfl rfl (by kernel_rfl) (by decide) nz83 ?_)))))
    intro g2 w6 hg2 hB2 k4 hs2
    have hb6 := Zf hb3 k4
    have hz7 := hb6.size
    have hO3 := hO2.g0 k4
    refine st (Zbc (K := Kd.u32) Zbq rfl rfl hO3 (lit_u32 hB2 hO2 (fun h => h) hg2 (by omega)) u32_ones (by simp; omega) (by simp; omega) (by first | exact Nat.le_refl _ | omega) (fun _ h => h.elim) ?_)
    intro v3 w7 hO4 k5 hr3
    have hb7 := hb6.grown k5 hb6.size (fun k_ hk_ => (hO3.lt k_ hk_).1)
    have hz8 := hb7.size
    refine st (Ze rfl (Zg (Zab (Zd (Zb (st (Zc rfl (st (Zaj rfl rfl (by omega) ?_)))))))))
    refine st (Ze rfl (Zg ?_))
    exact Zad (((i + 32)), (v3), (os ++ [x])) ⟨hb7, by omega, hO4, by simp; omega, hnx.2.1, hnx.2.2⟩ (by omega) (by exact ⟨rfl, rfl, rfl, rfl, trivial⟩)
  refine stg (Zc rfl (stg (Zc rfl (stg (Zaj rfl rfl (by omega) (stg (Zbf rfl rfl (st (Zo rfl rfl (Zg (Zd ?_)))))))))))
  refine Zw rfl (fun h3 => ?_) (fun h3 => ?_)
  rotate_left
  · refine Zan (Zk (Zk (Zt (Zd (Zb ?_)))))
    have hch := of_chunk hi.1 hk hx (by omega)
    have hnx := of_next (right_tb _) hi.1 (by omega) hch hn
    refine st (Zc rfl (st (Zc rfl (st (Zay (ps := [(0, .tmp 39)]) (ccs := [#[.int .u32 x]]) (e := 83) (cells := [.int .u32 x]) rfl rfl (by kernel_rfl) (by decide) nz83 ?_)))))
    intro g1 w4 hg1 hB1 k2 hs1
    have hb4 := Zf hb3 k2
    have hz5 := hb4.size
    have hO1 := hO2.g0 k2
    refine st (Zbc (K := Kd.u32) Zbq rfl rfl hO1 (lit_u32 hB1 hO2 (fun h => h) hg1 (by omega)) u32_ones (by simp; omega) (by simp; omega) (by first | exact Nat.le_refl _ | omega) (fun _ h => h.elim) ?_)
    intro v2 w5 hO2 k3 hr2
    have hb5 := hb4.grown k3 hb4.size (fun k_ hk_ => (hO1.lt k_ hk_).1)
    have hz6 := hb5.size
    refine st (Ze rfl (Zg (Zab (Zd (Zb (st (Zc rfl (st (Zaj rfl rfl (by omega) ?_)))))))))
    refine st (Ze rfl (Zg ?_))
    exact Zad (((i + 32)), (v2), (os ++ [x])) ⟨hb5, by omega, hO2, by simp; omega, hnx.2.1, hnx.2.2⟩ (by omega) (by exact ⟨rfl, rfl, rfl, rfl, trivial⟩)
  obtain ⟨e1, e2, e3, e4, e5, e6, e7⟩ := of_step hi.1 ⟨hk.1, by omega, by omega⟩ hx hp
  refine Zn (Zd (Zh (Zz (Zh (Zh (Zb ?_))))))
  refine st (Zc rfl (st (Zc rfl (st (Zaz Zcm rfl rfl (hS2.at0 hb3) (by omega) (by omega) ?_)))))
  rintro b1 o1 _ ⟨rfl, _⟩ hc1 hF1 hlt1
  have hl_1 := Loc.lt hF1
  refine st (Zs Zdv rfl hc1 (j := 0) rfl (Zg (Zd ?_)))
  refine Zbd rfl (fun h4 => ?_) (fun h4 => ?_)
  rotate_left
  · refine Zn (Zd (Zb (st (Zc rfl (st (s_mulm (M := 4294967296) rfl rfl rfl rfl (st (Ze rfl (Zg ?_)))))))))
    refine Zab (Zd (Zb (st (Zc rfl (st (Zaj rfl rfl (by omega) (st (Ze rfl (Zg ?_)))))))))
    exact Zad (((k + 1)), (x), (((p * 2) % 4294967296))) ⟨hb3, by omega, by have e8 := e7; rw [h4] at e8; simpa [bn] using e8, e6, hO2⟩ (by omega) (by exact ⟨rfl, rfl, rfl, rfl, rfl, rfl, rfl, trivial⟩)
  refine Zb (st (Zc rfl (st (Zc rfl (st (s_addk (M := 4294967296) rfl rfl rfl rfl (by omega) (st (Ze rfl (Zg (Zd ?_))))))))))
  refine Zb (st (Zc rfl (st (s_mulm (M := 4294967296) rfl rfl rfl rfl (st (Ze rfl (Zg (Zab (Zd ?_)))))))))
  refine Zb (st (Zc rfl (st (Zaj rfl rfl (by omega) (st (Ze rfl (Zg ?_)))))))
  exact Zad (((k + 1)), ((x + p)), (((p * 2) % 4294967296))) ⟨hb3, by omega, by have e8 := e7; rw [h4] at e8; simpa [bn] using e8, e6, hO2⟩ (by omega) (by exact ⟨rfl, rfl, rfl, rfl, rfl, rfl, rfl, trivial⟩)
set_option maxHeartbeats 1000000 in
theorem rnorm_any {w : World} {n0 : Nat} (hn0 : n0 ≤ w.heap.size) {a : Value} {xs : List Int} (ha : Sl Kd.u32 w (G 83 n0 w) a xs) (hla : xs.length ≤ 100000) :
    Calls Try.prog 84 [a].toArray w (Zbi w fun v W => Sl Kd.u32 W (G 83 n0 W) v (tl (nv xs))) := by
  have hb0 := Below.refl w.heap.size w
  have hln1 := ha.lenle
  have hbl := Ze2 (Zaw ha)
  refine enter Try.func84 rfl rfl (Zh (Zb (st (Ze rfl (Zg (Zd (Zh ?_)))))))
  refine Zb (st (Zc rfl (st (Zp fn85 rfl (Ze1 ((ha.at0 hb0)).none (by first | omega | (simp; done) | (simp; omega))) ?_))))
  rintro v1 w1 ⟨hq1, hS1⟩
  have k1 := Zi hq1 none
  have hz1 := hq1.size
  have hb1 := Zf hb0 k1
  have hz2 := hb1.size
  refine st (Zp fn87 rfl (rof_any (n0 := n0) (Zy hn0 hb1) (hS1).none (by first | omega | (simp; done) | (simp; omega))) ?_)
  rintro v2 w2 ⟨hq2, hS2⟩
  have k2 := Zi hq2 none
  have hz3 := hq2.size
  have hb2 := Zf hb1 k2
  have hz4 := hb2.size
  refine st (Ze rfl (Zg (Zd (Zx rfl rfl ?_))))
  refine ⟨_, rfl, hb2, ?_⟩
  have h := hS2
  rwa [bv_tb (Zam (Zaw ha))] at h
set_option maxHeartbeats 1000000 in
theorem rcmp_any {w : World} {a b : Value} {xs ys : List Int} (ha : Sl Kd.u32 w (fun _ => False) a xs) (hb : Sl Kd.u32 w (fun _ => False) b ys) (hla : xs.length ≤ 100000) (hlb : ys.length ≤ 100000) :
    Calls Try.prog 88 [a, b].toArray w (Zbi w fun v _ => v = .int .i64 (Zb1 (nv xs) (nv ys))) := by
  have hb0 := Below.refl w.heap.size w
  have hln1 := ha.lenle
  have hln2 := hb.lenle
  have hpa := Zam (Zaw ha)
  have hpb := Zam (Zaw hb)
  have hla2 := Ze2 (Zaw ha)
  have hlb2 := Ze2 (Zaw hb)
  have hba := Zgs (n := nv xs)
  have hbb := Zgs (n := nv ys)
  refine enter Try.func88 rfl rfl (Zh (Zb (st (Ze rfl (Zg (Zd (Zh ?_)))))))
  refine Zb (st (Zc rfl (st (Zp fn85 rfl (Ze1 ((ha.at0 hb0)).none (by first | omega | (simp; done) | (simp; omega))) ?_))))
  rintro v1 w1 ⟨hq1, hS1⟩
  have k1 := Zi hq1 none
  have hz1 := hq1.size
  have hb1 := Zf hb0 k1
  have hz2 := hb1.size
  refine st (Zc rfl (st (Zp fn85 rfl (Ze1 ((hb.at0 hb1)).none (by first | omega | (simp; done) | (simp; omega))) ?_)))
  rintro v2 w2 ⟨hq2, hS2⟩
  have k2 := Zi hq2 none
  have hz3 := hq2.size
  have hb2 := Zf hb1 k2
  have hz4 := hb2.size
  refine st (Ze rfl (st (Ze rfl (Zg (Zd (Zh (Zh (Zb ?_))))))))
  refine st (Zc rfl (st (Zar Zcm rfl (hS1.g0 k2) (st (Zc rfl (st (Zar Zcm rfl hS2 (st (s_max rfl rfl (st (Zbh rfl rfl (by omega) (st (Ze rfl ?_)))))))))))))
  refine Zg (Zd (Zz (Za4 (α := Int) (fun (i : Int) => [(5, v1), (6, v2), (7, .int .i64 i)]) (fun (i : Int) W => Below w.heap.size w W ∧ (-1 ≤ i ∧ i ≤ 3200000) ∧ (nv xs / 2 ^ (i + 1).toNat = nv ys / 2 ^ (i + 1).toNat) ∧ (Sl Kd.bool W (fun _ => False) v1 (tb (nv xs))) ∧ (Sl Kd.bool W (fun _ => False) v2 (tb (nv ys)))) (fun (i : Int) => (i + 1).toNat) ((max ((tb (nv xs)).length : Int) ((tb (nv ys)).length : Int)) - 1) ⟨hb2, by omega, by rw [div_top hpa (by omega), div_top hpb (by omega)], (hS1.g0 k2), hS2⟩ (by exact ⟨rfl, rfl, rfl, trivial⟩) ?_)))
  rintro i w3 ⟨hb3, hi, hn, hS3, hS4⟩
  have hz5 := hb3.size
  refine Zh (Zh (Zb (st (Zc rfl (st (s_ge rfl rfl (Zg (Zd ?_))))))))
  refine Zw rfl (fun h1 => ?_) (fun h1 => ?_)
  rotate_left
  · refine Zan (Zk (Zk (Zt (Zd (Zh (Zb ?_))))))
    refine st (Ze rfl (Zg (Zd (Zx rfl rfl ?_))))
    exact ⟨_, rfl, hb3, by rw [bcmp_end (by omega) hn]⟩
  refine Zn (Zd (Zh (Zz (Zh (Zb (st (Zc rfl ?_)))))))
  refine st (Zc rfl (st (Zp fn86 rfl (Zh3 (hS3).none) ?_)))
  rintro v3 w4 ⟨hq3, hv1⟩
  rw [Zhz (Zam (Zaw ha))] at hv1
  subst hv1
  have k3 := Zi hq3 none
  have hz6 := hq3.size
  have hb4 := Zf hb3 k3
  have hz7 := hb4.size
  refine st (Zc rfl (st (Zc rfl (st (Zp fn86 rfl (Zh3 ((hS4.g0 k3)).none) ?_)))))
  rintro v4 w5 ⟨hq4, hv2⟩
  rw [Zhz (Zam (Zaw hb))] at hv2
  subst hv2
  have k4 := Zi hq4 none
  have hz8 := hq4.size
  have hb5 := Zf hb4 k4
  have hz9 := hb5.size
  refine st (s_nebool bool4 rfl rfl (Zg (Zd ?_)))
  refine Zbd rfl (fun h2 => ?_) (fun h2 => ?_)
  rotate_left
  · refine Zn (Zab (Zd (Zb (st (Zc rfl (st (Zbh rfl rfl (by omega) (st (Ze rfl ?_)))))))))
    refine Zg ?_
    exact Zad ((i - 1)) ⟨hb5, by omega, bcmp_next (by omega) hn (by simpa using h2), ((hS3.g0 k3).g0 k4), ((hS4.g0 k3).g0 k4)⟩ (by omega) (by exact ⟨rfl, rfl, rfl, trivial⟩)
  refine Zh (Zh (Zb (st (Zc rfl (st (Zc rfl (st (Zp fn86 rfl (Zh3 (((hS3.g0 k3).g0 k4)).none) ?_))))))))
  rintro v5 w6 ⟨hq5, hv3⟩
  rw [Zhz (Zam (Zaw ha))] at hv3
  subst hv3
  have k5 := Zi hq5 none
  have hz10 := hq5.size
  have hb6 := Zf hb5 k5
  have hz11 := hb6.size
  refine Zg (Zd ?_)
  refine Zbd rfl (fun h3 => ?_) (fun h3 => ?_)
  · refine Zh (Zb (st (Ze rfl (Zg (Zd (Zx rfl rfl ?_))))))
    exact ⟨_, rfl, hb6, by rw [bcmp_gt (by omega) hn h3 (by rw [h3] at h2; simpa using h2)]⟩
  refine Zn (Zd (Zh (Zb (st (Ze rfl (Zg (Zd ?_)))))))
  refine Zx rfl rfl ?_
  exact ⟨_, rfl, hb6, by rw [bcmp_lt (by omega) hn h3 (by rw [h3] at h2; simpa using h2)] <;> rfl⟩
set_option maxHeartbeats 1000000 in
theorem radd_any {w : World} {n0 : Nat} (hn0 : n0 ≤ w.heap.size) {a b : Value} {xs ys : List Int} (ha : Sl Kd.u32 w (G 83 n0 w) a xs) (hb : Sl Kd.u32 w (G 83 n0 w) b ys) (hla : xs.length ≤ 100000) (hlb : ys.length ≤ 100000) :
    Calls Try.prog 54 [a, b].toArray w (Zbi w fun v W => Sl Kd.u32 W (G 83 n0 W) v (tl (nv xs + nv ys))) := by
  have hb0 := Below.refl w.heap.size w
  have hln1 := ha.lenle
  have hln2 := hb.lenle
  have hpa := Zam (Zaw ha)
  have hpb := Zam (Zaw hb)
  have hla2 := Ze2 (Zaw ha)
  have hlb2 := Ze2 (Zaw hb)
  have hba := Zgs (n := nv xs)
  have hbb := Zgs (n := nv ys)
  refine enter Try.func54 rfl rfl (Zh (Zb (st (Ze rfl (Zg (Zd (Zh ?_)))))))
  refine Zb (st (Zc rfl (st (Zp fn85 rfl (Ze1 ((ha.at0 hb0)).none (by first | omega | (simp; done) | (simp; omega))) ?_))))
  rintro v1 w1 ⟨hq1, hS1⟩
  have k1 := Zi hq1 none
  have hz1 := hq1.size
  have hb1 := Zf hb0 k1
  have hz2 := hb1.size
  refine st (Zc rfl (st (Zp fn85 rfl (Ze1 ((hb.at0 hb1)).none (by first | omega | (simp; done) | (simp; omega))) ?_)))
  rintro v2 w2 ⟨hq2, hS2⟩
  have k2 := Zi hq2 none
  have hz3 := hq2.size
  have hb2 := Zf hb1 k2
  have hz4 := hb2.size
  refine st (Ze rfl (st (Ze rfl (Zg (Zd (Zh (Zb ?_)))))))
  have hzz1 := k1.size
  have hzz2 := k2.size
  have hS3 := (((ha.at0 hb2)).unlocG hb2)
  have hS4 := (((hb.at0 hb2)).unlocG hb2)
  have hS5 := ((hS1.g0 k2)).none
  have hS6 := (hS2).none
  have hb3 := Below.refl w2.heap.size w2
  refine st (Ze rfl (Zg (Zd (Zh (Zb (st (Ze rfl (Zg ?_))))))))
  refine Zd (Zh (Zh (Zb (st (Ze rfl (Zg (Zd ?_)))))))
  refine Zz ?_
  refine Za4 (α := Int × Value × List Bool × Bool) (fun ((i, v, os, c) : Int × Value × List Bool × Bool) => [(4, .slice none 0 0), (5, v1), (6, v2), (7, v), (8, .bool c), (9, .int .i64 i)]) (fun ((i, v, os, c) : Int × Value × List Bool × Bool) W => Below w2.heap.size w2 W ∧ (0 ≤ i ∧ i ≤ max ((tb (nv xs)).length : Int) ((tb (nv ys)).length : Int) + 1) ∧ (Gw.Own Kd.bool 4 w2.heap.size W (fun _ => False) v os) ∧ ((os.length : Int) = i) ∧ (bv os + 2 ^ i.toNat * bn c = nv xs % 2 ^ i.toNat + nv ys % 2 ^ i.toNat)) (fun ((i, v, os, c) : Int × Value × List Bool × Bool) => (max ((tb (nv xs)).length : Int) ((tb (nv ys)).length : Int) + 1 - i).toNat) ((0), (.slice none 0 0), ([]), (false)) ⟨hb3, by omega, Own.nil Kd.bool 4 _ _ _, rfl, by simp [bv, bn, Int.emod_one]⟩ (by exact ⟨rfl, rfl, rfl, rfl, rfl, rfl, trivial⟩) ?_
  rintro ⟨i, v, os, c⟩ w3 ⟨hb4, hi, hO, hol, hn⟩
  dsimp only at *
  have hz5 := hb4.size
  refine Zh (Zh (Zb (st (Zc rfl (st (Zc rfl (st (Zar Zcm rfl (hS5.at0 hb4) (st (Zc rfl ?_))))))))))
  refine st (Zar Zcm rfl (hS6.at0 hb4) (st (s_max rfl rfl (st (s_le rfl rfl (Zg (Zd ?_)))))))
  refine Zw rfl (fun h1 => ?_) (fun h1 => ?_)
  rotate_left
  · refine Zan (Zk (Zk (Zt (Zd (Zh (Zb ?_))))))
    refine st (Zc rfl (st (Zp fn87 rfl (rof_any (n0 := n0) (Zy hn0 (hb2.trans (hb4.mono hb2.size))) hO.sl.none (by first | omega | (simp; done) | (simp; omega))) ?_)))
    rintro v14 w23 ⟨hq6, hS7⟩
    have k22 := Zi hq6 none
    have hz28 := hq6.size
    have hb24 := Zf hb4 k22
    have hz29 := hb24.size
    refine st (Ze rfl (Zg (Zd (Zx rfl rfl ?_))))
    have he := badd_end hpa hpb hi.1 hol hn (by omega) (by omega)
    refine ⟨_, rfl, (hb2.trans (hb24.mono hb2.size)), ?_⟩
    rw [← he]
    exact hS7
  refine Zn (Zd (Zh (Zz (Zh (Zb (st (Ze rfl ?_)))))))
  refine Zg (Zd (Zh (Zh (Zb (st (Zc rfl (st (Zc rfl ?_))))))))
  refine st (Zp fn86 rfl (Zh3 ((hS5.at0 hb4)).none) ?_)
  rintro v3 w4 ⟨hq3, hv1⟩
  rw [Zhz (Zam (Zaw ha))] at hv1
  subst hv1
  have k3 := Zi hq3 none
  have hz6 := hq3.size
  have hb5 := Zf hb4 k3
  have hz7 := hb5.size
  have hO1 := hO.g0 k3
  refine Zg (Zd ?_)
  refine Zbd rfl (fun h2 => ?_) (fun h2 => ?_)
  rotate_left
  · refine Zn (Zd (Zh (Zh (Zb (st (Zc rfl (st (Zc rfl ?_))))))))
    refine st (Zp fn86 rfl (Zh3 ((hS6.at0 hb5)).none) ?_)
    rintro v9 w14 ⟨hq5, hv3⟩
    rw [Zhz (Zam (Zaw hb))] at hv3
    subst hv3
    have k13 := Zi hq5 none
    have hz18 := hq5.size
    have hb15 := Zf hb5 k13
    have hz19 := hb15.size
    have hO11 := hO1.g0 k13
    refine Zg (Zd ?_)
    refine Zbd rfl (fun h6 => ?_) (fun h6 => ?_)
    rotate_left
    · refine Zn (Zd (Zh (Zh (Zb (st (Zc rfl (Zg ?_)))))))
      refine Zd ?_
      refine Zbd rfl (fun h8 => ?_) (fun h8 => ?_)
      rotate_left
      · refine Zn (Zd (Zb (st (Zc rfl (st (Zc rfl (st (Zet rfl rfl (by omega) (by omega) (st (Zbr rfl rfl ?_))))))))))
        refine st (Zay (ps := [(0, .tmp 40)]) (ccs := [#[.bool (decide ((0 % 2) = 1))]]) (e := 4) (cells := [.bool (decide ((0 % 2) = 1))]) rfl rfl (by kernel_rfl) (by decide) nz4 ?_)
        intro g8 w21 hg8 hB8 k20 hs8
        have hb22 := Zf hb15 k20
        have hz26 := hb22.size
        have hO18 := hO11.g0 k20
        refine st (Zbc (K := Kd.bool) Zcm rfl rfl hO18 (Zco hB8 hO11 (fun h => h) hg8) Zb2 (by simp; omega) (by simp; omega) (by first | exact Nat.le_refl _ | omega) (fun _ h => h.elim) ?_)
        intro v13 w22 hO19 k21 hr8
        have hb23 := hb22.grown k21 hb22.size (fun k_ hk_ => (hO18.lt k_ hk_).1)
        have hz27 := hb23.size
        refine st (Zc rfl (st (Zcj rfl rfl (st (Ze rfl (st (Ze rfl (Zg (Zab (Zd ?_))))))))))
        refine Zb (st (Zc rfl (st (Zaj rfl rfl (by omega) (st (Ze rfl (Zg ?_)))))))
        exact Zad (((i + 1)), (v13), (os ++ [decide ((0 % 2) = 1)]), (decide (1 < 0))) ⟨hb23, by omega, hO19, by simp; omega, Ze3 hpa hpb hi.1 hol hn (by rw [h2, h6, h8] <;> rfl)⟩ (by omega) (by exact ⟨rfl, rfl, rfl, rfl, rfl, rfl, trivial⟩)
      refine Zb (st (Zc rfl (st (Zaj rfl rfl (by omega) (st (Ze rfl (Zg (Zd (Zb ?_)))))))))
      refine st (Zc rfl (st (Zc rfl (st (Zet rfl rfl (by omega) (by omega) (st (Zbr rfl rfl (st (Zay (ps := [(0, .tmp 40)]) (ccs := [#[.bool (decide (((0 + 1) % 2) = 1))]]) (e := 4) (cells := [.bool (decide (((0 + 1) % 2) = 1))]) rfl rfl (by kernel_rfl) (by decide) nz4 ?_)))))))))
      intro g7 w19 hg7 hB7 k18 hs7
      have hb20 := Zf hb15 k18
      have hz24 := hb20.size
      have hO16 := hO11.g0 k18
      refine st (Zbc (K := Kd.bool) Zcm rfl rfl hO16 (Zco hB7 hO11 (fun h => h) hg7) Zb2 (by simp; omega) (by simp; omega) (by first | exact Nat.le_refl _ | omega) (fun _ h => h.elim) ?_)
      intro v12 w20 hO17 k19 hr7
      have hb21 := hb20.grown k19 hb20.size (fun k_ hk_ => (hO16.lt k_ hk_).1)
      have hz25 := hb21.size
      refine st (Zc rfl (st (Zcj rfl rfl (st (Ze rfl (st (Ze rfl (Zg (Zab (Zd ?_))))))))))
      refine Zb (st (Zc rfl (st (Zaj rfl rfl (by omega) (st (Ze rfl (Zg ?_)))))))
      exact Zad (((i + 1)), (v12), (os ++ [decide (((0 + 1) % 2) = 1)]), (decide (1 < (0 + 1)))) ⟨hb21, by omega, hO17, by simp; omega, Ze3 hpa hpb hi.1 hol hn (by rw [h2, h6, h8] <;> rfl)⟩ (by omega) (by exact ⟨rfl, rfl, rfl, rfl, rfl, rfl, trivial⟩)
    refine Zb (st (Zc rfl (st (Zaj rfl rfl (by omega) (st (Ze rfl (Zg (Zd (Zh ?_)))))))))
    refine Zh (Zb (st (Zc rfl (Zg (Zd ?_)))))
    refine Zbd rfl (fun h7 => ?_) (fun h7 => ?_)
    rotate_left
    · refine Zn (Zd (Zb (st (Zc rfl (st (Zc rfl (st (Zet rfl rfl (by omega) (by omega) (st (Zbr rfl rfl ?_))))))))))
      refine st (Zay (ps := [(0, .tmp 40)]) (ccs := [#[.bool (decide (((0 + 1) % 2) = 1))]]) (e := 4) (cells := [.bool (decide (((0 + 1) % 2) = 1))]) rfl rfl (by kernel_rfl) (by decide) nz4 ?_)
      intro g6 w17 hg6 hB6 k16 hs6
      have hb18 := Zf hb15 k16
      have hz22 := hb18.size
      have hO14 := hO11.g0 k16
      refine st (Zbc (K := Kd.bool) Zcm rfl rfl hO14 (Zco hB6 hO11 (fun h => h) hg6) Zb2 (by simp; omega) (by simp; omega) (by first | exact Nat.le_refl _ | omega) (fun _ h => h.elim) ?_)
      intro v11 w18 hO15 k17 hr6
      have hb19 := hb18.grown k17 hb18.size (fun k_ hk_ => (hO14.lt k_ hk_).1)
      have hz23 := hb19.size
      refine st (Zc rfl (st (Zcj rfl rfl (st (Ze rfl (st (Ze rfl (Zg (Zab (Zd ?_))))))))))
      refine Zb (st (Zc rfl (st (Zaj rfl rfl (by omega) (st (Ze rfl (Zg ?_)))))))
      exact Zad (((i + 1)), (v11), (os ++ [decide (((0 + 1) % 2) = 1)]), (decide (1 < (0 + 1)))) ⟨hb19, by omega, hO15, by simp; omega, Ze3 hpa hpb hi.1 hol hn (by rw [h2, h6, h7] <;> rfl)⟩ (by omega) (by exact ⟨rfl, rfl, rfl, rfl, rfl, rfl, trivial⟩)
    refine Zb (st (Zc rfl (st (Zaj rfl rfl (by omega) (st (Ze rfl (Zg (Zd (Zb ?_)))))))))
    refine st (Zc rfl (st (Zc rfl (st (Zet rfl rfl (by omega) (by omega) (st (Zbr rfl rfl (st (Zay (ps := [(0, .tmp 40)]) (ccs := [#[.bool (decide ((((0 + 1) + 1) % 2) = 1))]]) (e := 4) (cells := [.bool (decide ((((0 + 1) + 1) % 2) = 1))]) rfl rfl (by kernel_rfl) (by decide) nz4 ?_)))))))))
    intro g5 w15 hg5 hB5 k14 hs5
    have hb16 := Zf hb15 k14
    have hz20 := hb16.size
    have hO12 := hO11.g0 k14
    refine st (Zbc (K := Kd.bool) Zcm rfl rfl hO12 (Zco hB5 hO11 (fun h => h) hg5) Zb2 (by simp; omega) (by simp; omega) (by first | exact Nat.le_refl _ | omega) (fun _ h => h.elim) ?_)
    intro v10 w16 hO13 k15 hr5
    have hb17 := hb16.grown k15 hb16.size (fun k_ hk_ => (hO12.lt k_ hk_).1)
    have hz21 := hb17.size
    refine st (Zc rfl (st (Zcj rfl rfl (st (Ze rfl (st (Ze rfl (Zg (Zab (Zd ?_))))))))))
    refine Zb (st (Zc rfl (st (Zaj rfl rfl (by omega) (st (Ze rfl (Zg ?_)))))))
    exact Zad (((i + 1)), (v10), (os ++ [decide ((((0 + 1) + 1) % 2) = 1)]), (decide (1 < ((0 + 1) + 1)))) ⟨hb17, by omega, hO13, by simp; omega, Ze3 hpa hpb hi.1 hol hn (by rw [h2, h6, h7] <;> rfl)⟩ (by omega) (by exact ⟨rfl, rfl, rfl, rfl, rfl, rfl, trivial⟩)
  refine Zb (st (Zc rfl (st (Zaj rfl rfl (by omega) (st (Ze rfl (Zg (Zd (Zh ?_)))))))))
  refine Zh (Zb (st (Zc rfl (st (Zc rfl (st (Zp fn86 rfl (Zh3 ((hS6.at0 hb5)).none) ?_)))))))
  rintro v4 w5 ⟨hq4, hv2⟩
  rw [Zhz (Zam (Zaw hb))] at hv2
  subst hv2
  have k4 := Zi hq4 none
  have hz8 := hq4.size
  have hb6 := Zf hb5 k4
  have hz9 := hb6.size
  have hO2 := hO1.g0 k4
  refine Zg (Zd ?_)
  refine Zbd rfl (fun h3 => ?_) (fun h3 => ?_)
  rotate_left
  · refine Zn (Zd (Zh (Zh (Zb (st (Zc rfl (Zg ?_)))))))
    refine Zd ?_
    refine Zbd rfl (fun h5 => ?_) (fun h5 => ?_)
    rotate_left
    · refine Zn (Zd (Zb (st (Zc rfl (st (Zc rfl (st (Zet rfl rfl (by omega) (by omega) (st (Zbr rfl rfl ?_))))))))))
      refine st (Zay (ps := [(0, .tmp 40)]) (ccs := [#[.bool (decide (((0 + 1) % 2) = 1))]]) (e := 4) (cells := [.bool (decide (((0 + 1) % 2) = 1))]) rfl rfl (by kernel_rfl) (by decide) nz4 ?_)
      intro g4 w12 hg4 hB4 k11 hs4
      have hb13 := Zf hb6 k11
      have hz16 := hb13.size
      have hO9 := hO2.g0 k11
      refine st (Zbc (K := Kd.bool) Zcm rfl rfl hO9 (Zco hB4 hO2 (fun h => h) hg4) Zb2 (by simp; omega) (by simp; omega) (by first | exact Nat.le_refl _ | omega) (fun _ h => h.elim) ?_)
      intro v8 w13 hO10 k12 hr4
      have hb14 := hb13.grown k12 hb13.size (fun k_ hk_ => (hO9.lt k_ hk_).1)
      have hz17 := hb14.size
      refine st (Zc rfl (st (Zcj rfl rfl (st (Ze rfl (st (Ze rfl (Zg (Zab (Zd ?_))))))))))
      refine Zb (st (Zc rfl (st (Zaj rfl rfl (by omega) (st (Ze rfl (Zg ?_)))))))
      exact Zad (((i + 1)), (v8), (os ++ [decide (((0 + 1) % 2) = 1)]), (decide (1 < (0 + 1)))) ⟨hb14, by omega, hO10, by simp; omega, Ze3 hpa hpb hi.1 hol hn (by rw [h2, h3, h5] <;> rfl)⟩ (by omega) (by exact ⟨rfl, rfl, rfl, rfl, rfl, rfl, trivial⟩)
    refine Zb (st (Zc rfl (st (Zaj rfl rfl (by omega) (st (Ze rfl (Zg (Zd (Zb ?_)))))))))
    refine st (Zc rfl (st (Zc rfl (st (Zet rfl rfl (by omega) (by omega) (st (Zbr rfl rfl (st (Zay (ps := [(0, .tmp 40)]) (ccs := [#[.bool (decide ((((0 + 1) + 1) % 2) = 1))]]) (e := 4) (cells := [.bool (decide ((((0 + 1) + 1) % 2) = 1))]) rfl rfl (by kernel_rfl) (by decide) nz4 ?_)))))))))
    intro g3 w10 hg3 hB3 k9 hs3
    have hb11 := Zf hb6 k9
    have hz14 := hb11.size
    have hO7 := hO2.g0 k9
    refine st (Zbc (K := Kd.bool) Zcm rfl rfl hO7 (Zco hB3 hO2 (fun h => h) hg3) Zb2 (by simp; omega) (by simp; omega) (by first | exact Nat.le_refl _ | omega) (fun _ h => h.elim) ?_)
    intro v7 w11 hO8 k10 hr3
    have hb12 := hb11.grown k10 hb11.size (fun k_ hk_ => (hO7.lt k_ hk_).1)
    have hz15 := hb12.size
    refine st (Zc rfl (st (Zcj rfl rfl (st (Ze rfl (st (Ze rfl (Zg (Zab (Zd ?_))))))))))
    refine Zb (st (Zc rfl (st (Zaj rfl rfl (by omega) (st (Ze rfl (Zg ?_)))))))
    exact Zad (((i + 1)), (v7), (os ++ [decide ((((0 + 1) + 1) % 2) = 1)]), (decide (1 < ((0 + 1) + 1)))) ⟨hb12, by omega, hO8, by simp; omega, Ze3 hpa hpb hi.1 hol hn (by rw [h2, h3, h5] <;> rfl)⟩ (by omega) (by exact ⟨rfl, rfl, rfl, rfl, rfl, rfl, trivial⟩)
  refine Zb (st (Zc rfl (st (Zaj rfl rfl (by omega) (st (Ze rfl (Zg (Zd (Zh ?_)))))))))
  refine Zh (Zb (st (Zc rfl (Zg (Zd ?_)))))
  refine Zbd rfl (fun h4 => ?_) (fun h4 => ?_)
  rotate_left
  · refine Zn (Zd (Zb (st (Zc rfl (st (Zc rfl (st (Zet rfl rfl (by omega) (by omega) (st (Zbr rfl rfl ?_))))))))))
    refine st (Zay (ps := [(0, .tmp 40)]) (ccs := [#[.bool (decide ((((0 + 1) + 1) % 2) = 1))]]) (e := 4) (cells := [.bool (decide ((((0 + 1) + 1) % 2) = 1))]) rfl rfl (by kernel_rfl) (by decide) nz4 ?_)
    intro g2 w8 hg2 hB2 k7 hs2
    have hb9 := Zf hb6 k7
    have hz12 := hb9.size
    have hO5 := hO2.g0 k7
    refine st (Zbc (K := Kd.bool) Zcm rfl rfl hO5 (Zco hB2 hO2 (fun h => h) hg2) Zb2 (by simp; omega) (by simp; omega) (by first | exact Nat.le_refl _ | omega) (fun _ h => h.elim) ?_)
    intro v6 w9 hO6 k8 hr2
    have hb10 := hb9.grown k8 hb9.size (fun k_ hk_ => (hO5.lt k_ hk_).1)
    have hz13 := hb10.size
    refine st (Zc rfl (st (Zcj rfl rfl (st (Ze rfl (st (Ze rfl (Zg (Zab (Zd ?_))))))))))
    refine Zb (st (Zc rfl (st (Zaj rfl rfl (by omega) (st (Ze rfl (Zg ?_)))))))
    exact Zad (((i + 1)), (v6), (os ++ [decide ((((0 + 1) + 1) % 2) = 1)]), (decide (1 < ((0 + 1) + 1)))) ⟨hb10, by omega, hO6, by simp; omega, Ze3 hpa hpb hi.1 hol hn (by rw [h2, h3, h4] <;> rfl)⟩ (by omega) (by exact ⟨rfl, rfl, rfl, rfl, rfl, rfl, trivial⟩)
  refine Zb (st (Zc rfl (st (Zaj rfl rfl (by omega) (st (Ze rfl (Zg (Zd (Zb ?_)))))))))
  refine st (Zc rfl (st (Zc rfl (st (Zet rfl rfl (by omega) (by omega) (st (Zbr rfl rfl (st (Zay (ps := [(0, .tmp 40)]) (ccs := [#[.bool (decide (((((0 + 1) + 1) + 1) % 2) = 1))]]) (e := 4) (cells := [.bool (decide (((((0 + 1) + 1) + 1) % 2) = 1))]) rfl rfl (by kernel_rfl) (by decide) nz4 ?_)))))))))
  intro g1 w6 hg1 hB1 k5 hs1
  have hb7 := Zf hb6 k5
  have hz10 := hb7.size
  have hO3 := hO2.g0 k5
  refine st (Zbc (K := Kd.bool) Zcm rfl rfl hO3 (Zco hB1 hO2 (fun h => h) hg1) Zb2 (by simp; omega) (by simp; omega) (by first | exact Nat.le_refl _ | omega) (fun _ h => h.elim) ?_)
  intro v5 w7 hO4 k6 hr1
  have hb8 := hb7.grown k6 hb7.size (fun k_ hk_ => (hO3.lt k_ hk_).1)
  have hz11 := hb8.size
  refine st (Zc rfl (st (Zcj rfl rfl (st (Ze rfl (st (Ze rfl (Zg (Zab (Zd ?_))))))))))
  refine Zb (st (Zc rfl (st (Zaj rfl rfl (by omega) (st (Ze rfl (Zg ?_)))))))
  exact Zad (((i + 1)), (v5), (os ++ [decide (((((0 + 1) + 1) + 1) % 2) = 1)]), (decide (1 < (((0 + 1) + 1) + 1)))) ⟨hb8, by omega, hO4, by simp; omega, Ze3 hpa hpb hi.1 hol hn (by rw [h2, h3, h4] <;> rfl)⟩ (by omega) (by exact ⟨rfl, rfl, rfl, rfl, rfl, rfl, trivial⟩)
set_option maxHeartbeats 1000000 in
theorem rsub_any {w : World} {n0 : Nat} (hn0 : n0 ≤ w.heap.size) {a b : Value} {xs ys : List Int} (ha : Sl Kd.u32 w (G 83 n0 w) a xs) (hb : Sl Kd.u32 w (G 83 n0 w) b ys) (hla : xs.length ≤ 100000) (hlb : ys.length ≤ 100000) :
    Calls Try.prog 55 [a, b].toArray w (Zbi w fun r W => ∃ v, r = .tuple #[v, .bool (decide (nv ys ≤ nv xs))] ∧ Sl Kd.u32 W (G 83 n0 W) v (tl (nv xs - nv ys))) := by
  have hb0 := Below.refl w.heap.size w
  have hln1 := ha.lenle
  have hln2 := hb.lenle
  have hpa := Zam (Zaw ha)
  have hpb := Zam (Zaw hb)
  have hla2 := Ze2 (Zaw ha)
  have hlb2 := Ze2 (Zaw hb)
  have hba := Zgs (n := nv xs)
  have hbb := Zgs (n := nv ys)
  refine enter Try.func55 rfl rfl (Zh (Zb (st (Ze rfl (st (Ze rfl (Zg (Zd ?_))))))))
  refine Zh (Zh (Zb (st (Zc rfl (st (Zc rfl (st (Zp fn88 rfl (rcmp_any ((ha.at0 hb0)).none ((hb.at0 hb0)).none (by first | omega | (simp; done) | (simp; omega)) (by first | omega | (simp; done) | (simp; omega))) ?_))))))))
  rintro _ w1 ⟨hq1, rfl⟩
  have k1 := Zi hq1 none
  have hz1 := hq1.size
  have hb1 := Zf hb0 k1
  have hz2 := hb1.size
  refine st (Zbf rfl rfl (Zg (Zd ?_)))
  refine Zw rfl (fun h1 => ?_) (fun h1 => ?_)
  · refine Zh (Zb (st (Ze rfl (st (Ze rfl (Zg (Zd (Zev rfl rfl rfl ?_))))))))
    have hlt : nv xs < nv ys := by have := h1; unfold Zb1 at this; split at this <;> (try split at this) <;> omega
    exact ⟨_, rfl, hb1, _, by rw [decide_eq_false (by omega)], by rw [Zfn (by omega)]; exact nilG⟩
  refine Zn (Zd (Zh (Zb (st (Zc rfl (st (Zp fn85 rfl (Ze1 ((ha.at0 hb1)).none (by first | omega | (simp; done) | (simp; omega))) ?_)))))))
  rintro v1 w2 ⟨hq2, hS1⟩
  have k2 := Zi hq2 none
  have hz3 := hq2.size
  have hb2 := Zf hb1 k2
  have hz4 := hb2.size
  refine st (Zc rfl (st (Zp fn85 rfl (Ze1 ((hb.at0 hb2)).none (by first | omega | (simp; done) | (simp; omega))) ?_)))
  rintro v2 w3 ⟨hq3, hS2⟩
  have k3 := Zi hq3 none
  have hz5 := hq3.size
  have hb3 := Zf hb2 k3
  have hz6 := hb3.size
  refine st (Ze rfl (st (Ze rfl (Zg (Zd (Zh (Zb ?_)))))))
  have hzz1 := k1.size
  have hzz2 := k2.size
  have hzz3 := k3.size
  have hS3 := (((ha.at0 hb3)).unlocG hb3)
  have hS4 := (((hb.at0 hb3)).unlocG hb3)
  have hS5 := ((hS1.g0 k3)).none
  have hS6 := (hS2).none
  have hb4 := Below.refl w3.heap.size w3
  refine st (Ze rfl (Zg (Zd (Zh (Zb (st (Ze rfl (Zg ?_))))))))
  refine Zd (Zh (Zh (Zb (st (Ze rfl (Zg (Zd ?_)))))))
  refine Zz ?_
  refine Za4 (α := Int × Value × List Bool × Int) (fun ((i, v, os, u) : Int × Value × List Bool × Int) => [(4, .slice none 0 0), (5, .bool false), (6, v1), (7, v2), (8, v), (9, .int .i64 u), (10, .int .i64 i)]) (fun ((i, v, os, u) : Int × Value × List Bool × Int) W => Below w3.heap.size w3 W ∧ (0 ≤ i ∧ i ≤ ((tb (nv xs)).length : Int)) ∧ (Gw.Own Kd.bool 4 w3.heap.size W (fun _ => False) v os) ∧ ((os.length : Int) = i) ∧ (0 ≤ u ∧ u ≤ 1) ∧ (bv os = nv xs % 2 ^ i.toNat - nv ys % 2 ^ i.toNat + 2 ^ i.toNat * u)) (fun ((i, v, os, u) : Int × Value × List Bool × Int) => (((tb (nv xs)).length : Int) - i).toNat) ((0), (.slice none 0 0), ([]), (0)) ⟨hb4, by omega, Own.nil Kd.bool 4 _ _ _, rfl, by omega, by simp [bv, Int.emod_one]⟩ (by exact ⟨rfl, rfl, rfl, rfl, rfl, rfl, rfl, trivial⟩) ?_
  rintro ⟨i, v, os, u⟩ w4 ⟨hb5, hi, hO, hol, hu, hn⟩
  dsimp only at *
  have hz7 := hb5.size
  refine Zh (Zh (Zb (st (Zc rfl (st (Zc rfl (st (Zar Zcm rfl (hS5.at0 hb5) (st (Zbf rfl rfl ?_))))))))))
  refine Zg (Zd ?_)
  refine Zw rfl (fun h2 => ?_) (fun h2 => ?_)
  rotate_left
  · refine Zan (Zk (Zk (Zt (Zd (Zh (Zb ?_))))))
    refine st (Zc rfl (st (Zp fn87 rfl (rof_any (n0 := n0) (Zy hn0 (hb3.trans (hb5.mono hb3.size))) hO.sl.none (by first | omega | (simp; done) | (simp; omega))) ?_)))
    rintro v14 w24 ⟨hq7, hS7⟩
    have k23 := Zi hq7 none
    have hz30 := hq7.size
    have hb25 := Zf hb5 k23
    have hz31 := hb25.size
    refine st (Ze rfl (st (Ze rfl (Zg (Zd (Zev rfl rfl rfl ?_))))))
    have hle : nv ys ≤ nv xs := by have := h1; unfold Zb1 at this; split at this <;> (try split at this) <;> omega
    have hend := bsub_end hpa hpb hle hol hn hu (by omega)
    exact ⟨_, rfl, (hb3.trans (hb25.mono hb3.size)), _, by rw [decide_eq_true hle], by rw [← hend]; exact hS7⟩
  refine Zn (Zd (Zh (Zz (Zh (Zb (st (Zc rfl ?_)))))))
  refine st (s_neg rfl (by omega) (st (Ze rfl (Zg (Zd (Zh (Zh (Zb ?_))))))))
  refine st (Zc rfl (st (Zc rfl (st (Zp fn86 rfl (Zh3 ((hS5.at0 hb5)).none) ?_)))))
  rintro v3 w5 ⟨hq4, hv1⟩
  rw [Zhz (Zam (Zaw ha))] at hv1
  subst hv1
  have k4 := Zi hq4 none
  have hz8 := hq4.size
  have hb6 := Zf hb5 k4
  have hz9 := hb6.size
  have hO1 := hO.g0 k4
  refine Zg (Zd ?_)
  refine Zbd rfl (fun h3 => ?_) (fun h3 => ?_)
  rotate_left
  · refine Zn (Zd (Zh (Zh (Zb (st (Zc rfl (st (Zc rfl ?_))))))))
    refine st (Zp fn86 rfl (Zh3 ((hS6.at0 hb6)).none) ?_)
    rintro v9 w15 ⟨hq6, hv3⟩
    rw [Zhz (Zam (Zaw hb))] at hv3
    subst hv3
    have k14 := Zi hq6 none
    have hz20 := hq6.size
    have hb16 := Zf hb6 k14
    have hz21 := hb16.size
    have hO11 := hO1.g0 k14
    refine Zg (Zd ?_)
    refine Zbd rfl (fun h7 => ?_) (fun h7 => ?_)
    rotate_left
    · refine Zn (Zd (Zh (Zb (st (Ze rfl (Zg (Zd ?_)))))))
      refine Zh (Zh (Zb (st (Zc rfl (st (Zbf rfl rfl (Zg (Zd ?_))))))))
      refine Zw rfl (fun h9 => ?_) (fun h9 => ?_)
      rotate_left
      · refine Zn (Zd (Zb (st (Zc rfl (st (Zc rfl (st (Zbr rfl rfl (st (Zay (ps := [(0, .tmp 44)]) (ccs := [#[.bool (decide ((-u) = 1))]]) (e := 4) (cells := [.bool (decide ((-u) = 1))]) rfl rfl (by kernel_rfl) (by decide) nz4 ?_))))))))))
        intro g8 w22 hg8 hB8 k21 hs8
        have hb23 := Zf hb16 k21
        have hz28 := hb23.size
        have hO18 := hO11.g0 k21
        refine st (Zbc (K := Kd.bool) Zcm rfl rfl hO18 (Zco hB8 hO11 (fun h => h) hg8) Zb2 (by simp; omega) (by simp; omega) (by first | exact Nat.le_refl _ | omega) (fun _ h => h.elim) ?_)
        intro v13 w23 hO19 k22 hr8
        have hb24 := hb23.grown k22 hb23.size (fun k_ hk_ => (hO18.lt k_ hk_).1)
        have hz29 := hb24.size
        refine st (Ze rfl (Zg (Zab (Zd (Zb (st (Zc rfl (st (Zaj rfl rfl (by omega) ?_)))))))))
        refine st (Ze rfl (Zg ?_))
        exact Zad (((i + 1)), (v13), (os ++ [decide ((-u) = 1)]), (0)) ⟨hb24, by omega, hO19, by simp; omega, by dsimp only; omega, Zex hpa hpb hi.1 hol hn (u' := 0) (by rw [h3, h7]; simp only [bn]; simp; try omega) (by omega)⟩ (by omega) (by exact ⟨rfl, rfl, rfl, rfl, rfl, rfl, rfl, trivial⟩)
      refine Zb (st (Zc rfl (st (Zaj rfl rfl (by omega) (st (Ze rfl (st (Ze rfl (Zg (Zd ?_))))))))))
      refine Zb (st (Zc rfl (st (Zc rfl (st (Zbr rfl rfl (st (Zay (ps := [(0, .tmp 44)]) (ccs := [#[.bool (decide (((-u) + 2) = 1))]]) (e := 4) (cells := [.bool (decide (((-u) + 2) = 1))]) rfl rfl (by kernel_rfl) (by decide) nz4 ?_))))))))
      intro g7 w20 hg7 hB7 k19 hs7
      have hb21 := Zf hb16 k19
      have hz26 := hb21.size
      have hO16 := hO11.g0 k19
      refine st (Zbc (K := Kd.bool) Zcm rfl rfl hO16 (Zco hB7 hO11 (fun h => h) hg7) Zb2 (by simp; omega) (by simp; omega) (by first | exact Nat.le_refl _ | omega) (fun _ h => h.elim) ?_)
      intro v12 w21 hO17 k20 hr7
      have hb22 := hb21.grown k20 hb21.size (fun k_ hk_ => (hO16.lt k_ hk_).1)
      have hz27 := hb22.size
      refine st (Ze rfl (Zg (Zab (Zd (Zb (st (Zc rfl (st (Zaj rfl rfl (by omega) ?_)))))))))
      refine st (Ze rfl (Zg ?_))
      exact Zad (((i + 1)), (v12), (os ++ [decide (((-u) + 2) = 1)]), (1)) ⟨hb22, by omega, hO17, by simp; omega, by dsimp only; omega, Zex hpa hpb hi.1 hol hn (u' := 1) (by rw [h3, h7]; simp only [bn]; simp; try omega) (by omega)⟩ (by omega) (by exact ⟨rfl, rfl, rfl, rfl, rfl, rfl, rfl, trivial⟩)
    refine Zb (st (Zc rfl (st (Zbh rfl rfl (by omega) (st (Ze rfl (Zg (Zd (Zh ?_)))))))))
    refine Zb (st (Ze rfl (Zg (Zd (Zh (Zh (Zb ?_)))))))
    refine st (Zc rfl (st (Zbf rfl rfl (Zg (Zd ?_)))))
    refine Zw rfl (fun h8 => ?_) (fun h8 => ?_)
    rotate_left
    · refine Zn (Zd (Zb (st (Zc rfl (st (Zc rfl (st (Zbr rfl rfl (st (Zay (ps := [(0, .tmp 44)]) (ccs := [#[.bool (decide (((-u) - 1) = 1))]]) (e := 4) (cells := [.bool (decide (((-u) - 1) = 1))]) rfl rfl (by kernel_rfl) (by decide) nz4 ?_))))))))))
      intro g6 w18 hg6 hB6 k17 hs6
      have hb19 := Zf hb16 k17
      have hz24 := hb19.size
      have hO14 := hO11.g0 k17
      refine st (Zbc (K := Kd.bool) Zcm rfl rfl hO14 (Zco hB6 hO11 (fun h => h) hg6) Zb2 (by simp; omega) (by simp; omega) (by first | exact Nat.le_refl _ | omega) (fun _ h => h.elim) ?_)
      intro v11 w19 hO15 k18 hr6
      have hb20 := hb19.grown k18 hb19.size (fun k_ hk_ => (hO14.lt k_ hk_).1)
      have hz25 := hb20.size
      refine st (Ze rfl (Zg (Zab (Zd (Zb (st (Zc rfl (st (Zaj rfl rfl (by omega) ?_)))))))))
      refine st (Ze rfl (Zg ?_))
      exact Zad (((i + 1)), (v11), (os ++ [decide (((-u) - 1) = 1)]), (0)) ⟨hb20, by omega, hO15, by simp; omega, by dsimp only; omega, Zex hpa hpb hi.1 hol hn (u' := 0) (by rw [h3, h7]; simp only [bn]; simp; try omega) (by omega)⟩ (by omega) (by exact ⟨rfl, rfl, rfl, rfl, rfl, rfl, rfl, trivial⟩)
    refine Zb (st (Zc rfl (st (Zaj rfl rfl (by omega) (st (Ze rfl (st (Ze rfl (Zg (Zd ?_))))))))))
    refine Zb (st (Zc rfl (st (Zc rfl (st (Zbr rfl rfl (st (Zay (ps := [(0, .tmp 44)]) (ccs := [#[.bool (decide ((((-u) - 1) + 2) = 1))]]) (e := 4) (cells := [.bool (decide ((((-u) - 1) + 2) = 1))]) rfl rfl (by kernel_rfl) (by decide) nz4 ?_))))))))
    intro g5 w16 hg5 hB5 k15 hs5
    have hb17 := Zf hb16 k15
    have hz22 := hb17.size
    have hO12 := hO11.g0 k15
    refine st (Zbc (K := Kd.bool) Zcm rfl rfl hO12 (Zco hB5 hO11 (fun h => h) hg5) Zb2 (by simp; omega) (by simp; omega) (by first | exact Nat.le_refl _ | omega) (fun _ h => h.elim) ?_)
    intro v10 w17 hO13 k16 hr5
    have hb18 := hb17.grown k16 hb17.size (fun k_ hk_ => (hO12.lt k_ hk_).1)
    have hz23 := hb18.size
    refine st (Ze rfl (Zg (Zab (Zd (Zb (st (Zc rfl (st (Zaj rfl rfl (by omega) ?_)))))))))
    refine st (Ze rfl (Zg ?_))
    exact Zad (((i + 1)), (v10), (os ++ [decide ((((-u) - 1) + 2) = 1)]), (1)) ⟨hb18, by omega, hO13, by simp; omega, by dsimp only; omega, Zex hpa hpb hi.1 hol hn (u' := 1) (by rw [h3, h7]; simp only [bn]; simp; try omega) (by omega)⟩ (by omega) (by exact ⟨rfl, rfl, rfl, rfl, rfl, rfl, rfl, trivial⟩)
  refine Zb (st (Zc rfl (st (Zaj rfl rfl (by omega) (st (Ze rfl (Zg (Zd (Zh ?_)))))))))
  refine Zh (Zb (st (Zc rfl (st (Zc rfl (st (Zp fn86 rfl (Zh3 ((hS6.at0 hb6)).none) ?_)))))))
  rintro v4 w6 ⟨hq5, hv2⟩
  rw [Zhz (Zam (Zaw hb))] at hv2
  subst hv2
  have k5 := Zi hq5 none
  have hz10 := hq5.size
  have hb7 := Zf hb6 k5
  have hz11 := hb7.size
  have hO2 := hO1.g0 k5
  refine Zg (Zd ?_)
  refine Zbd rfl (fun h4 => ?_) (fun h4 => ?_)
  rotate_left
  · refine Zn (Zd (Zh (Zb (st (Ze rfl (Zg (Zd ?_)))))))
    refine Zh (Zh (Zb (st (Zc rfl (st (Zbf rfl rfl (Zg (Zd ?_))))))))
    refine Zw rfl (fun h6 => ?_) (fun h6 => ?_)
    rotate_left
    · refine Zn (Zd (Zb (st (Zc rfl (st (Zc rfl (st (Zbr rfl rfl (st (Zay (ps := [(0, .tmp 44)]) (ccs := [#[.bool (decide (((-u) + 1) = 1))]]) (e := 4) (cells := [.bool (decide (((-u) + 1) = 1))]) rfl rfl (by kernel_rfl) (by decide) nz4 ?_))))))))))
      intro g4 w13 hg4 hB4 k12 hs4
      have hb14 := Zf hb7 k12
      have hz18 := hb14.size
      have hO9 := hO2.g0 k12
      refine st (Zbc (K := Kd.bool) Zcm rfl rfl hO9 (Zco hB4 hO2 (fun h => h) hg4) Zb2 (by simp; omega) (by simp; omega) (by first | exact Nat.le_refl _ | omega) (fun _ h => h.elim) ?_)
      intro v8 w14 hO10 k13 hr4
      have hb15 := hb14.grown k13 hb14.size (fun k_ hk_ => (hO9.lt k_ hk_).1)
      have hz19 := hb15.size
      refine st (Ze rfl (Zg (Zab (Zd (Zb (st (Zc rfl (st (Zaj rfl rfl (by omega) ?_)))))))))
      refine st (Ze rfl (Zg ?_))
      exact Zad (((i + 1)), (v8), (os ++ [decide (((-u) + 1) = 1)]), (0)) ⟨hb15, by omega, hO10, by simp; omega, by dsimp only; omega, Zex hpa hpb hi.1 hol hn (u' := 0) (by rw [h3, h4]; simp only [bn]; simp; try omega) (by omega)⟩ (by omega) (by exact ⟨rfl, rfl, rfl, rfl, rfl, rfl, rfl, trivial⟩)
    refine Zb (st (Zc rfl (st (Zaj rfl rfl (by omega) (st (Ze rfl (st (Ze rfl (Zg (Zd ?_))))))))))
    refine Zb (st (Zc rfl (st (Zc rfl (st (Zbr rfl rfl (st (Zay (ps := [(0, .tmp 44)]) (ccs := [#[.bool (decide ((((-u) + 1) + 2) = 1))]]) (e := 4) (cells := [.bool (decide ((((-u) + 1) + 2) = 1))]) rfl rfl (by kernel_rfl) (by decide) nz4 ?_))))))))
    intro g3 w11 hg3 hB3 k10 hs3
    have hb12 := Zf hb7 k10
    have hz16 := hb12.size
    have hO7 := hO2.g0 k10
    refine st (Zbc (K := Kd.bool) Zcm rfl rfl hO7 (Zco hB3 hO2 (fun h => h) hg3) Zb2 (by simp; omega) (by simp; omega) (by first | exact Nat.le_refl _ | omega) (fun _ h => h.elim) ?_)
    intro v7 w12 hO8 k11 hr3
    have hb13 := hb12.grown k11 hb12.size (fun k_ hk_ => (hO7.lt k_ hk_).1)
    have hz17 := hb13.size
    refine st (Ze rfl (Zg (Zab (Zd (Zb (st (Zc rfl (st (Zaj rfl rfl (by omega) ?_)))))))))
    refine st (Ze rfl (Zg ?_))
    exact Zad (((i + 1)), (v7), (os ++ [decide ((((-u) + 1) + 2) = 1)]), (1)) ⟨hb13, by omega, hO8, by simp; omega, by dsimp only; omega, Zex hpa hpb hi.1 hol hn (u' := 1) (by rw [h3, h4]; simp only [bn]; simp; try omega) (by omega)⟩ (by omega) (by exact ⟨rfl, rfl, rfl, rfl, rfl, rfl, rfl, trivial⟩)
  refine Zb (st (Zc rfl (st (Zbh rfl rfl (by omega) (st (Ze rfl (Zg (Zd (Zh ?_)))))))))
  refine Zb (st (Ze rfl (Zg (Zd (Zh (Zh (Zb ?_)))))))
  refine st (Zc rfl (st (Zbf rfl rfl (Zg (Zd ?_)))))
  refine Zw rfl (fun h5 => ?_) (fun h5 => ?_)
  rotate_left
  · refine Zn (Zd (Zb (st (Zc rfl (st (Zc rfl (st (Zbr rfl rfl (st (Zay (ps := [(0, .tmp 44)]) (ccs := [#[.bool (decide ((((-u) + 1) - 1) = 1))]]) (e := 4) (cells := [.bool (decide ((((-u) + 1) - 1) = 1))]) rfl rfl (by kernel_rfl) (by decide) nz4 ?_))))))))))
    intro g2 w9 hg2 hB2 k8 hs2
    have hb10 := Zf hb7 k8
    have hz14 := hb10.size
    have hO5 := hO2.g0 k8
    refine st (Zbc (K := Kd.bool) Zcm rfl rfl hO5 (Zco hB2 hO2 (fun h => h) hg2) Zb2 (by simp; omega) (by simp; omega) (by first | exact Nat.le_refl _ | omega) (fun _ h => h.elim) ?_)
    intro v6 w10 hO6 k9 hr2
    have hb11 := hb10.grown k9 hb10.size (fun k_ hk_ => (hO5.lt k_ hk_).1)
    have hz15 := hb11.size
    refine st (Ze rfl (Zg (Zab (Zd (Zb (st (Zc rfl (st (Zaj rfl rfl (by omega) ?_)))))))))
    refine st (Ze rfl (Zg ?_))
    exact Zad (((i + 1)), (v6), (os ++ [decide ((((-u) + 1) - 1) = 1)]), (0)) ⟨hb11, by omega, hO6, by simp; omega, by dsimp only; omega, Zex hpa hpb hi.1 hol hn (u' := 0) (by rw [h3, h4]; simp only [bn]; simp; try omega) (by omega)⟩ (by omega) (by exact ⟨rfl, rfl, rfl, rfl, rfl, rfl, rfl, trivial⟩)
  refine Zb (st (Zc rfl (st (Zaj rfl rfl (by omega) (st (Ze rfl (st (Ze rfl (Zg (Zd ?_))))))))))
  refine Zb (st (Zc rfl (st (Zc rfl (st (Zbr rfl rfl (st (Zay (ps := [(0, .tmp 44)]) (ccs := [#[.bool (decide (((((-u) + 1) - 1) + 2) = 1))]]) (e := 4) (cells := [.bool (decide (((((-u) + 1) - 1) + 2) = 1))]) rfl rfl (by kernel_rfl) (by decide) nz4 ?_))))))))
  intro g1 w7 hg1 hB1 k6 hs1
  have hb8 := Zf hb7 k6
  have hz12 := hb8.size
  have hO3 := hO2.g0 k6
  refine st (Zbc (K := Kd.bool) Zcm rfl rfl hO3 (Zco hB1 hO2 (fun h => h) hg1) Zb2 (by simp; omega) (by simp; omega) (by first | exact Nat.le_refl _ | omega) (fun _ h => h.elim) ?_)
  intro v5 w8 hO4 k7 hr1
  have hb9 := hb8.grown k7 hb8.size (fun k_ hk_ => (hO3.lt k_ hk_).1)
  have hz13 := hb9.size
  refine st (Ze rfl (Zg (Zab (Zd (Zb (st (Zc rfl (st (Zaj rfl rfl (by omega) ?_)))))))))
  refine st (Ze rfl (Zg ?_))
  exact Zad (((i + 1)), (v5), (os ++ [decide (((((-u) + 1) - 1) + 2) = 1)]), (1)) ⟨hb9, by omega, hO4, by simp; omega, by dsimp only; omega, Zex hpa hpb hi.1 hol hn (u' := 1) (by rw [h3, h4]; simp only [bn]; simp; try omega) (by omega)⟩ (by omega) (by exact ⟨rfl, rfl, rfl, rfl, rfl, rfl, rfl, trivial⟩)
end Go.Proofs.Ytfljelnfjbbknaa.Lm
