/- Part of the proof that is named in YtencmmhfiepojaaLRowBack: a library for walks, or a function's walk. -/
import Derived.Test.YtencmmhfiepojaaGw23
import Derived.Test.YtencmmhfiepojaaGw14
set_option linter.unusedSimpArgs false
set_option linter.unusedVariables false
/-! ### Numbers without a sign -/
namespace Go.Gw
open Go.RowKit
def iand (a b : Int) : Int := ((a.toNat &&& b.toNat : Nat) : Int)
def ior (a b : Int) : Int := ((a.toNat ||| b.toNat : Nat) : Int)
def ixor (a b : Int) : Int := ((a.toNat ^^^ b.toNat : Nat) : Int)
theorem wrap_u {k : IntKind} (hk : k.signed = false) (q : Int) : k.wrap q = q % 2 ^ k.bits := by
  simp [IntKind.wrap, hk]
theorem ofInt_u {n : Nat} {a : Int} (h0 : 0 ≤ a) (h1 : a < 2 ^ n) : (BitVec.ofInt n a).toNat = a.toNat := by
  rw [BitVec.toNat_ofInt]
  have : ((2 ^ n : Nat) : Int) = (2 : Int) ^ n := by simp
  rw [this, Int.emod_eq_of_lt h0 h1]
section
variable {P : Program} {ops : Array Oper} {Q : Exit → Act → World → Prop} {rest : List Oper} {n : Nat} {D : List Deferred} {ρ : Env} {w : World}
variable {d ty xt yt : Nat} {pos : String} {after : Array Edge} {gd : Option (Nat × Bool)} {C : Value → World → Prop} {x y : Operand} {k j : IntKind} {a b M : Int}
theorem s_addk (hk : k.signed = false) (hM : (2 : Int) ^ k.bits = M) (hx : opv ρ x = some (.int k a)) (hy : opv ρ y = some (.int k b)) (hb : 0 ≤ a + b ∧ a + b < M) (h : C (.int k (a + b)) w) : OpW P ⟨some d, .binOp .add xt x y yt, ty, pos, after, gd⟩ n D ρ w C :=
  s_addw hx hy (by rw [wrap_u hk, hM, Int.emod_eq_of_lt hb.1 hb.2]; exact h)
theorem s_addm (hk : k.signed = false) (hM : (2 : Int) ^ k.bits = M) (hx : opv ρ x = some (.int k a)) (hy : opv ρ y = some (.int k b)) (h : C (.int k ((a + b) % M)) w) : OpW P ⟨some d, .binOp .add xt x y yt, ty, pos, after, gd⟩ n D ρ w C :=
  s_addw hx hy (by rw [wrap_u hk, hM]; exact h)
theorem s_subk (hk : k.signed = false) (hM : (2 : Int) ^ k.bits = M) (hx : opv ρ x = some (.int k a)) (hy : opv ρ y = some (.int k b)) (h : C (.int k ((a - b) % M)) w) : OpW P ⟨some d, .binOp .sub xt x y yt, ty, pos, after, gd⟩ n D ρ w C :=
  s_subw hx hy (by rw [wrap_u hk, hM]; exact h)
theorem s_mulk (hk : k.signed = false) (hM : (2 : Int) ^ k.bits = M) (hx : opv ρ x = some (.int k a)) (hy : opv ρ y = some (.int k b)) (hb : 0 ≤ a * b ∧ a * b < M) (h : C (.int k (a * b)) w) : OpW P ⟨some d, .binOp .mul xt x y yt, ty, pos, after, gd⟩ n D ρ w C :=
  s_mulw hx hy (by rw [wrap_u hk, hM, Int.emod_eq_of_lt hb.1 hb.2]; exact h)
theorem s_convm {src dst : Nat} (hk : k.signed = false) (hM : (2 : Int) ^ k.bits = M) (hs : P.underlying src = some (.int j)) (hd : P.underlying dst = some (.int k)) (hx : opv ρ x = some (.int j a)) (h : C (.int k (a % M)) w) : OpW P ⟨some d, .convert src dst x, ty, pos, after, gd⟩ n D ρ w C :=
  s_convw hs hd hx (by rw [wrap_u hk, hM]; exact h)
theorem s_convk {src dst : Nat} (hk : k.signed = false) (hM : (2 : Int) ^ k.bits = M) (hs : P.underlying src = some (.int j)) (hd : P.underlying dst = some (.int k)) (hx : opv ρ x = some (.int j a)) (hb : 0 ≤ a ∧ a < M) (h : C (.int k a) w) : OpW P ⟨some d, .convert src dst x, ty, pos, after, gd⟩ n D ρ w C :=
  s_convw hs hd hx (by rw [wrap_u hk, hM, Int.emod_eq_of_lt hb.1 hb.2]; exact h)
theorem s_shrk {p : Int} (hx : opv ρ x = some (.int k a)) (hy : opv ρ y = some (.int j b)) (hb : 0 ≤ b) (hp : (2 : Int) ^ (min b.toNat k.bits) = p) (h : C (.int k (a / p)) w) : OpW P ⟨some d, .binOp .shr xt x y yt, ty, pos, after, gd⟩ n D ρ w C :=
  s_shr hx hy hb (by rw [hp, Int.fdiv_eq_ediv_of_nonneg _ (by rw [← hp]; exact Int.le_of_lt (Int.pow_pos (by decide)))]; exact h)
theorem s_shlk {p : Int} (hk : k.signed = false) (hM : (2 : Int) ^ k.bits = M) (hx : opv ρ x = some (.int k a)) (hy : opv ρ y = some (.int j b)) (hb : 0 ≤ b) (hp : (2 : Int) ^ (min b.toNat k.bits) = p) (h : C (.int k ((a * p) % M)) w) : OpW P ⟨some d, .binOp .shl xt x y yt, ty, pos, after, gd⟩ n D ρ w C :=
  s_shl hx hy hb (by rw [hp, wrap_u hk, hM]; exact h)
theorem s_quok (hk : k.signed = false) (hM : (2 : Int) ^ k.bits = M) (hx : opv ρ x = some (.int k a)) (hy : opv ρ y = some (.int k b)) (ha : 0 ≤ a ∧ a < M) (hb : 0 < b) (h : C (.int k (a / b)) w) : OpW P ⟨some d, .binOp .quo xt x y yt, ty, pos, after, gd⟩ n D ρ w C :=
  s_quo hx hy (by omega) (by
    rw [wrap_u hk, hM, Int.tdiv_eq_ediv_of_nonneg ha.1, Int.emod_eq_of_lt (Int.ediv_nonneg ha.1 (by omega)) (Int.lt_of_le_of_lt (Int.ediv_le_self _ ha.1) ha.2)]; exact h)
theorem s_quoi (hx : opv ρ x = some (.int .i64 a)) (hy : opv ρ y = some (.int .i64 b)) (ha : 0 ≤ a ∧ a ≤ 9223372036854775807) (hb : 0 < b) (h : C (.int .i64 (a / b)) w) : OpW P ⟨some d, .binOp .quo xt x y yt, ty, pos, after, gd⟩ n D ρ w C :=
  s_quo hx hy (by omega) (by
    rw [Int.tdiv_eq_ediv_of_nonneg ha.1, wrap64_of ⟨by have := Int.ediv_nonneg ha.1 (show 0 ≤ b by omega); omega, by have := Int.ediv_le_self b ha.1; omega⟩]; exact h)
theorem s_remk (hx : opv ρ x = some (.int k a)) (hy : opv ρ y = some (.int k b)) (ha : 0 ≤ a) (hb : 0 < b) (h : C (.int k (a % b)) w) : OpW P ⟨some d, .binOp .rem xt x y yt, ty, pos, after, gd⟩ n D ρ w C :=
  s_rem hx hy (by omega) (by rw [Int.tmod_eq_emod_of_nonneg ha]; exact h)
theorem back_u {r : BitVec k.bits} (hk : k.signed = false) : k.wrap (r.toNat : Int) = r.toNat := by
  rw [wrap_u hk]
  have h := r.isLt
  exact Int.emod_eq_of_lt (by omega) (by have : ((2 ^ k.bits : Nat) : Int) = (2 : Int) ^ k.bits := by simp
                                         omega)
theorem s_and (hk : k.signed = false) (hM : (2 : Int) ^ k.bits = M) (hx : opv ρ x = some (.int k a)) (hy : opv ρ y = some (.int k b)) (ha : 0 ≤ a ∧ a < M) (hb : 0 ≤ b ∧ b < M) (h : C (.int k (iand a b)) w) : OpW P ⟨some d, .binOp .and xt x y yt, ty, pos, after, gd⟩ n D ρ w C :=
  s_bits hx hy (v := .int k (iand a b)) (by
    subst hM
    show (pure (.int k (k.wrap ((BitVec.ofInt k.bits a &&& BitVec.ofInt k.bits b).toNat : Int))) : Sem Value) = _
    rw [back_u hk, BitVec.toNat_and, ofInt_u ha.1 ha.2, ofInt_u hb.1 hb.2]; rfl) rfl h
theorem s_or (hk : k.signed = false) (hM : (2 : Int) ^ k.bits = M) (hx : opv ρ x = some (.int k a)) (hy : opv ρ y = some (.int k b)) (ha : 0 ≤ a ∧ a < M) (hb : 0 ≤ b ∧ b < M) (h : C (.int k (ior a b)) w) : OpW P ⟨some d, .binOp .or xt x y yt, ty, pos, after, gd⟩ n D ρ w C :=
  s_bits hx hy (v := .int k (ior a b)) (by
    subst hM
    show (pure (.int k (k.wrap ((BitVec.ofInt k.bits a ||| BitVec.ofInt k.bits b).toNat : Int))) : Sem Value) = _
    rw [back_u hk, BitVec.toNat_or, ofInt_u ha.1 ha.2, ofInt_u hb.1 hb.2]; rfl) rfl h
theorem s_xor (hk : k.signed = false) (hM : (2 : Int) ^ k.bits = M) (hx : opv ρ x = some (.int k a)) (hy : opv ρ y = some (.int k b)) (ha : 0 ≤ a ∧ a < M) (hb : 0 ≤ b ∧ b < M) (h : C (.int k (ixor a b)) w) : OpW P ⟨some d, .binOp .xor xt x y yt, ty, pos, after, gd⟩ n D ρ w C :=
  s_bits hx hy (v := .int k (ixor a b)) (by
    subst hM
    show (pure (.int k (k.wrap ((BitVec.ofInt k.bits a ^^^ BitVec.ofInt k.bits b).toNat : Int))) : Sem Value) = _
    rw [back_u hk, BitVec.toNat_xor, ofInt_u ha.1 ha.2, ofInt_u hb.1 hb.2]; rfl) rfl h
theorem s_com32 (hx : opv ρ x = some (.int .u32 a)) (ha : 0 ≤ a ∧ a < 4294967296) (h : C (.int .u32 (ixor 4294967295 a)) w) : OpW P ⟨some d, .unOp .xor xt x, ty, pos, after, gd⟩ n D ρ w C :=
  opw_val (v := .int .u32 (ixor 4294967295 a)) (fun e he => by
    have h1 : Op.unary .xor (.int .u32 a) = pure (.int .u32 (IntKind.u32.wrap ((BitVec.ofInt 32 4294967295 ^^^ BitVec.ofInt 32 a).toNat : Int))) := rfl
    have h2 : IntKind.u32.wrap (((BitVec.ofInt 32 4294967295 ^^^ BitVec.ofInt 32 a).toNat : Nat) : Int) = ixor 4294967295 a := by
      rw [show IntKind.u32.wrap (((BitVec.ofInt 32 4294967295 ^^^ BitVec.ofInt 32 a).toNat : Nat) : Int) = ((BitVec.ofInt 32 4294967295 ^^^ BitVec.ofInt 32 a).toNat : Nat) from back_u (k := .u32) rfl, BitVec.toNat_xor, ofInt_u (by decide) (by decide), ofInt_u ha.1 (by simpa using ha.2)]
      rfl
    have h3 : Op.unary .xor (.int .u32 a) = pure (.int .u32 (ixor 4294967295 a)) := by rw [h1, h2]
    simp [execOp, he x _ hx, h3]) h
end
theorem iand_lt {a b M : Int} (h : 0 ≤ a ∧ a < M) : 0 ≤ iand a b ∧ iand a b < M := by
  have := Nat.and_le_left (n := a.toNat) (m := b.toNat)
  unfold iand; omega
theorem iand_lt' {a b M : Int} (h : 0 ≤ b ∧ b < M) : 0 ≤ iand a b ∧ iand a b < M := by
  have := Nat.and_le_right (n := a.toNat) (m := b.toNat)
  unfold iand; omega
theorem ixor_lt {a b : Int} (h : 0 ≤ a ∧ a < 4294967296) (k : 0 ≤ b ∧ b < 4294967296) : 0 ≤ ixor a b ∧ ixor a b < 4294967296 := by
  have := Nat.xor_lt_two_pow (n := 32) (show a.toNat < 2 ^ 32 by omega) (show b.toNat < 2 ^ 32 by omega)
  unfold ixor; omega
theorem ior_lt {a b : Int} (h : 0 ≤ a ∧ a < 4294967296) (k : 0 ≤ b ∧ b < 4294967296) : 0 ≤ ior a b ∧ ior a b < 4294967296 := by
  have := Nat.or_lt_two_pow (n := 32) (show a.toNat < 2 ^ 32 by omega) (show b.toNat < 2 ^ 32 by omega)
  unfold ior; omega
theorem ior_lt64 {a b : Int} (h : 0 ≤ a ∧ a < 18446744073709551616) (k : 0 ≤ b ∧ b < 18446744073709551616) : 0 ≤ ior a b ∧ ior a b < 18446744073709551616 := by
  have := Nat.or_lt_two_pow (n := 64) (show a.toNat < 2 ^ 64 by omega) (show b.toNat < 2 ^ 64 by omega)
  unfold ior; omega
/-! #### single bits -/
theorem iand_nat (a b : Nat) : iand (a : Int) (b : Int) = ((a &&& b : Nat) : Int) := rfl
theorem ior_nat (a b : Nat) : ior (a : Int) (b : Int) = ((a ||| b : Nat) : Int) := rfl
theorem ixor_nat (a b : Nat) : ixor (a : Int) (b : Int) = ((a ^^^ b : Nat) : Int) := rfl
theorem all_ones : (4294967295 : Int) = ((2 ^ 32 - 1 : Nat) : Int) := by decide
theorem bit_top {z : Nat} (h : z < 2 ^ 32) : z / 2 ^ 31 = (z.testBit 31).toNat := by
  rw [Nat.toNat_testBit]; omega
theorem borrow_bit {x y c : Int} (hx : 0 ≤ x ∧ x < 4294967296) (hy : 0 ≤ y ∧ y < 4294967296) (hc : 0 ≤ c ∧ c ≤ 1) :
    ior (iand (ixor 4294967295 x) y) (iand (ixor 4294967295 (ixor x y)) (((x - y) % 4294967296 - c) % 4294967296)) / 2147483648 = if x < y + c then 1 else 0 := by
  obtain ⟨X, rfl⟩ := Int.eq_ofNat_of_zero_le hx.1
  obtain ⟨Y, rfl⟩ := Int.eq_ofNat_of_zero_le hy.1
  obtain ⟨Z, hZ⟩ := Int.eq_ofNat_of_zero_le (show 0 ≤ (((X : Int) - Y) % 4294967296 - c) % 4294967296 by omega)
  rw [hZ]
  have hx2 : X < 2 ^ 32 := by omega
  have hy2 : Y < 2 ^ 32 := by omega
  have hz2 : Z < 2 ^ 32 := by omega
  rw [all_ones, ixor_nat, iand_nat, ixor_nat, ixor_nat, iand_nat, ior_nat]
  have hlt : ((2 ^ 32 - 1 ^^^ X) &&& Y ||| (2 ^ 32 - 1 ^^^ (X ^^^ Y)) &&& Z) < 2 ^ 32 := Nat.or_lt_two_pow (Nat.and_lt_two_pow _ hy2) (Nat.and_lt_two_pow _ hz2)
  have hb := bit_top hlt
  have h31 : (2 : Nat) ^ 31 = 2147483648 := rfl
  rw [h31] at hb
  have e : ((((2 ^ 32 - 1 ^^^ X) &&& Y ||| (2 ^ 32 - 1 ^^^ (X ^^^ Y)) &&& Z : Nat) : Int)) / 2147483648 = ((((2 ^ 32 - 1 ^^^ X) &&& Y ||| (2 ^ 32 - 1 ^^^ (X ^^^ Y)) &&& Z) / 2147483648 : Nat) : Int) := by rw [Int.natCast_ediv]; rfl
  rw [e, hb]
  have tX := bit_top hx2
  have tY := bit_top hy2
  have tZ := bit_top hz2
  rw [h31] at tX tY tZ
  simp only [Nat.testBit_or, Nat.testBit_and, Nat.testBit_xor, show (2 ^ 32 - 1 : Nat).testBit 31 = true from by decide]
  cases hbx : X.testBit 31 <;> cases hby : Y.testBit 31 <;> cases hbz : Z.testBit 31 <;> simp [hbx, hby, hbz] at tX tY tZ ⊢ <;> omega
end Go.Gw
