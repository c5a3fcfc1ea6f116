/- Part of the proof that is named in YtencmmhfiepojaaLRowBack: a library for walks, or a function's walk. -/
import Derived.Test.YtencmmhfiepojaaGw12
set_option linter.unusedSimpArgs false
/-! ### Conversions -/
namespace Go.Gw
open Go.RowKit
section
variable {P : Program} {n : Nat} {D : List Deferred} {ρ : Env} {w : World}
variable {d ty : Nat} {pos : String} {after : Array Edge} {gd : Option (Nat × Bool)} {C : Value → World → Prop} {x y z : Operand}
theorem s_convw {src dst : Nat} {kd k : IntKind} {a : Int} (hs : P.underlying src = some (.int kd)) (hd : P.underlying dst = some (.int k)) (hx : opv ρ x = some (.int kd a)) (h : C (.int k (k.wrap a)) w) :
    OpW P ⟨some d, .convert src dst x, ty, pos, after, gd⟩ n D ρ w C := by
  refine opw_val (fun ev he => ?_) h
  simp [execOp, Go.convert, he x _ hx, run_underlying hs, run_underlying hd, Conv.intToInt]
theorem s_conv64 {src dst : Nat} {kd : IntKind} {a : Int} (hs : P.underlying src = some (.int kd)) (hd : P.underlying dst = some (.int .i64)) (hx : opv ρ x = some (.int kd a)) (hb : -9223372036854775808 ≤ a ∧ a ≤ 9223372036854775807) (h : C (.int .i64 a) w) :
    OpW P ⟨some d, .convert src dst x, ty, pos, after, gd⟩ n D ρ w C := by
  refine s_convw hs hd hx ?_
  rw [wrap64_of hb]; exact h
theorem s_conv32 {src dst : Nat} {kd : IntKind} {a : Int} (hs : P.underlying src = some (.int kd)) (hd : P.underlying dst = some (.int .u32)) (hx : opv ρ x = some (.int kd a)) (hb : 0 ≤ a ∧ a ≤ 4294967295) (h : C (.int .u32 a) w) :
    OpW P ⟨some d, .convert src dst x, ty, pos, after, gd⟩ n D ρ w C := by
  refine s_convw hs hd hx ?_
  have : IntKind.u32.wrap a = a := by
    simp [IntKind.wrap, IntKind.signed, IntKind.bits]; omega
  rw [this]; exact h
end
end Go.Gw
