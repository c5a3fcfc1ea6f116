/- Part of the proof that is named in YtencmmhfiepojaaLRowBack: a library for walks, or a function's walk. -/
import Derived.Test.YtencmmhfiepojaaGw18
set_option linter.unusedSimpArgs false
set_option linter.unusedVariables false
namespace Go.Gw
open Go.RowKit
def ekI (a : Int) : Value := .int .i64 a
theorem keyF_I {P : Program} {t : Nat} (h : P.underlying t = some (.int .i64)) : KeyF P t ekI := keyF_int h
theorem ne_of {v : Value} {g : Nat} (h : v.ownBlock = none ∨ v.ownBlock ≠ some g) : v.ownBlock ≠ some g := by
  rcases h with h | h
  · rw [h]; simp
  · exact h
theorem ne_of_map {κ ν α : Type} {ek : κ → Value} {ev : ν → Value} {w : World} {g e base : Nat} {m : List (κ × ν)} {K : Kd α} {F : Nat → Prop} {v : Value} {xs : List α} (h : IsMap ek ev w g m) (ho : Own K e base w F v xs) : v.ownBlock ≠ some g := ne_of (h.ne_own ho)
theorem blk_ne_blk {w : World} {g g' t t' : Nat} {cs cs' : Array Value} (h : Blk w g t cs) (h' : Blk w g' t' cs') (ht : t ≠ t') : g ≠ g' := by
  rintro rfl
  unfold Blk at h h'
  rw [h] at h'
  injection h' with h'
  injection h' with _ h2
  exact ht h2
section
variable {P : Program} {n : Nat} {D : List Deferred} {ρ : Env} {w : World}
variable {d ty : Nat} {pos : String} {after : Array Edge} {gd : Option (Nat × Bool)} {C : Value → World → Prop} {x y z : Operand}
variable {κ ν : Type} [DecidableEq κ] {ek : κ → Value} {ev : ν → Value} {g : Nat}
theorem s_box1 {t : Nat} {v : Value} (hx : opv ρ x = some v) (hc : v.cells = #[v]) (k : ∀ g w', w.heap.size = g → Blk w' g t [v].toArray → w.grownBy w' none → w'.heap.size = g + 1 → C (.pointer (some ⟨g, 0, none⟩)) w') :
    OpW P ⟨some d, .box t x, ty, pos, after, gd⟩ n D ρ w C := s_box hx (fun g w' h1 h2 => k g w' h1 (by rw [hc] at h2; exact h2))
theorem s_lookupI2 {t kt et : Nat} {a : κ} {m : List (κ × Int)} (ht : MapF P t kt et) (hk : KeyF P kt ek) (hx : opv ρ x = some (.map (some g))) (hy : opv ρ y = some (ek a)) (hm : IsMap ek ekI w g m) (hz : ((P.info? et).bind (·.zero)) = some (.int .i64 0))
    (k : C (.tuple #[.int .i64 ((mget m a).getD 0), .bool (mget m a).isSome]) w) : OpW P ⟨some d, .lookup t x y true, ty, pos, after, gd⟩ n D ρ w C :=
  s_lookup2 ht hk hx hy hm hz (by cases h : mget m a <;> simpa [h, ekI] using k)
theorem s_mapins {t kt et : Nat} {a : κ} {v : ν} {m : List (κ × ν)} (ht : MapF P t kt et) (hk : KeyF P kt ek) (hx : opv ρ x = some (.map (some g))) (hy : opv ρ y = some (ek a)) (hz : opv ρ z = some (ev v)) (hm : IsMap ek ev w g m)
    (k : ∀ w', IsMap ek ev w' g (mput m a v) → w.grownBy w' (some g) → w'.heap.size = w.heap.size → C undef w') : OpW P ⟨none, .insert t x y z, ty, pos, after, gd⟩ n D ρ w C :=
  fun a1 ha Q => s_mapput (ty := ty) (pos := pos) (after := after) (gd := gd) ht hk hx hy hz hm k a1 ha Q
end
end Go.Gw
