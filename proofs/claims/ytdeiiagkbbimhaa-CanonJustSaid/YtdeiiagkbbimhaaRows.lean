/-
  No cell of these rows narrows 'for every input' (looked for: loops, veiled, ifaces, maps, wideKeys, modest, calm, conditions, laid).
  DERIVED. THE GIVEN ROWS OF THIS SEAT. 5 by the template 'for every input the law returns true; each argument reads behind the call as it read before'; 0 by the template 'total and deterministic' (their statements: YtdeiiagkbbimhaaTotals.lean).
  GIVEN WITH THE SEED: the statements are not yours to turn. If you find one false, say at which input.
  Laid BY PROGRAM, IN A SANDBOX (cutbox-rows.mjs): the forced cells as the released guide's own fill.sh prints them over the translation 7e9935309d1f7908… (all of the seat's roots in one cut). By AI agents, Wed Nov 11 2026. No macro, syntax, notation, axiom, sorry.
-/
import Derived.Test.YtdeiiagkbbimhaaChecked
import GoSem.Claim
import GoSem.ClaimJoined
import GoSem.ClaimMapViews
import Derived.JoinedTies
import Derived.KernelRfl
namespace Go.Proofs.Ytdeiiagkbbimhaa
/- THE CELL 'sum', in the pinned program and in every row, IS THE sha256 OF THE DUMP (.gsa) THAT YtdeiiagkbbimhaaProg.lean LOADS. Nothing in Lean hashes anything: it is a label: what it is worth is what the hold of that sum in a sandbox is worth. -/
noncomputable def Try.pinned : Pinned := { name := "ytdeiiagkbbimhaa", sum := "7e9935309d1f7908bc7f62b4e2c863ddc5cc59c64a20d6107eb193ab20c6f107", checked := Try.checked }
namespace Rows
def none {H : Type} : Left H := { results := [], args := [] }

/-- 'gliderlaw05.NodeTells': WHATEVER THE INPUT: true; the input reads as it did. -/
def nodeTellsSpec : ChangeSpec := { name := "nodeTells", fn := fun _ => fun
  | [d1, d2, d3] => { results := [.lit (.bool true)], args := [d1, d2, d3] }
  | _ => none }
def nodeTellsRow : OpenClaim := { program := "ytdeiiagkbbimhaa", sum := "7e9935309d1f7908bc7f62b4e2c863ddc5cc59c64a20d6107eb193ab20c6f107", func := "glider/gliderlaw05.NodeTells", spec := "nodeTells", unfollowed := true, recurses := true, plainKeys := false, apart := false }
def NodeTellsSaid : Prop := nodeTellsRow.holds Try.pinned (OpenSpec.ofChange nodeTellsSpec)

/-- ITS FALSE NEIGHBOUR: 'it returns false'. Refute it at one input. -/
def nodeTellsWrong : ChangeSpec := { name := "nodeTells", fn := fun _ => fun
  | [d1, d2, d3] => { results := [.lit (.bool false)], args := [d1, d2, d3] }
  | _ => none }
def NodeTellsWrongFalsely : Prop := nodeTellsRow.holds Try.pinned (OpenSpec.ofChange nodeTellsWrong)

/-- 'gliderlaw05.NodeOnes': WHATEVER THE INPUT: true; the input reads as it did. -/
def nodeOnesSpec : ChangeSpec := { name := "nodeOnes", fn := fun _ => fun
  | [d1, d2] => { results := [.lit (.bool true)], args := [d1, d2] }
  | _ => none }
def nodeOnesRow : OpenClaim := { program := "ytdeiiagkbbimhaa", sum := "7e9935309d1f7908bc7f62b4e2c863ddc5cc59c64a20d6107eb193ab20c6f107", func := "glider/gliderlaw05.NodeOnes", spec := "nodeOnes", unfollowed := true, recurses := true, plainKeys := false, apart := false }
def NodeOnesSaid : Prop := nodeOnesRow.holds Try.pinned (OpenSpec.ofChange nodeOnesSpec)

/-- ITS FALSE NEIGHBOUR: 'it returns false'. Refute it at one input. -/
def nodeOnesWrong : ChangeSpec := { name := "nodeOnes", fn := fun _ => fun
  | [d1, d2] => { results := [.lit (.bool false)], args := [d1, d2] }
  | _ => none }
def NodeOnesWrongFalsely : Prop := nodeOnesRow.holds Try.pinned (OpenSpec.ofChange nodeOnesWrong)

/-- 'gliderlaw05.NodeLevels': WHATEVER THE INPUT: true; the input reads as it did. -/
def nodeLevelsSpec : ChangeSpec := { name := "nodeLevels", fn := fun _ => fun
  | [d] => { results := [.lit (.bool true)], args := [d] }
  | _ => none }
def nodeLevelsRow : OpenClaim := { program := "ytdeiiagkbbimhaa", sum := "7e9935309d1f7908bc7f62b4e2c863ddc5cc59c64a20d6107eb193ab20c6f107", func := "glider/gliderlaw05.NodeLevels", spec := "nodeLevels", unfollowed := true, recurses := true, plainKeys := false, apart := false }
def NodeLevelsSaid : Prop := nodeLevelsRow.holds Try.pinned (OpenSpec.ofChange nodeLevelsSpec)

/-- ITS FALSE NEIGHBOUR: 'it returns false'. Refute it at one input. -/
def nodeLevelsWrong : ChangeSpec := { name := "nodeLevels", fn := fun _ => fun
  | [d] => { results := [.lit (.bool false)], args := [d] }
  | _ => none }
def NodeLevelsWrongFalsely : Prop := nodeLevelsRow.holds Try.pinned (OpenSpec.ofChange nodeLevelsWrong)

/-- 'gliderlaw06.CanonOf': WHATEVER THE INPUT: true; the input reads as it did. -/
def canonOfSpec : ChangeSpec := { name := "canonOf", fn := fun _ => fun
  | [d1, d2] => { results := [.lit (.bool true)], args := [d1, d2] }
  | _ => none }
def canonOfRow : OpenClaim := { program := "ytdeiiagkbbimhaa", sum := "7e9935309d1f7908bc7f62b4e2c863ddc5cc59c64a20d6107eb193ab20c6f107", func := "glider/gliderlaw06.CanonOf", spec := "canonOf", unfollowed := true, recurses := true, plainKeys := false, apart := false }
def CanonOfSaid : Prop := canonOfRow.holds Try.pinned (OpenSpec.ofChange canonOfSpec)

/-- ITS FALSE NEIGHBOUR: 'it returns false'. Refute it at one input. -/
def canonOfWrong : ChangeSpec := { name := "canonOf", fn := fun _ => fun
  | [d1, d2] => { results := [.lit (.bool false)], args := [d1, d2] }
  | _ => none }
def CanonOfWrongFalsely : Prop := canonOfRow.holds Try.pinned (OpenSpec.ofChange canonOfWrong)

/-- 'gliderlaw06.CanonJust': WHATEVER THE INPUT: true; the input reads as it did. -/
def canonJustSpec : ChangeSpec := { name := "canonJust", fn := fun _ => fun
  | [d1, d2, d3] => { results := [.lit (.bool true)], args := [d1, d2, d3] }
  | _ => none }
def canonJustRow : OpenClaim := { program := "ytdeiiagkbbimhaa", sum := "7e9935309d1f7908bc7f62b4e2c863ddc5cc59c64a20d6107eb193ab20c6f107", func := "glider/gliderlaw06.CanonJust", spec := "canonJust", unfollowed := true, recurses := true, plainKeys := false, apart := false }
def CanonJustSaid : Prop := canonJustRow.holds Try.pinned (OpenSpec.ofChange canonJustSpec)

/-- ITS FALSE NEIGHBOUR: 'it returns false'. Refute it at one input. -/
def canonJustWrong : ChangeSpec := { name := "canonJust", fn := fun _ => fun
  | [d1, d2, d3] => { results := [.lit (.bool false)], args := [d1, d2, d3] }
  | _ => none }
def CanonJustWrongFalsely : Prop := canonJustRow.holds Try.pinned (OpenSpec.ofChange canonJustWrong)

/- THE SECOND FORM. 'bulk': how many values and letters a reading holds, each counted each time it is reached (what is shared counts as often as it is met; a slice's spare places count too). A statement '..UptoSaid' is the law's where the arguments, and the package variables that the reading takes, are together of bulk at most 1048576: NARROWER than '..Said'. Prove '..Said' where nothing that the law and all that it calls make is longer than what came in: it says more and counts as full. Else prove '..UptoSaid'. A law counts once. -/
mutual
def uptoBulk {H : Type} : DataW H → Nat
  | .lit (.string bytes) => bytes.length + 1
  | .lit _ => 1
  | .nil => 1
  | .ptr d => uptoBulk d + 1
  | .slice elems spare => uptoBulkAll elems + uptoBulkAll spare + 1
  | .agg parts => uptoBulkAll parts + 1
  | .iface _ d => uptoBulk d + 1
  | .map entries => uptoBulkEntries entries + 1
  | .held _ => 1
def uptoBulkAll {H : Type} : List (DataW H) → Nat
  | [] => 0
  | d :: r => uptoBulk d + uptoBulkAll r
def uptoBulkEntries {H : Type} : List (Lit × DataW H) → Nat
  | [] => 0
  | x :: r => uptoBulkEntry x + uptoBulkEntries r
def uptoBulkEntry {H : Type} : Lit × DataW H → Nat
  | (.string bytes, d) => bytes.length + uptoBulk d + 1
  | (_, d) => uptoBulk d + 1
 end
def uptoSmall : (H : Type) → List (DataW H) → Bool := fun _ ds => decide (uptoBulkAll ds ≤ 1048576)
def OpenSpec.upto (s : _root_.Go.ChangeSpec) : _root_.Go.OpenSpec := { _root_.Go.OpenSpec.ofChange s with cond := some uptoSmall }

/-- 'gliderlaw05.NodeTells', WHERE WHAT IT READS IS OF BULK AT MOST 1048576: true; the input reads as it did. -/
def nodeTellsUptoRow : OpenClaim := { program := "ytdeiiagkbbimhaa", sum := "7e9935309d1f7908bc7f62b4e2c863ddc5cc59c64a20d6107eb193ab20c6f107", func := "glider/gliderlaw05.NodeTells", spec := "nodeTells", unfollowed := true, recurses := true, plainKeys := false, apart := false, narrowed := true }
def NodeTellsUptoSaid : Prop := nodeTellsUptoRow.holds Try.pinned (OpenSpec.upto nodeTellsSpec)

/-- 'gliderlaw05.NodeOnes', WHERE WHAT IT READS IS OF BULK AT MOST 1048576: true; the input reads as it did. -/
def nodeOnesUptoRow : OpenClaim := { program := "ytdeiiagkbbimhaa", sum := "7e9935309d1f7908bc7f62b4e2c863ddc5cc59c64a20d6107eb193ab20c6f107", func := "glider/gliderlaw05.NodeOnes", spec := "nodeOnes", unfollowed := true, recurses := true, plainKeys := false, apart := false, narrowed := true }
def NodeOnesUptoSaid : Prop := nodeOnesUptoRow.holds Try.pinned (OpenSpec.upto nodeOnesSpec)

/-- 'gliderlaw05.NodeLevels', WHERE WHAT IT READS IS OF BULK AT MOST 1048576: true; the input reads as it did. -/
def nodeLevelsUptoRow : OpenClaim := { program := "ytdeiiagkbbimhaa", sum := "7e9935309d1f7908bc7f62b4e2c863ddc5cc59c64a20d6107eb193ab20c6f107", func := "glider/gliderlaw05.NodeLevels", spec := "nodeLevels", unfollowed := true, recurses := true, plainKeys := false, apart := false, narrowed := true }
def NodeLevelsUptoSaid : Prop := nodeLevelsUptoRow.holds Try.pinned (OpenSpec.upto nodeLevelsSpec)

/-- 'gliderlaw06.CanonOf', WHERE WHAT IT READS IS OF BULK AT MOST 1048576: true; the input reads as it did. -/
def canonOfUptoRow : OpenClaim := { program := "ytdeiiagkbbimhaa", sum := "7e9935309d1f7908bc7f62b4e2c863ddc5cc59c64a20d6107eb193ab20c6f107", func := "glider/gliderlaw06.CanonOf", spec := "canonOf", unfollowed := true, recurses := true, plainKeys := false, apart := false, narrowed := true }
def CanonOfUptoSaid : Prop := canonOfUptoRow.holds Try.pinned (OpenSpec.upto canonOfSpec)

/-- 'gliderlaw06.CanonJust', WHERE WHAT IT READS IS OF BULK AT MOST 1048576: true; the input reads as it did. -/
def canonJustUptoRow : OpenClaim := { program := "ytdeiiagkbbimhaa", sum := "7e9935309d1f7908bc7f62b4e2c863ddc5cc59c64a20d6107eb193ab20c6f107", func := "glider/gliderlaw06.CanonJust", spec := "canonJust", unfollowed := true, recurses := true, plainKeys := false, apart := false, narrowed := true }
def CanonJustUptoSaid : Prop := canonJustUptoRow.holds Try.pinned (OpenSpec.upto canonJustSpec)

end Rows
end Go.Proofs.Ytdeiiagkbbimhaa
