/-
  No cell of these rows narrows 'for every input' (looked for: loops, veiled, ifaces, maps, wideKeys, modest, calm, conditions, laid).
  DERIVED. THE GIVEN ROWS OF THIS SEAT. 7 by the template 'for every input the law returns true; each argument reads behind the call as it read before'; 0 by the template 'total and deterministic' (their statements: YtfljelnfjbbknaaTotals.lean).
  GIVEN WITH THE SEED: the statements are not yours to turn. If you find one false, say at which input.
  Laid BY PROGRAM, IN A SANDBOX (cutbox-rows.mjs): the forced cells as the released guide's own fill.sh prints them over the translation 419a99c6b91484a9… (all of the seat's roots in one cut). By AI agents, Wed Nov 11 2026. No macro, syntax, notation, axiom, sorry.
-/
import Derived.Test.YtfljelnfjbbknaaChecked
import GoSem.Claim
import GoSem.ClaimJoined
import GoSem.ClaimMapViews
import Derived.JoinedTies
import Derived.KernelRfl
namespace Go.Proofs.Ytfljelnfjbbknaa
/- THE CELL 'sum', in the pinned program and in every row, IS THE sha256 OF THE DUMP (.gsa) THAT YtfljelnfjbbknaaProg.lean LOADS. Nothing in Lean hashes anything: it is a label: what it is worth is what the hold of that sum in a sandbox is worth. -/
noncomputable def Try.pinned : Pinned := { name := "ytfljelnfjbbknaa", sum := "419a99c6b91484a9622408979527d5ae2eff46e1a1f2dc7e428c55337a76f3cf", checked := Try.checked }
namespace Rows
def none {H : Type} : Left H := { results := [], args := [] }

/-- 'gliderlaw09.BoxOf': WHATEVER THE INPUT: true; the input reads as it did. -/
def boxOfSpec : ChangeSpec := { name := "boxOf", fn := fun _ => fun
  | [d1, d2, d3] => { results := [.lit (.bool true)], args := [d1, d2, d3] }
  | _ => none }
def boxOfRow : OpenClaim := { program := "ytfljelnfjbbknaa", sum := "419a99c6b91484a9622408979527d5ae2eff46e1a1f2dc7e428c55337a76f3cf", func := "glider/gliderlaw09.BoxOf", spec := "boxOf", unfollowed := true, recurses := true, plainKeys := false, apart := false }
def BoxOfSaid : Prop := boxOfRow.holds Try.pinned (OpenSpec.ofChange boxOfSpec)

/-- ITS FALSE NEIGHBOUR: 'it returns false'. Refute it at one input. -/
def boxOfWrong : ChangeSpec := { name := "boxOf", fn := fun _ => fun
  | [d1, d2, d3] => { results := [.lit (.bool false)], args := [d1, d2, d3] }
  | _ => none }
def BoxOfWrongFalsely : Prop := boxOfRow.holds Try.pinned (OpenSpec.ofChange boxOfWrong)

/-- 'gliderlaw09.BoxAround': WHATEVER THE INPUT: true; the input reads as it did. -/
def boxAroundSpec : ChangeSpec := { name := "boxAround", fn := fun _ => fun
  | [d] => { results := [.lit (.bool true)], args := [d] }
  | _ => none }
def boxAroundRow : OpenClaim := { program := "ytfljelnfjbbknaa", sum := "419a99c6b91484a9622408979527d5ae2eff46e1a1f2dc7e428c55337a76f3cf", func := "glider/gliderlaw09.BoxAround", spec := "boxAround", unfollowed := true, recurses := true, plainKeys := false, apart := false }
def BoxAroundSaid : Prop := boxAroundRow.holds Try.pinned (OpenSpec.ofChange boxAroundSpec)

/-- ITS FALSE NEIGHBOUR: 'it returns false'. Refute it at one input. -/
def boxAroundWrong : ChangeSpec := { name := "boxAround", fn := fun _ => fun
  | [d] => { results := [.lit (.bool false)], args := [d] }
  | _ => none }
def BoxAroundWrongFalsely : Prop := boxAroundRow.holds Try.pinned (OpenSpec.ofChange boxAroundWrong)

/-- 'gliderlaw09.BoxMore': WHATEVER THE INPUT: true; the input reads as it did. -/
def boxMoreSpec : ChangeSpec := { name := "boxMore", fn := fun _ => fun
  | [d1, d2] => { results := [.lit (.bool true)], args := [d1, d2] }
  | _ => none }
def boxMoreRow : OpenClaim := { program := "ytfljelnfjbbknaa", sum := "419a99c6b91484a9622408979527d5ae2eff46e1a1f2dc7e428c55337a76f3cf", func := "glider/gliderlaw09.BoxMore", spec := "boxMore", unfollowed := true, recurses := true, plainKeys := false, apart := false }
def BoxMoreSaid : Prop := boxMoreRow.holds Try.pinned (OpenSpec.ofChange boxMoreSpec)

/-- ITS FALSE NEIGHBOUR: 'it returns false'. Refute it at one input. -/
def boxMoreWrong : ChangeSpec := { name := "boxMore", fn := fun _ => fun
  | [d1, d2] => { results := [.lit (.bool false)], args := [d1, d2] }
  | _ => none }
def BoxMoreWrongFalsely : Prop := boxMoreRow.holds Try.pinned (OpenSpec.ofChange boxMoreWrong)

/-- 'gliderlaw08.LookCells': WHATEVER THE INPUT: true; the input reads as it did. -/
def lookCellsSpec : ChangeSpec := { name := "lookCells", fn := fun _ => fun
  | [d1, d2] => { results := [.lit (.bool true)], args := [d1, d2] }
  | _ => none }
def lookCellsRow : OpenClaim := { program := "ytfljelnfjbbknaa", sum := "419a99c6b91484a9622408979527d5ae2eff46e1a1f2dc7e428c55337a76f3cf", func := "glider/gliderlaw08.LookCells", spec := "lookCells", unfollowed := true, recurses := true, plainKeys := false, apart := false }
def LookCellsSaid : Prop := lookCellsRow.holds Try.pinned (OpenSpec.ofChange lookCellsSpec)

/-- ITS FALSE NEIGHBOUR: 'it returns false'. Refute it at one input. -/
def lookCellsWrong : ChangeSpec := { name := "lookCells", fn := fun _ => fun
  | [d1, d2] => { results := [.lit (.bool false)], args := [d1, d2] }
  | _ => none }
def LookCellsWrongFalsely : Prop := lookCellsRow.holds Try.pinned (OpenSpec.ofChange lookCellsWrong)

/-- 'gliderlaw08.LookDeep': WHATEVER THE INPUT: true; the input reads as it did. -/
def lookDeepSpec : ChangeSpec := { name := "lookDeep", fn := fun _ => fun
  | [d1, d2, d3] => { results := [.lit (.bool true)], args := [d1, d2, d3] }
  | _ => none }
def lookDeepRow : OpenClaim := { program := "ytfljelnfjbbknaa", sum := "419a99c6b91484a9622408979527d5ae2eff46e1a1f2dc7e428c55337a76f3cf", func := "glider/gliderlaw08.LookDeep", spec := "lookDeep", unfollowed := true, recurses := true, plainKeys := false, apart := false }
def LookDeepSaid : Prop := lookDeepRow.holds Try.pinned (OpenSpec.ofChange lookDeepSpec)

/-- ITS FALSE NEIGHBOUR: 'it returns false'. Refute it at one input. -/
def lookDeepWrong : ChangeSpec := { name := "lookDeep", fn := fun _ => fun
  | [d1, d2, d3] => { results := [.lit (.bool false)], args := [d1, d2, d3] }
  | _ => none }
def LookDeepWrongFalsely : Prop := lookDeepRow.holds Try.pinned (OpenSpec.ofChange lookDeepWrong)

/-- 'gliderlaw08.LookOne': WHATEVER THE INPUT: true; the input reads as it did. -/
def lookOneSpec : ChangeSpec := { name := "lookOne", fn := fun _ => fun
  | [d1, d2, d3] => { results := [.lit (.bool true)], args := [d1, d2, d3] }
  | _ => none }
def lookOneRow : OpenClaim := { program := "ytfljelnfjbbknaa", sum := "419a99c6b91484a9622408979527d5ae2eff46e1a1f2dc7e428c55337a76f3cf", func := "glider/gliderlaw08.LookOne", spec := "lookOne", unfollowed := true, recurses := true, plainKeys := false, apart := false }
def LookOneSaid : Prop := lookOneRow.holds Try.pinned (OpenSpec.ofChange lookOneSpec)

/-- ITS FALSE NEIGHBOUR: 'it returns false'. Refute it at one input. -/
def lookOneWrong : ChangeSpec := { name := "lookOne", fn := fun _ => fun
  | [d1, d2, d3] => { results := [.lit (.bool false)], args := [d1, d2, d3] }
  | _ => none }
def LookOneWrongFalsely : Prop := lookOneRow.holds Try.pinned (OpenSpec.ofChange lookOneWrong)

/-- 'gliderlaw08.LookAll': WHATEVER THE INPUT: true; the input reads as it did. -/
def lookAllSpec : ChangeSpec := { name := "lookAll", fn := fun _ => fun
  | [d] => { results := [.lit (.bool true)], args := [d] }
  | _ => none }
def lookAllRow : OpenClaim := { program := "ytfljelnfjbbknaa", sum := "419a99c6b91484a9622408979527d5ae2eff46e1a1f2dc7e428c55337a76f3cf", func := "glider/gliderlaw08.LookAll", spec := "lookAll", unfollowed := true, recurses := true, plainKeys := false, apart := false }
def LookAllSaid : Prop := lookAllRow.holds Try.pinned (OpenSpec.ofChange lookAllSpec)

/-- ITS FALSE NEIGHBOUR: 'it returns false'. Refute it at one input. -/
def lookAllWrong : ChangeSpec := { name := "lookAll", fn := fun _ => fun
  | [d] => { results := [.lit (.bool false)], args := [d] }
  | _ => none }
def LookAllWrongFalsely : Prop := lookAllRow.holds Try.pinned (OpenSpec.ofChange lookAllWrong)

/- THE SECOND FORM. 'bulk': how many values and letters a reading holds, each counted each time it is reached (what is shared counts as often as it is met; a slice's spare places count too). A statement '..UptoSaid' is the law's where the arguments, and the package variables that the reading takes, are together of bulk at most 1048576: NARROWER than '..Said'. Prove '..Said' where nothing that the law and all that it calls make is longer than what came in: it says more and counts as full. Else prove '..UptoSaid'. A law counts once. -/
mutual
def uptoBulk {H : Type} : DataW H → Nat
  | .lit (.string bytes) => bytes.length + 1
  | .lit _ => 1
  | .nil => 1
  | .ptr d => uptoBulk d + 1
  | .slice elems spare => uptoBulkAll elems + uptoBulkAll spare + 1
  | .agg parts => uptoBulkAll parts + 1
  | .iface _ d => uptoBulk d + 1
  | .map entries => uptoBulkEntries entries + 1
  | .held _ => 1
def uptoBulkAll {H : Type} : List (DataW H) → Nat
  | [] => 0
  | d :: r => uptoBulk d + uptoBulkAll r
def uptoBulkEntries {H : Type} : List (Lit × DataW H) → Nat
  | [] => 0
  | x :: r => uptoBulkEntry x + uptoBulkEntries r
def uptoBulkEntry {H : Type} : Lit × DataW H → Nat
  | (.string bytes, d) => bytes.length + uptoBulk d + 1
  | (_, d) => uptoBulk d + 1
 end
def uptoSmall : (H : Type) → List (DataW H) → Bool := fun _ ds => decide (uptoBulkAll ds ≤ 1048576)
def OpenSpec.upto (s : _root_.Go.ChangeSpec) : _root_.Go.OpenSpec := { _root_.Go.OpenSpec.ofChange s with cond := some uptoSmall }

/-- 'gliderlaw09.BoxOf', WHERE WHAT IT READS IS OF BULK AT MOST 1048576: true; the input reads as it did. -/
def boxOfUptoRow : OpenClaim := { program := "ytfljelnfjbbknaa", sum := "419a99c6b91484a9622408979527d5ae2eff46e1a1f2dc7e428c55337a76f3cf", func := "glider/gliderlaw09.BoxOf", spec := "boxOf", unfollowed := true, recurses := true, plainKeys := false, apart := false, narrowed := true }
def BoxOfUptoSaid : Prop := boxOfUptoRow.holds Try.pinned (OpenSpec.upto boxOfSpec)

/-- 'gliderlaw09.BoxAround', WHERE WHAT IT READS IS OF BULK AT MOST 1048576: true; the input reads as it did. -/
def boxAroundUptoRow : OpenClaim := { program := "ytfljelnfjbbknaa", sum := "419a99c6b91484a9622408979527d5ae2eff46e1a1f2dc7e428c55337a76f3cf", func := "glider/gliderlaw09.BoxAround", spec := "boxAround", unfollowed := true, recurses := true, plainKeys := false, apart := false, narrowed := true }
def BoxAroundUptoSaid : Prop := boxAroundUptoRow.holds Try.pinned (OpenSpec.upto boxAroundSpec)

/-- 'gliderlaw09.BoxMore', WHERE WHAT IT READS IS OF BULK AT MOST 1048576: true; the input reads as it did. -/
def boxMoreUptoRow : OpenClaim := { program := "ytfljelnfjbbknaa", sum := "419a99c6b91484a9622408979527d5ae2eff46e1a1f2dc7e428c55337a76f3cf", func := "glider/gliderlaw09.BoxMore", spec := "boxMore", unfollowed := true, recurses := true, plainKeys := false, apart := false, narrowed := true }
def BoxMoreUptoSaid : Prop := boxMoreUptoRow.holds Try.pinned (OpenSpec.upto boxMoreSpec)

/-- 'gliderlaw08.LookCells', WHERE WHAT IT READS IS OF BULK AT MOST 1048576: true; the input reads as it did. -/
def lookCellsUptoRow : OpenClaim := { program := "ytfljelnfjbbknaa", sum := "419a99c6b91484a9622408979527d5ae2eff46e1a1f2dc7e428c55337a76f3cf", func := "glider/gliderlaw08.LookCells", spec := "lookCells", unfollowed := true, recurses := true, plainKeys := false, apart := false, narrowed := true }
def LookCellsUptoSaid : Prop := lookCellsUptoRow.holds Try.pinned (OpenSpec.upto lookCellsSpec)

/-- 'gliderlaw08.LookDeep', WHERE WHAT IT READS IS OF BULK AT MOST 1048576: true; the input reads as it did. -/
def lookDeepUptoRow : OpenClaim := { program := "ytfljelnfjbbknaa", sum := "419a99c6b91484a9622408979527d5ae2eff46e1a1f2dc7e428c55337a76f3cf", func := "glider/gliderlaw08.LookDeep", spec := "lookDeep", unfollowed := true, recurses := true, plainKeys := false, apart := false, narrowed := true }
def LookDeepUptoSaid : Prop := lookDeepUptoRow.holds Try.pinned (OpenSpec.upto lookDeepSpec)

/-- 'gliderlaw08.LookOne', WHERE WHAT IT READS IS OF BULK AT MOST 1048576: true; the input reads as it did. -/
def lookOneUptoRow : OpenClaim := { program := "ytfljelnfjbbknaa", sum := "419a99c6b91484a9622408979527d5ae2eff46e1a1f2dc7e428c55337a76f3cf", func := "glider/gliderlaw08.LookOne", spec := "lookOne", unfollowed := true, recurses := true, plainKeys := false, apart := false, narrowed := true }
def LookOneUptoSaid : Prop := lookOneUptoRow.holds Try.pinned (OpenSpec.upto lookOneSpec)

/-- 'gliderlaw08.LookAll', WHERE WHAT IT READS IS OF BULK AT MOST 1048576: true; the input reads as it did. -/
def lookAllUptoRow : OpenClaim := { program := "ytfljelnfjbbknaa", sum := "419a99c6b91484a9622408979527d5ae2eff46e1a1f2dc7e428c55337a76f3cf", func := "glider/gliderlaw08.LookAll", spec := "lookAll", unfollowed := true, recurses := true, plainKeys := false, apart := false, narrowed := true }
def LookAllUptoSaid : Prop := lookAllUptoRow.holds Try.pinned (OpenSpec.upto lookAllSpec)

end Rows
end Go.Proofs.Ytfljelnfjbbknaa
