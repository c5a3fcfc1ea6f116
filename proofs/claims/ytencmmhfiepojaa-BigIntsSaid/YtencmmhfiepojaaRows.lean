/-
  No cell of these rows narrows 'for every input' (looked for: loops, veiled, ifaces, maps, wideKeys, modest, calm, conditions, laid).
  DERIVED. THE GIVEN ROWS OF THIS SEAT. 10 by the template 'for every input the law returns true; each argument reads behind the call as it read before'; 0 by the template 'total and deterministic' (their statements: YtencmmhfiepojaaTotals.lean).
  GIVEN WITH THE SEED: the statements are not yours to turn. If you find one false, say at which input.
  Laid BY PROGRAM, IN A SANDBOX (cutbox-rows.mjs): the forced cells as the released guide's own fill.sh prints them over the translation 7ef97c0e3380b351… (all of the seat's roots in one cut). By AI agents, Wed Nov 11 2026. No macro, syntax, notation, axiom, sorry.
-/
import Derived.Test.YtencmmhfiepojaaChecked
import GoSem.Claim
import GoSem.ClaimJoined
import GoSem.ClaimMapViews
import Derived.JoinedTies
import Derived.KernelRfl
namespace Go.Proofs.Ytencmmhfiepojaa
/- THE CELL 'sum', in the pinned program and in every row, IS THE sha256 OF THE DUMP (.gsa) THAT YtencmmhfiepojaaProg.lean LOADS. Nothing in Lean hashes anything: it is a label: what it is worth is what the hold of that sum in a sandbox is worth. -/
noncomputable def Try.pinned : Pinned := { name := "ytencmmhfiepojaa", sum := "7ef97c0e3380b35177a918390b8b3d18ec1f2878f776d3ade7a0dbc524b9753a", checked := Try.checked }
namespace Rows
def none {H : Type} : Left H := { results := [], args := [] }

/-- 'gliderlaw04.TextTells': WHATEVER THE INPUT: true; the input reads as it did. -/
def textTellsSpec : ChangeSpec := { name := "textTells", fn := fun _ => fun
  | [d1, d2, d3] => { results := [.lit (.bool true)], args := [d1, d2, d3] }
  | _ => none }
def textTellsRow : OpenClaim := { program := "ytencmmhfiepojaa", sum := "7ef97c0e3380b35177a918390b8b3d18ec1f2878f776d3ade7a0dbc524b9753a", func := "glider/gliderlaw04.TextTells", spec := "textTells", inPlace := ["internal/bytealg.CountString", "internal/bytealg.IndexByteString", "internal/bytealg.IndexString"], named := ["internal/bytealg.MaxLen"], apart := false }
def TextTellsSaid : Prop := textTellsRow.holds Try.pinned (OpenSpec.ofChange textTellsSpec)

/-- ITS FALSE NEIGHBOUR: 'it returns false'. Refute it at one input. -/
def textTellsWrong : ChangeSpec := { name := "textTells", fn := fun _ => fun
  | [d1, d2, d3] => { results := [.lit (.bool false)], args := [d1, d2, d3] }
  | _ => none }
def TextTellsWrongFalsely : Prop := textTellsRow.holds Try.pinned (OpenSpec.ofChange textTellsWrong)

/-- 'gliderlaw04.TextNext': WHATEVER THE INPUT: true; the input reads as it did. -/
def textNextSpec : ChangeSpec := { name := "textNext", fn := fun _ => fun
  | [d1, d2] => { results := [.lit (.bool true)], args := [d1, d2] }
  | _ => none }
def textNextRow : OpenClaim := { program := "ytencmmhfiepojaa", sum := "7ef97c0e3380b35177a918390b8b3d18ec1f2878f776d3ade7a0dbc524b9753a", func := "glider/gliderlaw04.TextNext", spec := "textNext", inPlace := ["internal/bytealg.CountString", "internal/bytealg.IndexByteString", "internal/bytealg.IndexString"], named := ["internal/bytealg.MaxLen"], apart := false }
def TextNextSaid : Prop := textNextRow.holds Try.pinned (OpenSpec.ofChange textNextSpec)

/-- ITS FALSE NEIGHBOUR: 'it returns false'. Refute it at one input. -/
def textNextWrong : ChangeSpec := { name := "textNext", fn := fun _ => fun
  | [d1, d2] => { results := [.lit (.bool false)], args := [d1, d2] }
  | _ => none }
def TextNextWrongFalsely : Prop := textNextRow.holds Try.pinned (OpenSpec.ofChange textNextWrong)

/-- 'gliderlaw04.TextJoins': WHATEVER THE INPUT: true; the input reads as it did. -/
def textJoinsSpec : ChangeSpec := { name := "textJoins", fn := fun _ => fun
  | [d1, d2, d3] => { results := [.lit (.bool true)], args := [d1, d2, d3] }
  | _ => none }
def textJoinsRow : OpenClaim := { program := "ytencmmhfiepojaa", sum := "7ef97c0e3380b35177a918390b8b3d18ec1f2878f776d3ade7a0dbc524b9753a", func := "glider/gliderlaw04.TextJoins", spec := "textJoins", inPlace := ["internal/bytealg.CountString", "internal/bytealg.IndexByteString", "internal/bytealg.IndexString"], named := ["internal/bytealg.MaxLen"], apart := false }
def TextJoinsSaid : Prop := textJoinsRow.holds Try.pinned (OpenSpec.ofChange textJoinsSpec)

/-- ITS FALSE NEIGHBOUR: 'it returns false'. Refute it at one input. -/
def textJoinsWrong : ChangeSpec := { name := "textJoins", fn := fun _ => fun
  | [d1, d2, d3] => { results := [.lit (.bool false)], args := [d1, d2, d3] }
  | _ => none }
def TextJoinsWrongFalsely : Prop := textJoinsRow.holds Try.pinned (OpenSpec.ofChange textJoinsWrong)

/-- 'gliderlaw01.LimbSums': WHATEVER THE INPUT: true; the input reads as it did. -/
def limbSumsSpec : ChangeSpec := { name := "limbSums", fn := fun _ => fun
  | [d1, d2] => { results := [.lit (.bool true)], args := [d1, d2] }
  | _ => none }
def limbSumsRow : OpenClaim := { program := "ytencmmhfiepojaa", sum := "7ef97c0e3380b35177a918390b8b3d18ec1f2878f776d3ade7a0dbc524b9753a", func := "glider/gliderlaw01.LimbSums", spec := "limbSums", unfollowed := true, recurses := true, named := ["math/bits.overflowError"], apart := false }
def LimbSumsSaid : Prop := limbSumsRow.holds Try.pinned (OpenSpec.ofChange limbSumsSpec)

/-- ITS FALSE NEIGHBOUR: 'it returns false'. Refute it at one input. -/
def limbSumsWrong : ChangeSpec := { name := "limbSums", fn := fun _ => fun
  | [d1, d2] => { results := [.lit (.bool false)], args := [d1, d2] }
  | _ => none }
def LimbSumsWrongFalsely : Prop := limbSumsRow.holds Try.pinned (OpenSpec.ofChange limbSumsWrong)

/-- 'gliderlaw01.LimbShifts': WHATEVER THE INPUT: true; the input reads as it did. -/
def limbShiftsSpec : ChangeSpec := { name := "limbShifts", fn := fun _ => fun
  | [d1, d2, d3] => { results := [.lit (.bool true)], args := [d1, d2, d3] }
  | _ => none }
def limbShiftsRow : OpenClaim := { program := "ytencmmhfiepojaa", sum := "7ef97c0e3380b35177a918390b8b3d18ec1f2878f776d3ade7a0dbc524b9753a", func := "glider/gliderlaw01.LimbShifts", spec := "limbShifts", unfollowed := true, recurses := true, named := ["math/bits.overflowError"], apart := false }
def LimbShiftsSaid : Prop := limbShiftsRow.holds Try.pinned (OpenSpec.ofChange limbShiftsSpec)

/-- ITS FALSE NEIGHBOUR: 'it returns false'. Refute it at one input. -/
def limbShiftsWrong : ChangeSpec := { name := "limbShifts", fn := fun _ => fun
  | [d1, d2, d3] => { results := [.lit (.bool false)], args := [d1, d2, d3] }
  | _ => none }
def LimbShiftsWrongFalsely : Prop := limbShiftsRow.holds Try.pinned (OpenSpec.ofChange limbShiftsWrong)

/-- 'gliderlaw01.LimbParts': WHATEVER THE INPUT: true; the input reads as it did. -/
def limbPartsSpec : ChangeSpec := { name := "limbParts", fn := fun _ => fun
  | [d1, d2, d3] => { results := [.lit (.bool true)], args := [d1, d2, d3] }
  | _ => none }
def limbPartsRow : OpenClaim := { program := "ytencmmhfiepojaa", sum := "7ef97c0e3380b35177a918390b8b3d18ec1f2878f776d3ade7a0dbc524b9753a", func := "glider/gliderlaw01.LimbParts", spec := "limbParts", unfollowed := true, recurses := true, named := ["math/bits.overflowError"], apart := false }
def LimbPartsSaid : Prop := limbPartsRow.holds Try.pinned (OpenSpec.ofChange limbPartsSpec)

/-- ITS FALSE NEIGHBOUR: 'it returns false'. Refute it at one input. -/
def limbPartsWrong : ChangeSpec := { name := "limbParts", fn := fun _ => fun
  | [d1, d2, d3] => { results := [.lit (.bool false)], args := [d1, d2, d3] }
  | _ => none }
def LimbPartsWrongFalsely : Prop := limbPartsRow.holds Try.pinned (OpenSpec.ofChange limbPartsWrong)

/-- 'gliderlaw01.LimbBack': WHATEVER THE INPUT: true; the input reads as it did. -/
def limbBackSpec : ChangeSpec := { name := "limbBack", fn := fun _ => fun
  | [d1, d2, d3] => { results := [.lit (.bool true)], args := [d1, d2, d3] }
  | _ => none }
def limbBackRow : OpenClaim := { program := "ytencmmhfiepojaa", sum := "7ef97c0e3380b35177a918390b8b3d18ec1f2878f776d3ade7a0dbc524b9753a", func := "glider/gliderlaw01.LimbBack", spec := "limbBack", unfollowed := true, recurses := true, named := ["math/bits.overflowError"], apart := false }
def LimbBackSaid : Prop := limbBackRow.holds Try.pinned (OpenSpec.ofChange limbBackSpec)

/-- ITS FALSE NEIGHBOUR: 'it returns false'. Refute it at one input. -/
def limbBackWrong : ChangeSpec := { name := "limbBack", fn := fun _ => fun
  | [d1, d2, d3] => { results := [.lit (.bool false)], args := [d1, d2, d3] }
  | _ => none }
def LimbBackWrongFalsely : Prop := limbBackRow.holds Try.pinned (OpenSpec.ofChange limbBackWrong)

/-- 'gliderlaw02.BigInts': WHATEVER THE INPUT: true; the input reads as it did. -/
def bigIntsSpec : ChangeSpec := { name := "bigInts", fn := fun _ => fun
  | [d1, d2, d3] => { results := [.lit (.bool true)], args := [d1, d2, d3] }
  | _ => none }
def bigIntsRow : OpenClaim := { program := "ytencmmhfiepojaa", sum := "7ef97c0e3380b35177a918390b8b3d18ec1f2878f776d3ade7a0dbc524b9753a", func := "glider/gliderlaw02.BigInts", spec := "bigInts", unfollowed := true, recurses := true, apart := false }
def BigIntsSaid : Prop := bigIntsRow.holds Try.pinned (OpenSpec.ofChange bigIntsSpec)

/-- ITS FALSE NEIGHBOUR: 'it returns false'. Refute it at one input. -/
def bigIntsWrong : ChangeSpec := { name := "bigInts", fn := fun _ => fun
  | [d1, d2, d3] => { results := [.lit (.bool false)], args := [d1, d2, d3] }
  | _ => none }
def BigIntsWrongFalsely : Prop := bigIntsRow.holds Try.pinned (OpenSpec.ofChange bigIntsWrong)

/-- 'gliderlaw02.BigSums': WHATEVER THE INPUT: true; the input reads as it did. -/
def bigSumsSpec : ChangeSpec := { name := "bigSums", fn := fun _ => fun
  | [d1, d2, d3] => { results := [.lit (.bool true)], args := [d1, d2, d3] }
  | _ => none }
def bigSumsRow : OpenClaim := { program := "ytencmmhfiepojaa", sum := "7ef97c0e3380b35177a918390b8b3d18ec1f2878f776d3ade7a0dbc524b9753a", func := "glider/gliderlaw02.BigSums", spec := "bigSums", unfollowed := true, recurses := true, apart := false }
def BigSumsSaid : Prop := bigSumsRow.holds Try.pinned (OpenSpec.ofChange bigSumsSpec)

/-- ITS FALSE NEIGHBOUR: 'it returns false'. Refute it at one input. -/
def bigSumsWrong : ChangeSpec := { name := "bigSums", fn := fun _ => fun
  | [d1, d2, d3] => { results := [.lit (.bool false)], args := [d1, d2, d3] }
  | _ => none }
def BigSumsWrongFalsely : Prop := bigSumsRow.holds Try.pinned (OpenSpec.ofChange bigSumsWrong)

/-- 'gliderlaw02.BigBack': WHATEVER THE INPUT: true; the input reads as it did. -/
def bigBackSpec : ChangeSpec := { name := "bigBack", fn := fun _ => fun
  | [d1, d2, d3] => { results := [.lit (.bool true)], args := [d1, d2, d3] }
  | _ => none }
def bigBackRow : OpenClaim := { program := "ytencmmhfiepojaa", sum := "7ef97c0e3380b35177a918390b8b3d18ec1f2878f776d3ade7a0dbc524b9753a", func := "glider/gliderlaw02.BigBack", spec := "bigBack", unfollowed := true, recurses := true, apart := false }
def BigBackSaid : Prop := bigBackRow.holds Try.pinned (OpenSpec.ofChange bigBackSpec)

/-- ITS FALSE NEIGHBOUR: 'it returns false'. Refute it at one input. -/
def bigBackWrong : ChangeSpec := { name := "bigBack", fn := fun _ => fun
  | [d1, d2, d3] => { results := [.lit (.bool false)], args := [d1, d2, d3] }
  | _ => none }
def BigBackWrongFalsely : Prop := bigBackRow.holds Try.pinned (OpenSpec.ofChange bigBackWrong)

/- THE SECOND FORM. 'bulk': how many values and letters a reading holds, each counted each time it is reached (what is shared counts as often as it is met; a slice's spare places count too). A statement '..UptoSaid' is the law's where the arguments, and the package variables that the reading takes, are together of bulk at most 1048576: NARROWER than '..Said'. Prove '..Said' where nothing that the law and all that it calls make is longer than what came in: it says more and counts as full. Else prove '..UptoSaid'. A law counts once. -/
mutual
def uptoBulk {H : Type} : DataW H → Nat
  | .lit (.string bytes) => bytes.length + 1
  | .lit _ => 1
  | .nil => 1
  | .ptr d => uptoBulk d + 1
  | .slice elems spare => uptoBulkAll elems + uptoBulkAll spare + 1
  | .agg parts => uptoBulkAll parts + 1
  | .iface _ d => uptoBulk d + 1
  | .map entries => uptoBulkEntries entries + 1
  | .held _ => 1
def uptoBulkAll {H : Type} : List (DataW H) → Nat
  | [] => 0
  | d :: r => uptoBulk d + uptoBulkAll r
def uptoBulkEntries {H : Type} : List (Lit × DataW H) → Nat
  | [] => 0
  | x :: r => uptoBulkEntry x + uptoBulkEntries r
def uptoBulkEntry {H : Type} : Lit × DataW H → Nat
  | (.string bytes, d) => bytes.length + uptoBulk d + 1
  | (_, d) => uptoBulk d + 1
 end
def uptoSmall : (H : Type) → List (DataW H) → Bool := fun _ ds => decide (uptoBulkAll ds ≤ 1048576)
def OpenSpec.upto (s : _root_.Go.ChangeSpec) : _root_.Go.OpenSpec := { _root_.Go.OpenSpec.ofChange s with cond := some uptoSmall }

/-- 'gliderlaw04.TextTells', WHERE WHAT IT READS IS OF BULK AT MOST 1048576: true; the input reads as it did. -/
def textTellsUptoRow : OpenClaim := { program := "ytencmmhfiepojaa", sum := "7ef97c0e3380b35177a918390b8b3d18ec1f2878f776d3ade7a0dbc524b9753a", func := "glider/gliderlaw04.TextTells", spec := "textTells", inPlace := ["internal/bytealg.CountString", "internal/bytealg.IndexByteString", "internal/bytealg.IndexString"], named := ["internal/bytealg.MaxLen"], apart := false, narrowed := true }
def TextTellsUptoSaid : Prop := textTellsUptoRow.holds Try.pinned (OpenSpec.upto textTellsSpec)

/-- 'gliderlaw04.TextNext', WHERE WHAT IT READS IS OF BULK AT MOST 1048576: true; the input reads as it did. -/
def textNextUptoRow : OpenClaim := { program := "ytencmmhfiepojaa", sum := "7ef97c0e3380b35177a918390b8b3d18ec1f2878f776d3ade7a0dbc524b9753a", func := "glider/gliderlaw04.TextNext", spec := "textNext", inPlace := ["internal/bytealg.CountString", "internal/bytealg.IndexByteString", "internal/bytealg.IndexString"], named := ["internal/bytealg.MaxLen"], apart := false, narrowed := true }
def TextNextUptoSaid : Prop := textNextUptoRow.holds Try.pinned (OpenSpec.upto textNextSpec)

/-- 'gliderlaw04.TextJoins', WHERE WHAT IT READS IS OF BULK AT MOST 1048576: true; the input reads as it did. -/
def textJoinsUptoRow : OpenClaim := { program := "ytencmmhfiepojaa", sum := "7ef97c0e3380b35177a918390b8b3d18ec1f2878f776d3ade7a0dbc524b9753a", func := "glider/gliderlaw04.TextJoins", spec := "textJoins", inPlace := ["internal/bytealg.CountString", "internal/bytealg.IndexByteString", "internal/bytealg.IndexString"], named := ["internal/bytealg.MaxLen"], apart := false, narrowed := true }
def TextJoinsUptoSaid : Prop := textJoinsUptoRow.holds Try.pinned (OpenSpec.upto textJoinsSpec)

/-- 'gliderlaw01.LimbSums', WHERE WHAT IT READS IS OF BULK AT MOST 1048576: true; the input reads as it did. -/
def limbSumsUptoRow : OpenClaim := { program := "ytencmmhfiepojaa", sum := "7ef97c0e3380b35177a918390b8b3d18ec1f2878f776d3ade7a0dbc524b9753a", func := "glider/gliderlaw01.LimbSums", spec := "limbSums", unfollowed := true, recurses := true, named := ["math/bits.overflowError"], apart := false, narrowed := true }
def LimbSumsUptoSaid : Prop := limbSumsUptoRow.holds Try.pinned (OpenSpec.upto limbSumsSpec)

/-- 'gliderlaw01.LimbShifts', WHERE WHAT IT READS IS OF BULK AT MOST 1048576: true; the input reads as it did. -/
def limbShiftsUptoRow : OpenClaim := { program := "ytencmmhfiepojaa", sum := "7ef97c0e3380b35177a918390b8b3d18ec1f2878f776d3ade7a0dbc524b9753a", func := "glider/gliderlaw01.LimbShifts", spec := "limbShifts", unfollowed := true, recurses := true, named := ["math/bits.overflowError"], apart := false, narrowed := true }
def LimbShiftsUptoSaid : Prop := limbShiftsUptoRow.holds Try.pinned (OpenSpec.upto limbShiftsSpec)

/-- 'gliderlaw01.LimbParts', WHERE WHAT IT READS IS OF BULK AT MOST 1048576: true; the input reads as it did. -/
def limbPartsUptoRow : OpenClaim := { program := "ytencmmhfiepojaa", sum := "7ef97c0e3380b35177a918390b8b3d18ec1f2878f776d3ade7a0dbc524b9753a", func := "glider/gliderlaw01.LimbParts", spec := "limbParts", unfollowed := true, recurses := true, named := ["math/bits.overflowError"], apart := false, narrowed := true }
def LimbPartsUptoSaid : Prop := limbPartsUptoRow.holds Try.pinned (OpenSpec.upto limbPartsSpec)

/-- 'gliderlaw01.LimbBack', WHERE WHAT IT READS IS OF BULK AT MOST 1048576: true; the input reads as it did. -/
def limbBackUptoRow : OpenClaim := { program := "ytencmmhfiepojaa", sum := "7ef97c0e3380b35177a918390b8b3d18ec1f2878f776d3ade7a0dbc524b9753a", func := "glider/gliderlaw01.LimbBack", spec := "limbBack", unfollowed := true, recurses := true, named := ["math/bits.overflowError"], apart := false, narrowed := true }
def LimbBackUptoSaid : Prop := limbBackUptoRow.holds Try.pinned (OpenSpec.upto limbBackSpec)

/-- 'gliderlaw02.BigInts', WHERE WHAT IT READS IS OF BULK AT MOST 1048576: true; the input reads as it did. -/
def bigIntsUptoRow : OpenClaim := { program := "ytencmmhfiepojaa", sum := "7ef97c0e3380b35177a918390b8b3d18ec1f2878f776d3ade7a0dbc524b9753a", func := "glider/gliderlaw02.BigInts", spec := "bigInts", unfollowed := true, recurses := true, apart := false, narrowed := true }
def BigIntsUptoSaid : Prop := bigIntsUptoRow.holds Try.pinned (OpenSpec.upto bigIntsSpec)

/-- 'gliderlaw02.BigSums', WHERE WHAT IT READS IS OF BULK AT MOST 1048576: true; the input reads as it did. -/
def bigSumsUptoRow : OpenClaim := { program := "ytencmmhfiepojaa", sum := "7ef97c0e3380b35177a918390b8b3d18ec1f2878f776d3ade7a0dbc524b9753a", func := "glider/gliderlaw02.BigSums", spec := "bigSums", unfollowed := true, recurses := true, apart := false, narrowed := true }
def BigSumsUptoSaid : Prop := bigSumsUptoRow.holds Try.pinned (OpenSpec.upto bigSumsSpec)

/-- 'gliderlaw02.BigBack', WHERE WHAT IT READS IS OF BULK AT MOST 1048576: true; the input reads as it did. -/
def bigBackUptoRow : OpenClaim := { program := "ytencmmhfiepojaa", sum := "7ef97c0e3380b35177a918390b8b3d18ec1f2878f776d3ade7a0dbc524b9753a", func := "glider/gliderlaw02.BigBack", spec := "bigBack", unfollowed := true, recurses := true, apart := false, narrowed := true }
def BigBackUptoSaid : Prop := bigBackUptoRow.holds Try.pinned (OpenSpec.upto bigBackSpec)

end Rows
end Go.Proofs.Ytencmmhfiepojaa
