/-
  No cell of these rows narrows 'for every input' (looked for: loops, veiled, ifaces, maps, wideKeys, modest, calm, conditions, laid).
  DERIVED. THE GIVEN ROWS OF THIS SEAT. 4 by the template 'for every input the law returns true; each argument reads behind the call as it read before'; 0 by the template 'total and deterministic' (their statements: YtihkopdamgboiaaTotals.lean).
  GIVEN WITH THE SEED: the statements are not yours to turn. If you find one false, say at which input.
  Laid BY PROGRAM, IN A SANDBOX (cutbox-rows.mjs): the forced cells as the released guide's own fill.sh prints them over the translation 3fa9250fcb3e4208… (all of the seat's roots in one cut). By AI agents, Wed Nov 11 2026. No macro, syntax, notation, axiom, sorry.
-/
import Derived.Test.YtihkopdamgboiaaChecked
import GoSem.Claim
import GoSem.ClaimJoined
import GoSem.ClaimMapViews
import Derived.JoinedTies
import Derived.KernelRfl
namespace Go.Proofs.Ytihkopdamgboiaa
/- THE CELL 'sum', in the pinned program and in every row, IS THE sha256 OF THE DUMP (.gsa) THAT YtihkopdamgboiaaProg.lean LOADS. Nothing in Lean hashes anything: it is a label: what it is worth is what the hold of that sum in a sandbox is worth. -/
noncomputable def Try.pinned : Pinned := { name := "ytihkopdamgboiaa", sum := "3fa9250fcb3e4208e7918e1899441efbcf85ea6650695f581bd615a96c0535a7", checked := Try.checked }
namespace Rows
def none {H : Type} : Left H := { results := [], args := [] }

/-- 'butterylaw19.DetectSaid': WHATEVER THE INPUT: true; the input reads as it did. -/
def detectSaidSpec : ChangeSpec := { name := "detectSaid", fn := fun _ => fun
  | [d1, d2, d3, d4, d5] => { results := [.lit (.bool true)], args := [d1, d2, d3, d4, d5] }
  | _ => none }
def detectSaidRow : OpenClaim := { program := "ytihkopdamgboiaa", sum := "3fa9250fcb3e4208e7918e1899441efbcf85ea6650695f581bd615a96c0535a7", func := "buttery/butterylaw19.DetectSaid", spec := "detectSaid", unfollowed := true, recurses := true, apart := false }
def DetectSaidSaid : Prop := detectSaidRow.holds Try.pinned (OpenSpec.ofChange detectSaidSpec)

/-- ITS FALSE NEIGHBOUR: 'it returns false'. Refute it at one input. -/
def detectSaidWrong : ChangeSpec := { name := "detectSaid", fn := fun _ => fun
  | [d1, d2, d3, d4, d5] => { results := [.lit (.bool false)], args := [d1, d2, d3, d4, d5] }
  | _ => none }
def DetectSaidWrongFalsely : Prop := detectSaidRow.holds Try.pinned (OpenSpec.ofChange detectSaidWrong)

/-- 'butterylaw19.DetectNames': WHATEVER THE INPUT: true; the input reads as it did. -/
def detectNamesSpec : ChangeSpec := { name := "detectNames", fn := fun _ => fun
  | [] => { results := [.lit (.bool true)], args := [] }
  | _ => none }
def detectNamesRow : OpenClaim := { program := "ytihkopdamgboiaa", sum := "3fa9250fcb3e4208e7918e1899441efbcf85ea6650695f581bd615a96c0535a7", func := "buttery/butterylaw19.DetectNames", spec := "detectNames", unfollowed := true, recurses := true, apart := false }
def DetectNamesSaid : Prop := detectNamesRow.holds Try.pinned (OpenSpec.ofChange detectNamesSpec)

/-- ITS FALSE NEIGHBOUR: 'it returns false'. Refute it at one input. -/
def detectNamesWrong : ChangeSpec := { name := "detectNames", fn := fun _ => fun
  | [] => { results := [.lit (.bool false)], args := [] }
  | _ => none }
def DetectNamesWrongFalsely : Prop := detectNamesRow.holds Try.pinned (OpenSpec.ofChange detectNamesWrong)

/-- 'butterylaw19.DetectPlays': WHATEVER THE INPUT: true; the input reads as it did. -/
def detectPlaysSpec : ChangeSpec := { name := "detectPlays", fn := fun _ => fun
  | [d1, d2, d3, d4] => { results := [.lit (.bool true)], args := [d1, d2, d3, d4] }
  | _ => none }
def detectPlaysRow : OpenClaim := { program := "ytihkopdamgboiaa", sum := "3fa9250fcb3e4208e7918e1899441efbcf85ea6650695f581bd615a96c0535a7", func := "buttery/butterylaw19.DetectPlays", spec := "detectPlays", unfollowed := true, recurses := true, apart := false }
def DetectPlaysSaid : Prop := detectPlaysRow.holds Try.pinned (OpenSpec.ofChange detectPlaysSpec)

/-- ITS FALSE NEIGHBOUR: 'it returns false'. Refute it at one input. -/
def detectPlaysWrong : ChangeSpec := { name := "detectPlays", fn := fun _ => fun
  | [d1, d2, d3, d4] => { results := [.lit (.bool false)], args := [d1, d2, d3, d4] }
  | _ => none }
def DetectPlaysWrongFalsely : Prop := detectPlaysRow.holds Try.pinned (OpenSpec.ofChange detectPlaysWrong)

/-- 'butterylaw19.DetectInTheEnd': WHATEVER THE INPUT: true; the input reads as it did. -/
def detectInTheEndSpec : ChangeSpec := { name := "detectInTheEnd", fn := fun _ => fun
  | [d1, d2, d3] => { results := [.lit (.bool true)], args := [d1, d2, d3] }
  | _ => none }
def detectInTheEndRow : OpenClaim := { program := "ytihkopdamgboiaa", sum := "3fa9250fcb3e4208e7918e1899441efbcf85ea6650695f581bd615a96c0535a7", func := "buttery/butterylaw19.DetectInTheEnd", spec := "detectInTheEnd", unfollowed := true, recurses := true, apart := false }
def DetectInTheEndSaid : Prop := detectInTheEndRow.holds Try.pinned (OpenSpec.ofChange detectInTheEndSpec)

/-- ITS FALSE NEIGHBOUR: 'it returns false'. Refute it at one input. -/
def detectInTheEndWrong : ChangeSpec := { name := "detectInTheEnd", fn := fun _ => fun
  | [d1, d2, d3] => { results := [.lit (.bool false)], args := [d1, d2, d3] }
  | _ => none }
def DetectInTheEndWrongFalsely : Prop := detectInTheEndRow.holds Try.pinned (OpenSpec.ofChange detectInTheEndWrong)

/- THE SECOND FORM. 'bulk': how many values and letters a reading holds, each counted each time it is reached (what is shared counts as often as it is met; a slice's spare places count too). A statement '..UptoSaid' is the law's where the arguments, and the package variables that the reading takes, are together of bulk at most 1048576: NARROWER than '..Said'. Prove '..Said' where nothing that the law and all that it calls make is longer than what came in: it says more and counts as full. Else prove '..UptoSaid'. A law counts once. -/
mutual
def uptoBulk {H : Type} : DataW H → Nat
  | .lit (.string bytes) => bytes.length + 1
  | .lit _ => 1
  | .nil => 1
  | .ptr d => uptoBulk d + 1
  | .slice elems spare => uptoBulkAll elems + uptoBulkAll spare + 1
  | .agg parts => uptoBulkAll parts + 1
  | .iface _ d => uptoBulk d + 1
  | .map entries => uptoBulkEntries entries + 1
  | .held _ => 1
def uptoBulkAll {H : Type} : List (DataW H) → Nat
  | [] => 0
  | d :: r => uptoBulk d + uptoBulkAll r
def uptoBulkEntries {H : Type} : List (Lit × DataW H) → Nat
  | [] => 0
  | x :: r => uptoBulkEntry x + uptoBulkEntries r
def uptoBulkEntry {H : Type} : Lit × DataW H → Nat
  | (.string bytes, d) => bytes.length + uptoBulk d + 1
  | (_, d) => uptoBulk d + 1
 end
def uptoSmall : (H : Type) → List (DataW H) → Bool := fun _ ds => decide (uptoBulkAll ds ≤ 1048576)
def OpenSpec.upto (s : _root_.Go.ChangeSpec) : _root_.Go.OpenSpec := { _root_.Go.OpenSpec.ofChange s with cond := some uptoSmall }

/-- 'butterylaw19.DetectSaid', WHERE WHAT IT READS IS OF BULK AT MOST 1048576: true; the input reads as it did. -/
def detectSaidUptoRow : OpenClaim := { program := "ytihkopdamgboiaa", sum := "3fa9250fcb3e4208e7918e1899441efbcf85ea6650695f581bd615a96c0535a7", func := "buttery/butterylaw19.DetectSaid", spec := "detectSaid", unfollowed := true, recurses := true, apart := false, narrowed := true }
def DetectSaidUptoSaid : Prop := detectSaidUptoRow.holds Try.pinned (OpenSpec.upto detectSaidSpec)

/-- 'butterylaw19.DetectNames', WHERE WHAT IT READS IS OF BULK AT MOST 1048576: true; the input reads as it did. -/
def detectNamesUptoRow : OpenClaim := { program := "ytihkopdamgboiaa", sum := "3fa9250fcb3e4208e7918e1899441efbcf85ea6650695f581bd615a96c0535a7", func := "buttery/butterylaw19.DetectNames", spec := "detectNames", unfollowed := true, recurses := true, apart := false, narrowed := true }
def DetectNamesUptoSaid : Prop := detectNamesUptoRow.holds Try.pinned (OpenSpec.upto detectNamesSpec)

/-- 'butterylaw19.DetectPlays', WHERE WHAT IT READS IS OF BULK AT MOST 1048576: true; the input reads as it did. -/
def detectPlaysUptoRow : OpenClaim := { program := "ytihkopdamgboiaa", sum := "3fa9250fcb3e4208e7918e1899441efbcf85ea6650695f581bd615a96c0535a7", func := "buttery/butterylaw19.DetectPlays", spec := "detectPlays", unfollowed := true, recurses := true, apart := false, narrowed := true }
def DetectPlaysUptoSaid : Prop := detectPlaysUptoRow.holds Try.pinned (OpenSpec.upto detectPlaysSpec)

/-- 'butterylaw19.DetectInTheEnd', WHERE WHAT IT READS IS OF BULK AT MOST 1048576: true; the input reads as it did. -/
def detectInTheEndUptoRow : OpenClaim := { program := "ytihkopdamgboiaa", sum := "3fa9250fcb3e4208e7918e1899441efbcf85ea6650695f581bd615a96c0535a7", func := "buttery/butterylaw19.DetectInTheEnd", spec := "detectInTheEnd", unfollowed := true, recurses := true, apart := false, narrowed := true }
def DetectInTheEndUptoSaid : Prop := detectInTheEndUptoRow.holds Try.pinned (OpenSpec.upto detectInTheEndSpec)

end Rows
end Go.Proofs.Ytihkopdamgboiaa
