/-
  NARROWER THAN 'FOR EVERY INPUT', by the rows' own cells (each row's printed sentence says how): BtreeApart: laid · BtreePlays: laid · BtreeCrashes: laid · KvApart: laid · KvCrashes: laid.
  DERIVED. THE GIVEN ROWS OF THIS SEAT. 5 by the template 'for every input the law returns true; each argument reads behind the call as it read before'; 0 by the template 'total and deterministic' (their statements: YtomffjeofpafnaaGreatDoorTotals.lean).
  GIVEN WITH THE SEED: the statements are not yours to turn. If you find one false, say at which input.
  Laid BY PROGRAM, IN A SANDBOX (cutbox-rows.mjs): the forced cells as the released guide's own fill.sh prints them over the translation 7face0d969a4974d… (all of the seat's roots in one cut). By AI agents, Wed Nov 11 2026. No macro, syntax, notation, axiom, sorry.
-/
import Derived.Test.YtomffjeofpafnaaGreatDoorChecked
import GoSem.PinnedTables
import GoSem.Claim
import GoSem.ClaimJoined
import GoSem.ClaimMapViews
import Derived.JoinedTies
import Derived.KernelRfl
namespace Go.Proofs.YtomffjeofpafnaaGreatDoor
/- THE CELL 'sum', in the pinned program and in every row, IS THE sha256 OF THE DUMP (.gsa) THAT YtomffjeofpafnaaGreatDoorProg.lean LOADS. Nothing in Lean hashes anything: it is a label: what it is worth is what the hold of that sum in a sandbox is worth. -/
noncomputable def Tryz.pinned : Pinned := { name := "ytomffjeofpafnaagreatdoor", sum := "7face0d969a4974de13ded3337ca6213b4826922865f91e69797ae1cb9043b48", checked := Tryz.checked }
namespace Rows
def none {H : Type} : Left H := { results := [], args := [] }

/- WHAT THE LISTED PACKAGE-LEVEL VARIABLES READ AS WHEN THE CALL BEGINS. Each datum BY PROGRAM (the guide's laid-datum.mjs) off the statement by which the dump's own 'gosem.cut.vars' lays the variable. In a bare row this is a premise. The card (YtomffjeofpafnaaGreatDoorCards.lean) ties it to the program's text. -/
def laid_unicode_utf8_acceptRanges {H : Type} : DataW H := .agg [.agg [.lit (.int .u8 128), .lit (.int .u8 191)], .agg [.lit (.int .u8 160), .lit (.int .u8 191)], .agg [.lit (.int .u8 128), .lit (.int .u8 159)], .agg [.lit (.int .u8 144), .lit (.int .u8 191)], .agg [.lit (.int .u8 128), .lit (.int .u8 143)], .agg [.lit (.int .u8 0), .lit (.int .u8 0)], .agg [.lit (.int .u8 0), .lit (.int .u8 0)], .agg [.lit (.int .u8 0), .lit (.int .u8 0)], .agg [.lit (.int .u8 0), .lit (.int .u8 0)], .agg [.lit (.int .u8 0), .lit (.int .u8 0)], .agg [.lit (.int .u8 0), .lit (.int .u8 0)], .agg [.lit (.int .u8 0), .lit (.int .u8 0)], .agg [.lit (.int .u8 0), .lit (.int .u8 0)], .agg [.lit (.int .u8 0), .lit (.int .u8 0)], .agg [.lit (.int .u8 0), .lit (.int .u8 0)], .agg [.lit (.int .u8 0), .lit (.int .u8 0)]]
/-- One of Go's own tables, pinned by name: the form's constant. -/
def laid_unicode_utf8_first : DataW Unit := Go.Pinned.utf8First

/-- 'butterylaw07.BtreeApart': WHATEVER THE INPUT: true; the input reads as it did. -/
def btreeApartSpec : ChangeSpec := { name := "btreeApart", fn := fun _ => fun
  | [d1, d2, d3, d4] => { results := [.lit (.bool true)], args := [d1, d2, d3, d4] }
  | _ => none }
def btreeApartRow : OpenClaim := { program := "ytomffjeofpafnaagreatdoor", sum := "7face0d969a4974de13ded3337ca6213b4826922865f91e69797ae1cb9043b48", func := "buttery/butterylaw07.BtreeApart", spec := "btreeApart", inPlace := ["slices.overlaps[buttery/node.Cell]", "slices.overlaps[int]"], unfollowed := true, recurses := true, named := ["unicode/utf8.first", "unicode/utf8.acceptRanges"], plainKeys := false, apart := false, laid := [("unicode/utf8.acceptRanges", laid_unicode_utf8_acceptRanges), ("unicode/utf8.first", laid_unicode_utf8_first)] }
def BtreeApartSaid : Prop := btreeApartRow.holds Tryz.pinned (OpenSpec.ofChange btreeApartSpec)

/-- ITS FALSE NEIGHBOUR: 'it returns false'. Refute it at one input. -/
def btreeApartWrong : ChangeSpec := { name := "btreeApart", fn := fun _ => fun
  | [d1, d2, d3, d4] => { results := [.lit (.bool false)], args := [d1, d2, d3, d4] }
  | _ => none }
def BtreeApartWrongFalsely : Prop := btreeApartRow.holds Tryz.pinned (OpenSpec.ofChange btreeApartWrong)

/-- 'butterylaw07.BtreePlays': WHATEVER THE INPUT: true; the input reads as it did. -/
def btreePlaysSpec : ChangeSpec := { name := "btreePlays", fn := fun _ => fun
  | [d1, d2] => { results := [.lit (.bool true)], args := [d1, d2] }
  | _ => none }
def btreePlaysRow : OpenClaim := { program := "ytomffjeofpafnaagreatdoor", sum := "7face0d969a4974de13ded3337ca6213b4826922865f91e69797ae1cb9043b48", func := "buttery/butterylaw07.BtreePlays", spec := "btreePlays", inPlace := ["slices.overlaps[buttery/node.Cell]", "slices.overlaps[int]"], unfollowed := true, recurses := true, named := ["unicode/utf8.first", "unicode/utf8.acceptRanges"], plainKeys := false, apart := false, laid := [("unicode/utf8.acceptRanges", laid_unicode_utf8_acceptRanges), ("unicode/utf8.first", laid_unicode_utf8_first)] }
def BtreePlaysSaid : Prop := btreePlaysRow.holds Tryz.pinned (OpenSpec.ofChange btreePlaysSpec)

/-- ITS FALSE NEIGHBOUR: 'it returns false'. Refute it at one input. -/
def btreePlaysWrong : ChangeSpec := { name := "btreePlays", fn := fun _ => fun
  | [d1, d2] => { results := [.lit (.bool false)], args := [d1, d2] }
  | _ => none }
def BtreePlaysWrongFalsely : Prop := btreePlaysRow.holds Tryz.pinned (OpenSpec.ofChange btreePlaysWrong)

/-- 'butterylaw07.BtreeCrashes': WHATEVER THE INPUT: true; the input reads as it did. -/
def btreeCrashesSpec : ChangeSpec := { name := "btreeCrashes", fn := fun _ => fun
  | [d1, d2, d3, d4] => { results := [.lit (.bool true)], args := [d1, d2, d3, d4] }
  | _ => none }
def btreeCrashesRow : OpenClaim := { program := "ytomffjeofpafnaagreatdoor", sum := "7face0d969a4974de13ded3337ca6213b4826922865f91e69797ae1cb9043b48", func := "buttery/butterylaw07.BtreeCrashes", spec := "btreeCrashes", inPlace := ["slices.overlaps[buttery/node.Cell]", "slices.overlaps[int]"], unfollowed := true, recurses := true, named := ["unicode/utf8.first", "unicode/utf8.acceptRanges"], plainKeys := false, apart := false, laid := [("unicode/utf8.acceptRanges", laid_unicode_utf8_acceptRanges), ("unicode/utf8.first", laid_unicode_utf8_first)] }
def BtreeCrashesSaid : Prop := btreeCrashesRow.holds Tryz.pinned (OpenSpec.ofChange btreeCrashesSpec)

/-- ITS FALSE NEIGHBOUR: 'it returns false'. Refute it at one input. -/
def btreeCrashesWrong : ChangeSpec := { name := "btreeCrashes", fn := fun _ => fun
  | [d1, d2, d3, d4] => { results := [.lit (.bool false)], args := [d1, d2, d3, d4] }
  | _ => none }
def BtreeCrashesWrongFalsely : Prop := btreeCrashesRow.holds Tryz.pinned (OpenSpec.ofChange btreeCrashesWrong)

/-- 'butterylaw08.KvApart': WHATEVER THE INPUT: true; the input reads as it did. -/
def kvApartSpec : ChangeSpec := { name := "kvApart", fn := fun _ => fun
  | [d1, d2, d3] => { results := [.lit (.bool true)], args := [d1, d2, d3] }
  | _ => none }
def kvApartRow : OpenClaim := { program := "ytomffjeofpafnaagreatdoor", sum := "7face0d969a4974de13ded3337ca6213b4826922865f91e69797ae1cb9043b48", func := "buttery/butterylaw08.KvApart", spec := "kvApart", inPlace := ["slices.overlaps[buttery/node.Cell]", "slices.overlaps[int]"], unfollowed := true, recurses := true, named := ["unicode/utf8.first", "unicode/utf8.acceptRanges"], plainKeys := false, apart := false, laid := [("unicode/utf8.acceptRanges", laid_unicode_utf8_acceptRanges), ("unicode/utf8.first", laid_unicode_utf8_first)] }
def KvApartSaid : Prop := kvApartRow.holds Tryz.pinned (OpenSpec.ofChange kvApartSpec)

/-- ITS FALSE NEIGHBOUR: 'it returns false'. Refute it at one input. -/
def kvApartWrong : ChangeSpec := { name := "kvApart", fn := fun _ => fun
  | [d1, d2, d3] => { results := [.lit (.bool false)], args := [d1, d2, d3] }
  | _ => none }
def KvApartWrongFalsely : Prop := kvApartRow.holds Tryz.pinned (OpenSpec.ofChange kvApartWrong)

/-- 'butterylaw08.KvCrashes': WHATEVER THE INPUT: true; the input reads as it did. -/
def kvCrashesSpec : ChangeSpec := { name := "kvCrashes", fn := fun _ => fun
  | [d1, d2, d3, d4] => { results := [.lit (.bool true)], args := [d1, d2, d3, d4] }
  | _ => none }
def kvCrashesRow : OpenClaim := { program := "ytomffjeofpafnaagreatdoor", sum := "7face0d969a4974de13ded3337ca6213b4826922865f91e69797ae1cb9043b48", func := "buttery/butterylaw08.KvCrashes", spec := "kvCrashes", inPlace := ["slices.overlaps[buttery/node.Cell]", "slices.overlaps[int]"], unfollowed := true, recurses := true, named := ["unicode/utf8.first", "unicode/utf8.acceptRanges"], plainKeys := false, apart := false, laid := [("unicode/utf8.acceptRanges", laid_unicode_utf8_acceptRanges), ("unicode/utf8.first", laid_unicode_utf8_first)] }
def KvCrashesSaid : Prop := kvCrashesRow.holds Tryz.pinned (OpenSpec.ofChange kvCrashesSpec)

/-- ITS FALSE NEIGHBOUR: 'it returns false'. Refute it at one input. -/
def kvCrashesWrong : ChangeSpec := { name := "kvCrashes", fn := fun _ => fun
  | [d1, d2, d3, d4] => { results := [.lit (.bool false)], args := [d1, d2, d3, d4] }
  | _ => none }
def KvCrashesWrongFalsely : Prop := kvCrashesRow.holds Tryz.pinned (OpenSpec.ofChange kvCrashesWrong)

/- THE SECOND FORM. 'bulk': how many values and letters a reading holds, each counted each time it is reached (what is shared counts as often as it is met; a slice's spare places count too). A statement '..UptoSaid' is the law's where the arguments, and the package variables that the reading takes, are together of bulk at most 1048576: NARROWER than '..Said'. Prove '..Said' where nothing that the law and all that it calls make is longer than what came in: it says more and counts as full. Else prove '..UptoSaid'. A law counts once. -/
mutual
def uptoBulk {H : Type} : DataW H → Nat
  | .lit (.string bytes) => bytes.length + 1
  | .lit _ => 1
  | .nil => 1
  | .ptr d => uptoBulk d + 1
  | .slice elems spare => uptoBulkAll elems + uptoBulkAll spare + 1
  | .agg parts => uptoBulkAll parts + 1
  | .iface _ d => uptoBulk d + 1
  | .map entries => uptoBulkEntries entries + 1
  | .held _ => 1
def uptoBulkAll {H : Type} : List (DataW H) → Nat
  | [] => 0
  | d :: r => uptoBulk d + uptoBulkAll r
def uptoBulkEntries {H : Type} : List (Lit × DataW H) → Nat
  | [] => 0
  | x :: r => uptoBulkEntry x + uptoBulkEntries r
def uptoBulkEntry {H : Type} : Lit × DataW H → Nat
  | (.string bytes, d) => bytes.length + uptoBulk d + 1
  | (_, d) => uptoBulk d + 1
 end
def uptoSmall : (H : Type) → List (DataW H) → Bool := fun _ ds => decide (uptoBulkAll ds ≤ 1048576)
def OpenSpec.upto (s : _root_.Go.ChangeSpec) : _root_.Go.OpenSpec := { _root_.Go.OpenSpec.ofChange s with cond := some uptoSmall }

/-- 'butterylaw07.BtreeApart', WHERE WHAT IT READS IS OF BULK AT MOST 1048576: true; the input reads as it did. -/
def btreeApartUptoRow : OpenClaim := { program := "ytomffjeofpafnaagreatdoor", sum := "7face0d969a4974de13ded3337ca6213b4826922865f91e69797ae1cb9043b48", func := "buttery/butterylaw07.BtreeApart", spec := "btreeApart", inPlace := ["slices.overlaps[buttery/node.Cell]", "slices.overlaps[int]"], unfollowed := true, recurses := true, named := ["unicode/utf8.first", "unicode/utf8.acceptRanges"], plainKeys := false, apart := false, laid := [("unicode/utf8.acceptRanges", laid_unicode_utf8_acceptRanges), ("unicode/utf8.first", laid_unicode_utf8_first)], narrowed := true }
def BtreeApartUptoSaid : Prop := btreeApartUptoRow.holds Tryz.pinned (OpenSpec.upto btreeApartSpec)

/-- 'butterylaw07.BtreePlays', WHERE WHAT IT READS IS OF BULK AT MOST 1048576: true; the input reads as it did. -/
def btreePlaysUptoRow : OpenClaim := { program := "ytomffjeofpafnaagreatdoor", sum := "7face0d969a4974de13ded3337ca6213b4826922865f91e69797ae1cb9043b48", func := "buttery/butterylaw07.BtreePlays", spec := "btreePlays", inPlace := ["slices.overlaps[buttery/node.Cell]", "slices.overlaps[int]"], unfollowed := true, recurses := true, named := ["unicode/utf8.first", "unicode/utf8.acceptRanges"], plainKeys := false, apart := false, laid := [("unicode/utf8.acceptRanges", laid_unicode_utf8_acceptRanges), ("unicode/utf8.first", laid_unicode_utf8_first)], narrowed := true }
def BtreePlaysUptoSaid : Prop := btreePlaysUptoRow.holds Tryz.pinned (OpenSpec.upto btreePlaysSpec)

/-- 'butterylaw07.BtreeCrashes', WHERE WHAT IT READS IS OF BULK AT MOST 1048576: true; the input reads as it did. -/
def btreeCrashesUptoRow : OpenClaim := { program := "ytomffjeofpafnaagreatdoor", sum := "7face0d969a4974de13ded3337ca6213b4826922865f91e69797ae1cb9043b48", func := "buttery/butterylaw07.BtreeCrashes", spec := "btreeCrashes", inPlace := ["slices.overlaps[buttery/node.Cell]", "slices.overlaps[int]"], unfollowed := true, recurses := true, named := ["unicode/utf8.first", "unicode/utf8.acceptRanges"], plainKeys := false, apart := false, laid := [("unicode/utf8.acceptRanges", laid_unicode_utf8_acceptRanges), ("unicode/utf8.first", laid_unicode_utf8_first)], narrowed := true }
def BtreeCrashesUptoSaid : Prop := btreeCrashesUptoRow.holds Tryz.pinned (OpenSpec.upto btreeCrashesSpec)

/-- 'butterylaw08.KvApart', WHERE WHAT IT READS IS OF BULK AT MOST 1048576: true; the input reads as it did. -/
def kvApartUptoRow : OpenClaim := { program := "ytomffjeofpafnaagreatdoor", sum := "7face0d969a4974de13ded3337ca6213b4826922865f91e69797ae1cb9043b48", func := "buttery/butterylaw08.KvApart", spec := "kvApart", inPlace := ["slices.overlaps[buttery/node.Cell]", "slices.overlaps[int]"], unfollowed := true, recurses := true, named := ["unicode/utf8.first", "unicode/utf8.acceptRanges"], plainKeys := false, apart := false, laid := [("unicode/utf8.acceptRanges", laid_unicode_utf8_acceptRanges), ("unicode/utf8.first", laid_unicode_utf8_first)], narrowed := true }
def KvApartUptoSaid : Prop := kvApartUptoRow.holds Tryz.pinned (OpenSpec.upto kvApartSpec)

/-- 'butterylaw08.KvCrashes', WHERE WHAT IT READS IS OF BULK AT MOST 1048576: true; the input reads as it did. -/
def kvCrashesUptoRow : OpenClaim := { program := "ytomffjeofpafnaagreatdoor", sum := "7face0d969a4974de13ded3337ca6213b4826922865f91e69797ae1cb9043b48", func := "buttery/butterylaw08.KvCrashes", spec := "kvCrashes", inPlace := ["slices.overlaps[buttery/node.Cell]", "slices.overlaps[int]"], unfollowed := true, recurses := true, named := ["unicode/utf8.first", "unicode/utf8.acceptRanges"], plainKeys := false, apart := false, laid := [("unicode/utf8.acceptRanges", laid_unicode_utf8_acceptRanges), ("unicode/utf8.first", laid_unicode_utf8_first)], narrowed := true }
def KvCrashesUptoSaid : Prop := kvCrashesUptoRow.holds Tryz.pinned (OpenSpec.upto kvCrashesSpec)

end Rows
end Go.Proofs.YtomffjeofpafnaaGreatDoor
