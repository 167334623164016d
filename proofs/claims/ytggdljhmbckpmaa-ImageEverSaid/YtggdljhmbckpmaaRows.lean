/-
  NARROWER THAN 'FOR EVERY INPUT', by the rows' own cells (each row's printed sentence says how): ImageBack: loops · ImageEver: loops.
  DERIVED. THE GIVEN ROWS OF THIS SEAT. 7 by the template 'for every input the law returns true; each argument reads behind the call as it read before'; 0 by the template 'total and deterministic' (their statements: YtggdljhmbckpmaaTotals.lean).
  GIVEN WITH THE SEED: the statements are not yours to turn. If you find one false, say at which input.
  Laid BY PROGRAM, IN A SANDBOX (cutbox-rows.mjs): the forced cells as the released guide's own fill.sh prints them over the translation 0b1c8a11c668cc2b… (all of the seat's roots in one cut). By AI agents, Wed Nov 11 2026. No macro, syntax, notation, axiom, sorry.
-/
import Derived.Test.YtggdljhmbckpmaaChecked
import GoSem.Claim
import GoSem.ClaimJoined
import GoSem.ClaimMapViews
import Derived.JoinedTies
import Derived.KernelRfl
namespace Go.Proofs.Ytggdljhmbckpmaa
/- THE CELL 'sum', in the pinned program and in every row, IS THE sha256 OF THE DUMP (.gsa) THAT YtggdljhmbckpmaaProg.lean LOADS. Nothing in Lean hashes anything: it is a label: what it is worth is what the hold of that sum in a sandbox is worth. -/
noncomputable def Try.pinned : Pinned := { name := "ytggdljhmbckpmaa", sum := "0b1c8a11c668cc2b1989516de27b3ef0e96737f9653f9808dca7b350b6241a82", checked := Try.checked }
namespace Rows
def none {H : Type} : Left H := { results := [], args := [] }

/-- 'peculiumlaw30.ImageBack': WHATEVER THE INPUT: true; the input reads as it did. -/
def imageBackSpec : ChangeSpec := { name := "imageBack", fn := fun _ => fun
  | [d1, d2] => { results := [.lit (.bool true)], args := [d1, d2] }
  | _ => none }
def imageBackRow : OpenClaim := { program := "ytggdljhmbckpmaa", sum := "0b1c8a11c668cc2b1989516de27b3ef0e96737f9653f9808dca7b350b6241a82", func := "peculium/peculiumlaw30.ImageBack", spec := "imageBack", unfollowed := true, recurses := true, loops := true, apart := false }
def ImageBackSaid : Prop := imageBackRow.holds Try.pinned (OpenSpec.ofChange imageBackSpec)

/-- ITS FALSE NEIGHBOUR: 'it returns false'. Refute it at one input. -/
def imageBackWrong : ChangeSpec := { name := "imageBack", fn := fun _ => fun
  | [d1, d2] => { results := [.lit (.bool false)], args := [d1, d2] }
  | _ => none }
def ImageBackWrongFalsely : Prop := imageBackRow.holds Try.pinned (OpenSpec.ofChange imageBackWrong)

/-- 'peculiumlaw30.ImageLogs': WHATEVER THE INPUT: true; the input reads as it did. -/
def imageLogsSpec : ChangeSpec := { name := "imageLogs", fn := fun _ => fun
  | [d1, d2] => { results := [.lit (.bool true)], args := [d1, d2] }
  | _ => none }
def imageLogsRow : OpenClaim := { program := "ytggdljhmbckpmaa", sum := "0b1c8a11c668cc2b1989516de27b3ef0e96737f9653f9808dca7b350b6241a82", func := "peculium/peculiumlaw30.ImageLogs", spec := "imageLogs", unfollowed := true, recurses := true, apart := false }
def ImageLogsSaid : Prop := imageLogsRow.holds Try.pinned (OpenSpec.ofChange imageLogsSpec)

/-- ITS FALSE NEIGHBOUR: 'it returns false'. Refute it at one input. -/
def imageLogsWrong : ChangeSpec := { name := "imageLogs", fn := fun _ => fun
  | [d1, d2] => { results := [.lit (.bool false)], args := [d1, d2] }
  | _ => none }
def ImageLogsWrongFalsely : Prop := imageLogsRow.holds Try.pinned (OpenSpec.ofChange imageLogsWrong)

/-- 'peculiumlaw30.ImageDrives': WHATEVER THE INPUT: true; the input reads as it did. -/
def imageDrivesSpec : ChangeSpec := { name := "imageDrives", fn := fun _ => fun
  | [d1, d2, d3] => { results := [.lit (.bool true)], args := [d1, d2, d3] }
  | _ => none }
def imageDrivesRow : OpenClaim := { program := "ytggdljhmbckpmaa", sum := "0b1c8a11c668cc2b1989516de27b3ef0e96737f9653f9808dca7b350b6241a82", func := "peculium/peculiumlaw30.ImageDrives", spec := "imageDrives", unfollowed := true, recurses := true, apart := false }
def ImageDrivesSaid : Prop := imageDrivesRow.holds Try.pinned (OpenSpec.ofChange imageDrivesSpec)

/-- ITS FALSE NEIGHBOUR: 'it returns false'. Refute it at one input. -/
def imageDrivesWrong : ChangeSpec := { name := "imageDrives", fn := fun _ => fun
  | [d1, d2, d3] => { results := [.lit (.bool false)], args := [d1, d2, d3] }
  | _ => none }
def ImageDrivesWrongFalsely : Prop := imageDrivesRow.holds Try.pinned (OpenSpec.ofChange imageDrivesWrong)

/-- 'peculiumlaw30.ImageFails': WHATEVER THE INPUT: true; the input reads as it did. -/
def imageFailsSpec : ChangeSpec := { name := "imageFails", fn := fun _ => fun
  | [d1, d2, d3] => { results := [.lit (.bool true)], args := [d1, d2, d3] }
  | _ => none }
def imageFailsRow : OpenClaim := { program := "ytggdljhmbckpmaa", sum := "0b1c8a11c668cc2b1989516de27b3ef0e96737f9653f9808dca7b350b6241a82", func := "peculium/peculiumlaw30.ImageFails", spec := "imageFails", unfollowed := true, recurses := true, apart := false }
def ImageFailsSaid : Prop := imageFailsRow.holds Try.pinned (OpenSpec.ofChange imageFailsSpec)

/-- ITS FALSE NEIGHBOUR: 'it returns false'. Refute it at one input. -/
def imageFailsWrong : ChangeSpec := { name := "imageFails", fn := fun _ => fun
  | [d1, d2, d3] => { results := [.lit (.bool false)], args := [d1, d2, d3] }
  | _ => none }
def ImageFailsWrongFalsely : Prop := imageFailsRow.holds Try.pinned (OpenSpec.ofChange imageFailsWrong)

/-- 'peculiumlaw30.ImageDamage': WHATEVER THE INPUT: true; the input reads as it did. -/
def imageDamageSpec : ChangeSpec := { name := "imageDamage", fn := fun _ => fun
  | [d1, d2] => { results := [.lit (.bool true)], args := [d1, d2] }
  | _ => none }
def imageDamageRow : OpenClaim := { program := "ytggdljhmbckpmaa", sum := "0b1c8a11c668cc2b1989516de27b3ef0e96737f9653f9808dca7b350b6241a82", func := "peculium/peculiumlaw30.ImageDamage", spec := "imageDamage", unfollowed := true, recurses := true, apart := false }
def ImageDamageSaid : Prop := imageDamageRow.holds Try.pinned (OpenSpec.ofChange imageDamageSpec)

/-- ITS FALSE NEIGHBOUR: 'it returns false'. Refute it at one input. -/
def imageDamageWrong : ChangeSpec := { name := "imageDamage", fn := fun _ => fun
  | [d1, d2] => { results := [.lit (.bool false)], args := [d1, d2] }
  | _ => none }
def ImageDamageWrongFalsely : Prop := imageDamageRow.holds Try.pinned (OpenSpec.ofChange imageDamageWrong)

/-- 'peculiumlaw30.ImageWrites': WHATEVER THE INPUT: true; the input reads as it did. -/
def imageWritesSpec : ChangeSpec := { name := "imageWrites", fn := fun _ => fun
  | [d1, d2, d3] => { results := [.lit (.bool true)], args := [d1, d2, d3] }
  | _ => none }
def imageWritesRow : OpenClaim := { program := "ytggdljhmbckpmaa", sum := "0b1c8a11c668cc2b1989516de27b3ef0e96737f9653f9808dca7b350b6241a82", func := "peculium/peculiumlaw30.ImageWrites", spec := "imageWrites", unfollowed := true, recurses := true, apart := false }
def ImageWritesSaid : Prop := imageWritesRow.holds Try.pinned (OpenSpec.ofChange imageWritesSpec)

/-- ITS FALSE NEIGHBOUR: 'it returns false'. Refute it at one input. -/
def imageWritesWrong : ChangeSpec := { name := "imageWrites", fn := fun _ => fun
  | [d1, d2, d3] => { results := [.lit (.bool false)], args := [d1, d2, d3] }
  | _ => none }
def ImageWritesWrongFalsely : Prop := imageWritesRow.holds Try.pinned (OpenSpec.ofChange imageWritesWrong)

/-- 'peculiumlaw30.ImageEver': WHATEVER THE INPUT: true; the input reads as it did. -/
def imageEverSpec : ChangeSpec := { name := "imageEver", fn := fun _ => fun
  | [d1, d2, d3] => { results := [.lit (.bool true)], args := [d1, d2, d3] }
  | _ => none }
def imageEverRow : OpenClaim := { program := "ytggdljhmbckpmaa", sum := "0b1c8a11c668cc2b1989516de27b3ef0e96737f9653f9808dca7b350b6241a82", func := "peculium/peculiumlaw30.ImageEver", spec := "imageEver", unfollowed := true, recurses := true, loops := true, apart := false }
def ImageEverSaid : Prop := imageEverRow.holds Try.pinned (OpenSpec.ofChange imageEverSpec)

/-- ITS FALSE NEIGHBOUR: 'it returns false'. Refute it at one input. -/
def imageEverWrong : ChangeSpec := { name := "imageEver", fn := fun _ => fun
  | [d1, d2, d3] => { results := [.lit (.bool false)], args := [d1, d2, d3] }
  | _ => none }
def ImageEverWrongFalsely : Prop := imageEverRow.holds Try.pinned (OpenSpec.ofChange imageEverWrong)

/- THE SECOND FORM. 'bulk': how many values and letters a reading holds, each counted each time it is reached (what is shared counts as often as it is met; a slice's spare places count too). A statement '..UptoSaid' is the law's where the arguments, and the package variables that the reading takes, are together of bulk at most 1048576: NARROWER than '..Said'. Prove '..Said' where nothing that the law and all that it calls make is longer than what came in: it says more and counts as full. Else prove '..UptoSaid'. A law counts once. -/
mutual
def uptoBulk {H : Type} : DataW H → Nat
  | .lit (.string bytes) => bytes.length + 1
  | .lit _ => 1
  | .nil => 1
  | .ptr d => uptoBulk d + 1
  | .slice elems spare => uptoBulkAll elems + uptoBulkAll spare + 1
  | .agg parts => uptoBulkAll parts + 1
  | .iface _ d => uptoBulk d + 1
  | .map entries => uptoBulkEntries entries + 1
  | .held _ => 1
def uptoBulkAll {H : Type} : List (DataW H) → Nat
  | [] => 0
  | d :: r => uptoBulk d + uptoBulkAll r
def uptoBulkEntries {H : Type} : List (Lit × DataW H) → Nat
  | [] => 0
  | x :: r => uptoBulkEntry x + uptoBulkEntries r
def uptoBulkEntry {H : Type} : Lit × DataW H → Nat
  | (.string bytes, d) => bytes.length + uptoBulk d + 1
  | (_, d) => uptoBulk d + 1
 end
def uptoSmall : (H : Type) → List (DataW H) → Bool := fun _ ds => decide (uptoBulkAll ds ≤ 1048576)
def OpenSpec.upto (s : _root_.Go.ChangeSpec) : _root_.Go.OpenSpec := { _root_.Go.OpenSpec.ofChange s with cond := some uptoSmall }

/-- 'peculiumlaw30.ImageBack', WHERE WHAT IT READS IS OF BULK AT MOST 1048576: true; the input reads as it did. -/
def imageBackUptoRow : OpenClaim := { program := "ytggdljhmbckpmaa", sum := "0b1c8a11c668cc2b1989516de27b3ef0e96737f9653f9808dca7b350b6241a82", func := "peculium/peculiumlaw30.ImageBack", spec := "imageBack", unfollowed := true, recurses := true, loops := true, apart := false, narrowed := true }
def ImageBackUptoSaid : Prop := imageBackUptoRow.holds Try.pinned (OpenSpec.upto imageBackSpec)

/-- 'peculiumlaw30.ImageLogs', WHERE WHAT IT READS IS OF BULK AT MOST 1048576: true; the input reads as it did. -/
def imageLogsUptoRow : OpenClaim := { program := "ytggdljhmbckpmaa", sum := "0b1c8a11c668cc2b1989516de27b3ef0e96737f9653f9808dca7b350b6241a82", func := "peculium/peculiumlaw30.ImageLogs", spec := "imageLogs", unfollowed := true, recurses := true, apart := false, narrowed := true }
def ImageLogsUptoSaid : Prop := imageLogsUptoRow.holds Try.pinned (OpenSpec.upto imageLogsSpec)

/-- 'peculiumlaw30.ImageDrives', WHERE WHAT IT READS IS OF BULK AT MOST 1048576: true; the input reads as it did. -/
def imageDrivesUptoRow : OpenClaim := { program := "ytggdljhmbckpmaa", sum := "0b1c8a11c668cc2b1989516de27b3ef0e96737f9653f9808dca7b350b6241a82", func := "peculium/peculiumlaw30.ImageDrives", spec := "imageDrives", unfollowed := true, recurses := true, apart := false, narrowed := true }
def ImageDrivesUptoSaid : Prop := imageDrivesUptoRow.holds Try.pinned (OpenSpec.upto imageDrivesSpec)

/-- 'peculiumlaw30.ImageFails', WHERE WHAT IT READS IS OF BULK AT MOST 1048576: true; the input reads as it did. -/
def imageFailsUptoRow : OpenClaim := { program := "ytggdljhmbckpmaa", sum := "0b1c8a11c668cc2b1989516de27b3ef0e96737f9653f9808dca7b350b6241a82", func := "peculium/peculiumlaw30.ImageFails", spec := "imageFails", unfollowed := true, recurses := true, apart := false, narrowed := true }
def ImageFailsUptoSaid : Prop := imageFailsUptoRow.holds Try.pinned (OpenSpec.upto imageFailsSpec)

/-- 'peculiumlaw30.ImageDamage', WHERE WHAT IT READS IS OF BULK AT MOST 1048576: true; the input reads as it did. -/
def imageDamageUptoRow : OpenClaim := { program := "ytggdljhmbckpmaa", sum := "0b1c8a11c668cc2b1989516de27b3ef0e96737f9653f9808dca7b350b6241a82", func := "peculium/peculiumlaw30.ImageDamage", spec := "imageDamage", unfollowed := true, recurses := true, apart := false, narrowed := true }
def ImageDamageUptoSaid : Prop := imageDamageUptoRow.holds Try.pinned (OpenSpec.upto imageDamageSpec)

/-- 'peculiumlaw30.ImageWrites', WHERE WHAT IT READS IS OF BULK AT MOST 1048576: true; the input reads as it did. -/
def imageWritesUptoRow : OpenClaim := { program := "ytggdljhmbckpmaa", sum := "0b1c8a11c668cc2b1989516de27b3ef0e96737f9653f9808dca7b350b6241a82", func := "peculium/peculiumlaw30.ImageWrites", spec := "imageWrites", unfollowed := true, recurses := true, apart := false, narrowed := true }
def ImageWritesUptoSaid : Prop := imageWritesUptoRow.holds Try.pinned (OpenSpec.upto imageWritesSpec)

/-- 'peculiumlaw30.ImageEver', WHERE WHAT IT READS IS OF BULK AT MOST 1048576: true; the input reads as it did. -/
def imageEverUptoRow : OpenClaim := { program := "ytggdljhmbckpmaa", sum := "0b1c8a11c668cc2b1989516de27b3ef0e96737f9653f9808dca7b350b6241a82", func := "peculium/peculiumlaw30.ImageEver", spec := "imageEver", unfollowed := true, recurses := true, loops := true, apart := false, narrowed := true }
def ImageEverUptoSaid : Prop := imageEverUptoRow.holds Try.pinned (OpenSpec.upto imageEverSpec)

end Rows
end Go.Proofs.Ytggdljhmbckpmaa
