/-
  NARROWER THAN 'FOR EVERY INPUT', by the rows' own cells (each row's printed sentence says how): ImageCodes: loops · ImageSaves: loops.
  DERIVED. THE GIVEN ROWS OF THIS SEAT. 3 by the template 'for every input the law returns true; each argument reads behind the call as it read before'; 0 by the template 'total and deterministic' (their statements: YtggdljhmbckpmaaGreatTotals.lean).
  GIVEN WITH THE SEED: the statements are not yours to turn. If you find one false, say at which input.
  Laid BY PROGRAM, IN A SANDBOX (cutbox-rows.mjs): the forced cells as the released guide's own fill.sh prints them over the translation 77b1ec21a1572ccf… (all of the seat's roots in one cut). By AI agents, Wed Nov 11 2026. No macro, syntax, notation, axiom, sorry.
-/
import Derived.Test.YtggdljhmbckpmaaGreatChecked
import GoSem.Claim
import GoSem.ClaimJoined
import GoSem.ClaimMapViews
import Derived.JoinedTies
import Derived.KernelRfl
namespace Go.Proofs.YtggdljhmbckpmaaGreat
/- THE CELL 'sum', in the pinned program and in every row, IS THE sha256 OF THE DUMP (.gsa) THAT YtggdljhmbckpmaaGreatProg.lean LOADS. Nothing in Lean hashes anything: it is a label: what it is worth is what the hold of that sum in a sandbox is worth. -/
noncomputable def Tryz.pinned : Pinned := { name := "ytggdljhmbckpmaagreat", sum := "77b1ec21a1572ccf6b5e6777e2d9d136c1fc9735699ea057a191596f1cd7585c", checked := Tryz.checked }
namespace Rows
def none {H : Type} : Left H := { results := [], args := [] }

/-- 'peculiumlaw30.ImageCodes': WHATEVER THE INPUT: true; the input reads as it did. -/
def imageCodesSpec : ChangeSpec := { name := "imageCodes", fn := fun _ => fun
  | [d1, d2] => { results := [.lit (.bool true)], args := [d1, d2] }
  | _ => none }
def imageCodesRow : OpenClaim := { program := "ytggdljhmbckpmaagreat", sum := "77b1ec21a1572ccf6b5e6777e2d9d136c1fc9735699ea057a191596f1cd7585c", func := "peculium/peculiumlaw30.ImageCodes", spec := "imageCodes", unfollowed := true, recurses := true, loops := true, apart := false }
def ImageCodesSaid : Prop := imageCodesRow.holds Tryz.pinned (OpenSpec.ofChange imageCodesSpec)

/-- ITS FALSE NEIGHBOUR: 'it returns false'. Refute it at one input. -/
def imageCodesWrong : ChangeSpec := { name := "imageCodes", fn := fun _ => fun
  | [d1, d2] => { results := [.lit (.bool false)], args := [d1, d2] }
  | _ => none }
def ImageCodesWrongFalsely : Prop := imageCodesRow.holds Tryz.pinned (OpenSpec.ofChange imageCodesWrong)

/-- 'peculiumlaw30.ImageRecords': WHATEVER THE INPUT: true; the input reads as it did. -/
def imageRecordsSpec : ChangeSpec := { name := "imageRecords", fn := fun _ => fun
  | [d1, d2] => { results := [.lit (.bool true)], args := [d1, d2] }
  | _ => none }
def imageRecordsRow : OpenClaim := { program := "ytggdljhmbckpmaagreat", sum := "77b1ec21a1572ccf6b5e6777e2d9d136c1fc9735699ea057a191596f1cd7585c", func := "peculium/peculiumlaw30.ImageRecords", spec := "imageRecords", unfollowed := true, recurses := true, apart := false }
def ImageRecordsSaid : Prop := imageRecordsRow.holds Tryz.pinned (OpenSpec.ofChange imageRecordsSpec)

/-- ITS FALSE NEIGHBOUR: 'it returns false'. Refute it at one input. -/
def imageRecordsWrong : ChangeSpec := { name := "imageRecords", fn := fun _ => fun
  | [d1, d2] => { results := [.lit (.bool false)], args := [d1, d2] }
  | _ => none }
def ImageRecordsWrongFalsely : Prop := imageRecordsRow.holds Tryz.pinned (OpenSpec.ofChange imageRecordsWrong)

/-- 'peculiumlaw30.ImageSaves': WHATEVER THE INPUT: true; the input reads as it did. -/
def imageSavesSpec : ChangeSpec := { name := "imageSaves", fn := fun _ => fun
  | [d1, d2] => { results := [.lit (.bool true)], args := [d1, d2] }
  | _ => none }
def imageSavesRow : OpenClaim := { program := "ytggdljhmbckpmaagreat", sum := "77b1ec21a1572ccf6b5e6777e2d9d136c1fc9735699ea057a191596f1cd7585c", func := "peculium/peculiumlaw30.ImageSaves", spec := "imageSaves", unfollowed := true, recurses := true, loops := true, apart := false }
def ImageSavesSaid : Prop := imageSavesRow.holds Tryz.pinned (OpenSpec.ofChange imageSavesSpec)

/-- ITS FALSE NEIGHBOUR: 'it returns false'. Refute it at one input. -/
def imageSavesWrong : ChangeSpec := { name := "imageSaves", fn := fun _ => fun
  | [d1, d2] => { results := [.lit (.bool false)], args := [d1, d2] }
  | _ => none }
def ImageSavesWrongFalsely : Prop := imageSavesRow.holds Tryz.pinned (OpenSpec.ofChange imageSavesWrong)

/- THE SECOND FORM. 'bulk': how many values and letters a reading holds, each counted each time it is reached (what is shared counts as often as it is met; a slice's spare places count too). A statement '..UptoSaid' is the law's where the arguments, and the package variables that the reading takes, are together of bulk at most 1048576: NARROWER than '..Said'. Prove '..Said' where nothing that the law and all that it calls make is longer than what came in: it says more and counts as full. Else prove '..UptoSaid'. A law counts once. -/
mutual
def uptoBulk {H : Type} : DataW H → Nat
  | .lit (.string bytes) => bytes.length + 1
  | .lit _ => 1
  | .nil => 1
  | .ptr d => uptoBulk d + 1
  | .slice elems spare => uptoBulkAll elems + uptoBulkAll spare + 1
  | .agg parts => uptoBulkAll parts + 1
  | .iface _ d => uptoBulk d + 1
  | .map entries => uptoBulkEntries entries + 1
  | .held _ => 1
def uptoBulkAll {H : Type} : List (DataW H) → Nat
  | [] => 0
  | d :: r => uptoBulk d + uptoBulkAll r
def uptoBulkEntries {H : Type} : List (Lit × DataW H) → Nat
  | [] => 0
  | x :: r => uptoBulkEntry x + uptoBulkEntries r
def uptoBulkEntry {H : Type} : Lit × DataW H → Nat
  | (.string bytes, d) => bytes.length + uptoBulk d + 1
  | (_, d) => uptoBulk d + 1
 end
def uptoSmall : (H : Type) → List (DataW H) → Bool := fun _ ds => decide (uptoBulkAll ds ≤ 1048576)
def OpenSpec.upto (s : _root_.Go.ChangeSpec) : _root_.Go.OpenSpec := { _root_.Go.OpenSpec.ofChange s with cond := some uptoSmall }

/-- 'peculiumlaw30.ImageCodes', WHERE WHAT IT READS IS OF BULK AT MOST 1048576: true; the input reads as it did. -/
def imageCodesUptoRow : OpenClaim := { program := "ytggdljhmbckpmaagreat", sum := "77b1ec21a1572ccf6b5e6777e2d9d136c1fc9735699ea057a191596f1cd7585c", func := "peculium/peculiumlaw30.ImageCodes", spec := "imageCodes", unfollowed := true, recurses := true, loops := true, apart := false, narrowed := true }
def ImageCodesUptoSaid : Prop := imageCodesUptoRow.holds Tryz.pinned (OpenSpec.upto imageCodesSpec)

/-- 'peculiumlaw30.ImageRecords', WHERE WHAT IT READS IS OF BULK AT MOST 1048576: true; the input reads as it did. -/
def imageRecordsUptoRow : OpenClaim := { program := "ytggdljhmbckpmaagreat", sum := "77b1ec21a1572ccf6b5e6777e2d9d136c1fc9735699ea057a191596f1cd7585c", func := "peculium/peculiumlaw30.ImageRecords", spec := "imageRecords", unfollowed := true, recurses := true, apart := false, narrowed := true }
def ImageRecordsUptoSaid : Prop := imageRecordsUptoRow.holds Tryz.pinned (OpenSpec.upto imageRecordsSpec)

/-- 'peculiumlaw30.ImageSaves', WHERE WHAT IT READS IS OF BULK AT MOST 1048576: true; the input reads as it did. -/
def imageSavesUptoRow : OpenClaim := { program := "ytggdljhmbckpmaagreat", sum := "77b1ec21a1572ccf6b5e6777e2d9d136c1fc9735699ea057a191596f1cd7585c", func := "peculium/peculiumlaw30.ImageSaves", spec := "imageSaves", unfollowed := true, recurses := true, loops := true, apart := false, narrowed := true }
def ImageSavesUptoSaid : Prop := imageSavesUptoRow.holds Tryz.pinned (OpenSpec.upto imageSavesSpec)

end Rows
end Go.Proofs.YtggdljhmbckpmaaGreat
