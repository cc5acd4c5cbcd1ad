/-
  NARROWER THAN 'FOR EVERY INPUT', by the rows' own cells (each row's printed sentence says how): ValsNumbers: loops · ValsValues: loops · ValsSolves: loops · ValsInverse: loops · ValsClosed: loops · ValsCaught: loops · ValsNormal: loops · ValsLarger: loops · ValsSolutions: loops · ValsParts: loops.
  DERIVED. THE GIVEN ROWS OF THIS SEAT. 12 by the template 'for every input the law returns true; each argument reads behind the call as it read before'; 0 by the template 'total and deterministic' (their statements: YtekepgfmgeophaaGreatTotals.lean).
  GIVEN WITH THE SEED: the statements are not yours to turn. If you find one false, say at which input.
  Laid BY PROGRAM, IN A SANDBOX (cutbox-rows.mjs): the forced cells as the released guide's own fill.sh prints them over the translation 9c4f196bc0fa8683… (all of the seat's roots in one cut). By AI agents, Wed Nov 11 2026. No macro, syntax, notation, axiom, sorry.
-/
import Derived.Test.YtekepgfmgeophaaGreatChecked
import GoSem.Claim
import GoSem.ClaimJoined
import GoSem.ClaimMapViews
import Derived.JoinedTies
import Derived.KernelRfl
namespace Go.Proofs.YtekepgfmgeophaaGreat
/- THE CELL 'sum', in the pinned program and in every row, IS THE sha256 OF THE DUMP (.gsa) THAT YtekepgfmgeophaaGreatProg.lean LOADS. Nothing in Lean hashes anything: it is a label: what it is worth is what the hold of that sum in a sandbox is worth. -/
noncomputable def Tryz.pinned : Pinned := { name := "ytekepgfmgeophaagreat", sum := "9c4f196bc0fa8683c4d41ea92b870714095da3ea6d0fb6a52619eed161021de9", checked := Tryz.checked }
namespace Rows
def none {H : Type} : Left H := { results := [], args := [] }

/-- 'madrigallaw09.ValsNumbers': WHATEVER THE INPUT: true; the input reads as it did. -/
def valsNumbersSpec : ChangeSpec := { name := "valsNumbers", fn := fun _ => fun
  | [d1, d2, d3, d4, d5] => { results := [.lit (.bool true)], args := [d1, d2, d3, d4, d5] }
  | _ => none }
def valsNumbersRow : OpenClaim := { program := "ytekepgfmgeophaagreat", sum := "9c4f196bc0fa8683c4d41ea92b870714095da3ea6d0fb6a52619eed161021de9", func := "madrigal/madrigallaw09.ValsNumbers", spec := "valsNumbers", inPlace := ["internal/bytealg.IndexByteString", "internal/bytealg.IndexString", "internal/bytealg.CountString"], unfollowed := true, recurses := true, named := ["internal/bytealg.MaxLen"], loops := true, apart := false }
def ValsNumbersSaid : Prop := valsNumbersRow.holds Tryz.pinned (OpenSpec.ofChange valsNumbersSpec)

/-- ITS FALSE NEIGHBOUR: 'it returns false'. Refute it at one input. -/
def valsNumbersWrong : ChangeSpec := { name := "valsNumbers", fn := fun _ => fun
  | [d1, d2, d3, d4, d5] => { results := [.lit (.bool false)], args := [d1, d2, d3, d4, d5] }
  | _ => none }
def ValsNumbersWrongFalsely : Prop := valsNumbersRow.holds Tryz.pinned (OpenSpec.ofChange valsNumbersWrong)

/-- 'madrigallaw09.ValsValues': WHATEVER THE INPUT: true; the input reads as it did. -/
def valsValuesSpec : ChangeSpec := { name := "valsValues", fn := fun _ => fun
  | [d1, d2, d3, d4, d5] => { results := [.lit (.bool true)], args := [d1, d2, d3, d4, d5] }
  | _ => none }
def valsValuesRow : OpenClaim := { program := "ytekepgfmgeophaagreat", sum := "9c4f196bc0fa8683c4d41ea92b870714095da3ea6d0fb6a52619eed161021de9", func := "madrigal/madrigallaw09.ValsValues", spec := "valsValues", inPlace := ["internal/bytealg.IndexByteString", "internal/bytealg.IndexString", "internal/bytealg.CountString"], unfollowed := true, recurses := true, named := ["internal/bytealg.MaxLen"], loops := true, apart := false }
def ValsValuesSaid : Prop := valsValuesRow.holds Tryz.pinned (OpenSpec.ofChange valsValuesSpec)

/-- ITS FALSE NEIGHBOUR: 'it returns false'. Refute it at one input. -/
def valsValuesWrong : ChangeSpec := { name := "valsValues", fn := fun _ => fun
  | [d1, d2, d3, d4, d5] => { results := [.lit (.bool false)], args := [d1, d2, d3, d4, d5] }
  | _ => none }
def ValsValuesWrongFalsely : Prop := valsValuesRow.holds Tryz.pinned (OpenSpec.ofChange valsValuesWrong)

/-- 'madrigallaw09.ValsSolves': WHATEVER THE INPUT: true; the input reads as it did. -/
def valsSolvesSpec : ChangeSpec := { name := "valsSolves", fn := fun _ => fun
  | [d1, d2, d3, d4] => { results := [.lit (.bool true)], args := [d1, d2, d3, d4] }
  | _ => none }
def valsSolvesRow : OpenClaim := { program := "ytekepgfmgeophaagreat", sum := "9c4f196bc0fa8683c4d41ea92b870714095da3ea6d0fb6a52619eed161021de9", func := "madrigal/madrigallaw09.ValsSolves", spec := "valsSolves", inPlace := ["internal/bytealg.IndexByteString", "internal/bytealg.IndexString", "internal/bytealg.CountString"], unfollowed := true, recurses := true, named := ["internal/bytealg.MaxLen"], loops := true, apart := false }
def ValsSolvesSaid : Prop := valsSolvesRow.holds Tryz.pinned (OpenSpec.ofChange valsSolvesSpec)

/-- ITS FALSE NEIGHBOUR: 'it returns false'. Refute it at one input. -/
def valsSolvesWrong : ChangeSpec := { name := "valsSolves", fn := fun _ => fun
  | [d1, d2, d3, d4] => { results := [.lit (.bool false)], args := [d1, d2, d3, d4] }
  | _ => none }
def ValsSolvesWrongFalsely : Prop := valsSolvesRow.holds Tryz.pinned (OpenSpec.ofChange valsSolvesWrong)

/-- 'madrigallaw09.ValsInverse': WHATEVER THE INPUT: true; the input reads as it did. -/
def valsInverseSpec : ChangeSpec := { name := "valsInverse", fn := fun _ => fun
  | [d1, d2, d3, d4, d5] => { results := [.lit (.bool true)], args := [d1, d2, d3, d4, d5] }
  | _ => none }
def valsInverseRow : OpenClaim := { program := "ytekepgfmgeophaagreat", sum := "9c4f196bc0fa8683c4d41ea92b870714095da3ea6d0fb6a52619eed161021de9", func := "madrigal/madrigallaw09.ValsInverse", spec := "valsInverse", inPlace := ["internal/bytealg.IndexByteString", "internal/bytealg.IndexString", "internal/bytealg.CountString"], unfollowed := true, recurses := true, named := ["internal/bytealg.MaxLen"], loops := true, apart := false }
def ValsInverseSaid : Prop := valsInverseRow.holds Tryz.pinned (OpenSpec.ofChange valsInverseSpec)

/-- ITS FALSE NEIGHBOUR: 'it returns false'. Refute it at one input. -/
def valsInverseWrong : ChangeSpec := { name := "valsInverse", fn := fun _ => fun
  | [d1, d2, d3, d4, d5] => { results := [.lit (.bool false)], args := [d1, d2, d3, d4, d5] }
  | _ => none }
def ValsInverseWrongFalsely : Prop := valsInverseRow.holds Tryz.pinned (OpenSpec.ofChange valsInverseWrong)

/-- 'madrigallaw09.ValsClosed': WHATEVER THE INPUT: true; the input reads as it did. -/
def valsClosedSpec : ChangeSpec := { name := "valsClosed", fn := fun _ => fun
  | [d1, d2, d3] => { results := [.lit (.bool true)], args := [d1, d2, d3] }
  | _ => none }
def valsClosedRow : OpenClaim := { program := "ytekepgfmgeophaagreat", sum := "9c4f196bc0fa8683c4d41ea92b870714095da3ea6d0fb6a52619eed161021de9", func := "madrigal/madrigallaw09.ValsClosed", spec := "valsClosed", inPlace := ["internal/bytealg.IndexByteString", "internal/bytealg.IndexString", "internal/bytealg.CountString"], unfollowed := true, recurses := true, named := ["internal/bytealg.MaxLen"], loops := true, apart := false }
def ValsClosedSaid : Prop := valsClosedRow.holds Tryz.pinned (OpenSpec.ofChange valsClosedSpec)

/-- ITS FALSE NEIGHBOUR: 'it returns false'. Refute it at one input. -/
def valsClosedWrong : ChangeSpec := { name := "valsClosed", fn := fun _ => fun
  | [d1, d2, d3] => { results := [.lit (.bool false)], args := [d1, d2, d3] }
  | _ => none }
def ValsClosedWrongFalsely : Prop := valsClosedRow.holds Tryz.pinned (OpenSpec.ofChange valsClosedWrong)

/-- 'madrigallaw09.ValsCaught': WHATEVER THE INPUT: true; the input reads as it did. -/
def valsCaughtSpec : ChangeSpec := { name := "valsCaught", fn := fun _ => fun
  | [d1, d2, d3, d4, d5, d6] => { results := [.lit (.bool true)], args := [d1, d2, d3, d4, d5, d6] }
  | _ => none }
def valsCaughtRow : OpenClaim := { program := "ytekepgfmgeophaagreat", sum := "9c4f196bc0fa8683c4d41ea92b870714095da3ea6d0fb6a52619eed161021de9", func := "madrigal/madrigallaw09.ValsCaught", spec := "valsCaught", inPlace := ["internal/bytealg.IndexByteString", "internal/bytealg.IndexString", "internal/bytealg.CountString"], unfollowed := true, recurses := true, named := ["internal/bytealg.MaxLen"], loops := true, apart := false }
def ValsCaughtSaid : Prop := valsCaughtRow.holds Tryz.pinned (OpenSpec.ofChange valsCaughtSpec)

/-- ITS FALSE NEIGHBOUR: 'it returns false'. Refute it at one input. -/
def valsCaughtWrong : ChangeSpec := { name := "valsCaught", fn := fun _ => fun
  | [d1, d2, d3, d4, d5, d6] => { results := [.lit (.bool false)], args := [d1, d2, d3, d4, d5, d6] }
  | _ => none }
def ValsCaughtWrongFalsely : Prop := valsCaughtRow.holds Tryz.pinned (OpenSpec.ofChange valsCaughtWrong)

/-- 'madrigallaw09.ValsCounts': WHATEVER THE INPUT: true; the input reads as it did. -/
def valsCountsSpec : ChangeSpec := { name := "valsCounts", fn := fun _ => fun
  | [d1, d2, d3] => { results := [.lit (.bool true)], args := [d1, d2, d3] }
  | _ => none }
def valsCountsRow : OpenClaim := { program := "ytekepgfmgeophaagreat", sum := "9c4f196bc0fa8683c4d41ea92b870714095da3ea6d0fb6a52619eed161021de9", func := "madrigal/madrigallaw09.ValsCounts", spec := "valsCounts", inPlace := ["internal/bytealg.IndexByteString", "internal/bytealg.IndexString", "internal/bytealg.CountString"], unfollowed := true, recurses := true, named := ["internal/bytealg.MaxLen"], apart := false }
def ValsCountsSaid : Prop := valsCountsRow.holds Tryz.pinned (OpenSpec.ofChange valsCountsSpec)

/-- ITS FALSE NEIGHBOUR: 'it returns false'. Refute it at one input. -/
def valsCountsWrong : ChangeSpec := { name := "valsCounts", fn := fun _ => fun
  | [d1, d2, d3] => { results := [.lit (.bool false)], args := [d1, d2, d3] }
  | _ => none }
def ValsCountsWrongFalsely : Prop := valsCountsRow.holds Tryz.pinned (OpenSpec.ofChange valsCountsWrong)

/-- 'madrigallaw09.ValsLists': WHATEVER THE INPUT: true; the input reads as it did. -/
def valsListsSpec : ChangeSpec := { name := "valsLists", fn := fun _ => fun
  | [d1, d2, d3] => { results := [.lit (.bool true)], args := [d1, d2, d3] }
  | _ => none }
def valsListsRow : OpenClaim := { program := "ytekepgfmgeophaagreat", sum := "9c4f196bc0fa8683c4d41ea92b870714095da3ea6d0fb6a52619eed161021de9", func := "madrigal/madrigallaw09.ValsLists", spec := "valsLists", inPlace := ["internal/bytealg.IndexByteString", "internal/bytealg.IndexString", "internal/bytealg.CountString"], unfollowed := true, recurses := true, named := ["internal/bytealg.MaxLen"], apart := false }
def ValsListsSaid : Prop := valsListsRow.holds Tryz.pinned (OpenSpec.ofChange valsListsSpec)

/-- ITS FALSE NEIGHBOUR: 'it returns false'. Refute it at one input. -/
def valsListsWrong : ChangeSpec := { name := "valsLists", fn := fun _ => fun
  | [d1, d2, d3] => { results := [.lit (.bool false)], args := [d1, d2, d3] }
  | _ => none }
def ValsListsWrongFalsely : Prop := valsListsRow.holds Tryz.pinned (OpenSpec.ofChange valsListsWrong)

/-- 'madrigallaw09.ValsNormal': WHATEVER THE INPUT: true; the input reads as it did. -/
def valsNormalSpec : ChangeSpec := { name := "valsNormal", fn := fun _ => fun
  | [d1, d2, d3] => { results := [.lit (.bool true)], args := [d1, d2, d3] }
  | _ => none }
def valsNormalRow : OpenClaim := { program := "ytekepgfmgeophaagreat", sum := "9c4f196bc0fa8683c4d41ea92b870714095da3ea6d0fb6a52619eed161021de9", func := "madrigal/madrigallaw09.ValsNormal", spec := "valsNormal", inPlace := ["internal/bytealg.IndexByteString", "internal/bytealg.IndexString", "internal/bytealg.CountString"], unfollowed := true, recurses := true, named := ["internal/bytealg.MaxLen"], loops := true, apart := false }
def ValsNormalSaid : Prop := valsNormalRow.holds Tryz.pinned (OpenSpec.ofChange valsNormalSpec)

/-- ITS FALSE NEIGHBOUR: 'it returns false'. Refute it at one input. -/
def valsNormalWrong : ChangeSpec := { name := "valsNormal", fn := fun _ => fun
  | [d1, d2, d3] => { results := [.lit (.bool false)], args := [d1, d2, d3] }
  | _ => none }
def ValsNormalWrongFalsely : Prop := valsNormalRow.holds Tryz.pinned (OpenSpec.ofChange valsNormalWrong)

/-- 'madrigallaw09.ValsLarger': WHATEVER THE INPUT: true; the input reads as it did. -/
def valsLargerSpec : ChangeSpec := { name := "valsLarger", fn := fun _ => fun
  | [d1, d2, d3, d4, d5, d6, d7] => { results := [.lit (.bool true)], args := [d1, d2, d3, d4, d5, d6, d7] }
  | _ => none }
def valsLargerRow : OpenClaim := { program := "ytekepgfmgeophaagreat", sum := "9c4f196bc0fa8683c4d41ea92b870714095da3ea6d0fb6a52619eed161021de9", func := "madrigal/madrigallaw09.ValsLarger", spec := "valsLarger", inPlace := ["internal/bytealg.IndexByteString", "internal/bytealg.IndexString", "internal/bytealg.CountString"], unfollowed := true, recurses := true, named := ["internal/bytealg.MaxLen"], loops := true, apart := false }
def ValsLargerSaid : Prop := valsLargerRow.holds Tryz.pinned (OpenSpec.ofChange valsLargerSpec)

/-- ITS FALSE NEIGHBOUR: 'it returns false'. Refute it at one input. -/
def valsLargerWrong : ChangeSpec := { name := "valsLarger", fn := fun _ => fun
  | [d1, d2, d3, d4, d5, d6, d7] => { results := [.lit (.bool false)], args := [d1, d2, d3, d4, d5, d6, d7] }
  | _ => none }
def ValsLargerWrongFalsely : Prop := valsLargerRow.holds Tryz.pinned (OpenSpec.ofChange valsLargerWrong)

/-- 'madrigallaw09.ValsSolutions': WHATEVER THE INPUT: true; the input reads as it did. -/
def valsSolutionsSpec : ChangeSpec := { name := "valsSolutions", fn := fun _ => fun
  | [d1, d2, d3, d4] => { results := [.lit (.bool true)], args := [d1, d2, d3, d4] }
  | _ => none }
def valsSolutionsRow : OpenClaim := { program := "ytekepgfmgeophaagreat", sum := "9c4f196bc0fa8683c4d41ea92b870714095da3ea6d0fb6a52619eed161021de9", func := "madrigal/madrigallaw09.ValsSolutions", spec := "valsSolutions", inPlace := ["internal/bytealg.IndexByteString", "internal/bytealg.IndexString", "internal/bytealg.CountString"], unfollowed := true, recurses := true, named := ["internal/bytealg.MaxLen"], loops := true, apart := false }
def ValsSolutionsSaid : Prop := valsSolutionsRow.holds Tryz.pinned (OpenSpec.ofChange valsSolutionsSpec)

/-- ITS FALSE NEIGHBOUR: 'it returns false'. Refute it at one input. -/
def valsSolutionsWrong : ChangeSpec := { name := "valsSolutions", fn := fun _ => fun
  | [d1, d2, d3, d4] => { results := [.lit (.bool false)], args := [d1, d2, d3, d4] }
  | _ => none }
def ValsSolutionsWrongFalsely : Prop := valsSolutionsRow.holds Tryz.pinned (OpenSpec.ofChange valsSolutionsWrong)

/-- 'madrigallaw09.ValsParts': WHATEVER THE INPUT: true; the input reads as it did. -/
def valsPartsSpec : ChangeSpec := { name := "valsParts", fn := fun _ => fun
  | [d1, d2, d3, d4, d5, d6] => { results := [.lit (.bool true)], args := [d1, d2, d3, d4, d5, d6] }
  | _ => none }
def valsPartsRow : OpenClaim := { program := "ytekepgfmgeophaagreat", sum := "9c4f196bc0fa8683c4d41ea92b870714095da3ea6d0fb6a52619eed161021de9", func := "madrigal/madrigallaw09.ValsParts", spec := "valsParts", inPlace := ["internal/bytealg.IndexByteString", "internal/bytealg.IndexString", "internal/bytealg.CountString"], unfollowed := true, recurses := true, named := ["internal/bytealg.MaxLen"], loops := true, apart := false }
def ValsPartsSaid : Prop := valsPartsRow.holds Tryz.pinned (OpenSpec.ofChange valsPartsSpec)

/-- ITS FALSE NEIGHBOUR: 'it returns false'. Refute it at one input. -/
def valsPartsWrong : ChangeSpec := { name := "valsParts", fn := fun _ => fun
  | [d1, d2, d3, d4, d5, d6] => { results := [.lit (.bool false)], args := [d1, d2, d3, d4, d5, d6] }
  | _ => none }
def ValsPartsWrongFalsely : Prop := valsPartsRow.holds Tryz.pinned (OpenSpec.ofChange valsPartsWrong)

/- THE SECOND FORM. 'bulk': how many values and letters a reading holds, each counted each time it is reached (what is shared counts as often as it is met; a slice's spare places count too). A statement '..UptoSaid' is the law's where the arguments, and the package variables that the reading takes, are together of bulk at most 1048576: NARROWER than '..Said'. Prove '..Said' where nothing that the law and all that it calls make is longer than what came in: it says more and counts as full. Else prove '..UptoSaid'. A law counts once. -/
mutual
def uptoBulk {H : Type} : DataW H → Nat
  | .lit (.string bytes) => bytes.length + 1
  | .lit _ => 1
  | .nil => 1
  | .ptr d => uptoBulk d + 1
  | .slice elems spare => uptoBulkAll elems + uptoBulkAll spare + 1
  | .agg parts => uptoBulkAll parts + 1
  | .iface _ d => uptoBulk d + 1
  | .map entries => uptoBulkEntries entries + 1
  | .held _ => 1
def uptoBulkAll {H : Type} : List (DataW H) → Nat
  | [] => 0
  | d :: r => uptoBulk d + uptoBulkAll r
def uptoBulkEntries {H : Type} : List (Lit × DataW H) → Nat
  | [] => 0
  | x :: r => uptoBulkEntry x + uptoBulkEntries r
def uptoBulkEntry {H : Type} : Lit × DataW H → Nat
  | (.string bytes, d) => bytes.length + uptoBulk d + 1
  | (_, d) => uptoBulk d + 1
 end
def uptoSmall : (H : Type) → List (DataW H) → Bool := fun _ ds => decide (uptoBulkAll ds ≤ 1048576)
def OpenSpec.upto (s : _root_.Go.ChangeSpec) : _root_.Go.OpenSpec := { _root_.Go.OpenSpec.ofChange s with cond := some uptoSmall }

/-- 'madrigallaw09.ValsNumbers', WHERE WHAT IT READS IS OF BULK AT MOST 1048576: true; the input reads as it did. -/
def valsNumbersUptoRow : OpenClaim := { program := "ytekepgfmgeophaagreat", sum := "9c4f196bc0fa8683c4d41ea92b870714095da3ea6d0fb6a52619eed161021de9", func := "madrigal/madrigallaw09.ValsNumbers", spec := "valsNumbers", inPlace := ["internal/bytealg.IndexByteString", "internal/bytealg.IndexString", "internal/bytealg.CountString"], unfollowed := true, recurses := true, named := ["internal/bytealg.MaxLen"], loops := true, apart := false, narrowed := true }
def ValsNumbersUptoSaid : Prop := valsNumbersUptoRow.holds Tryz.pinned (OpenSpec.upto valsNumbersSpec)

/-- 'madrigallaw09.ValsValues', WHERE WHAT IT READS IS OF BULK AT MOST 1048576: true; the input reads as it did. -/
def valsValuesUptoRow : OpenClaim := { program := "ytekepgfmgeophaagreat", sum := "9c4f196bc0fa8683c4d41ea92b870714095da3ea6d0fb6a52619eed161021de9", func := "madrigal/madrigallaw09.ValsValues", spec := "valsValues", inPlace := ["internal/bytealg.IndexByteString", "internal/bytealg.IndexString", "internal/bytealg.CountString"], unfollowed := true, recurses := true, named := ["internal/bytealg.MaxLen"], loops := true, apart := false, narrowed := true }
def ValsValuesUptoSaid : Prop := valsValuesUptoRow.holds Tryz.pinned (OpenSpec.upto valsValuesSpec)

/-- 'madrigallaw09.ValsSolves', WHERE WHAT IT READS IS OF BULK AT MOST 1048576: true; the input reads as it did. -/
def valsSolvesUptoRow : OpenClaim := { program := "ytekepgfmgeophaagreat", sum := "9c4f196bc0fa8683c4d41ea92b870714095da3ea6d0fb6a52619eed161021de9", func := "madrigal/madrigallaw09.ValsSolves", spec := "valsSolves", inPlace := ["internal/bytealg.IndexByteString", "internal/bytealg.IndexString", "internal/bytealg.CountString"], unfollowed := true, recurses := true, named := ["internal/bytealg.MaxLen"], loops := true, apart := false, narrowed := true }
def ValsSolvesUptoSaid : Prop := valsSolvesUptoRow.holds Tryz.pinned (OpenSpec.upto valsSolvesSpec)

/-- 'madrigallaw09.ValsInverse', WHERE WHAT IT READS IS OF BULK AT MOST 1048576: true; the input reads as it did. -/
def valsInverseUptoRow : OpenClaim := { program := "ytekepgfmgeophaagreat", sum := "9c4f196bc0fa8683c4d41ea92b870714095da3ea6d0fb6a52619eed161021de9", func := "madrigal/madrigallaw09.ValsInverse", spec := "valsInverse", inPlace := ["internal/bytealg.IndexByteString", "internal/bytealg.IndexString", "internal/bytealg.CountString"], unfollowed := true, recurses := true, named := ["internal/bytealg.MaxLen"], loops := true, apart := false, narrowed := true }
def ValsInverseUptoSaid : Prop := valsInverseUptoRow.holds Tryz.pinned (OpenSpec.upto valsInverseSpec)

/-- 'madrigallaw09.ValsClosed', WHERE WHAT IT READS IS OF BULK AT MOST 1048576: true; the input reads as it did. -/
def valsClosedUptoRow : OpenClaim := { program := "ytekepgfmgeophaagreat", sum := "9c4f196bc0fa8683c4d41ea92b870714095da3ea6d0fb6a52619eed161021de9", func := "madrigal/madrigallaw09.ValsClosed", spec := "valsClosed", inPlace := ["internal/bytealg.IndexByteString", "internal/bytealg.IndexString", "internal/bytealg.CountString"], unfollowed := true, recurses := true, named := ["internal/bytealg.MaxLen"], loops := true, apart := false, narrowed := true }
def ValsClosedUptoSaid : Prop := valsClosedUptoRow.holds Tryz.pinned (OpenSpec.upto valsClosedSpec)

/-- 'madrigallaw09.ValsCaught', WHERE WHAT IT READS IS OF BULK AT MOST 1048576: true; the input reads as it did. -/
def valsCaughtUptoRow : OpenClaim := { program := "ytekepgfmgeophaagreat", sum := "9c4f196bc0fa8683c4d41ea92b870714095da3ea6d0fb6a52619eed161021de9", func := "madrigal/madrigallaw09.ValsCaught", spec := "valsCaught", inPlace := ["internal/bytealg.IndexByteString", "internal/bytealg.IndexString", "internal/bytealg.CountString"], unfollowed := true, recurses := true, named := ["internal/bytealg.MaxLen"], loops := true, apart := false, narrowed := true }
def ValsCaughtUptoSaid : Prop := valsCaughtUptoRow.holds Tryz.pinned (OpenSpec.upto valsCaughtSpec)

/-- 'madrigallaw09.ValsCounts', WHERE WHAT IT READS IS OF BULK AT MOST 1048576: true; the input reads as it did. -/
def valsCountsUptoRow : OpenClaim := { program := "ytekepgfmgeophaagreat", sum := "9c4f196bc0fa8683c4d41ea92b870714095da3ea6d0fb6a52619eed161021de9", func := "madrigal/madrigallaw09.ValsCounts", spec := "valsCounts", inPlace := ["internal/bytealg.IndexByteString", "internal/bytealg.IndexString", "internal/bytealg.CountString"], unfollowed := true, recurses := true, named := ["internal/bytealg.MaxLen"], apart := false, narrowed := true }
def ValsCountsUptoSaid : Prop := valsCountsUptoRow.holds Tryz.pinned (OpenSpec.upto valsCountsSpec)

/-- 'madrigallaw09.ValsLists', WHERE WHAT IT READS IS OF BULK AT MOST 1048576: true; the input reads as it did. -/
def valsListsUptoRow : OpenClaim := { program := "ytekepgfmgeophaagreat", sum := "9c4f196bc0fa8683c4d41ea92b870714095da3ea6d0fb6a52619eed161021de9", func := "madrigal/madrigallaw09.ValsLists", spec := "valsLists", inPlace := ["internal/bytealg.IndexByteString", "internal/bytealg.IndexString", "internal/bytealg.CountString"], unfollowed := true, recurses := true, named := ["internal/bytealg.MaxLen"], apart := false, narrowed := true }
def ValsListsUptoSaid : Prop := valsListsUptoRow.holds Tryz.pinned (OpenSpec.upto valsListsSpec)

/-- 'madrigallaw09.ValsNormal', WHERE WHAT IT READS IS OF BULK AT MOST 1048576: true; the input reads as it did. -/
def valsNormalUptoRow : OpenClaim := { program := "ytekepgfmgeophaagreat", sum := "9c4f196bc0fa8683c4d41ea92b870714095da3ea6d0fb6a52619eed161021de9", func := "madrigal/madrigallaw09.ValsNormal", spec := "valsNormal", inPlace := ["internal/bytealg.IndexByteString", "internal/bytealg.IndexString", "internal/bytealg.CountString"], unfollowed := true, recurses := true, named := ["internal/bytealg.MaxLen"], loops := true, apart := false, narrowed := true }
def ValsNormalUptoSaid : Prop := valsNormalUptoRow.holds Tryz.pinned (OpenSpec.upto valsNormalSpec)

/-- 'madrigallaw09.ValsLarger', WHERE WHAT IT READS IS OF BULK AT MOST 1048576: true; the input reads as it did. -/
def valsLargerUptoRow : OpenClaim := { program := "ytekepgfmgeophaagreat", sum := "9c4f196bc0fa8683c4d41ea92b870714095da3ea6d0fb6a52619eed161021de9", func := "madrigal/madrigallaw09.ValsLarger", spec := "valsLarger", inPlace := ["internal/bytealg.IndexByteString", "internal/bytealg.IndexString", "internal/bytealg.CountString"], unfollowed := true, recurses := true, named := ["internal/bytealg.MaxLen"], loops := true, apart := false, narrowed := true }
def ValsLargerUptoSaid : Prop := valsLargerUptoRow.holds Tryz.pinned (OpenSpec.upto valsLargerSpec)

/-- 'madrigallaw09.ValsSolutions', WHERE WHAT IT READS IS OF BULK AT MOST 1048576: true; the input reads as it did. -/
def valsSolutionsUptoRow : OpenClaim := { program := "ytekepgfmgeophaagreat", sum := "9c4f196bc0fa8683c4d41ea92b870714095da3ea6d0fb6a52619eed161021de9", func := "madrigal/madrigallaw09.ValsSolutions", spec := "valsSolutions", inPlace := ["internal/bytealg.IndexByteString", "internal/bytealg.IndexString", "internal/bytealg.CountString"], unfollowed := true, recurses := true, named := ["internal/bytealg.MaxLen"], loops := true, apart := false, narrowed := true }
def ValsSolutionsUptoSaid : Prop := valsSolutionsUptoRow.holds Tryz.pinned (OpenSpec.upto valsSolutionsSpec)

/-- 'madrigallaw09.ValsParts', WHERE WHAT IT READS IS OF BULK AT MOST 1048576: true; the input reads as it did. -/
def valsPartsUptoRow : OpenClaim := { program := "ytekepgfmgeophaagreat", sum := "9c4f196bc0fa8683c4d41ea92b870714095da3ea6d0fb6a52619eed161021de9", func := "madrigal/madrigallaw09.ValsParts", spec := "valsParts", inPlace := ["internal/bytealg.IndexByteString", "internal/bytealg.IndexString", "internal/bytealg.CountString"], unfollowed := true, recurses := true, named := ["internal/bytealg.MaxLen"], loops := true, apart := false, narrowed := true }
def ValsPartsUptoSaid : Prop := valsPartsUptoRow.holds Tryz.pinned (OpenSpec.upto valsPartsSpec)

end Rows
end Go.Proofs.YtekepgfmgeophaaGreat
