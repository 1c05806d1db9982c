/-
  No cell of these rows narrows 'for every input' (looked for: loops, veiled, ifaces, maps, wideKeys, modest, calm, conditions, laid).
  DERIVED. THE GIVEN ROWS OF THIS SEAT. 7 by the template 'for every input the law returns true; each argument reads behind the call as it read before'; 0 by the template 'total and deterministic' (their statements: YthhmkaikopdmjaaGreatTotals.lean).
  GIVEN WITH THE SEED: the statements are not yours to turn. If you find one false, say at which input.
  Laid BY PROGRAM, IN A SANDBOX (cutbox-rows.mjs): the forced cells as the released guide's own fill.sh prints them over the translation 158f6ba2e8d9a464… (all of the seat's roots in one cut). By AI agents, Wed Nov 11 2026. No macro, syntax, notation, axiom, sorry.
-/
import Derived.Test.YthhmkaikopdmjaaGreatChecked
import GoSem.Claim
import GoSem.ClaimJoined
import GoSem.ClaimMapViews
import Derived.JoinedTies
import Derived.KernelRfl
namespace Go.Proofs.YthhmkaikopdmjaaGreat
/- THE CELL 'sum', in the pinned program and in every row, IS THE sha256 OF THE DUMP (.gsa) THAT YthhmkaikopdmjaaGreatProg.lean LOADS. Nothing in Lean hashes anything: it is a label: what it is worth is what the hold of that sum in a sandbox is worth. -/
noncomputable def Tryz.pinned : Pinned := { name := "ythhmkaikopdmjaagreat", sum := "158f6ba2e8d9a464b83856ecd11df71aa71b9b5716348a54d3473755d1d6003c", checked := Tryz.checked }
namespace Rows
def none {H : Type} : Left H := { results := [], args := [] }

/-- 'narrowslaw45.SlicesLists': WHATEVER THE INPUT: true; the input reads as it did. -/
def slicesListsSpec : ChangeSpec := { name := "slicesLists", fn := fun _ => fun
  | [d1, d2, d3] => { results := [.lit (.bool true)], args := [d1, d2, d3] }
  | _ => none }
def slicesListsRow : OpenClaim := { program := "ythhmkaikopdmjaagreat", sum := "158f6ba2e8d9a464b83856ecd11df71aa71b9b5716348a54d3473755d1d6003c", func := "narrows/narrowslaw45.SlicesLists", spec := "slicesLists", unfollowed := true, recurses := true, named := ["math/bits.overflowError"], apart := false }
def SlicesListsSaid : Prop := slicesListsRow.holds Tryz.pinned (OpenSpec.ofChange slicesListsSpec)

/-- ITS FALSE NEIGHBOUR: 'it returns false'. Refute it at one input. -/
def slicesListsWrong : ChangeSpec := { name := "slicesLists", fn := fun _ => fun
  | [d1, d2, d3] => { results := [.lit (.bool false)], args := [d1, d2, d3] }
  | _ => none }
def SlicesListsWrongFalsely : Prop := slicesListsRow.holds Tryz.pinned (OpenSpec.ofChange slicesListsWrong)

/-- 'narrowslaw45.SlicesQuarters': WHATEVER THE INPUT: true; the input reads as it did. -/
def slicesQuartersSpec : ChangeSpec := { name := "slicesQuarters", fn := fun _ => fun
  | [d1, d2] => { results := [.lit (.bool true)], args := [d1, d2] }
  | _ => none }
def slicesQuartersRow : OpenClaim := { program := "ythhmkaikopdmjaagreat", sum := "158f6ba2e8d9a464b83856ecd11df71aa71b9b5716348a54d3473755d1d6003c", func := "narrows/narrowslaw45.SlicesQuarters", spec := "slicesQuarters", unfollowed := true, recurses := true, named := ["math/bits.overflowError"], apart := false }
def SlicesQuartersSaid : Prop := slicesQuartersRow.holds Tryz.pinned (OpenSpec.ofChange slicesQuartersSpec)

/-- ITS FALSE NEIGHBOUR: 'it returns false'. Refute it at one input. -/
def slicesQuartersWrong : ChangeSpec := { name := "slicesQuarters", fn := fun _ => fun
  | [d1, d2] => { results := [.lit (.bool false)], args := [d1, d2] }
  | _ => none }
def SlicesQuartersWrongFalsely : Prop := slicesQuartersRow.holds Tryz.pinned (OpenSpec.ofChange slicesQuartersWrong)

/-- 'narrowslaw45.SlicesFinds': WHATEVER THE INPUT: true; the input reads as it did. -/
def slicesFindsSpec : ChangeSpec := { name := "slicesFinds", fn := fun _ => fun
  | [d1, d2] => { results := [.lit (.bool true)], args := [d1, d2] }
  | _ => none }
def slicesFindsRow : OpenClaim := { program := "ythhmkaikopdmjaagreat", sum := "158f6ba2e8d9a464b83856ecd11df71aa71b9b5716348a54d3473755d1d6003c", func := "narrows/narrowslaw45.SlicesFinds", spec := "slicesFinds", unfollowed := true, recurses := true, named := ["math/bits.overflowError"], apart := false }
def SlicesFindsSaid : Prop := slicesFindsRow.holds Tryz.pinned (OpenSpec.ofChange slicesFindsSpec)

/-- ITS FALSE NEIGHBOUR: 'it returns false'. Refute it at one input. -/
def slicesFindsWrong : ChangeSpec := { name := "slicesFinds", fn := fun _ => fun
  | [d1, d2] => { results := [.lit (.bool false)], args := [d1, d2] }
  | _ => none }
def SlicesFindsWrongFalsely : Prop := slicesFindsRow.holds Tryz.pinned (OpenSpec.ofChange slicesFindsWrong)

/-- 'narrowslaw45.SlicesRefines': WHATEVER THE INPUT: true; the input reads as it did. -/
def slicesRefinesSpec : ChangeSpec := { name := "slicesRefines", fn := fun _ => fun
  | [d] => { results := [.lit (.bool true)], args := [d] }
  | _ => none }
def slicesRefinesRow : OpenClaim := { program := "ythhmkaikopdmjaagreat", sum := "158f6ba2e8d9a464b83856ecd11df71aa71b9b5716348a54d3473755d1d6003c", func := "narrows/narrowslaw45.SlicesRefines", spec := "slicesRefines", unfollowed := true, recurses := true, named := ["math/bits.overflowError"], apart := false }
def SlicesRefinesSaid : Prop := slicesRefinesRow.holds Tryz.pinned (OpenSpec.ofChange slicesRefinesSpec)

/-- ITS FALSE NEIGHBOUR: 'it returns false'. Refute it at one input. -/
def slicesRefinesWrong : ChangeSpec := { name := "slicesRefines", fn := fun _ => fun
  | [d] => { results := [.lit (.bool false)], args := [d] }
  | _ => none }
def SlicesRefinesWrongFalsely : Prop := slicesRefinesRow.holds Tryz.pinned (OpenSpec.ofChange slicesRefinesWrong)

/-- 'narrowslaw45.SlicesChanges': WHATEVER THE INPUT: true; the input reads as it did. -/
def slicesChangesSpec : ChangeSpec := { name := "slicesChanges", fn := fun _ => fun
  | [d1, d2] => { results := [.lit (.bool true)], args := [d1, d2] }
  | _ => none }
def slicesChangesRow : OpenClaim := { program := "ythhmkaikopdmjaagreat", sum := "158f6ba2e8d9a464b83856ecd11df71aa71b9b5716348a54d3473755d1d6003c", func := "narrows/narrowslaw45.SlicesChanges", spec := "slicesChanges", inPlace := ["slices.overlaps[narrows/api.Rotation]"], unfollowed := true, recurses := true, named := ["math/bits.overflowError"], apart := false }
def SlicesChangesSaid : Prop := slicesChangesRow.holds Tryz.pinned (OpenSpec.ofChange slicesChangesSpec)

/-- ITS FALSE NEIGHBOUR: 'it returns false'. Refute it at one input. -/
def slicesChangesWrong : ChangeSpec := { name := "slicesChanges", fn := fun _ => fun
  | [d1, d2] => { results := [.lit (.bool false)], args := [d1, d2] }
  | _ => none }
def SlicesChangesWrongFalsely : Prop := slicesChangesRow.holds Tryz.pinned (OpenSpec.ofChange slicesChangesWrong)

/-- 'narrowslaw45.SlicesInserts': WHATEVER THE INPUT: true; the input reads as it did. -/
def slicesInsertsSpec : ChangeSpec := { name := "slicesInserts", fn := fun _ => fun
  | [d1, d2, d3] => { results := [.lit (.bool true)], args := [d1, d2, d3] }
  | _ => none }
def slicesInsertsRow : OpenClaim := { program := "ythhmkaikopdmjaagreat", sum := "158f6ba2e8d9a464b83856ecd11df71aa71b9b5716348a54d3473755d1d6003c", func := "narrows/narrowslaw45.SlicesInserts", spec := "slicesInserts", inPlace := ["slices.overlaps[narrows/api.Rotation]"], unfollowed := true, recurses := true, named := ["math/bits.overflowError"], apart := false }
def SlicesInsertsSaid : Prop := slicesInsertsRow.holds Tryz.pinned (OpenSpec.ofChange slicesInsertsSpec)

/-- ITS FALSE NEIGHBOUR: 'it returns false'. Refute it at one input. -/
def slicesInsertsWrong : ChangeSpec := { name := "slicesInserts", fn := fun _ => fun
  | [d1, d2, d3] => { results := [.lit (.bool false)], args := [d1, d2, d3] }
  | _ => none }
def SlicesInsertsWrongFalsely : Prop := slicesInsertsRow.holds Tryz.pinned (OpenSpec.ofChange slicesInsertsWrong)

/-- 'narrowslaw46.SweptTurned': WHATEVER THE INPUT: true; the input reads as it did. -/
def sweptTurnedSpec : ChangeSpec := { name := "sweptTurned", fn := fun _ => fun
  | [d1, d2, d3, d4] => { results := [.lit (.bool true)], args := [d1, d2, d3, d4] }
  | _ => none }
def sweptTurnedRow : OpenClaim := { program := "ythhmkaikopdmjaagreat", sum := "158f6ba2e8d9a464b83856ecd11df71aa71b9b5716348a54d3473755d1d6003c", func := "narrows/narrowslaw46.SweptTurned", spec := "sweptTurned", unfollowed := true, recurses := true, named := ["math/bits.overflowError"], apart := false }
def SweptTurnedSaid : Prop := sweptTurnedRow.holds Tryz.pinned (OpenSpec.ofChange sweptTurnedSpec)

/-- ITS FALSE NEIGHBOUR: 'it returns false'. Refute it at one input. -/
def sweptTurnedWrong : ChangeSpec := { name := "sweptTurned", fn := fun _ => fun
  | [d1, d2, d3, d4] => { results := [.lit (.bool false)], args := [d1, d2, d3, d4] }
  | _ => none }
def SweptTurnedWrongFalsely : Prop := sweptTurnedRow.holds Tryz.pinned (OpenSpec.ofChange sweptTurnedWrong)

/- THE SECOND FORM. 'bulk': how many values and letters a reading holds, each counted each time it is reached (what is shared counts as often as it is met; a slice's spare places count too). A statement '..UptoSaid' is the law's where the arguments, and the package variables that the reading takes, are together of bulk at most 1048576: NARROWER than '..Said'. Prove '..Said' where nothing that the law and all that it calls make is longer than what came in: it says more and counts as full. Else prove '..UptoSaid'. A law counts once. -/
mutual
def uptoBulk {H : Type} : DataW H → Nat
  | .lit (.string bytes) => bytes.length + 1
  | .lit _ => 1
  | .nil => 1
  | .ptr d => uptoBulk d + 1
  | .slice elems spare => uptoBulkAll elems + uptoBulkAll spare + 1
  | .agg parts => uptoBulkAll parts + 1
  | .iface _ d => uptoBulk d + 1
  | .map entries => uptoBulkEntries entries + 1
  | .held _ => 1
def uptoBulkAll {H : Type} : List (DataW H) → Nat
  | [] => 0
  | d :: r => uptoBulk d + uptoBulkAll r
def uptoBulkEntries {H : Type} : List (Lit × DataW H) → Nat
  | [] => 0
  | x :: r => uptoBulkEntry x + uptoBulkEntries r
def uptoBulkEntry {H : Type} : Lit × DataW H → Nat
  | (.string bytes, d) => bytes.length + uptoBulk d + 1
  | (_, d) => uptoBulk d + 1
 end
def uptoSmall : (H : Type) → List (DataW H) → Bool := fun _ ds => decide (uptoBulkAll ds ≤ 1048576)
def OpenSpec.upto (s : _root_.Go.ChangeSpec) : _root_.Go.OpenSpec := { _root_.Go.OpenSpec.ofChange s with cond := some uptoSmall }

/-- 'narrowslaw45.SlicesLists', WHERE WHAT IT READS IS OF BULK AT MOST 1048576: true; the input reads as it did. -/
def slicesListsUptoRow : OpenClaim := { program := "ythhmkaikopdmjaagreat", sum := "158f6ba2e8d9a464b83856ecd11df71aa71b9b5716348a54d3473755d1d6003c", func := "narrows/narrowslaw45.SlicesLists", spec := "slicesLists", unfollowed := true, recurses := true, named := ["math/bits.overflowError"], apart := false, narrowed := true }
def SlicesListsUptoSaid : Prop := slicesListsUptoRow.holds Tryz.pinned (OpenSpec.upto slicesListsSpec)

/-- 'narrowslaw45.SlicesQuarters', WHERE WHAT IT READS IS OF BULK AT MOST 1048576: true; the input reads as it did. -/
def slicesQuartersUptoRow : OpenClaim := { program := "ythhmkaikopdmjaagreat", sum := "158f6ba2e8d9a464b83856ecd11df71aa71b9b5716348a54d3473755d1d6003c", func := "narrows/narrowslaw45.SlicesQuarters", spec := "slicesQuarters", unfollowed := true, recurses := true, named := ["math/bits.overflowError"], apart := false, narrowed := true }
def SlicesQuartersUptoSaid : Prop := slicesQuartersUptoRow.holds Tryz.pinned (OpenSpec.upto slicesQuartersSpec)

/-- 'narrowslaw45.SlicesFinds', WHERE WHAT IT READS IS OF BULK AT MOST 1048576: true; the input reads as it did. -/
def slicesFindsUptoRow : OpenClaim := { program := "ythhmkaikopdmjaagreat", sum := "158f6ba2e8d9a464b83856ecd11df71aa71b9b5716348a54d3473755d1d6003c", func := "narrows/narrowslaw45.SlicesFinds", spec := "slicesFinds", unfollowed := true, recurses := true, named := ["math/bits.overflowError"], apart := false, narrowed := true }
def SlicesFindsUptoSaid : Prop := slicesFindsUptoRow.holds Tryz.pinned (OpenSpec.upto slicesFindsSpec)

/-- 'narrowslaw45.SlicesRefines', WHERE WHAT IT READS IS OF BULK AT MOST 1048576: true; the input reads as it did. -/
def slicesRefinesUptoRow : OpenClaim := { program := "ythhmkaikopdmjaagreat", sum := "158f6ba2e8d9a464b83856ecd11df71aa71b9b5716348a54d3473755d1d6003c", func := "narrows/narrowslaw45.SlicesRefines", spec := "slicesRefines", unfollowed := true, recurses := true, named := ["math/bits.overflowError"], apart := false, narrowed := true }
def SlicesRefinesUptoSaid : Prop := slicesRefinesUptoRow.holds Tryz.pinned (OpenSpec.upto slicesRefinesSpec)

/-- 'narrowslaw45.SlicesChanges', WHERE WHAT IT READS IS OF BULK AT MOST 1048576: true; the input reads as it did. -/
def slicesChangesUptoRow : OpenClaim := { program := "ythhmkaikopdmjaagreat", sum := "158f6ba2e8d9a464b83856ecd11df71aa71b9b5716348a54d3473755d1d6003c", func := "narrows/narrowslaw45.SlicesChanges", spec := "slicesChanges", inPlace := ["slices.overlaps[narrows/api.Rotation]"], unfollowed := true, recurses := true, named := ["math/bits.overflowError"], apart := false, narrowed := true }
def SlicesChangesUptoSaid : Prop := slicesChangesUptoRow.holds Tryz.pinned (OpenSpec.upto slicesChangesSpec)

/-- 'narrowslaw45.SlicesInserts', WHERE WHAT IT READS IS OF BULK AT MOST 1048576: true; the input reads as it did. -/
def slicesInsertsUptoRow : OpenClaim := { program := "ythhmkaikopdmjaagreat", sum := "158f6ba2e8d9a464b83856ecd11df71aa71b9b5716348a54d3473755d1d6003c", func := "narrows/narrowslaw45.SlicesInserts", spec := "slicesInserts", inPlace := ["slices.overlaps[narrows/api.Rotation]"], unfollowed := true, recurses := true, named := ["math/bits.overflowError"], apart := false, narrowed := true }
def SlicesInsertsUptoSaid : Prop := slicesInsertsUptoRow.holds Tryz.pinned (OpenSpec.upto slicesInsertsSpec)

/-- 'narrowslaw46.SweptTurned', WHERE WHAT IT READS IS OF BULK AT MOST 1048576: true; the input reads as it did. -/
def sweptTurnedUptoRow : OpenClaim := { program := "ythhmkaikopdmjaagreat", sum := "158f6ba2e8d9a464b83856ecd11df71aa71b9b5716348a54d3473755d1d6003c", func := "narrows/narrowslaw46.SweptTurned", spec := "sweptTurned", unfollowed := true, recurses := true, named := ["math/bits.overflowError"], apart := false, narrowed := true }
def SweptTurnedUptoSaid : Prop := sweptTurnedUptoRow.holds Tryz.pinned (OpenSpec.upto sweptTurnedSpec)

end Rows
end Go.Proofs.YthhmkaikopdmjaaGreat
