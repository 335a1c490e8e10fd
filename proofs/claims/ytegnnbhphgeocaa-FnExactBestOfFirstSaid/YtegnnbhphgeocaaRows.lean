/-
  No cell of these rows narrows 'for every input' (looked for: loops, veiled, ifaces, maps, wideKeys, modest, calm, conditions, laid).
  DERIVED. THE GIVEN ROWS OF THIS SEAT. 11 by the template 'for every input the law returns true; each argument reads behind the call as it read before'; 0 by the template 'total and deterministic' (their statements: YtegnnbhphgeocaaTotals.lean).
  GIVEN WITH THE SEED: the statements are not yours to turn. If you find one false, say at which input.
  Laid BY PROGRAM, IN A SANDBOX (cutbox-rows.mjs): the forced cells as the released guide's own fill.sh prints them over the translation 472c63f5c7218fd1… (all of the seat's roots in one cut). By AI agents, Wed Nov 11 2026. No macro, syntax, notation, axiom, sorry.
-/
import Derived.Test.YtegnnbhphgeocaaChecked
import GoSem.Claim
import GoSem.ClaimJoined
import GoSem.ClaimMapViews
import Derived.JoinedTies
import Derived.KernelRfl
namespace Go.Proofs.Ytegnnbhphgeocaa
/- THE CELL 'sum', in the pinned program and in every row, IS THE sha256 OF THE DUMP (.gsa) THAT YtegnnbhphgeocaaProg.lean LOADS. Nothing in Lean hashes anything: it is a label: what it is worth is what the hold of that sum in a sandbox is worth. -/
noncomputable def Try.pinned : Pinned := { name := "ytegnnbhphgeocaa", sum := "472c63f5c7218fd132163281fd602c2da3d62632be4aa198c93056ca10f41c8d", checked := Try.checked }
namespace Rows
def none {H : Type} : Left H := { results := [], args := [] }

/-- 'laws.FnExactIsReducedForm': WHATEVER THE INPUT: true; the input reads as it did. -/
def fnExactIsReducedFormSpec : ChangeSpec := { name := "fnExactIsReducedForm", fn := fun _ => fun
  | [d] => { results := [.lit (.bool true)], args := [d] }
  | _ => none }
def fnExactIsReducedFormRow : OpenClaim := { program := "ytegnnbhphgeocaa", sum := "472c63f5c7218fd132163281fd602c2da3d62632be4aa198c93056ca10f41c8d", func := "loop.example/g01297/laws.FnExactIsReducedForm", spec := "fnExactIsReducedForm", apart := false }
def FnExactIsReducedFormSaid : Prop := fnExactIsReducedFormRow.holds Try.pinned (OpenSpec.ofChange fnExactIsReducedFormSpec)

/-- ITS FALSE NEIGHBOUR: 'it returns false'. Refute it at one input. -/
def fnExactIsReducedFormWrong : ChangeSpec := { name := "fnExactIsReducedForm", fn := fun _ => fun
  | [d] => { results := [.lit (.bool false)], args := [d] }
  | _ => none }
def FnExactIsReducedFormWrongFalsely : Prop := fnExactIsReducedFormRow.holds Try.pinned (OpenSpec.ofChange fnExactIsReducedFormWrong)

/-- 'laws.FnExactIsReducedPair': WHATEVER THE INPUT: true; the input reads as it did. -/
def fnExactIsReducedPairSpec : ChangeSpec := { name := "fnExactIsReducedPair", fn := fun _ => fun
  | [d1, d2] => { results := [.lit (.bool true)], args := [d1, d2] }
  | _ => none }
def fnExactIsReducedPairRow : OpenClaim := { program := "ytegnnbhphgeocaa", sum := "472c63f5c7218fd132163281fd602c2da3d62632be4aa198c93056ca10f41c8d", func := "loop.example/g01297/laws.FnExactIsReducedPair", spec := "fnExactIsReducedPair", unfollowed := true, recurses := true, apart := false }
def FnExactIsReducedPairSaid : Prop := fnExactIsReducedPairRow.holds Try.pinned (OpenSpec.ofChange fnExactIsReducedPairSpec)

/-- ITS FALSE NEIGHBOUR: 'it returns false'. Refute it at one input. -/
def fnExactIsReducedPairWrong : ChangeSpec := { name := "fnExactIsReducedPair", fn := fun _ => fun
  | [d1, d2] => { results := [.lit (.bool false)], args := [d1, d2] }
  | _ => none }
def FnExactIsReducedPairWrongFalsely : Prop := fnExactIsReducedPairRow.holds Try.pinned (OpenSpec.ofChange fnExactIsReducedPairWrong)

/-- 'laws.FnExactCommonRecords': WHATEVER THE INPUT: true; the input reads as it did. -/
def fnExactCommonRecordsSpec : ChangeSpec := { name := "fnExactCommonRecords", fn := fun _ => fun
  | [d1, d2, d3, d4] => { results := [.lit (.bool true)], args := [d1, d2, d3, d4] }
  | _ => none }
def fnExactCommonRecordsRow : OpenClaim := { program := "ytegnnbhphgeocaa", sum := "472c63f5c7218fd132163281fd602c2da3d62632be4aa198c93056ca10f41c8d", func := "loop.example/g01297/laws.FnExactCommonRecords", spec := "fnExactCommonRecords", apart := false }
def FnExactCommonRecordsSaid : Prop := fnExactCommonRecordsRow.holds Try.pinned (OpenSpec.ofChange fnExactCommonRecordsSpec)

/-- ITS FALSE NEIGHBOUR: 'it returns false'. Refute it at one input. -/
def fnExactCommonRecordsWrong : ChangeSpec := { name := "fnExactCommonRecords", fn := fun _ => fun
  | [d1, d2, d3, d4] => { results := [.lit (.bool false)], args := [d1, d2, d3, d4] }
  | _ => none }
def FnExactCommonRecordsWrongFalsely : Prop := fnExactCommonRecordsRow.holds Try.pinned (OpenSpec.ofChange fnExactCommonRecordsWrong)

/-- 'laws.FnExactNearestFraction': WHATEVER THE INPUT: true; the input reads as it did. -/
def fnExactNearestFractionSpec : ChangeSpec := { name := "fnExactNearestFraction", fn := fun _ => fun
  | [d1, d2, d3] => { results := [.lit (.bool true)], args := [d1, d2, d3] }
  | _ => none }
def fnExactNearestFractionRow : OpenClaim := { program := "ytegnnbhphgeocaa", sum := "472c63f5c7218fd132163281fd602c2da3d62632be4aa198c93056ca10f41c8d", func := "loop.example/g01297/laws.FnExactNearestFraction", spec := "fnExactNearestFraction", unfollowed := true, recurses := true, apart := false }
def FnExactNearestFractionSaid : Prop := fnExactNearestFractionRow.holds Try.pinned (OpenSpec.ofChange fnExactNearestFractionSpec)

/-- ITS FALSE NEIGHBOUR: 'it returns false'. Refute it at one input. -/
def fnExactNearestFractionWrong : ChangeSpec := { name := "fnExactNearestFraction", fn := fun _ => fun
  | [d1, d2, d3] => { results := [.lit (.bool false)], args := [d1, d2, d3] }
  | _ => none }
def FnExactNearestFractionWrongFalsely : Prop := fnExactNearestFractionRow.holds Try.pinned (OpenSpec.ofChange fnExactNearestFractionWrong)

/-- 'laws.FnExactIsDesk': WHATEVER THE INPUT: true; the input reads as it did. -/
def fnExactIsDeskSpec : ChangeSpec := { name := "fnExactIsDesk", fn := fun _ => fun
  | [d] => { results := [.lit (.bool true)], args := [d] }
  | _ => none }
def fnExactIsDeskRow : OpenClaim := { program := "ytegnnbhphgeocaa", sum := "472c63f5c7218fd132163281fd602c2da3d62632be4aa198c93056ca10f41c8d", func := "loop.example/g01297/laws.FnExactIsDesk", spec := "fnExactIsDesk", unfollowed := true, recurses := true, apart := false }
def FnExactIsDeskSaid : Prop := fnExactIsDeskRow.holds Try.pinned (OpenSpec.ofChange fnExactIsDeskSpec)

/-- ITS FALSE NEIGHBOUR: 'it returns false'. Refute it at one input. -/
def fnExactIsDeskWrong : ChangeSpec := { name := "fnExactIsDesk", fn := fun _ => fun
  | [d] => { results := [.lit (.bool false)], args := [d] }
  | _ => none }
def FnExactIsDeskWrongFalsely : Prop := fnExactIsDeskRow.holds Try.pinned (OpenSpec.ofChange fnExactIsDeskWrong)

/-- 'laws.FnExactNextForm': WHATEVER THE INPUT: true; the input reads as it did. -/
def fnExactNextFormSpec : ChangeSpec := { name := "fnExactNextForm", fn := fun _ => fun
  | [d] => { results := [.lit (.bool true)], args := [d] }
  | _ => none }
def fnExactNextFormRow : OpenClaim := { program := "ytegnnbhphgeocaa", sum := "472c63f5c7218fd132163281fd602c2da3d62632be4aa198c93056ca10f41c8d", func := "loop.example/g01297/laws.FnExactNextForm", spec := "fnExactNextForm", apart := false }
def FnExactNextFormSaid : Prop := fnExactNextFormRow.holds Try.pinned (OpenSpec.ofChange fnExactNextFormSpec)

/-- ITS FALSE NEIGHBOUR: 'it returns false'. Refute it at one input. -/
def fnExactNextFormWrong : ChangeSpec := { name := "fnExactNextForm", fn := fun _ => fun
  | [d] => { results := [.lit (.bool false)], args := [d] }
  | _ => none }
def FnExactNextFormWrongFalsely : Prop := fnExactNextFormRow.holds Try.pinned (OpenSpec.ofChange fnExactNextFormWrong)

/-- 'laws.FnExactIsConvergent': WHATEVER THE INPUT: true; the input reads as it did. -/
def fnExactIsConvergentSpec : ChangeSpec := { name := "fnExactIsConvergent", fn := fun _ => fun
  | [d1, d2, d3, d4] => { results := [.lit (.bool true)], args := [d1, d2, d3, d4] }
  | _ => none }
def fnExactIsConvergentRow : OpenClaim := { program := "ytegnnbhphgeocaa", sum := "472c63f5c7218fd132163281fd602c2da3d62632be4aa198c93056ca10f41c8d", func := "loop.example/g01297/laws.FnExactIsConvergent", spec := "fnExactIsConvergent", apart := false }
def FnExactIsConvergentSaid : Prop := fnExactIsConvergentRow.holds Try.pinned (OpenSpec.ofChange fnExactIsConvergentSpec)

/-- ITS FALSE NEIGHBOUR: 'it returns false'. Refute it at one input. -/
def fnExactIsConvergentWrong : ChangeSpec := { name := "fnExactIsConvergent", fn := fun _ => fun
  | [d1, d2, d3, d4] => { results := [.lit (.bool false)], args := [d1, d2, d3, d4] }
  | _ => none }
def FnExactIsConvergentWrongFalsely : Prop := fnExactIsConvergentRow.holds Try.pinned (OpenSpec.ofChange fnExactIsConvergentWrong)

/-- 'laws.FnExactBestOfSecond': WHATEVER THE INPUT: true; the input reads as it did. -/
def fnExactBestOfSecondSpec : ChangeSpec := { name := "fnExactBestOfSecond", fn := fun _ => fun
  | [d1, d2, d3] => { results := [.lit (.bool true)], args := [d1, d2, d3] }
  | _ => none }
def fnExactBestOfSecondRow : OpenClaim := { program := "ytegnnbhphgeocaa", sum := "472c63f5c7218fd132163281fd602c2da3d62632be4aa198c93056ca10f41c8d", func := "loop.example/g01297/laws.FnExactBestOfSecond", spec := "fnExactBestOfSecond", unfollowed := true, recurses := true, apart := false }
def FnExactBestOfSecondSaid : Prop := fnExactBestOfSecondRow.holds Try.pinned (OpenSpec.ofChange fnExactBestOfSecondSpec)

/-- ITS FALSE NEIGHBOUR: 'it returns false'. Refute it at one input. -/
def fnExactBestOfSecondWrong : ChangeSpec := { name := "fnExactBestOfSecond", fn := fun _ => fun
  | [d1, d2, d3] => { results := [.lit (.bool false)], args := [d1, d2, d3] }
  | _ => none }
def FnExactBestOfSecondWrongFalsely : Prop := fnExactBestOfSecondRow.holds Try.pinned (OpenSpec.ofChange fnExactBestOfSecondWrong)

/-- 'laws.FnExactShortestNorm': WHATEVER THE INPUT: true; the input reads as it did. -/
def fnExactShortestNormSpec : ChangeSpec := { name := "fnExactShortestNorm", fn := fun _ => fun
  | [d1, d2] => { results := [.lit (.bool true)], args := [d1, d2] }
  | _ => none }
def fnExactShortestNormRow : OpenClaim := { program := "ytegnnbhphgeocaa", sum := "472c63f5c7218fd132163281fd602c2da3d62632be4aa198c93056ca10f41c8d", func := "loop.example/g01297/laws.FnExactShortestNorm", spec := "fnExactShortestNorm", unfollowed := true, recurses := true, apart := false }
def FnExactShortestNormSaid : Prop := fnExactShortestNormRow.holds Try.pinned (OpenSpec.ofChange fnExactShortestNormSpec)

/-- ITS FALSE NEIGHBOUR: 'it returns false'. Refute it at one input. -/
def fnExactShortestNormWrong : ChangeSpec := { name := "fnExactShortestNorm", fn := fun _ => fun
  | [d1, d2] => { results := [.lit (.bool false)], args := [d1, d2] }
  | _ => none }
def FnExactShortestNormWrongFalsely : Prop := fnExactShortestNormRow.holds Try.pinned (OpenSpec.ofChange fnExactShortestNormWrong)

/-- 'laws.FnExactBestOfFirst': WHATEVER THE INPUT: true; the input reads as it did. -/
def fnExactBestOfFirstSpec : ChangeSpec := { name := "fnExactBestOfFirst", fn := fun _ => fun
  | [d1, d2, d3] => { results := [.lit (.bool true)], args := [d1, d2, d3] }
  | _ => none }
def fnExactBestOfFirstRow : OpenClaim := { program := "ytegnnbhphgeocaa", sum := "472c63f5c7218fd132163281fd602c2da3d62632be4aa198c93056ca10f41c8d", func := "loop.example/g01297/laws.FnExactBestOfFirst", spec := "fnExactBestOfFirst", unfollowed := true, recurses := true, apart := false }
def FnExactBestOfFirstSaid : Prop := fnExactBestOfFirstRow.holds Try.pinned (OpenSpec.ofChange fnExactBestOfFirstSpec)

/-- ITS FALSE NEIGHBOUR: 'it returns false'. Refute it at one input. -/
def fnExactBestOfFirstWrong : ChangeSpec := { name := "fnExactBestOfFirst", fn := fun _ => fun
  | [d1, d2, d3] => { results := [.lit (.bool false)], args := [d1, d2, d3] }
  | _ => none }
def FnExactBestOfFirstWrongFalsely : Prop := fnExactBestOfFirstRow.holds Try.pinned (OpenSpec.ofChange fnExactBestOfFirstWrong)

/-- 'laws.FnExactSinesOf': WHATEVER THE INPUT: true; the input reads as it did. -/
def fnExactSinesOfSpec : ChangeSpec := { name := "fnExactSinesOf", fn := fun _ => fun
  | [d] => { results := [.lit (.bool true)], args := [d] }
  | _ => none }
def fnExactSinesOfRow : OpenClaim := { program := "ytegnnbhphgeocaa", sum := "472c63f5c7218fd132163281fd602c2da3d62632be4aa198c93056ca10f41c8d", func := "loop.example/g01297/laws.FnExactSinesOf", spec := "fnExactSinesOf", apart := false }
def FnExactSinesOfSaid : Prop := fnExactSinesOfRow.holds Try.pinned (OpenSpec.ofChange fnExactSinesOfSpec)

/-- ITS FALSE NEIGHBOUR: 'it returns false'. Refute it at one input. -/
def fnExactSinesOfWrong : ChangeSpec := { name := "fnExactSinesOf", fn := fun _ => fun
  | [d] => { results := [.lit (.bool false)], args := [d] }
  | _ => none }
def FnExactSinesOfWrongFalsely : Prop := fnExactSinesOfRow.holds Try.pinned (OpenSpec.ofChange fnExactSinesOfWrong)

/- THE SECOND FORM. 'bulk': how many values and letters a reading holds, each counted each time it is reached (what is shared counts as often as it is met; a slice's spare places count too). A statement '..UptoSaid' is the law's where the arguments, and the package variables that the reading takes, are together of bulk at most 1048576: NARROWER than '..Said'. Prove '..Said' where nothing that the law and all that it calls make is longer than what came in: it says more and counts as full. Else prove '..UptoSaid'. A law counts once. -/
mutual
def uptoBulk {H : Type} : DataW H → Nat
  | .lit (.string bytes) => bytes.length + 1
  | .lit _ => 1
  | .nil => 1
  | .ptr d => uptoBulk d + 1
  | .slice elems spare => uptoBulkAll elems + uptoBulkAll spare + 1
  | .agg parts => uptoBulkAll parts + 1
  | .iface _ d => uptoBulk d + 1
  | .map entries => uptoBulkEntries entries + 1
  | .held _ => 1
def uptoBulkAll {H : Type} : List (DataW H) → Nat
  | [] => 0
  | d :: r => uptoBulk d + uptoBulkAll r
def uptoBulkEntries {H : Type} : List (Lit × DataW H) → Nat
  | [] => 0
  | x :: r => uptoBulkEntry x + uptoBulkEntries r
def uptoBulkEntry {H : Type} : Lit × DataW H → Nat
  | (.string bytes, d) => bytes.length + uptoBulk d + 1
  | (_, d) => uptoBulk d + 1
 end
def uptoSmall : (H : Type) → List (DataW H) → Bool := fun _ ds => decide (uptoBulkAll ds ≤ 1048576)
def OpenSpec.upto (s : _root_.Go.ChangeSpec) : _root_.Go.OpenSpec := { _root_.Go.OpenSpec.ofChange s with cond := some uptoSmall }

/-- 'laws.FnExactIsReducedForm', WHERE WHAT IT READS IS OF BULK AT MOST 1048576: true; the input reads as it did. -/
def fnExactIsReducedFormUptoRow : OpenClaim := { program := "ytegnnbhphgeocaa", sum := "472c63f5c7218fd132163281fd602c2da3d62632be4aa198c93056ca10f41c8d", func := "loop.example/g01297/laws.FnExactIsReducedForm", spec := "fnExactIsReducedForm", apart := false, narrowed := true }
def FnExactIsReducedFormUptoSaid : Prop := fnExactIsReducedFormUptoRow.holds Try.pinned (OpenSpec.upto fnExactIsReducedFormSpec)

/-- 'laws.FnExactIsReducedPair', WHERE WHAT IT READS IS OF BULK AT MOST 1048576: true; the input reads as it did. -/
def fnExactIsReducedPairUptoRow : OpenClaim := { program := "ytegnnbhphgeocaa", sum := "472c63f5c7218fd132163281fd602c2da3d62632be4aa198c93056ca10f41c8d", func := "loop.example/g01297/laws.FnExactIsReducedPair", spec := "fnExactIsReducedPair", unfollowed := true, recurses := true, apart := false, narrowed := true }
def FnExactIsReducedPairUptoSaid : Prop := fnExactIsReducedPairUptoRow.holds Try.pinned (OpenSpec.upto fnExactIsReducedPairSpec)

/-- 'laws.FnExactCommonRecords', WHERE WHAT IT READS IS OF BULK AT MOST 1048576: true; the input reads as it did. -/
def fnExactCommonRecordsUptoRow : OpenClaim := { program := "ytegnnbhphgeocaa", sum := "472c63f5c7218fd132163281fd602c2da3d62632be4aa198c93056ca10f41c8d", func := "loop.example/g01297/laws.FnExactCommonRecords", spec := "fnExactCommonRecords", apart := false, narrowed := true }
def FnExactCommonRecordsUptoSaid : Prop := fnExactCommonRecordsUptoRow.holds Try.pinned (OpenSpec.upto fnExactCommonRecordsSpec)

/-- 'laws.FnExactNearestFraction', WHERE WHAT IT READS IS OF BULK AT MOST 1048576: true; the input reads as it did. -/
def fnExactNearestFractionUptoRow : OpenClaim := { program := "ytegnnbhphgeocaa", sum := "472c63f5c7218fd132163281fd602c2da3d62632be4aa198c93056ca10f41c8d", func := "loop.example/g01297/laws.FnExactNearestFraction", spec := "fnExactNearestFraction", unfollowed := true, recurses := true, apart := false, narrowed := true }
def FnExactNearestFractionUptoSaid : Prop := fnExactNearestFractionUptoRow.holds Try.pinned (OpenSpec.upto fnExactNearestFractionSpec)

/-- 'laws.FnExactIsDesk', WHERE WHAT IT READS IS OF BULK AT MOST 1048576: true; the input reads as it did. -/
def fnExactIsDeskUptoRow : OpenClaim := { program := "ytegnnbhphgeocaa", sum := "472c63f5c7218fd132163281fd602c2da3d62632be4aa198c93056ca10f41c8d", func := "loop.example/g01297/laws.FnExactIsDesk", spec := "fnExactIsDesk", unfollowed := true, recurses := true, apart := false, narrowed := true }
def FnExactIsDeskUptoSaid : Prop := fnExactIsDeskUptoRow.holds Try.pinned (OpenSpec.upto fnExactIsDeskSpec)

/-- 'laws.FnExactNextForm', WHERE WHAT IT READS IS OF BULK AT MOST 1048576: true; the input reads as it did. -/
def fnExactNextFormUptoRow : OpenClaim := { program := "ytegnnbhphgeocaa", sum := "472c63f5c7218fd132163281fd602c2da3d62632be4aa198c93056ca10f41c8d", func := "loop.example/g01297/laws.FnExactNextForm", spec := "fnExactNextForm", apart := false, narrowed := true }
def FnExactNextFormUptoSaid : Prop := fnExactNextFormUptoRow.holds Try.pinned (OpenSpec.upto fnExactNextFormSpec)

/-- 'laws.FnExactIsConvergent', WHERE WHAT IT READS IS OF BULK AT MOST 1048576: true; the input reads as it did. -/
def fnExactIsConvergentUptoRow : OpenClaim := { program := "ytegnnbhphgeocaa", sum := "472c63f5c7218fd132163281fd602c2da3d62632be4aa198c93056ca10f41c8d", func := "loop.example/g01297/laws.FnExactIsConvergent", spec := "fnExactIsConvergent", apart := false, narrowed := true }
def FnExactIsConvergentUptoSaid : Prop := fnExactIsConvergentUptoRow.holds Try.pinned (OpenSpec.upto fnExactIsConvergentSpec)

/-- 'laws.FnExactBestOfSecond', WHERE WHAT IT READS IS OF BULK AT MOST 1048576: true; the input reads as it did. -/
def fnExactBestOfSecondUptoRow : OpenClaim := { program := "ytegnnbhphgeocaa", sum := "472c63f5c7218fd132163281fd602c2da3d62632be4aa198c93056ca10f41c8d", func := "loop.example/g01297/laws.FnExactBestOfSecond", spec := "fnExactBestOfSecond", unfollowed := true, recurses := true, apart := false, narrowed := true }
def FnExactBestOfSecondUptoSaid : Prop := fnExactBestOfSecondUptoRow.holds Try.pinned (OpenSpec.upto fnExactBestOfSecondSpec)

/-- 'laws.FnExactShortestNorm', WHERE WHAT IT READS IS OF BULK AT MOST 1048576: true; the input reads as it did. -/
def fnExactShortestNormUptoRow : OpenClaim := { program := "ytegnnbhphgeocaa", sum := "472c63f5c7218fd132163281fd602c2da3d62632be4aa198c93056ca10f41c8d", func := "loop.example/g01297/laws.FnExactShortestNorm", spec := "fnExactShortestNorm", unfollowed := true, recurses := true, apart := false, narrowed := true }
def FnExactShortestNormUptoSaid : Prop := fnExactShortestNormUptoRow.holds Try.pinned (OpenSpec.upto fnExactShortestNormSpec)

/-- 'laws.FnExactBestOfFirst', WHERE WHAT IT READS IS OF BULK AT MOST 1048576: true; the input reads as it did. -/
def fnExactBestOfFirstUptoRow : OpenClaim := { program := "ytegnnbhphgeocaa", sum := "472c63f5c7218fd132163281fd602c2da3d62632be4aa198c93056ca10f41c8d", func := "loop.example/g01297/laws.FnExactBestOfFirst", spec := "fnExactBestOfFirst", unfollowed := true, recurses := true, apart := false, narrowed := true }
def FnExactBestOfFirstUptoSaid : Prop := fnExactBestOfFirstUptoRow.holds Try.pinned (OpenSpec.upto fnExactBestOfFirstSpec)

/-- 'laws.FnExactSinesOf', WHERE WHAT IT READS IS OF BULK AT MOST 1048576: true; the input reads as it did. -/
def fnExactSinesOfUptoRow : OpenClaim := { program := "ytegnnbhphgeocaa", sum := "472c63f5c7218fd132163281fd602c2da3d62632be4aa198c93056ca10f41c8d", func := "loop.example/g01297/laws.FnExactSinesOf", spec := "fnExactSinesOf", apart := false, narrowed := true }
def FnExactSinesOfUptoSaid : Prop := fnExactSinesOfUptoRow.holds Try.pinned (OpenSpec.upto fnExactSinesOfSpec)

end Rows
end Go.Proofs.Ytegnnbhphgeocaa
