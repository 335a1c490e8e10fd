/-
  No cell of these rows narrows 'for every input' (looked for: loops, veiled, ifaces, maps, wideKeys, modest, calm, conditions, laid).
  DERIVED. THE GIVEN ROWS OF THIS SEAT. 12 by the template 'for every input the law returns true; each argument reads behind the call as it read before'; 0 by the template 'total and deterministic' (their statements: YtnfpidnnmgedfaaTotals.lean).
  GIVEN WITH THE SEED: the statements are not yours to turn. If you find one false, say at which input.
  Laid BY PROGRAM, IN A SANDBOX (cutbox-rows.mjs): the forced cells as the released guide's own fill.sh prints them over the translation dade5ee4d3381176… (all of the seat's roots in one cut). By AI agents, Wed Nov 11 2026. No macro, syntax, notation, axiom, sorry.
-/
import Derived.Test.YtnfpidnnmgedfaaChecked
import GoSem.Claim
import GoSem.ClaimJoined
import GoSem.ClaimMapViews
import Derived.JoinedTies
import Derived.KernelRfl
namespace Go.Proofs.Ytnfpidnnmgedfaa
/- THE CELL 'sum', in the pinned program and in every row, IS THE sha256 OF THE DUMP (.gsa) THAT YtnfpidnnmgedfaaProg.lean LOADS. Nothing in Lean hashes anything: it is a label: what it is worth is what the hold of that sum in a sandbox is worth. -/
noncomputable def Try.pinned : Pinned := { name := "ytnfpidnnmgedfaa", sum := "dade5ee4d33811768a94f5b122d178fa44b4133d3390ec35adc5b71bfd4f6507", checked := Try.checked }
namespace Rows
def none {H : Type} : Left H := { results := [], args := [] }

/-- 'laws.FnExactAreEquivalentForms': WHATEVER THE INPUT: true; the input reads as it did. -/
def fnExactAreEquivalentFormsSpec : ChangeSpec := { name := "fnExactAreEquivalentForms", fn := fun _ => fun
  | [d1, d2] => { results := [.lit (.bool true)], args := [d1, d2] }
  | _ => none }
def fnExactAreEquivalentFormsRow : OpenClaim := { program := "ytnfpidnnmgedfaa", sum := "dade5ee4d33811768a94f5b122d178fa44b4133d3390ec35adc5b71bfd4f6507", func := "loop.example/g01297/laws.FnExactAreEquivalentForms", spec := "fnExactAreEquivalentForms", plainKeys := false, apart := false }
def FnExactAreEquivalentFormsSaid : Prop := fnExactAreEquivalentFormsRow.holds Try.pinned (OpenSpec.ofChange fnExactAreEquivalentFormsSpec)

/-- ITS FALSE NEIGHBOUR: 'it returns false'. Refute it at one input. -/
def fnExactAreEquivalentFormsWrong : ChangeSpec := { name := "fnExactAreEquivalentForms", fn := fun _ => fun
  | [d1, d2] => { results := [.lit (.bool false)], args := [d1, d2] }
  | _ => none }
def FnExactAreEquivalentFormsWrongFalsely : Prop := fnExactAreEquivalentFormsRow.holds Try.pinned (OpenSpec.ofChange fnExactAreEquivalentFormsWrong)

/-- 'laws.FnExactReducePair': WHATEVER THE INPUT: true; the input reads as it did. -/
def fnExactReducePairSpec : ChangeSpec := { name := "fnExactReducePair", fn := fun _ => fun
  | [d1, d2] => { results := [.lit (.bool true)], args := [d1, d2] }
  | _ => none }
def fnExactReducePairRow : OpenClaim := { program := "ytnfpidnnmgedfaa", sum := "dade5ee4d33811768a94f5b122d178fa44b4133d3390ec35adc5b71bfd4f6507", func := "loop.example/g01297/laws.FnExactReducePair", spec := "fnExactReducePair", unfollowed := true, recurses := true, plainKeys := false, apart := false }
def FnExactReducePairSaid : Prop := fnExactReducePairRow.holds Try.pinned (OpenSpec.ofChange fnExactReducePairSpec)

/-- ITS FALSE NEIGHBOUR: 'it returns false'. Refute it at one input. -/
def fnExactReducePairWrong : ChangeSpec := { name := "fnExactReducePair", fn := fun _ => fun
  | [d1, d2] => { results := [.lit (.bool false)], args := [d1, d2] }
  | _ => none }
def FnExactReducePairWrongFalsely : Prop := fnExactReducePairRow.holds Try.pinned (OpenSpec.ofChange fnExactReducePairWrong)

/-- 'laws.FnExactAreaOfPolygon': WHATEVER THE INPUT: true; the input reads as it did. -/
def fnExactAreaOfPolygonSpec : ChangeSpec := { name := "fnExactAreaOfPolygon", fn := fun _ => fun
  | [d] => { results := [.lit (.bool true)], args := [d] }
  | _ => none }
def fnExactAreaOfPolygonRow : OpenClaim := { program := "ytnfpidnnmgedfaa", sum := "dade5ee4d33811768a94f5b122d178fa44b4133d3390ec35adc5b71bfd4f6507", func := "loop.example/g01297/laws.FnExactAreaOfPolygon", spec := "fnExactAreaOfPolygon", unfollowed := true, recurses := true, plainKeys := false, apart := false }
def FnExactAreaOfPolygonSaid : Prop := fnExactAreaOfPolygonRow.holds Try.pinned (OpenSpec.ofChange fnExactAreaOfPolygonSpec)

/-- ITS FALSE NEIGHBOUR: 'it returns false'. Refute it at one input. -/
def fnExactAreaOfPolygonWrong : ChangeSpec := { name := "fnExactAreaOfPolygon", fn := fun _ => fun
  | [d] => { results := [.lit (.bool false)], args := [d] }
  | _ => none }
def FnExactAreaOfPolygonWrongFalsely : Prop := fnExactAreaOfPolygonRow.holds Try.pinned (OpenSpec.ofChange fnExactAreaOfPolygonWrong)

/-- 'laws.FnExactShapeOf': WHATEVER THE INPUT: true; the input reads as it did. -/
def fnExactShapeOfSpec : ChangeSpec := { name := "fnExactShapeOf", fn := fun _ => fun
  | [d1, d2, d3] => { results := [.lit (.bool true)], args := [d1, d2, d3] }
  | _ => none }
def fnExactShapeOfRow : OpenClaim := { program := "ytnfpidnnmgedfaa", sum := "dade5ee4d33811768a94f5b122d178fa44b4133d3390ec35adc5b71bfd4f6507", func := "loop.example/g01297/laws.FnExactShapeOf", spec := "fnExactShapeOf", plainKeys := false, apart := false }
def FnExactShapeOfSaid : Prop := fnExactShapeOfRow.holds Try.pinned (OpenSpec.ofChange fnExactShapeOfSpec)

/-- ITS FALSE NEIGHBOUR: 'it returns false'. Refute it at one input. -/
def fnExactShapeOfWrong : ChangeSpec := { name := "fnExactShapeOf", fn := fun _ => fun
  | [d1, d2, d3] => { results := [.lit (.bool false)], args := [d1, d2, d3] }
  | _ => none }
def FnExactShapeOfWrongFalsely : Prop := fnExactShapeOfRow.holds Try.pinned (OpenSpec.ofChange fnExactShapeOfWrong)

/-- 'laws.FnExactClassNumber': WHATEVER THE INPUT: true; the input reads as it did. -/
def fnExactClassNumberSpec : ChangeSpec := { name := "fnExactClassNumber", fn := fun _ => fun
  | [d] => { results := [.lit (.bool true)], args := [d] }
  | _ => none }
def fnExactClassNumberRow : OpenClaim := { program := "ytnfpidnnmgedfaa", sum := "dade5ee4d33811768a94f5b122d178fa44b4133d3390ec35adc5b71bfd4f6507", func := "loop.example/g01297/laws.FnExactClassNumber", spec := "fnExactClassNumber", plainKeys := false, apart := false }
def FnExactClassNumberSaid : Prop := fnExactClassNumberRow.holds Try.pinned (OpenSpec.ofChange fnExactClassNumberSpec)

/-- ITS FALSE NEIGHBOUR: 'it returns false'. Refute it at one input. -/
def fnExactClassNumberWrong : ChangeSpec := { name := "fnExactClassNumber", fn := fun _ => fun
  | [d] => { results := [.lit (.bool false)], args := [d] }
  | _ => none }
def FnExactClassNumberWrongFalsely : Prop := fnExactClassNumberRow.holds Try.pinned (OpenSpec.ofChange fnExactClassNumberWrong)

/-- 'laws.FnExactCycleOfForm': WHATEVER THE INPUT: true; the input reads as it did. -/
def fnExactCycleOfFormSpec : ChangeSpec := { name := "fnExactCycleOfForm", fn := fun _ => fun
  | [d] => { results := [.lit (.bool true)], args := [d] }
  | _ => none }
def fnExactCycleOfFormRow : OpenClaim := { program := "ytnfpidnnmgedfaa", sum := "dade5ee4d33811768a94f5b122d178fa44b4133d3390ec35adc5b71bfd4f6507", func := "loop.example/g01297/laws.FnExactCycleOfForm", spec := "fnExactCycleOfForm", plainKeys := false, apart := false }
def FnExactCycleOfFormSaid : Prop := fnExactCycleOfFormRow.holds Try.pinned (OpenSpec.ofChange fnExactCycleOfFormSpec)

/-- ITS FALSE NEIGHBOUR: 'it returns false'. Refute it at one input. -/
def fnExactCycleOfFormWrong : ChangeSpec := { name := "fnExactCycleOfForm", fn := fun _ => fun
  | [d] => { results := [.lit (.bool false)], args := [d] }
  | _ => none }
def FnExactCycleOfFormWrongFalsely : Prop := fnExactCycleOfFormRow.holds Try.pinned (OpenSpec.ofChange fnExactCycleOfFormWrong)

/-- 'laws.FnExactBorderNumber': WHATEVER THE INPUT: true; the input reads as it did. -/
def fnExactBorderNumberSpec : ChangeSpec := { name := "fnExactBorderNumber", fn := fun _ => fun
  | [d] => { results := [.lit (.bool true)], args := [d] }
  | _ => none }
def fnExactBorderNumberRow : OpenClaim := { program := "ytnfpidnnmgedfaa", sum := "dade5ee4d33811768a94f5b122d178fa44b4133d3390ec35adc5b71bfd4f6507", func := "loop.example/g01297/laws.FnExactBorderNumber", spec := "fnExactBorderNumber", unfollowed := true, recurses := true, plainKeys := false, apart := false }
def FnExactBorderNumberSaid : Prop := fnExactBorderNumberRow.holds Try.pinned (OpenSpec.ofChange fnExactBorderNumberSpec)

/-- ITS FALSE NEIGHBOUR: 'it returns false'. Refute it at one input. -/
def fnExactBorderNumberWrong : ChangeSpec := { name := "fnExactBorderNumber", fn := fun _ => fun
  | [d] => { results := [.lit (.bool false)], args := [d] }
  | _ => none }
def FnExactBorderNumberWrongFalsely : Prop := fnExactBorderNumberRow.holds Try.pinned (OpenSpec.ofChange fnExactBorderNumberWrong)

/-- 'laws.FnExactWhereInPolygon': WHATEVER THE INPUT: true; the input reads as it did. -/
def fnExactWhereInPolygonSpec : ChangeSpec := { name := "fnExactWhereInPolygon", fn := fun _ => fun
  | [d1, d2] => { results := [.lit (.bool true)], args := [d1, d2] }
  | _ => none }
def fnExactWhereInPolygonRow : OpenClaim := { program := "ytnfpidnnmgedfaa", sum := "dade5ee4d33811768a94f5b122d178fa44b4133d3390ec35adc5b71bfd4f6507", func := "loop.example/g01297/laws.FnExactWhereInPolygon", spec := "fnExactWhereInPolygon", unfollowed := true, recurses := true, plainKeys := false, apart := false }
def FnExactWhereInPolygonSaid : Prop := fnExactWhereInPolygonRow.holds Try.pinned (OpenSpec.ofChange fnExactWhereInPolygonSpec)

/-- ITS FALSE NEIGHBOUR: 'it returns false'. Refute it at one input. -/
def fnExactWhereInPolygonWrong : ChangeSpec := { name := "fnExactWhereInPolygon", fn := fun _ => fun
  | [d1, d2] => { results := [.lit (.bool false)], args := [d1, d2] }
  | _ => none }
def FnExactWhereInPolygonWrongFalsely : Prop := fnExactWhereInPolygonRow.holds Try.pinned (OpenSpec.ofChange fnExactWhereInPolygonWrong)

/-- 'laws.FnExactInnerPoints': WHATEVER THE INPUT: true; the input reads as it did. -/
def fnExactInnerPointsSpec : ChangeSpec := { name := "fnExactInnerPoints", fn := fun _ => fun
  | [d] => { results := [.lit (.bool true)], args := [d] }
  | _ => none }
def fnExactInnerPointsRow : OpenClaim := { program := "ytnfpidnnmgedfaa", sum := "dade5ee4d33811768a94f5b122d178fa44b4133d3390ec35adc5b71bfd4f6507", func := "loop.example/g01297/laws.FnExactInnerPoints", spec := "fnExactInnerPoints", plainKeys := false, apart := false }
def FnExactInnerPointsSaid : Prop := fnExactInnerPointsRow.holds Try.pinned (OpenSpec.ofChange fnExactInnerPointsSpec)

/-- ITS FALSE NEIGHBOUR: 'it returns false'. Refute it at one input. -/
def fnExactInnerPointsWrong : ChangeSpec := { name := "fnExactInnerPoints", fn := fun _ => fun
  | [d] => { results := [.lit (.bool false)], args := [d] }
  | _ => none }
def FnExactInnerPointsWrongFalsely : Prop := fnExactInnerPointsRow.holds Try.pinned (OpenSpec.ofChange fnExactInnerPointsWrong)

/-- 'laws.FnExactInnerNumber': WHATEVER THE INPUT: true; the input reads as it did. -/
def fnExactInnerNumberSpec : ChangeSpec := { name := "fnExactInnerNumber", fn := fun _ => fun
  | [d] => { results := [.lit (.bool true)], args := [d] }
  | _ => none }
def fnExactInnerNumberRow : OpenClaim := { program := "ytnfpidnnmgedfaa", sum := "dade5ee4d33811768a94f5b122d178fa44b4133d3390ec35adc5b71bfd4f6507", func := "loop.example/g01297/laws.FnExactInnerNumber", spec := "fnExactInnerNumber", unfollowed := true, recurses := true, plainKeys := false, apart := false }
def FnExactInnerNumberSaid : Prop := fnExactInnerNumberRow.holds Try.pinned (OpenSpec.ofChange fnExactInnerNumberSpec)

/-- ITS FALSE NEIGHBOUR: 'it returns false'. Refute it at one input. -/
def fnExactInnerNumberWrong : ChangeSpec := { name := "fnExactInnerNumber", fn := fun _ => fun
  | [d] => { results := [.lit (.bool false)], args := [d] }
  | _ => none }
def FnExactInnerNumberWrongFalsely : Prop := fnExactInnerNumberRow.holds Try.pinned (OpenSpec.ofChange fnExactInnerNumberWrong)

/-- 'laws.FnExactCountOfMultiple': WHATEVER THE INPUT: true; the input reads as it did. -/
def fnExactCountOfMultipleSpec : ChangeSpec := { name := "fnExactCountOfMultiple", fn := fun _ => fun
  | [d1, d2] => { results := [.lit (.bool true)], args := [d1, d2] }
  | _ => none }
def fnExactCountOfMultipleRow : OpenClaim := { program := "ytnfpidnnmgedfaa", sum := "dade5ee4d33811768a94f5b122d178fa44b4133d3390ec35adc5b71bfd4f6507", func := "loop.example/g01297/laws.FnExactCountOfMultiple", spec := "fnExactCountOfMultiple", unfollowed := true, recurses := true, plainKeys := false, apart := false }
def FnExactCountOfMultipleSaid : Prop := fnExactCountOfMultipleRow.holds Try.pinned (OpenSpec.ofChange fnExactCountOfMultipleSpec)

/-- ITS FALSE NEIGHBOUR: 'it returns false'. Refute it at one input. -/
def fnExactCountOfMultipleWrong : ChangeSpec := { name := "fnExactCountOfMultiple", fn := fun _ => fun
  | [d1, d2] => { results := [.lit (.bool false)], args := [d1, d2] }
  | _ => none }
def FnExactCountOfMultipleWrongFalsely : Prop := fnExactCountOfMultipleRow.holds Try.pinned (OpenSpec.ofChange fnExactCountOfMultipleWrong)

/-- 'laws.FnExactWidthFor': WHATEVER THE INPUT: true; the input reads as it did. -/
def fnExactWidthForSpec : ChangeSpec := { name := "fnExactWidthFor", fn := fun _ => fun
  | [d1, d2] => { results := [.lit (.bool true)], args := [d1, d2] }
  | _ => none }
def fnExactWidthForRow : OpenClaim := { program := "ytnfpidnnmgedfaa", sum := "dade5ee4d33811768a94f5b122d178fa44b4133d3390ec35adc5b71bfd4f6507", func := "loop.example/g01297/laws.FnExactWidthFor", spec := "fnExactWidthFor", unfollowed := true, recurses := true, plainKeys := false, apart := false }
def FnExactWidthForSaid : Prop := fnExactWidthForRow.holds Try.pinned (OpenSpec.ofChange fnExactWidthForSpec)

/-- ITS FALSE NEIGHBOUR: 'it returns false'. Refute it at one input. -/
def fnExactWidthForWrong : ChangeSpec := { name := "fnExactWidthFor", fn := fun _ => fun
  | [d1, d2] => { results := [.lit (.bool false)], args := [d1, d2] }
  | _ => none }
def FnExactWidthForWrongFalsely : Prop := fnExactWidthForRow.holds Try.pinned (OpenSpec.ofChange fnExactWidthForWrong)

/- THE SECOND FORM. 'bulk': how many values and letters a reading holds, each counted each time it is reached (what is shared counts as often as it is met; a slice's spare places count too). A statement '..UptoSaid' is the law's where the arguments, and the package variables that the reading takes, are together of bulk at most 1048576: NARROWER than '..Said'. Prove '..Said' where nothing that the law and all that it calls make is longer than what came in: it says more and counts as full. Else prove '..UptoSaid'. A law counts once. -/
mutual
def uptoBulk {H : Type} : DataW H → Nat
  | .lit (.string bytes) => bytes.length + 1
  | .lit _ => 1
  | .nil => 1
  | .ptr d => uptoBulk d + 1
  | .slice elems spare => uptoBulkAll elems + uptoBulkAll spare + 1
  | .agg parts => uptoBulkAll parts + 1
  | .iface _ d => uptoBulk d + 1
  | .map entries => uptoBulkEntries entries + 1
  | .held _ => 1
def uptoBulkAll {H : Type} : List (DataW H) → Nat
  | [] => 0
  | d :: r => uptoBulk d + uptoBulkAll r
def uptoBulkEntries {H : Type} : List (Lit × DataW H) → Nat
  | [] => 0
  | x :: r => uptoBulkEntry x + uptoBulkEntries r
def uptoBulkEntry {H : Type} : Lit × DataW H → Nat
  | (.string bytes, d) => bytes.length + uptoBulk d + 1
  | (_, d) => uptoBulk d + 1
 end
def uptoSmall : (H : Type) → List (DataW H) → Bool := fun _ ds => decide (uptoBulkAll ds ≤ 1048576)
def OpenSpec.upto (s : _root_.Go.ChangeSpec) : _root_.Go.OpenSpec := { _root_.Go.OpenSpec.ofChange s with cond := some uptoSmall }

/-- 'laws.FnExactAreEquivalentForms', WHERE WHAT IT READS IS OF BULK AT MOST 1048576: true; the input reads as it did. -/
def fnExactAreEquivalentFormsUptoRow : OpenClaim := { program := "ytnfpidnnmgedfaa", sum := "dade5ee4d33811768a94f5b122d178fa44b4133d3390ec35adc5b71bfd4f6507", func := "loop.example/g01297/laws.FnExactAreEquivalentForms", spec := "fnExactAreEquivalentForms", plainKeys := false, apart := false, narrowed := true }
def FnExactAreEquivalentFormsUptoSaid : Prop := fnExactAreEquivalentFormsUptoRow.holds Try.pinned (OpenSpec.upto fnExactAreEquivalentFormsSpec)

/-- 'laws.FnExactReducePair', WHERE WHAT IT READS IS OF BULK AT MOST 1048576: true; the input reads as it did. -/
def fnExactReducePairUptoRow : OpenClaim := { program := "ytnfpidnnmgedfaa", sum := "dade5ee4d33811768a94f5b122d178fa44b4133d3390ec35adc5b71bfd4f6507", func := "loop.example/g01297/laws.FnExactReducePair", spec := "fnExactReducePair", unfollowed := true, recurses := true, plainKeys := false, apart := false, narrowed := true }
def FnExactReducePairUptoSaid : Prop := fnExactReducePairUptoRow.holds Try.pinned (OpenSpec.upto fnExactReducePairSpec)

/-- 'laws.FnExactAreaOfPolygon', WHERE WHAT IT READS IS OF BULK AT MOST 1048576: true; the input reads as it did. -/
def fnExactAreaOfPolygonUptoRow : OpenClaim := { program := "ytnfpidnnmgedfaa", sum := "dade5ee4d33811768a94f5b122d178fa44b4133d3390ec35adc5b71bfd4f6507", func := "loop.example/g01297/laws.FnExactAreaOfPolygon", spec := "fnExactAreaOfPolygon", unfollowed := true, recurses := true, plainKeys := false, apart := false, narrowed := true }
def FnExactAreaOfPolygonUptoSaid : Prop := fnExactAreaOfPolygonUptoRow.holds Try.pinned (OpenSpec.upto fnExactAreaOfPolygonSpec)

/-- 'laws.FnExactShapeOf', WHERE WHAT IT READS IS OF BULK AT MOST 1048576: true; the input reads as it did. -/
def fnExactShapeOfUptoRow : OpenClaim := { program := "ytnfpidnnmgedfaa", sum := "dade5ee4d33811768a94f5b122d178fa44b4133d3390ec35adc5b71bfd4f6507", func := "loop.example/g01297/laws.FnExactShapeOf", spec := "fnExactShapeOf", plainKeys := false, apart := false, narrowed := true }
def FnExactShapeOfUptoSaid : Prop := fnExactShapeOfUptoRow.holds Try.pinned (OpenSpec.upto fnExactShapeOfSpec)

/-- 'laws.FnExactClassNumber', WHERE WHAT IT READS IS OF BULK AT MOST 1048576: true; the input reads as it did. -/
def fnExactClassNumberUptoRow : OpenClaim := { program := "ytnfpidnnmgedfaa", sum := "dade5ee4d33811768a94f5b122d178fa44b4133d3390ec35adc5b71bfd4f6507", func := "loop.example/g01297/laws.FnExactClassNumber", spec := "fnExactClassNumber", plainKeys := false, apart := false, narrowed := true }
def FnExactClassNumberUptoSaid : Prop := fnExactClassNumberUptoRow.holds Try.pinned (OpenSpec.upto fnExactClassNumberSpec)

/-- 'laws.FnExactCycleOfForm', WHERE WHAT IT READS IS OF BULK AT MOST 1048576: true; the input reads as it did. -/
def fnExactCycleOfFormUptoRow : OpenClaim := { program := "ytnfpidnnmgedfaa", sum := "dade5ee4d33811768a94f5b122d178fa44b4133d3390ec35adc5b71bfd4f6507", func := "loop.example/g01297/laws.FnExactCycleOfForm", spec := "fnExactCycleOfForm", plainKeys := false, apart := false, narrowed := true }
def FnExactCycleOfFormUptoSaid : Prop := fnExactCycleOfFormUptoRow.holds Try.pinned (OpenSpec.upto fnExactCycleOfFormSpec)

/-- 'laws.FnExactBorderNumber', WHERE WHAT IT READS IS OF BULK AT MOST 1048576: true; the input reads as it did. -/
def fnExactBorderNumberUptoRow : OpenClaim := { program := "ytnfpidnnmgedfaa", sum := "dade5ee4d33811768a94f5b122d178fa44b4133d3390ec35adc5b71bfd4f6507", func := "loop.example/g01297/laws.FnExactBorderNumber", spec := "fnExactBorderNumber", unfollowed := true, recurses := true, plainKeys := false, apart := false, narrowed := true }
def FnExactBorderNumberUptoSaid : Prop := fnExactBorderNumberUptoRow.holds Try.pinned (OpenSpec.upto fnExactBorderNumberSpec)

/-- 'laws.FnExactWhereInPolygon', WHERE WHAT IT READS IS OF BULK AT MOST 1048576: true; the input reads as it did. -/
def fnExactWhereInPolygonUptoRow : OpenClaim := { program := "ytnfpidnnmgedfaa", sum := "dade5ee4d33811768a94f5b122d178fa44b4133d3390ec35adc5b71bfd4f6507", func := "loop.example/g01297/laws.FnExactWhereInPolygon", spec := "fnExactWhereInPolygon", unfollowed := true, recurses := true, plainKeys := false, apart := false, narrowed := true }
def FnExactWhereInPolygonUptoSaid : Prop := fnExactWhereInPolygonUptoRow.holds Try.pinned (OpenSpec.upto fnExactWhereInPolygonSpec)

/-- 'laws.FnExactInnerPoints', WHERE WHAT IT READS IS OF BULK AT MOST 1048576: true; the input reads as it did. -/
def fnExactInnerPointsUptoRow : OpenClaim := { program := "ytnfpidnnmgedfaa", sum := "dade5ee4d33811768a94f5b122d178fa44b4133d3390ec35adc5b71bfd4f6507", func := "loop.example/g01297/laws.FnExactInnerPoints", spec := "fnExactInnerPoints", plainKeys := false, apart := false, narrowed := true }
def FnExactInnerPointsUptoSaid : Prop := fnExactInnerPointsUptoRow.holds Try.pinned (OpenSpec.upto fnExactInnerPointsSpec)

/-- 'laws.FnExactInnerNumber', WHERE WHAT IT READS IS OF BULK AT MOST 1048576: true; the input reads as it did. -/
def fnExactInnerNumberUptoRow : OpenClaim := { program := "ytnfpidnnmgedfaa", sum := "dade5ee4d33811768a94f5b122d178fa44b4133d3390ec35adc5b71bfd4f6507", func := "loop.example/g01297/laws.FnExactInnerNumber", spec := "fnExactInnerNumber", unfollowed := true, recurses := true, plainKeys := false, apart := false, narrowed := true }
def FnExactInnerNumberUptoSaid : Prop := fnExactInnerNumberUptoRow.holds Try.pinned (OpenSpec.upto fnExactInnerNumberSpec)

/-- 'laws.FnExactCountOfMultiple', WHERE WHAT IT READS IS OF BULK AT MOST 1048576: true; the input reads as it did. -/
def fnExactCountOfMultipleUptoRow : OpenClaim := { program := "ytnfpidnnmgedfaa", sum := "dade5ee4d33811768a94f5b122d178fa44b4133d3390ec35adc5b71bfd4f6507", func := "loop.example/g01297/laws.FnExactCountOfMultiple", spec := "fnExactCountOfMultiple", unfollowed := true, recurses := true, plainKeys := false, apart := false, narrowed := true }
def FnExactCountOfMultipleUptoSaid : Prop := fnExactCountOfMultipleUptoRow.holds Try.pinned (OpenSpec.upto fnExactCountOfMultipleSpec)

/-- 'laws.FnExactWidthFor', WHERE WHAT IT READS IS OF BULK AT MOST 1048576: true; the input reads as it did. -/
def fnExactWidthForUptoRow : OpenClaim := { program := "ytnfpidnnmgedfaa", sum := "dade5ee4d33811768a94f5b122d178fa44b4133d3390ec35adc5b71bfd4f6507", func := "loop.example/g01297/laws.FnExactWidthFor", spec := "fnExactWidthFor", unfollowed := true, recurses := true, plainKeys := false, apart := false, narrowed := true }
def FnExactWidthForUptoSaid : Prop := fnExactWidthForUptoRow.holds Try.pinned (OpenSpec.upto fnExactWidthForSpec)

end Rows
end Go.Proofs.Ytnfpidnnmgedfaa
