/-
  No cell of these rows narrows 'for every input' (looked for: loops, veiled, ifaces, maps, wideKeys, modest, calm, conditions, laid).
  DERIVED. THE GIVEN ROWS OF THIS SEAT. 12 by the template 'for every input the law returns true; each argument reads behind the call as it read before'; 0 by the template 'total and deterministic' (their statements: YtjekmhinmcniaaaTotals.lean).
  GIVEN WITH THE SEED: the statements are not yours to turn. If you find one false, say at which input.
  Laid BY PROGRAM, IN A SANDBOX (cutbox-rows.mjs): the forced cells as the released guide's own fill.sh prints them over the translation dccacb1fa4711889… (all of the seat's roots in one cut). By AI agents, Wed Nov 11 2026. No macro, syntax, notation, axiom, sorry.
-/
import Derived.Test.YtjekmhinmcniaaaChecked
import GoSem.Claim
import GoSem.ClaimJoined
import GoSem.ClaimMapViews
import Derived.JoinedTies
import Derived.KernelRfl
namespace Go.Proofs.Ytjekmhinmcniaaa
/- THE CELL 'sum', in the pinned program and in every row, IS THE sha256 OF THE DUMP (.gsa) THAT YtjekmhinmcniaaaProg.lean LOADS. Nothing in Lean hashes anything: it is a label: what it is worth is what the hold of that sum in a sandbox is worth. -/
noncomputable def Try.pinned : Pinned := { name := "ytjekmhinmcniaaa", sum := "dccacb1fa4711889f3db9decd800db8082761d377605055e7a45938c6d20eab1", checked := Try.checked }
namespace Rows
def none {H : Type} : Left H := { results := [], args := [] }

/-- 'laws.FnExactAreEqualTriangles': WHATEVER THE INPUT: true; the input reads as it did. -/
def fnExactAreEqualTrianglesSpec : ChangeSpec := { name := "fnExactAreEqualTriangles", fn := fun _ => fun
  | [d1, d2] => { results := [.lit (.bool true)], args := [d1, d2] }
  | _ => none }
def fnExactAreEqualTrianglesRow : OpenClaim := { program := "ytjekmhinmcniaaa", sum := "dccacb1fa4711889f3db9decd800db8082761d377605055e7a45938c6d20eab1", func := "loop.example/g01297/laws.FnExactAreEqualTriangles", spec := "fnExactAreEqualTriangles", apart := false }
def FnExactAreEqualTrianglesSaid : Prop := fnExactAreEqualTrianglesRow.holds Try.pinned (OpenSpec.ofChange fnExactAreEqualTrianglesSpec)

/-- ITS FALSE NEIGHBOUR: 'it returns false'. Refute it at one input. -/
def fnExactAreEqualTrianglesWrong : ChangeSpec := { name := "fnExactAreEqualTriangles", fn := fun _ => fun
  | [d1, d2] => { results := [.lit (.bool false)], args := [d1, d2] }
  | _ => none }
def FnExactAreEqualTrianglesWrongFalsely : Prop := fnExactAreEqualTrianglesRow.holds Try.pinned (OpenSpec.ofChange fnExactAreEqualTrianglesWrong)

/-- 'laws.FnPairs': WHATEVER THE INPUT: true; the input reads as it did. -/
def fnPairsSpec : ChangeSpec := { name := "fnPairs", fn := fun _ => fun
  | [d] => { results := [.lit (.bool true)], args := [d] }
  | _ => none }
def fnPairsRow : OpenClaim := { program := "ytjekmhinmcniaaa", sum := "dccacb1fa4711889f3db9decd800db8082761d377605055e7a45938c6d20eab1", func := "loop.example/g01297/laws.FnPairs", spec := "fnPairs", unfollowed := true, recurses := true, apart := false }
def FnPairsSaid : Prop := fnPairsRow.holds Try.pinned (OpenSpec.ofChange fnPairsSpec)

/-- ITS FALSE NEIGHBOUR: 'it returns false'. Refute it at one input. -/
def fnPairsWrong : ChangeSpec := { name := "fnPairs", fn := fun _ => fun
  | [d] => { results := [.lit (.bool false)], args := [d] }
  | _ => none }
def FnPairsWrongFalsely : Prop := fnPairsRow.holds Try.pinned (OpenSpec.ofChange fnPairsWrong)

/-- 'laws.FnExactNormalShape': WHATEVER THE INPUT: true; the input reads as it did. -/
def fnExactNormalShapeSpec : ChangeSpec := { name := "fnExactNormalShape", fn := fun _ => fun
  | [d] => { results := [.lit (.bool true)], args := [d] }
  | _ => none }
def fnExactNormalShapeRow : OpenClaim := { program := "ytjekmhinmcniaaa", sum := "dccacb1fa4711889f3db9decd800db8082761d377605055e7a45938c6d20eab1", func := "loop.example/g01297/laws.FnExactNormalShape", spec := "fnExactNormalShape", apart := false }
def FnExactNormalShapeSaid : Prop := fnExactNormalShapeRow.holds Try.pinned (OpenSpec.ofChange fnExactNormalShapeSpec)

/-- ITS FALSE NEIGHBOUR: 'it returns false'. Refute it at one input. -/
def fnExactNormalShapeWrong : ChangeSpec := { name := "fnExactNormalShape", fn := fun _ => fun
  | [d] => { results := [.lit (.bool false)], args := [d] }
  | _ => none }
def FnExactNormalShapeWrongFalsely : Prop := fnExactNormalShapeRow.holds Try.pinned (OpenSpec.ofChange fnExactNormalShapeWrong)

/-- 'laws.FnExactOrderOfMultiples': WHATEVER THE INPUT: true; the input reads as it did. -/
def fnExactOrderOfMultiplesSpec : ChangeSpec := { name := "fnExactOrderOfMultiples", fn := fun _ => fun
  | [d1, d2, d3] => { results := [.lit (.bool true)], args := [d1, d2, d3] }
  | _ => none }
def fnExactOrderOfMultiplesRow : OpenClaim := { program := "ytjekmhinmcniaaa", sum := "dccacb1fa4711889f3db9decd800db8082761d377605055e7a45938c6d20eab1", func := "loop.example/g01297/laws.FnExactOrderOfMultiples", spec := "fnExactOrderOfMultiples", unfollowed := true, recurses := true, apart := false }
def FnExactOrderOfMultiplesSaid : Prop := fnExactOrderOfMultiplesRow.holds Try.pinned (OpenSpec.ofChange fnExactOrderOfMultiplesSpec)

/-- ITS FALSE NEIGHBOUR: 'it returns false'. Refute it at one input. -/
def fnExactOrderOfMultiplesWrong : ChangeSpec := { name := "fnExactOrderOfMultiples", fn := fun _ => fun
  | [d1, d2, d3] => { results := [.lit (.bool false)], args := [d1, d2, d3] }
  | _ => none }
def FnExactOrderOfMultiplesWrongFalsely : Prop := fnExactOrderOfMultiplesRow.holds Try.pinned (OpenSpec.ofChange fnExactOrderOfMultiplesWrong)

/-- 'laws.FnExactOrderPolygon': WHATEVER THE INPUT: true; the input reads as it did. -/
def fnExactOrderPolygonSpec : ChangeSpec := { name := "fnExactOrderPolygon", fn := fun _ => fun
  | [d] => { results := [.lit (.bool true)], args := [d] }
  | _ => none }
def fnExactOrderPolygonRow : OpenClaim := { program := "ytjekmhinmcniaaa", sum := "dccacb1fa4711889f3db9decd800db8082761d377605055e7a45938c6d20eab1", func := "loop.example/g01297/laws.FnExactOrderPolygon", spec := "fnExactOrderPolygon", unfollowed := true, recurses := true, apart := false }
def FnExactOrderPolygonSaid : Prop := fnExactOrderPolygonRow.holds Try.pinned (OpenSpec.ofChange fnExactOrderPolygonSpec)

/-- ITS FALSE NEIGHBOUR: 'it returns false'. Refute it at one input. -/
def fnExactOrderPolygonWrong : ChangeSpec := { name := "fnExactOrderPolygon", fn := fun _ => fun
  | [d] => { results := [.lit (.bool false)], args := [d] }
  | _ => none }
def FnExactOrderPolygonWrongFalsely : Prop := fnExactOrderPolygonRow.holds Try.pinned (OpenSpec.ofChange fnExactOrderPolygonWrong)

/-- 'laws.FnExactDualPolygon': WHATEVER THE INPUT: true; the input reads as it did. -/
def fnExactDualPolygonSpec : ChangeSpec := { name := "fnExactDualPolygon", fn := fun _ => fun
  | [d] => { results := [.lit (.bool true)], args := [d] }
  | _ => none }
def fnExactDualPolygonRow : OpenClaim := { program := "ytjekmhinmcniaaa", sum := "dccacb1fa4711889f3db9decd800db8082761d377605055e7a45938c6d20eab1", func := "loop.example/g01297/laws.FnExactDualPolygon", spec := "fnExactDualPolygon", unfollowed := true, recurses := true, apart := false }
def FnExactDualPolygonSaid : Prop := fnExactDualPolygonRow.holds Try.pinned (OpenSpec.ofChange fnExactDualPolygonSpec)

/-- ITS FALSE NEIGHBOUR: 'it returns false'. Refute it at one input. -/
def fnExactDualPolygonWrong : ChangeSpec := { name := "fnExactDualPolygon", fn := fun _ => fun
  | [d] => { results := [.lit (.bool false)], args := [d] }
  | _ => none }
def FnExactDualPolygonWrongFalsely : Prop := fnExactDualPolygonRow.holds Try.pinned (OpenSpec.ofChange fnExactDualPolygonWrong)

/-- 'laws.FnBests': WHATEVER THE INPUT: true; the input reads as it did. -/
def fnBestsSpec : ChangeSpec := { name := "fnBests", fn := fun _ => fun
  | [d] => { results := [.lit (.bool true)], args := [d] }
  | _ => none }
def fnBestsRow : OpenClaim := { program := "ytjekmhinmcniaaa", sum := "dccacb1fa4711889f3db9decd800db8082761d377605055e7a45938c6d20eab1", func := "loop.example/g01297/laws.FnBests", spec := "fnBests", unfollowed := true, recurses := true, apart := false }
def FnBestsSaid : Prop := fnBestsRow.holds Try.pinned (OpenSpec.ofChange fnBestsSpec)

/-- ITS FALSE NEIGHBOUR: 'it returns false'. Refute it at one input. -/
def fnBestsWrong : ChangeSpec := { name := "fnBests", fn := fun _ => fun
  | [d] => { results := [.lit (.bool false)], args := [d] }
  | _ => none }
def FnBestsWrongFalsely : Prop := fnBestsRow.holds Try.pinned (OpenSpec.ofChange fnBestsWrong)

/-- 'laws.FnTriangles': WHATEVER THE INPUT: true; the input reads as it did. -/
def fnTrianglesSpec : ChangeSpec := { name := "fnTriangles", fn := fun _ => fun
  | [d] => { results := [.lit (.bool true)], args := [d] }
  | _ => none }
def fnTrianglesRow : OpenClaim := { program := "ytjekmhinmcniaaa", sum := "dccacb1fa4711889f3db9decd800db8082761d377605055e7a45938c6d20eab1", func := "loop.example/g01297/laws.FnTriangles", spec := "fnTriangles", unfollowed := true, recurses := true, apart := false }
def FnTrianglesSaid : Prop := fnTrianglesRow.holds Try.pinned (OpenSpec.ofChange fnTrianglesSpec)

/-- ITS FALSE NEIGHBOUR: 'it returns false'. Refute it at one input. -/
def fnTrianglesWrong : ChangeSpec := { name := "fnTriangles", fn := fun _ => fun
  | [d] => { results := [.lit (.bool false)], args := [d] }
  | _ => none }
def FnTrianglesWrongFalsely : Prop := fnTrianglesRow.holds Try.pinned (OpenSpec.ofChange fnTrianglesWrong)

/-- 'laws.FnExactNormalPolygon': WHATEVER THE INPUT: true; the input reads as it did. -/
def fnExactNormalPolygonSpec : ChangeSpec := { name := "fnExactNormalPolygon", fn := fun _ => fun
  | [d] => { results := [.lit (.bool true)], args := [d] }
  | _ => none }
def fnExactNormalPolygonRow : OpenClaim := { program := "ytjekmhinmcniaaa", sum := "dccacb1fa4711889f3db9decd800db8082761d377605055e7a45938c6d20eab1", func := "loop.example/g01297/laws.FnExactNormalPolygon", spec := "fnExactNormalPolygon", unfollowed := true, recurses := true, apart := false }
def FnExactNormalPolygonSaid : Prop := fnExactNormalPolygonRow.holds Try.pinned (OpenSpec.ofChange fnExactNormalPolygonSpec)

/-- ITS FALSE NEIGHBOUR: 'it returns false'. Refute it at one input. -/
def fnExactNormalPolygonWrong : ChangeSpec := { name := "fnExactNormalPolygon", fn := fun _ => fun
  | [d] => { results := [.lit (.bool false)], args := [d] }
  | _ => none }
def FnExactNormalPolygonWrongFalsely : Prop := fnExactNormalPolygonRow.holds Try.pinned (OpenSpec.ofChange fnExactNormalPolygonWrong)

/-- 'laws.FnExactAreLikePolygons': WHATEVER THE INPUT: true; the input reads as it did. -/
def fnExactAreLikePolygonsSpec : ChangeSpec := { name := "fnExactAreLikePolygons", fn := fun _ => fun
  | [d1, d2] => { results := [.lit (.bool true)], args := [d1, d2] }
  | _ => none }
def fnExactAreLikePolygonsRow : OpenClaim := { program := "ytjekmhinmcniaaa", sum := "dccacb1fa4711889f3db9decd800db8082761d377605055e7a45938c6d20eab1", func := "loop.example/g01297/laws.FnExactAreLikePolygons", spec := "fnExactAreLikePolygons", unfollowed := true, recurses := true, apart := false }
def FnExactAreLikePolygonsSaid : Prop := fnExactAreLikePolygonsRow.holds Try.pinned (OpenSpec.ofChange fnExactAreLikePolygonsSpec)

/-- ITS FALSE NEIGHBOUR: 'it returns false'. Refute it at one input. -/
def fnExactAreLikePolygonsWrong : ChangeSpec := { name := "fnExactAreLikePolygons", fn := fun _ => fun
  | [d1, d2] => { results := [.lit (.bool false)], args := [d1, d2] }
  | _ => none }
def FnExactAreLikePolygonsWrongFalsely : Prop := fnExactAreLikePolygonsRow.holds Try.pinned (OpenSpec.ofChange fnExactAreLikePolygonsWrong)

/-- 'laws.FnPointMaps': WHATEVER THE INPUT: true; the input reads as it did. -/
def fnPointMapsSpec : ChangeSpec := { name := "fnPointMaps", fn := fun _ => fun
  | [d] => { results := [.lit (.bool true)], args := [d] }
  | _ => none }
def fnPointMapsRow : OpenClaim := { program := "ytjekmhinmcniaaa", sum := "dccacb1fa4711889f3db9decd800db8082761d377605055e7a45938c6d20eab1", func := "loop.example/g01297/laws.FnPointMaps", spec := "fnPointMaps", unfollowed := true, recurses := true, apart := false }
def FnPointMapsSaid : Prop := fnPointMapsRow.holds Try.pinned (OpenSpec.ofChange fnPointMapsSpec)

/-- ITS FALSE NEIGHBOUR: 'it returns false'. Refute it at one input. -/
def fnPointMapsWrong : ChangeSpec := { name := "fnPointMaps", fn := fun _ => fun
  | [d] => { results := [.lit (.bool false)], args := [d] }
  | _ => none }
def FnPointMapsWrongFalsely : Prop := fnPointMapsRow.holds Try.pinned (OpenSpec.ofChange fnPointMapsWrong)

/-- 'laws.FnSails': WHATEVER THE INPUT: true; the input reads as it did. -/
def fnSailsSpec : ChangeSpec := { name := "fnSails", fn := fun _ => fun
  | [d] => { results := [.lit (.bool true)], args := [d] }
  | _ => none }
def fnSailsRow : OpenClaim := { program := "ytjekmhinmcniaaa", sum := "dccacb1fa4711889f3db9decd800db8082761d377605055e7a45938c6d20eab1", func := "loop.example/g01297/laws.FnSails", spec := "fnSails", unfollowed := true, recurses := true, apart := false }
def FnSailsSaid : Prop := fnSailsRow.holds Try.pinned (OpenSpec.ofChange fnSailsSpec)

/-- ITS FALSE NEIGHBOUR: 'it returns false'. Refute it at one input. -/
def fnSailsWrong : ChangeSpec := { name := "fnSails", fn := fun _ => fun
  | [d] => { results := [.lit (.bool false)], args := [d] }
  | _ => none }
def FnSailsWrongFalsely : Prop := fnSailsRow.holds Try.pinned (OpenSpec.ofChange fnSailsWrong)

/- THE SECOND FORM. 'bulk': how many values and letters a reading holds, each counted each time it is reached (what is shared counts as often as it is met; a slice's spare places count too). A statement '..UptoSaid' is the law's where the arguments, and the package variables that the reading takes, are together of bulk at most 1048576: NARROWER than '..Said'. Prove '..Said' where nothing that the law and all that it calls make is longer than what came in: it says more and counts as full. Else prove '..UptoSaid'. A law counts once. -/
mutual
def uptoBulk {H : Type} : DataW H → Nat
  | .lit (.string bytes) => bytes.length + 1
  | .lit _ => 1
  | .nil => 1
  | .ptr d => uptoBulk d + 1
  | .slice elems spare => uptoBulkAll elems + uptoBulkAll spare + 1
  | .agg parts => uptoBulkAll parts + 1
  | .iface _ d => uptoBulk d + 1
  | .map entries => uptoBulkEntries entries + 1
  | .held _ => 1
def uptoBulkAll {H : Type} : List (DataW H) → Nat
  | [] => 0
  | d :: r => uptoBulk d + uptoBulkAll r
def uptoBulkEntries {H : Type} : List (Lit × DataW H) → Nat
  | [] => 0
  | x :: r => uptoBulkEntry x + uptoBulkEntries r
def uptoBulkEntry {H : Type} : Lit × DataW H → Nat
  | (.string bytes, d) => bytes.length + uptoBulk d + 1
  | (_, d) => uptoBulk d + 1
 end
def uptoSmall : (H : Type) → List (DataW H) → Bool := fun _ ds => decide (uptoBulkAll ds ≤ 1048576)
def OpenSpec.upto (s : _root_.Go.ChangeSpec) : _root_.Go.OpenSpec := { _root_.Go.OpenSpec.ofChange s with cond := some uptoSmall }

/-- 'laws.FnExactAreEqualTriangles', WHERE WHAT IT READS IS OF BULK AT MOST 1048576: true; the input reads as it did. -/
def fnExactAreEqualTrianglesUptoRow : OpenClaim := { program := "ytjekmhinmcniaaa", sum := "dccacb1fa4711889f3db9decd800db8082761d377605055e7a45938c6d20eab1", func := "loop.example/g01297/laws.FnExactAreEqualTriangles", spec := "fnExactAreEqualTriangles", apart := false, narrowed := true }
def FnExactAreEqualTrianglesUptoSaid : Prop := fnExactAreEqualTrianglesUptoRow.holds Try.pinned (OpenSpec.upto fnExactAreEqualTrianglesSpec)

/-- 'laws.FnPairs', WHERE WHAT IT READS IS OF BULK AT MOST 1048576: true; the input reads as it did. -/
def fnPairsUptoRow : OpenClaim := { program := "ytjekmhinmcniaaa", sum := "dccacb1fa4711889f3db9decd800db8082761d377605055e7a45938c6d20eab1", func := "loop.example/g01297/laws.FnPairs", spec := "fnPairs", unfollowed := true, recurses := true, apart := false, narrowed := true }
def FnPairsUptoSaid : Prop := fnPairsUptoRow.holds Try.pinned (OpenSpec.upto fnPairsSpec)

/-- 'laws.FnExactNormalShape', WHERE WHAT IT READS IS OF BULK AT MOST 1048576: true; the input reads as it did. -/
def fnExactNormalShapeUptoRow : OpenClaim := { program := "ytjekmhinmcniaaa", sum := "dccacb1fa4711889f3db9decd800db8082761d377605055e7a45938c6d20eab1", func := "loop.example/g01297/laws.FnExactNormalShape", spec := "fnExactNormalShape", apart := false, narrowed := true }
def FnExactNormalShapeUptoSaid : Prop := fnExactNormalShapeUptoRow.holds Try.pinned (OpenSpec.upto fnExactNormalShapeSpec)

/-- 'laws.FnExactOrderOfMultiples', WHERE WHAT IT READS IS OF BULK AT MOST 1048576: true; the input reads as it did. -/
def fnExactOrderOfMultiplesUptoRow : OpenClaim := { program := "ytjekmhinmcniaaa", sum := "dccacb1fa4711889f3db9decd800db8082761d377605055e7a45938c6d20eab1", func := "loop.example/g01297/laws.FnExactOrderOfMultiples", spec := "fnExactOrderOfMultiples", unfollowed := true, recurses := true, apart := false, narrowed := true }
def FnExactOrderOfMultiplesUptoSaid : Prop := fnExactOrderOfMultiplesUptoRow.holds Try.pinned (OpenSpec.upto fnExactOrderOfMultiplesSpec)

/-- 'laws.FnExactOrderPolygon', WHERE WHAT IT READS IS OF BULK AT MOST 1048576: true; the input reads as it did. -/
def fnExactOrderPolygonUptoRow : OpenClaim := { program := "ytjekmhinmcniaaa", sum := "dccacb1fa4711889f3db9decd800db8082761d377605055e7a45938c6d20eab1", func := "loop.example/g01297/laws.FnExactOrderPolygon", spec := "fnExactOrderPolygon", unfollowed := true, recurses := true, apart := false, narrowed := true }
def FnExactOrderPolygonUptoSaid : Prop := fnExactOrderPolygonUptoRow.holds Try.pinned (OpenSpec.upto fnExactOrderPolygonSpec)

/-- 'laws.FnExactDualPolygon', WHERE WHAT IT READS IS OF BULK AT MOST 1048576: true; the input reads as it did. -/
def fnExactDualPolygonUptoRow : OpenClaim := { program := "ytjekmhinmcniaaa", sum := "dccacb1fa4711889f3db9decd800db8082761d377605055e7a45938c6d20eab1", func := "loop.example/g01297/laws.FnExactDualPolygon", spec := "fnExactDualPolygon", unfollowed := true, recurses := true, apart := false, narrowed := true }
def FnExactDualPolygonUptoSaid : Prop := fnExactDualPolygonUptoRow.holds Try.pinned (OpenSpec.upto fnExactDualPolygonSpec)

/-- 'laws.FnBests', WHERE WHAT IT READS IS OF BULK AT MOST 1048576: true; the input reads as it did. -/
def fnBestsUptoRow : OpenClaim := { program := "ytjekmhinmcniaaa", sum := "dccacb1fa4711889f3db9decd800db8082761d377605055e7a45938c6d20eab1", func := "loop.example/g01297/laws.FnBests", spec := "fnBests", unfollowed := true, recurses := true, apart := false, narrowed := true }
def FnBestsUptoSaid : Prop := fnBestsUptoRow.holds Try.pinned (OpenSpec.upto fnBestsSpec)

/-- 'laws.FnTriangles', WHERE WHAT IT READS IS OF BULK AT MOST 1048576: true; the input reads as it did. -/
def fnTrianglesUptoRow : OpenClaim := { program := "ytjekmhinmcniaaa", sum := "dccacb1fa4711889f3db9decd800db8082761d377605055e7a45938c6d20eab1", func := "loop.example/g01297/laws.FnTriangles", spec := "fnTriangles", unfollowed := true, recurses := true, apart := false, narrowed := true }
def FnTrianglesUptoSaid : Prop := fnTrianglesUptoRow.holds Try.pinned (OpenSpec.upto fnTrianglesSpec)

/-- 'laws.FnExactNormalPolygon', WHERE WHAT IT READS IS OF BULK AT MOST 1048576: true; the input reads as it did. -/
def fnExactNormalPolygonUptoRow : OpenClaim := { program := "ytjekmhinmcniaaa", sum := "dccacb1fa4711889f3db9decd800db8082761d377605055e7a45938c6d20eab1", func := "loop.example/g01297/laws.FnExactNormalPolygon", spec := "fnExactNormalPolygon", unfollowed := true, recurses := true, apart := false, narrowed := true }
def FnExactNormalPolygonUptoSaid : Prop := fnExactNormalPolygonUptoRow.holds Try.pinned (OpenSpec.upto fnExactNormalPolygonSpec)

/-- 'laws.FnExactAreLikePolygons', WHERE WHAT IT READS IS OF BULK AT MOST 1048576: true; the input reads as it did. -/
def fnExactAreLikePolygonsUptoRow : OpenClaim := { program := "ytjekmhinmcniaaa", sum := "dccacb1fa4711889f3db9decd800db8082761d377605055e7a45938c6d20eab1", func := "loop.example/g01297/laws.FnExactAreLikePolygons", spec := "fnExactAreLikePolygons", unfollowed := true, recurses := true, apart := false, narrowed := true }
def FnExactAreLikePolygonsUptoSaid : Prop := fnExactAreLikePolygonsUptoRow.holds Try.pinned (OpenSpec.upto fnExactAreLikePolygonsSpec)

/-- 'laws.FnPointMaps', WHERE WHAT IT READS IS OF BULK AT MOST 1048576: true; the input reads as it did. -/
def fnPointMapsUptoRow : OpenClaim := { program := "ytjekmhinmcniaaa", sum := "dccacb1fa4711889f3db9decd800db8082761d377605055e7a45938c6d20eab1", func := "loop.example/g01297/laws.FnPointMaps", spec := "fnPointMaps", unfollowed := true, recurses := true, apart := false, narrowed := true }
def FnPointMapsUptoSaid : Prop := fnPointMapsUptoRow.holds Try.pinned (OpenSpec.upto fnPointMapsSpec)

/-- 'laws.FnSails', WHERE WHAT IT READS IS OF BULK AT MOST 1048576: true; the input reads as it did. -/
def fnSailsUptoRow : OpenClaim := { program := "ytjekmhinmcniaaa", sum := "dccacb1fa4711889f3db9decd800db8082761d377605055e7a45938c6d20eab1", func := "loop.example/g01297/laws.FnSails", spec := "fnSails", unfollowed := true, recurses := true, apart := false, narrowed := true }
def FnSailsUptoSaid : Prop := fnSailsUptoRow.holds Try.pinned (OpenSpec.upto fnSailsSpec)

end Rows
end Go.Proofs.Ytjekmhinmcniaaa
