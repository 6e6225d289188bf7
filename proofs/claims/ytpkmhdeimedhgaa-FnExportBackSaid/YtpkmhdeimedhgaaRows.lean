/-
  No cell of these rows narrows 'for every input' (looked for: loops, veiled, ifaces, maps, wideKeys, modest, calm, conditions, laid).
  DERIVED. THE GIVEN ROWS OF THIS SEAT. 6 by the template 'for every input the law returns true; each argument reads behind the call as it read before'; 0 by the template 'total and deterministic' (their statements: YtpkmhdeimedhgaaTotals.lean).
  GIVEN WITH THE SEED: the statements are not yours to turn. If you find one false, say at which input.
  Laid BY PROGRAM, IN A SANDBOX (cutbox-rows.mjs): the forced cells as the released guide's own fill.sh prints them over the translation 1b40cfb8e5f3a17a… (all of the seat's roots in one cut). By AI agents, Wed Nov 11 2026. No macro, syntax, notation, axiom, sorry.
-/
import Derived.Test.YtpkmhdeimedhgaaChecked
import GoSem.Claim
import GoSem.ClaimJoined
import GoSem.ClaimMapViews
import Derived.JoinedTies
import Derived.KernelRfl
namespace Go.Proofs.Ytpkmhdeimedhgaa
/- THE CELL 'sum', in the pinned program and in every row, IS THE sha256 OF THE DUMP (.gsa) THAT YtpkmhdeimedhgaaProg.lean LOADS. Nothing in Lean hashes anything: it is a label: what it is worth is what the hold of that sum in a sandbox is worth. -/
noncomputable def Try.pinned : Pinned := { name := "ytpkmhdeimedhgaa", sum := "1b40cfb8e5f3a17a93cfa78728b9af05a3236be7576227be15677a6c06de83d7", checked := Try.checked }
namespace Rows
def none {H : Type} : Left H := { results := [], args := [] }

/-- 'laws.FnExactSameShape': WHATEVER THE INPUT: true; the input reads as it did. -/
def fnExactSameShapeSpec : ChangeSpec := { name := "fnExactSameShape", fn := fun _ => fun
  | [d1, d2] => { results := [.lit (.bool true)], args := [d1, d2] }
  | _ => none }
def fnExactSameShapeRow : OpenClaim := { program := "ytpkmhdeimedhgaa", sum := "1b40cfb8e5f3a17a93cfa78728b9af05a3236be7576227be15677a6c06de83d7", func := "loop.example/g00663/laws.FnExactSameShape", spec := "fnExactSameShape", unfollowed := true, recurses := true, apart := false }
def FnExactSameShapeSaid : Prop := fnExactSameShapeRow.holds Try.pinned (OpenSpec.ofChange fnExactSameShapeSpec)

/-- ITS FALSE NEIGHBOUR: 'it returns false'. Refute it at one input. -/
def fnExactSameShapeWrong : ChangeSpec := { name := "fnExactSameShape", fn := fun _ => fun
  | [d1, d2] => { results := [.lit (.bool false)], args := [d1, d2] }
  | _ => none }
def FnExactSameShapeWrongFalsely : Prop := fnExactSameShapeRow.holds Try.pinned (OpenSpec.ofChange fnExactSameShapeWrong)

/-- 'laws.FnExactShapeScan': WHATEVER THE INPUT: true; the input reads as it did. -/
def fnExactShapeScanSpec : ChangeSpec := { name := "fnExactShapeScan", fn := fun _ => fun
  | [d1, d2] => { results := [.lit (.bool true)], args := [d1, d2] }
  | _ => none }
def fnExactShapeScanRow : OpenClaim := { program := "ytpkmhdeimedhgaa", sum := "1b40cfb8e5f3a17a93cfa78728b9af05a3236be7576227be15677a6c06de83d7", func := "loop.example/g00663/laws.FnExactShapeScan", spec := "fnExactShapeScan", unfollowed := true, recurses := true, apart := false }
def FnExactShapeScanSaid : Prop := fnExactShapeScanRow.holds Try.pinned (OpenSpec.ofChange fnExactShapeScanSpec)

/-- ITS FALSE NEIGHBOUR: 'it returns false'. Refute it at one input. -/
def fnExactShapeScanWrong : ChangeSpec := { name := "fnExactShapeScan", fn := fun _ => fun
  | [d1, d2] => { results := [.lit (.bool false)], args := [d1, d2] }
  | _ => none }
def FnExactShapeScanWrongFalsely : Prop := fnExactShapeScanRow.holds Try.pinned (OpenSpec.ofChange fnExactShapeScanWrong)

/-- 'laws.FnExactExportOf': WHATEVER THE INPUT: true; the input reads as it did. -/
def fnExactExportOfSpec : ChangeSpec := { name := "fnExactExportOf", fn := fun _ => fun
  | [d1, d2] => { results := [.lit (.bool true)], args := [d1, d2] }
  | _ => none }
def fnExactExportOfRow : OpenClaim := { program := "ytpkmhdeimedhgaa", sum := "1b40cfb8e5f3a17a93cfa78728b9af05a3236be7576227be15677a6c06de83d7", func := "loop.example/g00663/laws.FnExactExportOf", spec := "fnExactExportOf", apart := false }
def FnExactExportOfSaid : Prop := fnExactExportOfRow.holds Try.pinned (OpenSpec.ofChange fnExactExportOfSpec)

/-- ITS FALSE NEIGHBOUR: 'it returns false'. Refute it at one input. -/
def fnExactExportOfWrong : ChangeSpec := { name := "fnExactExportOf", fn := fun _ => fun
  | [d1, d2] => { results := [.lit (.bool false)], args := [d1, d2] }
  | _ => none }
def FnExactExportOfWrongFalsely : Prop := fnExactExportOfRow.holds Try.pinned (OpenSpec.ofChange fnExactExportOfWrong)

/-- 'laws.FnExactShapesOf': WHATEVER THE INPUT: true; the input reads as it did. -/
def fnExactShapesOfSpec : ChangeSpec := { name := "fnExactShapesOf", fn := fun _ => fun
  | [d] => { results := [.lit (.bool true)], args := [d] }
  | _ => none }
def fnExactShapesOfRow : OpenClaim := { program := "ytpkmhdeimedhgaa", sum := "1b40cfb8e5f3a17a93cfa78728b9af05a3236be7576227be15677a6c06de83d7", func := "loop.example/g00663/laws.FnExactShapesOf", spec := "fnExactShapesOf", unfollowed := true, recurses := true, apart := false }
def FnExactShapesOfSaid : Prop := fnExactShapesOfRow.holds Try.pinned (OpenSpec.ofChange fnExactShapesOfSpec)

/-- ITS FALSE NEIGHBOUR: 'it returns false'. Refute it at one input. -/
def fnExactShapesOfWrong : ChangeSpec := { name := "fnExactShapesOf", fn := fun _ => fun
  | [d] => { results := [.lit (.bool false)], args := [d] }
  | _ => none }
def FnExactShapesOfWrongFalsely : Prop := fnExactShapesOfRow.holds Try.pinned (OpenSpec.ofChange fnExactShapesOfWrong)

/-- 'laws.FnExactExportRead': WHATEVER THE INPUT: true; the input reads as it did. -/
def fnExactExportReadSpec : ChangeSpec := { name := "fnExactExportRead", fn := fun _ => fun
  | [d] => { results := [.lit (.bool true)], args := [d] }
  | _ => none }
def fnExactExportReadRow : OpenClaim := { program := "ytpkmhdeimedhgaa", sum := "1b40cfb8e5f3a17a93cfa78728b9af05a3236be7576227be15677a6c06de83d7", func := "loop.example/g00663/laws.FnExactExportRead", spec := "fnExactExportRead", apart := false }
def FnExactExportReadSaid : Prop := fnExactExportReadRow.holds Try.pinned (OpenSpec.ofChange fnExactExportReadSpec)

/-- ITS FALSE NEIGHBOUR: 'it returns false'. Refute it at one input. -/
def fnExactExportReadWrong : ChangeSpec := { name := "fnExactExportRead", fn := fun _ => fun
  | [d] => { results := [.lit (.bool false)], args := [d] }
  | _ => none }
def FnExactExportReadWrongFalsely : Prop := fnExactExportReadRow.holds Try.pinned (OpenSpec.ofChange fnExactExportReadWrong)

/-- 'laws.FnExportBack': WHATEVER THE INPUT: true; the input reads as it did. -/
def fnExportBackSpec : ChangeSpec := { name := "fnExportBack", fn := fun _ => fun
  | [d] => { results := [.lit (.bool true)], args := [d] }
  | _ => none }
def fnExportBackRow : OpenClaim := { program := "ytpkmhdeimedhgaa", sum := "1b40cfb8e5f3a17a93cfa78728b9af05a3236be7576227be15677a6c06de83d7", func := "loop.example/g00663/laws.FnExportBack", spec := "fnExportBack", apart := false }
def FnExportBackSaid : Prop := fnExportBackRow.holds Try.pinned (OpenSpec.ofChange fnExportBackSpec)

/-- ITS FALSE NEIGHBOUR: 'it returns false'. Refute it at one input. -/
def fnExportBackWrong : ChangeSpec := { name := "fnExportBack", fn := fun _ => fun
  | [d] => { results := [.lit (.bool false)], args := [d] }
  | _ => none }
def FnExportBackWrongFalsely : Prop := fnExportBackRow.holds Try.pinned (OpenSpec.ofChange fnExportBackWrong)

/- THE SECOND FORM. 'bulk': how many values and letters a reading holds, each counted each time it is reached (what is shared counts as often as it is met; a slice's spare places count too). A statement '..UptoSaid' is the law's where the arguments, and the package variables that the reading takes, are together of bulk at most 1048576: NARROWER than '..Said'. Prove '..Said' where nothing that the law and all that it calls make is longer than what came in: it says more and counts as full. Else prove '..UptoSaid'. A law counts once. -/
mutual
def uptoBulk {H : Type} : DataW H → Nat
  | .lit (.string bytes) => bytes.length + 1
  | .lit _ => 1
  | .nil => 1
  | .ptr d => uptoBulk d + 1
  | .slice elems spare => uptoBulkAll elems + uptoBulkAll spare + 1
  | .agg parts => uptoBulkAll parts + 1
  | .iface _ d => uptoBulk d + 1
  | .map entries => uptoBulkEntries entries + 1
  | .held _ => 1
def uptoBulkAll {H : Type} : List (DataW H) → Nat
  | [] => 0
  | d :: r => uptoBulk d + uptoBulkAll r
def uptoBulkEntries {H : Type} : List (Lit × DataW H) → Nat
  | [] => 0
  | x :: r => uptoBulkEntry x + uptoBulkEntries r
def uptoBulkEntry {H : Type} : Lit × DataW H → Nat
  | (.string bytes, d) => bytes.length + uptoBulk d + 1
  | (_, d) => uptoBulk d + 1
 end
def uptoSmall : (H : Type) → List (DataW H) → Bool := fun _ ds => decide (uptoBulkAll ds ≤ 1048576)
def OpenSpec.upto (s : _root_.Go.ChangeSpec) : _root_.Go.OpenSpec := { _root_.Go.OpenSpec.ofChange s with cond := some uptoSmall }

/-- 'laws.FnExactSameShape', WHERE WHAT IT READS IS OF BULK AT MOST 1048576: true; the input reads as it did. -/
def fnExactSameShapeUptoRow : OpenClaim := { program := "ytpkmhdeimedhgaa", sum := "1b40cfb8e5f3a17a93cfa78728b9af05a3236be7576227be15677a6c06de83d7", func := "loop.example/g00663/laws.FnExactSameShape", spec := "fnExactSameShape", unfollowed := true, recurses := true, apart := false, narrowed := true }
def FnExactSameShapeUptoSaid : Prop := fnExactSameShapeUptoRow.holds Try.pinned (OpenSpec.upto fnExactSameShapeSpec)

/-- 'laws.FnExactShapeScan', WHERE WHAT IT READS IS OF BULK AT MOST 1048576: true; the input reads as it did. -/
def fnExactShapeScanUptoRow : OpenClaim := { program := "ytpkmhdeimedhgaa", sum := "1b40cfb8e5f3a17a93cfa78728b9af05a3236be7576227be15677a6c06de83d7", func := "loop.example/g00663/laws.FnExactShapeScan", spec := "fnExactShapeScan", unfollowed := true, recurses := true, apart := false, narrowed := true }
def FnExactShapeScanUptoSaid : Prop := fnExactShapeScanUptoRow.holds Try.pinned (OpenSpec.upto fnExactShapeScanSpec)

/-- 'laws.FnExactExportOf', WHERE WHAT IT READS IS OF BULK AT MOST 1048576: true; the input reads as it did. -/
def fnExactExportOfUptoRow : OpenClaim := { program := "ytpkmhdeimedhgaa", sum := "1b40cfb8e5f3a17a93cfa78728b9af05a3236be7576227be15677a6c06de83d7", func := "loop.example/g00663/laws.FnExactExportOf", spec := "fnExactExportOf", apart := false, narrowed := true }
def FnExactExportOfUptoSaid : Prop := fnExactExportOfUptoRow.holds Try.pinned (OpenSpec.upto fnExactExportOfSpec)

/-- 'laws.FnExactShapesOf', WHERE WHAT IT READS IS OF BULK AT MOST 1048576: true; the input reads as it did. -/
def fnExactShapesOfUptoRow : OpenClaim := { program := "ytpkmhdeimedhgaa", sum := "1b40cfb8e5f3a17a93cfa78728b9af05a3236be7576227be15677a6c06de83d7", func := "loop.example/g00663/laws.FnExactShapesOf", spec := "fnExactShapesOf", unfollowed := true, recurses := true, apart := false, narrowed := true }
def FnExactShapesOfUptoSaid : Prop := fnExactShapesOfUptoRow.holds Try.pinned (OpenSpec.upto fnExactShapesOfSpec)

/-- 'laws.FnExactExportRead', WHERE WHAT IT READS IS OF BULK AT MOST 1048576: true; the input reads as it did. -/
def fnExactExportReadUptoRow : OpenClaim := { program := "ytpkmhdeimedhgaa", sum := "1b40cfb8e5f3a17a93cfa78728b9af05a3236be7576227be15677a6c06de83d7", func := "loop.example/g00663/laws.FnExactExportRead", spec := "fnExactExportRead", apart := false, narrowed := true }
def FnExactExportReadUptoSaid : Prop := fnExactExportReadUptoRow.holds Try.pinned (OpenSpec.upto fnExactExportReadSpec)

/-- 'laws.FnExportBack', WHERE WHAT IT READS IS OF BULK AT MOST 1048576: true; the input reads as it did. -/
def fnExportBackUptoRow : OpenClaim := { program := "ytpkmhdeimedhgaa", sum := "1b40cfb8e5f3a17a93cfa78728b9af05a3236be7576227be15677a6c06de83d7", func := "loop.example/g00663/laws.FnExportBack", spec := "fnExportBack", apart := false, narrowed := true }
def FnExportBackUptoSaid : Prop := fnExportBackUptoRow.holds Try.pinned (OpenSpec.upto fnExportBackSpec)

end Rows
end Go.Proofs.Ytpkmhdeimedhgaa
