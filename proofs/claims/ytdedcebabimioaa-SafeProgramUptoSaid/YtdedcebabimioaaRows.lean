/-
  No cell of these rows narrows 'for every input' (looked for: loops, veiled, ifaces, maps, wideKeys, modest, calm, conditions, laid).
  DERIVED. THE GIVEN ROWS OF THIS SEAT. 4 by the template 'for every input the law returns true; each argument reads behind the call as it read before'; 0 by the template 'total and deterministic' (their statements: YtdedcebabimioaaTotals.lean).
  GIVEN WITH THE SEED: the statements are not yours to turn. If you find one false, say at which input.
  Laid BY PROGRAM, IN A SANDBOX (cutbox-rows.mjs): the forced cells as the released guide's own fill.sh prints them over the translation 3600b855398bbb4a… (all of the seat's roots in one cut). By AI agents, Wed Nov 11 2026. No macro, syntax, notation, axiom, sorry.
-/
import Derived.Test.YtdedcebabimioaaChecked
import GoSem.Claim
import GoSem.ClaimJoined
import GoSem.ClaimMapViews
import Derived.JoinedTies
import Derived.KernelRfl
namespace Go.Proofs.Ytdedcebabimioaa
/- THE CELL 'sum', in the pinned program and in every row, IS THE sha256 OF THE DUMP (.gsa) THAT YtdedcebabimioaaProg.lean LOADS. Nothing in Lean hashes anything: it is a label: what it is worth is what the hold of that sum in a sandbox is worth. -/
noncomputable def Try.pinned : Pinned := { name := "ytdedcebabimioaa", sum := "3600b855398bbb4a7eab75e3494cdae6ec233b79a521d7f114587db594db24fc", checked := Try.checked }
namespace Rows
def none {H : Type} : Left H := { results := [], args := [] }

/-- 'inklinglaw12.SafeMore': WHATEVER THE INPUT: true; the input reads as it did. -/
def safeMoreSpec : ChangeSpec := { name := "safeMore", fn := fun _ => fun
  | [d1, d2, d3] => { results := [.lit (.bool true)], args := [d1, d2, d3] }
  | _ => none }
def safeMoreRow : OpenClaim := { program := "ytdedcebabimioaa", sum := "3600b855398bbb4a7eab75e3494cdae6ec233b79a521d7f114587db594db24fc", func := "inkling/inklinglaw12.SafeMore", spec := "safeMore", unfollowed := true, recurses := true, apart := false }
def SafeMoreSaid : Prop := safeMoreRow.holds Try.pinned (OpenSpec.ofChange safeMoreSpec)

/-- ITS FALSE NEIGHBOUR: 'it returns false'. Refute it at one input. -/
def safeMoreWrong : ChangeSpec := { name := "safeMore", fn := fun _ => fun
  | [d1, d2, d3] => { results := [.lit (.bool false)], args := [d1, d2, d3] }
  | _ => none }
def SafeMoreWrongFalsely : Prop := safeMoreRow.holds Try.pinned (OpenSpec.ofChange safeMoreWrong)

/-- 'inklinglaw12.SafeProgram': WHATEVER THE INPUT: true; the input reads as it did. -/
def safeProgramSpec : ChangeSpec := { name := "safeProgram", fn := fun _ => fun
  | [d] => { results := [.lit (.bool true)], args := [d] }
  | _ => none }
def safeProgramRow : OpenClaim := { program := "ytdedcebabimioaa", sum := "3600b855398bbb4a7eab75e3494cdae6ec233b79a521d7f114587db594db24fc", func := "inkling/inklinglaw12.SafeProgram", spec := "safeProgram", unfollowed := true, recurses := true, apart := false }
def SafeProgramSaid : Prop := safeProgramRow.holds Try.pinned (OpenSpec.ofChange safeProgramSpec)

/-- ITS FALSE NEIGHBOUR: 'it returns false'. Refute it at one input. -/
def safeProgramWrong : ChangeSpec := { name := "safeProgram", fn := fun _ => fun
  | [d] => { results := [.lit (.bool false)], args := [d] }
  | _ => none }
def SafeProgramWrongFalsely : Prop := safeProgramRow.holds Try.pinned (OpenSpec.ofChange safeProgramWrong)

/-- 'inklinglaw12.SafeRenames': WHATEVER THE INPUT: true; the input reads as it did. -/
def safeRenamesSpec : ChangeSpec := { name := "safeRenames", fn := fun _ => fun
  | [d1, d2] => { results := [.lit (.bool true)], args := [d1, d2] }
  | _ => none }
def safeRenamesRow : OpenClaim := { program := "ytdedcebabimioaa", sum := "3600b855398bbb4a7eab75e3494cdae6ec233b79a521d7f114587db594db24fc", func := "inkling/inklinglaw12.SafeRenames", spec := "safeRenames", unfollowed := true, recurses := true, apart := false }
def SafeRenamesSaid : Prop := safeRenamesRow.holds Try.pinned (OpenSpec.ofChange safeRenamesSpec)

/-- ITS FALSE NEIGHBOUR: 'it returns false'. Refute it at one input. -/
def safeRenamesWrong : ChangeSpec := { name := "safeRenames", fn := fun _ => fun
  | [d1, d2] => { results := [.lit (.bool false)], args := [d1, d2] }
  | _ => none }
def SafeRenamesWrongFalsely : Prop := safeRenamesRow.holds Try.pinned (OpenSpec.ofChange safeRenamesWrong)

/-- 'inklinglaw12.SafeWay': WHATEVER THE INPUT: true; the input reads as it did. -/
def safeWaySpec : ChangeSpec := { name := "safeWay", fn := fun _ => fun
  | [d] => { results := [.lit (.bool true)], args := [d] }
  | _ => none }
def safeWayRow : OpenClaim := { program := "ytdedcebabimioaa", sum := "3600b855398bbb4a7eab75e3494cdae6ec233b79a521d7f114587db594db24fc", func := "inkling/inklinglaw12.SafeWay", spec := "safeWay", unfollowed := true, recurses := true, apart := false }
def SafeWaySaid : Prop := safeWayRow.holds Try.pinned (OpenSpec.ofChange safeWaySpec)

/-- ITS FALSE NEIGHBOUR: 'it returns false'. Refute it at one input. -/
def safeWayWrong : ChangeSpec := { name := "safeWay", fn := fun _ => fun
  | [d] => { results := [.lit (.bool false)], args := [d] }
  | _ => none }
def SafeWayWrongFalsely : Prop := safeWayRow.holds Try.pinned (OpenSpec.ofChange safeWayWrong)

/- THE SECOND FORM. 'bulk': how many values and letters a reading holds, each counted each time it is reached (what is shared counts as often as it is met; a slice's spare places count too). A statement '..UptoSaid' is the law's where the arguments, and the package variables that the reading takes, are together of bulk at most 1048576: NARROWER than '..Said'. Prove '..Said' where nothing that the law and all that it calls make is longer than what came in: it says more and counts as full. Else prove '..UptoSaid'. A law counts once. -/
mutual
def uptoBulk {H : Type} : DataW H → Nat
  | .lit (.string bytes) => bytes.length + 1
  | .lit _ => 1
  | .nil => 1
  | .ptr d => uptoBulk d + 1
  | .slice elems spare => uptoBulkAll elems + uptoBulkAll spare + 1
  | .agg parts => uptoBulkAll parts + 1
  | .iface _ d => uptoBulk d + 1
  | .map entries => uptoBulkEntries entries + 1
  | .held _ => 1
def uptoBulkAll {H : Type} : List (DataW H) → Nat
  | [] => 0
  | d :: r => uptoBulk d + uptoBulkAll r
def uptoBulkEntries {H : Type} : List (Lit × DataW H) → Nat
  | [] => 0
  | x :: r => uptoBulkEntry x + uptoBulkEntries r
def uptoBulkEntry {H : Type} : Lit × DataW H → Nat
  | (.string bytes, d) => bytes.length + uptoBulk d + 1
  | (_, d) => uptoBulk d + 1
 end
def uptoSmall : (H : Type) → List (DataW H) → Bool := fun _ ds => decide (uptoBulkAll ds ≤ 1048576)
def OpenSpec.upto (s : _root_.Go.ChangeSpec) : _root_.Go.OpenSpec := { _root_.Go.OpenSpec.ofChange s with cond := some uptoSmall }

/-- 'inklinglaw12.SafeMore', WHERE WHAT IT READS IS OF BULK AT MOST 1048576: true; the input reads as it did. -/
def safeMoreUptoRow : OpenClaim := { program := "ytdedcebabimioaa", sum := "3600b855398bbb4a7eab75e3494cdae6ec233b79a521d7f114587db594db24fc", func := "inkling/inklinglaw12.SafeMore", spec := "safeMore", unfollowed := true, recurses := true, apart := false, narrowed := true }
def SafeMoreUptoSaid : Prop := safeMoreUptoRow.holds Try.pinned (OpenSpec.upto safeMoreSpec)

/-- 'inklinglaw12.SafeProgram', WHERE WHAT IT READS IS OF BULK AT MOST 1048576: true; the input reads as it did. -/
def safeProgramUptoRow : OpenClaim := { program := "ytdedcebabimioaa", sum := "3600b855398bbb4a7eab75e3494cdae6ec233b79a521d7f114587db594db24fc", func := "inkling/inklinglaw12.SafeProgram", spec := "safeProgram", unfollowed := true, recurses := true, apart := false, narrowed := true }
def SafeProgramUptoSaid : Prop := safeProgramUptoRow.holds Try.pinned (OpenSpec.upto safeProgramSpec)

/-- 'inklinglaw12.SafeRenames', WHERE WHAT IT READS IS OF BULK AT MOST 1048576: true; the input reads as it did. -/
def safeRenamesUptoRow : OpenClaim := { program := "ytdedcebabimioaa", sum := "3600b855398bbb4a7eab75e3494cdae6ec233b79a521d7f114587db594db24fc", func := "inkling/inklinglaw12.SafeRenames", spec := "safeRenames", unfollowed := true, recurses := true, apart := false, narrowed := true }
def SafeRenamesUptoSaid : Prop := safeRenamesUptoRow.holds Try.pinned (OpenSpec.upto safeRenamesSpec)

/-- 'inklinglaw12.SafeWay', WHERE WHAT IT READS IS OF BULK AT MOST 1048576: true; the input reads as it did. -/
def safeWayUptoRow : OpenClaim := { program := "ytdedcebabimioaa", sum := "3600b855398bbb4a7eab75e3494cdae6ec233b79a521d7f114587db594db24fc", func := "inkling/inklinglaw12.SafeWay", spec := "safeWay", unfollowed := true, recurses := true, apart := false, narrowed := true }
def SafeWayUptoSaid : Prop := safeWayUptoRow.holds Try.pinned (OpenSpec.upto safeWaySpec)

end Rows
end Go.Proofs.Ytdedcebabimioaa
