/-
  No cell of these rows narrows 'for every input' (looked for: loops, veiled, ifaces, maps, wideKeys, modest, calm, conditions, laid).
  DERIVED. THE GIVEN ROWS OF THIS SEAT. 4 by the template 'for every input the law returns true; each argument reads behind the call as it read before'; 0 by the template 'total and deterministic' (their statements: YtnponcjnahicnaaGreatTotals.lean).
  GIVEN WITH THE SEED: the statements are not yours to turn. If you find one false, say at which input.
  Laid BY PROGRAM, IN A SANDBOX (cutbox-rows.mjs): the forced cells as the released guide's own fill.sh prints them over the translation 70f0d674e13ece5d… (all of the seat's roots in one cut). By AI agents, Wed Nov 11 2026. No macro, syntax, notation, axiom, sorry.
-/
import Derived.Test.YtnponcjnahicnaaGreatChecked
import GoSem.Claim
import GoSem.ClaimJoined
import GoSem.ClaimMapViews
import Derived.JoinedTies
import Derived.KernelRfl
namespace Go.Proofs.YtnponcjnahicnaaGreat
/- THE CELL 'sum', in the pinned program and in every row, IS THE sha256 OF THE DUMP (.gsa) THAT YtnponcjnahicnaaGreatProg.lean LOADS. Nothing in Lean hashes anything: it is a label: what it is worth is what the hold of that sum in a sandbox is worth. -/
noncomputable def Tryz.pinned : Pinned := { name := "ytnponcjnahicnaagreat", sum := "70f0d674e13ece5d53ee47f28f5f7f27490ba1db41901d17cd5e7991651ca688", checked := Tryz.checked }
namespace Rows
def none {H : Type} : Left H := { results := [], args := [] }

/-- 'inklinglaw17.JoinMeanwhile': WHATEVER THE INPUT: true; the input reads as it did. -/
def joinMeanwhileSpec : ChangeSpec := { name := "joinMeanwhile", fn := fun _ => fun
  | [d1, d2] => { results := [.lit (.bool true)], args := [d1, d2] }
  | _ => none }
def joinMeanwhileRow : OpenClaim := { program := "ytnponcjnahicnaagreat", sum := "70f0d674e13ece5d53ee47f28f5f7f27490ba1db41901d17cd5e7991651ca688", func := "inkling/inklinglaw17.JoinMeanwhile", spec := "joinMeanwhile", inPlace := ["(*internal/sync.Mutex).Lock", "internal/race.Disable", "sync/atomic.CompareAndSwapInt32", "internal/race.Enable", "internal/race.Acquire", "(*internal/sync.Mutex).lockSlow", "internal/sync.runtime_canSpin", "internal/sync.runtime_doSpin", "internal/sync.throw", "internal/sync.runtime_nanotime", "internal/sync.runtime_SemacquireMutex", "sync/atomic.AddInt32", "(*internal/sync.Mutex).Unlock", "internal/race.ReleaseMerge", "(*internal/sync.Mutex).unlockSlow", "internal/sync.fatal", "internal/sync.runtime_Semrelease"], unfollowed := true, recurses := true, plainKeys := false, apart := false }
def JoinMeanwhileSaid : Prop := joinMeanwhileRow.holds Tryz.pinned (OpenSpec.ofChange joinMeanwhileSpec)

/-- ITS FALSE NEIGHBOUR: 'it returns false'. Refute it at one input. -/
def joinMeanwhileWrong : ChangeSpec := { name := "joinMeanwhile", fn := fun _ => fun
  | [d1, d2] => { results := [.lit (.bool false)], args := [d1, d2] }
  | _ => none }
def JoinMeanwhileWrongFalsely : Prop := joinMeanwhileRow.holds Tryz.pinned (OpenSpec.ofChange joinMeanwhileWrong)

/-- 'inklinglaw17.JoinRenames': WHATEVER THE INPUT: true; the input reads as it did. -/
def joinRenamesSpec : ChangeSpec := { name := "joinRenames", fn := fun _ => fun
  | [d1, d2, d3] => { results := [.lit (.bool true)], args := [d1, d2, d3] }
  | _ => none }
def joinRenamesRow : OpenClaim := { program := "ytnponcjnahicnaagreat", sum := "70f0d674e13ece5d53ee47f28f5f7f27490ba1db41901d17cd5e7991651ca688", func := "inkling/inklinglaw17.JoinRenames", spec := "joinRenames", inPlace := ["(*internal/sync.Mutex).Lock", "internal/race.Disable", "sync/atomic.CompareAndSwapInt32", "internal/race.Enable", "internal/race.Acquire", "(*internal/sync.Mutex).lockSlow", "internal/sync.runtime_canSpin", "internal/sync.runtime_doSpin", "internal/sync.throw", "internal/sync.runtime_nanotime", "internal/sync.runtime_SemacquireMutex", "sync/atomic.AddInt32", "(*internal/sync.Mutex).Unlock", "internal/race.ReleaseMerge", "(*internal/sync.Mutex).unlockSlow", "internal/sync.fatal", "internal/sync.runtime_Semrelease"], unfollowed := true, recurses := true, plainKeys := false, apart := false }
def JoinRenamesSaid : Prop := joinRenamesRow.holds Tryz.pinned (OpenSpec.ofChange joinRenamesSpec)

/-- ITS FALSE NEIGHBOUR: 'it returns false'. Refute it at one input. -/
def joinRenamesWrong : ChangeSpec := { name := "joinRenames", fn := fun _ => fun
  | [d1, d2, d3] => { results := [.lit (.bool false)], args := [d1, d2, d3] }
  | _ => none }
def JoinRenamesWrongFalsely : Prop := joinRenamesRow.holds Tryz.pinned (OpenSpec.ofChange joinRenamesWrong)

/-- 'inklinglaw17.JoinDelta': WHATEVER THE INPUT: true; the input reads as it did. -/
def joinDeltaSpec : ChangeSpec := { name := "joinDelta", fn := fun _ => fun
  | [d] => { results := [.lit (.bool true)], args := [d] }
  | _ => none }
def joinDeltaRow : OpenClaim := { program := "ytnponcjnahicnaagreat", sum := "70f0d674e13ece5d53ee47f28f5f7f27490ba1db41901d17cd5e7991651ca688", func := "inkling/inklinglaw17.JoinDelta", spec := "joinDelta", inPlace := ["(*internal/sync.Mutex).Lock", "internal/race.Disable", "sync/atomic.CompareAndSwapInt32", "internal/race.Enable", "internal/race.Acquire", "(*internal/sync.Mutex).lockSlow", "internal/sync.runtime_canSpin", "internal/sync.runtime_doSpin", "internal/sync.throw", "internal/sync.runtime_nanotime", "internal/sync.runtime_SemacquireMutex", "sync/atomic.AddInt32", "(*internal/sync.Mutex).Unlock", "internal/race.ReleaseMerge", "(*internal/sync.Mutex).unlockSlow", "internal/sync.fatal", "internal/sync.runtime_Semrelease"], unfollowed := true, recurses := true, plainKeys := false, apart := false }
def JoinDeltaSaid : Prop := joinDeltaRow.holds Tryz.pinned (OpenSpec.ofChange joinDeltaSpec)

/-- ITS FALSE NEIGHBOUR: 'it returns false'. Refute it at one input. -/
def joinDeltaWrong : ChangeSpec := { name := "joinDelta", fn := fun _ => fun
  | [d] => { results := [.lit (.bool false)], args := [d] }
  | _ => none }
def JoinDeltaWrongFalsely : Prop := joinDeltaRow.holds Tryz.pinned (OpenSpec.ofChange joinDeltaWrong)

/-- 'inklinglaw17.JoinSemi': WHATEVER THE INPUT: true; the input reads as it did. -/
def joinSemiSpec : ChangeSpec := { name := "joinSemi", fn := fun _ => fun
  | [d] => { results := [.lit (.bool true)], args := [d] }
  | _ => none }
def joinSemiRow : OpenClaim := { program := "ytnponcjnahicnaagreat", sum := "70f0d674e13ece5d53ee47f28f5f7f27490ba1db41901d17cd5e7991651ca688", func := "inkling/inklinglaw17.JoinSemi", spec := "joinSemi", inPlace := ["(*internal/sync.Mutex).Lock", "internal/race.Disable", "sync/atomic.CompareAndSwapInt32", "internal/race.Enable", "internal/race.Acquire", "(*internal/sync.Mutex).lockSlow", "internal/sync.runtime_canSpin", "internal/sync.runtime_doSpin", "internal/sync.throw", "internal/sync.runtime_nanotime", "internal/sync.runtime_SemacquireMutex", "sync/atomic.AddInt32", "(*internal/sync.Mutex).Unlock", "internal/race.ReleaseMerge", "(*internal/sync.Mutex).unlockSlow", "internal/sync.fatal", "internal/sync.runtime_Semrelease"], unfollowed := true, recurses := true, plainKeys := false, apart := false }
def JoinSemiSaid : Prop := joinSemiRow.holds Tryz.pinned (OpenSpec.ofChange joinSemiSpec)

/-- ITS FALSE NEIGHBOUR: 'it returns false'. Refute it at one input. -/
def joinSemiWrong : ChangeSpec := { name := "joinSemi", fn := fun _ => fun
  | [d] => { results := [.lit (.bool false)], args := [d] }
  | _ => none }
def JoinSemiWrongFalsely : Prop := joinSemiRow.holds Tryz.pinned (OpenSpec.ofChange joinSemiWrong)

/- THE SECOND FORM. 'bulk': how many values and letters a reading holds, each counted each time it is reached (what is shared counts as often as it is met; a slice's spare places count too). A statement '..UptoSaid' is the law's where the arguments, and the package variables that the reading takes, are together of bulk at most 1048576: NARROWER than '..Said'. Prove '..Said' where nothing that the law and all that it calls make is longer than what came in: it says more and counts as full. Else prove '..UptoSaid'. A law counts once. -/
mutual
def uptoBulk {H : Type} : DataW H → Nat
  | .lit (.string bytes) => bytes.length + 1
  | .lit _ => 1
  | .nil => 1
  | .ptr d => uptoBulk d + 1
  | .slice elems spare => uptoBulkAll elems + uptoBulkAll spare + 1
  | .agg parts => uptoBulkAll parts + 1
  | .iface _ d => uptoBulk d + 1
  | .map entries => uptoBulkEntries entries + 1
  | .held _ => 1
def uptoBulkAll {H : Type} : List (DataW H) → Nat
  | [] => 0
  | d :: r => uptoBulk d + uptoBulkAll r
def uptoBulkEntries {H : Type} : List (Lit × DataW H) → Nat
  | [] => 0
  | x :: r => uptoBulkEntry x + uptoBulkEntries r
def uptoBulkEntry {H : Type} : Lit × DataW H → Nat
  | (.string bytes, d) => bytes.length + uptoBulk d + 1
  | (_, d) => uptoBulk d + 1
 end
def uptoSmall : (H : Type) → List (DataW H) → Bool := fun _ ds => decide (uptoBulkAll ds ≤ 1048576)
def OpenSpec.upto (s : _root_.Go.ChangeSpec) : _root_.Go.OpenSpec := { _root_.Go.OpenSpec.ofChange s with cond := some uptoSmall }

/-- 'inklinglaw17.JoinMeanwhile', WHERE WHAT IT READS IS OF BULK AT MOST 1048576: true; the input reads as it did. -/
def joinMeanwhileUptoRow : OpenClaim := { program := "ytnponcjnahicnaagreat", sum := "70f0d674e13ece5d53ee47f28f5f7f27490ba1db41901d17cd5e7991651ca688", func := "inkling/inklinglaw17.JoinMeanwhile", spec := "joinMeanwhile", inPlace := ["(*internal/sync.Mutex).Lock", "internal/race.Disable", "sync/atomic.CompareAndSwapInt32", "internal/race.Enable", "internal/race.Acquire", "(*internal/sync.Mutex).lockSlow", "internal/sync.runtime_canSpin", "internal/sync.runtime_doSpin", "internal/sync.throw", "internal/sync.runtime_nanotime", "internal/sync.runtime_SemacquireMutex", "sync/atomic.AddInt32", "(*internal/sync.Mutex).Unlock", "internal/race.ReleaseMerge", "(*internal/sync.Mutex).unlockSlow", "internal/sync.fatal", "internal/sync.runtime_Semrelease"], unfollowed := true, recurses := true, plainKeys := false, apart := false, narrowed := true }
def JoinMeanwhileUptoSaid : Prop := joinMeanwhileUptoRow.holds Tryz.pinned (OpenSpec.upto joinMeanwhileSpec)

/-- 'inklinglaw17.JoinRenames', WHERE WHAT IT READS IS OF BULK AT MOST 1048576: true; the input reads as it did. -/
def joinRenamesUptoRow : OpenClaim := { program := "ytnponcjnahicnaagreat", sum := "70f0d674e13ece5d53ee47f28f5f7f27490ba1db41901d17cd5e7991651ca688", func := "inkling/inklinglaw17.JoinRenames", spec := "joinRenames", inPlace := ["(*internal/sync.Mutex).Lock", "internal/race.Disable", "sync/atomic.CompareAndSwapInt32", "internal/race.Enable", "internal/race.Acquire", "(*internal/sync.Mutex).lockSlow", "internal/sync.runtime_canSpin", "internal/sync.runtime_doSpin", "internal/sync.throw", "internal/sync.runtime_nanotime", "internal/sync.runtime_SemacquireMutex", "sync/atomic.AddInt32", "(*internal/sync.Mutex).Unlock", "internal/race.ReleaseMerge", "(*internal/sync.Mutex).unlockSlow", "internal/sync.fatal", "internal/sync.runtime_Semrelease"], unfollowed := true, recurses := true, plainKeys := false, apart := false, narrowed := true }
def JoinRenamesUptoSaid : Prop := joinRenamesUptoRow.holds Tryz.pinned (OpenSpec.upto joinRenamesSpec)

/-- 'inklinglaw17.JoinDelta', WHERE WHAT IT READS IS OF BULK AT MOST 1048576: true; the input reads as it did. -/
def joinDeltaUptoRow : OpenClaim := { program := "ytnponcjnahicnaagreat", sum := "70f0d674e13ece5d53ee47f28f5f7f27490ba1db41901d17cd5e7991651ca688", func := "inkling/inklinglaw17.JoinDelta", spec := "joinDelta", inPlace := ["(*internal/sync.Mutex).Lock", "internal/race.Disable", "sync/atomic.CompareAndSwapInt32", "internal/race.Enable", "internal/race.Acquire", "(*internal/sync.Mutex).lockSlow", "internal/sync.runtime_canSpin", "internal/sync.runtime_doSpin", "internal/sync.throw", "internal/sync.runtime_nanotime", "internal/sync.runtime_SemacquireMutex", "sync/atomic.AddInt32", "(*internal/sync.Mutex).Unlock", "internal/race.ReleaseMerge", "(*internal/sync.Mutex).unlockSlow", "internal/sync.fatal", "internal/sync.runtime_Semrelease"], unfollowed := true, recurses := true, plainKeys := false, apart := false, narrowed := true }
def JoinDeltaUptoSaid : Prop := joinDeltaUptoRow.holds Tryz.pinned (OpenSpec.upto joinDeltaSpec)

/-- 'inklinglaw17.JoinSemi', WHERE WHAT IT READS IS OF BULK AT MOST 1048576: true; the input reads as it did. -/
def joinSemiUptoRow : OpenClaim := { program := "ytnponcjnahicnaagreat", sum := "70f0d674e13ece5d53ee47f28f5f7f27490ba1db41901d17cd5e7991651ca688", func := "inkling/inklinglaw17.JoinSemi", spec := "joinSemi", inPlace := ["(*internal/sync.Mutex).Lock", "internal/race.Disable", "sync/atomic.CompareAndSwapInt32", "internal/race.Enable", "internal/race.Acquire", "(*internal/sync.Mutex).lockSlow", "internal/sync.runtime_canSpin", "internal/sync.runtime_doSpin", "internal/sync.throw", "internal/sync.runtime_nanotime", "internal/sync.runtime_SemacquireMutex", "sync/atomic.AddInt32", "(*internal/sync.Mutex).Unlock", "internal/race.ReleaseMerge", "(*internal/sync.Mutex).unlockSlow", "internal/sync.fatal", "internal/sync.runtime_Semrelease"], unfollowed := true, recurses := true, plainKeys := false, apart := false, narrowed := true }
def JoinSemiUptoSaid : Prop := joinSemiUptoRow.holds Tryz.pinned (OpenSpec.upto joinSemiSpec)

end Rows
end Go.Proofs.YtnponcjnahicnaaGreat
