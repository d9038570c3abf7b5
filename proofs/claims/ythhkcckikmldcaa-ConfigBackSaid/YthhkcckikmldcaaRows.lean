/-
  No cell of these rows narrows 'for every input' (looked for: loops, veiled, ifaces, maps, wideKeys, modest, calm, conditions, laid).
  DERIVED. THE GIVEN ROWS OF THIS SEAT. 14 by the template 'for every input the law returns true; each argument reads behind the call as it read before'; 0 by the template 'total and deterministic' (their statements: YthhkcckikmldcaaTotals.lean).
  GIVEN WITH THE SEED: the statements are not yours to turn. If you find one false, say at which input.
  Laid BY PROGRAM, IN A SANDBOX (cutbox-rows.mjs): the forced cells as the released guide's own fill.sh prints them over the translation 49da4d6875baf01b… (all of the seat's roots in one cut). By AI agents, Wed Nov 11 2026. No macro, syntax, notation, axiom, sorry.
-/
import Derived.Test.YthhkcckikmldcaaChecked
import GoSem.Claim
import GoSem.ClaimJoined
import GoSem.ClaimMapViews
import Derived.JoinedTies
import Derived.KernelRfl
namespace Go.Proofs.Ythhkcckikmldcaa
/- THE CELL 'sum', in the pinned program and in every row, IS THE sha256 OF THE DUMP (.gsa) THAT YthhkcckikmldcaaProg.lean LOADS. Nothing in Lean hashes anything: it is a label: what it is worth is what the hold of that sum in a sandbox is worth. -/
noncomputable def Try.pinned : Pinned := { name := "ythhkcckikmldcaa", sum := "49da4d6875baf01b985c9ee8e1ed5d241dd14323aae223ecb46c59b5baeca7c9", checked := Try.checked }
namespace Rows
def none {H : Type} : Left H := { results := [], args := [] }

/-- 'damperlaw08.SessionAts': WHATEVER THE INPUT: true; the input reads as it did. -/
def sessionAtsSpec : ChangeSpec := { name := "sessionAts", fn := fun _ => fun
  | [d1, d2] => { results := [.lit (.bool true)], args := [d1, d2] }
  | _ => none }
def sessionAtsRow : OpenClaim := { program := "ythhkcckikmldcaa", sum := "49da4d6875baf01b985c9ee8e1ed5d241dd14323aae223ecb46c59b5baeca7c9", func := "damper/damperlaw08.SessionAts", spec := "sessionAts", unfollowed := true, recurses := true, apart := false }
def SessionAtsSaid : Prop := sessionAtsRow.holds Try.pinned (OpenSpec.ofChange sessionAtsSpec)

/-- ITS FALSE NEIGHBOUR: 'it returns false'. Refute it at one input. -/
def sessionAtsWrong : ChangeSpec := { name := "sessionAts", fn := fun _ => fun
  | [d1, d2] => { results := [.lit (.bool false)], args := [d1, d2] }
  | _ => none }
def SessionAtsWrongFalsely : Prop := sessionAtsRow.holds Try.pinned (OpenSpec.ofChange sessionAtsWrong)

/-- 'damperlaw08.SessionStays': WHATEVER THE INPUT: true; the input reads as it did. -/
def sessionStaysSpec : ChangeSpec := { name := "sessionStays", fn := fun _ => fun
  | [d1, d2, d3] => { results := [.lit (.bool true)], args := [d1, d2, d3] }
  | _ => none }
def sessionStaysRow : OpenClaim := { program := "ythhkcckikmldcaa", sum := "49da4d6875baf01b985c9ee8e1ed5d241dd14323aae223ecb46c59b5baeca7c9", func := "damper/damperlaw08.SessionStays", spec := "sessionStays", unfollowed := true, recurses := true, apart := false }
def SessionStaysSaid : Prop := sessionStaysRow.holds Try.pinned (OpenSpec.ofChange sessionStaysSpec)

/-- ITS FALSE NEIGHBOUR: 'it returns false'. Refute it at one input. -/
def sessionStaysWrong : ChangeSpec := { name := "sessionStays", fn := fun _ => fun
  | [d1, d2, d3] => { results := [.lit (.bool false)], args := [d1, d2, d3] }
  | _ => none }
def SessionStaysWrongFalsely : Prop := sessionStaysRow.holds Try.pinned (OpenSpec.ofChange sessionStaysWrong)

/-- 'damperlaw08.SessionLasts': WHATEVER THE INPUT: true; the input reads as it did. -/
def sessionLastsSpec : ChangeSpec := { name := "sessionLasts", fn := fun _ => fun
  | [d1, d2, d3] => { results := [.lit (.bool true)], args := [d1, d2, d3] }
  | _ => none }
def sessionLastsRow : OpenClaim := { program := "ythhkcckikmldcaa", sum := "49da4d6875baf01b985c9ee8e1ed5d241dd14323aae223ecb46c59b5baeca7c9", func := "damper/damperlaw08.SessionLasts", spec := "sessionLasts", unfollowed := true, recurses := true, apart := false }
def SessionLastsSaid : Prop := sessionLastsRow.holds Try.pinned (OpenSpec.ofChange sessionLastsSpec)

/-- ITS FALSE NEIGHBOUR: 'it returns false'. Refute it at one input. -/
def sessionLastsWrong : ChangeSpec := { name := "sessionLasts", fn := fun _ => fun
  | [d1, d2, d3] => { results := [.lit (.bool false)], args := [d1, d2, d3] }
  | _ => none }
def SessionLastsWrongFalsely : Prop := sessionLastsRow.holds Try.pinned (OpenSpec.ofChange sessionLastsWrong)

/-- 'damperlaw07.ConfigReads': WHATEVER THE INPUT: true; the input reads as it did. -/
def configReadsSpec : ChangeSpec := { name := "configReads", fn := fun _ => fun
  | [d] => { results := [.lit (.bool true)], args := [d] }
  | _ => none }
def configReadsRow : OpenClaim := { program := "ythhkcckikmldcaa", sum := "49da4d6875baf01b985c9ee8e1ed5d241dd14323aae223ecb46c59b5baeca7c9", func := "damper/damperlaw07.ConfigReads", spec := "configReads", unfollowed := true, recurses := true, apart := false }
def ConfigReadsSaid : Prop := configReadsRow.holds Try.pinned (OpenSpec.ofChange configReadsSpec)

/-- ITS FALSE NEIGHBOUR: 'it returns false'. Refute it at one input. -/
def configReadsWrong : ChangeSpec := { name := "configReads", fn := fun _ => fun
  | [d] => { results := [.lit (.bool false)], args := [d] }
  | _ => none }
def ConfigReadsWrongFalsely : Prop := configReadsRow.holds Try.pinned (OpenSpec.ofChange configReadsWrong)

/-- 'damperlaw07.ConfigBack': WHATEVER THE INPUT: true; the input reads as it did. -/
def configBackSpec : ChangeSpec := { name := "configBack", fn := fun _ => fun
  | [d1, d2] => { results := [.lit (.bool true)], args := [d1, d2] }
  | _ => none }
def configBackRow : OpenClaim := { program := "ythhkcckikmldcaa", sum := "49da4d6875baf01b985c9ee8e1ed5d241dd14323aae223ecb46c59b5baeca7c9", func := "damper/damperlaw07.ConfigBack", spec := "configBack", unfollowed := true, recurses := true, apart := false }
def ConfigBackSaid : Prop := configBackRow.holds Try.pinned (OpenSpec.ofChange configBackSpec)

/-- ITS FALSE NEIGHBOUR: 'it returns false'. Refute it at one input. -/
def configBackWrong : ChangeSpec := { name := "configBack", fn := fun _ => fun
  | [d1, d2] => { results := [.lit (.bool false)], args := [d1, d2] }
  | _ => none }
def ConfigBackWrongFalsely : Prop := configBackRow.holds Try.pinned (OpenSpec.ofChange configBackWrong)

/-- 'damperlaw08.SessionChanges': WHATEVER THE INPUT: true; the input reads as it did. -/
def sessionChangesSpec : ChangeSpec := { name := "sessionChanges", fn := fun _ => fun
  | [d1, d2] => { results := [.lit (.bool true)], args := [d1, d2] }
  | _ => none }
def sessionChangesRow : OpenClaim := { program := "ythhkcckikmldcaa", sum := "49da4d6875baf01b985c9ee8e1ed5d241dd14323aae223ecb46c59b5baeca7c9", func := "damper/damperlaw08.SessionChanges", spec := "sessionChanges", unfollowed := true, recurses := true, apart := false }
def SessionChangesSaid : Prop := sessionChangesRow.holds Try.pinned (OpenSpec.ofChange sessionChangesSpec)

/-- ITS FALSE NEIGHBOUR: 'it returns false'. Refute it at one input. -/
def sessionChangesWrong : ChangeSpec := { name := "sessionChanges", fn := fun _ => fun
  | [d1, d2] => { results := [.lit (.bool false)], args := [d1, d2] }
  | _ => none }
def SessionChangesWrongFalsely : Prop := sessionChangesRow.holds Try.pinned (OpenSpec.ofChange sessionChangesWrong)

/-- 'damperlaw22.PauseStates': WHATEVER THE INPUT: true; the input reads as it did. -/
def pauseStatesSpec : ChangeSpec := { name := "pauseStates", fn := fun _ => fun
  | [d1, d2, d3, d4] => { results := [.lit (.bool true)], args := [d1, d2, d3, d4] }
  | _ => none }
def pauseStatesRow : OpenClaim := { program := "ythhkcckikmldcaa", sum := "49da4d6875baf01b985c9ee8e1ed5d241dd14323aae223ecb46c59b5baeca7c9", func := "damper/damperlaw22.PauseStates", spec := "pauseStates", unfollowed := true, recurses := true, apart := false }
def PauseStatesSaid : Prop := pauseStatesRow.holds Try.pinned (OpenSpec.ofChange pauseStatesSpec)

/-- ITS FALSE NEIGHBOUR: 'it returns false'. Refute it at one input. -/
def pauseStatesWrong : ChangeSpec := { name := "pauseStates", fn := fun _ => fun
  | [d1, d2, d3, d4] => { results := [.lit (.bool false)], args := [d1, d2, d3, d4] }
  | _ => none }
def PauseStatesWrongFalsely : Prop := pauseStatesRow.holds Try.pinned (OpenSpec.ofChange pauseStatesWrong)

/-- 'damperlaw07.ConfigChecks': WHATEVER THE INPUT: true; the input reads as it did. -/
def configChecksSpec : ChangeSpec := { name := "configChecks", fn := fun _ => fun
  | [d] => { results := [.lit (.bool true)], args := [d] }
  | _ => none }
def configChecksRow : OpenClaim := { program := "ythhkcckikmldcaa", sum := "49da4d6875baf01b985c9ee8e1ed5d241dd14323aae223ecb46c59b5baeca7c9", func := "damper/damperlaw07.ConfigChecks", spec := "configChecks", unfollowed := true, recurses := true, apart := false }
def ConfigChecksSaid : Prop := configChecksRow.holds Try.pinned (OpenSpec.ofChange configChecksSpec)

/-- ITS FALSE NEIGHBOUR: 'it returns false'. Refute it at one input. -/
def configChecksWrong : ChangeSpec := { name := "configChecks", fn := fun _ => fun
  | [d] => { results := [.lit (.bool false)], args := [d] }
  | _ => none }
def ConfigChecksWrongFalsely : Prop := configChecksRow.holds Try.pinned (OpenSpec.ofChange configChecksWrong)

/-- 'damperlaw22.PauseDecides': WHATEVER THE INPUT: true; the input reads as it did. -/
def pauseDecidesSpec : ChangeSpec := { name := "pauseDecides", fn := fun _ => fun
  | [d1, d2, d3, d4, d5] => { results := [.lit (.bool true)], args := [d1, d2, d3, d4, d5] }
  | _ => none }
def pauseDecidesRow : OpenClaim := { program := "ythhkcckikmldcaa", sum := "49da4d6875baf01b985c9ee8e1ed5d241dd14323aae223ecb46c59b5baeca7c9", func := "damper/damperlaw22.PauseDecides", spec := "pauseDecides", unfollowed := true, recurses := true, apart := false }
def PauseDecidesSaid : Prop := pauseDecidesRow.holds Try.pinned (OpenSpec.ofChange pauseDecidesSpec)

/-- ITS FALSE NEIGHBOUR: 'it returns false'. Refute it at one input. -/
def pauseDecidesWrong : ChangeSpec := { name := "pauseDecides", fn := fun _ => fun
  | [d1, d2, d3, d4, d5] => { results := [.lit (.bool false)], args := [d1, d2, d3, d4, d5] }
  | _ => none }
def PauseDecidesWrongFalsely : Prop := pauseDecidesRow.holds Try.pinned (OpenSpec.ofChange pauseDecidesWrong)

/-- 'damperlaw22.PauseEnds': WHATEVER THE INPUT: true; the input reads as it did. -/
def pauseEndsSpec : ChangeSpec := { name := "pauseEnds", fn := fun _ => fun
  | [d1, d2, d3, d4] => { results := [.lit (.bool true)], args := [d1, d2, d3, d4] }
  | _ => none }
def pauseEndsRow : OpenClaim := { program := "ythhkcckikmldcaa", sum := "49da4d6875baf01b985c9ee8e1ed5d241dd14323aae223ecb46c59b5baeca7c9", func := "damper/damperlaw22.PauseEnds", spec := "pauseEnds", unfollowed := true, recurses := true, apart := false }
def PauseEndsSaid : Prop := pauseEndsRow.holds Try.pinned (OpenSpec.ofChange pauseEndsSpec)

/-- ITS FALSE NEIGHBOUR: 'it returns false'. Refute it at one input. -/
def pauseEndsWrong : ChangeSpec := { name := "pauseEnds", fn := fun _ => fun
  | [d1, d2, d3, d4] => { results := [.lit (.bool false)], args := [d1, d2, d3, d4] }
  | _ => none }
def PauseEndsWrongFalsely : Prop := pauseEndsRow.holds Try.pinned (OpenSpec.ofChange pauseEndsWrong)

/-- 'damperlaw23.BreakerPlays': WHATEVER THE INPUT: true; the input reads as it did. -/
def breakerPlaysSpec : ChangeSpec := { name := "breakerPlays", fn := fun _ => fun
  | [d1, d2, d3] => { results := [.lit (.bool true)], args := [d1, d2, d3] }
  | _ => none }
def breakerPlaysRow : OpenClaim := { program := "ythhkcckikmldcaa", sum := "49da4d6875baf01b985c9ee8e1ed5d241dd14323aae223ecb46c59b5baeca7c9", func := "damper/damperlaw23.BreakerPlays", spec := "breakerPlays", unfollowed := true, recurses := true, apart := false }
def BreakerPlaysSaid : Prop := breakerPlaysRow.holds Try.pinned (OpenSpec.ofChange breakerPlaysSpec)

/-- ITS FALSE NEIGHBOUR: 'it returns false'. Refute it at one input. -/
def breakerPlaysWrong : ChangeSpec := { name := "breakerPlays", fn := fun _ => fun
  | [d1, d2, d3] => { results := [.lit (.bool false)], args := [d1, d2, d3] }
  | _ => none }
def BreakerPlaysWrongFalsely : Prop := breakerPlaysRow.holds Try.pinned (OpenSpec.ofChange breakerPlaysWrong)

/-- 'damperlaw23.BreakerOnce': WHATEVER THE INPUT: true; the input reads as it did. -/
def breakerOnceSpec : ChangeSpec := { name := "breakerOnce", fn := fun _ => fun
  | [d1, d2, d3] => { results := [.lit (.bool true)], args := [d1, d2, d3] }
  | _ => none }
def breakerOnceRow : OpenClaim := { program := "ythhkcckikmldcaa", sum := "49da4d6875baf01b985c9ee8e1ed5d241dd14323aae223ecb46c59b5baeca7c9", func := "damper/damperlaw23.BreakerOnce", spec := "breakerOnce", unfollowed := true, recurses := true, apart := false }
def BreakerOnceSaid : Prop := breakerOnceRow.holds Try.pinned (OpenSpec.ofChange breakerOnceSpec)

/-- ITS FALSE NEIGHBOUR: 'it returns false'. Refute it at one input. -/
def breakerOnceWrong : ChangeSpec := { name := "breakerOnce", fn := fun _ => fun
  | [d1, d2, d3] => { results := [.lit (.bool false)], args := [d1, d2, d3] }
  | _ => none }
def BreakerOnceWrongFalsely : Prop := breakerOnceRow.holds Try.pinned (OpenSpec.ofChange breakerOnceWrong)

/-- 'damperlaw23.BreakerFalls': WHATEVER THE INPUT: true; the input reads as it did. -/
def breakerFallsSpec : ChangeSpec := { name := "breakerFalls", fn := fun _ => fun
  | [d1, d2, d3] => { results := [.lit (.bool true)], args := [d1, d2, d3] }
  | _ => none }
def breakerFallsRow : OpenClaim := { program := "ythhkcckikmldcaa", sum := "49da4d6875baf01b985c9ee8e1ed5d241dd14323aae223ecb46c59b5baeca7c9", func := "damper/damperlaw23.BreakerFalls", spec := "breakerFalls", unfollowed := true, recurses := true, apart := false }
def BreakerFallsSaid : Prop := breakerFallsRow.holds Try.pinned (OpenSpec.ofChange breakerFallsSpec)

/-- ITS FALSE NEIGHBOUR: 'it returns false'. Refute it at one input. -/
def breakerFallsWrong : ChangeSpec := { name := "breakerFalls", fn := fun _ => fun
  | [d1, d2, d3] => { results := [.lit (.bool false)], args := [d1, d2, d3] }
  | _ => none }
def BreakerFallsWrongFalsely : Prop := breakerFallsRow.holds Try.pinned (OpenSpec.ofChange breakerFallsWrong)

/-- 'damperlaw07.ConfigEncodes': WHATEVER THE INPUT: true; the input reads as it did. -/
def configEncodesSpec : ChangeSpec := { name := "configEncodes", fn := fun _ => fun
  | [d1, d2] => { results := [.lit (.bool true)], args := [d1, d2] }
  | _ => none }
def configEncodesRow : OpenClaim := { program := "ythhkcckikmldcaa", sum := "49da4d6875baf01b985c9ee8e1ed5d241dd14323aae223ecb46c59b5baeca7c9", func := "damper/damperlaw07.ConfigEncodes", spec := "configEncodes", unfollowed := true, recurses := true, apart := false }
def ConfigEncodesSaid : Prop := configEncodesRow.holds Try.pinned (OpenSpec.ofChange configEncodesSpec)

/-- ITS FALSE NEIGHBOUR: 'it returns false'. Refute it at one input. -/
def configEncodesWrong : ChangeSpec := { name := "configEncodes", fn := fun _ => fun
  | [d1, d2] => { results := [.lit (.bool false)], args := [d1, d2] }
  | _ => none }
def ConfigEncodesWrongFalsely : Prop := configEncodesRow.holds Try.pinned (OpenSpec.ofChange configEncodesWrong)

/- THE SECOND FORM. 'bulk': how many values and letters a reading holds, each counted each time it is reached (what is shared counts as often as it is met; a slice's spare places count too). A statement '..UptoSaid' is the law's where the arguments, and the package variables that the reading takes, are together of bulk at most 1048576: NARROWER than '..Said'. Prove '..Said' where nothing that the law and all that it calls make is longer than what came in: it says more and counts as full. Else prove '..UptoSaid'. A law counts once. -/
mutual
def uptoBulk {H : Type} : DataW H → Nat
  | .lit (.string bytes) => bytes.length + 1
  | .lit _ => 1
  | .nil => 1
  | .ptr d => uptoBulk d + 1
  | .slice elems spare => uptoBulkAll elems + uptoBulkAll spare + 1
  | .agg parts => uptoBulkAll parts + 1
  | .iface _ d => uptoBulk d + 1
  | .map entries => uptoBulkEntries entries + 1
  | .held _ => 1
def uptoBulkAll {H : Type} : List (DataW H) → Nat
  | [] => 0
  | d :: r => uptoBulk d + uptoBulkAll r
def uptoBulkEntries {H : Type} : List (Lit × DataW H) → Nat
  | [] => 0
  | x :: r => uptoBulkEntry x + uptoBulkEntries r
def uptoBulkEntry {H : Type} : Lit × DataW H → Nat
  | (.string bytes, d) => bytes.length + uptoBulk d + 1
  | (_, d) => uptoBulk d + 1
 end
def uptoSmall : (H : Type) → List (DataW H) → Bool := fun _ ds => decide (uptoBulkAll ds ≤ 1048576)
def OpenSpec.upto (s : _root_.Go.ChangeSpec) : _root_.Go.OpenSpec := { _root_.Go.OpenSpec.ofChange s with cond := some uptoSmall }

/-- 'damperlaw08.SessionAts', WHERE WHAT IT READS IS OF BULK AT MOST 1048576: true; the input reads as it did. -/
def sessionAtsUptoRow : OpenClaim := { program := "ythhkcckikmldcaa", sum := "49da4d6875baf01b985c9ee8e1ed5d241dd14323aae223ecb46c59b5baeca7c9", func := "damper/damperlaw08.SessionAts", spec := "sessionAts", unfollowed := true, recurses := true, apart := false, narrowed := true }
def SessionAtsUptoSaid : Prop := sessionAtsUptoRow.holds Try.pinned (OpenSpec.upto sessionAtsSpec)

/-- 'damperlaw08.SessionStays', WHERE WHAT IT READS IS OF BULK AT MOST 1048576: true; the input reads as it did. -/
def sessionStaysUptoRow : OpenClaim := { program := "ythhkcckikmldcaa", sum := "49da4d6875baf01b985c9ee8e1ed5d241dd14323aae223ecb46c59b5baeca7c9", func := "damper/damperlaw08.SessionStays", spec := "sessionStays", unfollowed := true, recurses := true, apart := false, narrowed := true }
def SessionStaysUptoSaid : Prop := sessionStaysUptoRow.holds Try.pinned (OpenSpec.upto sessionStaysSpec)

/-- 'damperlaw08.SessionLasts', WHERE WHAT IT READS IS OF BULK AT MOST 1048576: true; the input reads as it did. -/
def sessionLastsUptoRow : OpenClaim := { program := "ythhkcckikmldcaa", sum := "49da4d6875baf01b985c9ee8e1ed5d241dd14323aae223ecb46c59b5baeca7c9", func := "damper/damperlaw08.SessionLasts", spec := "sessionLasts", unfollowed := true, recurses := true, apart := false, narrowed := true }
def SessionLastsUptoSaid : Prop := sessionLastsUptoRow.holds Try.pinned (OpenSpec.upto sessionLastsSpec)

/-- 'damperlaw07.ConfigReads', WHERE WHAT IT READS IS OF BULK AT MOST 1048576: true; the input reads as it did. -/
def configReadsUptoRow : OpenClaim := { program := "ythhkcckikmldcaa", sum := "49da4d6875baf01b985c9ee8e1ed5d241dd14323aae223ecb46c59b5baeca7c9", func := "damper/damperlaw07.ConfigReads", spec := "configReads", unfollowed := true, recurses := true, apart := false, narrowed := true }
def ConfigReadsUptoSaid : Prop := configReadsUptoRow.holds Try.pinned (OpenSpec.upto configReadsSpec)

/-- 'damperlaw07.ConfigBack', WHERE WHAT IT READS IS OF BULK AT MOST 1048576: true; the input reads as it did. -/
def configBackUptoRow : OpenClaim := { program := "ythhkcckikmldcaa", sum := "49da4d6875baf01b985c9ee8e1ed5d241dd14323aae223ecb46c59b5baeca7c9", func := "damper/damperlaw07.ConfigBack", spec := "configBack", unfollowed := true, recurses := true, apart := false, narrowed := true }
def ConfigBackUptoSaid : Prop := configBackUptoRow.holds Try.pinned (OpenSpec.upto configBackSpec)

/-- 'damperlaw08.SessionChanges', WHERE WHAT IT READS IS OF BULK AT MOST 1048576: true; the input reads as it did. -/
def sessionChangesUptoRow : OpenClaim := { program := "ythhkcckikmldcaa", sum := "49da4d6875baf01b985c9ee8e1ed5d241dd14323aae223ecb46c59b5baeca7c9", func := "damper/damperlaw08.SessionChanges", spec := "sessionChanges", unfollowed := true, recurses := true, apart := false, narrowed := true }
def SessionChangesUptoSaid : Prop := sessionChangesUptoRow.holds Try.pinned (OpenSpec.upto sessionChangesSpec)

/-- 'damperlaw22.PauseStates', WHERE WHAT IT READS IS OF BULK AT MOST 1048576: true; the input reads as it did. -/
def pauseStatesUptoRow : OpenClaim := { program := "ythhkcckikmldcaa", sum := "49da4d6875baf01b985c9ee8e1ed5d241dd14323aae223ecb46c59b5baeca7c9", func := "damper/damperlaw22.PauseStates", spec := "pauseStates", unfollowed := true, recurses := true, apart := false, narrowed := true }
def PauseStatesUptoSaid : Prop := pauseStatesUptoRow.holds Try.pinned (OpenSpec.upto pauseStatesSpec)

/-- 'damperlaw07.ConfigChecks', WHERE WHAT IT READS IS OF BULK AT MOST 1048576: true; the input reads as it did. -/
def configChecksUptoRow : OpenClaim := { program := "ythhkcckikmldcaa", sum := "49da4d6875baf01b985c9ee8e1ed5d241dd14323aae223ecb46c59b5baeca7c9", func := "damper/damperlaw07.ConfigChecks", spec := "configChecks", unfollowed := true, recurses := true, apart := false, narrowed := true }
def ConfigChecksUptoSaid : Prop := configChecksUptoRow.holds Try.pinned (OpenSpec.upto configChecksSpec)

/-- 'damperlaw22.PauseDecides', WHERE WHAT IT READS IS OF BULK AT MOST 1048576: true; the input reads as it did. -/
def pauseDecidesUptoRow : OpenClaim := { program := "ythhkcckikmldcaa", sum := "49da4d6875baf01b985c9ee8e1ed5d241dd14323aae223ecb46c59b5baeca7c9", func := "damper/damperlaw22.PauseDecides", spec := "pauseDecides", unfollowed := true, recurses := true, apart := false, narrowed := true }
def PauseDecidesUptoSaid : Prop := pauseDecidesUptoRow.holds Try.pinned (OpenSpec.upto pauseDecidesSpec)

/-- 'damperlaw22.PauseEnds', WHERE WHAT IT READS IS OF BULK AT MOST 1048576: true; the input reads as it did. -/
def pauseEndsUptoRow : OpenClaim := { program := "ythhkcckikmldcaa", sum := "49da4d6875baf01b985c9ee8e1ed5d241dd14323aae223ecb46c59b5baeca7c9", func := "damper/damperlaw22.PauseEnds", spec := "pauseEnds", unfollowed := true, recurses := true, apart := false, narrowed := true }
def PauseEndsUptoSaid : Prop := pauseEndsUptoRow.holds Try.pinned (OpenSpec.upto pauseEndsSpec)

/-- 'damperlaw23.BreakerPlays', WHERE WHAT IT READS IS OF BULK AT MOST 1048576: true; the input reads as it did. -/
def breakerPlaysUptoRow : OpenClaim := { program := "ythhkcckikmldcaa", sum := "49da4d6875baf01b985c9ee8e1ed5d241dd14323aae223ecb46c59b5baeca7c9", func := "damper/damperlaw23.BreakerPlays", spec := "breakerPlays", unfollowed := true, recurses := true, apart := false, narrowed := true }
def BreakerPlaysUptoSaid : Prop := breakerPlaysUptoRow.holds Try.pinned (OpenSpec.upto breakerPlaysSpec)

/-- 'damperlaw23.BreakerOnce', WHERE WHAT IT READS IS OF BULK AT MOST 1048576: true; the input reads as it did. -/
def breakerOnceUptoRow : OpenClaim := { program := "ythhkcckikmldcaa", sum := "49da4d6875baf01b985c9ee8e1ed5d241dd14323aae223ecb46c59b5baeca7c9", func := "damper/damperlaw23.BreakerOnce", spec := "breakerOnce", unfollowed := true, recurses := true, apart := false, narrowed := true }
def BreakerOnceUptoSaid : Prop := breakerOnceUptoRow.holds Try.pinned (OpenSpec.upto breakerOnceSpec)

/-- 'damperlaw23.BreakerFalls', WHERE WHAT IT READS IS OF BULK AT MOST 1048576: true; the input reads as it did. -/
def breakerFallsUptoRow : OpenClaim := { program := "ythhkcckikmldcaa", sum := "49da4d6875baf01b985c9ee8e1ed5d241dd14323aae223ecb46c59b5baeca7c9", func := "damper/damperlaw23.BreakerFalls", spec := "breakerFalls", unfollowed := true, recurses := true, apart := false, narrowed := true }
def BreakerFallsUptoSaid : Prop := breakerFallsUptoRow.holds Try.pinned (OpenSpec.upto breakerFallsSpec)

/-- 'damperlaw07.ConfigEncodes', WHERE WHAT IT READS IS OF BULK AT MOST 1048576: true; the input reads as it did. -/
def configEncodesUptoRow : OpenClaim := { program := "ythhkcckikmldcaa", sum := "49da4d6875baf01b985c9ee8e1ed5d241dd14323aae223ecb46c59b5baeca7c9", func := "damper/damperlaw07.ConfigEncodes", spec := "configEncodes", unfollowed := true, recurses := true, apart := false, narrowed := true }
def ConfigEncodesUptoSaid : Prop := configEncodesUptoRow.holds Try.pinned (OpenSpec.upto configEncodesSpec)

end Rows
end Go.Proofs.Ythhkcckikmldcaa
