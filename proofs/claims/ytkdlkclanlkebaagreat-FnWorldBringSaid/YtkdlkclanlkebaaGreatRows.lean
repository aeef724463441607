/-
  No cell of these rows narrows 'for every input' (looked for: loops, veiled, ifaces, maps, wideKeys, modest, calm, conditions, laid).
  DERIVED. THE GIVEN ROWS OF THIS SEAT. 27 by the template 'for every input the law returns true; each argument reads behind the call as it read before'; 0 by the template 'total and deterministic' (their statements: YtkdlkclanlkebaaGreatTotals.lean).
  GIVEN WITH THE SEED: the statements are not yours to turn. If you find one false, say at which input.
  Laid BY PROGRAM, IN A SANDBOX (cutbox-rows.mjs): the forced cells as the released guide's own fill.sh prints them over the translation 44e6313aac8f255a… (all of the seat's roots in one cut). By AI agents, Wed Nov 11 2026. No macro, syntax, notation, axiom, sorry.
-/
import Derived.Test.YtkdlkclanlkebaaGreatChecked
import GoSem.Claim
import GoSem.ClaimJoined
import GoSem.ClaimMapViews
import Derived.JoinedTies
import Derived.KernelRfl
namespace Go.Proofs.YtkdlkclanlkebaaGreat
/- THE CELL 'sum', in the pinned program and in every row, IS THE sha256 OF THE DUMP (.gsa) THAT YtkdlkclanlkebaaGreatProg.lean LOADS. Nothing in Lean hashes anything: it is a label: what it is worth is what the hold of that sum in a sandbox is worth. -/
noncomputable def Tryz.pinned : Pinned := { name := "ytkdlkclanlkebaagreat", sum := "44e6313aac8f255a7d4fb28ff201c82b08e586620ca89f45d1694562d7b58212", checked := Tryz.checked }
namespace Rows
def none {H : Type} : Left H := { results := [], args := [] }

/-- 'laws.FnWorldOnce': WHATEVER THE INPUT: true; the input reads as it did. -/
def fnWorldOnceSpec : ChangeSpec := { name := "fnWorldOnce", fn := fun _ => fun
  | [d] => { results := [.lit (.bool true)], args := [d] }
  | _ => none }
def fnWorldOnceRow : OpenClaim := { program := "ytkdlkclanlkebaagreat", sum := "44e6313aac8f255a7d4fb28ff201c82b08e586620ca89f45d1694562d7b58212", func := "loop.example/cerberus/laws.FnWorldOnce", spec := "fnWorldOnce", unfollowed := true, recurses := true, apart := false }
def FnWorldOnceSaid : Prop := fnWorldOnceRow.holds Tryz.pinned (OpenSpec.ofChange fnWorldOnceSpec)

/-- ITS FALSE NEIGHBOUR: 'it returns false'. Refute it at one input. -/
def fnWorldOnceWrong : ChangeSpec := { name := "fnWorldOnce", fn := fun _ => fun
  | [d] => { results := [.lit (.bool false)], args := [d] }
  | _ => none }
def FnWorldOnceWrongFalsely : Prop := fnWorldOnceRow.holds Tryz.pinned (OpenSpec.ofChange fnWorldOnceWrong)

/-- 'laws.FnWorldMutual': WHATEVER THE INPUT: true; the input reads as it did. -/
def fnWorldMutualSpec : ChangeSpec := { name := "fnWorldMutual", fn := fun _ => fun
  | [d] => { results := [.lit (.bool true)], args := [d] }
  | _ => none }
def fnWorldMutualRow : OpenClaim := { program := "ytkdlkclanlkebaagreat", sum := "44e6313aac8f255a7d4fb28ff201c82b08e586620ca89f45d1694562d7b58212", func := "loop.example/cerberus/laws.FnWorldMutual", spec := "fnWorldMutual", unfollowed := true, recurses := true, apart := false }
def FnWorldMutualSaid : Prop := fnWorldMutualRow.holds Tryz.pinned (OpenSpec.ofChange fnWorldMutualSpec)

/-- ITS FALSE NEIGHBOUR: 'it returns false'. Refute it at one input. -/
def fnWorldMutualWrong : ChangeSpec := { name := "fnWorldMutual", fn := fun _ => fun
  | [d] => { results := [.lit (.bool false)], args := [d] }
  | _ => none }
def FnWorldMutualWrongFalsely : Prop := fnWorldMutualRow.holds Tryz.pinned (OpenSpec.ofChange fnWorldMutualWrong)

/-- 'laws.FnWorldAuthentic': WHATEVER THE INPUT: true; the input reads as it did. -/
def fnWorldAuthenticSpec : ChangeSpec := { name := "fnWorldAuthentic", fn := fun _ => fun
  | [d] => { results := [.lit (.bool true)], args := [d] }
  | _ => none }
def fnWorldAuthenticRow : OpenClaim := { program := "ytkdlkclanlkebaagreat", sum := "44e6313aac8f255a7d4fb28ff201c82b08e586620ca89f45d1694562d7b58212", func := "loop.example/cerberus/laws.FnWorldAuthentic", spec := "fnWorldAuthentic", unfollowed := true, recurses := true, apart := false }
def FnWorldAuthenticSaid : Prop := fnWorldAuthenticRow.holds Tryz.pinned (OpenSpec.ofChange fnWorldAuthenticSpec)

/-- ITS FALSE NEIGHBOUR: 'it returns false'. Refute it at one input. -/
def fnWorldAuthenticWrong : ChangeSpec := { name := "fnWorldAuthentic", fn := fun _ => fun
  | [d] => { results := [.lit (.bool false)], args := [d] }
  | _ => none }
def FnWorldAuthenticWrongFalsely : Prop := fnWorldAuthenticRow.holds Tryz.pinned (OpenSpec.ofChange fnWorldAuthenticWrong)

/-- 'laws.FnWorldParts': WHATEVER THE INPUT: true; the input reads as it did. -/
def fnWorldPartsSpec : ChangeSpec := { name := "fnWorldParts", fn := fun _ => fun
  | [d] => { results := [.lit (.bool true)], args := [d] }
  | _ => none }
def fnWorldPartsRow : OpenClaim := { program := "ytkdlkclanlkebaagreat", sum := "44e6313aac8f255a7d4fb28ff201c82b08e586620ca89f45d1694562d7b58212", func := "loop.example/cerberus/laws.FnWorldParts", spec := "fnWorldParts", unfollowed := true, recurses := true, apart := false }
def FnWorldPartsSaid : Prop := fnWorldPartsRow.holds Tryz.pinned (OpenSpec.ofChange fnWorldPartsSpec)

/-- ITS FALSE NEIGHBOUR: 'it returns false'. Refute it at one input. -/
def fnWorldPartsWrong : ChangeSpec := { name := "fnWorldParts", fn := fun _ => fun
  | [d] => { results := [.lit (.bool false)], args := [d] }
  | _ => none }
def FnWorldPartsWrongFalsely : Prop := fnWorldPartsRow.holds Tryz.pinned (OpenSpec.ofChange fnWorldPartsWrong)

/-- 'laws.FnWorldCut': WHATEVER THE INPUT: true; the input reads as it did. -/
def fnWorldCutSpec : ChangeSpec := { name := "fnWorldCut", fn := fun _ => fun
  | [d1, d2] => { results := [.lit (.bool true)], args := [d1, d2] }
  | _ => none }
def fnWorldCutRow : OpenClaim := { program := "ytkdlkclanlkebaagreat", sum := "44e6313aac8f255a7d4fb28ff201c82b08e586620ca89f45d1694562d7b58212", func := "loop.example/cerberus/laws.FnWorldCut", spec := "fnWorldCut", unfollowed := true, recurses := true, apart := false }
def FnWorldCutSaid : Prop := fnWorldCutRow.holds Tryz.pinned (OpenSpec.ofChange fnWorldCutSpec)

/-- ITS FALSE NEIGHBOUR: 'it returns false'. Refute it at one input. -/
def fnWorldCutWrong : ChangeSpec := { name := "fnWorldCut", fn := fun _ => fun
  | [d1, d2] => { results := [.lit (.bool false)], args := [d1, d2] }
  | _ => none }
def FnWorldCutWrongFalsely : Prop := fnWorldCutRow.holds Tryz.pinned (OpenSpec.ofChange fnWorldCutWrong)

/-- 'laws.FnWorldDelay': WHATEVER THE INPUT: true; the input reads as it did. -/
def fnWorldDelaySpec : ChangeSpec := { name := "fnWorldDelay", fn := fun _ => fun
  | [d] => { results := [.lit (.bool true)], args := [d] }
  | _ => none }
def fnWorldDelayRow : OpenClaim := { program := "ytkdlkclanlkebaagreat", sum := "44e6313aac8f255a7d4fb28ff201c82b08e586620ca89f45d1694562d7b58212", func := "loop.example/cerberus/laws.FnWorldDelay", spec := "fnWorldDelay", unfollowed := true, recurses := true, apart := false }
def FnWorldDelaySaid : Prop := fnWorldDelayRow.holds Tryz.pinned (OpenSpec.ofChange fnWorldDelaySpec)

/-- ITS FALSE NEIGHBOUR: 'it returns false'. Refute it at one input. -/
def fnWorldDelayWrong : ChangeSpec := { name := "fnWorldDelay", fn := fun _ => fun
  | [d] => { results := [.lit (.bool false)], args := [d] }
  | _ => none }
def FnWorldDelayWrongFalsely : Prop := fnWorldDelayRow.holds Tryz.pinned (OpenSpec.ofChange fnWorldDelayWrong)

/-- 'laws.FnWorldFall': WHATEVER THE INPUT: true; the input reads as it did. -/
def fnWorldFallSpec : ChangeSpec := { name := "fnWorldFall", fn := fun _ => fun
  | [d1, d2] => { results := [.lit (.bool true)], args := [d1, d2] }
  | _ => none }
def fnWorldFallRow : OpenClaim := { program := "ytkdlkclanlkebaagreat", sum := "44e6313aac8f255a7d4fb28ff201c82b08e586620ca89f45d1694562d7b58212", func := "loop.example/cerberus/laws.FnWorldFall", spec := "fnWorldFall", unfollowed := true, recurses := true, apart := false }
def FnWorldFallSaid : Prop := fnWorldFallRow.holds Tryz.pinned (OpenSpec.ofChange fnWorldFallSpec)

/-- ITS FALSE NEIGHBOUR: 'it returns false'. Refute it at one input. -/
def fnWorldFallWrong : ChangeSpec := { name := "fnWorldFall", fn := fun _ => fun
  | [d1, d2] => { results := [.lit (.bool false)], args := [d1, d2] }
  | _ => none }
def FnWorldFallWrongFalsely : Prop := fnWorldFallRow.holds Tryz.pinned (OpenSpec.ofChange fnWorldFallWrong)

/-- 'laws.FnWorldReplay': WHATEVER THE INPUT: true; the input reads as it did. -/
def fnWorldReplaySpec : ChangeSpec := { name := "fnWorldReplay", fn := fun _ => fun
  | [d1, d2] => { results := [.lit (.bool true)], args := [d1, d2] }
  | _ => none }
def fnWorldReplayRow : OpenClaim := { program := "ytkdlkclanlkebaagreat", sum := "44e6313aac8f255a7d4fb28ff201c82b08e586620ca89f45d1694562d7b58212", func := "loop.example/cerberus/laws.FnWorldReplay", spec := "fnWorldReplay", unfollowed := true, recurses := true, apart := false }
def FnWorldReplaySaid : Prop := fnWorldReplayRow.holds Tryz.pinned (OpenSpec.ofChange fnWorldReplaySpec)

/-- ITS FALSE NEIGHBOUR: 'it returns false'. Refute it at one input. -/
def fnWorldReplayWrong : ChangeSpec := { name := "fnWorldReplay", fn := fun _ => fun
  | [d1, d2] => { results := [.lit (.bool false)], args := [d1, d2] }
  | _ => none }
def FnWorldReplayWrongFalsely : Prop := fnWorldReplayRow.holds Tryz.pinned (OpenSpec.ofChange fnWorldReplayWrong)

/-- 'laws.FnWorldMeet': WHATEVER THE INPUT: true; the input reads as it did. -/
def fnWorldMeetSpec : ChangeSpec := { name := "fnWorldMeet", fn := fun _ => fun
  | [d1, d2] => { results := [.lit (.bool true)], args := [d1, d2] }
  | _ => none }
def fnWorldMeetRow : OpenClaim := { program := "ytkdlkclanlkebaagreat", sum := "44e6313aac8f255a7d4fb28ff201c82b08e586620ca89f45d1694562d7b58212", func := "loop.example/cerberus/laws.FnWorldMeet", spec := "fnWorldMeet", unfollowed := true, recurses := true, apart := false }
def FnWorldMeetSaid : Prop := fnWorldMeetRow.holds Tryz.pinned (OpenSpec.ofChange fnWorldMeetSpec)

/-- ITS FALSE NEIGHBOUR: 'it returns false'. Refute it at one input. -/
def fnWorldMeetWrong : ChangeSpec := { name := "fnWorldMeet", fn := fun _ => fun
  | [d1, d2] => { results := [.lit (.bool false)], args := [d1, d2] }
  | _ => none }
def FnWorldMeetWrongFalsely : Prop := fnWorldMeetRow.holds Tryz.pinned (OpenSpec.ofChange fnWorldMeetWrong)

/-- 'laws.FnWorldMeetOthers': WHATEVER THE INPUT: true; the input reads as it did. -/
def fnWorldMeetOthersSpec : ChangeSpec := { name := "fnWorldMeetOthers", fn := fun _ => fun
  | [d1, d2] => { results := [.lit (.bool true)], args := [d1, d2] }
  | _ => none }
def fnWorldMeetOthersRow : OpenClaim := { program := "ytkdlkclanlkebaagreat", sum := "44e6313aac8f255a7d4fb28ff201c82b08e586620ca89f45d1694562d7b58212", func := "loop.example/cerberus/laws.FnWorldMeetOthers", spec := "fnWorldMeetOthers", unfollowed := true, recurses := true, apart := false }
def FnWorldMeetOthersSaid : Prop := fnWorldMeetOthersRow.holds Tryz.pinned (OpenSpec.ofChange fnWorldMeetOthersSpec)

/-- ITS FALSE NEIGHBOUR: 'it returns false'. Refute it at one input. -/
def fnWorldMeetOthersWrong : ChangeSpec := { name := "fnWorldMeetOthers", fn := fun _ => fun
  | [d1, d2] => { results := [.lit (.bool false)], args := [d1, d2] }
  | _ => none }
def FnWorldMeetOthersWrongFalsely : Prop := fnWorldMeetOthersRow.holds Tryz.pinned (OpenSpec.ofChange fnWorldMeetOthersWrong)

/-- 'laws.FnWorldMeetTwice': WHATEVER THE INPUT: true; the input reads as it did. -/
def fnWorldMeetTwiceSpec : ChangeSpec := { name := "fnWorldMeetTwice", fn := fun _ => fun
  | [d1, d2] => { results := [.lit (.bool true)], args := [d1, d2] }
  | _ => none }
def fnWorldMeetTwiceRow : OpenClaim := { program := "ytkdlkclanlkebaagreat", sum := "44e6313aac8f255a7d4fb28ff201c82b08e586620ca89f45d1694562d7b58212", func := "loop.example/cerberus/laws.FnWorldMeetTwice", spec := "fnWorldMeetTwice", unfollowed := true, recurses := true, apart := false }
def FnWorldMeetTwiceSaid : Prop := fnWorldMeetTwiceRow.holds Tryz.pinned (OpenSpec.ofChange fnWorldMeetTwiceSpec)

/-- ITS FALSE NEIGHBOUR: 'it returns false'. Refute it at one input. -/
def fnWorldMeetTwiceWrong : ChangeSpec := { name := "fnWorldMeetTwice", fn := fun _ => fun
  | [d1, d2] => { results := [.lit (.bool false)], args := [d1, d2] }
  | _ => none }
def FnWorldMeetTwiceWrongFalsely : Prop := fnWorldMeetTwiceRow.holds Tryz.pinned (OpenSpec.ofChange fnWorldMeetTwiceWrong)

/-- 'laws.FnWorldAuths': WHATEVER THE INPUT: true; the input reads as it did. -/
def fnWorldAuthsSpec : ChangeSpec := { name := "fnWorldAuths", fn := fun _ => fun
  | [d] => { results := [.lit (.bool true)], args := [d] }
  | _ => none }
def fnWorldAuthsRow : OpenClaim := { program := "ytkdlkclanlkebaagreat", sum := "44e6313aac8f255a7d4fb28ff201c82b08e586620ca89f45d1694562d7b58212", func := "loop.example/cerberus/laws.FnWorldAuths", spec := "fnWorldAuths", unfollowed := true, recurses := true, apart := false }
def FnWorldAuthsSaid : Prop := fnWorldAuthsRow.holds Tryz.pinned (OpenSpec.ofChange fnWorldAuthsSpec)

/-- ITS FALSE NEIGHBOUR: 'it returns false'. Refute it at one input. -/
def fnWorldAuthsWrong : ChangeSpec := { name := "fnWorldAuths", fn := fun _ => fun
  | [d] => { results := [.lit (.bool false)], args := [d] }
  | _ => none }
def FnWorldAuthsWrongFalsely : Prop := fnWorldAuthsRow.holds Tryz.pinned (OpenSpec.ofChange fnWorldAuthsWrong)

/-- 'laws.FnWorldBacks': WHATEVER THE INPUT: true; the input reads as it did. -/
def fnWorldBacksSpec : ChangeSpec := { name := "fnWorldBacks", fn := fun _ => fun
  | [d] => { results := [.lit (.bool true)], args := [d] }
  | _ => none }
def fnWorldBacksRow : OpenClaim := { program := "ytkdlkclanlkebaagreat", sum := "44e6313aac8f255a7d4fb28ff201c82b08e586620ca89f45d1694562d7b58212", func := "loop.example/cerberus/laws.FnWorldBacks", spec := "fnWorldBacks", unfollowed := true, recurses := true, apart := false }
def FnWorldBacksSaid : Prop := fnWorldBacksRow.holds Tryz.pinned (OpenSpec.ofChange fnWorldBacksSpec)

/-- ITS FALSE NEIGHBOUR: 'it returns false'. Refute it at one input. -/
def fnWorldBacksWrong : ChangeSpec := { name := "fnWorldBacks", fn := fun _ => fun
  | [d] => { results := [.lit (.bool false)], args := [d] }
  | _ => none }
def FnWorldBacksWrongFalsely : Prop := fnWorldBacksRow.holds Tryz.pinned (OpenSpec.ofChange fnWorldBacksWrong)

/-- 'laws.FnWorldTickets': WHATEVER THE INPUT: true; the input reads as it did. -/
def fnWorldTicketsSpec : ChangeSpec := { name := "fnWorldTickets", fn := fun _ => fun
  | [d] => { results := [.lit (.bool true)], args := [d] }
  | _ => none }
def fnWorldTicketsRow : OpenClaim := { program := "ytkdlkclanlkebaagreat", sum := "44e6313aac8f255a7d4fb28ff201c82b08e586620ca89f45d1694562d7b58212", func := "loop.example/cerberus/laws.FnWorldTickets", spec := "fnWorldTickets", unfollowed := true, recurses := true, apart := false }
def FnWorldTicketsSaid : Prop := fnWorldTicketsRow.holds Tryz.pinned (OpenSpec.ofChange fnWorldTicketsSpec)

/-- ITS FALSE NEIGHBOUR: 'it returns false'. Refute it at one input. -/
def fnWorldTicketsWrong : ChangeSpec := { name := "fnWorldTickets", fn := fun _ => fun
  | [d] => { results := [.lit (.bool false)], args := [d] }
  | _ => none }
def FnWorldTicketsWrongFalsely : Prop := fnWorldTicketsRow.holds Tryz.pinned (OpenSpec.ofChange fnWorldTicketsWrong)

/-- 'laws.FnWorldKeys': WHATEVER THE INPUT: true; the input reads as it did. -/
def fnWorldKeysSpec : ChangeSpec := { name := "fnWorldKeys", fn := fun _ => fun
  | [d] => { results := [.lit (.bool true)], args := [d] }
  | _ => none }
def fnWorldKeysRow : OpenClaim := { program := "ytkdlkclanlkebaagreat", sum := "44e6313aac8f255a7d4fb28ff201c82b08e586620ca89f45d1694562d7b58212", func := "loop.example/cerberus/laws.FnWorldKeys", spec := "fnWorldKeys", unfollowed := true, recurses := true, apart := false }
def FnWorldKeysSaid : Prop := fnWorldKeysRow.holds Tryz.pinned (OpenSpec.ofChange fnWorldKeysSpec)

/-- ITS FALSE NEIGHBOUR: 'it returns false'. Refute it at one input. -/
def fnWorldKeysWrong : ChangeSpec := { name := "fnWorldKeys", fn := fun _ => fun
  | [d] => { results := [.lit (.bool false)], args := [d] }
  | _ => none }
def FnWorldKeysWrongFalsely : Prop := fnWorldKeysRow.holds Tryz.pinned (OpenSpec.ofChange fnWorldKeysWrong)

/-- 'laws.FnWorldSecret': WHATEVER THE INPUT: true; the input reads as it did. -/
def fnWorldSecretSpec : ChangeSpec := { name := "fnWorldSecret", fn := fun _ => fun
  | [d] => { results := [.lit (.bool true)], args := [d] }
  | _ => none }
def fnWorldSecretRow : OpenClaim := { program := "ytkdlkclanlkebaagreat", sum := "44e6313aac8f255a7d4fb28ff201c82b08e586620ca89f45d1694562d7b58212", func := "loop.example/cerberus/laws.FnWorldSecret", spec := "fnWorldSecret", unfollowed := true, recurses := true, apart := false }
def FnWorldSecretSaid : Prop := fnWorldSecretRow.holds Tryz.pinned (OpenSpec.ofChange fnWorldSecretSpec)

/-- ITS FALSE NEIGHBOUR: 'it returns false'. Refute it at one input. -/
def fnWorldSecretWrong : ChangeSpec := { name := "fnWorldSecret", fn := fun _ => fun
  | [d] => { results := [.lit (.bool false)], args := [d] }
  | _ => none }
def FnWorldSecretWrongFalsely : Prop := fnWorldSecretRow.holds Tryz.pinned (OpenSpec.ofChange fnWorldSecretWrong)

/-- 'laws.FnWorldHonest': WHATEVER THE INPUT: true; the input reads as it did. -/
def fnWorldHonestSpec : ChangeSpec := { name := "fnWorldHonest", fn := fun _ => fun
  | [d] => { results := [.lit (.bool true)], args := [d] }
  | _ => none }
def fnWorldHonestRow : OpenClaim := { program := "ytkdlkclanlkebaagreat", sum := "44e6313aac8f255a7d4fb28ff201c82b08e586620ca89f45d1694562d7b58212", func := "loop.example/cerberus/laws.FnWorldHonest", spec := "fnWorldHonest", unfollowed := true, recurses := true, apart := false }
def FnWorldHonestSaid : Prop := fnWorldHonestRow.holds Tryz.pinned (OpenSpec.ofChange fnWorldHonestSpec)

/-- ITS FALSE NEIGHBOUR: 'it returns false'. Refute it at one input. -/
def fnWorldHonestWrong : ChangeSpec := { name := "fnWorldHonest", fn := fun _ => fun
  | [d] => { results := [.lit (.bool false)], args := [d] }
  | _ => none }
def FnWorldHonestWrongFalsely : Prop := fnWorldHonestRow.holds Tryz.pinned (OpenSpec.ofChange fnWorldHonestWrong)

/-- 'laws.FnWorldAlways': WHATEVER THE INPUT: true; the input reads as it did. -/
def fnWorldAlwaysSpec : ChangeSpec := { name := "fnWorldAlways", fn := fun _ => fun
  | [d1, d2] => { results := [.lit (.bool true)], args := [d1, d2] }
  | _ => none }
def fnWorldAlwaysRow : OpenClaim := { program := "ytkdlkclanlkebaagreat", sum := "44e6313aac8f255a7d4fb28ff201c82b08e586620ca89f45d1694562d7b58212", func := "loop.example/cerberus/laws.FnWorldAlways", spec := "fnWorldAlways", unfollowed := true, recurses := true, apart := false }
def FnWorldAlwaysSaid : Prop := fnWorldAlwaysRow.holds Tryz.pinned (OpenSpec.ofChange fnWorldAlwaysSpec)

/-- ITS FALSE NEIGHBOUR: 'it returns false'. Refute it at one input. -/
def fnWorldAlwaysWrong : ChangeSpec := { name := "fnWorldAlways", fn := fun _ => fun
  | [d1, d2] => { results := [.lit (.bool false)], args := [d1, d2] }
  | _ => none }
def FnWorldAlwaysWrongFalsely : Prop := fnWorldAlwaysRow.holds Tryz.pinned (OpenSpec.ofChange fnWorldAlwaysWrong)

/-- 'laws.FnWorldBring': WHATEVER THE INPUT: true; the input reads as it did. -/
def fnWorldBringSpec : ChangeSpec := { name := "fnWorldBring", fn := fun _ => fun
  | [d] => { results := [.lit (.bool true)], args := [d] }
  | _ => none }
def fnWorldBringRow : OpenClaim := { program := "ytkdlkclanlkebaagreat", sum := "44e6313aac8f255a7d4fb28ff201c82b08e586620ca89f45d1694562d7b58212", func := "loop.example/cerberus/laws.FnWorldBring", spec := "fnWorldBring", unfollowed := true, recurses := true, apart := false }
def FnWorldBringSaid : Prop := fnWorldBringRow.holds Tryz.pinned (OpenSpec.ofChange fnWorldBringSpec)

/-- ITS FALSE NEIGHBOUR: 'it returns false'. Refute it at one input. -/
def fnWorldBringWrong : ChangeSpec := { name := "fnWorldBring", fn := fun _ => fun
  | [d] => { results := [.lit (.bool false)], args := [d] }
  | _ => none }
def FnWorldBringWrongFalsely : Prop := fnWorldBringRow.holds Tryz.pinned (OpenSpec.ofChange fnWorldBringWrong)

/-- 'laws.FnWorldDo': WHATEVER THE INPUT: true; the input reads as it did. -/
def fnWorldDoSpec : ChangeSpec := { name := "fnWorldDo", fn := fun _ => fun
  | [d] => { results := [.lit (.bool true)], args := [d] }
  | _ => none }
def fnWorldDoRow : OpenClaim := { program := "ytkdlkclanlkebaagreat", sum := "44e6313aac8f255a7d4fb28ff201c82b08e586620ca89f45d1694562d7b58212", func := "loop.example/cerberus/laws.FnWorldDo", spec := "fnWorldDo", unfollowed := true, recurses := true, apart := false }
def FnWorldDoSaid : Prop := fnWorldDoRow.holds Tryz.pinned (OpenSpec.ofChange fnWorldDoSpec)

/-- ITS FALSE NEIGHBOUR: 'it returns false'. Refute it at one input. -/
def fnWorldDoWrong : ChangeSpec := { name := "fnWorldDo", fn := fun _ => fun
  | [d] => { results := [.lit (.bool false)], args := [d] }
  | _ => none }
def FnWorldDoWrongFalsely : Prop := fnWorldDoRow.holds Tryz.pinned (OpenSpec.ofChange fnWorldDoWrong)

/-- 'laws.FnWorldIdle': WHATEVER THE INPUT: true; the input reads as it did. -/
def fnWorldIdleSpec : ChangeSpec := { name := "fnWorldIdle", fn := fun _ => fun
  | [d] => { results := [.lit (.bool true)], args := [d] }
  | _ => none }
def fnWorldIdleRow : OpenClaim := { program := "ytkdlkclanlkebaagreat", sum := "44e6313aac8f255a7d4fb28ff201c82b08e586620ca89f45d1694562d7b58212", func := "loop.example/cerberus/laws.FnWorldIdle", spec := "fnWorldIdle", unfollowed := true, recurses := true, apart := false }
def FnWorldIdleSaid : Prop := fnWorldIdleRow.holds Tryz.pinned (OpenSpec.ofChange fnWorldIdleSpec)

/-- ITS FALSE NEIGHBOUR: 'it returns false'. Refute it at one input. -/
def fnWorldIdleWrong : ChangeSpec := { name := "fnWorldIdle", fn := fun _ => fun
  | [d] => { results := [.lit (.bool false)], args := [d] }
  | _ => none }
def FnWorldIdleWrongFalsely : Prop := fnWorldIdleRow.holds Tryz.pinned (OpenSpec.ofChange fnWorldIdleWrong)

/-- 'laws.FnWorldOthers': WHATEVER THE INPUT: true; the input reads as it did. -/
def fnWorldOthersSpec : ChangeSpec := { name := "fnWorldOthers", fn := fun _ => fun
  | [d] => { results := [.lit (.bool true)], args := [d] }
  | _ => none }
def fnWorldOthersRow : OpenClaim := { program := "ytkdlkclanlkebaagreat", sum := "44e6313aac8f255a7d4fb28ff201c82b08e586620ca89f45d1694562d7b58212", func := "loop.example/cerberus/laws.FnWorldOthers", spec := "fnWorldOthers", unfollowed := true, recurses := true, apart := false }
def FnWorldOthersSaid : Prop := fnWorldOthersRow.holds Tryz.pinned (OpenSpec.ofChange fnWorldOthersSpec)

/-- ITS FALSE NEIGHBOUR: 'it returns false'. Refute it at one input. -/
def fnWorldOthersWrong : ChangeSpec := { name := "fnWorldOthers", fn := fun _ => fun
  | [d] => { results := [.lit (.bool false)], args := [d] }
  | _ => none }
def FnWorldOthersWrongFalsely : Prop := fnWorldOthersRow.holds Tryz.pinned (OpenSpec.ofChange fnWorldOthersWrong)

/-- 'laws.FnWorldTick': WHATEVER THE INPUT: true; the input reads as it did. -/
def fnWorldTickSpec : ChangeSpec := { name := "fnWorldTick", fn := fun _ => fun
  | [d] => { results := [.lit (.bool true)], args := [d] }
  | _ => none }
def fnWorldTickRow : OpenClaim := { program := "ytkdlkclanlkebaagreat", sum := "44e6313aac8f255a7d4fb28ff201c82b08e586620ca89f45d1694562d7b58212", func := "loop.example/cerberus/laws.FnWorldTick", spec := "fnWorldTick", unfollowed := true, recurses := true, apart := false }
def FnWorldTickSaid : Prop := fnWorldTickRow.holds Tryz.pinned (OpenSpec.ofChange fnWorldTickSpec)

/-- ITS FALSE NEIGHBOUR: 'it returns false'. Refute it at one input. -/
def fnWorldTickWrong : ChangeSpec := { name := "fnWorldTick", fn := fun _ => fun
  | [d] => { results := [.lit (.bool false)], args := [d] }
  | _ => none }
def FnWorldTickWrongFalsely : Prop := fnWorldTickRow.holds Tryz.pinned (OpenSpec.ofChange fnWorldTickWrong)

/-- 'laws.FnWorldBadOwn': WHATEVER THE INPUT: true; the input reads as it did. -/
def fnWorldBadOwnSpec : ChangeSpec := { name := "fnWorldBadOwn", fn := fun _ => fun
  | [d1, d2] => { results := [.lit (.bool true)], args := [d1, d2] }
  | _ => none }
def fnWorldBadOwnRow : OpenClaim := { program := "ytkdlkclanlkebaagreat", sum := "44e6313aac8f255a7d4fb28ff201c82b08e586620ca89f45d1694562d7b58212", func := "loop.example/cerberus/laws.FnWorldBadOwn", spec := "fnWorldBadOwn", unfollowed := true, recurses := true, apart := false }
def FnWorldBadOwnSaid : Prop := fnWorldBadOwnRow.holds Tryz.pinned (OpenSpec.ofChange fnWorldBadOwnSpec)

/-- ITS FALSE NEIGHBOUR: 'it returns false'. Refute it at one input. -/
def fnWorldBadOwnWrong : ChangeSpec := { name := "fnWorldBadOwn", fn := fun _ => fun
  | [d1, d2] => { results := [.lit (.bool false)], args := [d1, d2] }
  | _ => none }
def FnWorldBadOwnWrongFalsely : Prop := fnWorldBadOwnRow.holds Tryz.pinned (OpenSpec.ofChange fnWorldBadOwnWrong)

/-- 'laws.FnWorldMeetSafe': WHATEVER THE INPUT: true; the input reads as it did. -/
def fnWorldMeetSafeSpec : ChangeSpec := { name := "fnWorldMeetSafe", fn := fun _ => fun
  | [d1, d2] => { results := [.lit (.bool true)], args := [d1, d2] }
  | _ => none }
def fnWorldMeetSafeRow : OpenClaim := { program := "ytkdlkclanlkebaagreat", sum := "44e6313aac8f255a7d4fb28ff201c82b08e586620ca89f45d1694562d7b58212", func := "loop.example/cerberus/laws.FnWorldMeetSafe", spec := "fnWorldMeetSafe", unfollowed := true, recurses := true, apart := false }
def FnWorldMeetSafeSaid : Prop := fnWorldMeetSafeRow.holds Tryz.pinned (OpenSpec.ofChange fnWorldMeetSafeSpec)

/-- ITS FALSE NEIGHBOUR: 'it returns false'. Refute it at one input. -/
def fnWorldMeetSafeWrong : ChangeSpec := { name := "fnWorldMeetSafe", fn := fun _ => fun
  | [d1, d2] => { results := [.lit (.bool false)], args := [d1, d2] }
  | _ => none }
def FnWorldMeetSafeWrongFalsely : Prop := fnWorldMeetSafeRow.holds Tryz.pinned (OpenSpec.ofChange fnWorldMeetSafeWrong)

/-- 'laws.FnWorldForge': WHATEVER THE INPUT: true; the input reads as it did. -/
def fnWorldForgeSpec : ChangeSpec := { name := "fnWorldForge", fn := fun _ => fun
  | [d] => { results := [.lit (.bool true)], args := [d] }
  | _ => none }
def fnWorldForgeRow : OpenClaim := { program := "ytkdlkclanlkebaagreat", sum := "44e6313aac8f255a7d4fb28ff201c82b08e586620ca89f45d1694562d7b58212", func := "loop.example/cerberus/laws.FnWorldForge", spec := "fnWorldForge", unfollowed := true, recurses := true, apart := false }
def FnWorldForgeSaid : Prop := fnWorldForgeRow.holds Tryz.pinned (OpenSpec.ofChange fnWorldForgeSpec)

/-- ITS FALSE NEIGHBOUR: 'it returns false'. Refute it at one input. -/
def fnWorldForgeWrong : ChangeSpec := { name := "fnWorldForge", fn := fun _ => fun
  | [d] => { results := [.lit (.bool false)], args := [d] }
  | _ => none }
def FnWorldForgeWrongFalsely : Prop := fnWorldForgeRow.holds Tryz.pinned (OpenSpec.ofChange fnWorldForgeWrong)

/-- 'laws.FnWorldBadOther': WHATEVER THE INPUT: true; the input reads as it did. -/
def fnWorldBadOtherSpec : ChangeSpec := { name := "fnWorldBadOther", fn := fun _ => fun
  | [d1, d2] => { results := [.lit (.bool true)], args := [d1, d2] }
  | _ => none }
def fnWorldBadOtherRow : OpenClaim := { program := "ytkdlkclanlkebaagreat", sum := "44e6313aac8f255a7d4fb28ff201c82b08e586620ca89f45d1694562d7b58212", func := "loop.example/cerberus/laws.FnWorldBadOther", spec := "fnWorldBadOther", unfollowed := true, recurses := true, apart := false }
def FnWorldBadOtherSaid : Prop := fnWorldBadOtherRow.holds Tryz.pinned (OpenSpec.ofChange fnWorldBadOtherSpec)

/-- ITS FALSE NEIGHBOUR: 'it returns false'. Refute it at one input. -/
def fnWorldBadOtherWrong : ChangeSpec := { name := "fnWorldBadOther", fn := fun _ => fun
  | [d1, d2] => { results := [.lit (.bool false)], args := [d1, d2] }
  | _ => none }
def FnWorldBadOtherWrongFalsely : Prop := fnWorldBadOtherRow.holds Tryz.pinned (OpenSpec.ofChange fnWorldBadOtherWrong)

/- THE SECOND FORM. 'bulk': how many values and letters a reading holds, each counted each time it is reached (what is shared counts as often as it is met; a slice's spare places count too). A statement '..UptoSaid' is the law's where the arguments, and the package variables that the reading takes, are together of bulk at most 1048576: NARROWER than '..Said'. Prove '..Said' where nothing that the law and all that it calls make is longer than what came in: it says more and counts as full. Else prove '..UptoSaid'. A law counts once. -/
mutual
def uptoBulk {H : Type} : DataW H → Nat
  | .lit (.string bytes) => bytes.length + 1
  | .lit _ => 1
  | .nil => 1
  | .ptr d => uptoBulk d + 1
  | .slice elems spare => uptoBulkAll elems + uptoBulkAll spare + 1
  | .agg parts => uptoBulkAll parts + 1
  | .iface _ d => uptoBulk d + 1
  | .map entries => uptoBulkEntries entries + 1
  | .held _ => 1
def uptoBulkAll {H : Type} : List (DataW H) → Nat
  | [] => 0
  | d :: r => uptoBulk d + uptoBulkAll r
def uptoBulkEntries {H : Type} : List (Lit × DataW H) → Nat
  | [] => 0
  | x :: r => uptoBulkEntry x + uptoBulkEntries r
def uptoBulkEntry {H : Type} : Lit × DataW H → Nat
  | (.string bytes, d) => bytes.length + uptoBulk d + 1
  | (_, d) => uptoBulk d + 1
 end
def uptoSmall : (H : Type) → List (DataW H) → Bool := fun _ ds => decide (uptoBulkAll ds ≤ 1048576)
def OpenSpec.upto (s : _root_.Go.ChangeSpec) : _root_.Go.OpenSpec := { _root_.Go.OpenSpec.ofChange s with cond := some uptoSmall }

/-- 'laws.FnWorldOnce', WHERE WHAT IT READS IS OF BULK AT MOST 1048576: true; the input reads as it did. -/
def fnWorldOnceUptoRow : OpenClaim := { program := "ytkdlkclanlkebaagreat", sum := "44e6313aac8f255a7d4fb28ff201c82b08e586620ca89f45d1694562d7b58212", func := "loop.example/cerberus/laws.FnWorldOnce", spec := "fnWorldOnce", unfollowed := true, recurses := true, apart := false, narrowed := true }
def FnWorldOnceUptoSaid : Prop := fnWorldOnceUptoRow.holds Tryz.pinned (OpenSpec.upto fnWorldOnceSpec)

/-- 'laws.FnWorldMutual', WHERE WHAT IT READS IS OF BULK AT MOST 1048576: true; the input reads as it did. -/
def fnWorldMutualUptoRow : OpenClaim := { program := "ytkdlkclanlkebaagreat", sum := "44e6313aac8f255a7d4fb28ff201c82b08e586620ca89f45d1694562d7b58212", func := "loop.example/cerberus/laws.FnWorldMutual", spec := "fnWorldMutual", unfollowed := true, recurses := true, apart := false, narrowed := true }
def FnWorldMutualUptoSaid : Prop := fnWorldMutualUptoRow.holds Tryz.pinned (OpenSpec.upto fnWorldMutualSpec)

/-- 'laws.FnWorldAuthentic', WHERE WHAT IT READS IS OF BULK AT MOST 1048576: true; the input reads as it did. -/
def fnWorldAuthenticUptoRow : OpenClaim := { program := "ytkdlkclanlkebaagreat", sum := "44e6313aac8f255a7d4fb28ff201c82b08e586620ca89f45d1694562d7b58212", func := "loop.example/cerberus/laws.FnWorldAuthentic", spec := "fnWorldAuthentic", unfollowed := true, recurses := true, apart := false, narrowed := true }
def FnWorldAuthenticUptoSaid : Prop := fnWorldAuthenticUptoRow.holds Tryz.pinned (OpenSpec.upto fnWorldAuthenticSpec)

/-- 'laws.FnWorldParts', WHERE WHAT IT READS IS OF BULK AT MOST 1048576: true; the input reads as it did. -/
def fnWorldPartsUptoRow : OpenClaim := { program := "ytkdlkclanlkebaagreat", sum := "44e6313aac8f255a7d4fb28ff201c82b08e586620ca89f45d1694562d7b58212", func := "loop.example/cerberus/laws.FnWorldParts", spec := "fnWorldParts", unfollowed := true, recurses := true, apart := false, narrowed := true }
def FnWorldPartsUptoSaid : Prop := fnWorldPartsUptoRow.holds Tryz.pinned (OpenSpec.upto fnWorldPartsSpec)

/-- 'laws.FnWorldCut', WHERE WHAT IT READS IS OF BULK AT MOST 1048576: true; the input reads as it did. -/
def fnWorldCutUptoRow : OpenClaim := { program := "ytkdlkclanlkebaagreat", sum := "44e6313aac8f255a7d4fb28ff201c82b08e586620ca89f45d1694562d7b58212", func := "loop.example/cerberus/laws.FnWorldCut", spec := "fnWorldCut", unfollowed := true, recurses := true, apart := false, narrowed := true }
def FnWorldCutUptoSaid : Prop := fnWorldCutUptoRow.holds Tryz.pinned (OpenSpec.upto fnWorldCutSpec)

/-- 'laws.FnWorldDelay', WHERE WHAT IT READS IS OF BULK AT MOST 1048576: true; the input reads as it did. -/
def fnWorldDelayUptoRow : OpenClaim := { program := "ytkdlkclanlkebaagreat", sum := "44e6313aac8f255a7d4fb28ff201c82b08e586620ca89f45d1694562d7b58212", func := "loop.example/cerberus/laws.FnWorldDelay", spec := "fnWorldDelay", unfollowed := true, recurses := true, apart := false, narrowed := true }
def FnWorldDelayUptoSaid : Prop := fnWorldDelayUptoRow.holds Tryz.pinned (OpenSpec.upto fnWorldDelaySpec)

/-- 'laws.FnWorldFall', WHERE WHAT IT READS IS OF BULK AT MOST 1048576: true; the input reads as it did. -/
def fnWorldFallUptoRow : OpenClaim := { program := "ytkdlkclanlkebaagreat", sum := "44e6313aac8f255a7d4fb28ff201c82b08e586620ca89f45d1694562d7b58212", func := "loop.example/cerberus/laws.FnWorldFall", spec := "fnWorldFall", unfollowed := true, recurses := true, apart := false, narrowed := true }
def FnWorldFallUptoSaid : Prop := fnWorldFallUptoRow.holds Tryz.pinned (OpenSpec.upto fnWorldFallSpec)

/-- 'laws.FnWorldReplay', WHERE WHAT IT READS IS OF BULK AT MOST 1048576: true; the input reads as it did. -/
def fnWorldReplayUptoRow : OpenClaim := { program := "ytkdlkclanlkebaagreat", sum := "44e6313aac8f255a7d4fb28ff201c82b08e586620ca89f45d1694562d7b58212", func := "loop.example/cerberus/laws.FnWorldReplay", spec := "fnWorldReplay", unfollowed := true, recurses := true, apart := false, narrowed := true }
def FnWorldReplayUptoSaid : Prop := fnWorldReplayUptoRow.holds Tryz.pinned (OpenSpec.upto fnWorldReplaySpec)

/-- 'laws.FnWorldMeet', WHERE WHAT IT READS IS OF BULK AT MOST 1048576: true; the input reads as it did. -/
def fnWorldMeetUptoRow : OpenClaim := { program := "ytkdlkclanlkebaagreat", sum := "44e6313aac8f255a7d4fb28ff201c82b08e586620ca89f45d1694562d7b58212", func := "loop.example/cerberus/laws.FnWorldMeet", spec := "fnWorldMeet", unfollowed := true, recurses := true, apart := false, narrowed := true }
def FnWorldMeetUptoSaid : Prop := fnWorldMeetUptoRow.holds Tryz.pinned (OpenSpec.upto fnWorldMeetSpec)

/-- 'laws.FnWorldMeetOthers', WHERE WHAT IT READS IS OF BULK AT MOST 1048576: true; the input reads as it did. -/
def fnWorldMeetOthersUptoRow : OpenClaim := { program := "ytkdlkclanlkebaagreat", sum := "44e6313aac8f255a7d4fb28ff201c82b08e586620ca89f45d1694562d7b58212", func := "loop.example/cerberus/laws.FnWorldMeetOthers", spec := "fnWorldMeetOthers", unfollowed := true, recurses := true, apart := false, narrowed := true }
def FnWorldMeetOthersUptoSaid : Prop := fnWorldMeetOthersUptoRow.holds Tryz.pinned (OpenSpec.upto fnWorldMeetOthersSpec)

/-- 'laws.FnWorldMeetTwice', WHERE WHAT IT READS IS OF BULK AT MOST 1048576: true; the input reads as it did. -/
def fnWorldMeetTwiceUptoRow : OpenClaim := { program := "ytkdlkclanlkebaagreat", sum := "44e6313aac8f255a7d4fb28ff201c82b08e586620ca89f45d1694562d7b58212", func := "loop.example/cerberus/laws.FnWorldMeetTwice", spec := "fnWorldMeetTwice", unfollowed := true, recurses := true, apart := false, narrowed := true }
def FnWorldMeetTwiceUptoSaid : Prop := fnWorldMeetTwiceUptoRow.holds Tryz.pinned (OpenSpec.upto fnWorldMeetTwiceSpec)

/-- 'laws.FnWorldAuths', WHERE WHAT IT READS IS OF BULK AT MOST 1048576: true; the input reads as it did. -/
def fnWorldAuthsUptoRow : OpenClaim := { program := "ytkdlkclanlkebaagreat", sum := "44e6313aac8f255a7d4fb28ff201c82b08e586620ca89f45d1694562d7b58212", func := "loop.example/cerberus/laws.FnWorldAuths", spec := "fnWorldAuths", unfollowed := true, recurses := true, apart := false, narrowed := true }
def FnWorldAuthsUptoSaid : Prop := fnWorldAuthsUptoRow.holds Tryz.pinned (OpenSpec.upto fnWorldAuthsSpec)

/-- 'laws.FnWorldBacks', WHERE WHAT IT READS IS OF BULK AT MOST 1048576: true; the input reads as it did. -/
def fnWorldBacksUptoRow : OpenClaim := { program := "ytkdlkclanlkebaagreat", sum := "44e6313aac8f255a7d4fb28ff201c82b08e586620ca89f45d1694562d7b58212", func := "loop.example/cerberus/laws.FnWorldBacks", spec := "fnWorldBacks", unfollowed := true, recurses := true, apart := false, narrowed := true }
def FnWorldBacksUptoSaid : Prop := fnWorldBacksUptoRow.holds Tryz.pinned (OpenSpec.upto fnWorldBacksSpec)

/-- 'laws.FnWorldTickets', WHERE WHAT IT READS IS OF BULK AT MOST 1048576: true; the input reads as it did. -/
def fnWorldTicketsUptoRow : OpenClaim := { program := "ytkdlkclanlkebaagreat", sum := "44e6313aac8f255a7d4fb28ff201c82b08e586620ca89f45d1694562d7b58212", func := "loop.example/cerberus/laws.FnWorldTickets", spec := "fnWorldTickets", unfollowed := true, recurses := true, apart := false, narrowed := true }
def FnWorldTicketsUptoSaid : Prop := fnWorldTicketsUptoRow.holds Tryz.pinned (OpenSpec.upto fnWorldTicketsSpec)

/-- 'laws.FnWorldKeys', WHERE WHAT IT READS IS OF BULK AT MOST 1048576: true; the input reads as it did. -/
def fnWorldKeysUptoRow : OpenClaim := { program := "ytkdlkclanlkebaagreat", sum := "44e6313aac8f255a7d4fb28ff201c82b08e586620ca89f45d1694562d7b58212", func := "loop.example/cerberus/laws.FnWorldKeys", spec := "fnWorldKeys", unfollowed := true, recurses := true, apart := false, narrowed := true }
def FnWorldKeysUptoSaid : Prop := fnWorldKeysUptoRow.holds Tryz.pinned (OpenSpec.upto fnWorldKeysSpec)

/-- 'laws.FnWorldSecret', WHERE WHAT IT READS IS OF BULK AT MOST 1048576: true; the input reads as it did. -/
def fnWorldSecretUptoRow : OpenClaim := { program := "ytkdlkclanlkebaagreat", sum := "44e6313aac8f255a7d4fb28ff201c82b08e586620ca89f45d1694562d7b58212", func := "loop.example/cerberus/laws.FnWorldSecret", spec := "fnWorldSecret", unfollowed := true, recurses := true, apart := false, narrowed := true }
def FnWorldSecretUptoSaid : Prop := fnWorldSecretUptoRow.holds Tryz.pinned (OpenSpec.upto fnWorldSecretSpec)

/-- 'laws.FnWorldHonest', WHERE WHAT IT READS IS OF BULK AT MOST 1048576: true; the input reads as it did. -/
def fnWorldHonestUptoRow : OpenClaim := { program := "ytkdlkclanlkebaagreat", sum := "44e6313aac8f255a7d4fb28ff201c82b08e586620ca89f45d1694562d7b58212", func := "loop.example/cerberus/laws.FnWorldHonest", spec := "fnWorldHonest", unfollowed := true, recurses := true, apart := false, narrowed := true }
def FnWorldHonestUptoSaid : Prop := fnWorldHonestUptoRow.holds Tryz.pinned (OpenSpec.upto fnWorldHonestSpec)

/-- 'laws.FnWorldAlways', WHERE WHAT IT READS IS OF BULK AT MOST 1048576: true; the input reads as it did. -/
def fnWorldAlwaysUptoRow : OpenClaim := { program := "ytkdlkclanlkebaagreat", sum := "44e6313aac8f255a7d4fb28ff201c82b08e586620ca89f45d1694562d7b58212", func := "loop.example/cerberus/laws.FnWorldAlways", spec := "fnWorldAlways", unfollowed := true, recurses := true, apart := false, narrowed := true }
def FnWorldAlwaysUptoSaid : Prop := fnWorldAlwaysUptoRow.holds Tryz.pinned (OpenSpec.upto fnWorldAlwaysSpec)

/-- 'laws.FnWorldBring', WHERE WHAT IT READS IS OF BULK AT MOST 1048576: true; the input reads as it did. -/
def fnWorldBringUptoRow : OpenClaim := { program := "ytkdlkclanlkebaagreat", sum := "44e6313aac8f255a7d4fb28ff201c82b08e586620ca89f45d1694562d7b58212", func := "loop.example/cerberus/laws.FnWorldBring", spec := "fnWorldBring", unfollowed := true, recurses := true, apart := false, narrowed := true }
def FnWorldBringUptoSaid : Prop := fnWorldBringUptoRow.holds Tryz.pinned (OpenSpec.upto fnWorldBringSpec)

/-- 'laws.FnWorldDo', WHERE WHAT IT READS IS OF BULK AT MOST 1048576: true; the input reads as it did. -/
def fnWorldDoUptoRow : OpenClaim := { program := "ytkdlkclanlkebaagreat", sum := "44e6313aac8f255a7d4fb28ff201c82b08e586620ca89f45d1694562d7b58212", func := "loop.example/cerberus/laws.FnWorldDo", spec := "fnWorldDo", unfollowed := true, recurses := true, apart := false, narrowed := true }
def FnWorldDoUptoSaid : Prop := fnWorldDoUptoRow.holds Tryz.pinned (OpenSpec.upto fnWorldDoSpec)

/-- 'laws.FnWorldIdle', WHERE WHAT IT READS IS OF BULK AT MOST 1048576: true; the input reads as it did. -/
def fnWorldIdleUptoRow : OpenClaim := { program := "ytkdlkclanlkebaagreat", sum := "44e6313aac8f255a7d4fb28ff201c82b08e586620ca89f45d1694562d7b58212", func := "loop.example/cerberus/laws.FnWorldIdle", spec := "fnWorldIdle", unfollowed := true, recurses := true, apart := false, narrowed := true }
def FnWorldIdleUptoSaid : Prop := fnWorldIdleUptoRow.holds Tryz.pinned (OpenSpec.upto fnWorldIdleSpec)

/-- 'laws.FnWorldOthers', WHERE WHAT IT READS IS OF BULK AT MOST 1048576: true; the input reads as it did. -/
def fnWorldOthersUptoRow : OpenClaim := { program := "ytkdlkclanlkebaagreat", sum := "44e6313aac8f255a7d4fb28ff201c82b08e586620ca89f45d1694562d7b58212", func := "loop.example/cerberus/laws.FnWorldOthers", spec := "fnWorldOthers", unfollowed := true, recurses := true, apart := false, narrowed := true }
def FnWorldOthersUptoSaid : Prop := fnWorldOthersUptoRow.holds Tryz.pinned (OpenSpec.upto fnWorldOthersSpec)

/-- 'laws.FnWorldTick', WHERE WHAT IT READS IS OF BULK AT MOST 1048576: true; the input reads as it did. -/
def fnWorldTickUptoRow : OpenClaim := { program := "ytkdlkclanlkebaagreat", sum := "44e6313aac8f255a7d4fb28ff201c82b08e586620ca89f45d1694562d7b58212", func := "loop.example/cerberus/laws.FnWorldTick", spec := "fnWorldTick", unfollowed := true, recurses := true, apart := false, narrowed := true }
def FnWorldTickUptoSaid : Prop := fnWorldTickUptoRow.holds Tryz.pinned (OpenSpec.upto fnWorldTickSpec)

/-- 'laws.FnWorldBadOwn', WHERE WHAT IT READS IS OF BULK AT MOST 1048576: true; the input reads as it did. -/
def fnWorldBadOwnUptoRow : OpenClaim := { program := "ytkdlkclanlkebaagreat", sum := "44e6313aac8f255a7d4fb28ff201c82b08e586620ca89f45d1694562d7b58212", func := "loop.example/cerberus/laws.FnWorldBadOwn", spec := "fnWorldBadOwn", unfollowed := true, recurses := true, apart := false, narrowed := true }
def FnWorldBadOwnUptoSaid : Prop := fnWorldBadOwnUptoRow.holds Tryz.pinned (OpenSpec.upto fnWorldBadOwnSpec)

/-- 'laws.FnWorldMeetSafe', WHERE WHAT IT READS IS OF BULK AT MOST 1048576: true; the input reads as it did. -/
def fnWorldMeetSafeUptoRow : OpenClaim := { program := "ytkdlkclanlkebaagreat", sum := "44e6313aac8f255a7d4fb28ff201c82b08e586620ca89f45d1694562d7b58212", func := "loop.example/cerberus/laws.FnWorldMeetSafe", spec := "fnWorldMeetSafe", unfollowed := true, recurses := true, apart := false, narrowed := true }
def FnWorldMeetSafeUptoSaid : Prop := fnWorldMeetSafeUptoRow.holds Tryz.pinned (OpenSpec.upto fnWorldMeetSafeSpec)

/-- 'laws.FnWorldForge', WHERE WHAT IT READS IS OF BULK AT MOST 1048576: true; the input reads as it did. -/
def fnWorldForgeUptoRow : OpenClaim := { program := "ytkdlkclanlkebaagreat", sum := "44e6313aac8f255a7d4fb28ff201c82b08e586620ca89f45d1694562d7b58212", func := "loop.example/cerberus/laws.FnWorldForge", spec := "fnWorldForge", unfollowed := true, recurses := true, apart := false, narrowed := true }
def FnWorldForgeUptoSaid : Prop := fnWorldForgeUptoRow.holds Tryz.pinned (OpenSpec.upto fnWorldForgeSpec)

/-- 'laws.FnWorldBadOther', WHERE WHAT IT READS IS OF BULK AT MOST 1048576: true; the input reads as it did. -/
def fnWorldBadOtherUptoRow : OpenClaim := { program := "ytkdlkclanlkebaagreat", sum := "44e6313aac8f255a7d4fb28ff201c82b08e586620ca89f45d1694562d7b58212", func := "loop.example/cerberus/laws.FnWorldBadOther", spec := "fnWorldBadOther", unfollowed := true, recurses := true, apart := false, narrowed := true }
def FnWorldBadOtherUptoSaid : Prop := fnWorldBadOtherUptoRow.holds Tryz.pinned (OpenSpec.upto fnWorldBadOtherSpec)

end Rows
end Go.Proofs.YtkdlkclanlkebaaGreat
