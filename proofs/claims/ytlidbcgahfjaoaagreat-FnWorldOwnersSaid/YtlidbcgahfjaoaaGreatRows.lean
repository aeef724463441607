/-
  No cell of these rows narrows 'for every input' (looked for: loops, veiled, ifaces, maps, wideKeys, modest, calm, conditions, laid).
  DERIVED. THE GIVEN ROWS OF THIS SEAT. 6 by the template 'for every input the law returns true; each argument reads behind the call as it read before'; 0 by the template 'total and deterministic' (their statements: YtlidbcgahfjaoaaGreatTotals.lean).
  GIVEN WITH THE SEED: the statements are not yours to turn. If you find one false, say at which input.
  Laid BY PROGRAM, IN A SANDBOX (cutbox-rows.mjs): the forced cells as the released guide's own fill.sh prints them over the translation acfdc8873ae758c7… (all of the seat's roots in one cut). By AI agents, Wed Nov 11 2026. No macro, syntax, notation, axiom, sorry.
-/
import Derived.Test.YtlidbcgahfjaoaaGreatChecked
import GoSem.Claim
import GoSem.ClaimJoined
import GoSem.ClaimMapViews
import Derived.JoinedTies
import Derived.KernelRfl
namespace Go.Proofs.YtlidbcgahfjaoaaGreat
/- THE CELL 'sum', in the pinned program and in every row, IS THE sha256 OF THE DUMP (.gsa) THAT YtlidbcgahfjaoaaGreatProg.lean LOADS. Nothing in Lean hashes anything: it is a label: what it is worth is what the hold of that sum in a sandbox is worth. -/
noncomputable def Tryz.pinned : Pinned := { name := "ytlidbcgahfjaoaagreat", sum := "acfdc8873ae758c77f336c989d2ee93d38b90985b70cc32fb25c02ef8afeec36", checked := Tryz.checked }
namespace Rows
def none {H : Type} : Left H := { results := [], args := [] }

/-- 'laws.FnWorldLog': WHATEVER THE INPUT: true; the input reads as it did. -/
def fnWorldLogSpec : ChangeSpec := { name := "fnWorldLog", fn := fun _ => fun
  | [d] => { results := [.lit (.bool true)], args := [d] }
  | _ => none }
def fnWorldLogRow : OpenClaim := { program := "ytlidbcgahfjaoaagreat", sum := "acfdc8873ae758c77f336c989d2ee93d38b90985b70cc32fb25c02ef8afeec36", func := "loop.example/cerberus/laws.FnWorldLog", spec := "fnWorldLog", unfollowed := true, recurses := true, apart := false }
def FnWorldLogSaid : Prop := fnWorldLogRow.holds Tryz.pinned (OpenSpec.ofChange fnWorldLogSpec)

/-- ITS FALSE NEIGHBOUR: 'it returns false'. Refute it at one input. -/
def fnWorldLogWrong : ChangeSpec := { name := "fnWorldLog", fn := fun _ => fun
  | [d] => { results := [.lit (.bool false)], args := [d] }
  | _ => none }
def FnWorldLogWrongFalsely : Prop := fnWorldLogRow.holds Tryz.pinned (OpenSpec.ofChange fnWorldLogWrong)

/-- 'laws.FnWorldOwners': WHATEVER THE INPUT: true; the input reads as it did. -/
def fnWorldOwnersSpec : ChangeSpec := { name := "fnWorldOwners", fn := fun _ => fun
  | [d] => { results := [.lit (.bool true)], args := [d] }
  | _ => none }
def fnWorldOwnersRow : OpenClaim := { program := "ytlidbcgahfjaoaagreat", sum := "acfdc8873ae758c77f336c989d2ee93d38b90985b70cc32fb25c02ef8afeec36", func := "loop.example/cerberus/laws.FnWorldOwners", spec := "fnWorldOwners", unfollowed := true, recurses := true, apart := false }
def FnWorldOwnersSaid : Prop := fnWorldOwnersRow.holds Tryz.pinned (OpenSpec.ofChange fnWorldOwnersSpec)

/-- ITS FALSE NEIGHBOUR: 'it returns false'. Refute it at one input. -/
def fnWorldOwnersWrong : ChangeSpec := { name := "fnWorldOwners", fn := fun _ => fun
  | [d] => { results := [.lit (.bool false)], args := [d] }
  | _ => none }
def FnWorldOwnersWrongFalsely : Prop := fnWorldOwnersRow.holds Tryz.pinned (OpenSpec.ofChange fnWorldOwnersWrong)

/-- 'laws.FnWorldPeers': WHATEVER THE INPUT: true; the input reads as it did. -/
def fnWorldPeersSpec : ChangeSpec := { name := "fnWorldPeers", fn := fun _ => fun
  | [d] => { results := [.lit (.bool true)], args := [d] }
  | _ => none }
def fnWorldPeersRow : OpenClaim := { program := "ytlidbcgahfjaoaagreat", sum := "acfdc8873ae758c77f336c989d2ee93d38b90985b70cc32fb25c02ef8afeec36", func := "loop.example/cerberus/laws.FnWorldPeers", spec := "fnWorldPeers", unfollowed := true, recurses := true, apart := false }
def FnWorldPeersSaid : Prop := fnWorldPeersRow.holds Tryz.pinned (OpenSpec.ofChange fnWorldPeersSpec)

/-- ITS FALSE NEIGHBOUR: 'it returns false'. Refute it at one input. -/
def fnWorldPeersWrong : ChangeSpec := { name := "fnWorldPeers", fn := fun _ => fun
  | [d] => { results := [.lit (.bool false)], args := [d] }
  | _ => none }
def FnWorldPeersWrongFalsely : Prop := fnWorldPeersRow.holds Tryz.pinned (OpenSpec.ofChange fnWorldPeersWrong)

/-- 'laws.FnWorldServs': WHATEVER THE INPUT: true; the input reads as it did. -/
def fnWorldServsSpec : ChangeSpec := { name := "fnWorldServs", fn := fun _ => fun
  | [d] => { results := [.lit (.bool true)], args := [d] }
  | _ => none }
def fnWorldServsRow : OpenClaim := { program := "ytlidbcgahfjaoaagreat", sum := "acfdc8873ae758c77f336c989d2ee93d38b90985b70cc32fb25c02ef8afeec36", func := "loop.example/cerberus/laws.FnWorldServs", spec := "fnWorldServs", unfollowed := true, recurses := true, apart := false }
def FnWorldServsSaid : Prop := fnWorldServsRow.holds Tryz.pinned (OpenSpec.ofChange fnWorldServsSpec)

/-- ITS FALSE NEIGHBOUR: 'it returns false'. Refute it at one input. -/
def fnWorldServsWrong : ChangeSpec := { name := "fnWorldServs", fn := fun _ => fun
  | [d] => { results := [.lit (.bool false)], args := [d] }
  | _ => none }
def FnWorldServsWrongFalsely : Prop := fnWorldServsRow.holds Tryz.pinned (OpenSpec.ofChange fnWorldServsWrong)

/-- 'laws.FnWorldTimes': WHATEVER THE INPUT: true; the input reads as it did. -/
def fnWorldTimesSpec : ChangeSpec := { name := "fnWorldTimes", fn := fun _ => fun
  | [d] => { results := [.lit (.bool true)], args := [d] }
  | _ => none }
def fnWorldTimesRow : OpenClaim := { program := "ytlidbcgahfjaoaagreat", sum := "acfdc8873ae758c77f336c989d2ee93d38b90985b70cc32fb25c02ef8afeec36", func := "loop.example/cerberus/laws.FnWorldTimes", spec := "fnWorldTimes", unfollowed := true, recurses := true, apart := false }
def FnWorldTimesSaid : Prop := fnWorldTimesRow.holds Tryz.pinned (OpenSpec.ofChange fnWorldTimesSpec)

/-- ITS FALSE NEIGHBOUR: 'it returns false'. Refute it at one input. -/
def fnWorldTimesWrong : ChangeSpec := { name := "fnWorldTimes", fn := fun _ => fun
  | [d] => { results := [.lit (.bool false)], args := [d] }
  | _ => none }
def FnWorldTimesWrongFalsely : Prop := fnWorldTimesRow.holds Tryz.pinned (OpenSpec.ofChange fnWorldTimesWrong)

/-- 'laws.FnWorldUnheard': WHATEVER THE INPUT: true; the input reads as it did. -/
def fnWorldUnheardSpec : ChangeSpec := { name := "fnWorldUnheard", fn := fun _ => fun
  | [d] => { results := [.lit (.bool true)], args := [d] }
  | _ => none }
def fnWorldUnheardRow : OpenClaim := { program := "ytlidbcgahfjaoaagreat", sum := "acfdc8873ae758c77f336c989d2ee93d38b90985b70cc32fb25c02ef8afeec36", func := "loop.example/cerberus/laws.FnWorldUnheard", spec := "fnWorldUnheard", unfollowed := true, recurses := true, apart := false }
def FnWorldUnheardSaid : Prop := fnWorldUnheardRow.holds Tryz.pinned (OpenSpec.ofChange fnWorldUnheardSpec)

/-- ITS FALSE NEIGHBOUR: 'it returns false'. Refute it at one input. -/
def fnWorldUnheardWrong : ChangeSpec := { name := "fnWorldUnheard", fn := fun _ => fun
  | [d] => { results := [.lit (.bool false)], args := [d] }
  | _ => none }
def FnWorldUnheardWrongFalsely : Prop := fnWorldUnheardRow.holds Tryz.pinned (OpenSpec.ofChange fnWorldUnheardWrong)

/- THE SECOND FORM. 'bulk': how many values and letters a reading holds, each counted each time it is reached (what is shared counts as often as it is met; a slice's spare places count too). A statement '..UptoSaid' is the law's where the arguments, and the package variables that the reading takes, are together of bulk at most 1048576: NARROWER than '..Said'. Prove '..Said' where nothing that the law and all that it calls make is longer than what came in: it says more and counts as full. Else prove '..UptoSaid'. A law counts once. -/
mutual
def uptoBulk {H : Type} : DataW H → Nat
  | .lit (.string bytes) => bytes.length + 1
  | .lit _ => 1
  | .nil => 1
  | .ptr d => uptoBulk d + 1
  | .slice elems spare => uptoBulkAll elems + uptoBulkAll spare + 1
  | .agg parts => uptoBulkAll parts + 1
  | .iface _ d => uptoBulk d + 1
  | .map entries => uptoBulkEntries entries + 1
  | .held _ => 1
def uptoBulkAll {H : Type} : List (DataW H) → Nat
  | [] => 0
  | d :: r => uptoBulk d + uptoBulkAll r
def uptoBulkEntries {H : Type} : List (Lit × DataW H) → Nat
  | [] => 0
  | x :: r => uptoBulkEntry x + uptoBulkEntries r
def uptoBulkEntry {H : Type} : Lit × DataW H → Nat
  | (.string bytes, d) => bytes.length + uptoBulk d + 1
  | (_, d) => uptoBulk d + 1
 end
def uptoSmall : (H : Type) → List (DataW H) → Bool := fun _ ds => decide (uptoBulkAll ds ≤ 1048576)
def OpenSpec.upto (s : _root_.Go.ChangeSpec) : _root_.Go.OpenSpec := { _root_.Go.OpenSpec.ofChange s with cond := some uptoSmall }

/-- 'laws.FnWorldLog', WHERE WHAT IT READS IS OF BULK AT MOST 1048576: true; the input reads as it did. -/
def fnWorldLogUptoRow : OpenClaim := { program := "ytlidbcgahfjaoaagreat", sum := "acfdc8873ae758c77f336c989d2ee93d38b90985b70cc32fb25c02ef8afeec36", func := "loop.example/cerberus/laws.FnWorldLog", spec := "fnWorldLog", unfollowed := true, recurses := true, apart := false, narrowed := true }
def FnWorldLogUptoSaid : Prop := fnWorldLogUptoRow.holds Tryz.pinned (OpenSpec.upto fnWorldLogSpec)

/-- 'laws.FnWorldOwners', WHERE WHAT IT READS IS OF BULK AT MOST 1048576: true; the input reads as it did. -/
def fnWorldOwnersUptoRow : OpenClaim := { program := "ytlidbcgahfjaoaagreat", sum := "acfdc8873ae758c77f336c989d2ee93d38b90985b70cc32fb25c02ef8afeec36", func := "loop.example/cerberus/laws.FnWorldOwners", spec := "fnWorldOwners", unfollowed := true, recurses := true, apart := false, narrowed := true }
def FnWorldOwnersUptoSaid : Prop := fnWorldOwnersUptoRow.holds Tryz.pinned (OpenSpec.upto fnWorldOwnersSpec)

/-- 'laws.FnWorldPeers', WHERE WHAT IT READS IS OF BULK AT MOST 1048576: true; the input reads as it did. -/
def fnWorldPeersUptoRow : OpenClaim := { program := "ytlidbcgahfjaoaagreat", sum := "acfdc8873ae758c77f336c989d2ee93d38b90985b70cc32fb25c02ef8afeec36", func := "loop.example/cerberus/laws.FnWorldPeers", spec := "fnWorldPeers", unfollowed := true, recurses := true, apart := false, narrowed := true }
def FnWorldPeersUptoSaid : Prop := fnWorldPeersUptoRow.holds Tryz.pinned (OpenSpec.upto fnWorldPeersSpec)

/-- 'laws.FnWorldServs', WHERE WHAT IT READS IS OF BULK AT MOST 1048576: true; the input reads as it did. -/
def fnWorldServsUptoRow : OpenClaim := { program := "ytlidbcgahfjaoaagreat", sum := "acfdc8873ae758c77f336c989d2ee93d38b90985b70cc32fb25c02ef8afeec36", func := "loop.example/cerberus/laws.FnWorldServs", spec := "fnWorldServs", unfollowed := true, recurses := true, apart := false, narrowed := true }
def FnWorldServsUptoSaid : Prop := fnWorldServsUptoRow.holds Tryz.pinned (OpenSpec.upto fnWorldServsSpec)

/-- 'laws.FnWorldTimes', WHERE WHAT IT READS IS OF BULK AT MOST 1048576: true; the input reads as it did. -/
def fnWorldTimesUptoRow : OpenClaim := { program := "ytlidbcgahfjaoaagreat", sum := "acfdc8873ae758c77f336c989d2ee93d38b90985b70cc32fb25c02ef8afeec36", func := "loop.example/cerberus/laws.FnWorldTimes", spec := "fnWorldTimes", unfollowed := true, recurses := true, apart := false, narrowed := true }
def FnWorldTimesUptoSaid : Prop := fnWorldTimesUptoRow.holds Tryz.pinned (OpenSpec.upto fnWorldTimesSpec)

/-- 'laws.FnWorldUnheard', WHERE WHAT IT READS IS OF BULK AT MOST 1048576: true; the input reads as it did. -/
def fnWorldUnheardUptoRow : OpenClaim := { program := "ytlidbcgahfjaoaagreat", sum := "acfdc8873ae758c77f336c989d2ee93d38b90985b70cc32fb25c02ef8afeec36", func := "loop.example/cerberus/laws.FnWorldUnheard", spec := "fnWorldUnheard", unfollowed := true, recurses := true, apart := false, narrowed := true }
def FnWorldUnheardUptoSaid : Prop := fnWorldUnheardUptoRow.holds Tryz.pinned (OpenSpec.upto fnWorldUnheardSpec)

end Rows
end Go.Proofs.YtlidbcgahfjaoaaGreat
