/-
  No cell of these rows narrows 'for every input' (looked for: loops, veiled, ifaces, maps, wideKeys, modest, calm, conditions, laid).
  DERIVED. THE GIVEN ROWS OF THIS SEAT. 12 by the template 'for every input the law returns true; each argument reads behind the call as it read before'; 0 by the template 'total and deterministic' (their statements: YtfeabjiccnnpcaaTotals.lean).
  GIVEN WITH THE SEED: the statements are not yours to turn. If you find one false, say at which input.
  Laid BY PROGRAM, IN A SANDBOX (cutbox-rows.mjs): the forced cells as the released guide's own fill.sh prints them over the translation c5b5e5c58c9219fb… (all of the seat's roots in one cut). By AI agents, Wed Nov 11 2026. No macro, syntax, notation, axiom, sorry.
-/
import Derived.Test.YtfeabjiccnnpcaaChecked
import GoSem.Claim
import GoSem.ClaimJoined
import GoSem.ClaimMapViews
import Derived.JoinedTies
import Derived.KernelRfl
namespace Go.Proofs.Ytfeabjiccnnpcaa
/- THE CELL 'sum', in the pinned program and in every row, IS THE sha256 OF THE DUMP (.gsa) THAT YtfeabjiccnnpcaaProg.lean LOADS. Nothing in Lean hashes anything: it is a label: what it is worth is what the hold of that sum in a sandbox is worth. -/
noncomputable def Try.pinned : Pinned := { name := "ytfeabjiccnnpcaa", sum := "c5b5e5c58c9219fb65a0e668429e77ed10561abd24d7376a95025b3d8b289ce5", checked := Try.checked }
namespace Rows
def none {H : Type} : Left H := { results := [], args := [] }

/-- 'laws.FnExactJournalOf': WHATEVER THE INPUT: true; the input reads as it did. -/
def fnExactJournalOfSpec : ChangeSpec := { name := "fnExactJournalOf", fn := fun _ => fun
  | [d] => { results := [.lit (.bool true)], args := [d] }
  | _ => none }
def fnExactJournalOfRow : OpenClaim := { program := "ytfeabjiccnnpcaa", sum := "c5b5e5c58c9219fb65a0e668429e77ed10561abd24d7376a95025b3d8b289ce5", func := "loop.example/g01112/laws.FnExactJournalOf", spec := "fnExactJournalOf", inPlace := ["internal/abi.NoEscape", "internal/bytealg.IndexByteString", "internal/bytealg.IndexString"], named := ["internal/bytealg.MaxLen"], plainKeys := false, apart := false }
def FnExactJournalOfSaid : Prop := fnExactJournalOfRow.holds Try.pinned (OpenSpec.ofChange fnExactJournalOfSpec)

/-- ITS FALSE NEIGHBOUR: 'it returns false'. Refute it at one input. -/
def fnExactJournalOfWrong : ChangeSpec := { name := "fnExactJournalOf", fn := fun _ => fun
  | [d] => { results := [.lit (.bool false)], args := [d] }
  | _ => none }
def FnExactJournalOfWrongFalsely : Prop := fnExactJournalOfRow.holds Try.pinned (OpenSpec.ofChange fnExactJournalOfWrong)

/-- 'laws.FnMorePlaces': WHATEVER THE INPUT: true; the input reads as it did. -/
def fnMorePlacesSpec : ChangeSpec := { name := "fnMorePlaces", fn := fun _ => fun
  | [d1, d2] => { results := [.lit (.bool true)], args := [d1, d2] }
  | _ => none }
def fnMorePlacesRow : OpenClaim := { program := "ytfeabjiccnnpcaa", sum := "c5b5e5c58c9219fb65a0e668429e77ed10561abd24d7376a95025b3d8b289ce5", func := "loop.example/g01112/laws.FnMorePlaces", spec := "fnMorePlaces", unfollowed := true, recurses := true, plainKeys := false, apart := false }
def FnMorePlacesSaid : Prop := fnMorePlacesRow.holds Try.pinned (OpenSpec.ofChange fnMorePlacesSpec)

/-- ITS FALSE NEIGHBOUR: 'it returns false'. Refute it at one input. -/
def fnMorePlacesWrong : ChangeSpec := { name := "fnMorePlaces", fn := fun _ => fun
  | [d1, d2] => { results := [.lit (.bool false)], args := [d1, d2] }
  | _ => none }
def FnMorePlacesWrongFalsely : Prop := fnMorePlacesRow.holds Try.pinned (OpenSpec.ofChange fnMorePlacesWrong)

/-- 'laws.FnExactLeastPlaces': WHATEVER THE INPUT: true; the input reads as it did. -/
def fnExactLeastPlacesSpec : ChangeSpec := { name := "fnExactLeastPlaces", fn := fun _ => fun
  | [d] => { results := [.lit (.bool true)], args := [d] }
  | _ => none }
def fnExactLeastPlacesRow : OpenClaim := { program := "ytfeabjiccnnpcaa", sum := "c5b5e5c58c9219fb65a0e668429e77ed10561abd24d7376a95025b3d8b289ce5", func := "loop.example/g01112/laws.FnExactLeastPlaces", spec := "fnExactLeastPlaces", unfollowed := true, recurses := true, plainKeys := false, apart := false }
def FnExactLeastPlacesSaid : Prop := fnExactLeastPlacesRow.holds Try.pinned (OpenSpec.ofChange fnExactLeastPlacesSpec)

/-- ITS FALSE NEIGHBOUR: 'it returns false'. Refute it at one input. -/
def fnExactLeastPlacesWrong : ChangeSpec := { name := "fnExactLeastPlaces", fn := fun _ => fun
  | [d] => { results := [.lit (.bool false)], args := [d] }
  | _ => none }
def FnExactLeastPlacesWrongFalsely : Prop := fnExactLeastPlacesRow.holds Try.pinned (OpenSpec.ofChange fnExactLeastPlacesWrong)

/-- 'laws.FnAgreed': WHATEVER THE INPUT: true; the input reads as it did. -/
def fnAgreedSpec : ChangeSpec := { name := "fnAgreed", fn := fun _ => fun
  | [d1, d2] => { results := [.lit (.bool true)], args := [d1, d2] }
  | _ => none }
def fnAgreedRow : OpenClaim := { program := "ytfeabjiccnnpcaa", sum := "c5b5e5c58c9219fb65a0e668429e77ed10561abd24d7376a95025b3d8b289ce5", func := "loop.example/g01112/laws.FnAgreed", spec := "fnAgreed", inPlace := ["internal/abi.NoEscape"], unfollowed := true, recurses := true, plainKeys := false, apart := false }
def FnAgreedSaid : Prop := fnAgreedRow.holds Try.pinned (OpenSpec.ofChange fnAgreedSpec)

/-- ITS FALSE NEIGHBOUR: 'it returns false'. Refute it at one input. -/
def fnAgreedWrong : ChangeSpec := { name := "fnAgreed", fn := fun _ => fun
  | [d1, d2] => { results := [.lit (.bool false)], args := [d1, d2] }
  | _ => none }
def FnAgreedWrongFalsely : Prop := fnAgreedRow.holds Try.pinned (OpenSpec.ofChange fnAgreedWrong)

/-- 'laws.FnSeen': WHATEVER THE INPUT: true; the input reads as it did. -/
def fnSeenSpec : ChangeSpec := { name := "fnSeen", fn := fun _ => fun
  | [d1, d2] => { results := [.lit (.bool true)], args := [d1, d2] }
  | _ => none }
def fnSeenRow : OpenClaim := { program := "ytfeabjiccnnpcaa", sum := "c5b5e5c58c9219fb65a0e668429e77ed10561abd24d7376a95025b3d8b289ce5", func := "loop.example/g01112/laws.FnSeen", spec := "fnSeen", unfollowed := true, recurses := true, plainKeys := false, apart := false }
def FnSeenSaid : Prop := fnSeenRow.holds Try.pinned (OpenSpec.ofChange fnSeenSpec)

/-- ITS FALSE NEIGHBOUR: 'it returns false'. Refute it at one input. -/
def fnSeenWrong : ChangeSpec := { name := "fnSeen", fn := fun _ => fun
  | [d1, d2] => { results := [.lit (.bool false)], args := [d1, d2] }
  | _ => none }
def FnSeenWrongFalsely : Prop := fnSeenRow.holds Try.pinned (OpenSpec.ofChange fnSeenWrong)

/-- 'laws.FnShortestFlaw': WHATEVER THE INPUT: true; the input reads as it did. -/
def fnShortestFlawSpec : ChangeSpec := { name := "fnShortestFlaw", fn := fun _ => fun
  | [d1, d2] => { results := [.lit (.bool true)], args := [d1, d2] }
  | _ => none }
def fnShortestFlawRow : OpenClaim := { program := "ytfeabjiccnnpcaa", sum := "c5b5e5c58c9219fb65a0e668429e77ed10561abd24d7376a95025b3d8b289ce5", func := "loop.example/g01112/laws.FnShortestFlaw", spec := "fnShortestFlaw", inPlace := ["internal/abi.NoEscape"], unfollowed := true, recurses := true, plainKeys := false, apart := false }
def FnShortestFlawSaid : Prop := fnShortestFlawRow.holds Try.pinned (OpenSpec.ofChange fnShortestFlawSpec)

/-- ITS FALSE NEIGHBOUR: 'it returns false'. Refute it at one input. -/
def fnShortestFlawWrong : ChangeSpec := { name := "fnShortestFlaw", fn := fun _ => fun
  | [d1, d2] => { results := [.lit (.bool false)], args := [d1, d2] }
  | _ => none }
def FnShortestFlawWrongFalsely : Prop := fnShortestFlawRow.holds Try.pinned (OpenSpec.ofChange fnShortestFlawWrong)

/-- 'laws.FnJournal': WHATEVER THE INPUT: true; the input reads as it did. -/
def fnJournalSpec : ChangeSpec := { name := "fnJournal", fn := fun _ => fun
  | [d1, d2] => { results := [.lit (.bool true)], args := [d1, d2] }
  | _ => none }
def fnJournalRow : OpenClaim := { program := "ytfeabjiccnnpcaa", sum := "c5b5e5c58c9219fb65a0e668429e77ed10561abd24d7376a95025b3d8b289ce5", func := "loop.example/g01112/laws.FnJournal", spec := "fnJournal", inPlace := ["internal/abi.NoEscape", "internal/bytealg.IndexByteString", "internal/bytealg.IndexString"], named := ["internal/bytealg.MaxLen"], plainKeys := false, apart := false }
def FnJournalSaid : Prop := fnJournalRow.holds Try.pinned (OpenSpec.ofChange fnJournalSpec)

/-- ITS FALSE NEIGHBOUR: 'it returns false'. Refute it at one input. -/
def fnJournalWrong : ChangeSpec := { name := "fnJournal", fn := fun _ => fun
  | [d1, d2] => { results := [.lit (.bool false)], args := [d1, d2] }
  | _ => none }
def FnJournalWrongFalsely : Prop := fnJournalRow.holds Try.pinned (OpenSpec.ofChange fnJournalWrong)

/-- 'laws.FnExactLeastTransfers': WHATEVER THE INPUT: true; the input reads as it did. -/
def fnExactLeastTransfersSpec : ChangeSpec := { name := "fnExactLeastTransfers", fn := fun _ => fun
  | [d1, d2] => { results := [.lit (.bool true)], args := [d1, d2] }
  | _ => none }
def fnExactLeastTransfersRow : OpenClaim := { program := "ytfeabjiccnnpcaa", sum := "c5b5e5c58c9219fb65a0e668429e77ed10561abd24d7376a95025b3d8b289ce5", func := "loop.example/g01112/laws.FnExactLeastTransfers", spec := "fnExactLeastTransfers", unfollowed := true, recurses := true, plainKeys := false, apart := false }
def FnExactLeastTransfersSaid : Prop := fnExactLeastTransfersRow.holds Try.pinned (OpenSpec.ofChange fnExactLeastTransfersSpec)

/-- ITS FALSE NEIGHBOUR: 'it returns false'. Refute it at one input. -/
def fnExactLeastTransfersWrong : ChangeSpec := { name := "fnExactLeastTransfers", fn := fun _ => fun
  | [d1, d2] => { results := [.lit (.bool false)], args := [d1, d2] }
  | _ => none }
def FnExactLeastTransfersWrongFalsely : Prop := fnExactLeastTransfersRow.holds Try.pinned (OpenSpec.ofChange fnExactLeastTransfersWrong)

/-- 'laws.FnPebbled': WHATEVER THE INPUT: true; the input reads as it did. -/
def fnPebbledSpec : ChangeSpec := { name := "fnPebbled", fn := fun _ => fun
  | [d1, d2] => { results := [.lit (.bool true)], args := [d1, d2] }
  | _ => none }
def fnPebbledRow : OpenClaim := { program := "ytfeabjiccnnpcaa", sum := "c5b5e5c58c9219fb65a0e668429e77ed10561abd24d7376a95025b3d8b289ce5", func := "loop.example/g01112/laws.FnPebbled", spec := "fnPebbled", unfollowed := true, recurses := true, plainKeys := false, apart := false }
def FnPebbledSaid : Prop := fnPebbledRow.holds Try.pinned (OpenSpec.ofChange fnPebbledSpec)

/-- ITS FALSE NEIGHBOUR: 'it returns false'. Refute it at one input. -/
def fnPebbledWrong : ChangeSpec := { name := "fnPebbled", fn := fun _ => fun
  | [d1, d2] => { results := [.lit (.bool false)], args := [d1, d2] }
  | _ => none }
def FnPebbledWrongFalsely : Prop := fnPebbledRow.holds Try.pinned (OpenSpec.ofChange fnPebbledWrong)

/-- 'laws.FnExactReachedSystems': WHATEVER THE INPUT: true; the input reads as it did. -/
def fnExactReachedSystemsSpec : ChangeSpec := { name := "fnExactReachedSystems", fn := fun _ => fun
  | [d1, d2] => { results := [.lit (.bool true)], args := [d1, d2] }
  | _ => none }
def fnExactReachedSystemsRow : OpenClaim := { program := "ytfeabjiccnnpcaa", sum := "c5b5e5c58c9219fb65a0e668429e77ed10561abd24d7376a95025b3d8b289ce5", func := "loop.example/g01112/laws.FnExactReachedSystems", spec := "fnExactReachedSystems", inPlace := ["internal/abi.NoEscape"], unfollowed := true, recurses := true, plainKeys := false, apart := false }
def FnExactReachedSystemsSaid : Prop := fnExactReachedSystemsRow.holds Try.pinned (OpenSpec.ofChange fnExactReachedSystemsSpec)

/-- ITS FALSE NEIGHBOUR: 'it returns false'. Refute it at one input. -/
def fnExactReachedSystemsWrong : ChangeSpec := { name := "fnExactReachedSystems", fn := fun _ => fun
  | [d1, d2] => { results := [.lit (.bool false)], args := [d1, d2] }
  | _ => none }
def FnExactReachedSystemsWrongFalsely : Prop := fnExactReachedSystemsRow.holds Try.pinned (OpenSpec.ofChange fnExactReachedSystemsWrong)

/-- 'laws.FnExactOwnersAlone': WHATEVER THE INPUT: true; the input reads as it did. -/
def fnExactOwnersAloneSpec : ChangeSpec := { name := "fnExactOwnersAlone", fn := fun _ => fun
  | [d1, d2] => { results := [.lit (.bool true)], args := [d1, d2] }
  | _ => none }
def fnExactOwnersAloneRow : OpenClaim := { program := "ytfeabjiccnnpcaa", sum := "c5b5e5c58c9219fb65a0e668429e77ed10561abd24d7376a95025b3d8b289ce5", func := "loop.example/g01112/laws.FnExactOwnersAlone", spec := "fnExactOwnersAlone", inPlace := ["internal/abi.NoEscape"], unfollowed := true, recurses := true, plainKeys := false, apart := false }
def FnExactOwnersAloneSaid : Prop := fnExactOwnersAloneRow.holds Try.pinned (OpenSpec.ofChange fnExactOwnersAloneSpec)

/-- ITS FALSE NEIGHBOUR: 'it returns false'. Refute it at one input. -/
def fnExactOwnersAloneWrong : ChangeSpec := { name := "fnExactOwnersAlone", fn := fun _ => fun
  | [d1, d2] => { results := [.lit (.bool false)], args := [d1, d2] }
  | _ => none }
def FnExactOwnersAloneWrongFalsely : Prop := fnExactOwnersAloneRow.holds Try.pinned (OpenSpec.ofChange fnExactOwnersAloneWrong)

/-- 'laws.FnExactBestPebbling': WHATEVER THE INPUT: true; the input reads as it did. -/
def fnExactBestPebblingSpec : ChangeSpec := { name := "fnExactBestPebbling", fn := fun _ => fun
  | [d1, d2] => { results := [.lit (.bool true)], args := [d1, d2] }
  | _ => none }
def fnExactBestPebblingRow : OpenClaim := { program := "ytfeabjiccnnpcaa", sum := "c5b5e5c58c9219fb65a0e668429e77ed10561abd24d7376a95025b3d8b289ce5", func := "loop.example/g01112/laws.FnExactBestPebbling", spec := "fnExactBestPebbling", unfollowed := true, recurses := true, plainKeys := false, apart := false }
def FnExactBestPebblingSaid : Prop := fnExactBestPebblingRow.holds Try.pinned (OpenSpec.ofChange fnExactBestPebblingSpec)

/-- ITS FALSE NEIGHBOUR: 'it returns false'. Refute it at one input. -/
def fnExactBestPebblingWrong : ChangeSpec := { name := "fnExactBestPebbling", fn := fun _ => fun
  | [d1, d2] => { results := [.lit (.bool false)], args := [d1, d2] }
  | _ => none }
def FnExactBestPebblingWrongFalsely : Prop := fnExactBestPebblingRow.holds Try.pinned (OpenSpec.ofChange fnExactBestPebblingWrong)

/- THE SECOND FORM. 'bulk': how many values and letters a reading holds, each counted each time it is reached (what is shared counts as often as it is met; a slice's spare places count too). A statement '..UptoSaid' is the law's where the arguments, and the package variables that the reading takes, are together of bulk at most 1048576: NARROWER than '..Said'. Prove '..Said' where nothing that the law and all that it calls make is longer than what came in: it says more and counts as full. Else prove '..UptoSaid'. A law counts once. -/
mutual
def uptoBulk {H : Type} : DataW H → Nat
  | .lit (.string bytes) => bytes.length + 1
  | .lit _ => 1
  | .nil => 1
  | .ptr d => uptoBulk d + 1
  | .slice elems spare => uptoBulkAll elems + uptoBulkAll spare + 1
  | .agg parts => uptoBulkAll parts + 1
  | .iface _ d => uptoBulk d + 1
  | .map entries => uptoBulkEntries entries + 1
  | .held _ => 1
def uptoBulkAll {H : Type} : List (DataW H) → Nat
  | [] => 0
  | d :: r => uptoBulk d + uptoBulkAll r
def uptoBulkEntries {H : Type} : List (Lit × DataW H) → Nat
  | [] => 0
  | x :: r => uptoBulkEntry x + uptoBulkEntries r
def uptoBulkEntry {H : Type} : Lit × DataW H → Nat
  | (.string bytes, d) => bytes.length + uptoBulk d + 1
  | (_, d) => uptoBulk d + 1
 end
def uptoSmall : (H : Type) → List (DataW H) → Bool := fun _ ds => decide (uptoBulkAll ds ≤ 1048576)
def OpenSpec.upto (s : _root_.Go.ChangeSpec) : _root_.Go.OpenSpec := { _root_.Go.OpenSpec.ofChange s with cond := some uptoSmall }

/-- 'laws.FnExactJournalOf', WHERE WHAT IT READS IS OF BULK AT MOST 1048576: true; the input reads as it did. -/
def fnExactJournalOfUptoRow : OpenClaim := { program := "ytfeabjiccnnpcaa", sum := "c5b5e5c58c9219fb65a0e668429e77ed10561abd24d7376a95025b3d8b289ce5", func := "loop.example/g01112/laws.FnExactJournalOf", spec := "fnExactJournalOf", inPlace := ["internal/abi.NoEscape", "internal/bytealg.IndexByteString", "internal/bytealg.IndexString"], named := ["internal/bytealg.MaxLen"], plainKeys := false, apart := false, narrowed := true }
def FnExactJournalOfUptoSaid : Prop := fnExactJournalOfUptoRow.holds Try.pinned (OpenSpec.upto fnExactJournalOfSpec)

/-- 'laws.FnMorePlaces', WHERE WHAT IT READS IS OF BULK AT MOST 1048576: true; the input reads as it did. -/
def fnMorePlacesUptoRow : OpenClaim := { program := "ytfeabjiccnnpcaa", sum := "c5b5e5c58c9219fb65a0e668429e77ed10561abd24d7376a95025b3d8b289ce5", func := "loop.example/g01112/laws.FnMorePlaces", spec := "fnMorePlaces", unfollowed := true, recurses := true, plainKeys := false, apart := false, narrowed := true }
def FnMorePlacesUptoSaid : Prop := fnMorePlacesUptoRow.holds Try.pinned (OpenSpec.upto fnMorePlacesSpec)

/-- 'laws.FnExactLeastPlaces', WHERE WHAT IT READS IS OF BULK AT MOST 1048576: true; the input reads as it did. -/
def fnExactLeastPlacesUptoRow : OpenClaim := { program := "ytfeabjiccnnpcaa", sum := "c5b5e5c58c9219fb65a0e668429e77ed10561abd24d7376a95025b3d8b289ce5", func := "loop.example/g01112/laws.FnExactLeastPlaces", spec := "fnExactLeastPlaces", unfollowed := true, recurses := true, plainKeys := false, apart := false, narrowed := true }
def FnExactLeastPlacesUptoSaid : Prop := fnExactLeastPlacesUptoRow.holds Try.pinned (OpenSpec.upto fnExactLeastPlacesSpec)

/-- 'laws.FnAgreed', WHERE WHAT IT READS IS OF BULK AT MOST 1048576: true; the input reads as it did. -/
def fnAgreedUptoRow : OpenClaim := { program := "ytfeabjiccnnpcaa", sum := "c5b5e5c58c9219fb65a0e668429e77ed10561abd24d7376a95025b3d8b289ce5", func := "loop.example/g01112/laws.FnAgreed", spec := "fnAgreed", inPlace := ["internal/abi.NoEscape"], unfollowed := true, recurses := true, plainKeys := false, apart := false, narrowed := true }
def FnAgreedUptoSaid : Prop := fnAgreedUptoRow.holds Try.pinned (OpenSpec.upto fnAgreedSpec)

/-- 'laws.FnSeen', WHERE WHAT IT READS IS OF BULK AT MOST 1048576: true; the input reads as it did. -/
def fnSeenUptoRow : OpenClaim := { program := "ytfeabjiccnnpcaa", sum := "c5b5e5c58c9219fb65a0e668429e77ed10561abd24d7376a95025b3d8b289ce5", func := "loop.example/g01112/laws.FnSeen", spec := "fnSeen", unfollowed := true, recurses := true, plainKeys := false, apart := false, narrowed := true }
def FnSeenUptoSaid : Prop := fnSeenUptoRow.holds Try.pinned (OpenSpec.upto fnSeenSpec)

/-- 'laws.FnShortestFlaw', WHERE WHAT IT READS IS OF BULK AT MOST 1048576: true; the input reads as it did. -/
def fnShortestFlawUptoRow : OpenClaim := { program := "ytfeabjiccnnpcaa", sum := "c5b5e5c58c9219fb65a0e668429e77ed10561abd24d7376a95025b3d8b289ce5", func := "loop.example/g01112/laws.FnShortestFlaw", spec := "fnShortestFlaw", inPlace := ["internal/abi.NoEscape"], unfollowed := true, recurses := true, plainKeys := false, apart := false, narrowed := true }
def FnShortestFlawUptoSaid : Prop := fnShortestFlawUptoRow.holds Try.pinned (OpenSpec.upto fnShortestFlawSpec)

/-- 'laws.FnJournal', WHERE WHAT IT READS IS OF BULK AT MOST 1048576: true; the input reads as it did. -/
def fnJournalUptoRow : OpenClaim := { program := "ytfeabjiccnnpcaa", sum := "c5b5e5c58c9219fb65a0e668429e77ed10561abd24d7376a95025b3d8b289ce5", func := "loop.example/g01112/laws.FnJournal", spec := "fnJournal", inPlace := ["internal/abi.NoEscape", "internal/bytealg.IndexByteString", "internal/bytealg.IndexString"], named := ["internal/bytealg.MaxLen"], plainKeys := false, apart := false, narrowed := true }
def FnJournalUptoSaid : Prop := fnJournalUptoRow.holds Try.pinned (OpenSpec.upto fnJournalSpec)

/-- 'laws.FnExactLeastTransfers', WHERE WHAT IT READS IS OF BULK AT MOST 1048576: true; the input reads as it did. -/
def fnExactLeastTransfersUptoRow : OpenClaim := { program := "ytfeabjiccnnpcaa", sum := "c5b5e5c58c9219fb65a0e668429e77ed10561abd24d7376a95025b3d8b289ce5", func := "loop.example/g01112/laws.FnExactLeastTransfers", spec := "fnExactLeastTransfers", unfollowed := true, recurses := true, plainKeys := false, apart := false, narrowed := true }
def FnExactLeastTransfersUptoSaid : Prop := fnExactLeastTransfersUptoRow.holds Try.pinned (OpenSpec.upto fnExactLeastTransfersSpec)

/-- 'laws.FnPebbled', WHERE WHAT IT READS IS OF BULK AT MOST 1048576: true; the input reads as it did. -/
def fnPebbledUptoRow : OpenClaim := { program := "ytfeabjiccnnpcaa", sum := "c5b5e5c58c9219fb65a0e668429e77ed10561abd24d7376a95025b3d8b289ce5", func := "loop.example/g01112/laws.FnPebbled", spec := "fnPebbled", unfollowed := true, recurses := true, plainKeys := false, apart := false, narrowed := true }
def FnPebbledUptoSaid : Prop := fnPebbledUptoRow.holds Try.pinned (OpenSpec.upto fnPebbledSpec)

/-- 'laws.FnExactReachedSystems', WHERE WHAT IT READS IS OF BULK AT MOST 1048576: true; the input reads as it did. -/
def fnExactReachedSystemsUptoRow : OpenClaim := { program := "ytfeabjiccnnpcaa", sum := "c5b5e5c58c9219fb65a0e668429e77ed10561abd24d7376a95025b3d8b289ce5", func := "loop.example/g01112/laws.FnExactReachedSystems", spec := "fnExactReachedSystems", inPlace := ["internal/abi.NoEscape"], unfollowed := true, recurses := true, plainKeys := false, apart := false, narrowed := true }
def FnExactReachedSystemsUptoSaid : Prop := fnExactReachedSystemsUptoRow.holds Try.pinned (OpenSpec.upto fnExactReachedSystemsSpec)

/-- 'laws.FnExactOwnersAlone', WHERE WHAT IT READS IS OF BULK AT MOST 1048576: true; the input reads as it did. -/
def fnExactOwnersAloneUptoRow : OpenClaim := { program := "ytfeabjiccnnpcaa", sum := "c5b5e5c58c9219fb65a0e668429e77ed10561abd24d7376a95025b3d8b289ce5", func := "loop.example/g01112/laws.FnExactOwnersAlone", spec := "fnExactOwnersAlone", inPlace := ["internal/abi.NoEscape"], unfollowed := true, recurses := true, plainKeys := false, apart := false, narrowed := true }
def FnExactOwnersAloneUptoSaid : Prop := fnExactOwnersAloneUptoRow.holds Try.pinned (OpenSpec.upto fnExactOwnersAloneSpec)

/-- 'laws.FnExactBestPebbling', WHERE WHAT IT READS IS OF BULK AT MOST 1048576: true; the input reads as it did. -/
def fnExactBestPebblingUptoRow : OpenClaim := { program := "ytfeabjiccnnpcaa", sum := "c5b5e5c58c9219fb65a0e668429e77ed10561abd24d7376a95025b3d8b289ce5", func := "loop.example/g01112/laws.FnExactBestPebbling", spec := "fnExactBestPebbling", unfollowed := true, recurses := true, plainKeys := false, apart := false, narrowed := true }
def FnExactBestPebblingUptoSaid : Prop := fnExactBestPebblingUptoRow.holds Try.pinned (OpenSpec.upto fnExactBestPebblingSpec)

end Rows
end Go.Proofs.Ytfeabjiccnnpcaa
