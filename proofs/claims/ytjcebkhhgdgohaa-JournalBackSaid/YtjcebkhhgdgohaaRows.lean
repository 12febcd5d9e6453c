/-
  No cell of these rows narrows 'for every input' (looked for: loops, veiled, ifaces, maps, wideKeys, modest, calm, conditions, laid).
  DERIVED. THE GIVEN ROWS OF THIS SEAT. 16 by the template 'for every input the law returns true; each argument reads behind the call as it read before'; 0 by the template 'total and deterministic' (their statements: YtjcebkhhgdgohaaTotals.lean).
  GIVEN WITH THE SEED: the statements are not yours to turn. If you find one false, say at which input.
  Laid BY PROGRAM, IN A SANDBOX (cutbox-rows.mjs): the forced cells as the released guide's own fill.sh prints them over the translation 9148bb7a99f9ce81… (all of the seat's roots in one cut). By AI agents, Wed Nov 11 2026. No macro, syntax, notation, axiom, sorry.
-/
import Derived.Test.YtjcebkhhgdgohaaChecked
import GoSem.Claim
import GoSem.ClaimJoined
import GoSem.ClaimMapViews
import Derived.JoinedTies
import Derived.KernelRfl
namespace Go.Proofs.Ytjcebkhhgdgohaa
/- THE CELL 'sum', in the pinned program and in every row, IS THE sha256 OF THE DUMP (.gsa) THAT YtjcebkhhgdgohaaProg.lean LOADS. Nothing in Lean hashes anything: it is a label: what it is worth is what the hold of that sum in a sandbox is worth. -/
noncomputable def Try.pinned : Pinned := { name := "ytjcebkhhgdgohaa", sum := "9148bb7a99f9ce81be4d4c0333b41e99c0ac252109c10da7509d559fb84b3f88", checked := Try.checked }
namespace Rows
def none {H : Type} : Left H := { results := [], args := [] }

/-- 'scriniumlaw02.ShaSum': WHATEVER THE INPUT: true; the input reads as it did. -/
def shaSumSpec : ChangeSpec := { name := "shaSum", fn := fun _ => fun
  | [d] => { results := [.lit (.bool true)], args := [d] }
  | _ => none }
def shaSumRow : OpenClaim := { program := "ytjcebkhhgdgohaa", sum := "9148bb7a99f9ce81be4d4c0333b41e99c0ac252109c10da7509d559fb84b3f88", func := "scrinium/scriniumlaw02.ShaSum", spec := "shaSum", unfollowed := true, recurses := true, apart := false }
def ShaSumSaid : Prop := shaSumRow.holds Try.pinned (OpenSpec.ofChange shaSumSpec)

/-- ITS FALSE NEIGHBOUR: 'it returns false'. Refute it at one input. -/
def shaSumWrong : ChangeSpec := { name := "shaSum", fn := fun _ => fun
  | [d] => { results := [.lit (.bool false)], args := [d] }
  | _ => none }
def ShaSumWrongFalsely : Prop := shaSumRow.holds Try.pinned (OpenSpec.ofChange shaSumWrong)

/-- 'scriniumlaw02.ShaSums': WHATEVER THE INPUT: true; the input reads as it did. -/
def shaSumsSpec : ChangeSpec := { name := "shaSums", fn := fun _ => fun
  | [d] => { results := [.lit (.bool true)], args := [d] }
  | _ => none }
def shaSumsRow : OpenClaim := { program := "ytjcebkhhgdgohaa", sum := "9148bb7a99f9ce81be4d4c0333b41e99c0ac252109c10da7509d559fb84b3f88", func := "scrinium/scriniumlaw02.ShaSums", spec := "shaSums", unfollowed := true, recurses := true, apart := false }
def ShaSumsSaid : Prop := shaSumsRow.holds Try.pinned (OpenSpec.ofChange shaSumsSpec)

/-- ITS FALSE NEIGHBOUR: 'it returns false'. Refute it at one input. -/
def shaSumsWrong : ChangeSpec := { name := "shaSums", fn := fun _ => fun
  | [d] => { results := [.lit (.bool false)], args := [d] }
  | _ => none }
def ShaSumsWrongFalsely : Prop := shaSumsRow.holds Try.pinned (OpenSpec.ofChange shaSumsWrong)

/-- 'scriniumlaw02.ShaCut': WHATEVER THE INPUT: true; the input reads as it did. -/
def shaCutSpec : ChangeSpec := { name := "shaCut", fn := fun _ => fun
  | [d1, d2, d3] => { results := [.lit (.bool true)], args := [d1, d2, d3] }
  | _ => none }
def shaCutRow : OpenClaim := { program := "ytjcebkhhgdgohaa", sum := "9148bb7a99f9ce81be4d4c0333b41e99c0ac252109c10da7509d559fb84b3f88", func := "scrinium/scriniumlaw02.ShaCut", spec := "shaCut", unfollowed := true, recurses := true, apart := false }
def ShaCutSaid : Prop := shaCutRow.holds Try.pinned (OpenSpec.ofChange shaCutSpec)

/-- ITS FALSE NEIGHBOUR: 'it returns false'. Refute it at one input. -/
def shaCutWrong : ChangeSpec := { name := "shaCut", fn := fun _ => fun
  | [d1, d2, d3] => { results := [.lit (.bool false)], args := [d1, d2, d3] }
  | _ => none }
def ShaCutWrongFalsely : Prop := shaCutRow.holds Try.pinned (OpenSpec.ofChange shaCutWrong)

/-- 'scriniumlaw02.ShaEmpty': WHATEVER THE INPUT: true; the input reads as it did. -/
def shaEmptySpec : ChangeSpec := { name := "shaEmpty", fn := fun _ => fun
  | [d1, d2] => { results := [.lit (.bool true)], args := [d1, d2] }
  | _ => none }
def shaEmptyRow : OpenClaim := { program := "ytjcebkhhgdgohaa", sum := "9148bb7a99f9ce81be4d4c0333b41e99c0ac252109c10da7509d559fb84b3f88", func := "scrinium/scriniumlaw02.ShaEmpty", spec := "shaEmpty", unfollowed := true, recurses := true, apart := false }
def ShaEmptySaid : Prop := shaEmptyRow.holds Try.pinned (OpenSpec.ofChange shaEmptySpec)

/-- ITS FALSE NEIGHBOUR: 'it returns false'. Refute it at one input. -/
def shaEmptyWrong : ChangeSpec := { name := "shaEmpty", fn := fun _ => fun
  | [d1, d2] => { results := [.lit (.bool false)], args := [d1, d2] }
  | _ => none }
def ShaEmptyWrongFalsely : Prop := shaEmptyRow.holds Try.pinned (OpenSpec.ofChange shaEmptyWrong)

/-- 'scriniumlaw03.HmacTag': WHATEVER THE INPUT: true; the input reads as it did. -/
def hmacTagSpec : ChangeSpec := { name := "hmacTag", fn := fun _ => fun
  | [d1, d2] => { results := [.lit (.bool true)], args := [d1, d2] }
  | _ => none }
def hmacTagRow : OpenClaim := { program := "ytjcebkhhgdgohaa", sum := "9148bb7a99f9ce81be4d4c0333b41e99c0ac252109c10da7509d559fb84b3f88", func := "scrinium/scriniumlaw03.HmacTag", spec := "hmacTag", unfollowed := true, recurses := true, apart := false }
def HmacTagSaid : Prop := hmacTagRow.holds Try.pinned (OpenSpec.ofChange hmacTagSpec)

/-- ITS FALSE NEIGHBOUR: 'it returns false'. Refute it at one input. -/
def hmacTagWrong : ChangeSpec := { name := "hmacTag", fn := fun _ => fun
  | [d1, d2] => { results := [.lit (.bool false)], args := [d1, d2] }
  | _ => none }
def HmacTagWrongFalsely : Prop := hmacTagRow.holds Try.pinned (OpenSpec.ofChange hmacTagWrong)

/-- 'scriniumlaw03.HmacKeys': WHATEVER THE INPUT: true; the input reads as it did. -/
def hmacKeysSpec : ChangeSpec := { name := "hmacKeys", fn := fun _ => fun
  | [d1, d2, d3] => { results := [.lit (.bool true)], args := [d1, d2, d3] }
  | _ => none }
def hmacKeysRow : OpenClaim := { program := "ytjcebkhhgdgohaa", sum := "9148bb7a99f9ce81be4d4c0333b41e99c0ac252109c10da7509d559fb84b3f88", func := "scrinium/scriniumlaw03.HmacKeys", spec := "hmacKeys", unfollowed := true, recurses := true, apart := false }
def HmacKeysSaid : Prop := hmacKeysRow.holds Try.pinned (OpenSpec.ofChange hmacKeysSpec)

/-- ITS FALSE NEIGHBOUR: 'it returns false'. Refute it at one input. -/
def hmacKeysWrong : ChangeSpec := { name := "hmacKeys", fn := fun _ => fun
  | [d1, d2, d3] => { results := [.lit (.bool false)], args := [d1, d2, d3] }
  | _ => none }
def HmacKeysWrongFalsely : Prop := hmacKeysRow.holds Try.pinned (OpenSpec.ofChange hmacKeysWrong)

/-- 'scriniumlaw03.HmacEqual': WHATEVER THE INPUT: true; the input reads as it did. -/
def hmacEqualSpec : ChangeSpec := { name := "hmacEqual", fn := fun _ => fun
  | [d1, d2] => { results := [.lit (.bool true)], args := [d1, d2] }
  | _ => none }
def hmacEqualRow : OpenClaim := { program := "ytjcebkhhgdgohaa", sum := "9148bb7a99f9ce81be4d4c0333b41e99c0ac252109c10da7509d559fb84b3f88", func := "scrinium/scriniumlaw03.HmacEqual", spec := "hmacEqual", unfollowed := true, recurses := true, apart := false }
def HmacEqualSaid : Prop := hmacEqualRow.holds Try.pinned (OpenSpec.ofChange hmacEqualSpec)

/-- ITS FALSE NEIGHBOUR: 'it returns false'. Refute it at one input. -/
def hmacEqualWrong : ChangeSpec := { name := "hmacEqual", fn := fun _ => fun
  | [d1, d2] => { results := [.lit (.bool false)], args := [d1, d2] }
  | _ => none }
def HmacEqualWrongFalsely : Prop := hmacEqualRow.holds Try.pinned (OpenSpec.ofChange hmacEqualWrong)

/-- 'scriniumlaw04.HkdfExtract': WHATEVER THE INPUT: true; the input reads as it did. -/
def hkdfExtractSpec : ChangeSpec := { name := "hkdfExtract", fn := fun _ => fun
  | [d1, d2] => { results := [.lit (.bool true)], args := [d1, d2] }
  | _ => none }
def hkdfExtractRow : OpenClaim := { program := "ytjcebkhhgdgohaa", sum := "9148bb7a99f9ce81be4d4c0333b41e99c0ac252109c10da7509d559fb84b3f88", func := "scrinium/scriniumlaw04.HkdfExtract", spec := "hkdfExtract", unfollowed := true, recurses := true, apart := false }
def HkdfExtractSaid : Prop := hkdfExtractRow.holds Try.pinned (OpenSpec.ofChange hkdfExtractSpec)

/-- ITS FALSE NEIGHBOUR: 'it returns false'. Refute it at one input. -/
def hkdfExtractWrong : ChangeSpec := { name := "hkdfExtract", fn := fun _ => fun
  | [d1, d2] => { results := [.lit (.bool false)], args := [d1, d2] }
  | _ => none }
def HkdfExtractWrongFalsely : Prop := hkdfExtractRow.holds Try.pinned (OpenSpec.ofChange hkdfExtractWrong)

/-- 'scriniumlaw04.HkdfExpand': WHATEVER THE INPUT: true; the input reads as it did. -/
def hkdfExpandSpec : ChangeSpec := { name := "hkdfExpand", fn := fun _ => fun
  | [d1, d2, d3] => { results := [.lit (.bool true)], args := [d1, d2, d3] }
  | _ => none }
def hkdfExpandRow : OpenClaim := { program := "ytjcebkhhgdgohaa", sum := "9148bb7a99f9ce81be4d4c0333b41e99c0ac252109c10da7509d559fb84b3f88", func := "scrinium/scriniumlaw04.HkdfExpand", spec := "hkdfExpand", unfollowed := true, recurses := true, apart := false }
def HkdfExpandSaid : Prop := hkdfExpandRow.holds Try.pinned (OpenSpec.ofChange hkdfExpandSpec)

/-- ITS FALSE NEIGHBOUR: 'it returns false'. Refute it at one input. -/
def hkdfExpandWrong : ChangeSpec := { name := "hkdfExpand", fn := fun _ => fun
  | [d1, d2, d3] => { results := [.lit (.bool false)], args := [d1, d2, d3] }
  | _ => none }
def HkdfExpandWrongFalsely : Prop := hkdfExpandRow.holds Try.pinned (OpenSpec.ofChange hkdfExpandWrong)

/-- 'scriniumlaw03.HmacTags': WHATEVER THE INPUT: true; the input reads as it did. -/
def hmacTagsSpec : ChangeSpec := { name := "hmacTags", fn := fun _ => fun
  | [d1, d2] => { results := [.lit (.bool true)], args := [d1, d2] }
  | _ => none }
def hmacTagsRow : OpenClaim := { program := "ytjcebkhhgdgohaa", sum := "9148bb7a99f9ce81be4d4c0333b41e99c0ac252109c10da7509d559fb84b3f88", func := "scrinium/scriniumlaw03.HmacTags", spec := "hmacTags", unfollowed := true, recurses := true, apart := false }
def HmacTagsSaid : Prop := hmacTagsRow.holds Try.pinned (OpenSpec.ofChange hmacTagsSpec)

/-- ITS FALSE NEIGHBOUR: 'it returns false'. Refute it at one input. -/
def hmacTagsWrong : ChangeSpec := { name := "hmacTags", fn := fun _ => fun
  | [d1, d2] => { results := [.lit (.bool false)], args := [d1, d2] }
  | _ => none }
def HmacTagsWrongFalsely : Prop := hmacTagsRow.holds Try.pinned (OpenSpec.ofChange hmacTagsWrong)

/-- 'scriniumlaw12.DrawsActs': WHATEVER THE INPUT: true; the input reads as it did. -/
def drawsActsSpec : ChangeSpec := { name := "drawsActs", fn := fun _ => fun
  | [d1, d2] => { results := [.lit (.bool true)], args := [d1, d2] }
  | _ => none }
def drawsActsRow : OpenClaim := { program := "ytjcebkhhgdgohaa", sum := "9148bb7a99f9ce81be4d4c0333b41e99c0ac252109c10da7509d559fb84b3f88", func := "scrinium/scriniumlaw12.DrawsActs", spec := "drawsActs", unfollowed := true, recurses := true, apart := false }
def DrawsActsSaid : Prop := drawsActsRow.holds Try.pinned (OpenSpec.ofChange drawsActsSpec)

/-- ITS FALSE NEIGHBOUR: 'it returns false'. Refute it at one input. -/
def drawsActsWrong : ChangeSpec := { name := "drawsActs", fn := fun _ => fun
  | [d1, d2] => { results := [.lit (.bool false)], args := [d1, d2] }
  | _ => none }
def DrawsActsWrongFalsely : Prop := drawsActsRow.holds Try.pinned (OpenSpec.ofChange drawsActsWrong)

/-- 'scriniumlaw12.DrawsNil': WHATEVER THE INPUT: true; the input reads as it did. -/
def drawsNilSpec : ChangeSpec := { name := "drawsNil", fn := fun _ => fun
  | [d1, d2] => { results := [.lit (.bool true)], args := [d1, d2] }
  | _ => none }
def drawsNilRow : OpenClaim := { program := "ytjcebkhhgdgohaa", sum := "9148bb7a99f9ce81be4d4c0333b41e99c0ac252109c10da7509d559fb84b3f88", func := "scrinium/scriniumlaw12.DrawsNil", spec := "drawsNil", unfollowed := true, recurses := true, apart := false }
def DrawsNilSaid : Prop := drawsNilRow.holds Try.pinned (OpenSpec.ofChange drawsNilSpec)

/-- ITS FALSE NEIGHBOUR: 'it returns false'. Refute it at one input. -/
def drawsNilWrong : ChangeSpec := { name := "drawsNil", fn := fun _ => fun
  | [d1, d2] => { results := [.lit (.bool false)], args := [d1, d2] }
  | _ => none }
def DrawsNilWrongFalsely : Prop := drawsNilRow.holds Try.pinned (OpenSpec.ofChange drawsNilWrong)

/-- 'scriniumlaw04.HkdfUse': WHATEVER THE INPUT: true; the input reads as it did. -/
def hkdfUseSpec : ChangeSpec := { name := "hkdfUse", fn := fun _ => fun
  | [d1, d2, d3] => { results := [.lit (.bool true)], args := [d1, d2, d3] }
  | _ => none }
def hkdfUseRow : OpenClaim := { program := "ytjcebkhhgdgohaa", sum := "9148bb7a99f9ce81be4d4c0333b41e99c0ac252109c10da7509d559fb84b3f88", func := "scrinium/scriniumlaw04.HkdfUse", spec := "hkdfUse", unfollowed := true, recurses := true, apart := false }
def HkdfUseSaid : Prop := hkdfUseRow.holds Try.pinned (OpenSpec.ofChange hkdfUseSpec)

/-- ITS FALSE NEIGHBOUR: 'it returns false'. Refute it at one input. -/
def hkdfUseWrong : ChangeSpec := { name := "hkdfUse", fn := fun _ => fun
  | [d1, d2, d3] => { results := [.lit (.bool false)], args := [d1, d2, d3] }
  | _ => none }
def HkdfUseWrongFalsely : Prop := hkdfUseRow.holds Try.pinned (OpenSpec.ofChange hkdfUseWrong)

/-- 'scriniumlaw18.JournalBack': WHATEVER THE INPUT: true; the input reads as it did. -/
def journalBackSpec : ChangeSpec := { name := "journalBack", fn := fun _ => fun
  | [d] => { results := [.lit (.bool true)], args := [d] }
  | _ => none }
def journalBackRow : OpenClaim := { program := "ytjcebkhhgdgohaa", sum := "9148bb7a99f9ce81be4d4c0333b41e99c0ac252109c10da7509d559fb84b3f88", func := "scrinium/scriniumlaw18.JournalBack", spec := "journalBack", unfollowed := true, recurses := true, apart := false }
def JournalBackSaid : Prop := journalBackRow.holds Try.pinned (OpenSpec.ofChange journalBackSpec)

/-- ITS FALSE NEIGHBOUR: 'it returns false'. Refute it at one input. -/
def journalBackWrong : ChangeSpec := { name := "journalBack", fn := fun _ => fun
  | [d] => { results := [.lit (.bool false)], args := [d] }
  | _ => none }
def JournalBackWrongFalsely : Prop := journalBackRow.holds Try.pinned (OpenSpec.ofChange journalBackWrong)

/-- 'scriniumlaw18.JournalNil': WHATEVER THE INPUT: true; the input reads as it did. -/
def journalNilSpec : ChangeSpec := { name := "journalNil", fn := fun _ => fun
  | [d1, d2] => { results := [.lit (.bool true)], args := [d1, d2] }
  | _ => none }
def journalNilRow : OpenClaim := { program := "ytjcebkhhgdgohaa", sum := "9148bb7a99f9ce81be4d4c0333b41e99c0ac252109c10da7509d559fb84b3f88", func := "scrinium/scriniumlaw18.JournalNil", spec := "journalNil", unfollowed := true, recurses := true, apart := false }
def JournalNilSaid : Prop := journalNilRow.holds Try.pinned (OpenSpec.ofChange journalNilSpec)

/-- ITS FALSE NEIGHBOUR: 'it returns false'. Refute it at one input. -/
def journalNilWrong : ChangeSpec := { name := "journalNil", fn := fun _ => fun
  | [d1, d2] => { results := [.lit (.bool false)], args := [d1, d2] }
  | _ => none }
def JournalNilWrongFalsely : Prop := journalNilRow.holds Try.pinned (OpenSpec.ofChange journalNilWrong)

/-- 'scriniumlaw18.JournalRefused': WHATEVER THE INPUT: true; the input reads as it did. -/
def journalRefusedSpec : ChangeSpec := { name := "journalRefused", fn := fun _ => fun
  | [d1, d2, d3] => { results := [.lit (.bool true)], args := [d1, d2, d3] }
  | _ => none }
def journalRefusedRow : OpenClaim := { program := "ytjcebkhhgdgohaa", sum := "9148bb7a99f9ce81be4d4c0333b41e99c0ac252109c10da7509d559fb84b3f88", func := "scrinium/scriniumlaw18.JournalRefused", spec := "journalRefused", unfollowed := true, recurses := true, apart := false }
def JournalRefusedSaid : Prop := journalRefusedRow.holds Try.pinned (OpenSpec.ofChange journalRefusedSpec)

/-- ITS FALSE NEIGHBOUR: 'it returns false'. Refute it at one input. -/
def journalRefusedWrong : ChangeSpec := { name := "journalRefused", fn := fun _ => fun
  | [d1, d2, d3] => { results := [.lit (.bool false)], args := [d1, d2, d3] }
  | _ => none }
def JournalRefusedWrongFalsely : Prop := journalRefusedRow.holds Try.pinned (OpenSpec.ofChange journalRefusedWrong)

/- THE SECOND FORM. 'bulk': how many values and letters a reading holds, each counted each time it is reached (what is shared counts as often as it is met; a slice's spare places count too). A statement '..UptoSaid' is the law's where the arguments, and the package variables that the reading takes, are together of bulk at most 1048576: NARROWER than '..Said'. Prove '..Said' where nothing that the law and all that it calls make is longer than what came in: it says more and counts as full. Else prove '..UptoSaid'. A law counts once. -/
mutual
def uptoBulk {H : Type} : DataW H → Nat
  | .lit (.string bytes) => bytes.length + 1
  | .lit _ => 1
  | .nil => 1
  | .ptr d => uptoBulk d + 1
  | .slice elems spare => uptoBulkAll elems + uptoBulkAll spare + 1
  | .agg parts => uptoBulkAll parts + 1
  | .iface _ d => uptoBulk d + 1
  | .map entries => uptoBulkEntries entries + 1
  | .held _ => 1
def uptoBulkAll {H : Type} : List (DataW H) → Nat
  | [] => 0
  | d :: r => uptoBulk d + uptoBulkAll r
def uptoBulkEntries {H : Type} : List (Lit × DataW H) → Nat
  | [] => 0
  | x :: r => uptoBulkEntry x + uptoBulkEntries r
def uptoBulkEntry {H : Type} : Lit × DataW H → Nat
  | (.string bytes, d) => bytes.length + uptoBulk d + 1
  | (_, d) => uptoBulk d + 1
 end
def uptoSmall : (H : Type) → List (DataW H) → Bool := fun _ ds => decide (uptoBulkAll ds ≤ 1048576)
def OpenSpec.upto (s : _root_.Go.ChangeSpec) : _root_.Go.OpenSpec := { _root_.Go.OpenSpec.ofChange s with cond := some uptoSmall }

/-- 'scriniumlaw02.ShaSum', WHERE WHAT IT READS IS OF BULK AT MOST 1048576: true; the input reads as it did. -/
def shaSumUptoRow : OpenClaim := { program := "ytjcebkhhgdgohaa", sum := "9148bb7a99f9ce81be4d4c0333b41e99c0ac252109c10da7509d559fb84b3f88", func := "scrinium/scriniumlaw02.ShaSum", spec := "shaSum", unfollowed := true, recurses := true, apart := false, narrowed := true }
def ShaSumUptoSaid : Prop := shaSumUptoRow.holds Try.pinned (OpenSpec.upto shaSumSpec)

/-- 'scriniumlaw02.ShaSums', WHERE WHAT IT READS IS OF BULK AT MOST 1048576: true; the input reads as it did. -/
def shaSumsUptoRow : OpenClaim := { program := "ytjcebkhhgdgohaa", sum := "9148bb7a99f9ce81be4d4c0333b41e99c0ac252109c10da7509d559fb84b3f88", func := "scrinium/scriniumlaw02.ShaSums", spec := "shaSums", unfollowed := true, recurses := true, apart := false, narrowed := true }
def ShaSumsUptoSaid : Prop := shaSumsUptoRow.holds Try.pinned (OpenSpec.upto shaSumsSpec)

/-- 'scriniumlaw02.ShaCut', WHERE WHAT IT READS IS OF BULK AT MOST 1048576: true; the input reads as it did. -/
def shaCutUptoRow : OpenClaim := { program := "ytjcebkhhgdgohaa", sum := "9148bb7a99f9ce81be4d4c0333b41e99c0ac252109c10da7509d559fb84b3f88", func := "scrinium/scriniumlaw02.ShaCut", spec := "shaCut", unfollowed := true, recurses := true, apart := false, narrowed := true }
def ShaCutUptoSaid : Prop := shaCutUptoRow.holds Try.pinned (OpenSpec.upto shaCutSpec)

/-- 'scriniumlaw02.ShaEmpty', WHERE WHAT IT READS IS OF BULK AT MOST 1048576: true; the input reads as it did. -/
def shaEmptyUptoRow : OpenClaim := { program := "ytjcebkhhgdgohaa", sum := "9148bb7a99f9ce81be4d4c0333b41e99c0ac252109c10da7509d559fb84b3f88", func := "scrinium/scriniumlaw02.ShaEmpty", spec := "shaEmpty", unfollowed := true, recurses := true, apart := false, narrowed := true }
def ShaEmptyUptoSaid : Prop := shaEmptyUptoRow.holds Try.pinned (OpenSpec.upto shaEmptySpec)

/-- 'scriniumlaw03.HmacTag', WHERE WHAT IT READS IS OF BULK AT MOST 1048576: true; the input reads as it did. -/
def hmacTagUptoRow : OpenClaim := { program := "ytjcebkhhgdgohaa", sum := "9148bb7a99f9ce81be4d4c0333b41e99c0ac252109c10da7509d559fb84b3f88", func := "scrinium/scriniumlaw03.HmacTag", spec := "hmacTag", unfollowed := true, recurses := true, apart := false, narrowed := true }
def HmacTagUptoSaid : Prop := hmacTagUptoRow.holds Try.pinned (OpenSpec.upto hmacTagSpec)

/-- 'scriniumlaw03.HmacKeys', WHERE WHAT IT READS IS OF BULK AT MOST 1048576: true; the input reads as it did. -/
def hmacKeysUptoRow : OpenClaim := { program := "ytjcebkhhgdgohaa", sum := "9148bb7a99f9ce81be4d4c0333b41e99c0ac252109c10da7509d559fb84b3f88", func := "scrinium/scriniumlaw03.HmacKeys", spec := "hmacKeys", unfollowed := true, recurses := true, apart := false, narrowed := true }
def HmacKeysUptoSaid : Prop := hmacKeysUptoRow.holds Try.pinned (OpenSpec.upto hmacKeysSpec)

/-- 'scriniumlaw03.HmacEqual', WHERE WHAT IT READS IS OF BULK AT MOST 1048576: true; the input reads as it did. -/
def hmacEqualUptoRow : OpenClaim := { program := "ytjcebkhhgdgohaa", sum := "9148bb7a99f9ce81be4d4c0333b41e99c0ac252109c10da7509d559fb84b3f88", func := "scrinium/scriniumlaw03.HmacEqual", spec := "hmacEqual", unfollowed := true, recurses := true, apart := false, narrowed := true }
def HmacEqualUptoSaid : Prop := hmacEqualUptoRow.holds Try.pinned (OpenSpec.upto hmacEqualSpec)

/-- 'scriniumlaw04.HkdfExtract', WHERE WHAT IT READS IS OF BULK AT MOST 1048576: true; the input reads as it did. -/
def hkdfExtractUptoRow : OpenClaim := { program := "ytjcebkhhgdgohaa", sum := "9148bb7a99f9ce81be4d4c0333b41e99c0ac252109c10da7509d559fb84b3f88", func := "scrinium/scriniumlaw04.HkdfExtract", spec := "hkdfExtract", unfollowed := true, recurses := true, apart := false, narrowed := true }
def HkdfExtractUptoSaid : Prop := hkdfExtractUptoRow.holds Try.pinned (OpenSpec.upto hkdfExtractSpec)

/-- 'scriniumlaw04.HkdfExpand', WHERE WHAT IT READS IS OF BULK AT MOST 1048576: true; the input reads as it did. -/
def hkdfExpandUptoRow : OpenClaim := { program := "ytjcebkhhgdgohaa", sum := "9148bb7a99f9ce81be4d4c0333b41e99c0ac252109c10da7509d559fb84b3f88", func := "scrinium/scriniumlaw04.HkdfExpand", spec := "hkdfExpand", unfollowed := true, recurses := true, apart := false, narrowed := true }
def HkdfExpandUptoSaid : Prop := hkdfExpandUptoRow.holds Try.pinned (OpenSpec.upto hkdfExpandSpec)

/-- 'scriniumlaw03.HmacTags', WHERE WHAT IT READS IS OF BULK AT MOST 1048576: true; the input reads as it did. -/
def hmacTagsUptoRow : OpenClaim := { program := "ytjcebkhhgdgohaa", sum := "9148bb7a99f9ce81be4d4c0333b41e99c0ac252109c10da7509d559fb84b3f88", func := "scrinium/scriniumlaw03.HmacTags", spec := "hmacTags", unfollowed := true, recurses := true, apart := false, narrowed := true }
def HmacTagsUptoSaid : Prop := hmacTagsUptoRow.holds Try.pinned (OpenSpec.upto hmacTagsSpec)

/-- 'scriniumlaw12.DrawsActs', WHERE WHAT IT READS IS OF BULK AT MOST 1048576: true; the input reads as it did. -/
def drawsActsUptoRow : OpenClaim := { program := "ytjcebkhhgdgohaa", sum := "9148bb7a99f9ce81be4d4c0333b41e99c0ac252109c10da7509d559fb84b3f88", func := "scrinium/scriniumlaw12.DrawsActs", spec := "drawsActs", unfollowed := true, recurses := true, apart := false, narrowed := true }
def DrawsActsUptoSaid : Prop := drawsActsUptoRow.holds Try.pinned (OpenSpec.upto drawsActsSpec)

/-- 'scriniumlaw12.DrawsNil', WHERE WHAT IT READS IS OF BULK AT MOST 1048576: true; the input reads as it did. -/
def drawsNilUptoRow : OpenClaim := { program := "ytjcebkhhgdgohaa", sum := "9148bb7a99f9ce81be4d4c0333b41e99c0ac252109c10da7509d559fb84b3f88", func := "scrinium/scriniumlaw12.DrawsNil", spec := "drawsNil", unfollowed := true, recurses := true, apart := false, narrowed := true }
def DrawsNilUptoSaid : Prop := drawsNilUptoRow.holds Try.pinned (OpenSpec.upto drawsNilSpec)

/-- 'scriniumlaw04.HkdfUse', WHERE WHAT IT READS IS OF BULK AT MOST 1048576: true; the input reads as it did. -/
def hkdfUseUptoRow : OpenClaim := { program := "ytjcebkhhgdgohaa", sum := "9148bb7a99f9ce81be4d4c0333b41e99c0ac252109c10da7509d559fb84b3f88", func := "scrinium/scriniumlaw04.HkdfUse", spec := "hkdfUse", unfollowed := true, recurses := true, apart := false, narrowed := true }
def HkdfUseUptoSaid : Prop := hkdfUseUptoRow.holds Try.pinned (OpenSpec.upto hkdfUseSpec)

/-- 'scriniumlaw18.JournalBack', WHERE WHAT IT READS IS OF BULK AT MOST 1048576: true; the input reads as it did. -/
def journalBackUptoRow : OpenClaim := { program := "ytjcebkhhgdgohaa", sum := "9148bb7a99f9ce81be4d4c0333b41e99c0ac252109c10da7509d559fb84b3f88", func := "scrinium/scriniumlaw18.JournalBack", spec := "journalBack", unfollowed := true, recurses := true, apart := false, narrowed := true }
def JournalBackUptoSaid : Prop := journalBackUptoRow.holds Try.pinned (OpenSpec.upto journalBackSpec)

/-- 'scriniumlaw18.JournalNil', WHERE WHAT IT READS IS OF BULK AT MOST 1048576: true; the input reads as it did. -/
def journalNilUptoRow : OpenClaim := { program := "ytjcebkhhgdgohaa", sum := "9148bb7a99f9ce81be4d4c0333b41e99c0ac252109c10da7509d559fb84b3f88", func := "scrinium/scriniumlaw18.JournalNil", spec := "journalNil", unfollowed := true, recurses := true, apart := false, narrowed := true }
def JournalNilUptoSaid : Prop := journalNilUptoRow.holds Try.pinned (OpenSpec.upto journalNilSpec)

/-- 'scriniumlaw18.JournalRefused', WHERE WHAT IT READS IS OF BULK AT MOST 1048576: true; the input reads as it did. -/
def journalRefusedUptoRow : OpenClaim := { program := "ytjcebkhhgdgohaa", sum := "9148bb7a99f9ce81be4d4c0333b41e99c0ac252109c10da7509d559fb84b3f88", func := "scrinium/scriniumlaw18.JournalRefused", spec := "journalRefused", unfollowed := true, recurses := true, apart := false, narrowed := true }
def JournalRefusedUptoSaid : Prop := journalRefusedUptoRow.holds Try.pinned (OpenSpec.upto journalRefusedSpec)

end Rows
end Go.Proofs.Ytjcebkhhgdgohaa
