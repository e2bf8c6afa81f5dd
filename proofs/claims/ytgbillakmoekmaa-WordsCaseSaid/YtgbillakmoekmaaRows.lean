/-
  No cell of these rows narrows 'for every input' (looked for: loops, veiled, ifaces, maps, wideKeys, modest, calm, conditions, laid).
  DERIVED. THE GIVEN ROWS OF THIS SEAT. 8 by the template 'for every input the law returns true; each argument reads behind the call as it read before'; 0 by the template 'total and deterministic' (their statements: YtgbillakmoekmaaTotals.lean).
  GIVEN WITH THE SEED: the statements are not yours to turn. If you find one false, say at which input.
  Laid BY PROGRAM, IN A SANDBOX (cutbox-rows.mjs): the forced cells as the released guide's own fill.sh prints them over the translation 7d1b4a25a4ad8a2e… (all of the seat's roots in one cut). By AI agents, Wed Nov 11 2026. No macro, syntax, notation, axiom, sorry.
-/
import Derived.Test.YtgbillakmoekmaaChecked
import GoSem.Claim
import GoSem.ClaimJoined
import GoSem.ClaimMapViews
import Derived.JoinedTies
import Derived.KernelRfl
namespace Go.Proofs.Ytgbillakmoekmaa
/- THE CELL 'sum', in the pinned program and in every row, IS THE sha256 OF THE DUMP (.gsa) THAT YtgbillakmoekmaaProg.lean LOADS. Nothing in Lean hashes anything: it is a label: what it is worth is what the hold of that sum in a sandbox is worth. -/
noncomputable def Try.pinned : Pinned := { name := "ytgbillakmoekmaa", sum := "7d1b4a25a4ad8a2efaaa0edcb8303473c9d2570211182edb4783b7c328196152", checked := Try.checked }
namespace Rows
def none {H : Type} : Left H := { results := [], args := [] }

/-- 'sealwaxlaw17.NamesChecked': WHATEVER THE INPUT: true; the input reads as it did. -/
def namesCheckedSpec : ChangeSpec := { name := "namesChecked", fn := fun _ => fun
  | [d1, d2] => { results := [.lit (.bool true)], args := [d1, d2] }
  | _ => none }
def namesCheckedRow : OpenClaim := { program := "ytgbillakmoekmaa", sum := "7d1b4a25a4ad8a2efaaa0edcb8303473c9d2570211182edb4783b7c328196152", func := "sealwax/sealwaxlaw17.NamesChecked", spec := "namesChecked", inPlace := ["internal/bytealg.IndexByteString", "internal/bytealg.IndexString"], named := ["internal/bytealg.MaxLen"], apart := false }
def NamesCheckedSaid : Prop := namesCheckedRow.holds Try.pinned (OpenSpec.ofChange namesCheckedSpec)

/-- ITS FALSE NEIGHBOUR: 'it returns false'. Refute it at one input. -/
def namesCheckedWrong : ChangeSpec := { name := "namesChecked", fn := fun _ => fun
  | [d1, d2] => { results := [.lit (.bool false)], args := [d1, d2] }
  | _ => none }
def NamesCheckedWrongFalsely : Prop := namesCheckedRow.holds Try.pinned (OpenSpec.ofChange namesCheckedWrong)

/-- 'sealwaxlaw15.WordsOf': WHATEVER THE INPUT: true; the input reads as it did. -/
def wordsOfSpec : ChangeSpec := { name := "wordsOf", fn := fun _ => fun
  | [d1, d2] => { results := [.lit (.bool true)], args := [d1, d2] }
  | _ => none }
def wordsOfRow : OpenClaim := { program := "ytgbillakmoekmaa", sum := "7d1b4a25a4ad8a2efaaa0edcb8303473c9d2570211182edb4783b7c328196152", func := "sealwax/sealwaxlaw15.WordsOf", spec := "wordsOf", unfollowed := true, recurses := true, apart := false }
def WordsOfSaid : Prop := wordsOfRow.holds Try.pinned (OpenSpec.ofChange wordsOfSpec)

/-- ITS FALSE NEIGHBOUR: 'it returns false'. Refute it at one input. -/
def wordsOfWrong : ChangeSpec := { name := "wordsOf", fn := fun _ => fun
  | [d1, d2] => { results := [.lit (.bool false)], args := [d1, d2] }
  | _ => none }
def WordsOfWrongFalsely : Prop := wordsOfRow.holds Try.pinned (OpenSpec.ofChange wordsOfWrong)

/-- 'sealwaxlaw15.WordsJoin': WHATEVER THE INPUT: true; the input reads as it did. -/
def wordsJoinSpec : ChangeSpec := { name := "wordsJoin", fn := fun _ => fun
  | [d1, d2] => { results := [.lit (.bool true)], args := [d1, d2] }
  | _ => none }
def wordsJoinRow : OpenClaim := { program := "ytgbillakmoekmaa", sum := "7d1b4a25a4ad8a2efaaa0edcb8303473c9d2570211182edb4783b7c328196152", func := "sealwax/sealwaxlaw15.WordsJoin", spec := "wordsJoin", unfollowed := true, recurses := true, apart := false }
def WordsJoinSaid : Prop := wordsJoinRow.holds Try.pinned (OpenSpec.ofChange wordsJoinSpec)

/-- ITS FALSE NEIGHBOUR: 'it returns false'. Refute it at one input. -/
def wordsJoinWrong : ChangeSpec := { name := "wordsJoin", fn := fun _ => fun
  | [d1, d2] => { results := [.lit (.bool false)], args := [d1, d2] }
  | _ => none }
def WordsJoinWrongFalsely : Prop := wordsJoinRow.holds Try.pinned (OpenSpec.ofChange wordsJoinWrong)

/-- 'sealwaxlaw15.WordsCase': WHATEVER THE INPUT: true; the input reads as it did. -/
def wordsCaseSpec : ChangeSpec := { name := "wordsCase", fn := fun _ => fun
  | [d] => { results := [.lit (.bool true)], args := [d] }
  | _ => none }
def wordsCaseRow : OpenClaim := { program := "ytgbillakmoekmaa", sum := "7d1b4a25a4ad8a2efaaa0edcb8303473c9d2570211182edb4783b7c328196152", func := "sealwax/sealwaxlaw15.WordsCase", spec := "wordsCase", unfollowed := true, recurses := true, apart := false }
def WordsCaseSaid : Prop := wordsCaseRow.holds Try.pinned (OpenSpec.ofChange wordsCaseSpec)

/-- ITS FALSE NEIGHBOUR: 'it returns false'. Refute it at one input. -/
def wordsCaseWrong : ChangeSpec := { name := "wordsCase", fn := fun _ => fun
  | [d] => { results := [.lit (.bool false)], args := [d] }
  | _ => none }
def WordsCaseWrongFalsely : Prop := wordsCaseRow.holds Try.pinned (OpenSpec.ofChange wordsCaseWrong)

/-- 'sealwaxlaw15.WordsTwice': WHATEVER THE INPUT: true; the input reads as it did. -/
def wordsTwiceSpec : ChangeSpec := { name := "wordsTwice", fn := fun _ => fun
  | [d] => { results := [.lit (.bool true)], args := [d] }
  | _ => none }
def wordsTwiceRow : OpenClaim := { program := "ytgbillakmoekmaa", sum := "7d1b4a25a4ad8a2efaaa0edcb8303473c9d2570211182edb4783b7c328196152", func := "sealwax/sealwaxlaw15.WordsTwice", spec := "wordsTwice", unfollowed := true, recurses := true, apart := false }
def WordsTwiceSaid : Prop := wordsTwiceRow.holds Try.pinned (OpenSpec.ofChange wordsTwiceSpec)

/-- ITS FALSE NEIGHBOUR: 'it returns false'. Refute it at one input. -/
def wordsTwiceWrong : ChangeSpec := { name := "wordsTwice", fn := fun _ => fun
  | [d] => { results := [.lit (.bool false)], args := [d] }
  | _ => none }
def WordsTwiceWrongFalsely : Prop := wordsTwiceRow.holds Try.pinned (OpenSpec.ofChange wordsTwiceWrong)

/-- 'sealwaxlaw15.WordsClean': WHATEVER THE INPUT: true; the input reads as it did. -/
def wordsCleanSpec : ChangeSpec := { name := "wordsClean", fn := fun _ => fun
  | [d] => { results := [.lit (.bool true)], args := [d] }
  | _ => none }
def wordsCleanRow : OpenClaim := { program := "ytgbillakmoekmaa", sum := "7d1b4a25a4ad8a2efaaa0edcb8303473c9d2570211182edb4783b7c328196152", func := "sealwax/sealwaxlaw15.WordsClean", spec := "wordsClean", unfollowed := true, recurses := true, apart := false }
def WordsCleanSaid : Prop := wordsCleanRow.holds Try.pinned (OpenSpec.ofChange wordsCleanSpec)

/-- ITS FALSE NEIGHBOUR: 'it returns false'. Refute it at one input. -/
def wordsCleanWrong : ChangeSpec := { name := "wordsClean", fn := fun _ => fun
  | [d] => { results := [.lit (.bool false)], args := [d] }
  | _ => none }
def WordsCleanWrongFalsely : Prop := wordsCleanRow.holds Try.pinned (OpenSpec.ofChange wordsCleanWrong)

/-- 'sealwaxlaw17.NamesThere': WHATEVER THE INPUT: true; the input reads as it did. -/
def namesThereSpec : ChangeSpec := { name := "namesThere", fn := fun _ => fun
  | [d1, d2, d3] => { results := [.lit (.bool true)], args := [d1, d2, d3] }
  | _ => none }
def namesThereRow : OpenClaim := { program := "ytgbillakmoekmaa", sum := "7d1b4a25a4ad8a2efaaa0edcb8303473c9d2570211182edb4783b7c328196152", func := "sealwax/sealwaxlaw17.NamesThere", spec := "namesThere", inPlace := ["internal/bytealg.IndexByteString", "internal/bytealg.IndexString", "internal/abi.NoEscape", "internal/bytealg.MakeNoZero"], unfollowed := true, recurses := true, named := ["internal/bytealg.MaxLen"], apart := false }
def NamesThereSaid : Prop := namesThereRow.holds Try.pinned (OpenSpec.ofChange namesThereSpec)

/-- ITS FALSE NEIGHBOUR: 'it returns false'. Refute it at one input. -/
def namesThereWrong : ChangeSpec := { name := "namesThere", fn := fun _ => fun
  | [d1, d2, d3] => { results := [.lit (.bool false)], args := [d1, d2, d3] }
  | _ => none }
def NamesThereWrongFalsely : Prop := namesThereRow.holds Try.pinned (OpenSpec.ofChange namesThereWrong)

/-- 'sealwaxlaw17.NamesPlay': WHATEVER THE INPUT: true; the input reads as it did. -/
def namesPlaySpec : ChangeSpec := { name := "namesPlay", fn := fun _ => fun
  | [d1, d2] => { results := [.lit (.bool true)], args := [d1, d2] }
  | _ => none }
def namesPlayRow : OpenClaim := { program := "ytgbillakmoekmaa", sum := "7d1b4a25a4ad8a2efaaa0edcb8303473c9d2570211182edb4783b7c328196152", func := "sealwax/sealwaxlaw17.NamesPlay", spec := "namesPlay", inPlace := ["internal/bytealg.IndexByteString", "internal/bytealg.IndexString", "internal/abi.NoEscape", "internal/bytealg.MakeNoZero", "maps.clone"], unfollowed := true, recurses := true, named := ["internal/bytealg.MaxLen"], apart := false }
def NamesPlaySaid : Prop := namesPlayRow.holds Try.pinned (OpenSpec.ofChange namesPlaySpec)

/-- ITS FALSE NEIGHBOUR: 'it returns false'. Refute it at one input. -/
def namesPlayWrong : ChangeSpec := { name := "namesPlay", fn := fun _ => fun
  | [d1, d2] => { results := [.lit (.bool false)], args := [d1, d2] }
  | _ => none }
def NamesPlayWrongFalsely : Prop := namesPlayRow.holds Try.pinned (OpenSpec.ofChange namesPlayWrong)

/- THE SECOND FORM. 'bulk': how many values and letters a reading holds, each counted each time it is reached (what is shared counts as often as it is met; a slice's spare places count too). A statement '..UptoSaid' is the law's where the arguments, and the package variables that the reading takes, are together of bulk at most 1048576: NARROWER than '..Said'. Prove '..Said' where nothing that the law and all that it calls make is longer than what came in: it says more and counts as full. Else prove '..UptoSaid'. A law counts once. -/
mutual
def uptoBulk {H : Type} : DataW H → Nat
  | .lit (.string bytes) => bytes.length + 1
  | .lit _ => 1
  | .nil => 1
  | .ptr d => uptoBulk d + 1
  | .slice elems spare => uptoBulkAll elems + uptoBulkAll spare + 1
  | .agg parts => uptoBulkAll parts + 1
  | .iface _ d => uptoBulk d + 1
  | .map entries => uptoBulkEntries entries + 1
  | .held _ => 1
def uptoBulkAll {H : Type} : List (DataW H) → Nat
  | [] => 0
  | d :: r => uptoBulk d + uptoBulkAll r
def uptoBulkEntries {H : Type} : List (Lit × DataW H) → Nat
  | [] => 0
  | x :: r => uptoBulkEntry x + uptoBulkEntries r
def uptoBulkEntry {H : Type} : Lit × DataW H → Nat
  | (.string bytes, d) => bytes.length + uptoBulk d + 1
  | (_, d) => uptoBulk d + 1
 end
def uptoSmall : (H : Type) → List (DataW H) → Bool := fun _ ds => decide (uptoBulkAll ds ≤ 1048576)
def OpenSpec.upto (s : _root_.Go.ChangeSpec) : _root_.Go.OpenSpec := { _root_.Go.OpenSpec.ofChange s with cond := some uptoSmall }

/-- 'sealwaxlaw17.NamesChecked', WHERE WHAT IT READS IS OF BULK AT MOST 1048576: true; the input reads as it did. -/
def namesCheckedUptoRow : OpenClaim := { program := "ytgbillakmoekmaa", sum := "7d1b4a25a4ad8a2efaaa0edcb8303473c9d2570211182edb4783b7c328196152", func := "sealwax/sealwaxlaw17.NamesChecked", spec := "namesChecked", inPlace := ["internal/bytealg.IndexByteString", "internal/bytealg.IndexString"], named := ["internal/bytealg.MaxLen"], apart := false, narrowed := true }
def NamesCheckedUptoSaid : Prop := namesCheckedUptoRow.holds Try.pinned (OpenSpec.upto namesCheckedSpec)

/-- 'sealwaxlaw15.WordsOf', WHERE WHAT IT READS IS OF BULK AT MOST 1048576: true; the input reads as it did. -/
def wordsOfUptoRow : OpenClaim := { program := "ytgbillakmoekmaa", sum := "7d1b4a25a4ad8a2efaaa0edcb8303473c9d2570211182edb4783b7c328196152", func := "sealwax/sealwaxlaw15.WordsOf", spec := "wordsOf", unfollowed := true, recurses := true, apart := false, narrowed := true }
def WordsOfUptoSaid : Prop := wordsOfUptoRow.holds Try.pinned (OpenSpec.upto wordsOfSpec)

/-- 'sealwaxlaw15.WordsJoin', WHERE WHAT IT READS IS OF BULK AT MOST 1048576: true; the input reads as it did. -/
def wordsJoinUptoRow : OpenClaim := { program := "ytgbillakmoekmaa", sum := "7d1b4a25a4ad8a2efaaa0edcb8303473c9d2570211182edb4783b7c328196152", func := "sealwax/sealwaxlaw15.WordsJoin", spec := "wordsJoin", unfollowed := true, recurses := true, apart := false, narrowed := true }
def WordsJoinUptoSaid : Prop := wordsJoinUptoRow.holds Try.pinned (OpenSpec.upto wordsJoinSpec)

/-- 'sealwaxlaw15.WordsCase', WHERE WHAT IT READS IS OF BULK AT MOST 1048576: true; the input reads as it did. -/
def wordsCaseUptoRow : OpenClaim := { program := "ytgbillakmoekmaa", sum := "7d1b4a25a4ad8a2efaaa0edcb8303473c9d2570211182edb4783b7c328196152", func := "sealwax/sealwaxlaw15.WordsCase", spec := "wordsCase", unfollowed := true, recurses := true, apart := false, narrowed := true }
def WordsCaseUptoSaid : Prop := wordsCaseUptoRow.holds Try.pinned (OpenSpec.upto wordsCaseSpec)

/-- 'sealwaxlaw15.WordsTwice', WHERE WHAT IT READS IS OF BULK AT MOST 1048576: true; the input reads as it did. -/
def wordsTwiceUptoRow : OpenClaim := { program := "ytgbillakmoekmaa", sum := "7d1b4a25a4ad8a2efaaa0edcb8303473c9d2570211182edb4783b7c328196152", func := "sealwax/sealwaxlaw15.WordsTwice", spec := "wordsTwice", unfollowed := true, recurses := true, apart := false, narrowed := true }
def WordsTwiceUptoSaid : Prop := wordsTwiceUptoRow.holds Try.pinned (OpenSpec.upto wordsTwiceSpec)

/-- 'sealwaxlaw15.WordsClean', WHERE WHAT IT READS IS OF BULK AT MOST 1048576: true; the input reads as it did. -/
def wordsCleanUptoRow : OpenClaim := { program := "ytgbillakmoekmaa", sum := "7d1b4a25a4ad8a2efaaa0edcb8303473c9d2570211182edb4783b7c328196152", func := "sealwax/sealwaxlaw15.WordsClean", spec := "wordsClean", unfollowed := true, recurses := true, apart := false, narrowed := true }
def WordsCleanUptoSaid : Prop := wordsCleanUptoRow.holds Try.pinned (OpenSpec.upto wordsCleanSpec)

/-- 'sealwaxlaw17.NamesThere', WHERE WHAT IT READS IS OF BULK AT MOST 1048576: true; the input reads as it did. -/
def namesThereUptoRow : OpenClaim := { program := "ytgbillakmoekmaa", sum := "7d1b4a25a4ad8a2efaaa0edcb8303473c9d2570211182edb4783b7c328196152", func := "sealwax/sealwaxlaw17.NamesThere", spec := "namesThere", inPlace := ["internal/bytealg.IndexByteString", "internal/bytealg.IndexString", "internal/abi.NoEscape", "internal/bytealg.MakeNoZero"], unfollowed := true, recurses := true, named := ["internal/bytealg.MaxLen"], apart := false, narrowed := true }
def NamesThereUptoSaid : Prop := namesThereUptoRow.holds Try.pinned (OpenSpec.upto namesThereSpec)

/-- 'sealwaxlaw17.NamesPlay', WHERE WHAT IT READS IS OF BULK AT MOST 1048576: true; the input reads as it did. -/
def namesPlayUptoRow : OpenClaim := { program := "ytgbillakmoekmaa", sum := "7d1b4a25a4ad8a2efaaa0edcb8303473c9d2570211182edb4783b7c328196152", func := "sealwax/sealwaxlaw17.NamesPlay", spec := "namesPlay", inPlace := ["internal/bytealg.IndexByteString", "internal/bytealg.IndexString", "internal/abi.NoEscape", "internal/bytealg.MakeNoZero", "maps.clone"], unfollowed := true, recurses := true, named := ["internal/bytealg.MaxLen"], apart := false, narrowed := true }
def NamesPlayUptoSaid : Prop := namesPlayUptoRow.holds Try.pinned (OpenSpec.upto namesPlaySpec)

end Rows
end Go.Proofs.Ytgbillakmoekmaa
