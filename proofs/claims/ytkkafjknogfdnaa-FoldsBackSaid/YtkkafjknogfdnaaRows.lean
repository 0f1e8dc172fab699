/-
  No cell of these rows narrows 'for every input' (looked for: loops, veiled, ifaces, maps, wideKeys, modest, calm, conditions, laid).
  DERIVED. THE GIVEN ROWS OF THIS SEAT. 9 by the template 'for every input the law returns true; each argument reads behind the call as it read before'; 0 by the template 'total and deterministic' (their statements: YtkkafjknogfdnaaTotals.lean).
  GIVEN WITH THE SEED: the statements are not yours to turn. If you find one false, say at which input.
  Laid BY PROGRAM, IN A SANDBOX (cutbox-rows.mjs): the forced cells as the released guide's own fill.sh prints them over the translation aabba608eb1b4a6c… (all of the seat's roots in one cut). By AI agents, Wed Nov 11 2026. No macro, syntax, notation, axiom, sorry.
-/
import Derived.Test.YtkkafjknogfdnaaChecked
import GoSem.Claim
import GoSem.ClaimJoined
import GoSem.ClaimMapViews
import Derived.JoinedTies
import Derived.KernelRfl
namespace Go.Proofs.Ytkkafjknogfdnaa
/- THE CELL 'sum', in the pinned program and in every row, IS THE sha256 OF THE DUMP (.gsa) THAT YtkkafjknogfdnaaProg.lean LOADS. Nothing in Lean hashes anything: it is a label: what it is worth is what the hold of that sum in a sandbox is worth. -/
noncomputable def Try.pinned : Pinned := { name := "ytkkafjknogfdnaa", sum := "aabba608eb1b4a6cde5e9d2e9ee8b2a06e9de5e6f8956be2bdc7e8bac6a19833", checked := Try.checked }
namespace Rows
def none {H : Type} : Left H := { results := [], args := [] }

/-- 'annalistlaw21.LevelsTell': WHATEVER THE INPUT: true; the input reads as it did. -/
def levelsTellSpec : ChangeSpec := { name := "levelsTell", fn := fun _ => fun
  | [d1, d2, d3] => { results := [.lit (.bool true)], args := [d1, d2, d3] }
  | _ => none }
def levelsTellRow : OpenClaim := { program := "ytkkafjknogfdnaa", sum := "aabba608eb1b4a6cde5e9d2e9ee8b2a06e9de5e6f8956be2bdc7e8bac6a19833", func := "annalist/annalistlaw21.LevelsTell", spec := "levelsTell", apart := false }
def LevelsTellSaid : Prop := levelsTellRow.holds Try.pinned (OpenSpec.ofChange levelsTellSpec)

/-- ITS FALSE NEIGHBOUR: 'it returns false'. Refute it at one input. -/
def levelsTellWrong : ChangeSpec := { name := "levelsTell", fn := fun _ => fun
  | [d1, d2, d3] => { results := [.lit (.bool false)], args := [d1, d2, d3] }
  | _ => none }
def LevelsTellWrongFalsely : Prop := levelsTellRow.holds Try.pinned (OpenSpec.ofChange levelsTellWrong)

/-- 'annalistlaw21.LevelsGrow': WHATEVER THE INPUT: true; the input reads as it did. -/
def levelsGrowSpec : ChangeSpec := { name := "levelsGrow", fn := fun _ => fun
  | [d] => { results := [.lit (.bool true)], args := [d] }
  | _ => none }
def levelsGrowRow : OpenClaim := { program := "ytkkafjknogfdnaa", sum := "aabba608eb1b4a6cde5e9d2e9ee8b2a06e9de5e6f8956be2bdc7e8bac6a19833", func := "annalist/annalistlaw21.LevelsGrow", spec := "levelsGrow", apart := false }
def LevelsGrowSaid : Prop := levelsGrowRow.holds Try.pinned (OpenSpec.ofChange levelsGrowSpec)

/-- ITS FALSE NEIGHBOUR: 'it returns false'. Refute it at one input. -/
def levelsGrowWrong : ChangeSpec := { name := "levelsGrow", fn := fun _ => fun
  | [d] => { results := [.lit (.bool false)], args := [d] }
  | _ => none }
def LevelsGrowWrongFalsely : Prop := levelsGrowRow.holds Try.pinned (OpenSpec.ofChange levelsGrowWrong)

/-- 'annalistlaw21.LevelsSink': WHATEVER THE INPUT: true; the input reads as it did. -/
def levelsSinkSpec : ChangeSpec := { name := "levelsSink", fn := fun _ => fun
  | [d] => { results := [.lit (.bool true)], args := [d] }
  | _ => none }
def levelsSinkRow : OpenClaim := { program := "ytkkafjknogfdnaa", sum := "aabba608eb1b4a6cde5e9d2e9ee8b2a06e9de5e6f8956be2bdc7e8bac6a19833", func := "annalist/annalistlaw21.LevelsSink", spec := "levelsSink", apart := false }
def LevelsSinkSaid : Prop := levelsSinkRow.holds Try.pinned (OpenSpec.ofChange levelsSinkSpec)

/-- ITS FALSE NEIGHBOUR: 'it returns false'. Refute it at one input. -/
def levelsSinkWrong : ChangeSpec := { name := "levelsSink", fn := fun _ => fun
  | [d] => { results := [.lit (.bool false)], args := [d] }
  | _ => none }
def LevelsSinkWrongFalsely : Prop := levelsSinkRow.holds Try.pinned (OpenSpec.ofChange levelsSinkWrong)

/-- 'annalistlaw22.ManifestsSpoilt': WHATEVER THE INPUT: true; the input reads as it did. -/
def manifestsSpoiltSpec : ChangeSpec := { name := "manifestsSpoilt", fn := fun _ => fun
  | [d1, d2, d3] => { results := [.lit (.bool true)], args := [d1, d2, d3] }
  | _ => none }
def manifestsSpoiltRow : OpenClaim := { program := "ytkkafjknogfdnaa", sum := "aabba608eb1b4a6cde5e9d2e9ee8b2a06e9de5e6f8956be2bdc7e8bac6a19833", func := "annalist/annalistlaw22.ManifestsSpoilt", spec := "manifestsSpoilt", unfollowed := true, recurses := true, apart := false }
def ManifestsSpoiltSaid : Prop := manifestsSpoiltRow.holds Try.pinned (OpenSpec.ofChange manifestsSpoiltSpec)

/-- ITS FALSE NEIGHBOUR: 'it returns false'. Refute it at one input. -/
def manifestsSpoiltWrong : ChangeSpec := { name := "manifestsSpoilt", fn := fun _ => fun
  | [d1, d2, d3] => { results := [.lit (.bool false)], args := [d1, d2, d3] }
  | _ => none }
def ManifestsSpoiltWrongFalsely : Prop := manifestsSpoiltRow.holds Try.pinned (OpenSpec.ofChange manifestsSpoiltWrong)

/-- 'annalistlaw22.ManifestsTell': WHATEVER THE INPUT: true; the input reads as it did. -/
def manifestsTellSpec : ChangeSpec := { name := "manifestsTell", fn := fun _ => fun
  | [d1, d2, d3] => { results := [.lit (.bool true)], args := [d1, d2, d3] }
  | _ => none }
def manifestsTellRow : OpenClaim := { program := "ytkkafjknogfdnaa", sum := "aabba608eb1b4a6cde5e9d2e9ee8b2a06e9de5e6f8956be2bdc7e8bac6a19833", func := "annalist/annalistlaw22.ManifestsTell", spec := "manifestsTell", unfollowed := true, recurses := true, apart := false }
def ManifestsTellSaid : Prop := manifestsTellRow.holds Try.pinned (OpenSpec.ofChange manifestsTellSpec)

/-- ITS FALSE NEIGHBOUR: 'it returns false'. Refute it at one input. -/
def manifestsTellWrong : ChangeSpec := { name := "manifestsTell", fn := fun _ => fun
  | [d1, d2, d3] => { results := [.lit (.bool false)], args := [d1, d2, d3] }
  | _ => none }
def ManifestsTellWrongFalsely : Prop := manifestsTellRow.holds Try.pinned (OpenSpec.ofChange manifestsTellWrong)

/-- 'annalistlaw22.ManifestsBack': WHATEVER THE INPUT: true; the input reads as it did. -/
def manifestsBackSpec : ChangeSpec := { name := "manifestsBack", fn := fun _ => fun
  | [d1, d2] => { results := [.lit (.bool true)], args := [d1, d2] }
  | _ => none }
def manifestsBackRow : OpenClaim := { program := "ytkkafjknogfdnaa", sum := "aabba608eb1b4a6cde5e9d2e9ee8b2a06e9de5e6f8956be2bdc7e8bac6a19833", func := "annalist/annalistlaw22.ManifestsBack", spec := "manifestsBack", unfollowed := true, recurses := true, apart := false }
def ManifestsBackSaid : Prop := manifestsBackRow.holds Try.pinned (OpenSpec.ofChange manifestsBackSpec)

/-- ITS FALSE NEIGHBOUR: 'it returns false'. Refute it at one input. -/
def manifestsBackWrong : ChangeSpec := { name := "manifestsBack", fn := fun _ => fun
  | [d1, d2] => { results := [.lit (.bool false)], args := [d1, d2] }
  | _ => none }
def ManifestsBackWrongFalsely : Prop := manifestsBackRow.holds Try.pinned (OpenSpec.ofChange manifestsBackWrong)

/-- 'annalistlaw33.FoldsTell': WHATEVER THE INPUT: true; the input reads as it did. -/
def foldsTellSpec : ChangeSpec := { name := "foldsTell", fn := fun _ => fun
  | [d1, d2] => { results := [.lit (.bool true)], args := [d1, d2] }
  | _ => none }
def foldsTellRow : OpenClaim := { program := "ytkkafjknogfdnaa", sum := "aabba608eb1b4a6cde5e9d2e9ee8b2a06e9de5e6f8956be2bdc7e8bac6a19833", func := "annalist/annalistlaw33.FoldsTell", spec := "foldsTell", inPlace := ["slices.overlaps[annalist/folds.Kind]"], unfollowed := true, recurses := true, apart := false }
def FoldsTellSaid : Prop := foldsTellRow.holds Try.pinned (OpenSpec.ofChange foldsTellSpec)

/-- ITS FALSE NEIGHBOUR: 'it returns false'. Refute it at one input. -/
def foldsTellWrong : ChangeSpec := { name := "foldsTell", fn := fun _ => fun
  | [d1, d2] => { results := [.lit (.bool false)], args := [d1, d2] }
  | _ => none }
def FoldsTellWrongFalsely : Prop := foldsTellRow.holds Try.pinned (OpenSpec.ofChange foldsTellWrong)

/-- 'annalistlaw33.FoldsGet': WHATEVER THE INPUT: true; the input reads as it did. -/
def foldsGetSpec : ChangeSpec := { name := "foldsGet", fn := fun _ => fun
  | [d] => { results := [.lit (.bool true)], args := [d] }
  | _ => none }
def foldsGetRow : OpenClaim := { program := "ytkkafjknogfdnaa", sum := "aabba608eb1b4a6cde5e9d2e9ee8b2a06e9de5e6f8956be2bdc7e8bac6a19833", func := "annalist/annalistlaw33.FoldsGet", spec := "foldsGet", inPlace := ["slices.overlaps[annalist/folds.Kind]"], unfollowed := true, recurses := true, apart := false }
def FoldsGetSaid : Prop := foldsGetRow.holds Try.pinned (OpenSpec.ofChange foldsGetSpec)

/-- ITS FALSE NEIGHBOUR: 'it returns false'. Refute it at one input. -/
def foldsGetWrong : ChangeSpec := { name := "foldsGet", fn := fun _ => fun
  | [d] => { results := [.lit (.bool false)], args := [d] }
  | _ => none }
def FoldsGetWrongFalsely : Prop := foldsGetRow.holds Try.pinned (OpenSpec.ofChange foldsGetWrong)

/-- 'annalistlaw33.FoldsBack': WHATEVER THE INPUT: true; the input reads as it did. -/
def foldsBackSpec : ChangeSpec := { name := "foldsBack", fn := fun _ => fun
  | [d1, d2, d3] => { results := [.lit (.bool true)], args := [d1, d2, d3] }
  | _ => none }
def foldsBackRow : OpenClaim := { program := "ytkkafjknogfdnaa", sum := "aabba608eb1b4a6cde5e9d2e9ee8b2a06e9de5e6f8956be2bdc7e8bac6a19833", func := "annalist/annalistlaw33.FoldsBack", spec := "foldsBack", inPlace := ["slices.overlaps[annalist/folds.Kind]"], unfollowed := true, recurses := true, apart := false }
def FoldsBackSaid : Prop := foldsBackRow.holds Try.pinned (OpenSpec.ofChange foldsBackSpec)

/-- ITS FALSE NEIGHBOUR: 'it returns false'. Refute it at one input. -/
def foldsBackWrong : ChangeSpec := { name := "foldsBack", fn := fun _ => fun
  | [d1, d2, d3] => { results := [.lit (.bool false)], args := [d1, d2, d3] }
  | _ => none }
def FoldsBackWrongFalsely : Prop := foldsBackRow.holds Try.pinned (OpenSpec.ofChange foldsBackWrong)

/- THE SECOND FORM. 'bulk': how many values and letters a reading holds, each counted each time it is reached (what is shared counts as often as it is met; a slice's spare places count too). A statement '..UptoSaid' is the law's where the arguments, and the package variables that the reading takes, are together of bulk at most 1048576: NARROWER than '..Said'. Prove '..Said' where nothing that the law and all that it calls make is longer than what came in: it says more and counts as full. Else prove '..UptoSaid'. A law counts once. -/
mutual
def uptoBulk {H : Type} : DataW H → Nat
  | .lit (.string bytes) => bytes.length + 1
  | .lit _ => 1
  | .nil => 1
  | .ptr d => uptoBulk d + 1
  | .slice elems spare => uptoBulkAll elems + uptoBulkAll spare + 1
  | .agg parts => uptoBulkAll parts + 1
  | .iface _ d => uptoBulk d + 1
  | .map entries => uptoBulkEntries entries + 1
  | .held _ => 1
def uptoBulkAll {H : Type} : List (DataW H) → Nat
  | [] => 0
  | d :: r => uptoBulk d + uptoBulkAll r
def uptoBulkEntries {H : Type} : List (Lit × DataW H) → Nat
  | [] => 0
  | x :: r => uptoBulkEntry x + uptoBulkEntries r
def uptoBulkEntry {H : Type} : Lit × DataW H → Nat
  | (.string bytes, d) => bytes.length + uptoBulk d + 1
  | (_, d) => uptoBulk d + 1
 end
def uptoSmall : (H : Type) → List (DataW H) → Bool := fun _ ds => decide (uptoBulkAll ds ≤ 1048576)
def OpenSpec.upto (s : _root_.Go.ChangeSpec) : _root_.Go.OpenSpec := { _root_.Go.OpenSpec.ofChange s with cond := some uptoSmall }

/-- 'annalistlaw21.LevelsTell', WHERE WHAT IT READS IS OF BULK AT MOST 1048576: true; the input reads as it did. -/
def levelsTellUptoRow : OpenClaim := { program := "ytkkafjknogfdnaa", sum := "aabba608eb1b4a6cde5e9d2e9ee8b2a06e9de5e6f8956be2bdc7e8bac6a19833", func := "annalist/annalistlaw21.LevelsTell", spec := "levelsTell", apart := false, narrowed := true }
def LevelsTellUptoSaid : Prop := levelsTellUptoRow.holds Try.pinned (OpenSpec.upto levelsTellSpec)

/-- 'annalistlaw21.LevelsGrow', WHERE WHAT IT READS IS OF BULK AT MOST 1048576: true; the input reads as it did. -/
def levelsGrowUptoRow : OpenClaim := { program := "ytkkafjknogfdnaa", sum := "aabba608eb1b4a6cde5e9d2e9ee8b2a06e9de5e6f8956be2bdc7e8bac6a19833", func := "annalist/annalistlaw21.LevelsGrow", spec := "levelsGrow", apart := false, narrowed := true }
def LevelsGrowUptoSaid : Prop := levelsGrowUptoRow.holds Try.pinned (OpenSpec.upto levelsGrowSpec)

/-- 'annalistlaw21.LevelsSink', WHERE WHAT IT READS IS OF BULK AT MOST 1048576: true; the input reads as it did. -/
def levelsSinkUptoRow : OpenClaim := { program := "ytkkafjknogfdnaa", sum := "aabba608eb1b4a6cde5e9d2e9ee8b2a06e9de5e6f8956be2bdc7e8bac6a19833", func := "annalist/annalistlaw21.LevelsSink", spec := "levelsSink", apart := false, narrowed := true }
def LevelsSinkUptoSaid : Prop := levelsSinkUptoRow.holds Try.pinned (OpenSpec.upto levelsSinkSpec)

/-- 'annalistlaw22.ManifestsSpoilt', WHERE WHAT IT READS IS OF BULK AT MOST 1048576: true; the input reads as it did. -/
def manifestsSpoiltUptoRow : OpenClaim := { program := "ytkkafjknogfdnaa", sum := "aabba608eb1b4a6cde5e9d2e9ee8b2a06e9de5e6f8956be2bdc7e8bac6a19833", func := "annalist/annalistlaw22.ManifestsSpoilt", spec := "manifestsSpoilt", unfollowed := true, recurses := true, apart := false, narrowed := true }
def ManifestsSpoiltUptoSaid : Prop := manifestsSpoiltUptoRow.holds Try.pinned (OpenSpec.upto manifestsSpoiltSpec)

/-- 'annalistlaw22.ManifestsTell', WHERE WHAT IT READS IS OF BULK AT MOST 1048576: true; the input reads as it did. -/
def manifestsTellUptoRow : OpenClaim := { program := "ytkkafjknogfdnaa", sum := "aabba608eb1b4a6cde5e9d2e9ee8b2a06e9de5e6f8956be2bdc7e8bac6a19833", func := "annalist/annalistlaw22.ManifestsTell", spec := "manifestsTell", unfollowed := true, recurses := true, apart := false, narrowed := true }
def ManifestsTellUptoSaid : Prop := manifestsTellUptoRow.holds Try.pinned (OpenSpec.upto manifestsTellSpec)

/-- 'annalistlaw22.ManifestsBack', WHERE WHAT IT READS IS OF BULK AT MOST 1048576: true; the input reads as it did. -/
def manifestsBackUptoRow : OpenClaim := { program := "ytkkafjknogfdnaa", sum := "aabba608eb1b4a6cde5e9d2e9ee8b2a06e9de5e6f8956be2bdc7e8bac6a19833", func := "annalist/annalistlaw22.ManifestsBack", spec := "manifestsBack", unfollowed := true, recurses := true, apart := false, narrowed := true }
def ManifestsBackUptoSaid : Prop := manifestsBackUptoRow.holds Try.pinned (OpenSpec.upto manifestsBackSpec)

/-- 'annalistlaw33.FoldsTell', WHERE WHAT IT READS IS OF BULK AT MOST 1048576: true; the input reads as it did. -/
def foldsTellUptoRow : OpenClaim := { program := "ytkkafjknogfdnaa", sum := "aabba608eb1b4a6cde5e9d2e9ee8b2a06e9de5e6f8956be2bdc7e8bac6a19833", func := "annalist/annalistlaw33.FoldsTell", spec := "foldsTell", inPlace := ["slices.overlaps[annalist/folds.Kind]"], unfollowed := true, recurses := true, apart := false, narrowed := true }
def FoldsTellUptoSaid : Prop := foldsTellUptoRow.holds Try.pinned (OpenSpec.upto foldsTellSpec)

/-- 'annalistlaw33.FoldsGet', WHERE WHAT IT READS IS OF BULK AT MOST 1048576: true; the input reads as it did. -/
def foldsGetUptoRow : OpenClaim := { program := "ytkkafjknogfdnaa", sum := "aabba608eb1b4a6cde5e9d2e9ee8b2a06e9de5e6f8956be2bdc7e8bac6a19833", func := "annalist/annalistlaw33.FoldsGet", spec := "foldsGet", inPlace := ["slices.overlaps[annalist/folds.Kind]"], unfollowed := true, recurses := true, apart := false, narrowed := true }
def FoldsGetUptoSaid : Prop := foldsGetUptoRow.holds Try.pinned (OpenSpec.upto foldsGetSpec)

/-- 'annalistlaw33.FoldsBack', WHERE WHAT IT READS IS OF BULK AT MOST 1048576: true; the input reads as it did. -/
def foldsBackUptoRow : OpenClaim := { program := "ytkkafjknogfdnaa", sum := "aabba608eb1b4a6cde5e9d2e9ee8b2a06e9de5e6f8956be2bdc7e8bac6a19833", func := "annalist/annalistlaw33.FoldsBack", spec := "foldsBack", inPlace := ["slices.overlaps[annalist/folds.Kind]"], unfollowed := true, recurses := true, apart := false, narrowed := true }
def FoldsBackUptoSaid : Prop := foldsBackUptoRow.holds Try.pinned (OpenSpec.upto foldsBackSpec)

end Rows
end Go.Proofs.Ytkkafjknogfdnaa
