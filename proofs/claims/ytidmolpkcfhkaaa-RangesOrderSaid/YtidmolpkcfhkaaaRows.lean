/-
  No cell of these rows narrows 'for every input' (looked for: loops, veiled, ifaces, maps, wideKeys, modest, calm, conditions, laid).
  DERIVED. THE GIVEN ROWS OF THIS SEAT. 11 by the template 'for every input the law returns true; each argument reads behind the call as it read before'; 0 by the template 'total and deterministic' (their statements: YtidmolpkcfhkaaaTotals.lean).
  GIVEN WITH THE SEED: the statements are not yours to turn. If you find one false, say at which input.
  Laid BY PROGRAM, IN A SANDBOX (cutbox-rows.mjs): the forced cells as the released guide's own fill.sh prints them over the translation de359efd00fbb839… (all of the seat's roots in one cut). By AI agents, Wed Nov 11 2026. No macro, syntax, notation, axiom, sorry.
-/
import Derived.Test.YtidmolpkcfhkaaaChecked
import GoSem.Claim
import GoSem.ClaimJoined
import GoSem.ClaimMapViews
import Derived.JoinedTies
import Derived.KernelRfl
namespace Go.Proofs.Ytidmolpkcfhkaaa
/- THE CELL 'sum', in the pinned program and in every row, IS THE sha256 OF THE DUMP (.gsa) THAT YtidmolpkcfhkaaaProg.lean LOADS. Nothing in Lean hashes anything: it is a label: what it is worth is what the hold of that sum in a sandbox is worth. -/
noncomputable def Try.pinned : Pinned := { name := "ytidmolpkcfhkaaa", sum := "de359efd00fbb83952c0edc4d02aee7d0b30132545af86d804a6097668a74bc3", checked := Try.checked }
namespace Rows
def none {H : Type} : Left H := { results := [], args := [] }

/-- 'haulierlaw01.VintRows': WHATEVER THE INPUT: true; the input reads as it did. -/
def vintRowsSpec : ChangeSpec := { name := "vintRows", fn := fun _ => fun
  | [d1, d2] => { results := [.lit (.bool true)], args := [d1, d2] }
  | _ => none }
def vintRowsRow : OpenClaim := { program := "ytidmolpkcfhkaaa", sum := "de359efd00fbb83952c0edc4d02aee7d0b30132545af86d804a6097668a74bc3", func := "haulier/haulierlaw01.VintRows", spec := "vintRows", unfollowed := true, recurses := true, apart := false }
def VintRowsSaid : Prop := vintRowsRow.holds Try.pinned (OpenSpec.ofChange vintRowsSpec)

/-- ITS FALSE NEIGHBOUR: 'it returns false'. Refute it at one input. -/
def vintRowsWrong : ChangeSpec := { name := "vintRows", fn := fun _ => fun
  | [d1, d2] => { results := [.lit (.bool false)], args := [d1, d2] }
  | _ => none }
def VintRowsWrongFalsely : Prop := vintRowsRow.holds Try.pinned (OpenSpec.ofChange vintRowsWrong)

/-- 'haulierlaw01.VintBack': WHATEVER THE INPUT: true; the input reads as it did. -/
def vintBackSpec : ChangeSpec := { name := "vintBack", fn := fun _ => fun
  | [d1, d2, d3, d4] => { results := [.lit (.bool true)], args := [d1, d2, d3, d4] }
  | _ => none }
def vintBackRow : OpenClaim := { program := "ytidmolpkcfhkaaa", sum := "de359efd00fbb83952c0edc4d02aee7d0b30132545af86d804a6097668a74bc3", func := "haulier/haulierlaw01.VintBack", spec := "vintBack", unfollowed := true, recurses := true, apart := false }
def VintBackSaid : Prop := vintBackRow.holds Try.pinned (OpenSpec.ofChange vintBackSpec)

/-- ITS FALSE NEIGHBOUR: 'it returns false'. Refute it at one input. -/
def vintBackWrong : ChangeSpec := { name := "vintBack", fn := fun _ => fun
  | [d1, d2, d3, d4] => { results := [.lit (.bool false)], args := [d1, d2, d3, d4] }
  | _ => none }
def VintBackWrongFalsely : Prop := vintBackRow.holds Try.pinned (OpenSpec.ofChange vintBackWrong)

/-- 'haulierlaw13.OutboxWhole': WHATEVER THE INPUT: true; the input reads as it did. -/
def outboxWholeSpec : ChangeSpec := { name := "outboxWhole", fn := fun _ => fun
  | [d1, d2, d3] => { results := [.lit (.bool true)], args := [d1, d2, d3] }
  | _ => none }
def outboxWholeRow : OpenClaim := { program := "ytidmolpkcfhkaaa", sum := "de359efd00fbb83952c0edc4d02aee7d0b30132545af86d804a6097668a74bc3", func := "haulier/haulierlaw13.OutboxWhole", spec := "outboxWhole", apart := false }
def OutboxWholeSaid : Prop := outboxWholeRow.holds Try.pinned (OpenSpec.ofChange outboxWholeSpec)

/-- ITS FALSE NEIGHBOUR: 'it returns false'. Refute it at one input. -/
def outboxWholeWrong : ChangeSpec := { name := "outboxWhole", fn := fun _ => fun
  | [d1, d2, d3] => { results := [.lit (.bool false)], args := [d1, d2, d3] }
  | _ => none }
def OutboxWholeWrongFalsely : Prop := outboxWholeRow.holds Try.pinned (OpenSpec.ofChange outboxWholeWrong)

/-- 'haulierlaw01.VintTells': WHATEVER THE INPUT: true; the input reads as it did. -/
def vintTellsSpec : ChangeSpec := { name := "vintTells", fn := fun _ => fun
  | [d1, d2, d3, d4, d5] => { results := [.lit (.bool true)], args := [d1, d2, d3, d4, d5] }
  | _ => none }
def vintTellsRow : OpenClaim := { program := "ytidmolpkcfhkaaa", sum := "de359efd00fbb83952c0edc4d02aee7d0b30132545af86d804a6097668a74bc3", func := "haulier/haulierlaw01.VintTells", spec := "vintTells", unfollowed := true, recurses := true, apart := false }
def VintTellsSaid : Prop := vintTellsRow.holds Try.pinned (OpenSpec.ofChange vintTellsSpec)

/-- ITS FALSE NEIGHBOUR: 'it returns false'. Refute it at one input. -/
def vintTellsWrong : ChangeSpec := { name := "vintTells", fn := fun _ => fun
  | [d1, d2, d3, d4, d5] => { results := [.lit (.bool false)], args := [d1, d2, d3, d4, d5] }
  | _ => none }
def VintTellsWrongFalsely : Prop := vintTellsRow.holds Try.pinned (OpenSpec.ofChange vintTellsWrong)

/-- 'haulierlaw04.SpanReads': WHATEVER THE INPUT: true; the input reads as it did. -/
def spanReadsSpec : ChangeSpec := { name := "spanReads", fn := fun _ => fun
  | [d1, d2, d3, d4, d5] => { results := [.lit (.bool true)], args := [d1, d2, d3, d4, d5] }
  | _ => none }
def spanReadsRow : OpenClaim := { program := "ytidmolpkcfhkaaa", sum := "de359efd00fbb83952c0edc4d02aee7d0b30132545af86d804a6097668a74bc3", func := "haulier/haulierlaw04.SpanReads", spec := "spanReads", apart := false }
def SpanReadsSaid : Prop := spanReadsRow.holds Try.pinned (OpenSpec.ofChange spanReadsSpec)

/-- ITS FALSE NEIGHBOUR: 'it returns false'. Refute it at one input. -/
def spanReadsWrong : ChangeSpec := { name := "spanReads", fn := fun _ => fun
  | [d1, d2, d3, d4, d5] => { results := [.lit (.bool false)], args := [d1, d2, d3, d4, d5] }
  | _ => none }
def SpanReadsWrongFalsely : Prop := spanReadsRow.holds Try.pinned (OpenSpec.ofChange spanReadsWrong)

/-- 'haulierlaw04.SpanBack': WHATEVER THE INPUT: true; the input reads as it did. -/
def spanBackSpec : ChangeSpec := { name := "spanBack", fn := fun _ => fun
  | [d1, d2, d3] => { results := [.lit (.bool true)], args := [d1, d2, d3] }
  | _ => none }
def spanBackRow : OpenClaim := { program := "ytidmolpkcfhkaaa", sum := "de359efd00fbb83952c0edc4d02aee7d0b30132545af86d804a6097668a74bc3", func := "haulier/haulierlaw04.SpanBack", spec := "spanBack", apart := false }
def SpanBackSaid : Prop := spanBackRow.holds Try.pinned (OpenSpec.ofChange spanBackSpec)

/-- ITS FALSE NEIGHBOUR: 'it returns false'. Refute it at one input. -/
def spanBackWrong : ChangeSpec := { name := "spanBack", fn := fun _ => fun
  | [d1, d2, d3] => { results := [.lit (.bool false)], args := [d1, d2, d3] }
  | _ => none }
def SpanBackWrongFalsely : Prop := spanBackRow.holds Try.pinned (OpenSpec.ofChange spanBackWrong)

/-- 'haulierlaw07.EventUnpacks': WHATEVER THE INPUT: true; the input reads as it did. -/
def eventUnpacksSpec : ChangeSpec := { name := "eventUnpacks", fn := fun _ => fun
  | [d1, d2, d3, d4, d5, d6] => { results := [.lit (.bool true)], args := [d1, d2, d3, d4, d5, d6] }
  | _ => none }
def eventUnpacksRow : OpenClaim := { program := "ytidmolpkcfhkaaa", sum := "de359efd00fbb83952c0edc4d02aee7d0b30132545af86d804a6097668a74bc3", func := "haulier/haulierlaw07.EventUnpacks", spec := "eventUnpacks", unfollowed := true, recurses := true, apart := false }
def EventUnpacksSaid : Prop := eventUnpacksRow.holds Try.pinned (OpenSpec.ofChange eventUnpacksSpec)

/-- ITS FALSE NEIGHBOUR: 'it returns false'. Refute it at one input. -/
def eventUnpacksWrong : ChangeSpec := { name := "eventUnpacks", fn := fun _ => fun
  | [d1, d2, d3, d4, d5, d6] => { results := [.lit (.bool false)], args := [d1, d2, d3, d4, d5, d6] }
  | _ => none }
def EventUnpacksWrongFalsely : Prop := eventUnpacksRow.holds Try.pinned (OpenSpec.ofChange eventUnpacksWrong)

/-- 'haulierlaw07.EventPacks': WHATEVER THE INPUT: true; the input reads as it did. -/
def eventPacksSpec : ChangeSpec := { name := "eventPacks", fn := fun _ => fun
  | [d1, d2, d3, d4, d5] => { results := [.lit (.bool true)], args := [d1, d2, d3, d4, d5] }
  | _ => none }
def eventPacksRow : OpenClaim := { program := "ytidmolpkcfhkaaa", sum := "de359efd00fbb83952c0edc4d02aee7d0b30132545af86d804a6097668a74bc3", func := "haulier/haulierlaw07.EventPacks", spec := "eventPacks", unfollowed := true, recurses := true, apart := false }
def EventPacksSaid : Prop := eventPacksRow.holds Try.pinned (OpenSpec.ofChange eventPacksSpec)

/-- ITS FALSE NEIGHBOUR: 'it returns false'. Refute it at one input. -/
def eventPacksWrong : ChangeSpec := { name := "eventPacks", fn := fun _ => fun
  | [d1, d2, d3, d4, d5] => { results := [.lit (.bool false)], args := [d1, d2, d3, d4, d5] }
  | _ => none }
def EventPacksWrongFalsely : Prop := eventPacksRow.holds Try.pinned (OpenSpec.ofChange eventPacksWrong)

/-- 'haulierlaw07.EventBack': WHATEVER THE INPUT: true; the input reads as it did. -/
def eventBackSpec : ChangeSpec := { name := "eventBack", fn := fun _ => fun
  | [d1, d2, d3, d4] => { results := [.lit (.bool true)], args := [d1, d2, d3, d4] }
  | _ => none }
def eventBackRow : OpenClaim := { program := "ytidmolpkcfhkaaa", sum := "de359efd00fbb83952c0edc4d02aee7d0b30132545af86d804a6097668a74bc3", func := "haulier/haulierlaw07.EventBack", spec := "eventBack", unfollowed := true, recurses := true, apart := false }
def EventBackSaid : Prop := eventBackRow.holds Try.pinned (OpenSpec.ofChange eventBackSpec)

/-- ITS FALSE NEIGHBOUR: 'it returns false'. Refute it at one input. -/
def eventBackWrong : ChangeSpec := { name := "eventBack", fn := fun _ => fun
  | [d1, d2, d3, d4] => { results := [.lit (.bool false)], args := [d1, d2, d3, d4] }
  | _ => none }
def EventBackWrongFalsely : Prop := eventBackRow.holds Try.pinned (OpenSpec.ofChange eventBackWrong)

/-- 'haulierlaw05.RangesFirst': WHATEVER THE INPUT: true; the input reads as it did. -/
def rangesFirstSpec : ChangeSpec := { name := "rangesFirst", fn := fun _ => fun
  | [d] => { results := [.lit (.bool true)], args := [d] }
  | _ => none }
def rangesFirstRow : OpenClaim := { program := "ytidmolpkcfhkaaa", sum := "de359efd00fbb83952c0edc4d02aee7d0b30132545af86d804a6097668a74bc3", func := "haulier/haulierlaw05.RangesFirst", spec := "rangesFirst", unfollowed := true, recurses := true, apart := false }
def RangesFirstSaid : Prop := rangesFirstRow.holds Try.pinned (OpenSpec.ofChange rangesFirstSpec)

/-- ITS FALSE NEIGHBOUR: 'it returns false'. Refute it at one input. -/
def rangesFirstWrong : ChangeSpec := { name := "rangesFirst", fn := fun _ => fun
  | [d] => { results := [.lit (.bool false)], args := [d] }
  | _ => none }
def RangesFirstWrongFalsely : Prop := rangesFirstRow.holds Try.pinned (OpenSpec.ofChange rangesFirstWrong)

/-- 'haulierlaw05.RangesOrder': WHATEVER THE INPUT: true; the input reads as it did. -/
def rangesOrderSpec : ChangeSpec := { name := "rangesOrder", fn := fun _ => fun
  | [d1, d2, d3] => { results := [.lit (.bool true)], args := [d1, d2, d3] }
  | _ => none }
def rangesOrderRow : OpenClaim := { program := "ytidmolpkcfhkaaa", sum := "de359efd00fbb83952c0edc4d02aee7d0b30132545af86d804a6097668a74bc3", func := "haulier/haulierlaw05.RangesOrder", spec := "rangesOrder", unfollowed := true, recurses := true, apart := false }
def RangesOrderSaid : Prop := rangesOrderRow.holds Try.pinned (OpenSpec.ofChange rangesOrderSpec)

/-- ITS FALSE NEIGHBOUR: 'it returns false'. Refute it at one input. -/
def rangesOrderWrong : ChangeSpec := { name := "rangesOrder", fn := fun _ => fun
  | [d1, d2, d3] => { results := [.lit (.bool false)], args := [d1, d2, d3] }
  | _ => none }
def RangesOrderWrongFalsely : Prop := rangesOrderRow.holds Try.pinned (OpenSpec.ofChange rangesOrderWrong)

/- THE SECOND FORM. 'bulk': how many values and letters a reading holds, each counted each time it is reached (what is shared counts as often as it is met; a slice's spare places count too). A statement '..UptoSaid' is the law's where the arguments, and the package variables that the reading takes, are together of bulk at most 1048576: NARROWER than '..Said'. Prove '..Said' where nothing that the law and all that it calls make is longer than what came in: it says more and counts as full. Else prove '..UptoSaid'. A law counts once. -/
mutual
def uptoBulk {H : Type} : DataW H → Nat
  | .lit (.string bytes) => bytes.length + 1
  | .lit _ => 1
  | .nil => 1
  | .ptr d => uptoBulk d + 1
  | .slice elems spare => uptoBulkAll elems + uptoBulkAll spare + 1
  | .agg parts => uptoBulkAll parts + 1
  | .iface _ d => uptoBulk d + 1
  | .map entries => uptoBulkEntries entries + 1
  | .held _ => 1
def uptoBulkAll {H : Type} : List (DataW H) → Nat
  | [] => 0
  | d :: r => uptoBulk d + uptoBulkAll r
def uptoBulkEntries {H : Type} : List (Lit × DataW H) → Nat
  | [] => 0
  | x :: r => uptoBulkEntry x + uptoBulkEntries r
def uptoBulkEntry {H : Type} : Lit × DataW H → Nat
  | (.string bytes, d) => bytes.length + uptoBulk d + 1
  | (_, d) => uptoBulk d + 1
 end
def uptoSmall : (H : Type) → List (DataW H) → Bool := fun _ ds => decide (uptoBulkAll ds ≤ 1048576)
def OpenSpec.upto (s : _root_.Go.ChangeSpec) : _root_.Go.OpenSpec := { _root_.Go.OpenSpec.ofChange s with cond := some uptoSmall }

/-- 'haulierlaw01.VintRows', WHERE WHAT IT READS IS OF BULK AT MOST 1048576: true; the input reads as it did. -/
def vintRowsUptoRow : OpenClaim := { program := "ytidmolpkcfhkaaa", sum := "de359efd00fbb83952c0edc4d02aee7d0b30132545af86d804a6097668a74bc3", func := "haulier/haulierlaw01.VintRows", spec := "vintRows", unfollowed := true, recurses := true, apart := false, narrowed := true }
def VintRowsUptoSaid : Prop := vintRowsUptoRow.holds Try.pinned (OpenSpec.upto vintRowsSpec)

/-- 'haulierlaw01.VintBack', WHERE WHAT IT READS IS OF BULK AT MOST 1048576: true; the input reads as it did. -/
def vintBackUptoRow : OpenClaim := { program := "ytidmolpkcfhkaaa", sum := "de359efd00fbb83952c0edc4d02aee7d0b30132545af86d804a6097668a74bc3", func := "haulier/haulierlaw01.VintBack", spec := "vintBack", unfollowed := true, recurses := true, apart := false, narrowed := true }
def VintBackUptoSaid : Prop := vintBackUptoRow.holds Try.pinned (OpenSpec.upto vintBackSpec)

/-- 'haulierlaw13.OutboxWhole', WHERE WHAT IT READS IS OF BULK AT MOST 1048576: true; the input reads as it did. -/
def outboxWholeUptoRow : OpenClaim := { program := "ytidmolpkcfhkaaa", sum := "de359efd00fbb83952c0edc4d02aee7d0b30132545af86d804a6097668a74bc3", func := "haulier/haulierlaw13.OutboxWhole", spec := "outboxWhole", apart := false, narrowed := true }
def OutboxWholeUptoSaid : Prop := outboxWholeUptoRow.holds Try.pinned (OpenSpec.upto outboxWholeSpec)

/-- 'haulierlaw01.VintTells', WHERE WHAT IT READS IS OF BULK AT MOST 1048576: true; the input reads as it did. -/
def vintTellsUptoRow : OpenClaim := { program := "ytidmolpkcfhkaaa", sum := "de359efd00fbb83952c0edc4d02aee7d0b30132545af86d804a6097668a74bc3", func := "haulier/haulierlaw01.VintTells", spec := "vintTells", unfollowed := true, recurses := true, apart := false, narrowed := true }
def VintTellsUptoSaid : Prop := vintTellsUptoRow.holds Try.pinned (OpenSpec.upto vintTellsSpec)

/-- 'haulierlaw04.SpanReads', WHERE WHAT IT READS IS OF BULK AT MOST 1048576: true; the input reads as it did. -/
def spanReadsUptoRow : OpenClaim := { program := "ytidmolpkcfhkaaa", sum := "de359efd00fbb83952c0edc4d02aee7d0b30132545af86d804a6097668a74bc3", func := "haulier/haulierlaw04.SpanReads", spec := "spanReads", apart := false, narrowed := true }
def SpanReadsUptoSaid : Prop := spanReadsUptoRow.holds Try.pinned (OpenSpec.upto spanReadsSpec)

/-- 'haulierlaw04.SpanBack', WHERE WHAT IT READS IS OF BULK AT MOST 1048576: true; the input reads as it did. -/
def spanBackUptoRow : OpenClaim := { program := "ytidmolpkcfhkaaa", sum := "de359efd00fbb83952c0edc4d02aee7d0b30132545af86d804a6097668a74bc3", func := "haulier/haulierlaw04.SpanBack", spec := "spanBack", apart := false, narrowed := true }
def SpanBackUptoSaid : Prop := spanBackUptoRow.holds Try.pinned (OpenSpec.upto spanBackSpec)

/-- 'haulierlaw07.EventUnpacks', WHERE WHAT IT READS IS OF BULK AT MOST 1048576: true; the input reads as it did. -/
def eventUnpacksUptoRow : OpenClaim := { program := "ytidmolpkcfhkaaa", sum := "de359efd00fbb83952c0edc4d02aee7d0b30132545af86d804a6097668a74bc3", func := "haulier/haulierlaw07.EventUnpacks", spec := "eventUnpacks", unfollowed := true, recurses := true, apart := false, narrowed := true }
def EventUnpacksUptoSaid : Prop := eventUnpacksUptoRow.holds Try.pinned (OpenSpec.upto eventUnpacksSpec)

/-- 'haulierlaw07.EventPacks', WHERE WHAT IT READS IS OF BULK AT MOST 1048576: true; the input reads as it did. -/
def eventPacksUptoRow : OpenClaim := { program := "ytidmolpkcfhkaaa", sum := "de359efd00fbb83952c0edc4d02aee7d0b30132545af86d804a6097668a74bc3", func := "haulier/haulierlaw07.EventPacks", spec := "eventPacks", unfollowed := true, recurses := true, apart := false, narrowed := true }
def EventPacksUptoSaid : Prop := eventPacksUptoRow.holds Try.pinned (OpenSpec.upto eventPacksSpec)

/-- 'haulierlaw07.EventBack', WHERE WHAT IT READS IS OF BULK AT MOST 1048576: true; the input reads as it did. -/
def eventBackUptoRow : OpenClaim := { program := "ytidmolpkcfhkaaa", sum := "de359efd00fbb83952c0edc4d02aee7d0b30132545af86d804a6097668a74bc3", func := "haulier/haulierlaw07.EventBack", spec := "eventBack", unfollowed := true, recurses := true, apart := false, narrowed := true }
def EventBackUptoSaid : Prop := eventBackUptoRow.holds Try.pinned (OpenSpec.upto eventBackSpec)

/-- 'haulierlaw05.RangesFirst', WHERE WHAT IT READS IS OF BULK AT MOST 1048576: true; the input reads as it did. -/
def rangesFirstUptoRow : OpenClaim := { program := "ytidmolpkcfhkaaa", sum := "de359efd00fbb83952c0edc4d02aee7d0b30132545af86d804a6097668a74bc3", func := "haulier/haulierlaw05.RangesFirst", spec := "rangesFirst", unfollowed := true, recurses := true, apart := false, narrowed := true }
def RangesFirstUptoSaid : Prop := rangesFirstUptoRow.holds Try.pinned (OpenSpec.upto rangesFirstSpec)

/-- 'haulierlaw05.RangesOrder', WHERE WHAT IT READS IS OF BULK AT MOST 1048576: true; the input reads as it did. -/
def rangesOrderUptoRow : OpenClaim := { program := "ytidmolpkcfhkaaa", sum := "de359efd00fbb83952c0edc4d02aee7d0b30132545af86d804a6097668a74bc3", func := "haulier/haulierlaw05.RangesOrder", spec := "rangesOrder", unfollowed := true, recurses := true, apart := false, narrowed := true }
def RangesOrderUptoSaid : Prop := rangesOrderUptoRow.holds Try.pinned (OpenSpec.upto rangesOrderSpec)

end Rows
end Go.Proofs.Ytidmolpkcfhkaaa
