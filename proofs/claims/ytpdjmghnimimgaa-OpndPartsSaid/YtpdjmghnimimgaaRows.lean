/-
  No cell of these rows narrows 'for every input' (looked for: loops, veiled, ifaces, maps, wideKeys, modest, calm, conditions, laid).
  DERIVED. THE GIVEN ROWS OF THIS SEAT. 12 by the template 'for every input the law returns true; each argument reads behind the call as it read before'; 0 by the template 'total and deterministic' (their statements: YtpdjmghnimimgaaTotals.lean).
  GIVEN WITH THE SEED: the statements are not yours to turn. If you find one false, say at which input.
  Laid BY PROGRAM, IN A SANDBOX (cutbox-rows.mjs): the forced cells as the released guide's own fill.sh prints them over the translation 043be70173fc3203… (all of the seat's roots in one cut). By AI agents, Wed Nov 11 2026. No macro, syntax, notation, axiom, sorry.
-/
import Derived.Test.YtpdjmghnimimgaaChecked
import GoSem.Claim
import GoSem.ClaimJoined
import GoSem.ClaimMapViews
import Derived.JoinedTies
import Derived.KernelRfl
namespace Go.Proofs.Ytpdjmghnimimgaa
/- THE CELL 'sum', in the pinned program and in every row, IS THE sha256 OF THE DUMP (.gsa) THAT YtpdjmghnimimgaaProg.lean LOADS. Nothing in Lean hashes anything: it is a label: what it is worth is what the hold of that sum in a sandbox is worth. -/
noncomputable def Try.pinned : Pinned := { name := "ytpdjmghnimimgaa", sum := "043be70173fc3203f54e85e8e5198b0d3c0043a23a8e02d1b66314abdc5392b4", checked := Try.checked }
namespace Rows
def none {H : Type} : Left H := { results := [], args := [] }

/-- 'palinglaw1.WordDoes': WHATEVER THE INPUT: true; the input reads as it did. -/
def wordDoesSpec : ChangeSpec := { name := "wordDoes", fn := fun _ => fun
  | [d1, d2, d3] => { results := [.lit (.bool true)], args := [d1, d2, d3] }
  | _ => none }
def wordDoesRow : OpenClaim := { program := "ytpdjmghnimimgaa", sum := "043be70173fc3203f54e85e8e5198b0d3c0043a23a8e02d1b66314abdc5392b4", func := "paling/palinglaw1.WordDoes", spec := "wordDoes", apart := false }
def WordDoesSaid : Prop := wordDoesRow.holds Try.pinned (OpenSpec.ofChange wordDoesSpec)

/-- ITS FALSE NEIGHBOUR: 'it returns false'. Refute it at one input. -/
def wordDoesWrong : ChangeSpec := { name := "wordDoes", fn := fun _ => fun
  | [d1, d2, d3] => { results := [.lit (.bool false)], args := [d1, d2, d3] }
  | _ => none }
def WordDoesWrongFalsely : Prop := wordDoesRow.holds Try.pinned (OpenSpec.ofChange wordDoesWrong)

/-- 'palinglaw1.WordEach': WHATEVER THE INPUT: true; the input reads as it did. -/
def wordEachSpec : ChangeSpec := { name := "wordEach", fn := fun _ => fun
  | [d1, d2] => { results := [.lit (.bool true)], args := [d1, d2] }
  | _ => none }
def wordEachRow : OpenClaim := { program := "ytpdjmghnimimgaa", sum := "043be70173fc3203f54e85e8e5198b0d3c0043a23a8e02d1b66314abdc5392b4", func := "paling/palinglaw1.WordEach", spec := "wordEach", apart := false }
def WordEachSaid : Prop := wordEachRow.holds Try.pinned (OpenSpec.ofChange wordEachSpec)

/-- ITS FALSE NEIGHBOUR: 'it returns false'. Refute it at one input. -/
def wordEachWrong : ChangeSpec := { name := "wordEach", fn := fun _ => fun
  | [d1, d2] => { results := [.lit (.bool false)], args := [d1, d2] }
  | _ => none }
def WordEachWrongFalsely : Prop := wordEachRow.holds Try.pinned (OpenSpec.ofChange wordEachWrong)

/-- 'palinglaw1.WordHolds': WHATEVER THE INPUT: true; the input reads as it did. -/
def wordHoldsSpec : ChangeSpec := { name := "wordHolds", fn := fun _ => fun
  | [d1, d2] => { results := [.lit (.bool true)], args := [d1, d2] }
  | _ => none }
def wordHoldsRow : OpenClaim := { program := "ytpdjmghnimimgaa", sum := "043be70173fc3203f54e85e8e5198b0d3c0043a23a8e02d1b66314abdc5392b4", func := "paling/palinglaw1.WordHolds", spec := "wordHolds", apart := false }
def WordHoldsSaid : Prop := wordHoldsRow.holds Try.pinned (OpenSpec.ofChange wordHoldsSpec)

/-- ITS FALSE NEIGHBOUR: 'it returns false'. Refute it at one input. -/
def wordHoldsWrong : ChangeSpec := { name := "wordHolds", fn := fun _ => fun
  | [d1, d2] => { results := [.lit (.bool false)], args := [d1, d2] }
  | _ => none }
def WordHoldsWrongFalsely : Prop := wordHoldsRow.holds Try.pinned (OpenSpec.ofChange wordHoldsWrong)

/-- 'palinglaw1.WordTurns': WHATEVER THE INPUT: true; the input reads as it did. -/
def wordTurnsSpec : ChangeSpec := { name := "wordTurns", fn := fun _ => fun
  | [d1, d2] => { results := [.lit (.bool true)], args := [d1, d2] }
  | _ => none }
def wordTurnsRow : OpenClaim := { program := "ytpdjmghnimimgaa", sum := "043be70173fc3203f54e85e8e5198b0d3c0043a23a8e02d1b66314abdc5392b4", func := "paling/palinglaw1.WordTurns", spec := "wordTurns", apart := false }
def WordTurnsSaid : Prop := wordTurnsRow.holds Try.pinned (OpenSpec.ofChange wordTurnsSpec)

/-- ITS FALSE NEIGHBOUR: 'it returns false'. Refute it at one input. -/
def wordTurnsWrong : ChangeSpec := { name := "wordTurns", fn := fun _ => fun
  | [d1, d2] => { results := [.lit (.bool false)], args := [d1, d2] }
  | _ => none }
def WordTurnsWrongFalsely : Prop := wordTurnsRow.holds Try.pinned (OpenSpec.ofChange wordTurnsWrong)

/-- 'palinglaw1.WordCompares': WHATEVER THE INPUT: true; the input reads as it did. -/
def wordComparesSpec : ChangeSpec := { name := "wordCompares", fn := fun _ => fun
  | [d1, d2] => { results := [.lit (.bool true)], args := [d1, d2] }
  | _ => none }
def wordComparesRow : OpenClaim := { program := "ytpdjmghnimimgaa", sum := "043be70173fc3203f54e85e8e5198b0d3c0043a23a8e02d1b66314abdc5392b4", func := "paling/palinglaw1.WordCompares", spec := "wordCompares", apart := false }
def WordComparesSaid : Prop := wordComparesRow.holds Try.pinned (OpenSpec.ofChange wordComparesSpec)

/-- ITS FALSE NEIGHBOUR: 'it returns false'. Refute it at one input. -/
def wordComparesWrong : ChangeSpec := { name := "wordCompares", fn := fun _ => fun
  | [d1, d2] => { results := [.lit (.bool false)], args := [d1, d2] }
  | _ => none }
def WordComparesWrongFalsely : Prop := wordComparesRow.holds Try.pinned (OpenSpec.ofChange wordComparesWrong)

/-- 'palinglaw1.WordBack': WHATEVER THE INPUT: true; the input reads as it did. -/
def wordBackSpec : ChangeSpec := { name := "wordBack", fn := fun _ => fun
  | [d1, d2] => { results := [.lit (.bool true)], args := [d1, d2] }
  | _ => none }
def wordBackRow : OpenClaim := { program := "ytpdjmghnimimgaa", sum := "043be70173fc3203f54e85e8e5198b0d3c0043a23a8e02d1b66314abdc5392b4", func := "paling/palinglaw1.WordBack", spec := "wordBack", apart := false }
def WordBackSaid : Prop := wordBackRow.holds Try.pinned (OpenSpec.ofChange wordBackSpec)

/-- ITS FALSE NEIGHBOUR: 'it returns false'. Refute it at one input. -/
def wordBackWrong : ChangeSpec := { name := "wordBack", fn := fun _ => fun
  | [d1, d2] => { results := [.lit (.bool false)], args := [d1, d2] }
  | _ => none }
def WordBackWrongFalsely : Prop := wordBackRow.holds Try.pinned (OpenSpec.ofChange wordBackWrong)

/-- 'palinglaw1.WordSmall': WHATEVER THE INPUT: true; the input reads as it did. -/
def wordSmallSpec : ChangeSpec := { name := "wordSmall", fn := fun _ => fun
  | [d1, d2] => { results := [.lit (.bool true)], args := [d1, d2] }
  | _ => none }
def wordSmallRow : OpenClaim := { program := "ytpdjmghnimimgaa", sum := "043be70173fc3203f54e85e8e5198b0d3c0043a23a8e02d1b66314abdc5392b4", func := "paling/palinglaw1.WordSmall", spec := "wordSmall", apart := false }
def WordSmallSaid : Prop := wordSmallRow.holds Try.pinned (OpenSpec.ofChange wordSmallSpec)

/-- ITS FALSE NEIGHBOUR: 'it returns false'. Refute it at one input. -/
def wordSmallWrong : ChangeSpec := { name := "wordSmall", fn := fun _ => fun
  | [d1, d2] => { results := [.lit (.bool false)], args := [d1, d2] }
  | _ => none }
def WordSmallWrongFalsely : Prop := wordSmallRow.holds Try.pinned (OpenSpec.ofChange wordSmallWrong)

/-- 'palinglaw6.OpndTells': WHATEVER THE INPUT: true; the input reads as it did. -/
def opndTellsSpec : ChangeSpec := { name := "opndTells", fn := fun _ => fun
  | [d1, d2] => { results := [.lit (.bool true)], args := [d1, d2] }
  | _ => none }
def opndTellsRow : OpenClaim := { program := "ytpdjmghnimimgaa", sum := "043be70173fc3203f54e85e8e5198b0d3c0043a23a8e02d1b66314abdc5392b4", func := "paling/palinglaw6.OpndTells", spec := "opndTells", unfollowed := true, recurses := true, apart := false }
def OpndTellsSaid : Prop := opndTellsRow.holds Try.pinned (OpenSpec.ofChange opndTellsSpec)

/-- ITS FALSE NEIGHBOUR: 'it returns false'. Refute it at one input. -/
def opndTellsWrong : ChangeSpec := { name := "opndTells", fn := fun _ => fun
  | [d1, d2] => { results := [.lit (.bool false)], args := [d1, d2] }
  | _ => none }
def OpndTellsWrongFalsely : Prop := opndTellsRow.holds Try.pinned (OpenSpec.ofChange opndTellsWrong)

/-- 'palinglaw6.OpndMade': WHATEVER THE INPUT: true; the input reads as it did. -/
def opndMadeSpec : ChangeSpec := { name := "opndMade", fn := fun _ => fun
  | [d1, d2, d3, d4] => { results := [.lit (.bool true)], args := [d1, d2, d3, d4] }
  | _ => none }
def opndMadeRow : OpenClaim := { program := "ytpdjmghnimimgaa", sum := "043be70173fc3203f54e85e8e5198b0d3c0043a23a8e02d1b66314abdc5392b4", func := "paling/palinglaw6.OpndMade", spec := "opndMade", unfollowed := true, recurses := true, apart := false }
def OpndMadeSaid : Prop := opndMadeRow.holds Try.pinned (OpenSpec.ofChange opndMadeSpec)

/-- ITS FALSE NEIGHBOUR: 'it returns false'. Refute it at one input. -/
def opndMadeWrong : ChangeSpec := { name := "opndMade", fn := fun _ => fun
  | [d1, d2, d3, d4] => { results := [.lit (.bool false)], args := [d1, d2, d3, d4] }
  | _ => none }
def OpndMadeWrongFalsely : Prop := opndMadeRow.holds Try.pinned (OpenSpec.ofChange opndMadeWrong)

/-- 'palinglaw6.OpndPanics': WHATEVER THE INPUT: true; the input reads as it did. -/
def opndPanicsSpec : ChangeSpec := { name := "opndPanics", fn := fun _ => fun
  | [d1, d2, d3] => { results := [.lit (.bool true)], args := [d1, d2, d3] }
  | _ => none }
def opndPanicsRow : OpenClaim := { program := "ytpdjmghnimimgaa", sum := "043be70173fc3203f54e85e8e5198b0d3c0043a23a8e02d1b66314abdc5392b4", func := "paling/palinglaw6.OpndPanics", spec := "opndPanics", unfollowed := true, recurses := true, apart := false }
def OpndPanicsSaid : Prop := opndPanicsRow.holds Try.pinned (OpenSpec.ofChange opndPanicsSpec)

/-- ITS FALSE NEIGHBOUR: 'it returns false'. Refute it at one input. -/
def opndPanicsWrong : ChangeSpec := { name := "opndPanics", fn := fun _ => fun
  | [d1, d2, d3] => { results := [.lit (.bool false)], args := [d1, d2, d3] }
  | _ => none }
def OpndPanicsWrongFalsely : Prop := opndPanicsRow.holds Try.pinned (OpenSpec.ofChange opndPanicsWrong)

/-- 'palinglaw6.OpndApart': WHATEVER THE INPUT: true; the input reads as it did. -/
def opndApartSpec : ChangeSpec := { name := "opndApart", fn := fun _ => fun
  | [d1, d2] => { results := [.lit (.bool true)], args := [d1, d2] }
  | _ => none }
def opndApartRow : OpenClaim := { program := "ytpdjmghnimimgaa", sum := "043be70173fc3203f54e85e8e5198b0d3c0043a23a8e02d1b66314abdc5392b4", func := "paling/palinglaw6.OpndApart", spec := "opndApart", unfollowed := true, recurses := true, apart := false }
def OpndApartSaid : Prop := opndApartRow.holds Try.pinned (OpenSpec.ofChange opndApartSpec)

/-- ITS FALSE NEIGHBOUR: 'it returns false'. Refute it at one input. -/
def opndApartWrong : ChangeSpec := { name := "opndApart", fn := fun _ => fun
  | [d1, d2] => { results := [.lit (.bool false)], args := [d1, d2] }
  | _ => none }
def OpndApartWrongFalsely : Prop := opndApartRow.holds Try.pinned (OpenSpec.ofChange opndApartWrong)

/-- 'palinglaw6.OpndParts': WHATEVER THE INPUT: true; the input reads as it did. -/
def opndPartsSpec : ChangeSpec := { name := "opndParts", fn := fun _ => fun
  | [d] => { results := [.lit (.bool true)], args := [d] }
  | _ => none }
def opndPartsRow : OpenClaim := { program := "ytpdjmghnimimgaa", sum := "043be70173fc3203f54e85e8e5198b0d3c0043a23a8e02d1b66314abdc5392b4", func := "paling/palinglaw6.OpndParts", spec := "opndParts", unfollowed := true, recurses := true, apart := false }
def OpndPartsSaid : Prop := opndPartsRow.holds Try.pinned (OpenSpec.ofChange opndPartsSpec)

/-- ITS FALSE NEIGHBOUR: 'it returns false'. Refute it at one input. -/
def opndPartsWrong : ChangeSpec := { name := "opndParts", fn := fun _ => fun
  | [d] => { results := [.lit (.bool false)], args := [d] }
  | _ => none }
def OpndPartsWrongFalsely : Prop := opndPartsRow.holds Try.pinned (OpenSpec.ofChange opndPartsWrong)

/- THE SECOND FORM. 'bulk': how many values and letters a reading holds, each counted each time it is reached (what is shared counts as often as it is met; a slice's spare places count too). A statement '..UptoSaid' is the law's where the arguments, and the package variables that the reading takes, are together of bulk at most 1048576: NARROWER than '..Said'. Prove '..Said' where nothing that the law and all that it calls make is longer than what came in: it says more and counts as full. Else prove '..UptoSaid'. A law counts once. -/
mutual
def uptoBulk {H : Type} : DataW H → Nat
  | .lit (.string bytes) => bytes.length + 1
  | .lit _ => 1
  | .nil => 1
  | .ptr d => uptoBulk d + 1
  | .slice elems spare => uptoBulkAll elems + uptoBulkAll spare + 1
  | .agg parts => uptoBulkAll parts + 1
  | .iface _ d => uptoBulk d + 1
  | .map entries => uptoBulkEntries entries + 1
  | .held _ => 1
def uptoBulkAll {H : Type} : List (DataW H) → Nat
  | [] => 0
  | d :: r => uptoBulk d + uptoBulkAll r
def uptoBulkEntries {H : Type} : List (Lit × DataW H) → Nat
  | [] => 0
  | x :: r => uptoBulkEntry x + uptoBulkEntries r
def uptoBulkEntry {H : Type} : Lit × DataW H → Nat
  | (.string bytes, d) => bytes.length + uptoBulk d + 1
  | (_, d) => uptoBulk d + 1
 end
def uptoSmall : (H : Type) → List (DataW H) → Bool := fun _ ds => decide (uptoBulkAll ds ≤ 1048576)
def OpenSpec.upto (s : _root_.Go.ChangeSpec) : _root_.Go.OpenSpec := { _root_.Go.OpenSpec.ofChange s with cond := some uptoSmall }

/-- 'palinglaw1.WordDoes', WHERE WHAT IT READS IS OF BULK AT MOST 1048576: true; the input reads as it did. -/
def wordDoesUptoRow : OpenClaim := { program := "ytpdjmghnimimgaa", sum := "043be70173fc3203f54e85e8e5198b0d3c0043a23a8e02d1b66314abdc5392b4", func := "paling/palinglaw1.WordDoes", spec := "wordDoes", apart := false, narrowed := true }
def WordDoesUptoSaid : Prop := wordDoesUptoRow.holds Try.pinned (OpenSpec.upto wordDoesSpec)

/-- 'palinglaw1.WordEach', WHERE WHAT IT READS IS OF BULK AT MOST 1048576: true; the input reads as it did. -/
def wordEachUptoRow : OpenClaim := { program := "ytpdjmghnimimgaa", sum := "043be70173fc3203f54e85e8e5198b0d3c0043a23a8e02d1b66314abdc5392b4", func := "paling/palinglaw1.WordEach", spec := "wordEach", apart := false, narrowed := true }
def WordEachUptoSaid : Prop := wordEachUptoRow.holds Try.pinned (OpenSpec.upto wordEachSpec)

/-- 'palinglaw1.WordHolds', WHERE WHAT IT READS IS OF BULK AT MOST 1048576: true; the input reads as it did. -/
def wordHoldsUptoRow : OpenClaim := { program := "ytpdjmghnimimgaa", sum := "043be70173fc3203f54e85e8e5198b0d3c0043a23a8e02d1b66314abdc5392b4", func := "paling/palinglaw1.WordHolds", spec := "wordHolds", apart := false, narrowed := true }
def WordHoldsUptoSaid : Prop := wordHoldsUptoRow.holds Try.pinned (OpenSpec.upto wordHoldsSpec)

/-- 'palinglaw1.WordTurns', WHERE WHAT IT READS IS OF BULK AT MOST 1048576: true; the input reads as it did. -/
def wordTurnsUptoRow : OpenClaim := { program := "ytpdjmghnimimgaa", sum := "043be70173fc3203f54e85e8e5198b0d3c0043a23a8e02d1b66314abdc5392b4", func := "paling/palinglaw1.WordTurns", spec := "wordTurns", apart := false, narrowed := true }
def WordTurnsUptoSaid : Prop := wordTurnsUptoRow.holds Try.pinned (OpenSpec.upto wordTurnsSpec)

/-- 'palinglaw1.WordCompares', WHERE WHAT IT READS IS OF BULK AT MOST 1048576: true; the input reads as it did. -/
def wordComparesUptoRow : OpenClaim := { program := "ytpdjmghnimimgaa", sum := "043be70173fc3203f54e85e8e5198b0d3c0043a23a8e02d1b66314abdc5392b4", func := "paling/palinglaw1.WordCompares", spec := "wordCompares", apart := false, narrowed := true }
def WordComparesUptoSaid : Prop := wordComparesUptoRow.holds Try.pinned (OpenSpec.upto wordComparesSpec)

/-- 'palinglaw1.WordBack', WHERE WHAT IT READS IS OF BULK AT MOST 1048576: true; the input reads as it did. -/
def wordBackUptoRow : OpenClaim := { program := "ytpdjmghnimimgaa", sum := "043be70173fc3203f54e85e8e5198b0d3c0043a23a8e02d1b66314abdc5392b4", func := "paling/palinglaw1.WordBack", spec := "wordBack", apart := false, narrowed := true }
def WordBackUptoSaid : Prop := wordBackUptoRow.holds Try.pinned (OpenSpec.upto wordBackSpec)

/-- 'palinglaw1.WordSmall', WHERE WHAT IT READS IS OF BULK AT MOST 1048576: true; the input reads as it did. -/
def wordSmallUptoRow : OpenClaim := { program := "ytpdjmghnimimgaa", sum := "043be70173fc3203f54e85e8e5198b0d3c0043a23a8e02d1b66314abdc5392b4", func := "paling/palinglaw1.WordSmall", spec := "wordSmall", apart := false, narrowed := true }
def WordSmallUptoSaid : Prop := wordSmallUptoRow.holds Try.pinned (OpenSpec.upto wordSmallSpec)

/-- 'palinglaw6.OpndTells', WHERE WHAT IT READS IS OF BULK AT MOST 1048576: true; the input reads as it did. -/
def opndTellsUptoRow : OpenClaim := { program := "ytpdjmghnimimgaa", sum := "043be70173fc3203f54e85e8e5198b0d3c0043a23a8e02d1b66314abdc5392b4", func := "paling/palinglaw6.OpndTells", spec := "opndTells", unfollowed := true, recurses := true, apart := false, narrowed := true }
def OpndTellsUptoSaid : Prop := opndTellsUptoRow.holds Try.pinned (OpenSpec.upto opndTellsSpec)

/-- 'palinglaw6.OpndMade', WHERE WHAT IT READS IS OF BULK AT MOST 1048576: true; the input reads as it did. -/
def opndMadeUptoRow : OpenClaim := { program := "ytpdjmghnimimgaa", sum := "043be70173fc3203f54e85e8e5198b0d3c0043a23a8e02d1b66314abdc5392b4", func := "paling/palinglaw6.OpndMade", spec := "opndMade", unfollowed := true, recurses := true, apart := false, narrowed := true }
def OpndMadeUptoSaid : Prop := opndMadeUptoRow.holds Try.pinned (OpenSpec.upto opndMadeSpec)

/-- 'palinglaw6.OpndPanics', WHERE WHAT IT READS IS OF BULK AT MOST 1048576: true; the input reads as it did. -/
def opndPanicsUptoRow : OpenClaim := { program := "ytpdjmghnimimgaa", sum := "043be70173fc3203f54e85e8e5198b0d3c0043a23a8e02d1b66314abdc5392b4", func := "paling/palinglaw6.OpndPanics", spec := "opndPanics", unfollowed := true, recurses := true, apart := false, narrowed := true }
def OpndPanicsUptoSaid : Prop := opndPanicsUptoRow.holds Try.pinned (OpenSpec.upto opndPanicsSpec)

/-- 'palinglaw6.OpndApart', WHERE WHAT IT READS IS OF BULK AT MOST 1048576: true; the input reads as it did. -/
def opndApartUptoRow : OpenClaim := { program := "ytpdjmghnimimgaa", sum := "043be70173fc3203f54e85e8e5198b0d3c0043a23a8e02d1b66314abdc5392b4", func := "paling/palinglaw6.OpndApart", spec := "opndApart", unfollowed := true, recurses := true, apart := false, narrowed := true }
def OpndApartUptoSaid : Prop := opndApartUptoRow.holds Try.pinned (OpenSpec.upto opndApartSpec)

/-- 'palinglaw6.OpndParts', WHERE WHAT IT READS IS OF BULK AT MOST 1048576: true; the input reads as it did. -/
def opndPartsUptoRow : OpenClaim := { program := "ytpdjmghnimimgaa", sum := "043be70173fc3203f54e85e8e5198b0d3c0043a23a8e02d1b66314abdc5392b4", func := "paling/palinglaw6.OpndParts", spec := "opndParts", unfollowed := true, recurses := true, apart := false, narrowed := true }
def OpndPartsUptoSaid : Prop := opndPartsUptoRow.holds Try.pinned (OpenSpec.upto opndPartsSpec)

end Rows
end Go.Proofs.Ytpdjmghnimimgaa
