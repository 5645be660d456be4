/-
  No cell of these rows narrows 'for every input' (looked for: loops, veiled, ifaces, maps, wideKeys, modest, calm, conditions, laid).
  DERIVED. THE GIVEN ROWS OF THIS SEAT. 11 by the template 'for every input the law returns true; each argument reads behind the call as it read before'; 0 by the template 'total and deterministic' (their statements: YtbhkndblolegaaaTotals.lean).
  GIVEN WITH THE SEED: the statements are not yours to turn. If you find one false, say at which input.
  Laid BY PROGRAM, IN A SANDBOX (cutbox-rows.mjs): the forced cells as the released guide's own fill.sh prints them over the translation 3e26e8ccec241abd… (all of the seat's roots in one cut). By AI agents, Wed Nov 11 2026. No macro, syntax, notation, axiom, sorry.
-/
import Derived.Test.YtbhkndblolegaaaChecked
import GoSem.Claim
import GoSem.ClaimJoined
import GoSem.ClaimMapViews
import Derived.JoinedTies
import Derived.KernelRfl
namespace Go.Proofs.Ytbhkndblolegaaa
/- THE CELL 'sum', in the pinned program and in every row, IS THE sha256 OF THE DUMP (.gsa) THAT YtbhkndblolegaaaProg.lean LOADS. Nothing in Lean hashes anything: it is a label: what it is worth is what the hold of that sum in a sandbox is worth. -/
noncomputable def Try.pinned : Pinned := { name := "ytbhkndblolegaaa", sum := "3e26e8ccec241abd6735744e5c20e06dd24779cb5b05d81661b0ff4ca749d20a", checked := Try.checked }
namespace Rows
def none {H : Type} : Left H := { results := [], args := [] }

/-- 'pidginlaw11.Cpu86Nils': WHATEVER THE INPUT: true; the input reads as it did. -/
def cpu86NilsSpec : ChangeSpec := { name := "cpu86Nils", fn := fun _ => fun
  | [d1, d2] => { results := [.lit (.bool true)], args := [d1, d2] }
  | _ => none }
def cpu86NilsRow : OpenClaim := { program := "ytbhkndblolegaaa", sum := "3e26e8ccec241abd6735744e5c20e06dd24779cb5b05d81661b0ff4ca749d20a", func := "pidgin/pidginlaw11.Cpu86Nils", spec := "cpu86Nils", unfollowed := true, recurses := true, apart := false }
def Cpu86NilsSaid : Prop := cpu86NilsRow.holds Try.pinned (OpenSpec.ofChange cpu86NilsSpec)

/-- ITS FALSE NEIGHBOUR: 'it returns false'. Refute it at one input. -/
def cpu86NilsWrong : ChangeSpec := { name := "cpu86Nils", fn := fun _ => fun
  | [d1, d2] => { results := [.lit (.bool false)], args := [d1, d2] }
  | _ => none }
def Cpu86NilsWrongFalsely : Prop := cpu86NilsRow.holds Try.pinned (OpenSpec.ofChange cpu86NilsWrong)

/-- 'pidginlaw11.Cpu86Wide': WHATEVER THE INPUT: true; the input reads as it did. -/
def cpu86WideSpec : ChangeSpec := { name := "cpu86Wide", fn := fun _ => fun
  | [d1, d2, d3, d4] => { results := [.lit (.bool true)], args := [d1, d2, d3, d4] }
  | _ => none }
def cpu86WideRow : OpenClaim := { program := "ytbhkndblolegaaa", sum := "3e26e8ccec241abd6735744e5c20e06dd24779cb5b05d81661b0ff4ca749d20a", func := "pidgin/pidginlaw11.Cpu86Wide", spec := "cpu86Wide", unfollowed := true, recurses := true, apart := false }
def Cpu86WideSaid : Prop := cpu86WideRow.holds Try.pinned (OpenSpec.ofChange cpu86WideSpec)

/-- ITS FALSE NEIGHBOUR: 'it returns false'. Refute it at one input. -/
def cpu86WideWrong : ChangeSpec := { name := "cpu86Wide", fn := fun _ => fun
  | [d1, d2, d3, d4] => { results := [.lit (.bool false)], args := [d1, d2, d3, d4] }
  | _ => none }
def Cpu86WideWrongFalsely : Prop := cpu86WideRow.holds Try.pinned (OpenSpec.ofChange cpu86WideWrong)

/-- 'pidginlaw08.Isa86Whole': WHATEVER THE INPUT: true; the input reads as it did. -/
def isa86WholeSpec : ChangeSpec := { name := "isa86Whole", fn := fun _ => fun
  | [d] => { results := [.lit (.bool true)], args := [d] }
  | _ => none }
def isa86WholeRow : OpenClaim := { program := "ytbhkndblolegaaa", sum := "3e26e8ccec241abd6735744e5c20e06dd24779cb5b05d81661b0ff4ca749d20a", func := "pidgin/pidginlaw08.Isa86Whole", spec := "isa86Whole", apart := false }
def Isa86WholeSaid : Prop := isa86WholeRow.holds Try.pinned (OpenSpec.ofChange isa86WholeSpec)

/-- ITS FALSE NEIGHBOUR: 'it returns false'. Refute it at one input. -/
def isa86WholeWrong : ChangeSpec := { name := "isa86Whole", fn := fun _ => fun
  | [d] => { results := [.lit (.bool false)], args := [d] }
  | _ => none }
def Isa86WholeWrongFalsely : Prop := isa86WholeRow.holds Try.pinned (OpenSpec.ofChange isa86WholeWrong)

/-- 'pidginlaw08.Isa86Apart': WHATEVER THE INPUT: true; the input reads as it did. -/
def isa86ApartSpec : ChangeSpec := { name := "isa86Apart", fn := fun _ => fun
  | [d1, d2] => { results := [.lit (.bool true)], args := [d1, d2] }
  | _ => none }
def isa86ApartRow : OpenClaim := { program := "ytbhkndblolegaaa", sum := "3e26e8ccec241abd6735744e5c20e06dd24779cb5b05d81661b0ff4ca749d20a", func := "pidgin/pidginlaw08.Isa86Apart", spec := "isa86Apart", apart := false }
def Isa86ApartSaid : Prop := isa86ApartRow.holds Try.pinned (OpenSpec.ofChange isa86ApartSpec)

/-- ITS FALSE NEIGHBOUR: 'it returns false'. Refute it at one input. -/
def isa86ApartWrong : ChangeSpec := { name := "isa86Apart", fn := fun _ => fun
  | [d1, d2] => { results := [.lit (.bool false)], args := [d1, d2] }
  | _ => none }
def Isa86ApartWrongFalsely : Prop := isa86ApartRow.holds Try.pinned (OpenSpec.ofChange isa86ApartWrong)

/-- 'pidginlaw08.Isa86Near': WHATEVER THE INPUT: true; the input reads as it did. -/
def isa86NearSpec : ChangeSpec := { name := "isa86Near", fn := fun _ => fun
  | [d1, d2] => { results := [.lit (.bool true)], args := [d1, d2] }
  | _ => none }
def isa86NearRow : OpenClaim := { program := "ytbhkndblolegaaa", sum := "3e26e8ccec241abd6735744e5c20e06dd24779cb5b05d81661b0ff4ca749d20a", func := "pidgin/pidginlaw08.Isa86Near", spec := "isa86Near", apart := false }
def Isa86NearSaid : Prop := isa86NearRow.holds Try.pinned (OpenSpec.ofChange isa86NearSpec)

/-- ITS FALSE NEIGHBOUR: 'it returns false'. Refute it at one input. -/
def isa86NearWrong : ChangeSpec := { name := "isa86Near", fn := fun _ => fun
  | [d1, d2] => { results := [.lit (.bool false)], args := [d1, d2] }
  | _ => none }
def Isa86NearWrongFalsely : Prop := isa86NearRow.holds Try.pinned (OpenSpec.ofChange isa86NearWrong)

/-- 'pidginlaw08.Isa86Back': WHATEVER THE INPUT: true; the input reads as it did. -/
def isa86BackSpec : ChangeSpec := { name := "isa86Back", fn := fun _ => fun
  | [d1, d2] => { results := [.lit (.bool true)], args := [d1, d2] }
  | _ => none }
def isa86BackRow : OpenClaim := { program := "ytbhkndblolegaaa", sum := "3e26e8ccec241abd6735744e5c20e06dd24779cb5b05d81661b0ff4ca749d20a", func := "pidgin/pidginlaw08.Isa86Back", spec := "isa86Back", apart := false }
def Isa86BackSaid : Prop := isa86BackRow.holds Try.pinned (OpenSpec.ofChange isa86BackSpec)

/-- ITS FALSE NEIGHBOUR: 'it returns false'. Refute it at one input. -/
def isa86BackWrong : ChangeSpec := { name := "isa86Back", fn := fun _ => fun
  | [d1, d2] => { results := [.lit (.bool false)], args := [d1, d2] }
  | _ => none }
def Isa86BackWrongFalsely : Prop := isa86BackRow.holds Try.pinned (OpenSpec.ofChange isa86BackWrong)

/-- 'pidginlaw11.Cpu86Opens': WHATEVER THE INPUT: true; the input reads as it did. -/
def cpu86OpensSpec : ChangeSpec := { name := "cpu86Opens", fn := fun _ => fun
  | [d1, d2, d3, d4] => { results := [.lit (.bool true)], args := [d1, d2, d3, d4] }
  | _ => none }
def cpu86OpensRow : OpenClaim := { program := "ytbhkndblolegaaa", sum := "3e26e8ccec241abd6735744e5c20e06dd24779cb5b05d81661b0ff4ca749d20a", func := "pidgin/pidginlaw11.Cpu86Opens", spec := "cpu86Opens", unfollowed := true, recurses := true, apart := false }
def Cpu86OpensSaid : Prop := cpu86OpensRow.holds Try.pinned (OpenSpec.ofChange cpu86OpensSpec)

/-- ITS FALSE NEIGHBOUR: 'it returns false'. Refute it at one input. -/
def cpu86OpensWrong : ChangeSpec := { name := "cpu86Opens", fn := fun _ => fun
  | [d1, d2, d3, d4] => { results := [.lit (.bool false)], args := [d1, d2, d3, d4] }
  | _ => none }
def Cpu86OpensWrongFalsely : Prop := cpu86OpensRow.holds Try.pinned (OpenSpec.ofChange cpu86OpensWrong)

/-- 'pidginlaw11.Cpu86AsEight': WHATEVER THE INPUT: true; the input reads as it did. -/
def cpu86AsEightSpec : ChangeSpec := { name := "cpu86AsEight", fn := fun _ => fun
  | [d1, d2, d3, d4] => { results := [.lit (.bool true)], args := [d1, d2, d3, d4] }
  | _ => none }
def cpu86AsEightRow : OpenClaim := { program := "ytbhkndblolegaaa", sum := "3e26e8ccec241abd6735744e5c20e06dd24779cb5b05d81661b0ff4ca749d20a", func := "pidgin/pidginlaw11.Cpu86AsEight", spec := "cpu86AsEight", unfollowed := true, recurses := true, apart := false }
def Cpu86AsEightSaid : Prop := cpu86AsEightRow.holds Try.pinned (OpenSpec.ofChange cpu86AsEightSpec)

/-- ITS FALSE NEIGHBOUR: 'it returns false'. Refute it at one input. -/
def cpu86AsEightWrong : ChangeSpec := { name := "cpu86AsEight", fn := fun _ => fun
  | [d1, d2, d3, d4] => { results := [.lit (.bool false)], args := [d1, d2, d3, d4] }
  | _ => none }
def Cpu86AsEightWrongFalsely : Prop := cpu86AsEightRow.holds Try.pinned (OpenSpec.ofChange cpu86AsEightWrong)

/-- 'pidginlaw11.Cpu86Jumps': WHATEVER THE INPUT: true; the input reads as it did. -/
def cpu86JumpsSpec : ChangeSpec := { name := "cpu86Jumps", fn := fun _ => fun
  | [d1, d2, d3] => { results := [.lit (.bool true)], args := [d1, d2, d3] }
  | _ => none }
def cpu86JumpsRow : OpenClaim := { program := "ytbhkndblolegaaa", sum := "3e26e8ccec241abd6735744e5c20e06dd24779cb5b05d81661b0ff4ca749d20a", func := "pidgin/pidginlaw11.Cpu86Jumps", spec := "cpu86Jumps", unfollowed := true, recurses := true, apart := false }
def Cpu86JumpsSaid : Prop := cpu86JumpsRow.holds Try.pinned (OpenSpec.ofChange cpu86JumpsSpec)

/-- ITS FALSE NEIGHBOUR: 'it returns false'. Refute it at one input. -/
def cpu86JumpsWrong : ChangeSpec := { name := "cpu86Jumps", fn := fun _ => fun
  | [d1, d2, d3] => { results := [.lit (.bool false)], args := [d1, d2, d3] }
  | _ => none }
def Cpu86JumpsWrongFalsely : Prop := cpu86JumpsRow.holds Try.pinned (OpenSpec.ofChange cpu86JumpsWrong)

/-- 'pidginlaw11.Cpu86Runs': WHATEVER THE INPUT: true; the input reads as it did. -/
def cpu86RunsSpec : ChangeSpec := { name := "cpu86Runs", fn := fun _ => fun
  | [d1, d2, d3] => { results := [.lit (.bool true)], args := [d1, d2, d3] }
  | _ => none }
def cpu86RunsRow : OpenClaim := { program := "ytbhkndblolegaaa", sum := "3e26e8ccec241abd6735744e5c20e06dd24779cb5b05d81661b0ff4ca749d20a", func := "pidgin/pidginlaw11.Cpu86Runs", spec := "cpu86Runs", unfollowed := true, recurses := true, apart := false }
def Cpu86RunsSaid : Prop := cpu86RunsRow.holds Try.pinned (OpenSpec.ofChange cpu86RunsSpec)

/-- ITS FALSE NEIGHBOUR: 'it returns false'. Refute it at one input. -/
def cpu86RunsWrong : ChangeSpec := { name := "cpu86Runs", fn := fun _ => fun
  | [d1, d2, d3] => { results := [.lit (.bool false)], args := [d1, d2, d3] }
  | _ => none }
def Cpu86RunsWrongFalsely : Prop := cpu86RunsRow.holds Try.pinned (OpenSpec.ofChange cpu86RunsWrong)

/-- 'pidginlaw11.Cpu86Flags': WHATEVER THE INPUT: true; the input reads as it did. -/
def cpu86FlagsSpec : ChangeSpec := { name := "cpu86Flags", fn := fun _ => fun
  | [d1, d2] => { results := [.lit (.bool true)], args := [d1, d2] }
  | _ => none }
def cpu86FlagsRow : OpenClaim := { program := "ytbhkndblolegaaa", sum := "3e26e8ccec241abd6735744e5c20e06dd24779cb5b05d81661b0ff4ca749d20a", func := "pidgin/pidginlaw11.Cpu86Flags", spec := "cpu86Flags", unfollowed := true, recurses := true, apart := false }
def Cpu86FlagsSaid : Prop := cpu86FlagsRow.holds Try.pinned (OpenSpec.ofChange cpu86FlagsSpec)

/-- ITS FALSE NEIGHBOUR: 'it returns false'. Refute it at one input. -/
def cpu86FlagsWrong : ChangeSpec := { name := "cpu86Flags", fn := fun _ => fun
  | [d1, d2] => { results := [.lit (.bool false)], args := [d1, d2] }
  | _ => none }
def Cpu86FlagsWrongFalsely : Prop := cpu86FlagsRow.holds Try.pinned (OpenSpec.ofChange cpu86FlagsWrong)

/- THE SECOND FORM. 'bulk': how many values and letters a reading holds, each counted each time it is reached (what is shared counts as often as it is met; a slice's spare places count too). A statement '..UptoSaid' is the law's where the arguments, and the package variables that the reading takes, are together of bulk at most 1048576: NARROWER than '..Said'. Prove '..Said' where nothing that the law and all that it calls make is longer than what came in: it says more and counts as full. Else prove '..UptoSaid'. A law counts once. -/
mutual
def uptoBulk {H : Type} : DataW H → Nat
  | .lit (.string bytes) => bytes.length + 1
  | .lit _ => 1
  | .nil => 1
  | .ptr d => uptoBulk d + 1
  | .slice elems spare => uptoBulkAll elems + uptoBulkAll spare + 1
  | .agg parts => uptoBulkAll parts + 1
  | .iface _ d => uptoBulk d + 1
  | .map entries => uptoBulkEntries entries + 1
  | .held _ => 1
def uptoBulkAll {H : Type} : List (DataW H) → Nat
  | [] => 0
  | d :: r => uptoBulk d + uptoBulkAll r
def uptoBulkEntries {H : Type} : List (Lit × DataW H) → Nat
  | [] => 0
  | x :: r => uptoBulkEntry x + uptoBulkEntries r
def uptoBulkEntry {H : Type} : Lit × DataW H → Nat
  | (.string bytes, d) => bytes.length + uptoBulk d + 1
  | (_, d) => uptoBulk d + 1
 end
def uptoSmall : (H : Type) → List (DataW H) → Bool := fun _ ds => decide (uptoBulkAll ds ≤ 1048576)
def OpenSpec.upto (s : _root_.Go.ChangeSpec) : _root_.Go.OpenSpec := { _root_.Go.OpenSpec.ofChange s with cond := some uptoSmall }

/-- 'pidginlaw11.Cpu86Nils', WHERE WHAT IT READS IS OF BULK AT MOST 1048576: true; the input reads as it did. -/
def cpu86NilsUptoRow : OpenClaim := { program := "ytbhkndblolegaaa", sum := "3e26e8ccec241abd6735744e5c20e06dd24779cb5b05d81661b0ff4ca749d20a", func := "pidgin/pidginlaw11.Cpu86Nils", spec := "cpu86Nils", unfollowed := true, recurses := true, apart := false, narrowed := true }
def Cpu86NilsUptoSaid : Prop := cpu86NilsUptoRow.holds Try.pinned (OpenSpec.upto cpu86NilsSpec)

/-- 'pidginlaw11.Cpu86Wide', WHERE WHAT IT READS IS OF BULK AT MOST 1048576: true; the input reads as it did. -/
def cpu86WideUptoRow : OpenClaim := { program := "ytbhkndblolegaaa", sum := "3e26e8ccec241abd6735744e5c20e06dd24779cb5b05d81661b0ff4ca749d20a", func := "pidgin/pidginlaw11.Cpu86Wide", spec := "cpu86Wide", unfollowed := true, recurses := true, apart := false, narrowed := true }
def Cpu86WideUptoSaid : Prop := cpu86WideUptoRow.holds Try.pinned (OpenSpec.upto cpu86WideSpec)

/-- 'pidginlaw08.Isa86Whole', WHERE WHAT IT READS IS OF BULK AT MOST 1048576: true; the input reads as it did. -/
def isa86WholeUptoRow : OpenClaim := { program := "ytbhkndblolegaaa", sum := "3e26e8ccec241abd6735744e5c20e06dd24779cb5b05d81661b0ff4ca749d20a", func := "pidgin/pidginlaw08.Isa86Whole", spec := "isa86Whole", apart := false, narrowed := true }
def Isa86WholeUptoSaid : Prop := isa86WholeUptoRow.holds Try.pinned (OpenSpec.upto isa86WholeSpec)

/-- 'pidginlaw08.Isa86Apart', WHERE WHAT IT READS IS OF BULK AT MOST 1048576: true; the input reads as it did. -/
def isa86ApartUptoRow : OpenClaim := { program := "ytbhkndblolegaaa", sum := "3e26e8ccec241abd6735744e5c20e06dd24779cb5b05d81661b0ff4ca749d20a", func := "pidgin/pidginlaw08.Isa86Apart", spec := "isa86Apart", apart := false, narrowed := true }
def Isa86ApartUptoSaid : Prop := isa86ApartUptoRow.holds Try.pinned (OpenSpec.upto isa86ApartSpec)

/-- 'pidginlaw08.Isa86Near', WHERE WHAT IT READS IS OF BULK AT MOST 1048576: true; the input reads as it did. -/
def isa86NearUptoRow : OpenClaim := { program := "ytbhkndblolegaaa", sum := "3e26e8ccec241abd6735744e5c20e06dd24779cb5b05d81661b0ff4ca749d20a", func := "pidgin/pidginlaw08.Isa86Near", spec := "isa86Near", apart := false, narrowed := true }
def Isa86NearUptoSaid : Prop := isa86NearUptoRow.holds Try.pinned (OpenSpec.upto isa86NearSpec)

/-- 'pidginlaw08.Isa86Back', WHERE WHAT IT READS IS OF BULK AT MOST 1048576: true; the input reads as it did. -/
def isa86BackUptoRow : OpenClaim := { program := "ytbhkndblolegaaa", sum := "3e26e8ccec241abd6735744e5c20e06dd24779cb5b05d81661b0ff4ca749d20a", func := "pidgin/pidginlaw08.Isa86Back", spec := "isa86Back", apart := false, narrowed := true }
def Isa86BackUptoSaid : Prop := isa86BackUptoRow.holds Try.pinned (OpenSpec.upto isa86BackSpec)

/-- 'pidginlaw11.Cpu86Opens', WHERE WHAT IT READS IS OF BULK AT MOST 1048576: true; the input reads as it did. -/
def cpu86OpensUptoRow : OpenClaim := { program := "ytbhkndblolegaaa", sum := "3e26e8ccec241abd6735744e5c20e06dd24779cb5b05d81661b0ff4ca749d20a", func := "pidgin/pidginlaw11.Cpu86Opens", spec := "cpu86Opens", unfollowed := true, recurses := true, apart := false, narrowed := true }
def Cpu86OpensUptoSaid : Prop := cpu86OpensUptoRow.holds Try.pinned (OpenSpec.upto cpu86OpensSpec)

/-- 'pidginlaw11.Cpu86AsEight', WHERE WHAT IT READS IS OF BULK AT MOST 1048576: true; the input reads as it did. -/
def cpu86AsEightUptoRow : OpenClaim := { program := "ytbhkndblolegaaa", sum := "3e26e8ccec241abd6735744e5c20e06dd24779cb5b05d81661b0ff4ca749d20a", func := "pidgin/pidginlaw11.Cpu86AsEight", spec := "cpu86AsEight", unfollowed := true, recurses := true, apart := false, narrowed := true }
def Cpu86AsEightUptoSaid : Prop := cpu86AsEightUptoRow.holds Try.pinned (OpenSpec.upto cpu86AsEightSpec)

/-- 'pidginlaw11.Cpu86Jumps', WHERE WHAT IT READS IS OF BULK AT MOST 1048576: true; the input reads as it did. -/
def cpu86JumpsUptoRow : OpenClaim := { program := "ytbhkndblolegaaa", sum := "3e26e8ccec241abd6735744e5c20e06dd24779cb5b05d81661b0ff4ca749d20a", func := "pidgin/pidginlaw11.Cpu86Jumps", spec := "cpu86Jumps", unfollowed := true, recurses := true, apart := false, narrowed := true }
def Cpu86JumpsUptoSaid : Prop := cpu86JumpsUptoRow.holds Try.pinned (OpenSpec.upto cpu86JumpsSpec)

/-- 'pidginlaw11.Cpu86Runs', WHERE WHAT IT READS IS OF BULK AT MOST 1048576: true; the input reads as it did. -/
def cpu86RunsUptoRow : OpenClaim := { program := "ytbhkndblolegaaa", sum := "3e26e8ccec241abd6735744e5c20e06dd24779cb5b05d81661b0ff4ca749d20a", func := "pidgin/pidginlaw11.Cpu86Runs", spec := "cpu86Runs", unfollowed := true, recurses := true, apart := false, narrowed := true }
def Cpu86RunsUptoSaid : Prop := cpu86RunsUptoRow.holds Try.pinned (OpenSpec.upto cpu86RunsSpec)

/-- 'pidginlaw11.Cpu86Flags', WHERE WHAT IT READS IS OF BULK AT MOST 1048576: true; the input reads as it did. -/
def cpu86FlagsUptoRow : OpenClaim := { program := "ytbhkndblolegaaa", sum := "3e26e8ccec241abd6735744e5c20e06dd24779cb5b05d81661b0ff4ca749d20a", func := "pidgin/pidginlaw11.Cpu86Flags", spec := "cpu86Flags", unfollowed := true, recurses := true, apart := false, narrowed := true }
def Cpu86FlagsUptoSaid : Prop := cpu86FlagsUptoRow.holds Try.pinned (OpenSpec.upto cpu86FlagsSpec)

end Rows
end Go.Proofs.Ytbhkndblolegaaa
