/-
  No cell of these rows narrows 'for every input' (looked for: loops, veiled, ifaces, maps, wideKeys, modest, calm, conditions, laid).
  DERIVED. THE GIVEN ROWS OF THIS SEAT. 8 by the template 'for every input the law returns true; each argument reads behind the call as it read before'; 0 by the template 'total and deterministic' (their statements: YtdlhapjlpkadnaaTotals.lean).
  GIVEN WITH THE SEED: the statements are not yours to turn. If you find one false, say at which input.
  Laid BY PROGRAM, IN A SANDBOX (cutbox-rows.mjs): the forced cells as the released guide's own fill.sh prints them over the translation daca4689feeb408b… (all of the seat's roots in one cut). By AI agents, Wed Nov 11 2026. No macro, syntax, notation, axiom, sorry.
-/
import Derived.Test.YtdlhapjlpkadnaaChecked
import GoSem.Claim
import GoSem.ClaimJoined
import GoSem.ClaimMapViews
import Derived.JoinedTies
import Derived.KernelRfl
namespace Go.Proofs.Ytdlhapjlpkadnaa
/- THE CELL 'sum', in the pinned program and in every row, IS THE sha256 OF THE DUMP (.gsa) THAT YtdlhapjlpkadnaaProg.lean LOADS. Nothing in Lean hashes anything: it is a label: what it is worth is what the hold of that sum in a sandbox is worth. -/
noncomputable def Try.pinned : Pinned := { name := "ytdlhapjlpkadnaa", sum := "daca4689feeb408b840bd2b4dd2001d38396111b1058cd5e6ad873d2bd09a1d6", checked := Try.checked }
namespace Rows
def none {H : Type} : Left H := { results := [], args := [] }

/-- 'hartixlaw2.AluHolds': WHATEVER THE INPUT: true; the input reads as it did. -/
def aluHoldsSpec : ChangeSpec := { name := "aluHolds", fn := fun _ => fun
  | [d1, d2, d3] => { results := [.lit (.bool true)], args := [d1, d2, d3] }
  | _ => none }
def aluHoldsRow : OpenClaim := { program := "ytdlhapjlpkadnaa", sum := "daca4689feeb408b840bd2b4dd2001d38396111b1058cd5e6ad873d2bd09a1d6", func := "hartix/hartixlaw2.AluHolds", spec := "aluHolds", unfollowed := true, recurses := true, apart := false }
def AluHoldsSaid : Prop := aluHoldsRow.holds Try.pinned (OpenSpec.ofChange aluHoldsSpec)

/-- ITS FALSE NEIGHBOUR: 'it returns false'. Refute it at one input. -/
def aluHoldsWrong : ChangeSpec := { name := "aluHolds", fn := fun _ => fun
  | [d1, d2, d3] => { results := [.lit (.bool false)], args := [d1, d2, d3] }
  | _ => none }
def AluHoldsWrongFalsely : Prop := aluHoldsRow.holds Try.pinned (OpenSpec.ofChange aluHoldsWrong)

/-- 'hartixlaw2.AluWides': WHATEVER THE INPUT: true; the input reads as it did. -/
def aluWidesSpec : ChangeSpec := { name := "aluWides", fn := fun _ => fun
  | [d1, d2, d3, d4] => { results := [.lit (.bool true)], args := [d1, d2, d3, d4] }
  | _ => none }
def aluWidesRow : OpenClaim := { program := "ytdlhapjlpkadnaa", sum := "daca4689feeb408b840bd2b4dd2001d38396111b1058cd5e6ad873d2bd09a1d6", func := "hartix/hartixlaw2.AluWides", spec := "aluWides", apart := false }
def AluWidesSaid : Prop := aluWidesRow.holds Try.pinned (OpenSpec.ofChange aluWidesSpec)

/-- ITS FALSE NEIGHBOUR: 'it returns false'. Refute it at one input. -/
def aluWidesWrong : ChangeSpec := { name := "aluWides", fn := fun _ => fun
  | [d1, d2, d3, d4] => { results := [.lit (.bool false)], args := [d1, d2, d3, d4] }
  | _ => none }
def AluWidesWrongFalsely : Prop := aluWidesRow.holds Try.pinned (OpenSpec.ofChange aluWidesWrong)

/-- 'hartixlaw2.AluDoes': WHATEVER THE INPUT: true; the input reads as it did. -/
def aluDoesSpec : ChangeSpec := { name := "aluDoes", fn := fun _ => fun
  | [d1, d2, d3] => { results := [.lit (.bool true)], args := [d1, d2, d3] }
  | _ => none }
def aluDoesRow : OpenClaim := { program := "ytdlhapjlpkadnaa", sum := "daca4689feeb408b840bd2b4dd2001d38396111b1058cd5e6ad873d2bd09a1d6", func := "hartix/hartixlaw2.AluDoes", spec := "aluDoes", unfollowed := true, recurses := true, apart := false }
def AluDoesSaid : Prop := aluDoesRow.holds Try.pinned (OpenSpec.ofChange aluDoesSpec)

/-- ITS FALSE NEIGHBOUR: 'it returns false'. Refute it at one input. -/
def aluDoesWrong : ChangeSpec := { name := "aluDoes", fn := fun _ => fun
  | [d1, d2, d3] => { results := [.lit (.bool false)], args := [d1, d2, d3] }
  | _ => none }
def AluDoesWrongFalsely : Prop := aluDoesRow.holds Try.pinned (OpenSpec.ofChange aluDoesWrong)

/-- 'hartixlaw2.AluParts': WHATEVER THE INPUT: true; the input reads as it did. -/
def aluPartsSpec : ChangeSpec := { name := "aluParts", fn := fun _ => fun
  | [d1, d2] => { results := [.lit (.bool true)], args := [d1, d2] }
  | _ => none }
def aluPartsRow : OpenClaim := { program := "ytdlhapjlpkadnaa", sum := "daca4689feeb408b840bd2b4dd2001d38396111b1058cd5e6ad873d2bd09a1d6", func := "hartix/hartixlaw2.AluParts", spec := "aluParts", unfollowed := true, recurses := true, apart := false }
def AluPartsSaid : Prop := aluPartsRow.holds Try.pinned (OpenSpec.ofChange aluPartsSpec)

/-- ITS FALSE NEIGHBOUR: 'it returns false'. Refute it at one input. -/
def aluPartsWrong : ChangeSpec := { name := "aluParts", fn := fun _ => fun
  | [d1, d2] => { results := [.lit (.bool false)], args := [d1, d2] }
  | _ => none }
def AluPartsWrongFalsely : Prop := aluPartsRow.holds Try.pinned (OpenSpec.ofChange aluPartsWrong)

/-- 'hartixlaw2.AluHalves': WHATEVER THE INPUT: true; the input reads as it did. -/
def aluHalvesSpec : ChangeSpec := { name := "aluHalves", fn := fun _ => fun
  | [d1, d2, d3, d4] => { results := [.lit (.bool true)], args := [d1, d2, d3, d4] }
  | _ => none }
def aluHalvesRow : OpenClaim := { program := "ytdlhapjlpkadnaa", sum := "daca4689feeb408b840bd2b4dd2001d38396111b1058cd5e6ad873d2bd09a1d6", func := "hartix/hartixlaw2.AluHalves", spec := "aluHalves", unfollowed := true, recurses := true, apart := false }
def AluHalvesSaid : Prop := aluHalvesRow.holds Try.pinned (OpenSpec.ofChange aluHalvesSpec)

/-- ITS FALSE NEIGHBOUR: 'it returns false'. Refute it at one input. -/
def aluHalvesWrong : ChangeSpec := { name := "aluHalves", fn := fun _ => fun
  | [d1, d2, d3, d4] => { results := [.lit (.bool false)], args := [d1, d2, d3, d4] }
  | _ => none }
def AluHalvesWrongFalsely : Prop := aluHalvesRow.holds Try.pinned (OpenSpec.ofChange aluHalvesWrong)

/-- 'hartixlaw2.AluHigh': WHATEVER THE INPUT: true; the input reads as it did. -/
def aluHighSpec : ChangeSpec := { name := "aluHigh", fn := fun _ => fun
  | [d1, d2] => { results := [.lit (.bool true)], args := [d1, d2] }
  | _ => none }
def aluHighRow : OpenClaim := { program := "ytdlhapjlpkadnaa", sum := "daca4689feeb408b840bd2b4dd2001d38396111b1058cd5e6ad873d2bd09a1d6", func := "hartix/hartixlaw2.AluHigh", spec := "aluHigh", unfollowed := true, recurses := true, apart := false }
def AluHighSaid : Prop := aluHighRow.holds Try.pinned (OpenSpec.ofChange aluHighSpec)

/-- ITS FALSE NEIGHBOUR: 'it returns false'. Refute it at one input. -/
def aluHighWrong : ChangeSpec := { name := "aluHigh", fn := fun _ => fun
  | [d1, d2] => { results := [.lit (.bool false)], args := [d1, d2] }
  | _ => none }
def AluHighWrongFalsely : Prop := aluHighRow.holds Try.pinned (OpenSpec.ofChange aluHighWrong)

/-- 'hartixlaw2.AluShifts': WHATEVER THE INPUT: true; the input reads as it did. -/
def aluShiftsSpec : ChangeSpec := { name := "aluShifts", fn := fun _ => fun
  | [d1, d2] => { results := [.lit (.bool true)], args := [d1, d2] }
  | _ => none }
def aluShiftsRow : OpenClaim := { program := "ytdlhapjlpkadnaa", sum := "daca4689feeb408b840bd2b4dd2001d38396111b1058cd5e6ad873d2bd09a1d6", func := "hartix/hartixlaw2.AluShifts", spec := "aluShifts", unfollowed := true, recurses := true, apart := false }
def AluShiftsSaid : Prop := aluShiftsRow.holds Try.pinned (OpenSpec.ofChange aluShiftsSpec)

/-- ITS FALSE NEIGHBOUR: 'it returns false'. Refute it at one input. -/
def aluShiftsWrong : ChangeSpec := { name := "aluShifts", fn := fun _ => fun
  | [d1, d2] => { results := [.lit (.bool false)], args := [d1, d2] }
  | _ => none }
def AluShiftsWrongFalsely : Prop := aluShiftsRow.holds Try.pinned (OpenSpec.ofChange aluShiftsWrong)

/-- 'hartixlaw2.AluOrder': WHATEVER THE INPUT: true; the input reads as it did. -/
def aluOrderSpec : ChangeSpec := { name := "aluOrder", fn := fun _ => fun
  | [d1, d2, d3] => { results := [.lit (.bool true)], args := [d1, d2, d3] }
  | _ => none }
def aluOrderRow : OpenClaim := { program := "ytdlhapjlpkadnaa", sum := "daca4689feeb408b840bd2b4dd2001d38396111b1058cd5e6ad873d2bd09a1d6", func := "hartix/hartixlaw2.AluOrder", spec := "aluOrder", unfollowed := true, recurses := true, apart := false }
def AluOrderSaid : Prop := aluOrderRow.holds Try.pinned (OpenSpec.ofChange aluOrderSpec)

/-- ITS FALSE NEIGHBOUR: 'it returns false'. Refute it at one input. -/
def aluOrderWrong : ChangeSpec := { name := "aluOrder", fn := fun _ => fun
  | [d1, d2, d3] => { results := [.lit (.bool false)], args := [d1, d2, d3] }
  | _ => none }
def AluOrderWrongFalsely : Prop := aluOrderRow.holds Try.pinned (OpenSpec.ofChange aluOrderWrong)

/- THE SECOND FORM. 'bulk': how many values and letters a reading holds, each counted each time it is reached (what is shared counts as often as it is met; a slice's spare places count too). A statement '..UptoSaid' is the law's where the arguments, and the package variables that the reading takes, are together of bulk at most 1048576: NARROWER than '..Said'. Prove '..Said' where nothing that the law and all that it calls make is longer than what came in: it says more and counts as full. Else prove '..UptoSaid'. A law counts once. -/
mutual
def uptoBulk {H : Type} : DataW H → Nat
  | .lit (.string bytes) => bytes.length + 1
  | .lit _ => 1
  | .nil => 1
  | .ptr d => uptoBulk d + 1
  | .slice elems spare => uptoBulkAll elems + uptoBulkAll spare + 1
  | .agg parts => uptoBulkAll parts + 1
  | .iface _ d => uptoBulk d + 1
  | .map entries => uptoBulkEntries entries + 1
  | .held _ => 1
def uptoBulkAll {H : Type} : List (DataW H) → Nat
  | [] => 0
  | d :: r => uptoBulk d + uptoBulkAll r
def uptoBulkEntries {H : Type} : List (Lit × DataW H) → Nat
  | [] => 0
  | x :: r => uptoBulkEntry x + uptoBulkEntries r
def uptoBulkEntry {H : Type} : Lit × DataW H → Nat
  | (.string bytes, d) => bytes.length + uptoBulk d + 1
  | (_, d) => uptoBulk d + 1
 end
def uptoSmall : (H : Type) → List (DataW H) → Bool := fun _ ds => decide (uptoBulkAll ds ≤ 1048576)
def OpenSpec.upto (s : _root_.Go.ChangeSpec) : _root_.Go.OpenSpec := { _root_.Go.OpenSpec.ofChange s with cond := some uptoSmall }

/-- 'hartixlaw2.AluHolds', WHERE WHAT IT READS IS OF BULK AT MOST 1048576: true; the input reads as it did. -/
def aluHoldsUptoRow : OpenClaim := { program := "ytdlhapjlpkadnaa", sum := "daca4689feeb408b840bd2b4dd2001d38396111b1058cd5e6ad873d2bd09a1d6", func := "hartix/hartixlaw2.AluHolds", spec := "aluHolds", unfollowed := true, recurses := true, apart := false, narrowed := true }
def AluHoldsUptoSaid : Prop := aluHoldsUptoRow.holds Try.pinned (OpenSpec.upto aluHoldsSpec)

/-- 'hartixlaw2.AluWides', WHERE WHAT IT READS IS OF BULK AT MOST 1048576: true; the input reads as it did. -/
def aluWidesUptoRow : OpenClaim := { program := "ytdlhapjlpkadnaa", sum := "daca4689feeb408b840bd2b4dd2001d38396111b1058cd5e6ad873d2bd09a1d6", func := "hartix/hartixlaw2.AluWides", spec := "aluWides", apart := false, narrowed := true }
def AluWidesUptoSaid : Prop := aluWidesUptoRow.holds Try.pinned (OpenSpec.upto aluWidesSpec)

/-- 'hartixlaw2.AluDoes', WHERE WHAT IT READS IS OF BULK AT MOST 1048576: true; the input reads as it did. -/
def aluDoesUptoRow : OpenClaim := { program := "ytdlhapjlpkadnaa", sum := "daca4689feeb408b840bd2b4dd2001d38396111b1058cd5e6ad873d2bd09a1d6", func := "hartix/hartixlaw2.AluDoes", spec := "aluDoes", unfollowed := true, recurses := true, apart := false, narrowed := true }
def AluDoesUptoSaid : Prop := aluDoesUptoRow.holds Try.pinned (OpenSpec.upto aluDoesSpec)

/-- 'hartixlaw2.AluParts', WHERE WHAT IT READS IS OF BULK AT MOST 1048576: true; the input reads as it did. -/
def aluPartsUptoRow : OpenClaim := { program := "ytdlhapjlpkadnaa", sum := "daca4689feeb408b840bd2b4dd2001d38396111b1058cd5e6ad873d2bd09a1d6", func := "hartix/hartixlaw2.AluParts", spec := "aluParts", unfollowed := true, recurses := true, apart := false, narrowed := true }
def AluPartsUptoSaid : Prop := aluPartsUptoRow.holds Try.pinned (OpenSpec.upto aluPartsSpec)

/-- 'hartixlaw2.AluHalves', WHERE WHAT IT READS IS OF BULK AT MOST 1048576: true; the input reads as it did. -/
def aluHalvesUptoRow : OpenClaim := { program := "ytdlhapjlpkadnaa", sum := "daca4689feeb408b840bd2b4dd2001d38396111b1058cd5e6ad873d2bd09a1d6", func := "hartix/hartixlaw2.AluHalves", spec := "aluHalves", unfollowed := true, recurses := true, apart := false, narrowed := true }
def AluHalvesUptoSaid : Prop := aluHalvesUptoRow.holds Try.pinned (OpenSpec.upto aluHalvesSpec)

/-- 'hartixlaw2.AluHigh', WHERE WHAT IT READS IS OF BULK AT MOST 1048576: true; the input reads as it did. -/
def aluHighUptoRow : OpenClaim := { program := "ytdlhapjlpkadnaa", sum := "daca4689feeb408b840bd2b4dd2001d38396111b1058cd5e6ad873d2bd09a1d6", func := "hartix/hartixlaw2.AluHigh", spec := "aluHigh", unfollowed := true, recurses := true, apart := false, narrowed := true }
def AluHighUptoSaid : Prop := aluHighUptoRow.holds Try.pinned (OpenSpec.upto aluHighSpec)

/-- 'hartixlaw2.AluShifts', WHERE WHAT IT READS IS OF BULK AT MOST 1048576: true; the input reads as it did. -/
def aluShiftsUptoRow : OpenClaim := { program := "ytdlhapjlpkadnaa", sum := "daca4689feeb408b840bd2b4dd2001d38396111b1058cd5e6ad873d2bd09a1d6", func := "hartix/hartixlaw2.AluShifts", spec := "aluShifts", unfollowed := true, recurses := true, apart := false, narrowed := true }
def AluShiftsUptoSaid : Prop := aluShiftsUptoRow.holds Try.pinned (OpenSpec.upto aluShiftsSpec)

/-- 'hartixlaw2.AluOrder', WHERE WHAT IT READS IS OF BULK AT MOST 1048576: true; the input reads as it did. -/
def aluOrderUptoRow : OpenClaim := { program := "ytdlhapjlpkadnaa", sum := "daca4689feeb408b840bd2b4dd2001d38396111b1058cd5e6ad873d2bd09a1d6", func := "hartix/hartixlaw2.AluOrder", spec := "aluOrder", unfollowed := true, recurses := true, apart := false, narrowed := true }
def AluOrderUptoSaid : Prop := aluOrderUptoRow.holds Try.pinned (OpenSpec.upto aluOrderSpec)

end Rows
end Go.Proofs.Ytdlhapjlpkadnaa
