/-
  No cell of these rows narrows 'for every input' (looked for: loops, veiled, ifaces, maps, wideKeys, modest, calm, conditions, laid).
  DERIVED. THE GIVEN ROWS OF THIS SEAT. 10 by the template 'for every input the law returns true; each argument reads behind the call as it read before'; 0 by the template 'total and deterministic' (their statements: YtlifengbicpppaaTotals.lean).
  GIVEN WITH THE SEED: the statements are not yours to turn. If you find one false, say at which input.
  Laid BY PROGRAM, IN A SANDBOX (cutbox-rows.mjs): the forced cells as the released guide's own fill.sh prints them over the translation db87d59595c635b3… (all of the seat's roots in one cut). By AI agents, Wed Nov 11 2026. No macro, syntax, notation, axiom, sorry.
-/
import Derived.Test.YtlifengbicpppaaChecked
import GoSem.Claim
import GoSem.ClaimJoined
import GoSem.ClaimMapViews
import Derived.JoinedTies
import Derived.KernelRfl
namespace Go.Proofs.Ytlifengbicpppaa
/- THE CELL 'sum', in the pinned program and in every row, IS THE sha256 OF THE DUMP (.gsa) THAT YtlifengbicpppaaProg.lean LOADS. Nothing in Lean hashes anything: it is a label: what it is worth is what the hold of that sum in a sandbox is worth. -/
noncomputable def Try.pinned : Pinned := { name := "ytlifengbicpppaa", sum := "db87d59595c635b3694d4b78444c9d90517e72f3177fe5cf484f181acde4dc5d", checked := Try.checked }
namespace Rows
def none {H : Type} : Left H := { results := [], args := [] }

/-- 'postmarklaw17.DiskStays': WHATEVER THE INPUT: true; the input reads as it did. -/
def diskStaysSpec : ChangeSpec := { name := "diskStays", fn := fun _ => fun
  | [d1, d2, d3, d4] => { results := [.lit (.bool true)], args := [d1, d2, d3, d4] }
  | _ => none }
def diskStaysRow : OpenClaim := { program := "ytlifengbicpppaa", sum := "db87d59595c635b3694d4b78444c9d90517e72f3177fe5cf484f181acde4dc5d", func := "postmark/postmarklaw17.DiskStays", spec := "diskStays", unfollowed := true, recurses := true, apart := false }
def DiskStaysSaid : Prop := diskStaysRow.holds Try.pinned (OpenSpec.ofChange diskStaysSpec)

/-- ITS FALSE NEIGHBOUR: 'it returns false'. Refute it at one input. -/
def diskStaysWrong : ChangeSpec := { name := "diskStays", fn := fun _ => fun
  | [d1, d2, d3, d4] => { results := [.lit (.bool false)], args := [d1, d2, d3, d4] }
  | _ => none }
def DiskStaysWrongFalsely : Prop := diskStaysRow.holds Try.pinned (OpenSpec.ofChange diskStaysWrong)

/-- 'postmarklaw17.DiskArmed': WHATEVER THE INPUT: true; the input reads as it did. -/
def diskArmedSpec : ChangeSpec := { name := "diskArmed", fn := fun _ => fun
  | [d1, d2, d3] => { results := [.lit (.bool true)], args := [d1, d2, d3] }
  | _ => none }
def diskArmedRow : OpenClaim := { program := "ytlifengbicpppaa", sum := "db87d59595c635b3694d4b78444c9d90517e72f3177fe5cf484f181acde4dc5d", func := "postmark/postmarklaw17.DiskArmed", spec := "diskArmed", unfollowed := true, recurses := true, apart := false }
def DiskArmedSaid : Prop := diskArmedRow.holds Try.pinned (OpenSpec.ofChange diskArmedSpec)

/-- ITS FALSE NEIGHBOUR: 'it returns false'. Refute it at one input. -/
def diskArmedWrong : ChangeSpec := { name := "diskArmed", fn := fun _ => fun
  | [d1, d2, d3] => { results := [.lit (.bool false)], args := [d1, d2, d3] }
  | _ => none }
def DiskArmedWrongFalsely : Prop := diskArmedRow.holds Try.pinned (OpenSpec.ofChange diskArmedWrong)

/-- 'postmarklaw06.RatioDivisors': WHATEVER THE INPUT: true; the input reads as it did. -/
def ratioDivisorsSpec : ChangeSpec := { name := "ratioDivisors", fn := fun _ => fun
  | [d1, d2] => { results := [.lit (.bool true)], args := [d1, d2] }
  | _ => none }
def ratioDivisorsRow : OpenClaim := { program := "ytlifengbicpppaa", sum := "db87d59595c635b3694d4b78444c9d90517e72f3177fe5cf484f181acde4dc5d", func := "postmark/postmarklaw06.RatioDivisors", spec := "ratioDivisors", unfollowed := true, recurses := true, apart := false }
def RatioDivisorsSaid : Prop := ratioDivisorsRow.holds Try.pinned (OpenSpec.ofChange ratioDivisorsSpec)

/-- ITS FALSE NEIGHBOUR: 'it returns false'. Refute it at one input. -/
def ratioDivisorsWrong : ChangeSpec := { name := "ratioDivisors", fn := fun _ => fun
  | [d1, d2] => { results := [.lit (.bool false)], args := [d1, d2] }
  | _ => none }
def RatioDivisorsWrongFalsely : Prop := ratioDivisorsRow.holds Try.pinned (OpenSpec.ofChange ratioDivisorsWrong)

/-- 'postmarklaw17.DiskPlays': WHATEVER THE INPUT: true; the input reads as it did. -/
def diskPlaysSpec : ChangeSpec := { name := "diskPlays", fn := fun _ => fun
  | [d1, d2, d3] => { results := [.lit (.bool true)], args := [d1, d2, d3] }
  | _ => none }
def diskPlaysRow : OpenClaim := { program := "ytlifengbicpppaa", sum := "db87d59595c635b3694d4b78444c9d90517e72f3177fe5cf484f181acde4dc5d", func := "postmark/postmarklaw17.DiskPlays", spec := "diskPlays", unfollowed := true, recurses := true, apart := false }
def DiskPlaysSaid : Prop := diskPlaysRow.holds Try.pinned (OpenSpec.ofChange diskPlaysSpec)

/-- ITS FALSE NEIGHBOUR: 'it returns false'. Refute it at one input. -/
def diskPlaysWrong : ChangeSpec := { name := "diskPlays", fn := fun _ => fun
  | [d1, d2, d3] => { results := [.lit (.bool false)], args := [d1, d2, d3] }
  | _ => none }
def DiskPlaysWrongFalsely : Prop := diskPlaysRow.holds Try.pinned (OpenSpec.ofChange diskPlaysWrong)

/-- 'postmarklaw06.RatioDivides': WHATEVER THE INPUT: true; the input reads as it did. -/
def ratioDividesSpec : ChangeSpec := { name := "ratioDivides", fn := fun _ => fun
  | [d1, d2] => { results := [.lit (.bool true)], args := [d1, d2] }
  | _ => none }
def ratioDividesRow : OpenClaim := { program := "ytlifengbicpppaa", sum := "db87d59595c635b3694d4b78444c9d90517e72f3177fe5cf484f181acde4dc5d", func := "postmark/postmarklaw06.RatioDivides", spec := "ratioDivides", unfollowed := true, recurses := true, apart := false }
def RatioDividesSaid : Prop := ratioDividesRow.holds Try.pinned (OpenSpec.ofChange ratioDividesSpec)

/-- ITS FALSE NEIGHBOUR: 'it returns false'. Refute it at one input. -/
def ratioDividesWrong : ChangeSpec := { name := "ratioDivides", fn := fun _ => fun
  | [d1, d2] => { results := [.lit (.bool false)], args := [d1, d2] }
  | _ => none }
def RatioDividesWrongFalsely : Prop := ratioDividesRow.holds Try.pinned (OpenSpec.ofChange ratioDividesWrong)

/-- 'postmarklaw06.RatioRests': WHATEVER THE INPUT: true; the input reads as it did. -/
def ratioRestsSpec : ChangeSpec := { name := "ratioRests", fn := fun _ => fun
  | [d1, d2, d3] => { results := [.lit (.bool true)], args := [d1, d2, d3] }
  | _ => none }
def ratioRestsRow : OpenClaim := { program := "ytlifengbicpppaa", sum := "db87d59595c635b3694d4b78444c9d90517e72f3177fe5cf484f181acde4dc5d", func := "postmark/postmarklaw06.RatioRests", spec := "ratioRests", unfollowed := true, recurses := true, apart := false }
def RatioRestsSaid : Prop := ratioRestsRow.holds Try.pinned (OpenSpec.ofChange ratioRestsSpec)

/-- ITS FALSE NEIGHBOUR: 'it returns false'. Refute it at one input. -/
def ratioRestsWrong : ChangeSpec := { name := "ratioRests", fn := fun _ => fun
  | [d1, d2, d3] => { results := [.lit (.bool false)], args := [d1, d2, d3] }
  | _ => none }
def RatioRestsWrongFalsely : Prop := ratioRestsRow.holds Try.pinned (OpenSpec.ofChange ratioRestsWrong)

/-- 'postmarklaw06.RatioNames': WHATEVER THE INPUT: true; the input reads as it did. -/
def ratioNamesSpec : ChangeSpec := { name := "ratioNames", fn := fun _ => fun
  | [] => { results := [.lit (.bool true)], args := [] }
  | _ => none }
def ratioNamesRow : OpenClaim := { program := "ytlifengbicpppaa", sum := "db87d59595c635b3694d4b78444c9d90517e72f3177fe5cf484f181acde4dc5d", func := "postmark/postmarklaw06.RatioNames", spec := "ratioNames", unfollowed := true, recurses := true, apart := false }
def RatioNamesSaid : Prop := ratioNamesRow.holds Try.pinned (OpenSpec.ofChange ratioNamesSpec)

/-- ITS FALSE NEIGHBOUR: 'it returns false'. Refute it at one input. -/
def ratioNamesWrong : ChangeSpec := { name := "ratioNames", fn := fun _ => fun
  | [] => { results := [.lit (.bool false)], args := [] }
  | _ => none }
def RatioNamesWrongFalsely : Prop := ratioNamesRow.holds Try.pinned (OpenSpec.ofChange ratioNamesWrong)

/-- 'postmarklaw07.MontWheels': WHATEVER THE INPUT: true; the input reads as it did. -/
def montWheelsSpec : ChangeSpec := { name := "montWheels", fn := fun _ => fun
  | [d1, d2, d3] => { results := [.lit (.bool true)], args := [d1, d2, d3] }
  | _ => none }
def montWheelsRow : OpenClaim := { program := "ytlifengbicpppaa", sum := "db87d59595c635b3694d4b78444c9d90517e72f3177fe5cf484f181acde4dc5d", func := "postmark/postmarklaw07.MontWheels", spec := "montWheels", unfollowed := true, recurses := true, apart := false }
def MontWheelsSaid : Prop := montWheelsRow.holds Try.pinned (OpenSpec.ofChange montWheelsSpec)

/-- ITS FALSE NEIGHBOUR: 'it returns false'. Refute it at one input. -/
def montWheelsWrong : ChangeSpec := { name := "montWheels", fn := fun _ => fun
  | [d1, d2, d3] => { results := [.lit (.bool false)], args := [d1, d2, d3] }
  | _ => none }
def MontWheelsWrongFalsely : Prop := montWheelsRow.holds Try.pinned (OpenSpec.ofChange montWheelsWrong)

/-- 'postmarklaw07.MontPowers': WHATEVER THE INPUT: true; the input reads as it did. -/
def montPowersSpec : ChangeSpec := { name := "montPowers", fn := fun _ => fun
  | [d1, d2, d3] => { results := [.lit (.bool true)], args := [d1, d2, d3] }
  | _ => none }
def montPowersRow : OpenClaim := { program := "ytlifengbicpppaa", sum := "db87d59595c635b3694d4b78444c9d90517e72f3177fe5cf484f181acde4dc5d", func := "postmark/postmarklaw07.MontPowers", spec := "montPowers", unfollowed := true, recurses := true, apart := false }
def MontPowersSaid : Prop := montPowersRow.holds Try.pinned (OpenSpec.ofChange montPowersSpec)

/-- ITS FALSE NEIGHBOUR: 'it returns false'. Refute it at one input. -/
def montPowersWrong : ChangeSpec := { name := "montPowers", fn := fun _ => fun
  | [d1, d2, d3] => { results := [.lit (.bool false)], args := [d1, d2, d3] }
  | _ => none }
def MontPowersWrongFalsely : Prop := montPowersRow.holds Try.pinned (OpenSpec.ofChange montPowersWrong)

/-- 'postmarklaw07.MontTurns': WHATEVER THE INPUT: true; the input reads as it did. -/
def montTurnsSpec : ChangeSpec := { name := "montTurns", fn := fun _ => fun
  | [d1, d2, d3] => { results := [.lit (.bool true)], args := [d1, d2, d3] }
  | _ => none }
def montTurnsRow : OpenClaim := { program := "ytlifengbicpppaa", sum := "db87d59595c635b3694d4b78444c9d90517e72f3177fe5cf484f181acde4dc5d", func := "postmark/postmarklaw07.MontTurns", spec := "montTurns", unfollowed := true, recurses := true, apart := false }
def MontTurnsSaid : Prop := montTurnsRow.holds Try.pinned (OpenSpec.ofChange montTurnsSpec)

/-- ITS FALSE NEIGHBOUR: 'it returns false'. Refute it at one input. -/
def montTurnsWrong : ChangeSpec := { name := "montTurns", fn := fun _ => fun
  | [d1, d2, d3] => { results := [.lit (.bool false)], args := [d1, d2, d3] }
  | _ => none }
def MontTurnsWrongFalsely : Prop := montTurnsRow.holds Try.pinned (OpenSpec.ofChange montTurnsWrong)

/- THE SECOND FORM. 'bulk': how many values and letters a reading holds, each counted each time it is reached (what is shared counts as often as it is met; a slice's spare places count too). A statement '..UptoSaid' is the law's where the arguments, and the package variables that the reading takes, are together of bulk at most 1048576: NARROWER than '..Said'. Prove '..Said' where nothing that the law and all that it calls make is longer than what came in: it says more and counts as full. Else prove '..UptoSaid'. A law counts once. -/
mutual
def uptoBulk {H : Type} : DataW H → Nat
  | .lit (.string bytes) => bytes.length + 1
  | .lit _ => 1
  | .nil => 1
  | .ptr d => uptoBulk d + 1
  | .slice elems spare => uptoBulkAll elems + uptoBulkAll spare + 1
  | .agg parts => uptoBulkAll parts + 1
  | .iface _ d => uptoBulk d + 1
  | .map entries => uptoBulkEntries entries + 1
  | .held _ => 1
def uptoBulkAll {H : Type} : List (DataW H) → Nat
  | [] => 0
  | d :: r => uptoBulk d + uptoBulkAll r
def uptoBulkEntries {H : Type} : List (Lit × DataW H) → Nat
  | [] => 0
  | x :: r => uptoBulkEntry x + uptoBulkEntries r
def uptoBulkEntry {H : Type} : Lit × DataW H → Nat
  | (.string bytes, d) => bytes.length + uptoBulk d + 1
  | (_, d) => uptoBulk d + 1
 end
def uptoSmall : (H : Type) → List (DataW H) → Bool := fun _ ds => decide (uptoBulkAll ds ≤ 1048576)
def OpenSpec.upto (s : _root_.Go.ChangeSpec) : _root_.Go.OpenSpec := { _root_.Go.OpenSpec.ofChange s with cond := some uptoSmall }

/-- 'postmarklaw17.DiskStays', WHERE WHAT IT READS IS OF BULK AT MOST 1048576: true; the input reads as it did. -/
def diskStaysUptoRow : OpenClaim := { program := "ytlifengbicpppaa", sum := "db87d59595c635b3694d4b78444c9d90517e72f3177fe5cf484f181acde4dc5d", func := "postmark/postmarklaw17.DiskStays", spec := "diskStays", unfollowed := true, recurses := true, apart := false, narrowed := true }
def DiskStaysUptoSaid : Prop := diskStaysUptoRow.holds Try.pinned (OpenSpec.upto diskStaysSpec)

/-- 'postmarklaw17.DiskArmed', WHERE WHAT IT READS IS OF BULK AT MOST 1048576: true; the input reads as it did. -/
def diskArmedUptoRow : OpenClaim := { program := "ytlifengbicpppaa", sum := "db87d59595c635b3694d4b78444c9d90517e72f3177fe5cf484f181acde4dc5d", func := "postmark/postmarklaw17.DiskArmed", spec := "diskArmed", unfollowed := true, recurses := true, apart := false, narrowed := true }
def DiskArmedUptoSaid : Prop := diskArmedUptoRow.holds Try.pinned (OpenSpec.upto diskArmedSpec)

/-- 'postmarklaw06.RatioDivisors', WHERE WHAT IT READS IS OF BULK AT MOST 1048576: true; the input reads as it did. -/
def ratioDivisorsUptoRow : OpenClaim := { program := "ytlifengbicpppaa", sum := "db87d59595c635b3694d4b78444c9d90517e72f3177fe5cf484f181acde4dc5d", func := "postmark/postmarklaw06.RatioDivisors", spec := "ratioDivisors", unfollowed := true, recurses := true, apart := false, narrowed := true }
def RatioDivisorsUptoSaid : Prop := ratioDivisorsUptoRow.holds Try.pinned (OpenSpec.upto ratioDivisorsSpec)

/-- 'postmarklaw17.DiskPlays', WHERE WHAT IT READS IS OF BULK AT MOST 1048576: true; the input reads as it did. -/
def diskPlaysUptoRow : OpenClaim := { program := "ytlifengbicpppaa", sum := "db87d59595c635b3694d4b78444c9d90517e72f3177fe5cf484f181acde4dc5d", func := "postmark/postmarklaw17.DiskPlays", spec := "diskPlays", unfollowed := true, recurses := true, apart := false, narrowed := true }
def DiskPlaysUptoSaid : Prop := diskPlaysUptoRow.holds Try.pinned (OpenSpec.upto diskPlaysSpec)

/-- 'postmarklaw06.RatioDivides', WHERE WHAT IT READS IS OF BULK AT MOST 1048576: true; the input reads as it did. -/
def ratioDividesUptoRow : OpenClaim := { program := "ytlifengbicpppaa", sum := "db87d59595c635b3694d4b78444c9d90517e72f3177fe5cf484f181acde4dc5d", func := "postmark/postmarklaw06.RatioDivides", spec := "ratioDivides", unfollowed := true, recurses := true, apart := false, narrowed := true }
def RatioDividesUptoSaid : Prop := ratioDividesUptoRow.holds Try.pinned (OpenSpec.upto ratioDividesSpec)

/-- 'postmarklaw06.RatioRests', WHERE WHAT IT READS IS OF BULK AT MOST 1048576: true; the input reads as it did. -/
def ratioRestsUptoRow : OpenClaim := { program := "ytlifengbicpppaa", sum := "db87d59595c635b3694d4b78444c9d90517e72f3177fe5cf484f181acde4dc5d", func := "postmark/postmarklaw06.RatioRests", spec := "ratioRests", unfollowed := true, recurses := true, apart := false, narrowed := true }
def RatioRestsUptoSaid : Prop := ratioRestsUptoRow.holds Try.pinned (OpenSpec.upto ratioRestsSpec)

/-- 'postmarklaw06.RatioNames', WHERE WHAT IT READS IS OF BULK AT MOST 1048576: true; the input reads as it did. -/
def ratioNamesUptoRow : OpenClaim := { program := "ytlifengbicpppaa", sum := "db87d59595c635b3694d4b78444c9d90517e72f3177fe5cf484f181acde4dc5d", func := "postmark/postmarklaw06.RatioNames", spec := "ratioNames", unfollowed := true, recurses := true, apart := false, narrowed := true }
def RatioNamesUptoSaid : Prop := ratioNamesUptoRow.holds Try.pinned (OpenSpec.upto ratioNamesSpec)

/-- 'postmarklaw07.MontWheels', WHERE WHAT IT READS IS OF BULK AT MOST 1048576: true; the input reads as it did. -/
def montWheelsUptoRow : OpenClaim := { program := "ytlifengbicpppaa", sum := "db87d59595c635b3694d4b78444c9d90517e72f3177fe5cf484f181acde4dc5d", func := "postmark/postmarklaw07.MontWheels", spec := "montWheels", unfollowed := true, recurses := true, apart := false, narrowed := true }
def MontWheelsUptoSaid : Prop := montWheelsUptoRow.holds Try.pinned (OpenSpec.upto montWheelsSpec)

/-- 'postmarklaw07.MontPowers', WHERE WHAT IT READS IS OF BULK AT MOST 1048576: true; the input reads as it did. -/
def montPowersUptoRow : OpenClaim := { program := "ytlifengbicpppaa", sum := "db87d59595c635b3694d4b78444c9d90517e72f3177fe5cf484f181acde4dc5d", func := "postmark/postmarklaw07.MontPowers", spec := "montPowers", unfollowed := true, recurses := true, apart := false, narrowed := true }
def MontPowersUptoSaid : Prop := montPowersUptoRow.holds Try.pinned (OpenSpec.upto montPowersSpec)

/-- 'postmarklaw07.MontTurns', WHERE WHAT IT READS IS OF BULK AT MOST 1048576: true; the input reads as it did. -/
def montTurnsUptoRow : OpenClaim := { program := "ytlifengbicpppaa", sum := "db87d59595c635b3694d4b78444c9d90517e72f3177fe5cf484f181acde4dc5d", func := "postmark/postmarklaw07.MontTurns", spec := "montTurns", unfollowed := true, recurses := true, apart := false, narrowed := true }
def MontTurnsUptoSaid : Prop := montTurnsUptoRow.holds Try.pinned (OpenSpec.upto montTurnsSpec)

end Rows
end Go.Proofs.Ytlifengbicpppaa
