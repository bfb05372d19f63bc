/-
  NARROWER THAN 'FOR EVERY INPUT', by the rows' own cells (each row's printed sentence says how): GearTable: laid · GearNext: laid · GearSame: laid · GearLast: laid · GearCuts: laid · GearLong: laid · GearWhole: laid.
  DERIVED. THE GIVEN ROWS OF THIS SEAT. 7 by the template 'for every input the law returns true; each argument reads behind the call as it read before'; 0 by the template 'total and deterministic' (their statements: YtpelnalhdpjabaaDoorTotals.lean).
  GIVEN WITH THE SEED: the statements are not yours to turn. If you find one false, say at which input.
  Laid BY PROGRAM, IN A SANDBOX (cutbox-rows.mjs): the forced cells as the released guide's own fill.sh prints them over the translation 83f9e60cd3d267a1… (all of the seat's roots in one cut). By AI agents, Wed Nov 11 2026. No macro, syntax, notation, axiom, sorry.
-/
import Derived.Test.YtpelnalhdpjabaaDoorChecked
import GoSem.Claim
import GoSem.ClaimJoined
import GoSem.ClaimMapViews
import Derived.JoinedTies
import Derived.KernelRfl
namespace Go.Proofs.YtpelnalhdpjabaaDoor
/- THE CELL 'sum', in the pinned program and in every row, IS THE sha256 OF THE DUMP (.gsa) THAT YtpelnalhdpjabaaDoorProg.lean LOADS. Nothing in Lean hashes anything: it is a label: what it is worth is what the hold of that sum in a sandbox is worth. -/
noncomputable def Tryd.pinned : Pinned := { name := "ytpelnalhdpjabaadoor", sum := "83f9e60cd3d267a143ce5a100e481ab2fa5295d028004c477f622c09c083c99c", checked := Tryd.checked }
namespace Rows
def none {H : Type} : Left H := { results := [], args := [] }

/- WHAT THE LISTED PACKAGE-LEVEL VARIABLES READ AS WHEN THE CALL BEGINS. Each datum BY PROGRAM (the guide's laid-datum.mjs) off the statement by which the dump's own 'gosem.cut.vars' lays the variable. In a bare row this is a premise. The card (YtpelnalhdpjabaaDoorCards.lean) ties it to the program's text. -/
def laid_remora_gear_numbers {H : Type} : DataW H := .agg [.lit (.int .u64 2611923443488327891), .lit (.int .u64 1376283091369227076), .lit (.int .u64 11820040416388919760), .lit (.int .u64 589684135938649225), .lit (.int .u64 4983270260364809079), .lit (.int .u64 13714699805381954668), .lit (.int .u64 13883517620612518109), .lit (.int .u64 4577018097722394903), .lit (.int .u64 10526836309316205339), .lit (.int .u64 15073842237943035308), .lit (.int .u64 3458046377305235383), .lit (.int .u64 13322122606961655446), .lit (.int .u64 13437774018240085913), .lit (.int .u64 2639559389850201335), .lit (.int .u64 577009281997405206), .lit (.int .u64 7163292796296056425)]

/-- 'remoralaw11.GearTable': WHATEVER THE INPUT: true; the input reads as it did. -/
def gearTableSpec : ChangeSpec := { name := "gearTable", fn := fun _ => fun
  | [d1, d2] => { results := [.lit (.bool true)], args := [d1, d2] }
  | _ => none }
def gearTableRow : OpenClaim := { program := "ytpelnalhdpjabaadoor", sum := "83f9e60cd3d267a143ce5a100e481ab2fa5295d028004c477f622c09c083c99c", func := "remora/remoralaw11.GearTable", spec := "gearTable", named := ["remora/gear.numbers"], apart := false, laid := [("remora/gear.numbers", laid_remora_gear_numbers)] }
def GearTableSaid : Prop := gearTableRow.holds Tryd.pinned (OpenSpec.ofChange gearTableSpec)

/-- ITS FALSE NEIGHBOUR: 'it returns false'. Refute it at one input. -/
def gearTableWrong : ChangeSpec := { name := "gearTable", fn := fun _ => fun
  | [d1, d2] => { results := [.lit (.bool false)], args := [d1, d2] }
  | _ => none }
def GearTableWrongFalsely : Prop := gearTableRow.holds Tryd.pinned (OpenSpec.ofChange gearTableWrong)

/-- 'remoralaw11.GearNext': WHATEVER THE INPUT: true; the input reads as it did. -/
def gearNextSpec : ChangeSpec := { name := "gearNext", fn := fun _ => fun
  | [d1, d2] => { results := [.lit (.bool true)], args := [d1, d2] }
  | _ => none }
def gearNextRow : OpenClaim := { program := "ytpelnalhdpjabaadoor", sum := "83f9e60cd3d267a143ce5a100e481ab2fa5295d028004c477f622c09c083c99c", func := "remora/remoralaw11.GearNext", spec := "gearNext", named := ["remora/gear.numbers"], apart := false, laid := [("remora/gear.numbers", laid_remora_gear_numbers)] }
def GearNextSaid : Prop := gearNextRow.holds Tryd.pinned (OpenSpec.ofChange gearNextSpec)

/-- ITS FALSE NEIGHBOUR: 'it returns false'. Refute it at one input. -/
def gearNextWrong : ChangeSpec := { name := "gearNext", fn := fun _ => fun
  | [d1, d2] => { results := [.lit (.bool false)], args := [d1, d2] }
  | _ => none }
def GearNextWrongFalsely : Prop := gearNextRow.holds Tryd.pinned (OpenSpec.ofChange gearNextWrong)

/-- 'remoralaw11.GearSame': WHATEVER THE INPUT: true; the input reads as it did. -/
def gearSameSpec : ChangeSpec := { name := "gearSame", fn := fun _ => fun
  | [d1, d2, d3] => { results := [.lit (.bool true)], args := [d1, d2, d3] }
  | _ => none }
def gearSameRow : OpenClaim := { program := "ytpelnalhdpjabaadoor", sum := "83f9e60cd3d267a143ce5a100e481ab2fa5295d028004c477f622c09c083c99c", func := "remora/remoralaw11.GearSame", spec := "gearSame", named := ["remora/gear.numbers"], apart := false, laid := [("remora/gear.numbers", laid_remora_gear_numbers)] }
def GearSameSaid : Prop := gearSameRow.holds Tryd.pinned (OpenSpec.ofChange gearSameSpec)

/-- ITS FALSE NEIGHBOUR: 'it returns false'. Refute it at one input. -/
def gearSameWrong : ChangeSpec := { name := "gearSame", fn := fun _ => fun
  | [d1, d2, d3] => { results := [.lit (.bool false)], args := [d1, d2, d3] }
  | _ => none }
def GearSameWrongFalsely : Prop := gearSameRow.holds Tryd.pinned (OpenSpec.ofChange gearSameWrong)

/-- 'remoralaw11.GearLast': WHATEVER THE INPUT: true; the input reads as it did. -/
def gearLastSpec : ChangeSpec := { name := "gearLast", fn := fun _ => fun
  | [d1, d2, d3] => { results := [.lit (.bool true)], args := [d1, d2, d3] }
  | _ => none }
def gearLastRow : OpenClaim := { program := "ytpelnalhdpjabaadoor", sum := "83f9e60cd3d267a143ce5a100e481ab2fa5295d028004c477f622c09c083c99c", func := "remora/remoralaw11.GearLast", spec := "gearLast", named := ["remora/gear.numbers"], apart := false, laid := [("remora/gear.numbers", laid_remora_gear_numbers)] }
def GearLastSaid : Prop := gearLastRow.holds Tryd.pinned (OpenSpec.ofChange gearLastSpec)

/-- ITS FALSE NEIGHBOUR: 'it returns false'. Refute it at one input. -/
def gearLastWrong : ChangeSpec := { name := "gearLast", fn := fun _ => fun
  | [d1, d2, d3] => { results := [.lit (.bool false)], args := [d1, d2, d3] }
  | _ => none }
def GearLastWrongFalsely : Prop := gearLastRow.holds Tryd.pinned (OpenSpec.ofChange gearLastWrong)

/-- 'remoralaw11.GearCuts': WHATEVER THE INPUT: true; the input reads as it did. -/
def gearCutsSpec : ChangeSpec := { name := "gearCuts", fn := fun _ => fun
  | [d1, d2] => { results := [.lit (.bool true)], args := [d1, d2] }
  | _ => none }
def gearCutsRow : OpenClaim := { program := "ytpelnalhdpjabaadoor", sum := "83f9e60cd3d267a143ce5a100e481ab2fa5295d028004c477f622c09c083c99c", func := "remora/remoralaw11.GearCuts", spec := "gearCuts", named := ["remora/gear.numbers"], apart := false, laid := [("remora/gear.numbers", laid_remora_gear_numbers)] }
def GearCutsSaid : Prop := gearCutsRow.holds Tryd.pinned (OpenSpec.ofChange gearCutsSpec)

/-- ITS FALSE NEIGHBOUR: 'it returns false'. Refute it at one input. -/
def gearCutsWrong : ChangeSpec := { name := "gearCuts", fn := fun _ => fun
  | [d1, d2] => { results := [.lit (.bool false)], args := [d1, d2] }
  | _ => none }
def GearCutsWrongFalsely : Prop := gearCutsRow.holds Tryd.pinned (OpenSpec.ofChange gearCutsWrong)

/-- 'remoralaw11.GearLong': WHATEVER THE INPUT: true; the input reads as it did. -/
def gearLongSpec : ChangeSpec := { name := "gearLong", fn := fun _ => fun
  | [d1, d2] => { results := [.lit (.bool true)], args := [d1, d2] }
  | _ => none }
def gearLongRow : OpenClaim := { program := "ytpelnalhdpjabaadoor", sum := "83f9e60cd3d267a143ce5a100e481ab2fa5295d028004c477f622c09c083c99c", func := "remora/remoralaw11.GearLong", spec := "gearLong", named := ["remora/gear.numbers"], apart := false, laid := [("remora/gear.numbers", laid_remora_gear_numbers)] }
def GearLongSaid : Prop := gearLongRow.holds Tryd.pinned (OpenSpec.ofChange gearLongSpec)

/-- ITS FALSE NEIGHBOUR: 'it returns false'. Refute it at one input. -/
def gearLongWrong : ChangeSpec := { name := "gearLong", fn := fun _ => fun
  | [d1, d2] => { results := [.lit (.bool false)], args := [d1, d2] }
  | _ => none }
def GearLongWrongFalsely : Prop := gearLongRow.holds Tryd.pinned (OpenSpec.ofChange gearLongWrong)

/-- 'remoralaw11.GearWhole': WHATEVER THE INPUT: true; the input reads as it did. -/
def gearWholeSpec : ChangeSpec := { name := "gearWhole", fn := fun _ => fun
  | [d1, d2] => { results := [.lit (.bool true)], args := [d1, d2] }
  | _ => none }
def gearWholeRow : OpenClaim := { program := "ytpelnalhdpjabaadoor", sum := "83f9e60cd3d267a143ce5a100e481ab2fa5295d028004c477f622c09c083c99c", func := "remora/remoralaw11.GearWhole", spec := "gearWhole", named := ["remora/gear.numbers"], apart := false, laid := [("remora/gear.numbers", laid_remora_gear_numbers)] }
def GearWholeSaid : Prop := gearWholeRow.holds Tryd.pinned (OpenSpec.ofChange gearWholeSpec)

/-- ITS FALSE NEIGHBOUR: 'it returns false'. Refute it at one input. -/
def gearWholeWrong : ChangeSpec := { name := "gearWhole", fn := fun _ => fun
  | [d1, d2] => { results := [.lit (.bool false)], args := [d1, d2] }
  | _ => none }
def GearWholeWrongFalsely : Prop := gearWholeRow.holds Tryd.pinned (OpenSpec.ofChange gearWholeWrong)

/- THE SECOND FORM. 'bulk': how many values and letters a reading holds, each counted each time it is reached (what is shared counts as often as it is met; a slice's spare places count too). A statement '..UptoSaid' is the law's where the arguments, and the package variables that the reading takes, are together of bulk at most 1048576: NARROWER than '..Said'. Prove '..Said' where nothing that the law and all that it calls make is longer than what came in: it says more and counts as full. Else prove '..UptoSaid'. A law counts once. -/
mutual
def uptoBulk {H : Type} : DataW H → Nat
  | .lit (.string bytes) => bytes.length + 1
  | .lit _ => 1
  | .nil => 1
  | .ptr d => uptoBulk d + 1
  | .slice elems spare => uptoBulkAll elems + uptoBulkAll spare + 1
  | .agg parts => uptoBulkAll parts + 1
  | .iface _ d => uptoBulk d + 1
  | .map entries => uptoBulkEntries entries + 1
  | .held _ => 1
def uptoBulkAll {H : Type} : List (DataW H) → Nat
  | [] => 0
  | d :: r => uptoBulk d + uptoBulkAll r
def uptoBulkEntries {H : Type} : List (Lit × DataW H) → Nat
  | [] => 0
  | x :: r => uptoBulkEntry x + uptoBulkEntries r
def uptoBulkEntry {H : Type} : Lit × DataW H → Nat
  | (.string bytes, d) => bytes.length + uptoBulk d + 1
  | (_, d) => uptoBulk d + 1
 end
def uptoSmall : (H : Type) → List (DataW H) → Bool := fun _ ds => decide (uptoBulkAll ds ≤ 1048576)
def OpenSpec.upto (s : _root_.Go.ChangeSpec) : _root_.Go.OpenSpec := { _root_.Go.OpenSpec.ofChange s with cond := some uptoSmall }

/-- 'remoralaw11.GearTable', WHERE WHAT IT READS IS OF BULK AT MOST 1048576: true; the input reads as it did. -/
def gearTableUptoRow : OpenClaim := { program := "ytpelnalhdpjabaadoor", sum := "83f9e60cd3d267a143ce5a100e481ab2fa5295d028004c477f622c09c083c99c", func := "remora/remoralaw11.GearTable", spec := "gearTable", named := ["remora/gear.numbers"], apart := false, laid := [("remora/gear.numbers", laid_remora_gear_numbers)], narrowed := true }
def GearTableUptoSaid : Prop := gearTableUptoRow.holds Tryd.pinned (OpenSpec.upto gearTableSpec)

/-- 'remoralaw11.GearNext', WHERE WHAT IT READS IS OF BULK AT MOST 1048576: true; the input reads as it did. -/
def gearNextUptoRow : OpenClaim := { program := "ytpelnalhdpjabaadoor", sum := "83f9e60cd3d267a143ce5a100e481ab2fa5295d028004c477f622c09c083c99c", func := "remora/remoralaw11.GearNext", spec := "gearNext", named := ["remora/gear.numbers"], apart := false, laid := [("remora/gear.numbers", laid_remora_gear_numbers)], narrowed := true }
def GearNextUptoSaid : Prop := gearNextUptoRow.holds Tryd.pinned (OpenSpec.upto gearNextSpec)

/-- 'remoralaw11.GearSame', WHERE WHAT IT READS IS OF BULK AT MOST 1048576: true; the input reads as it did. -/
def gearSameUptoRow : OpenClaim := { program := "ytpelnalhdpjabaadoor", sum := "83f9e60cd3d267a143ce5a100e481ab2fa5295d028004c477f622c09c083c99c", func := "remora/remoralaw11.GearSame", spec := "gearSame", named := ["remora/gear.numbers"], apart := false, laid := [("remora/gear.numbers", laid_remora_gear_numbers)], narrowed := true }
def GearSameUptoSaid : Prop := gearSameUptoRow.holds Tryd.pinned (OpenSpec.upto gearSameSpec)

/-- 'remoralaw11.GearLast', WHERE WHAT IT READS IS OF BULK AT MOST 1048576: true; the input reads as it did. -/
def gearLastUptoRow : OpenClaim := { program := "ytpelnalhdpjabaadoor", sum := "83f9e60cd3d267a143ce5a100e481ab2fa5295d028004c477f622c09c083c99c", func := "remora/remoralaw11.GearLast", spec := "gearLast", named := ["remora/gear.numbers"], apart := false, laid := [("remora/gear.numbers", laid_remora_gear_numbers)], narrowed := true }
def GearLastUptoSaid : Prop := gearLastUptoRow.holds Tryd.pinned (OpenSpec.upto gearLastSpec)

/-- 'remoralaw11.GearCuts', WHERE WHAT IT READS IS OF BULK AT MOST 1048576: true; the input reads as it did. -/
def gearCutsUptoRow : OpenClaim := { program := "ytpelnalhdpjabaadoor", sum := "83f9e60cd3d267a143ce5a100e481ab2fa5295d028004c477f622c09c083c99c", func := "remora/remoralaw11.GearCuts", spec := "gearCuts", named := ["remora/gear.numbers"], apart := false, laid := [("remora/gear.numbers", laid_remora_gear_numbers)], narrowed := true }
def GearCutsUptoSaid : Prop := gearCutsUptoRow.holds Tryd.pinned (OpenSpec.upto gearCutsSpec)

/-- 'remoralaw11.GearLong', WHERE WHAT IT READS IS OF BULK AT MOST 1048576: true; the input reads as it did. -/
def gearLongUptoRow : OpenClaim := { program := "ytpelnalhdpjabaadoor", sum := "83f9e60cd3d267a143ce5a100e481ab2fa5295d028004c477f622c09c083c99c", func := "remora/remoralaw11.GearLong", spec := "gearLong", named := ["remora/gear.numbers"], apart := false, laid := [("remora/gear.numbers", laid_remora_gear_numbers)], narrowed := true }
def GearLongUptoSaid : Prop := gearLongUptoRow.holds Tryd.pinned (OpenSpec.upto gearLongSpec)

/-- 'remoralaw11.GearWhole', WHERE WHAT IT READS IS OF BULK AT MOST 1048576: true; the input reads as it did. -/
def gearWholeUptoRow : OpenClaim := { program := "ytpelnalhdpjabaadoor", sum := "83f9e60cd3d267a143ce5a100e481ab2fa5295d028004c477f622c09c083c99c", func := "remora/remoralaw11.GearWhole", spec := "gearWhole", named := ["remora/gear.numbers"], apart := false, laid := [("remora/gear.numbers", laid_remora_gear_numbers)], narrowed := true }
def GearWholeUptoSaid : Prop := gearWholeUptoRow.holds Tryd.pinned (OpenSpec.upto gearWholeSpec)

end Rows
end Go.Proofs.YtpelnalhdpjabaaDoor
