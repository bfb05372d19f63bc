/-
  NARROWER THAN 'FOR EVERY INPUT', by the rows' own cells (each row's printed sentence says how): SigOf: laid · SigFits: laid · SigMays: laid · SigParts: laid · SigHead: laid · SigReads: laid · SigBack: laid.
  DERIVED. THE GIVEN ROWS OF THIS SEAT. 7 by the template 'for every input the law returns true; each argument reads behind the call as it read before'; 0 by the template 'total and deterministic' (their statements: YtjhgeppjpofjpaaDoorTotals.lean).
  GIVEN WITH THE SEED: the statements are not yours to turn. If you find one false, say at which input.
  Laid BY PROGRAM, IN A SANDBOX (cutbox-rows.mjs): the forced cells as the released guide's own fill.sh prints them over the translation 82872c28ed1c1e62… (all of the seat's roots in one cut). By AI agents, Wed Nov 11 2026. No macro, syntax, notation, axiom, sorry.
-/
import Derived.Test.YtjhgeppjpofjpaaDoorChecked
import GoSem.Claim
import GoSem.ClaimJoined
import GoSem.ClaimMapViews
import Derived.JoinedTies
import Derived.KernelRfl
namespace Go.Proofs.YtjhgeppjpofjpaaDoor
/- THE CELL 'sum', in the pinned program and in every row, IS THE sha256 OF THE DUMP (.gsa) THAT YtjhgeppjpofjpaaDoorProg.lean LOADS. Nothing in Lean hashes anything: it is a label: what it is worth is what the hold of that sum in a sandbox is worth. -/
noncomputable def Tryd.pinned : Pinned := { name := "ytjhgeppjpofjpaadoor", sum := "82872c28ed1c1e62b4c814b06603b4bc6657634ad0370bfa4080c882fab39243", checked := Tryd.checked }
namespace Rows
def none {H : Type} : Left H := { results := [], args := [] }

/- WHAT THE LISTED PACKAGE-LEVEL VARIABLES READ AS WHEN THE CALL BEGINS. Each datum BY PROGRAM (the guide's laid-datum.mjs) off the statement by which the dump's own 'gosem.cut.vars' lays the variable. In a bare row this is a premise. The card (YtjhgeppjpofjpaaDoorCards.lean) ties it to the program's text. -/
def laid_remora_crc_table {H : Type} : DataW H := .agg [.lit (.int .u32 0), .lit (.int .u32 498536548), .lit (.int .u32 997073096), .lit (.int .u32 651767980), .lit (.int .u32 1994146192), .lit (.int .u32 1802195444), .lit (.int .u32 1303535960), .lit (.int .u32 1342533948), .lit (.int .u32 3988292384), .lit (.int .u32 4027552580), .lit (.int .u32 3604390888), .lit (.int .u32 3412177804), .lit (.int .u32 2607071920), .lit (.int .u32 2262029012), .lit (.int .u32 2685067896), .lit (.int .u32 3183342108)]
def laid_remora_remoraref03_ks {H : Type} : DataW H := .agg [.lit (.int .u32 1116352408), .lit (.int .u32 1899447441), .lit (.int .u32 3049323471), .lit (.int .u32 3921009573), .lit (.int .u32 961987163), .lit (.int .u32 1508970993), .lit (.int .u32 2453635748), .lit (.int .u32 2870763221), .lit (.int .u32 3624381080), .lit (.int .u32 310598401), .lit (.int .u32 607225278), .lit (.int .u32 1426881987), .lit (.int .u32 1925078388), .lit (.int .u32 2162078206), .lit (.int .u32 2614888103), .lit (.int .u32 3248222580), .lit (.int .u32 3835390401), .lit (.int .u32 4022224774), .lit (.int .u32 264347078), .lit (.int .u32 604807628), .lit (.int .u32 770255983), .lit (.int .u32 1249150122), .lit (.int .u32 1555081692), .lit (.int .u32 1996064986), .lit (.int .u32 2554220882), .lit (.int .u32 2821834349), .lit (.int .u32 2952996808), .lit (.int .u32 3210313671), .lit (.int .u32 3336571891), .lit (.int .u32 3584528711), .lit (.int .u32 113926993), .lit (.int .u32 338241895), .lit (.int .u32 666307205), .lit (.int .u32 773529912), .lit (.int .u32 1294757372), .lit (.int .u32 1396182291), .lit (.int .u32 1695183700), .lit (.int .u32 1986661051), .lit (.int .u32 2177026350), .lit (.int .u32 2456956037), .lit (.int .u32 2730485921), .lit (.int .u32 2820302411), .lit (.int .u32 3259730800), .lit (.int .u32 3345764771), .lit (.int .u32 3516065817), .lit (.int .u32 3600352804), .lit (.int .u32 4094571909), .lit (.int .u32 275423344), .lit (.int .u32 430227734), .lit (.int .u32 506948616), .lit (.int .u32 659060556), .lit (.int .u32 883997877), .lit (.int .u32 958139571), .lit (.int .u32 1322822218), .lit (.int .u32 1537002063), .lit (.int .u32 1747873779), .lit (.int .u32 1955562222), .lit (.int .u32 2024104815), .lit (.int .u32 2227730452), .lit (.int .u32 2361852424), .lit (.int .u32 2428436474), .lit (.int .u32 2756734187), .lit (.int .u32 3204031479), .lit (.int .u32 3329325298)]

/-- 'remoralaw06.SigOf': WHATEVER THE INPUT: true; the input reads as it did. -/
def sigOfSpec : ChangeSpec := { name := "sigOf", fn := fun _ => fun
  | [d1, d2, d3] => { results := [.lit (.bool true)], args := [d1, d2, d3] }
  | _ => none }
def sigOfRow : OpenClaim := { program := "ytjhgeppjpofjpaadoor", sum := "82872c28ed1c1e62b4c814b06603b4bc6657634ad0370bfa4080c882fab39243", func := "remora/remoralaw06.SigOf", spec := "sigOf", unfollowed := true, recurses := true, named := ["remora/crc.table", "remora/remoraref03.ks"], apart := false, laid := [("remora/crc.table", laid_remora_crc_table), ("remora/remoraref03.ks", laid_remora_remoraref03_ks)] }
def SigOfSaid : Prop := sigOfRow.holds Tryd.pinned (OpenSpec.ofChange sigOfSpec)

/-- ITS FALSE NEIGHBOUR: 'it returns false'. Refute it at one input. -/
def sigOfWrong : ChangeSpec := { name := "sigOf", fn := fun _ => fun
  | [d1, d2, d3] => { results := [.lit (.bool false)], args := [d1, d2, d3] }
  | _ => none }
def SigOfWrongFalsely : Prop := sigOfRow.holds Tryd.pinned (OpenSpec.ofChange sigOfWrong)

/-- 'remoralaw06.SigFits': WHATEVER THE INPUT: true; the input reads as it did. -/
def sigFitsSpec : ChangeSpec := { name := "sigFits", fn := fun _ => fun
  | [d1, d2, d3] => { results := [.lit (.bool true)], args := [d1, d2, d3] }
  | _ => none }
def sigFitsRow : OpenClaim := { program := "ytjhgeppjpofjpaadoor", sum := "82872c28ed1c1e62b4c814b06603b4bc6657634ad0370bfa4080c882fab39243", func := "remora/remoralaw06.SigFits", spec := "sigFits", unfollowed := true, recurses := true, named := ["remora/crc.table", "remora/remoraref03.ks"], apart := false, laid := [("remora/crc.table", laid_remora_crc_table), ("remora/remoraref03.ks", laid_remora_remoraref03_ks)] }
def SigFitsSaid : Prop := sigFitsRow.holds Tryd.pinned (OpenSpec.ofChange sigFitsSpec)

/-- ITS FALSE NEIGHBOUR: 'it returns false'. Refute it at one input. -/
def sigFitsWrong : ChangeSpec := { name := "sigFits", fn := fun _ => fun
  | [d1, d2, d3] => { results := [.lit (.bool false)], args := [d1, d2, d3] }
  | _ => none }
def SigFitsWrongFalsely : Prop := sigFitsRow.holds Tryd.pinned (OpenSpec.ofChange sigFitsWrong)

/-- 'remoralaw06.SigMays': WHATEVER THE INPUT: true; the input reads as it did. -/
def sigMaysSpec : ChangeSpec := { name := "sigMays", fn := fun _ => fun
  | [d1, d2] => { results := [.lit (.bool true)], args := [d1, d2] }
  | _ => none }
def sigMaysRow : OpenClaim := { program := "ytjhgeppjpofjpaadoor", sum := "82872c28ed1c1e62b4c814b06603b4bc6657634ad0370bfa4080c882fab39243", func := "remora/remoralaw06.SigMays", spec := "sigMays", unfollowed := true, recurses := true, named := ["remora/crc.table"], apart := false, laid := [("remora/crc.table", laid_remora_crc_table)] }
def SigMaysSaid : Prop := sigMaysRow.holds Tryd.pinned (OpenSpec.ofChange sigMaysSpec)

/-- ITS FALSE NEIGHBOUR: 'it returns false'. Refute it at one input. -/
def sigMaysWrong : ChangeSpec := { name := "sigMays", fn := fun _ => fun
  | [d1, d2] => { results := [.lit (.bool false)], args := [d1, d2] }
  | _ => none }
def SigMaysWrongFalsely : Prop := sigMaysRow.holds Tryd.pinned (OpenSpec.ofChange sigMaysWrong)

/-- 'remoralaw06.SigParts': WHATEVER THE INPUT: true; the input reads as it did. -/
def sigPartsSpec : ChangeSpec := { name := "sigParts", fn := fun _ => fun
  | [d1, d2, d3] => { results := [.lit (.bool true)], args := [d1, d2, d3] }
  | _ => none }
def sigPartsRow : OpenClaim := { program := "ytjhgeppjpofjpaadoor", sum := "82872c28ed1c1e62b4c814b06603b4bc6657634ad0370bfa4080c882fab39243", func := "remora/remoralaw06.SigParts", spec := "sigParts", unfollowed := true, recurses := true, named := ["remora/crc.table"], apart := false, laid := [("remora/crc.table", laid_remora_crc_table)] }
def SigPartsSaid : Prop := sigPartsRow.holds Tryd.pinned (OpenSpec.ofChange sigPartsSpec)

/-- ITS FALSE NEIGHBOUR: 'it returns false'. Refute it at one input. -/
def sigPartsWrong : ChangeSpec := { name := "sigParts", fn := fun _ => fun
  | [d1, d2, d3] => { results := [.lit (.bool false)], args := [d1, d2, d3] }
  | _ => none }
def SigPartsWrongFalsely : Prop := sigPartsRow.holds Tryd.pinned (OpenSpec.ofChange sigPartsWrong)

/-- 'remoralaw06.SigHead': WHATEVER THE INPUT: true; the input reads as it did. -/
def sigHeadSpec : ChangeSpec := { name := "sigHead", fn := fun _ => fun
  | [d1, d2, d3] => { results := [.lit (.bool true)], args := [d1, d2, d3] }
  | _ => none }
def sigHeadRow : OpenClaim := { program := "ytjhgeppjpofjpaadoor", sum := "82872c28ed1c1e62b4c814b06603b4bc6657634ad0370bfa4080c882fab39243", func := "remora/remoralaw06.SigHead", spec := "sigHead", unfollowed := true, recurses := true, named := ["remora/crc.table"], apart := false, laid := [("remora/crc.table", laid_remora_crc_table)] }
def SigHeadSaid : Prop := sigHeadRow.holds Tryd.pinned (OpenSpec.ofChange sigHeadSpec)

/-- ITS FALSE NEIGHBOUR: 'it returns false'. Refute it at one input. -/
def sigHeadWrong : ChangeSpec := { name := "sigHead", fn := fun _ => fun
  | [d1, d2, d3] => { results := [.lit (.bool false)], args := [d1, d2, d3] }
  | _ => none }
def SigHeadWrongFalsely : Prop := sigHeadRow.holds Tryd.pinned (OpenSpec.ofChange sigHeadWrong)

/-- 'remoralaw06.SigReads': WHATEVER THE INPUT: true; the input reads as it did. -/
def sigReadsSpec : ChangeSpec := { name := "sigReads", fn := fun _ => fun
  | [d] => { results := [.lit (.bool true)], args := [d] }
  | _ => none }
def sigReadsRow : OpenClaim := { program := "ytjhgeppjpofjpaadoor", sum := "82872c28ed1c1e62b4c814b06603b4bc6657634ad0370bfa4080c882fab39243", func := "remora/remoralaw06.SigReads", spec := "sigReads", unfollowed := true, recurses := true, named := ["remora/crc.table"], apart := false, laid := [("remora/crc.table", laid_remora_crc_table)] }
def SigReadsSaid : Prop := sigReadsRow.holds Tryd.pinned (OpenSpec.ofChange sigReadsSpec)

/-- ITS FALSE NEIGHBOUR: 'it returns false'. Refute it at one input. -/
def sigReadsWrong : ChangeSpec := { name := "sigReads", fn := fun _ => fun
  | [d] => { results := [.lit (.bool false)], args := [d] }
  | _ => none }
def SigReadsWrongFalsely : Prop := sigReadsRow.holds Tryd.pinned (OpenSpec.ofChange sigReadsWrong)

/-- 'remoralaw06.SigBack': WHATEVER THE INPUT: true; the input reads as it did. -/
def sigBackSpec : ChangeSpec := { name := "sigBack", fn := fun _ => fun
  | [d1, d2] => { results := [.lit (.bool true)], args := [d1, d2] }
  | _ => none }
def sigBackRow : OpenClaim := { program := "ytjhgeppjpofjpaadoor", sum := "82872c28ed1c1e62b4c814b06603b4bc6657634ad0370bfa4080c882fab39243", func := "remora/remoralaw06.SigBack", spec := "sigBack", unfollowed := true, recurses := true, named := ["remora/crc.table"], apart := false, laid := [("remora/crc.table", laid_remora_crc_table)] }
def SigBackSaid : Prop := sigBackRow.holds Tryd.pinned (OpenSpec.ofChange sigBackSpec)

/-- ITS FALSE NEIGHBOUR: 'it returns false'. Refute it at one input. -/
def sigBackWrong : ChangeSpec := { name := "sigBack", fn := fun _ => fun
  | [d1, d2] => { results := [.lit (.bool false)], args := [d1, d2] }
  | _ => none }
def SigBackWrongFalsely : Prop := sigBackRow.holds Tryd.pinned (OpenSpec.ofChange sigBackWrong)

/- THE SECOND FORM. 'bulk': how many values and letters a reading holds, each counted each time it is reached (what is shared counts as often as it is met; a slice's spare places count too). A statement '..UptoSaid' is the law's where the arguments, and the package variables that the reading takes, are together of bulk at most 1048576: NARROWER than '..Said'. Prove '..Said' where nothing that the law and all that it calls make is longer than what came in: it says more and counts as full. Else prove '..UptoSaid'. A law counts once. -/
mutual
def uptoBulk {H : Type} : DataW H → Nat
  | .lit (.string bytes) => bytes.length + 1
  | .lit _ => 1
  | .nil => 1
  | .ptr d => uptoBulk d + 1
  | .slice elems spare => uptoBulkAll elems + uptoBulkAll spare + 1
  | .agg parts => uptoBulkAll parts + 1
  | .iface _ d => uptoBulk d + 1
  | .map entries => uptoBulkEntries entries + 1
  | .held _ => 1
def uptoBulkAll {H : Type} : List (DataW H) → Nat
  | [] => 0
  | d :: r => uptoBulk d + uptoBulkAll r
def uptoBulkEntries {H : Type} : List (Lit × DataW H) → Nat
  | [] => 0
  | x :: r => uptoBulkEntry x + uptoBulkEntries r
def uptoBulkEntry {H : Type} : Lit × DataW H → Nat
  | (.string bytes, d) => bytes.length + uptoBulk d + 1
  | (_, d) => uptoBulk d + 1
 end
def uptoSmall : (H : Type) → List (DataW H) → Bool := fun _ ds => decide (uptoBulkAll ds ≤ 1048576)
def OpenSpec.upto (s : _root_.Go.ChangeSpec) : _root_.Go.OpenSpec := { _root_.Go.OpenSpec.ofChange s with cond := some uptoSmall }

/-- 'remoralaw06.SigOf', WHERE WHAT IT READS IS OF BULK AT MOST 1048576: true; the input reads as it did. -/
def sigOfUptoRow : OpenClaim := { program := "ytjhgeppjpofjpaadoor", sum := "82872c28ed1c1e62b4c814b06603b4bc6657634ad0370bfa4080c882fab39243", func := "remora/remoralaw06.SigOf", spec := "sigOf", unfollowed := true, recurses := true, named := ["remora/crc.table", "remora/remoraref03.ks"], apart := false, laid := [("remora/crc.table", laid_remora_crc_table), ("remora/remoraref03.ks", laid_remora_remoraref03_ks)], narrowed := true }
def SigOfUptoSaid : Prop := sigOfUptoRow.holds Tryd.pinned (OpenSpec.upto sigOfSpec)

/-- 'remoralaw06.SigFits', WHERE WHAT IT READS IS OF BULK AT MOST 1048576: true; the input reads as it did. -/
def sigFitsUptoRow : OpenClaim := { program := "ytjhgeppjpofjpaadoor", sum := "82872c28ed1c1e62b4c814b06603b4bc6657634ad0370bfa4080c882fab39243", func := "remora/remoralaw06.SigFits", spec := "sigFits", unfollowed := true, recurses := true, named := ["remora/crc.table", "remora/remoraref03.ks"], apart := false, laid := [("remora/crc.table", laid_remora_crc_table), ("remora/remoraref03.ks", laid_remora_remoraref03_ks)], narrowed := true }
def SigFitsUptoSaid : Prop := sigFitsUptoRow.holds Tryd.pinned (OpenSpec.upto sigFitsSpec)

/-- 'remoralaw06.SigMays', WHERE WHAT IT READS IS OF BULK AT MOST 1048576: true; the input reads as it did. -/
def sigMaysUptoRow : OpenClaim := { program := "ytjhgeppjpofjpaadoor", sum := "82872c28ed1c1e62b4c814b06603b4bc6657634ad0370bfa4080c882fab39243", func := "remora/remoralaw06.SigMays", spec := "sigMays", unfollowed := true, recurses := true, named := ["remora/crc.table"], apart := false, laid := [("remora/crc.table", laid_remora_crc_table)], narrowed := true }
def SigMaysUptoSaid : Prop := sigMaysUptoRow.holds Tryd.pinned (OpenSpec.upto sigMaysSpec)

/-- 'remoralaw06.SigParts', WHERE WHAT IT READS IS OF BULK AT MOST 1048576: true; the input reads as it did. -/
def sigPartsUptoRow : OpenClaim := { program := "ytjhgeppjpofjpaadoor", sum := "82872c28ed1c1e62b4c814b06603b4bc6657634ad0370bfa4080c882fab39243", func := "remora/remoralaw06.SigParts", spec := "sigParts", unfollowed := true, recurses := true, named := ["remora/crc.table"], apart := false, laid := [("remora/crc.table", laid_remora_crc_table)], narrowed := true }
def SigPartsUptoSaid : Prop := sigPartsUptoRow.holds Tryd.pinned (OpenSpec.upto sigPartsSpec)

/-- 'remoralaw06.SigHead', WHERE WHAT IT READS IS OF BULK AT MOST 1048576: true; the input reads as it did. -/
def sigHeadUptoRow : OpenClaim := { program := "ytjhgeppjpofjpaadoor", sum := "82872c28ed1c1e62b4c814b06603b4bc6657634ad0370bfa4080c882fab39243", func := "remora/remoralaw06.SigHead", spec := "sigHead", unfollowed := true, recurses := true, named := ["remora/crc.table"], apart := false, laid := [("remora/crc.table", laid_remora_crc_table)], narrowed := true }
def SigHeadUptoSaid : Prop := sigHeadUptoRow.holds Tryd.pinned (OpenSpec.upto sigHeadSpec)

/-- 'remoralaw06.SigReads', WHERE WHAT IT READS IS OF BULK AT MOST 1048576: true; the input reads as it did. -/
def sigReadsUptoRow : OpenClaim := { program := "ytjhgeppjpofjpaadoor", sum := "82872c28ed1c1e62b4c814b06603b4bc6657634ad0370bfa4080c882fab39243", func := "remora/remoralaw06.SigReads", spec := "sigReads", unfollowed := true, recurses := true, named := ["remora/crc.table"], apart := false, laid := [("remora/crc.table", laid_remora_crc_table)], narrowed := true }
def SigReadsUptoSaid : Prop := sigReadsUptoRow.holds Tryd.pinned (OpenSpec.upto sigReadsSpec)

/-- 'remoralaw06.SigBack', WHERE WHAT IT READS IS OF BULK AT MOST 1048576: true; the input reads as it did. -/
def sigBackUptoRow : OpenClaim := { program := "ytjhgeppjpofjpaadoor", sum := "82872c28ed1c1e62b4c814b06603b4bc6657634ad0370bfa4080c882fab39243", func := "remora/remoralaw06.SigBack", spec := "sigBack", unfollowed := true, recurses := true, named := ["remora/crc.table"], apart := false, laid := [("remora/crc.table", laid_remora_crc_table)], narrowed := true }
def SigBackUptoSaid : Prop := sigBackUptoRow.holds Tryd.pinned (OpenSpec.upto sigBackSpec)

end Rows
end Go.Proofs.YtjhgeppjpofjpaaDoor
