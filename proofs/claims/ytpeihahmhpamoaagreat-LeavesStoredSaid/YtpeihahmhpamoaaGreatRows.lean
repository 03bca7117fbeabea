/-
  No cell of these rows narrows 'for every input' (looked for: loops, veiled, ifaces, maps, wideKeys, modest, calm, conditions, laid).
  DERIVED. THE GIVEN ROWS OF THIS SEAT. 3 by the template 'for every input the law returns true; each argument reads behind the call as it read before'; 0 by the template 'total and deterministic' (their statements: YtpeihahmhpamoaaGreatTotals.lean).
  GIVEN WITH THE SEED: the statements are not yours to turn. If you find one false, say at which input.
  Laid BY PROGRAM, IN A SANDBOX (cutbox-rows.mjs): the forced cells as the released guide's own fill.sh prints them over the translation c0ebb51842e3ca9e… (all of the seat's roots in one cut). By AI agents, Wed Nov 11 2026. No macro, syntax, notation, axiom, sorry.
-/
import Derived.Test.YtpeihahmhpamoaaGreatChecked
import GoSem.Claim
import GoSem.ClaimJoined
import GoSem.ClaimMapViews
import Derived.JoinedTies
import Derived.KernelRfl
namespace Go.Proofs.YtpeihahmhpamoaaGreat
/- THE CELL 'sum', in the pinned program and in every row, IS THE sha256 OF THE DUMP (.gsa) THAT YtpeihahmhpamoaaGreatProg.lean LOADS. Nothing in Lean hashes anything: it is a label: what it is worth is what the hold of that sum in a sandbox is worth. -/
noncomputable def Tryz.pinned : Pinned := { name := "ytpeihahmhpamoaagreat", sum := "c0ebb51842e3ca9ec5e38dbc636847ba2f05db18b776a0639f6b27bdb1e660c2", checked := Tryz.checked }
namespace Rows
def none {H : Type} : Left H := { results := [], args := [] }

/-- 'drownerlaw09.LeavesBooks': WHATEVER THE INPUT: true; the input reads as it did. -/
def leavesBooksSpec : ChangeSpec := { name := "leavesBooks", fn := fun _ => fun
  | [d1, d2, d3, d4, d5] => { results := [.lit (.bool true)], args := [d1, d2, d3, d4, d5] }
  | _ => none }
def leavesBooksRow : OpenClaim := { program := "ytpeihahmhpamoaagreat", sum := "c0ebb51842e3ca9ec5e38dbc636847ba2f05db18b776a0639f6b27bdb1e660c2", func := "drowner/drownerlaw09.LeavesBooks", spec := "leavesBooks", unfollowed := true, recurses := true, apart := false }
def LeavesBooksSaid : Prop := leavesBooksRow.holds Tryz.pinned (OpenSpec.ofChange leavesBooksSpec)

/-- ITS FALSE NEIGHBOUR: 'it returns false'. Refute it at one input. -/
def leavesBooksWrong : ChangeSpec := { name := "leavesBooks", fn := fun _ => fun
  | [d1, d2, d3, d4, d5] => { results := [.lit (.bool false)], args := [d1, d2, d3, d4, d5] }
  | _ => none }
def LeavesBooksWrongFalsely : Prop := leavesBooksRow.holds Tryz.pinned (OpenSpec.ofChange leavesBooksWrong)

/-- 'drownerlaw09.LeavesShelves': WHATEVER THE INPUT: true; the input reads as it did. -/
def leavesShelvesSpec : ChangeSpec := { name := "leavesShelves", fn := fun _ => fun
  | [d1, d2, d3] => { results := [.lit (.bool true)], args := [d1, d2, d3] }
  | _ => none }
def leavesShelvesRow : OpenClaim := { program := "ytpeihahmhpamoaagreat", sum := "c0ebb51842e3ca9ec5e38dbc636847ba2f05db18b776a0639f6b27bdb1e660c2", func := "drowner/drownerlaw09.LeavesShelves", spec := "leavesShelves", unfollowed := true, recurses := true, apart := false }
def LeavesShelvesSaid : Prop := leavesShelvesRow.holds Tryz.pinned (OpenSpec.ofChange leavesShelvesSpec)

/-- ITS FALSE NEIGHBOUR: 'it returns false'. Refute it at one input. -/
def leavesShelvesWrong : ChangeSpec := { name := "leavesShelves", fn := fun _ => fun
  | [d1, d2, d3] => { results := [.lit (.bool false)], args := [d1, d2, d3] }
  | _ => none }
def LeavesShelvesWrongFalsely : Prop := leavesShelvesRow.holds Tryz.pinned (OpenSpec.ofChange leavesShelvesWrong)

/-- 'drownerlaw09.LeavesStored': WHATEVER THE INPUT: true; the input reads as it did. -/
def leavesStoredSpec : ChangeSpec := { name := "leavesStored", fn := fun _ => fun
  | [d1, d2, d3, d4] => { results := [.lit (.bool true)], args := [d1, d2, d3, d4] }
  | _ => none }
def leavesStoredRow : OpenClaim := { program := "ytpeihahmhpamoaagreat", sum := "c0ebb51842e3ca9ec5e38dbc636847ba2f05db18b776a0639f6b27bdb1e660c2", func := "drowner/drownerlaw09.LeavesStored", spec := "leavesStored", unfollowed := true, recurses := true, apart := false }
def LeavesStoredSaid : Prop := leavesStoredRow.holds Tryz.pinned (OpenSpec.ofChange leavesStoredSpec)

/-- ITS FALSE NEIGHBOUR: 'it returns false'. Refute it at one input. -/
def leavesStoredWrong : ChangeSpec := { name := "leavesStored", fn := fun _ => fun
  | [d1, d2, d3, d4] => { results := [.lit (.bool false)], args := [d1, d2, d3, d4] }
  | _ => none }
def LeavesStoredWrongFalsely : Prop := leavesStoredRow.holds Tryz.pinned (OpenSpec.ofChange leavesStoredWrong)

/- THE SECOND FORM. 'bulk': how many values and letters a reading holds, each counted each time it is reached (what is shared counts as often as it is met; a slice's spare places count too). A statement '..UptoSaid' is the law's where the arguments, and the package variables that the reading takes, are together of bulk at most 1048576: NARROWER than '..Said'. Prove '..Said' where nothing that the law and all that it calls make is longer than what came in: it says more and counts as full. Else prove '..UptoSaid'. A law counts once. -/
mutual
def uptoBulk {H : Type} : DataW H → Nat
  | .lit (.string bytes) => bytes.length + 1
  | .lit _ => 1
  | .nil => 1
  | .ptr d => uptoBulk d + 1
  | .slice elems spare => uptoBulkAll elems + uptoBulkAll spare + 1
  | .agg parts => uptoBulkAll parts + 1
  | .iface _ d => uptoBulk d + 1
  | .map entries => uptoBulkEntries entries + 1
  | .held _ => 1
def uptoBulkAll {H : Type} : List (DataW H) → Nat
  | [] => 0
  | d :: r => uptoBulk d + uptoBulkAll r
def uptoBulkEntries {H : Type} : List (Lit × DataW H) → Nat
  | [] => 0
  | x :: r => uptoBulkEntry x + uptoBulkEntries r
def uptoBulkEntry {H : Type} : Lit × DataW H → Nat
  | (.string bytes, d) => bytes.length + uptoBulk d + 1
  | (_, d) => uptoBulk d + 1
 end
def uptoSmall : (H : Type) → List (DataW H) → Bool := fun _ ds => decide (uptoBulkAll ds ≤ 1048576)
def OpenSpec.upto (s : _root_.Go.ChangeSpec) : _root_.Go.OpenSpec := { _root_.Go.OpenSpec.ofChange s with cond := some uptoSmall }

/-- 'drownerlaw09.LeavesBooks', WHERE WHAT IT READS IS OF BULK AT MOST 1048576: true; the input reads as it did. -/
def leavesBooksUptoRow : OpenClaim := { program := "ytpeihahmhpamoaagreat", sum := "c0ebb51842e3ca9ec5e38dbc636847ba2f05db18b776a0639f6b27bdb1e660c2", func := "drowner/drownerlaw09.LeavesBooks", spec := "leavesBooks", unfollowed := true, recurses := true, apart := false, narrowed := true }
def LeavesBooksUptoSaid : Prop := leavesBooksUptoRow.holds Tryz.pinned (OpenSpec.upto leavesBooksSpec)

/-- 'drownerlaw09.LeavesShelves', WHERE WHAT IT READS IS OF BULK AT MOST 1048576: true; the input reads as it did. -/
def leavesShelvesUptoRow : OpenClaim := { program := "ytpeihahmhpamoaagreat", sum := "c0ebb51842e3ca9ec5e38dbc636847ba2f05db18b776a0639f6b27bdb1e660c2", func := "drowner/drownerlaw09.LeavesShelves", spec := "leavesShelves", unfollowed := true, recurses := true, apart := false, narrowed := true }
def LeavesShelvesUptoSaid : Prop := leavesShelvesUptoRow.holds Tryz.pinned (OpenSpec.upto leavesShelvesSpec)

/-- 'drownerlaw09.LeavesStored', WHERE WHAT IT READS IS OF BULK AT MOST 1048576: true; the input reads as it did. -/
def leavesStoredUptoRow : OpenClaim := { program := "ytpeihahmhpamoaagreat", sum := "c0ebb51842e3ca9ec5e38dbc636847ba2f05db18b776a0639f6b27bdb1e660c2", func := "drowner/drownerlaw09.LeavesStored", spec := "leavesStored", unfollowed := true, recurses := true, apart := false, narrowed := true }
def LeavesStoredUptoSaid : Prop := leavesStoredUptoRow.holds Tryz.pinned (OpenSpec.upto leavesStoredSpec)

end Rows
end Go.Proofs.YtpeihahmhpamoaaGreat
