/- Functions with the same answers as the Go functions of the program, with the proofs that the program comes to just these answers; no condition but those that each theorem names. (Laid by this work's own program mk.py out of the translation.) -/
import Derived.Test.YtjgloepeogelnaaDoorProg
import Derived.Test.YtjgloepeogelnaaDoorNums
import Derived.Test.YtjgloepeogelnaaDoorTch
import Derived.Test.YtjgloepeogelnaaDoorShelf
import Derived.Test.YtjgloepeogelnaaDoorRfb
import Derived.Below
import Derived.Deep.Draws
import Derived.Deep.AppendLies
import Derived.Maps.AppendAt
import Derived.OwnWalk
import Derived.Laws.BytesArg
import Derived.Laws.MakeOwn
import Derived.Laws.OwnMore
import Derived.Deep.OwnRows
import Derived.Tactics
import Derived.Lib.ConvBytes
import Derived.Laws.Slices
import Derived.WalkKit
import Derived.KernelRfl
import Derived.RowKit3
import Derived.Deep.LoopGhost
import Derived.Deep.QuietTactic
import Derived.BigQuiet
import Derived.WideLaws
import Derived.Deep.DeepCutAuto
import Derived.Deep.CutBlock
import Derived.Deep.RegionHeld3
import Derived.Laws.Rows
import Derived.Lib.AppendStr
import Derived.ArgAppend
import Derived.Laws.IdiomCopy
import Derived.OrdersHeld
import Derived.Laws.BitsLemmas
import Derived.RowKit
import Derived.RangeFuncBox
import Derived.RangeFuncLeaves
import Derived.RangeFuncNested
import Derived.RangeFuncBound
import Derived.RangeFuncCalls
import Derived.Shelf.Abstract
import Derived.Shelf.RegionOpen
import Derived.OwnWalkIn
import Derived.TacticsInMore
import Derived.LoopNIn
import Derived.LoopIn
import Derived.Deep.DeepMust
import Derived.ScopeJumps
import Derived.Lib.EndianBits
import Derived.Stop.RegionWithIn
import Derived.Shelf.Small.Bits
import Derived.Lib.BitFns
import Derived.Test.YtjgloepeogelnaaDoorWWords
import Derived.Test.YtjgloepeogelnaaDoorWLast
import Derived.Test.YtjgloepeogelnaaDoorWTab
import Derived.Test.YtjgloepeogelnaaDoorWFour
import Derived.Test.YtjgloepeogelnaaDoorWQPut
import Derived.Test.YtjgloepeogelnaaDoorWApart
import Derived.Test.YtjgloepeogelnaaDoorWArr
import Derived.Test.YtjgloepeogelnaaDoorWZeros
import Derived.Test.YtjgloepeogelnaaDoorWFoot
import Derived.Test.YtjgloepeogelnaaDoorWKept
import Derived.Test.YtjgloepeogelnaaDoorWShare
import Derived.Test.YtjgloepeogelnaaDoorWN
import Derived.Test.YtjgloepeogelnaaDoorWFootNe
import Derived.Test.YtjgloepeogelnaaDoorWAt
import Derived.Test.YtjgloepeogelnaaDoorWEqStruct
import Derived.Test.YtjgloepeogelnaaDoorWRepsOne
import Derived.Test.YtjgloepeogelnaaDoorWInv
import Derived.Test.YtjgloepeogelnaaDoorWInvWords
import Derived.Test.YtjgloepeogelnaaDoorWGuard
import Derived.Test.YtjgloepeogelnaaDoorWNEv
import Derived.Test.YtjgloepeogelnaaDoorWMore
namespace Go.Proofs.YtjgloepeogelnaaDoor.Pr
open Go.RowKit Go.Proofs.YtjgloepeogelnaaDoorW.PrintWords Go.Proofs.YtjgloepeogelnaaDoorW.PrintLast Go.Proofs.YtjgloepeogelnaaDoorW.PrintMore
attribute [local go_sem] max2_int min2_int max_two min_two max_three min_three max_four min_four   -- for this text's walks alone
set_option linter.unusedVariables false
set_option linter.unusedSimpArgs false



def errW : Option Int → Value
  | none => .nilIface
  | some c => .iface 0 (.int .i64 c)
theorem errW_none : errW none = .nilIface := rfl
theorem errW_some (c : Int) : errW (some c) = .iface 0 (.int .i64 c) := rfl

theorem info3 : (Tryd.prog.info? 3).map (fun i => (i.zero, i.size, i.bytes)) = some (some (.int .i64 0), 1, 8) := by kernel_rfl
theorem info9 : (Tryd.prog.info? 9).map (fun i => (i.zero, i.size, i.bytes)) = some (some (.string ⟨#[]⟩), 1, 16) := by kernel_rfl
theorem info39 : (Tryd.prog.info? 39).map (fun i => (i.zero, i.size, i.bytes)) = some (some (.int .u32 0), 1, 4) := by kernel_rfl
-- the values' own types
def rd_L1 (xs : List (List Int)) (i : Int) : (List Int) := xs.getD i.toNat ([] : List Int)
theorem at_L1 {w : World} {A : Option Addr} {n : Nat} {xs : List (List Int)} (h : Kd.C (Kd.slice 39 (Kd.int .u32)) w A n xs) (i : Int) (h0 : 0 ≤ i) (h1 : i < n) : ∃ ad A0 c0, A = some ad ∧ w.cell? (ad.add i.toNat) = some (.slice A0 (rd_L1 xs i).length c0) ∧ (rd_L1 xs i).length ≤ c0 ∧ (Kd.int .u32).C w A0 (rd_L1 xs i).length (rd_L1 xs i) := by
  obtain ⟨ad, c, e, _, hK, hc0⟩ := Kd.C_get h ([] : List Int) i h0 h1
  have hc : ∀ j u, c[j]? = some u → w.cell? (ad.add (i.toNat * 1 + j)) = some u := hc0
  obtain ⟨A0, c0, rfl, l0, g0⟩ := hK
  exact ⟨ad, A0, c0, e, by have hq := hc 0 _ rfl; rwa [Nat.mul_one, Nat.add_zero] at hq, l0, g0⟩

end Go.Proofs.YtjgloepeogelnaaDoor.Pr
