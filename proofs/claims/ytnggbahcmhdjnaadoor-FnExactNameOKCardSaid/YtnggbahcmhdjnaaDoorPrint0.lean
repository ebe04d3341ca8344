-- Written by a program of this session (myprint.py) out of the translation; not trusted, Lean checks it.
import Derived.Test.YtnggbahcmhdjnaaDoorProg
import Derived.Below
import Derived.Deep.Draws
import Derived.Deep.AppendLies
import Derived.Maps.AppendAt
import Derived.OwnWalk
import Derived.Laws.BytesArg
import Derived.Laws.MakeOwn
import Derived.Laws.OwnMore
import Derived.Deep.OwnRows
import Derived.Tactics
import Derived.Lib.ConvBytes
import Derived.Laws.Slices
import Derived.WalkKit
import Derived.KernelRfl
import Derived.RowKit3
import Derived.Deep.LoopGhost
import Derived.Deep.QuietTactic
import Derived.BigQuiet
import Derived.WideLaws
import Derived.Deep.DeepCutAuto
import Derived.Deep.CutBlock
import Derived.Deep.RegionHeld3
import Derived.Laws.Rows
import Derived.Lib.AppendStr
import Derived.ArgAppend
import Derived.Laws.IdiomCopy
import Derived.OrdersHeld
import Derived.Laws.BitsLemmas
import Derived.RowKit
import Derived.Test.YtnggbahcmhdjnaaDoorWWords
import Derived.Test.YtnggbahcmhdjnaaDoorWLast
import Derived.Test.YtnggbahcmhdjnaaDoorWTab
import Derived.Test.YtnggbahcmhdjnaaDoorWFour
import Derived.Test.YtnggbahcmhdjnaaDoorWQPut
import Derived.Test.YtnggbahcmhdjnaaDoorWApart
import Derived.Test.YtnggbahcmhdjnaaDoorWArr
import Derived.Test.YtnggbahcmhdjnaaDoorWZeros
import Derived.Test.YtnggbahcmhdjnaaDoorWFoot
import Derived.Test.YtnggbahcmhdjnaaDoorWKept
import Derived.Test.YtnggbahcmhdjnaaDoorWShare
import Derived.Test.YtnggbahcmhdjnaaDoorWN
import Derived.Test.YtnggbahcmhdjnaaDoorWFootNe
import Derived.Test.YtnggbahcmhdjnaaDoorWAt
import Derived.Test.YtnggbahcmhdjnaaDoorWEqStruct
import Derived.Test.YtnggbahcmhdjnaaDoorWRepsOne
import Derived.Test.YtnggbahcmhdjnaaDoorWInv
import Derived.Test.YtnggbahcmhdjnaaDoorWInvWords
import Derived.Test.YtnggbahcmhdjnaaDoorWGuard
import Derived.Test.YtnggbahcmhdjnaaDoorWNEv
import Derived.Test.YtnggbahcmhdjnaaDoorWMore
namespace Go.Proofs.YtnggbahcmhdjnaaDoor.Print
open Go.RowKit Go.Proofs.YtnggbahcmhdjnaaDoorW.PrintWords Go.Proofs.YtnggbahcmhdjnaaDoorW.PrintLast Go.Proofs.YtnggbahcmhdjnaaDoorW.PrintMore
attribute [local go_sem] max2_int min2_int max_two min_two max_three min_three max_four min_four   -- for this text's walks alone
set_option linter.unusedVariables false
set_option linter.unusedSimpArgs false



def errW : Option Int → Value
  | none => .nilIface
  | some c => .iface 0 (.int .i64 c)
theorem errW_none : errW none = .nilIface := rfl
theorem errW_some (c : Int) : errW (some c) = .iface 0 (.int .i64 c) := rfl

-- the values' own types

theorem bN {w : World} {g : Nat} {o : Obj} (n : Nat) (h : w.heap[g]? = some o) : (w.drewN n).heap[g]? = some o := h
theorem bd {w : World} {g : Nat} {o : Obj} (h : w.heap[g]? = some o) : w.drew.heap[g]? = some o := h
theorem bA {w : World} {g : Nat} {o : Obj} (o' : Obj) (h : w.heap[g]? = some o) : (w.alloc o').heap[g]? = some o := blk_alloc h o'

end Go.Proofs.YtnggbahcmhdjnaaDoor.Print
