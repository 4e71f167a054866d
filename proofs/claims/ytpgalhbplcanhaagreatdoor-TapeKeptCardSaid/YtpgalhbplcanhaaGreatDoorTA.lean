/-
 Part of the proof of TapeKept. No condition beyond those in each theorem.
-/
import Derived.Test.YtpgalhbplcanhaaGreatDoorProg
import Derived.KernelRfl
import Derived.Test.YtpgalhbplcanhaaGreatDoorPvE
set_option linter.unusedVariables false
set_option linter.unusedSimpArgs false
set_option linter.unusedSectionVars false
section
open Go PvL Go.Proofs
namespace Go.Proofs.YtpgalhbplcanhaaGreatDoor.C
def zs0:List Int:=[-1,-1]
def zs1:List Int:=[0,-1]
def zs2:List Int:=[1,10,100,1000,10000,100000,1000000,10000000,100000000,1000000000,10000000000,100000000000,1000000000000,10000000000000,100000000000000,1000000000000000,10000000000000000,100000000000000000,1000000000000000000,10000000000000000000]
def zs4:List Int:=[0,1,28,2,29,14,24,3,30,22,20,15,25,17,4,8,31,27,13,23,21,19,16,7,26,12,18,6,11,5,10,9]
def zs5:List Int:=[0,1,56,2,57,49,28,3,61,58,42,50,38,29,17,4,62,47,59,36,45,43,51,22,53,39,33,30,24,18,12,5,63,55,48,27,60,41,37,16,46,35,44,21,52,32,23,11,54,26,40,15,34,20,31,10,25,14,19,9,13,8,7,6]
def tabs:Tab:=[(4,intsL .u64 zs2,0),(8,intsL .u8 zs5,0)]
def tabsT:Tab:=[(0,intsL .i64 zs1,0),(4,intsL .u64 zs2,0),(8,intsL .u8 zs5,0)]
theorem mix:Tryz.prog.follows .mixedOrders=true:=by kernel_rfl
theorem zt5:tabsOk tabs=true:=by kernel_rfl
theorem zjb:tabs.Pairwise (fun x y=>x.1≠y.1):=by decide
