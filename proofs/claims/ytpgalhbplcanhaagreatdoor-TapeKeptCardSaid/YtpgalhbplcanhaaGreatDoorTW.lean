/-
 Part of the proof of TapeKept. No condition beyond those in each theorem.
-/
import Derived.Test.YtpgalhbplcanhaaGreatDoorPvI
import Derived.Test.YtpgalhbplcanhaaGreatDoorTA
import Derived.Test.YtpgalhbplcanhaaGreatDoorPvH
set_option linter.unusedVariables false
set_option linter.unusedSimpArgs false
set_option linter.unusedSectionVars false
section
open Go PvL Go.Proofs
namespace Go.Proofs.YtpgalhbplcanhaaGreatDoor.C
noncomputable instance:Orc Tryz.prog:=⟨fun f l m=>match l with | []=>bif Nat.beq f 22&&preOk m tabs then some (.bool true) else none|_=>none⟩
theorem z8d{f:FuncId}{l:List LV}{m:Mem}{v:LV}(h:Orc.ask Tryz.prog f l m=some v):l=[]/\v=.bool true/\f=22/\preOk m tabs=true:=by
 cases l with
 | cons a l=>cases h
 | nil=>
  have h:(bif Nat.beq f 22&&preOk m tabs then some (LV.bool true) else none)=some v:=h
  cases c:Nat.beq f 22&&preOk m tabs with
  | false=>rw[c] at h;cases h
  | true=>
   rw[c] at h
   cases h
   rw[Bool.and_eq_true] at c
   exact⟨rfl,rfl,Nat.eq_of_beq_eq_true c.1,c.2⟩
theorem zk8{M:Mem}(h:preOk M tabs=true):zc Tryz.prog 22 [] M (fun w M'=>w=.bool true/\M'=M):=by
 refine⟨_,_,zvd (v:=.bool true) ?_,rfl,rfl⟩
 show(bif Nat.beq 22 22&&preOk M tabs then some (LV.bool true) else none)=_
 rw[h];rfl
