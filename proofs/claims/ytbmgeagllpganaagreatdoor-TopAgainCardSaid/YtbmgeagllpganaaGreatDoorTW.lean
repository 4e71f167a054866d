/-
 Part of the proof of TopAgain. No condition beyond those in each theorem.
-/
import Derived.Test.YtbmgeagllpganaaGreatDoorPvH
import Derived.Test.YtbmgeagllpganaaGreatDoorPvG
import Derived.Test.YtbmgeagllpganaaGreatDoorTA
section
open Go PvL Go.Proofs
set_option linter.unusedSimpArgs false
set_option linter.unusedVariables false
namespace Go.Proofs.YtbmgeagllpganaaGreatDoor.C
noncomputable instance:Orc Tryz.prog:=⟨fun f l m=>match l with | []=>bif Nat.beq f 5 then (bif preOk m tabs then some (.bool true) else none) else none|_=>none⟩
theorem z6d {f:FuncId} {l:List LV} {m:Mem} {v:LV} (h:Orc.ask Tryz.prog f l m=some v):f=5 /\ l=[] /\ v=.bool true /\ preOk m tabs=true:=by
 cases l with
 | cons a l=>cases h
 | nil =>
  have h:(bif Nat.beq f 5 then (bif preOk m tabs then some (LV.bool true) else none) else none)=some v:=h
  cases hb:Nat.beq f 5 with
  | false=>rw [hb] at h;cases h
  | true =>
   rw [hb] at h
   cases hp:preOk m tabs with
   | false=>rw [hp] at h;cases h
   | true=>rw [hp] at h;cases h;exact ⟨Nat.eq_of_beq_eq_true hb,rfl,rfl,rfl⟩
theorem z56 {M:Mem} (h:preOk M tabs=true):CallOk Tryz.prog 5 [] M (fun w M'=>w=.bool true /\ M'=M):=by
 refine ⟨_,_,zp7 (v:=.bool true) ?_,rfl,rfl⟩
 show (bif Nat.beq 5 5 then (bif preOk M tabs then some (LV.bool true) else none) else none)=_
 rw [h];rfl
end Go.Proofs.YtbmgeagllpganaaGreatDoor.C
end
