/-
 Part of the proof of TapePlaces. No condition beyond those in each theorem.
-/
import Derived.Test.YtegiepfebnaebaaGreatDoorPvH
import Derived.Test.YtegiepfebnaebaaGreatDoorPvG
import Derived.Test.YtegiepfebnaebaaGreatDoorTA
section
open Go PvL Go.Proofs
set_option linter.unusedSimpArgs false
set_option linter.unusedVariables false
namespace Go.Proofs.YtegiepfebnaebaaGreatDoor.C
def e0:Entry:=⟨13,[],64,tabs,.bool true,283,[]⟩
set_option maxRecDepth 100000 in
theorem c0:chk Tryz.prog [] 100000 e0=true:=by kernel_rfl
theorem k0:e0.Ok Tryz.prog:=zgb mix (fun e h=>by cases h) c0
noncomputable instance:Orc Tryz.prog:=⟨fun f l m=>match l with | []=>bif Nat.beq f 13 then (bif preOk m tabs then some (.bool true) else none) else none|_=>none⟩
theorem z5k {f:FuncId} {l:List LV} {m:Mem} {v:LV} (h:Orc.ask Tryz.prog f l m=some v):f=13 /\ l=[] /\ v=.bool true /\ preOk m tabs=true:=by
 cases l with
 | cons a l=>cases h
 | nil =>
  have h:(bif Nat.beq f 13 then (bif preOk m tabs then some (LV.bool true) else none) else none)=some v:=h
  cases hb:Nat.beq f 13 with
  | false=>rw [hb] at h;cases h
  | true =>
   rw [hb] at h
   cases hp:preOk m tabs with
   | false=>rw [hp] at h;cases h
   | true=>rw [hp] at h;cases h;exact ⟨Nat.eq_of_beq_eq_true hb,rfl,rfl,rfl⟩
theorem orcOk:OrcOk Tryz.prog where
 fn f l m v h:=by obtain ⟨rfl,rfl,rfl,_⟩:=z5k h;exact k0.fn
 imp f l m v h:=by obtain ⟨rfl,rfl,rfl,_⟩:=z5k h;exact k0.imp
 sim f l m v h:=by obtain ⟨rfl,rfl,rfl,hp⟩:=z5k h;exact zje k0 zff z7s rfl rfl rfl rfl m hp
theorem z81 {M:Mem} (h:preOk M tabs=true):CallOk Tryz.prog 13 [] M (fun w M'=>w=.bool true /\ M'=M):=by
 refine ⟨_,_,zli (v:=.bool true) ?_,rfl,rfl⟩
 show (bif Nat.beq 13 13 then (bif preOk M tabs then some (LV.bool true) else none) else none)=_
 rw [h];rfl
end Go.Proofs.YtegiepfebnaebaaGreatDoor.C
end
