/-
 Part of the proof of TopMarked. No condition beyond those in each theorem.
-/
import Derived.Test.YtpgalhbplcanhaaGreatDoorPvH
import Derived.Test.YtpgalhbplcanhaaGreatDoorPvG
import Derived.Test.YtpgalhbplcanhaaGreatDoorTA
section
open Go PvL Go.Proofs
set_option linter.unusedSimpArgs false
set_option linter.unusedVariables false
namespace Go.Proofs.YtpgalhbplcanhaaGreatDoor.C
noncomputable instance:Orc Tryz.prog:=⟨fun f l m=>match l with | []=>bif Nat.beq f 22 then(bif preOk m tabs then some (.bool true) else none) else bif Nat.beq f 9 then(bif preOk m tabsT then some (.bool true) else none) else none|_=>none⟩
theorem z7m{f:FuncId}{l:List LV}{m:Mem}{v:LV}(h:Orc.ask Tryz.prog f l m=some v):l=[] /\ v=.bool true /\ ((f=22 /\ preOk m tabs=true) ∨(f=9 /\ preOk m tabsT=true)):=by
 cases l with
 | cons a l=>cases h
 | nil =>
  have h:(bif Nat.beq f 22 then(bif preOk m tabs then some (LV.bool true) else none) else bif Nat.beq f 9 then(bif preOk m tabsT then some (LV.bool true) else none) else none)=some v:=h
  cases hb:Nat.beq f 22 with
  | false =>
   rw[hb] at h
   cases hb2:Nat.beq f 9 with
   | false=>rw[hb2] at h;cases h
   | true =>
    rw[hb2] at h
    cases hp:preOk m tabsT with
    | false=>rw[hp] at h;cases h
    | true=>rw[hp] at h;cases h;exact⟨rfl,rfl,.inr ⟨Nat.eq_of_beq_eq_true hb2,rfl⟩⟩
  | true =>
   rw[hb] at h
   cases hp:preOk m tabs with
   | false=>rw[hp] at h;cases h
   | true=>rw[hp] at h;cases h;exact⟨rfl,rfl,.inl ⟨Nat.eq_of_beq_eq_true hb,rfl⟩⟩
theorem zal{M:Mem}(h:preOk M tabsT=true):ze Tryz.prog 9 [] M (fun w M'=>w=.bool true /\ M'=M):=by
 refine⟨_,_,zrk (v:=.bool true) ?_,rfl,rfl⟩
 show(bif Nat.beq 9 22 then(bif preOk M tabs then some (LV.bool true) else none) else bif Nat.beq 9 9 then(bif preOk M tabsT then some (LV.bool true) else none) else none)=_
 rw[h];rfl
