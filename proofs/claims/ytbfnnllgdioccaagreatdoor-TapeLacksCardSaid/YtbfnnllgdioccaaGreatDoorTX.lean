/-
 Part of the proof of TapeLacks: what functions of the program and of the statement come to, walked by the rules. No condition beyond those in each theorem.
-/
import Derived.Test.YtbfnnllgdioccaaGreatDoorTA
import Derived.Test.YtbfnnllgdioccaaGreatDoorPvF
section
open Go PvL Go.Proofs
set_option linter.unusedVariables false
namespace Go.Proofs.YtbfnnllgdioccaaGreatDoor.C
def x49 : XF := ⟨15, .seq (
 .ops [
  ⟨(some 6), .mv (.c (.bool false)), none⟩]) (
 .seq (
 .ops [
  ⟨(some 7), .mv (.t 0), none⟩,
  ⟨(some 8), .mv (.t 1), none⟩,
  ⟨(some 9), .bin .geq (.t 7) (.t 8), none⟩,
  ⟨(some 10), .mv (.t 9), none⟩,
  ⟨(some 11), .mv (.t 0), some (10, true)⟩,
  ⟨(some 12), .mv (.t 2), some (10, true)⟩,
  ⟨(some 13), .bin .leq (.t 11) (.t 12), some (10, true)⟩,
  ⟨(some 14), .pick (.t 10) (.t 13) (.c (.bool false)), none⟩,
  ⟨(some 6), .mv (.t 14), none⟩]) (
 .ret)), [.tmp 6]⟩
theorem k49 : cFn Tryz.prog 49 = some x49 := by kernel_rfl
def x67 : XF := ⟨25, .seq (
 .ops [
  ⟨(some 1), .box 48 (.t 0), none⟩,
  ⟨(some 2), .mv (.c (.int .i64 0)), none⟩]) (
 .seq (
 .seq (
 .ops [
  ⟨(some 3), .fad 0 (.t 1), none⟩,
  ⟨(some 4), .ld1 (.t 3), none⟩,
  ⟨(some 5), .call (.c (.func (.func 44) [] [])) [(.t 4), (.c (.int .i64 0)), (.c (.int .i64 60000))], none⟩,
  ⟨(some 6), .un .not (.t 5), none⟩,
  ⟨(some 7), .mv (.t 6), none⟩,
  ⟨(some 8), .fad 1 (.t 1), some (7, false)⟩,
  ⟨(some 9), .ld1 (.t 8), some (7, false)⟩,
  ⟨(some 10), .call (.c (.func (.func 44) [] [])) [(.t 9), (.c (.int .i64 0)), (.c (.int .i64 23))], some (7, false)⟩,
  ⟨(some 11), .un .not (.t 10), some (7, false)⟩,
  ⟨(some 12), .pick (.t 7) (.c (.bool true)) (.t 11), none⟩,
  ⟨(some 13), .mv (.t 12), none⟩,
  ⟨(some 14), .fad 2 (.t 1), some (13, false)⟩,
  ⟨(some 15), .ld1 (.t 14), some (13, false)⟩,
  ⟨(some 16), .len .sl (.t 15), some (13, false)⟩,
  ⟨(some 17), .call (.c (.func (.func 44) [] [])) [(.t 16), (.c (.int .i64 1)), (.c (.int .i64 64))], some (13, false)⟩,
  ⟨(some 18), .un .not (.t 17), some (13, false)⟩,
  ⟨(some 19), .pick (.t 13) (.c (.bool true)) (.t 18), none⟩,
  ⟨(some 20), .mv (.t 19), none⟩,
  ⟨(some 21), .fad 2 (.t 1), some (20, false)⟩,
  ⟨(some 22), .ld1 (.t 21), some (20, false)⟩,
  ⟨(some 23), .call (.c (.func (.func 45) [] [])) [(.t 22), (.c (.func (.func 116) [] []))], some (20, false)⟩,
  ⟨(some 24), .pick (.t 20) (.c (.bool true)) (.t 23), none⟩]) (
 .cond (.t 24) (
  .seq (
  .ops [
   ⟨(some 2), .mv (.c (.int .i64 80)), none⟩]) (
  .ret)) (
  .skip))) (
 .seq (
 .ops [
  ⟨(some 2), .mv (.c (.int .i64 0)), none⟩]) (
 .ret))), [.tmp 2]⟩
def x44 : XF := ⟨15, .seq (
 .ops [
  ⟨(some 6), .mv (.c (.bool false)), none⟩]) (
 .seq (
 .ops [
  ⟨(some 7), .mv (.t 0), none⟩,
  ⟨(some 8), .mv (.t 1), none⟩,
  ⟨(some 9), .bin .geq (.t 7) (.t 8), none⟩,
  ⟨(some 10), .mv (.t 9), none⟩,
  ⟨(some 11), .mv (.t 0), some (10, true)⟩,
  ⟨(some 12), .mv (.t 2), some (10, true)⟩,
  ⟨(some 13), .bin .leq (.t 11) (.t 12), some (10, true)⟩,
  ⟨(some 14), .pick (.t 10) (.t 13) (.c (.bool false)), none⟩,
  ⟨(some 6), .mv (.t 14), none⟩]) (
 .ret)), [.tmp 6]⟩
def x45 : XF := ⟨9, .seq (
 .ops [
  ⟨(some 4), .mv (.c (.bool false)), none⟩]) (
 .seq (
 .ops [
  ⟨(some 5), .mv (.t 0), none⟩,
  ⟨(some 6), .mv (.t 1), none⟩,
  ⟨(some 7), .call (.c (.func (.func 98) [] [])) [(.t 5), (.t 6)], none⟩,
  ⟨(some 8), .bin .geq (.t 7) (.c (.int .i64 0)), none⟩,
  ⟨(some 4), .mv (.t 8), none⟩]) (
 .ret)), [.tmp 4]⟩
def x116 : XF := ⟨6, .seq (
 .ops [
  ⟨(some 2), .mv (.c (.bool false)), none⟩]) (
 .seq (
 .ops [
  ⟨(some 3), .mv (.t 0), none⟩,
  ⟨(some 4), .call (.c (.func (.func 117) [] [])) [(.t 3)], none⟩,
  ⟨(some 5), .un .not (.t 4), none⟩,
  ⟨(some 2), .mv (.t 5), none⟩]) (
 .ret)), [.tmp 2]⟩
def x117 : XF := ⟨13, .seq (
 .ops [
  ⟨(some 2), .mv (.c (.bool false)), none⟩]) (
 .seq (
 .ops [
  ⟨(some 3), .mv (.t 0), none⟩,
  ⟨(some 4), .call (.c (.func (.func 47) [] [])) [(.t 3)], none⟩,
  ⟨(some 5), .mv (.t 4), none⟩,
  ⟨(some 6), .mv (.t 0), some (5, false)⟩,
  ⟨(some 7), .bin .eql (.t 6) (.c (.int .i64 40000)), some (5, false)⟩,
  ⟨(some 8), .pick (.t 5) (.c (.bool true)) (.t 7), none⟩,
  ⟨(some 9), .mv (.t 8), none⟩,
  ⟨(some 10), .mv (.t 0), some (9, false)⟩,
  ⟨(some 11), .bin .eql (.t 10) (.c (.int .i64 40001)), some (9, false)⟩,
  ⟨(some 12), .pick (.t 9) (.c (.bool true)) (.t 11), none⟩,
  ⟨(some 2), .mv (.t 12), none⟩]) (
 .ret)), [.tmp 2]⟩
def x47 : XF := ⟨5, .seq (
 .ops [
  ⟨(some 2), .mv (.c (.bool false)), none⟩]) (
 .seq (
 .ops [
  ⟨(some 3), .mv (.t 0), none⟩,
  ⟨(some 4), .call (.c (.func (.func 44) [] [])) [(.t 3), (.c (.int .i64 (-32767))), (.c (.int .i64 32767))], none⟩,
  ⟨(some 2), .mv (.t 4), none⟩]) (
 .ret)), [.tmp 2]⟩
def x69 : XF := ⟨8, .seq (
 .ops [
  ⟨(some 1), .box 48 (.t 0), none⟩,
  ⟨(some 2), .new 114 [(.int .i64 0), (.int .i64 0)], none⟩]) (
 .seq (
 .ops [
  ⟨(some 3), .fad 0 (.t 1), none⟩,
  ⟨(some 4), .ld1 (.t 3), none⟩,
  ⟨(some 5), .fad 1 (.t 1), none⟩,
  ⟨(some 6), .ld1 (.t 5), none⟩,
  ⟨(some 7), .build [(.int .i64 0), (.int .i64 0)] [(0, 1, (.t 4)), (1, 1, (.t 6))], none⟩,
  ⟨none, .st 2 (.t 2) (.t 7), none⟩]) (
 .ret)), [.cellN 2 2]⟩
def x98 : XF := ⟨19, .seq (
 .ops [
  ⟨(some 4), .mv (.c (.int .i64 0)), none⟩]) (
 .seq (
 .seq (
 .ops [
  ⟨(some 6), .mv (.t 0), none⟩,
  ⟨(some 7), .len .sl (.t 6), none⟩,
  ⟨(some 8), .mv (.c (.int .i64 0)), none⟩]) (
 .block 0 (
  .loop (
   .seq (
   .ops [
    ⟨(some 9), .bin .lss (.t 8) (.t 7), none⟩]) (
   .seq (
   .cond (.t 9) (
    .skip) (
    .exit 0)) (
   .seq (
   .block 1 (
    .seq (
    .ops [
     ⟨(some 10), .mv (.t 8), none⟩,
     ⟨(some 5), .mv (.t 10), none⟩]) (
    .seq (
    .ops [
     ⟨(some 11), .mv (.t 1), none⟩,
     ⟨(some 12), .mv (.t 0), none⟩,
     ⟨(some 13), .mv (.t 5), none⟩,
     ⟨(some 14), .iad none 1 (.t 12) (.t 13), none⟩,
     ⟨(some 15), .ld1 (.t 14), none⟩,
     ⟨(some 16), .call (.t 11) [(.t 15)], none⟩]) (
    .cond (.t 16) (
     .seq (
     .ops [
      ⟨(some 17), .mv (.t 5), none⟩,
      ⟨(some 4), .mv (.t 17), none⟩]) (
     .ret)) (
     .skip))))) (
   .ops [
    ⟨(some 18), .bin .add (.t 8) (.c (.int .i64 1)), none⟩,
    ⟨(some 8), .mv (.t 18), none⟩]))))))) (
 .seq (
 .ops [
  ⟨(some 4), .mv (.c (.int .i64 (-1))), none⟩]) (
 .ret))), [.tmp 4]⟩
def x99 : XF := ⟨19, .seq (
 .ops [
  ⟨(some 1), .box 48 (.t 0), none⟩,
  ⟨(some 2), .mv (.c (.int .i64 0)), none⟩]) (
 .seq (
 .seq (
 .ops [
  ⟨(some 3), .fad 0 (.t 1), none⟩,
  ⟨(some 4), .ld1 (.t 3), none⟩,
  ⟨(some 5), .call (.c (.func (.func 49) [] [])) [(.t 4), (.c (.int .i64 0)), (.c (.int .i64 60000))], none⟩,
  ⟨(some 6), .un .not (.t 5), none⟩,
  ⟨(some 7), .mv (.t 6), none⟩,
  ⟨(some 8), .fad 1 (.t 1), some (7, false)⟩,
  ⟨(some 9), .ld1 (.t 8), some (7, false)⟩,
  ⟨(some 10), .call (.c (.func (.func 49) [] [])) [(.t 9), (.c (.int .i64 0)), (.c (.int .i64 23))], some (7, false)⟩,
  ⟨(some 11), .un .not (.t 10), some (7, false)⟩,
  ⟨(some 12), .pick (.t 7) (.c (.bool true)) (.t 11), none⟩,
  ⟨(some 13), .mv (.t 12), none⟩,
  ⟨(some 14), .fad 2 (.t 1), some (13, false)⟩,
  ⟨(some 15), .ld1 (.t 14), some (13, false)⟩,
  ⟨(some 16), .call (.c (.func (.func 134) [] [])) [(.t 15)], some (13, false)⟩,
  ⟨(some 17), .un .not (.t 16), some (13, false)⟩,
  ⟨(some 18), .pick (.t 13) (.c (.bool true)) (.t 17), none⟩]) (
 .cond (.t 18) (
  .seq (
  .ops [
   ⟨(some 2), .mv (.c (.int .i64 80)), none⟩]) (
  .ret)) (
  .skip))) (
 .seq (
 .ops [
  ⟨(some 2), .mv (.c (.int .i64 0)), none⟩]) (
 .ret))), [.tmp 2]⟩
def x134 : XF := ⟨37, .seq (
 .ops [
  ⟨(some 2), .mv (.c (.bool false)), none⟩]) (
 .seq (
 .ops [
  ⟨(some 5), .mv (.t 0), none⟩,
  ⟨(some 6), .len .sl (.t 5), none⟩,
  ⟨(some 7), .call (.c (.func (.func 49) [] [])) [(.t 6), (.c (.int .i64 1)), (.c (.int .i64 64))], none⟩,
  ⟨(some 3), .mv (.t 7), none⟩]) (
 .seq (
 .seq (
 .ops [
  ⟨(some 4), .mv (.c (.int .i64 0)), none⟩]) (
 .block 0 (
  .loop (
   .seq (
   .seq (
   .ops [
    ⟨(some 8), .mv (.t 4), none⟩,
    ⟨(some 9), .mv (.t 0), none⟩,
    ⟨(some 10), .len .sl (.t 9), none⟩,
    ⟨(some 11), .bin .lss (.t 8) (.t 10), none⟩]) (
   .cond (.t 11) (
    .skip) (
    .exit 0))) (
   .seq (
   .block 1 (
    .ops [
     ⟨(some 14), .mv (.t 3), none⟩,
     ⟨(some 15), .mv (.t 14), none⟩,
     ⟨(some 16), .mv (.t 0), some (15, true)⟩,
     ⟨(some 17), .mv (.t 4), some (15, true)⟩,
     ⟨(some 18), .iad none 1 (.t 16) (.t 17), some (15, true)⟩,
     ⟨(some 19), .ld1 (.t 18), some (15, true)⟩,
     ⟨(some 20), .call (.c (.func (.func 50) [] [])) [(.t 19)], some (15, true)⟩,
     ⟨(some 21), .mv (.t 20), some (15, true)⟩,
     ⟨(some 22), .mv (.t 0), some (21, false)⟩,
     ⟨(some 23), .mv (.t 4), some (21, false)⟩,
     ⟨(some 24), .iad none 1 (.t 22) (.t 23), some (21, false)⟩,
     ⟨(some 25), .ld1 (.t 24), some (21, false)⟩,
     ⟨(some 26), .bin .eql (.t 25) (.c (.int .i64 40000)), some (21, false)⟩,
     ⟨(some 27), .pick (.t 21) (.c (.bool true)) (.t 26), some (15, true)⟩,
     ⟨(some 28), .mv (.t 27), some (15, true)⟩,
     ⟨(some 29), .mv (.t 0), some (28, false)⟩,
     ⟨(some 30), .mv (.t 4), some (28, false)⟩,
     ⟨(some 31), .iad none 1 (.t 29) (.t 30), some (28, false)⟩,
     ⟨(some 32), .ld1 (.t 31), some (28, false)⟩,
     ⟨(some 33), .bin .eql (.t 32) (.c (.int .i64 40001)), some (28, false)⟩,
     ⟨(some 34), .pick (.t 28) (.c (.bool true)) (.t 33), some (15, true)⟩,
     ⟨(some 35), .pick (.t 15) (.t 34) (.c (.bool false)), none⟩,
     ⟨(some 3), .mv (.t 35), none⟩])) (
   .ops [
    ⟨(some 12), .mv (.t 4), none⟩,
    ⟨(some 13), .bin .add (.t 12) (.c (.int .i64 1)), none⟩,
    ⟨(some 4), .mv (.t 13), none⟩])))))) (
 .seq (
 .ops [
  ⟨(some 36), .mv (.t 3), none⟩,
  ⟨(some 2), .mv (.t 36), none⟩]) (
 .ret)))), [.tmp 2]⟩
def x50 : XF := ⟨5, .seq (
 .ops [
  ⟨(some 2), .mv (.c (.bool false)), none⟩]) (
 .seq (
 .ops [
  ⟨(some 3), .mv (.t 0), none⟩,
  ⟨(some 4), .call (.c (.func (.func 49) [] [])) [(.t 3), (.c (.int .i64 (-32767))), (.c (.int .i64 32767))], none⟩,
  ⟨(some 2), .mv (.t 4), none⟩]) (
 .ret)), [.tmp 2]⟩
def x100 : XF := ⟨9, .seq (
 .ops [
  ⟨(some 1), .box 48 (.t 0), none⟩,
  ⟨(some 2), .mv (.c (.int .i64 0)), none⟩]) (
 .seq (
 .ops [
  ⟨(some 3), .fad 0 (.t 1), none⟩,
  ⟨(some 4), .ld1 (.t 3), none⟩,
  ⟨(some 5), .bin .mul (.c (.int .i64 24)) (.t 4), none⟩,
  ⟨(some 6), .fad 1 (.t 1), none⟩,
  ⟨(some 7), .ld1 (.t 6), none⟩,
  ⟨(some 8), .bin .add (.t 5) (.t 7), none⟩,
  ⟨(some 2), .mv (.t 8), none⟩]) (
 .ret)), [.tmp 2]⟩
def x101 : XF := ⟨15, .seq (
 .ops [
  ⟨(some 2), .box 48 (.t 0), none⟩,
  ⟨(some 4), .mv (.c (.int .i64 0)), none⟩]) (
 .seq (
 .seq (
 .ops [
  ⟨(some 5), .mv (.t 1), none⟩,
  ⟨(some 6), .fad 2 (.t 2), none⟩,
  ⟨(some 7), .ld1 (.t 6), none⟩,
  ⟨(some 8), .len .sl (.t 7), none⟩,
  ⟨(some 9), .bin .geq (.t 5) (.t 8), none⟩]) (
 .cond (.t 9) (
  .seq (
  .ops [
   ⟨(some 4), .mv (.c (.int .i64 40000)), none⟩]) (
  .ret)) (
  .skip))) (
 .seq (
 .ops [
  ⟨(some 10), .fad 2 (.t 2), none⟩,
  ⟨(some 11), .ld1 (.t 10), none⟩,
  ⟨(some 12), .mv (.t 1), none⟩,
  ⟨(some 13), .iad none 1 (.t 11) (.t 12), none⟩,
  ⟨(some 14), .ld1 (.t 13), none⟩,
  ⟨(some 4), .mv (.t 14), none⟩]) (
 .ret))), [.tmp 4]⟩
def x16 : XF := ⟨26, .seq (
 .ops [
  ⟨(some 4), .mv (.c (.bool false)), none⟩]) (
 .seq (
 .seq (
 .ops [
  ⟨(some 6), .mv (.t 0), none⟩,
  ⟨(some 7), .len .sl (.t 6), none⟩,
  ⟨(some 8), .mv (.t 1), none⟩,
  ⟨(some 9), .len .sl (.t 8), none⟩,
  ⟨(some 10), .bin .neq (.t 7) (.t 9), none⟩]) (
 .cond (.t 10) (
  .seq (
  .ops [
   ⟨(some 4), .mv (.c (.bool false)), none⟩]) (
  .ret)) (
  .skip))) (
 .seq (
 .seq (
 .ops [
  ⟨(some 5), .mv (.c (.int .i64 0)), none⟩]) (
 .block 0 (
  .loop (
   .seq (
   .seq (
   .ops [
    ⟨(some 11), .mv (.t 5), none⟩,
    ⟨(some 12), .mv (.t 0), none⟩,
    ⟨(some 13), .len .sl (.t 12), none⟩,
    ⟨(some 14), .bin .lss (.t 11) (.t 13), none⟩]) (
   .cond (.t 14) (
    .skip) (
    .exit 0))) (
   .seq (
   .block 1 (
    .seq (
    .draw [
     (⟨(some 17), .mv (.t 0), none⟩, .calm),
     (⟨(some 18), .mv (.t 5), none⟩, .calm),
     (⟨(some 19), .iad none 1 (.t 17) (.t 18), none⟩, .calm),
     (⟨(some 20), .ld1 (.t 19), none⟩, .reads 0 0),
     (⟨(some 21), .mv (.t 1), none⟩, .calm),
     (⟨(some 22), .mv (.t 5), none⟩, .calm),
     (⟨(some 23), .iad none 1 (.t 21) (.t 22), none⟩, .calm),
     (⟨(some 24), .ld1 (.t 23), none⟩, .reads 0 0),
     (⟨(some 25), .bin .neq (.t 20) (.t 24), none⟩, .calm)]) (
    .cond (.t 25) (
     .seq (
     .ops [
      ⟨(some 4), .mv (.c (.bool false)), none⟩]) (
     .ret)) (
     .skip)))) (
   .ops [
    ⟨(some 15), .mv (.t 5), none⟩,
    ⟨(some 16), .bin .add (.t 15) (.c (.int .i64 1)), none⟩,
    ⟨(some 5), .mv (.t 16), none⟩])))))) (
 .seq (
 .ops [
  ⟨(some 4), .mv (.c (.bool true)), none⟩]) (
 .ret)))), [.tmp 4]⟩
theorem k67 : cFn Tryz.prog 67 = some x67 := by kernel_rfl
theorem k44 : cFn Tryz.prog 44 = some x44 := by kernel_rfl
theorem k45 : cFn Tryz.prog 45 = some x45 := by kernel_rfl
theorem k116 : cFn Tryz.prog 116 = some x116 := by kernel_rfl
theorem k117 : cFn Tryz.prog 117 = some x117 := by kernel_rfl
theorem k47 : cFn Tryz.prog 47 = some x47 := by kernel_rfl
theorem k69 : cFn Tryz.prog 69 = some x69 := by kernel_rfl
theorem k98 : cFn Tryz.prog 98 = some x98 := by kernel_rfl
theorem k99 : cFn Tryz.prog 99 = some x99 := by kernel_rfl
theorem k134 : cFn Tryz.prog 134 = some x134 := by kernel_rfl
theorem k50 : cFn Tryz.prog 50 = some x50 := by kernel_rfl
theorem k100 : cFn Tryz.prog 100 = some x100 := by kernel_rfl
theorem k101 : cFn Tryz.prog 101 = some x101 := by kernel_rfl
theorem k16 : cFn Tryz.prog 16 = some x16 := by kernel_rfl
def x26 : XF := ⟨44, .seq (
 .ops [
  ⟨(some 1), .box 24 (.t 0), none⟩,
  ⟨(some 2), .mv (.c (.int .i64 0)), none⟩]) (
 .seq (
 .seq (
 .ops [
  ⟨(some 5), .fad 0 (.t 1), none⟩,
  ⟨(some 6), .ld1 (.t 5), none⟩,
  ⟨(some 7), .call (.c (.func (.func 66) [] [])) [(.t 6)], none⟩,
  ⟨(some 8), .un .not (.t 7), none⟩,
  ⟨(some 9), .mv (.t 8), none⟩,
  ⟨(some 10), .fad 1 (.t 1), some (9, false)⟩,
  ⟨(some 11), .ld1 (.t 10), some (9, false)⟩,
  ⟨(some 12), .len .sl (.t 11), some (9, false)⟩,
  ⟨(some 13), .bin .gtr (.t 12) (.c (.int .i64 128)), some (9, false)⟩,
  ⟨(some 14), .pick (.t 9) (.c (.bool true)) (.t 13), none⟩]) (
 .cond (.t 14) (
  .seq (
  .ops [
   ⟨(some 2), .mv (.c (.int .i64 81)), none⟩]) (
  .ret)) (
  .skip))) (
 .seq (
 .seq (
 .ops [
  ⟨(some 15), .fad 1 (.t 1), none⟩,
  ⟨(some 16), .ld1 (.t 15), none⟩,
  ⟨(some 17), .len .sl (.t 16), none⟩,
  ⟨(some 18), .mv (.c (.int .i64 0)), none⟩]) (
 .block 0 (
  .loop (
   .seq (
   .ops [
    ⟨(some 19), .bin .lss (.t 18) (.t 17), none⟩]) (
   .seq (
   .cond (.t 19) (
    .skip) (
    .exit 0)) (
   .seq (
   .block 1 (
    .seq (
    .ops [
     ⟨(some 20), .mv (.t 18), none⟩,
     ⟨(some 21), .iad none 3 (.t 16) (.t 18), none⟩,
     ⟨(some 22), .ldN 3 (.t 21), none⟩,
     ⟨(some 4), .new 48 [(.int .i64 0), (.int .i64 0), (.slice none 0 true 0)], none⟩,
     ⟨(some 3), .mv (.t 20), none⟩,
     ⟨none, .st 3 (.t 4) (.t 22), none⟩]) (
    .seq (
    .draw [
     (⟨(some 23), .ldN 3 (.t 4), none⟩, .reads 0 0),
     (⟨(some 24), .call (.c (.func (.func 67) [] [])) [(.t 23)], none⟩, .anchor),
     (⟨(some 25), .bin .neq (.t 24) (.c (.int .i64 0)), none⟩, .calm),
     (⟨(some 26), .mv (.t 25), none⟩, .calm),
     (⟨(some 27), .mv (.t 3), some (26, false)⟩, .calm),
     (⟨(some 28), .bin .gtr (.t 27) (.c (.int .i64 0)), some (26, false)⟩, .calm),
     (⟨(some 29), .mv (.t 28), some (26, false)⟩, .calm),
     (⟨(some 30), .fad 1 (.t 1), some (29, true)⟩, .calm),
     (⟨(some 31), .ld1 (.t 30), some (29, true)⟩, .reads 1 1),
     (⟨(some 32), .mv (.t 3), some (29, true)⟩, .calm),
     (⟨(some 33), .bin .sub (.t 32) (.c (.int .i64 1)), some (29, true)⟩, .calm),
     (⟨(some 34), .iad none 3 (.t 31) (.t 33), some (29, true)⟩, .calm),
     (⟨(some 35), .ldN 3 (.t 34), some (29, true)⟩, .reads 1 1),
     (⟨(some 36), .call (.c (.func (.func 69) [] [])) [(.t 35)], some (29, true)⟩, .anchor),
     (⟨(some 37), .ldN 3 (.t 4), some (29, true)⟩, .reads 1 2),
     (⟨(some 38), .call (.c (.func (.func 69) [] [])) [(.t 37)], some (29, true)⟩, .anchor),
     (⟨(some 39), .call (.c (.func (.func 68) [] [])) [(.t 36), (.t 38)], some (29, true)⟩, .anchor),
     (⟨(some 40), .bin .geq (.t 39) (.c (.int .i64 0)), some (29, true)⟩, .calm),
     (⟨(some 41), .pick (.t 29) (.t 40) (.c (.bool false)), some (26, false)⟩, .calm),
     (⟨(some 42), .pick (.t 26) (.c (.bool true)) (.t 41), none⟩, .calm)]) (
    .cond (.t 42) (
     .seq (
     .ops [
      ⟨(some 2), .mv (.c (.int .i64 81)), none⟩]) (
     .ret)) (
     .skip))))) (
   .ops [
    ⟨(some 43), .bin .add (.t 18) (.c (.int .i64 1)), none⟩,
    ⟨(some 18), .mv (.t 43), none⟩]))))))) (
 .seq (
 .ops [
  ⟨(some 2), .mv (.c (.int .i64 0)), none⟩]) (
 .ret)))), [.tmp 2]⟩
def x66 : XF := ⟨42, .seq (
 .ops [
  ⟨(some 2), .mv (.c (.bool false)), none⟩]) (
 .seq (
 .seq (
 .ops [
  ⟨(some 6), .mv (.t 0), none⟩,
  ⟨(some 7), .len .str (.t 6), none⟩,
  ⟨(some 8), .mv (.c (.int .i64 0)), none⟩]) (
 .block 0 (
  .loop (
   .seq (
   .ops [
    ⟨(some 9), .bin .lss (.t 8) (.t 7), none⟩]) (
   .seq (
   .cond (.t 9) (
    .skip) (
    .exit 0)) (
   .seq (
   .block 1 (
    .seq (
    .ops [
     ⟨(some 10), .mv (.t 8), none⟩,
     ⟨(some 3), .mv (.t 10), none⟩]) (
    .seq (
    .ops [
     ⟨(some 11), .mv (.t 0), none⟩,
     ⟨(some 12), .mv (.t 3), none⟩,
     ⟨(some 13), .idxS (.t 11) (.t 12), none⟩,
     ⟨(some 4), .mv (.t 13), none⟩]) (
    .seq (
    .ops [
     ⟨(some 14), .mv (.t 4), none⟩,
     ⟨(some 15), .bin .geq (.t 14) (.c (.int .u8 97)), none⟩,
     ⟨(some 16), .mv (.t 15), none⟩,
     ⟨(some 17), .mv (.t 4), some (16, true)⟩,
     ⟨(some 18), .bin .leq (.t 17) (.c (.int .u8 122)), some (16, true)⟩,
     ⟨(some 19), .pick (.t 16) (.t 18) (.c (.bool false)), none⟩,
     ⟨(some 5), .mv (.t 19), none⟩]) (
    .seq (
    .ops [
     ⟨(some 20), .mv (.t 5), none⟩,
     ⟨(some 21), .un .not (.t 20), none⟩,
     ⟨(some 22), .mv (.t 21), none⟩,
     ⟨(some 23), .mv (.t 3), some (22, true)⟩,
     ⟨(some 24), .bin .eql (.t 23) (.c (.int .i64 0)), some (22, true)⟩,
     ⟨(some 25), .mv (.t 24), some (22, true)⟩,
     ⟨(some 26), .mv (.t 4), some (25, false)⟩,
     ⟨(some 27), .bin .neq (.t 26) (.c (.int .u8 95)), some (25, false)⟩,
     ⟨(some 28), .mv (.t 27), some (25, false)⟩,
     ⟨(some 29), .mv (.t 4), some (28, true)⟩,
     ⟨(some 30), .bin .lss (.t 29) (.c (.int .u8 48)), some (28, true)⟩,
     ⟨(some 31), .mv (.t 30), some (28, true)⟩,
     ⟨(some 32), .mv (.t 4), some (31, false)⟩,
     ⟨(some 33), .bin .gtr (.t 32) (.c (.int .u8 57)), some (31, false)⟩,
     ⟨(some 34), .pick (.t 31) (.c (.bool true)) (.t 33), some (28, true)⟩,
     ⟨(some 35), .pick (.t 28) (.t 34) (.c (.bool false)), some (25, false)⟩,
     ⟨(some 36), .pick (.t 25) (.c (.bool true)) (.t 35), some (22, true)⟩,
     ⟨(some 37), .pick (.t 22) (.t 36) (.c (.bool false)), none⟩]) (
    .cond (.t 37) (
     .seq (
     .ops [
      ⟨(some 2), .mv (.c (.bool false)), none⟩]) (
     .ret)) (
     .skip))))))) (
   .ops [
    ⟨(some 38), .bin .add (.t 8) (.c (.int .i64 1)), none⟩,
    ⟨(some 8), .mv (.t 38), none⟩]))))))) (
 .seq (
 .ops [
  ⟨(some 39), .mv (.t 0), none⟩,
  ⟨(some 40), .len .str (.t 39), none⟩,
  ⟨(some 41), .call (.c (.func (.func 115) [] [])) [(.t 40), (.c (.int .i64 1)), (.c (.int .i64 16))], none⟩,
  ⟨(some 2), .mv (.t 41), none⟩]) (
 .ret))), [.tmp 2]⟩
def x68 : XF := ⟨8, .seq (
 .ops [
  ⟨(some 2), .box 114 (.t 0), none⟩,
  ⟨(some 3), .box 114 (.t 1), none⟩,
  ⟨(some 4), .mv (.c (.int .i64 0)), none⟩]) (
 .seq (
 .draw [
  (⟨(some 5), .slA 2 1 (.t 2) none none none, none⟩, .reads 0 0),
  (⟨(some 6), .slA 2 1 (.t 3) none none none, none⟩, .reads 0 0),
  (⟨(some 7), .call (.c (.func (.func 118) [] [])) [(.t 5), (.t 6)], none⟩, .anchor),
  (⟨(some 4), .mv (.t 7), none⟩, .calm)]) (
 .ret)), [.tmp 4]⟩
def x118 : XF := ⟨36, .seq (
 .ops [
  ⟨(some 4), .mv (.c (.int .i64 0)), none⟩]) (
 .seq (
 .seq (
 .ops [
  ⟨(some 9), .mv (.t 0), none⟩,
  ⟨(some 10), .len .sl (.t 9), none⟩,
  ⟨(some 11), .mv (.c (.int .i64 0)), none⟩]) (
 .block 0 (
  .loop (
   .seq (
   .ops [
    ⟨(some 12), .bin .lss (.t 11) (.t 10), none⟩]) (
   .seq (
   .cond (.t 12) (
    .skip) (
    .exit 0)) (
   .seq (
   .block 1 (
    .seq (
    .ops [
     ⟨(some 13), .mv (.t 11), none⟩,
     ⟨(some 14), .iad none 1 (.t 9) (.t 11), none⟩,
     ⟨(some 15), .ld1 (.t 14), none⟩,
     ⟨(some 5), .mv (.t 13), none⟩,
     ⟨(some 6), .mv (.t 15), none⟩]) (
    .seq (
    .seq (
    .ops [
     ⟨(some 16), .mv (.t 5), none⟩,
     ⟨(some 17), .mv (.t 1), none⟩,
     ⟨(some 18), .len .sl (.t 17), none⟩,
     ⟨(some 19), .bin .geq (.t 16) (.t 18), none⟩]) (
    .cond (.t 19) (
     .seq (
     .ops [
      ⟨(some 4), .mv (.c (.int .i64 1)), none⟩]) (
     .ret)) (
     .skip))) (
    .seq (
    .ops [
     ⟨(some 20), .mv (.t 1), none⟩,
     ⟨(some 21), .mv (.t 5), none⟩,
     ⟨(some 22), .iad none 1 (.t 20) (.t 21), none⟩,
     ⟨(some 23), .ld1 (.t 22), none⟩,
     ⟨(some 7), .mv (.t 23), none⟩]) (
    .seq (
    .ops [
     ⟨(some 24), .mv (.t 6), none⟩,
     ⟨(some 25), .mv (.t 7), none⟩,
     ⟨(some 26), .call (.c (.func (.func 146) [] [])) [(.t 24), (.t 25)], none⟩,
     ⟨(some 8), .mv (.t 26), none⟩]) (
    .seq (
    .ops [
     ⟨(some 27), .mv (.t 8), none⟩,
     ⟨(some 28), .bin .neq (.t 27) (.c (.int .i64 0)), none⟩]) (
    .cond (.t 28) (
     .seq (
     .ops [
      ⟨(some 29), .mv (.t 8), none⟩,
      ⟨(some 4), .mv (.t 29), none⟩]) (
     .ret)) (
     .skip)))))))) (
   .ops [
    ⟨(some 30), .bin .add (.t 11) (.c (.int .i64 1)), none⟩,
    ⟨(some 11), .mv (.t 30), none⟩]))))))) (
 .seq (
 .seq (
 .ops [
  ⟨(some 31), .mv (.t 0), none⟩,
  ⟨(some 32), .len .sl (.t 31), none⟩,
  ⟨(some 33), .mv (.t 1), none⟩,
  ⟨(some 34), .len .sl (.t 33), none⟩,
  ⟨(some 35), .bin .lss (.t 32) (.t 34), none⟩]) (
 .cond (.t 35) (
  .seq (
  .ops [
   ⟨(some 4), .mv (.c (.int .i64 (-1))), none⟩]) (
  .ret)) (
  .skip))) (
 .seq (
 .ops [
  ⟨(some 4), .mv (.c (.int .i64 0)), none⟩]) (
 .ret)))), [.tmp 4]⟩
def x146 : XF := ⟨20, .seq (
 .ops [
  ⟨(some 4), .mv (.c (.int .i64 0)), none⟩]) (
 .seq (
 .ops [
  ⟨(some 7), .mv (.t 0), none⟩,
  ⟨(some 8), .call (.c (.func (.func 171) [] [])) [(.t 7)], none⟩,
  ⟨(some 5), .mv (.t 8), none⟩]) (
 .seq (
 .ops [
  ⟨(some 9), .mv (.t 1), none⟩,
  ⟨(some 10), .call (.c (.func (.func 171) [] [])) [(.t 9)], none⟩,
  ⟨(some 6), .mv (.t 10), none⟩]) (
 .seq (
 .seq (
 .ops [
  ⟨(some 11), .mv (.t 5), none⟩]) (
 .cond (.t 11) (
  .seq (
  .seq (
  .ops [
   ⟨(some 12), .mv (.t 6), none⟩]) (
  .cond (.t 12) (
   .seq (
   .ops [
    ⟨(some 4), .mv (.c (.int .i64 0)), none⟩]) (
   .ret)) (
   .skip))) (
  .seq (
  .ops [
   ⟨(some 4), .mv (.c (.int .i64 (-1))), none⟩]) (
  .ret))) (
  .skip))) (
 .seq (
 .seq (
 .ops [
  ⟨(some 13), .mv (.t 6), none⟩]) (
 .cond (.t 13) (
  .seq (
  .ops [
   ⟨(some 4), .mv (.c (.int .i64 1)), none⟩]) (
  .ret)) (
  .skip))) (
 .seq (
 .seq (
 .ops [
  ⟨(some 14), .mv (.t 0), none⟩,
  ⟨(some 15), .mv (.t 1), none⟩,
  ⟨(some 16), .bin .lss (.t 14) (.t 15), none⟩]) (
 .cond (.t 16) (
  .seq (
  .ops [
   ⟨(some 4), .mv (.c (.int .i64 (-1))), none⟩]) (
  .ret)) (
  .skip))) (
 .seq (
 .seq (
 .ops [
  ⟨(some 17), .mv (.t 0), none⟩,
  ⟨(some 18), .mv (.t 1), none⟩,
  ⟨(some 19), .bin .gtr (.t 17) (.t 18), none⟩]) (
 .cond (.t 19) (
  .seq (
  .ops [
   ⟨(some 4), .mv (.c (.int .i64 1)), none⟩]) (
  .ret)) (
  .skip))) (
 .seq (
 .ops [
  ⟨(some 4), .mv (.c (.int .i64 0)), none⟩]) (
 .ret)))))))), [.tmp 4]⟩
def x48 : XF := ⟨48, .seq (
 .ops [
  ⟨(some 1), .box 24 (.t 0), none⟩,
  ⟨(some 2), .mv (.c (.int .i64 0)), none⟩]) (
 .seq (
 .seq (
 .ops [
  ⟨(some 4), .fad 0 (.t 1), none⟩,
  ⟨(some 5), .ld1 (.t 4), none⟩,
  ⟨(some 6), .call (.c (.func (.func 83) [] [])) [(.t 5)], none⟩,
  ⟨(some 7), .un .not (.t 6), none⟩,
  ⟨(some 8), .mv (.t 7), none⟩,
  ⟨(some 9), .fad 1 (.t 1), some (8, false)⟩,
  ⟨(some 10), .ld1 (.t 9), some (8, false)⟩,
  ⟨(some 11), .len .sl (.t 10), some (8, false)⟩,
  ⟨(some 12), .bin .gtr (.t 11) (.c (.int .i64 128)), some (8, false)⟩,
  ⟨(some 13), .pick (.t 8) (.c (.bool true)) (.t 12), none⟩]) (
 .cond (.t 13) (
  .seq (
  .ops [
   ⟨(some 2), .mv (.c (.int .i64 81)), none⟩]) (
  .ret)) (
  .skip))) (
 .seq (
 .seq (
 .ops [
  ⟨(some 3), .mv (.c (.int .i64 0)), none⟩]) (
 .block 0 (
  .loop (
   .seq (
   .seq (
   .ops [
    ⟨(some 14), .mv (.t 3), none⟩,
    ⟨(some 15), .fad 1 (.t 1), none⟩,
    ⟨(some 16), .ld1 (.t 15), none⟩,
    ⟨(some 17), .len .sl (.t 16), none⟩,
    ⟨(some 18), .bin .lss (.t 14) (.t 17), none⟩]) (
   .cond (.t 18) (
    .skip) (
    .exit 0))) (
   .seq (
   .block 1 (
    .seq (
    .draw [
     (⟨(some 21), .fad 1 (.t 1), none⟩, .calm),
     (⟨(some 22), .ld1 (.t 21), none⟩, .reads 0 0),
     (⟨(some 23), .mv (.t 3), none⟩, .calm),
     (⟨(some 24), .iad none 3 (.t 22) (.t 23), none⟩, .calm),
     (⟨(some 25), .ldN 3 (.t 24), none⟩, .reads 0 0),
     (⟨(some 26), .call (.c (.func (.func 99) [] [])) [(.t 25)], none⟩, .anchor),
     (⟨(some 27), .bin .neq (.t 26) (.c (.int .i64 0)), none⟩, .calm),
     (⟨(some 28), .mv (.t 27), none⟩, .calm),
     (⟨(some 29), .mv (.t 3), some (28, false)⟩, .calm),
     (⟨(some 30), .bin .gtr (.t 29) (.c (.int .i64 0)), some (28, false)⟩, .calm),
     (⟨(some 31), .mv (.t 30), some (28, false)⟩, .calm),
     (⟨(some 32), .fad 1 (.t 1), some (31, true)⟩, .calm),
     (⟨(some 33), .ld1 (.t 32), some (31, true)⟩, .reads 1 1),
     (⟨(some 34), .mv (.t 3), some (31, true)⟩, .calm),
     (⟨(some 35), .bin .sub (.t 34) (.c (.int .i64 1)), some (31, true)⟩, .calm),
     (⟨(some 36), .iad none 3 (.t 33) (.t 35), some (31, true)⟩, .calm),
     (⟨(some 37), .ldN 3 (.t 36), some (31, true)⟩, .reads 1 1),
     (⟨(some 38), .call (.c (.func (.func 100) [] [])) [(.t 37)], some (31, true)⟩, .anchor),
     (⟨(some 39), .fad 1 (.t 1), some (31, true)⟩, .calm),
     (⟨(some 40), .ld1 (.t 39), some (31, true)⟩, .reads 1 2),
     (⟨(some 41), .mv (.t 3), some (31, true)⟩, .calm),
     (⟨(some 42), .iad none 3 (.t 40) (.t 41), some (31, true)⟩, .calm),
     (⟨(some 43), .ldN 3 (.t 42), some (31, true)⟩, .reads 1 2),
     (⟨(some 44), .call (.c (.func (.func 100) [] [])) [(.t 43)], some (31, true)⟩, .anchor),
     (⟨(some 45), .bin .geq (.t 38) (.t 44), some (31, true)⟩, .calm),
     (⟨(some 46), .pick (.t 31) (.t 45) (.c (.bool false)), some (28, false)⟩, .calm),
     (⟨(some 47), .pick (.t 28) (.c (.bool true)) (.t 46), none⟩, .calm)]) (
    .cond (.t 47) (
     .seq (
     .ops [
      ⟨(some 2), .mv (.c (.int .i64 81)), none⟩]) (
     .ret)) (
     .skip)))) (
   .ops [
    ⟨(some 19), .mv (.t 3), none⟩,
    ⟨(some 20), .bin .add (.t 19) (.c (.int .i64 1)), none⟩,
    ⟨(some 3), .mv (.t 20), none⟩])))))) (
 .seq (
 .ops [
  ⟨(some 2), .mv (.c (.int .i64 0)), none⟩]) (
 .ret)))), [.tmp 2]⟩
def x83 : XF := ⟨50, .seq (
 .ops [
  ⟨(some 2), .mv (.c (.bool false)), none⟩]) (
 .seq (
 .seq (
 .ops [
  ⟨(some 5), .mv (.t 0), none⟩,
  ⟨(some 6), .len .str (.t 5), none⟩,
  ⟨(some 7), .bin .lss (.t 6) (.c (.int .i64 1)), none⟩,
  ⟨(some 8), .mv (.t 7), none⟩,
  ⟨(some 9), .mv (.t 0), some (8, false)⟩,
  ⟨(some 10), .len .str (.t 9), some (8, false)⟩,
  ⟨(some 11), .bin .gtr (.t 10) (.c (.int .i64 16)), some (8, false)⟩,
  ⟨(some 12), .pick (.t 8) (.c (.bool true)) (.t 11), none⟩,
  ⟨(some 13), .mv (.t 12), none⟩,
  ⟨(some 14), .mv (.t 0), some (13, false)⟩,
  ⟨(some 15), .idxS (.t 14) (.c (.int .i64 0)), some (13, false)⟩,
  ⟨(some 16), .bin .lss (.t 15) (.c (.int .u8 97)), some (13, false)⟩,
  ⟨(some 17), .pick (.t 13) (.c (.bool true)) (.t 16), none⟩,
  ⟨(some 18), .mv (.t 17), none⟩,
  ⟨(some 19), .mv (.t 0), some (18, false)⟩,
  ⟨(some 20), .idxS (.t 19) (.c (.int .i64 0)), some (18, false)⟩,
  ⟨(some 21), .bin .gtr (.t 20) (.c (.int .u8 122)), some (18, false)⟩,
  ⟨(some 22), .pick (.t 18) (.c (.bool true)) (.t 21), none⟩]) (
 .cond (.t 22) (
  .seq (
  .ops [
   ⟨(some 2), .mv (.c (.bool false)), none⟩]) (
  .ret)) (
  .skip))) (
 .seq (
 .seq (
 .ops [
  ⟨(some 3), .mv (.c (.int .i64 0)), none⟩]) (
 .block 0 (
  .loop (
   .seq (
   .seq (
   .ops [
    ⟨(some 23), .mv (.t 3), none⟩,
    ⟨(some 24), .mv (.t 0), none⟩,
    ⟨(some 25), .len .str (.t 24), none⟩,
    ⟨(some 26), .bin .lss (.t 23) (.t 25), none⟩]) (
   .cond (.t 26) (
    .skip) (
    .exit 0))) (
   .seq (
   .block 1 (
    .seq (
    .ops [
     ⟨(some 29), .mv (.t 0), none⟩,
     ⟨(some 30), .mv (.t 3), none⟩,
     ⟨(some 31), .idxS (.t 29) (.t 30), none⟩,
     ⟨(some 4), .mv (.t 31), none⟩]) (
    .seq (
    .ops [
     ⟨(some 32), .mv (.t 4), none⟩,
     ⟨(some 33), .bin .lss (.t 32) (.c (.int .u8 97)), none⟩,
     ⟨(some 34), .mv (.t 33), none⟩,
     ⟨(some 35), .mv (.t 4), some (34, false)⟩,
     ⟨(some 36), .bin .gtr (.t 35) (.c (.int .u8 122)), some (34, false)⟩,
     ⟨(some 37), .pick (.t 34) (.c (.bool true)) (.t 36), none⟩,
     ⟨(some 38), .mv (.t 37), none⟩,
     ⟨(some 39), .mv (.t 4), some (38, true)⟩,
     ⟨(some 40), .bin .lss (.t 39) (.c (.int .u8 48)), some (38, true)⟩,
     ⟨(some 41), .mv (.t 40), some (38, true)⟩,
     ⟨(some 42), .mv (.t 4), some (41, false)⟩,
     ⟨(some 43), .bin .gtr (.t 42) (.c (.int .u8 57)), some (41, false)⟩,
     ⟨(some 44), .pick (.t 41) (.c (.bool true)) (.t 43), some (38, true)⟩,
     ⟨(some 45), .pick (.t 38) (.t 44) (.c (.bool false)), none⟩,
     ⟨(some 46), .mv (.t 45), none⟩,
     ⟨(some 47), .mv (.t 4), some (46, true)⟩,
     ⟨(some 48), .bin .neq (.t 47) (.c (.int .u8 95)), some (46, true)⟩,
     ⟨(some 49), .pick (.t 46) (.t 48) (.c (.bool false)), none⟩]) (
    .cond (.t 49) (
     .seq (
     .ops [
      ⟨(some 2), .mv (.c (.bool false)), none⟩]) (
     .ret)) (
     .skip))))) (
   .ops [
    ⟨(some 27), .mv (.t 3), none⟩,
    ⟨(some 28), .bin .add (.t 27) (.c (.int .i64 1)), none⟩,
    ⟨(some 3), .mv (.t 28), none⟩])))))) (
 .seq (
 .ops [
  ⟨(some 2), .mv (.c (.bool true)), none⟩]) (
 .ret)))), [.tmp 2]⟩
def x171 : XF := ⟨6, .seq (
 .ops [
  ⟨(some 2), .mv (.c (.bool false)), none⟩]) (
 .seq (
 .ops [
  ⟨(some 3), .mv (.t 0), none⟩,
  ⟨(some 4), .mv (.t 0), none⟩,
  ⟨(some 5), .bin .neq (.t 3) (.t 4), none⟩,
  ⟨(some 2), .mv (.t 5), none⟩]) (
 .ret)), [.tmp 2]⟩
def x115 : XF := ⟨15, .seq (
 .ops [
  ⟨(some 6), .mv (.c (.bool false)), none⟩]) (
 .seq (
 .ops [
  ⟨(some 7), .mv (.t 0), none⟩,
  ⟨(some 8), .mv (.t 1), none⟩,
  ⟨(some 9), .bin .geq (.t 7) (.t 8), none⟩,
  ⟨(some 10), .mv (.t 9), none⟩,
  ⟨(some 11), .mv (.t 0), some (10, true)⟩,
  ⟨(some 12), .mv (.t 2), some (10, true)⟩,
  ⟨(some 13), .bin .leq (.t 11) (.t 12), some (10, true)⟩,
  ⟨(some 14), .pick (.t 10) (.t 13) (.c (.bool false)), none⟩,
  ⟨(some 6), .mv (.t 14), none⟩]) (
 .ret)), [.tmp 6]⟩
theorem k26 : cFn Tryz.prog 26 = some x26 := by kernel_rfl
theorem k66 : cFn Tryz.prog 66 = some x66 := by kernel_rfl
theorem k68 : cFn Tryz.prog 68 = some x68 := by kernel_rfl
theorem k118 : cFn Tryz.prog 118 = some x118 := by kernel_rfl
theorem k146 : cFn Tryz.prog 146 = some x146 := by kernel_rfl
theorem k48 : cFn Tryz.prog 48 = some x48 := by kernel_rfl
theorem k83 : cFn Tryz.prog 83 = some x83 := by kernel_rfl
theorem k171 : cFn Tryz.prog 171 = some x171 := by kernel_rfl
theorem k115 : cFn Tryz.prog 115 = some x115 := by kernel_rfl
def x3 : XF := ⟨55, .seq (
 .ops [
  ⟨(some 3), .box 24 (.t 0), none⟩,
  ⟨(some 5), .box 26 (.t 2), none⟩,
  ⟨(some 6), .mv (.c (.bool false)), none⟩]) (
 .seq (
 .ops [
  ⟨(some 12), .ldN 2 (.t 3), none⟩,
  ⟨(some 13), .mv (.t 1), none⟩,
  ⟨(some 14), .call (.c (.func (.func 14) [] [])) [(.t 12), (.t 13)], none⟩,
  ⟨(some 11), .mv (.t 14), none⟩,
  ⟨(some 15), .ext 0 (.t 11), none⟩,
  ⟨(some 16), .ext 1 (.t 11), none⟩,
  ⟨(some 7), .mv (.t 15), none⟩,
  ⟨(some 8), .mv (.t 16), none⟩]) (
 .seq (
 .ops [
  ⟨(some 18), .ldN 2 (.t 3), none⟩,
  ⟨(some 19), .mv (.t 1), none⟩,
  ⟨(some 20), .call (.c (.func (.func 15) [] [])) [(.t 18), (.t 19)], none⟩,
  ⟨(some 17), .mv (.t 20), none⟩,
  ⟨(some 21), .ext 0 (.t 17), none⟩,
  ⟨(some 22), .ext 1 (.t 17), none⟩,
  ⟨(some 9), .mv (.t 21), none⟩,
  ⟨(some 10), .mv (.t 22), none⟩]) (
 .seq (
 .seq (
 .ops [
  ⟨(some 23), .mv (.t 7), none⟩,
  ⟨(some 24), .mv (.t 9), none⟩,
  ⟨(some 25), .call (.c (.func (.func 16) [] [])) [(.t 23), (.t 24)], none⟩,
  ⟨(some 26), .un .not (.t 25), none⟩,
  ⟨(some 27), .mv (.t 26), none⟩,
  ⟨(some 28), .mv (.t 8), some (27, false)⟩,
  ⟨(some 29), .mv (.t 10), some (27, false)⟩,
  ⟨(some 30), .bin .neq (.t 28) (.t 29), some (27, false)⟩,
  ⟨(some 31), .pick (.t 27) (.c (.bool true)) (.t 30), none⟩]) (
 .cond (.t 31) (
  .seq (
  .ops [
   ⟨(some 6), .mv (.c (.bool false)), none⟩]) (
  .ret)) (
  .skip))) (
 .seq (
 .ops [
  ⟨(some 33), .ldN 2 (.t 3), none⟩,
  ⟨(some 34), .ldN 5 (.t 5), none⟩,
  ⟨(some 35), .call (.c (.func (.func 17) [] [])) [(.t 33), (.t 34)], none⟩,
  ⟨(some 32), .mv (.t 35), none⟩,
  ⟨(some 36), .ext 0 (.t 32), none⟩,
  ⟨(some 37), .ext 1 (.t 32), none⟩,
  ⟨(some 7), .mv (.t 36), none⟩,
  ⟨(some 8), .mv (.t 37), none⟩]) (
 .seq (
 .ops [
  ⟨(some 39), .ldN 2 (.t 3), none⟩,
  ⟨(some 40), .ldN 5 (.t 5), none⟩,
  ⟨(some 41), .call (.c (.func (.func 18) [] [])) [(.t 39), (.t 40)], none⟩,
  ⟨(some 38), .mv (.t 41), none⟩,
  ⟨(some 42), .ext 0 (.t 38), none⟩,
  ⟨(some 43), .ext 1 (.t 38), none⟩,
  ⟨(some 9), .mv (.t 42), none⟩,
  ⟨(some 10), .mv (.t 43), none⟩]) (
 .seq (
 .ops [
  ⟨(some 44), .mv (.t 7), none⟩,
  ⟨(some 45), .mv (.t 9), none⟩,
  ⟨(some 46), .call (.c (.func (.func 16) [] [])) [(.t 44), (.t 45)], none⟩,
  ⟨(some 47), .mv (.t 46), none⟩,
  ⟨(some 48), .mv (.t 8), some (47, true)⟩,
  ⟨(some 49), .mv (.t 10), some (47, true)⟩,
  ⟨(some 50), .bin .eql (.t 48) (.t 49), some (47, true)⟩,
  ⟨(some 51), .pick (.t 47) (.t 50) (.c (.bool false)), none⟩,
  ⟨(some 52), .mv (.t 51), none⟩,
  ⟨(some 53), .call (.c (.func (.func 19) [] [])) [], some (52, true)⟩,
  ⟨(some 54), .pick (.t 52) (.t 53) (.c (.bool false)), none⟩,
  ⟨(some 6), .mv (.t 54), none⟩]) (
 .ret))))))), [.tmp 6]⟩
def x14 : XF := ⟨67, .seq (
 .ops [
  ⟨(some 2), .box 24 (.t 0), none⟩,
  ⟨(some 3), .box 3 (.t 1), none⟩,
  ⟨(some 4), .mv (.c (.slice none 0 true 0)), none⟩,
  ⟨(some 5), .mv (.c (.int .i64 0)), none⟩]) (
 .seq (
 .seq (
 .ops [
  ⟨(some 15), .ldN 2 (.t 2), none⟩,
  ⟨(some 16), .call (.c (.func (.func 26) [] [])) [(.t 15)], none⟩,
  ⟨(some 6), .mv (.t 16), none⟩]) (
 .seq (
 .ops [
  ⟨(some 17), .mv (.t 6), none⟩,
  ⟨(some 18), .bin .neq (.t 17) (.c (.int .i64 0)), none⟩]) (
 .cond (.t 18) (
  .seq (
  .ops [
   ⟨(some 19), .mv (.t 6), none⟩,
   ⟨(some 4), .mv (.c (.slice none 0 true 0)), none⟩,
   ⟨(some 5), .mv (.t 19), none⟩]) (
  .ret)) (
  .skip)))) (
 .seq (
 .seq (
 .ops [
  ⟨(some 20), .ld1 (.t 3), none⟩,
  ⟨(some 21), .call (.c (.func (.func 44) [] [])) [(.t 20), (.c (.int .i64 0)), (.c (.int .i64 32767))], none⟩,
  ⟨(some 22), .un .not (.t 21), none⟩]) (
 .cond (.t 22) (
  .seq (
  .ops [
   ⟨(some 4), .mv (.c (.slice none 0 true 0)), none⟩,
   ⟨(some 5), .mv (.c (.int .i64 7)), none⟩]) (
  .ret)) (
  .skip))) (
 .seq (
 .ops [
  ⟨(some 23), .mkmap, none⟩,
  ⟨(some 7), .mv (.t 23), none⟩]) (
 .seq (
 .seq (
 .ops [
  ⟨(some 24), .fad 1 (.t 2), none⟩,
  ⟨(some 25), .ld1 (.t 24), none⟩,
  ⟨(some 26), .len .sl (.t 25), none⟩,
  ⟨(some 27), .mv (.c (.int .i64 0)), none⟩]) (
 .block 0 (
  .loop (
   .seq (
   .ops [
    ⟨(some 28), .bin .lss (.t 27) (.t 26), none⟩]) (
   .seq (
   .cond (.t 28) (
    .skip) (
    .exit 0)) (
   .seq (
   .block 1 (
    .seq (
    .ops [
     ⟨(some 29), .iad none 3 (.t 25) (.t 27), none⟩,
     ⟨(some 30), .ldN 3 (.t 29), none⟩,
     ⟨(some 9), .new 48 [(.int .i64 0), (.int .i64 0), (.slice none 0 true 0)], none⟩,
     ⟨none, .st 3 (.t 9) (.t 30), none⟩]) (
    .seq (
    .ops [
     ⟨(some 31), .fad 2 (.t 9), none⟩,
     ⟨(some 32), .ld1 (.t 31), none⟩,
     ⟨(some 33), .mkf 46 [] [(.t 3)], none⟩,
     ⟨(some 34), .call (.c (.func (.func 45) [] [])) [(.t 32), (.t 33)], none⟩,
     ⟨(some 10), .mv (.t 34), none⟩]) (
    .seq (
    .ops [
     ⟨(some 36), .mv (.t 7), none⟩,
     ⟨(some 37), .fad 1 (.t 9), none⟩,
     ⟨(some 38), .ld1 (.t 37), none⟩,
     ⟨(some 39), .lkp 3 (.bool false) true (.t 36) (.t 38), none⟩,
     ⟨(some 35), .mv (.t 39), none⟩,
     ⟨(some 40), .ext 0 (.t 35), none⟩,
     ⟨(some 41), .ext 1 (.t 35), none⟩,
     ⟨(some 11), .mv (.t 40), none⟩,
     ⟨(some 12), .mv (.t 41), none⟩]) (
    .ops [
     ⟨(some 42), .mv (.t 7), none⟩,
     ⟨(some 43), .fad 1 (.t 9), none⟩,
     ⟨(some 44), .ld1 (.t 43), none⟩,
     ⟨(some 45), .mv (.t 10), none⟩,
     ⟨(some 46), .un .not (.t 45), none⟩,
     ⟨(some 47), .mv (.t 46), none⟩,
     ⟨(some 48), .mv (.t 11), some (47, true)⟩,
     ⟨(some 49), .mv (.t 48), some (47, true)⟩,
     ⟨(some 50), .mv (.t 12), some (49, false)⟩,
     ⟨(some 51), .un .not (.t 50), some (49, false)⟩,
     ⟨(some 52), .pick (.t 49) (.c (.bool true)) (.t 51), some (47, true)⟩,
     ⟨(some 53), .pick (.t 47) (.t 52) (.c (.bool false)), none⟩,
     ⟨none, .mset 3 (.t 42) (.t 44) (.t 53), none⟩]))))) (
   .ops [
    ⟨(some 54), .bin .add (.t 27) (.c (.int .i64 1)), none⟩,
    ⟨(some 27), .mv (.t 54), none⟩]))))))) (
 .seq (
 .ops [
  ⟨(some 13), .mv (.c (.slice none 0 true 0)), none⟩]) (
 .seq (
 .seq (
 .ops [
  ⟨(some 55), .mv (.c (.int .i64 0)), none⟩]) (
 .block 2 (
  .loop (
   .seq (
   .ops [
    ⟨(some 56), .bin .lss (.t 55) (.c (.int .i64 24)), none⟩]) (
   .seq (
   .cond (.t 56) (
    .skip) (
    .exit 2)) (
   .seq (
   .block 3 (
    .seq (
    .ops [
     ⟨(some 57), .mv (.t 55), none⟩,
     ⟨(some 14), .mv (.t 57), none⟩]) (
    .seq (
    .ops [
     ⟨(some 58), .mv (.t 7), none⟩,
     ⟨(some 59), .mv (.t 14), none⟩,
     ⟨(some 60), .lkp 3 (.bool false) false (.t 58) (.t 59), none⟩]) (
    .cond (.t 60) (
     .ops [
      ⟨(some 61), .mv (.t 13), none⟩,
      ⟨(some 62), .mv (.t 14), none⟩,
      ⟨(some 63), .bsl 3 1 1 [(.int .i64 0)] [(0, 1, (.t 62))], none⟩,
      ⟨(some 64), .app 3 1 8 [(.int .i64 0)] (.t 61) (.t 63), none⟩,
      ⟨(some 13), .mv (.t 64), none⟩]) (
     .skip))))) (
   .ops [
    ⟨(some 65), .bin .add (.t 55) (.c (.int .i64 1)), none⟩,
    ⟨(some 55), .mv (.t 65), none⟩]))))))) (
 .seq (
 .ops [
  ⟨(some 66), .mv (.t 13), none⟩,
  ⟨(some 4), .mv (.t 66), none⟩,
  ⟨(some 5), .mv (.c (.int .i64 0)), none⟩]) (
 .ret)))))))), [.tmp 4, .tmp 5]⟩
def x15 : XF := ⟨82, .seq (
 .ops [
  ⟨(some 2), .box 24 (.t 0), none⟩,
  ⟨(some 4), .mv (.c (.slice none 0 true 0)), none⟩,
  ⟨(some 5), .mv (.c (.int .i64 0)), none⟩]) (
 .seq (
 .seq (
 .ops [
  ⟨(some 14), .ldN 2 (.t 2), none⟩,
  ⟨(some 15), .call (.c (.func (.func 48) [] [])) [(.t 14)], none⟩,
  ⟨(some 6), .mv (.t 15), none⟩]) (
 .seq (
 .ops [
  ⟨(some 16), .mv (.t 6), none⟩,
  ⟨(some 17), .bin .neq (.t 16) (.c (.int .i64 0)), none⟩]) (
 .cond (.t 17) (
  .seq (
  .ops [
   ⟨(some 18), .mv (.t 6), none⟩,
   ⟨(some 4), .mv (.c (.slice none 0 true 0)), none⟩,
   ⟨(some 5), .mv (.t 18), none⟩]) (
  .ret)) (
  .skip)))) (
 .seq (
 .seq (
 .ops [
  ⟨(some 19), .mv (.t 1), none⟩,
  ⟨(some 20), .call (.c (.func (.func 49) [] [])) [(.t 19), (.c (.int .i64 0)), (.c (.int .i64 32767))], none⟩,
  ⟨(some 21), .un .not (.t 20), none⟩]) (
 .cond (.t 21) (
  .seq (
  .ops [
   ⟨(some 4), .mv (.c (.slice none 0 true 0)), none⟩,
   ⟨(some 5), .mv (.c (.int .i64 7)), none⟩]) (
  .ret)) (
  .skip))) (
 .seq (
 .ops [
  ⟨(some 7), .mv (.c (.slice none 0 true 0)), none⟩]) (
 .seq (
 .seq (
 .ops [
  ⟨(some 8), .mv (.c (.int .i64 0)), none⟩]) (
 .block 0 (
  .loop (
   .seq (
   .seq (
   .ops [
    ⟨(some 22), .mv (.t 8), none⟩,
    ⟨(some 23), .bin .leq (.t 22) (.c (.int .i64 23)), none⟩]) (
   .cond (.t 23) (
    .skip) (
    .exit 0))) (
   .seq (
   .block 1 (
    .seq (
    .ops [
     ⟨(some 9), .mv (.c (.bool false)), none⟩,
     ⟨(some 10), .mv (.c (.bool false)), none⟩]) (
    .seq (
    .seq (
    .ops [
     ⟨(some 11), .mv (.c (.int .i64 0)), none⟩]) (
    .block 2 (
     .loop (
      .seq (
      .seq (
      .ops [
       ⟨(some 26), .mv (.t 11), none⟩,
       ⟨(some 27), .fad 1 (.t 2), none⟩,
       ⟨(some 28), .ld1 (.t 27), none⟩,
       ⟨(some 29), .len .sl (.t 28), none⟩,
       ⟨(some 30), .bin .lss (.t 26) (.t 29), none⟩]) (
      .cond (.t 30) (
       .skip) (
       .exit 2))) (
      .seq (
      .block 3 (
       .seq (
       .seq (
       .ops [
        ⟨(some 33), .fad 1 (.t 2), none⟩,
        ⟨(some 34), .ld1 (.t 33), none⟩,
        ⟨(some 35), .mv (.t 11), none⟩,
        ⟨(some 36), .iad none 3 (.t 34) (.t 35), none⟩,
        ⟨(some 37), .fad 1 (.t 36), none⟩,
        ⟨(some 38), .ld1 (.t 37), none⟩,
        ⟨(some 39), .mv (.t 8), none⟩,
        ⟨(some 40), .bin .neq (.t 38) (.t 39), none⟩]) (
       .cond (.t 40) (
        .exit 3) (
        .skip))) (
       .seq (
       .ops [
        ⟨(some 9), .mv (.c (.bool true)), none⟩]) (
       .seq (
       .ops [
        ⟨(some 12), .mv (.c (.int .i64 0)), none⟩]) (
       .block 4 (
        .loop (
         .seq (
         .seq (
         .ops [
          ⟨(some 41), .mv (.t 12), none⟩,
          ⟨(some 42), .fad 1 (.t 2), none⟩,
          ⟨(some 43), .ld1 (.t 42), none⟩,
          ⟨(some 44), .mv (.t 11), none⟩,
          ⟨(some 45), .iad none 3 (.t 43) (.t 44), none⟩,
          ⟨(some 46), .fad 2 (.t 45), none⟩,
          ⟨(some 47), .ld1 (.t 46), none⟩,
          ⟨(some 48), .len .sl (.t 47), none⟩,
          ⟨(some 49), .bin .lss (.t 41) (.t 48), none⟩]) (
         .cond (.t 49) (
          .skip) (
          .exit 4))) (
         .seq (
         .block 5 (
          .seq (
          .ops [
           ⟨(some 52), .fad 1 (.t 2), none⟩,
           ⟨(some 53), .ld1 (.t 52), none⟩,
           ⟨(some 54), .mv (.t 11), none⟩,
           ⟨(some 55), .iad none 3 (.t 53) (.t 54), none⟩,
           ⟨(some 56), .fad 2 (.t 55), none⟩,
           ⟨(some 57), .ld1 (.t 56), none⟩,
           ⟨(some 58), .mv (.t 12), none⟩,
           ⟨(some 59), .iad none 1 (.t 57) (.t 58), none⟩,
           ⟨(some 60), .ld1 (.t 59), none⟩,
           ⟨(some 13), .mv (.t 60), none⟩]) (
          .ops [
           ⟨(some 61), .mv (.t 10), none⟩,
           ⟨(some 62), .mv (.t 61), none⟩,
           ⟨(some 63), .mv (.t 13), some (62, false)⟩,
           ⟨(some 64), .call (.c (.func (.func 50) [] [])) [(.t 63)], some (62, false)⟩,
           ⟨(some 65), .mv (.t 64), some (62, false)⟩,
           ⟨(some 66), .mv (.t 13), some (65, true)⟩,
           ⟨(some 67), .call (.c (.func (.func 51) [] [])) [(.t 66)], some (65, true)⟩,
           ⟨(some 68), .mv (.t 1), some (65, true)⟩,
           ⟨(some 69), .bin .gtr (.t 67) (.t 68), some (65, true)⟩,
           ⟨(some 70), .pick (.t 65) (.t 69) (.c (.bool false)), some (62, false)⟩,
           ⟨(some 71), .pick (.t 62) (.c (.bool true)) (.t 70), none⟩,
           ⟨(some 10), .mv (.t 71), none⟩]))) (
         .ops [
          ⟨(some 50), .mv (.t 12), none⟩,
          ⟨(some 51), .bin .add (.t 50) (.c (.int .i64 1)), none⟩,
          ⟨(some 12), .mv (.t 51), none⟩]))))))))) (
      .ops [
       ⟨(some 31), .mv (.t 11), none⟩,
       ⟨(some 32), .bin .add (.t 31) (.c (.int .i64 1)), none⟩,
       ⟨(some 11), .mv (.t 32), none⟩])))))) (
    .seq (
    .ops [
     ⟨(some 72), .mv (.t 9), none⟩,
     ⟨(some 73), .mv (.t 72), none⟩,
     ⟨(some 74), .mv (.t 10), some (73, true)⟩,
     ⟨(some 75), .un .not (.t 74), some (73, true)⟩,
     ⟨(some 76), .pick (.t 73) (.t 75) (.c (.bool false)), none⟩]) (
    .cond (.t 76) (
     .ops [
      ⟨(some 77), .mv (.t 7), none⟩,
      ⟨(some 78), .mv (.t 8), none⟩,
      ⟨(some 79), .bsl 3 1 1 [(.int .i64 0)] [(0, 1, (.t 78))], none⟩,
      ⟨(some 80), .app 3 1 8 [(.int .i64 0)] (.t 77) (.t 79), none⟩,
      ⟨(some 7), .mv (.t 80), none⟩]) (
     .skip)))))) (
   .ops [
    ⟨(some 24), .mv (.t 8), none⟩,
    ⟨(some 25), .bin .add (.t 24) (.c (.int .i64 1)), none⟩,
    ⟨(some 8), .mv (.t 25), none⟩])))))) (
 .seq (
 .ops [
  ⟨(some 81), .mv (.t 7), none⟩,
  ⟨(some 4), .mv (.t 81), none⟩,
  ⟨(some 5), .mv (.c (.int .i64 0)), none⟩]) (
 .ret)))))), [.tmp 4, .tmp 5]⟩
def x17 : XF := ⟨113, .seq (
 .ops [
  ⟨(some 2), .box 24 (.t 0), none⟩,
  ⟨(some 3), .box 26 (.t 1), none⟩,
  ⟨(some 4), .mv (.c (.slice none 0 true 0)), none⟩,
  ⟨(some 5), .mv (.c (.int .i64 0)), none⟩]) (
 .seq (
 .seq (
 .ops [
  ⟨(some 12), .ldN 2 (.t 2), none⟩,
  ⟨(some 13), .call (.c (.func (.func 26) [] [])) [(.t 12)], none⟩,
  ⟨(some 6), .mv (.t 13), none⟩]) (
 .seq (
 .ops [
  ⟨(some 14), .mv (.t 6), none⟩,
  ⟨(some 15), .bin .neq (.t 14) (.c (.int .i64 0)), none⟩]) (
 .cond (.t 15) (
  .seq (
  .ops [
   ⟨(some 16), .mv (.t 6), none⟩,
   ⟨(some 4), .mv (.c (.slice none 0 true 0)), none⟩,
   ⟨(some 5), .mv (.t 16), none⟩]) (
  .ret)) (
  .skip)))) (
 .seq (
 .seq (
 .ops [
  ⟨(some 17), .fad 0 (.t 3), none⟩,
  ⟨(some 18), .ld1 (.t 17), none⟩,
  ⟨(some 19), .fad 1 (.t 3), none⟩,
  ⟨(some 20), .ld1 (.t 19), none⟩,
  ⟨(some 21), .call (.c (.func (.func 44) [] [])) [(.t 18), (.c (.int .i64 0)), (.t 20)], none⟩,
  ⟨(some 22), .un .not (.t 21), none⟩,
  ⟨(some 23), .mv (.t 22), none⟩,
  ⟨(some 24), .fad 1 (.t 3), some (23, false)⟩,
  ⟨(some 25), .ld1 (.t 24), some (23, false)⟩,
  ⟨(some 26), .call (.c (.func (.func 44) [] [])) [(.t 25), (.c (.int .i64 0)), (.c (.int .i64 60000))], some (23, false)⟩,
  ⟨(some 27), .un .not (.t 26), some (23, false)⟩,
  ⟨(some 28), .pick (.t 23) (.c (.bool true)) (.t 27), none⟩,
  ⟨(some 29), .mv (.t 28), none⟩,
  ⟨(some 30), .fad 1 (.t 3), some (29, false)⟩,
  ⟨(some 31), .ld1 (.t 30), some (29, false)⟩,
  ⟨(some 32), .fad 0 (.t 3), some (29, false)⟩,
  ⟨(some 33), .ld1 (.t 32), some (29, false)⟩,
  ⟨(some 34), .bin .sub (.t 31) (.t 33), some (29, false)⟩,
  ⟨(some 35), .bin .geq (.t 34) (.c (.int .i64 1000)), some (29, false)⟩,
  ⟨(some 36), .pick (.t 29) (.c (.bool true)) (.t 35), none⟩,
  ⟨(some 37), .mv (.t 36), none⟩,
  ⟨(some 38), .fad 2 (.t 3), some (37, false)⟩,
  ⟨(some 39), .ld1 (.t 38), some (37, false)⟩,
  ⟨(some 40), .call (.c (.func (.func 44) [] [])) [(.t 39), (.c (.int .i64 1)), (.c (.int .i64 24))], some (37, false)⟩,
  ⟨(some 41), .un .not (.t 40), some (37, false)⟩,
  ⟨(some 42), .pick (.t 37) (.c (.bool true)) (.t 41), none⟩,
  ⟨(some 43), .mv (.t 42), none⟩,
  ⟨(some 44), .fad 3 (.t 3), some (43, false)⟩,
  ⟨(some 45), .ld1 (.t 44), some (43, false)⟩,
  ⟨(some 46), .call (.c (.func (.func 44) [] [])) [(.t 45), (.c (.int .i64 1)), (.c (.int .i64 64))], some (43, false)⟩,
  ⟨(some 47), .un .not (.t 46), some (43, false)⟩,
  ⟨(some 48), .pick (.t 43) (.c (.bool true)) (.t 47), none⟩,
  ⟨(some 49), .mv (.t 48), none⟩,
  ⟨(some 50), .fad 4 (.t 3), some (49, false)⟩,
  ⟨(some 51), .ld1 (.t 50), some (49, false)⟩,
  ⟨(some 52), .call (.c (.func (.func 44) [] [])) [(.t 51), (.c (.int .i64 0)), (.c (.int .i64 24))], some (49, false)⟩,
  ⟨(some 53), .un .not (.t 52), some (49, false)⟩,
  ⟨(some 54), .pick (.t 49) (.c (.bool true)) (.t 53), none⟩]) (
 .cond (.t 54) (
  .seq (
  .ops [
   ⟨(some 4), .mv (.c (.slice none 0 true 0)), none⟩,
   ⟨(some 5), .mv (.c (.int .i64 84)), none⟩]) (
  .ret)) (
  .skip))) (
 .seq (
 .ops [
  ⟨(some 55), .mkmap, none⟩,
  ⟨(some 7), .mv (.t 55), none⟩]) (
 .seq (
 .seq (
 .ops [
  ⟨(some 56), .fad 1 (.t 2), none⟩,
  ⟨(some 57), .ld1 (.t 56), none⟩,
  ⟨(some 58), .len .sl (.t 57), none⟩,
  ⟨(some 59), .mv (.c (.int .i64 0)), none⟩]) (
 .block 0 (
  .loop (
   .seq (
   .ops [
    ⟨(some 60), .bin .lss (.t 59) (.t 58), none⟩]) (
   .seq (
   .cond (.t 60) (
    .skip) (
    .exit 0)) (
   .seq (
   .block 1 (
    .seq (
    .ops [
     ⟨(some 61), .iad none 3 (.t 57) (.t 59), none⟩,
     ⟨(some 62), .ldN 3 (.t 61), none⟩,
     ⟨(some 9), .new 48 [(.int .i64 0), (.int .i64 0), (.slice none 0 true 0)], none⟩,
     ⟨none, .st 3 (.t 9) (.t 62), none⟩]) (
    .seq (
    .ops [
     ⟨(some 63), .fad 1 (.t 9), none⟩,
     ⟨(some 64), .ld1 (.t 63), none⟩,
     ⟨(some 65), .fad 2 (.t 3), none⟩,
     ⟨(some 66), .ld1 (.t 65), none⟩,
     ⟨(some 67), .bin .lss (.t 64) (.t 66), none⟩,
     ⟨(some 68), .mv (.t 67), none⟩,
     ⟨(some 69), .fad 2 (.t 9), some (68, true)⟩,
     ⟨(some 70), .ld1 (.t 69), some (68, true)⟩,
     ⟨(some 71), .len .sl (.t 70), some (68, true)⟩,
     ⟨(some 72), .fad 3 (.t 3), some (68, true)⟩,
     ⟨(some 73), .ld1 (.t 72), some (68, true)⟩,
     ⟨(some 74), .bin .geq (.t 71) (.t 73), some (68, true)⟩,
     ⟨(some 75), .pick (.t 68) (.t 74) (.c (.bool false)), none⟩,
     ⟨(some 76), .mv (.t 75), none⟩,
     ⟨(some 77), .fad 2 (.t 9), some (76, true)⟩,
     ⟨(some 78), .ld1 (.t 77), some (76, true)⟩,
     ⟨(some 79), .fad 3 (.t 3), some (76, true)⟩,
     ⟨(some 80), .ld1 (.t 79), some (76, true)⟩,
     ⟨(some 81), .slc 1 (.t 78) none (some (.t 80)) none, some (76, true)⟩,
     ⟨(some 82), .call (.c (.func (.func 45) [] [])) [(.t 81), (.c (.func (.func 52) [] []))], some (76, true)⟩,
     ⟨(some 83), .un .not (.t 82), some (76, true)⟩,
     ⟨(some 84), .pick (.t 76) (.t 83) (.c (.bool false)), none⟩]) (
    .cond (.t 84) (
     .ops [
      ⟨(some 85), .mv (.t 7), none⟩,
      ⟨(some 86), .fad 0 (.t 9), none⟩,
      ⟨(some 87), .ld1 (.t 86), none⟩,
      ⟨(some 88), .lkp 3 (.int .i64 0) false (.t 85) (.t 87), none⟩,
      ⟨(some 89), .bin .add (.t 88) (.c (.int .i64 1)), none⟩,
      ⟨none, .mset 3 (.t 85) (.t 87) (.t 89), none⟩]) (
     .skip))))) (
   .ops [
    ⟨(some 90), .bin .add (.t 59) (.c (.int .i64 1)), none⟩,
    ⟨(some 59), .mv (.t 90), none⟩]))))))) (
 .seq (
 .ops [
  ⟨(some 10), .mv (.c (.slice none 0 true 0)), none⟩]) (
 .seq (
 .seq (
 .ops [
  ⟨(some 91), .fad 0 (.t 3), none⟩,
  ⟨(some 92), .ld1 (.t 91), none⟩,
  ⟨(some 11), .mv (.t 92), none⟩]) (
 .block 2 (
  .loop (
   .seq (
   .seq (
   .ops [
    ⟨(some 93), .mv (.t 11), none⟩,
    ⟨(some 94), .fad 1 (.t 3), none⟩,
    ⟨(some 95), .ld1 (.t 94), none⟩,
    ⟨(some 96), .bin .leq (.t 93) (.t 95), none⟩]) (
   .cond (.t 96) (
    .skip) (
    .exit 2))) (
   .seq (
   .block 3 (
    .seq (
    .ops [
     ⟨(some 99), .fad 2 (.t 3), none⟩,
     ⟨(some 100), .ld1 (.t 99), none⟩,
     ⟨(some 101), .mv (.t 7), none⟩,
     ⟨(some 102), .mv (.t 11), none⟩,
     ⟨(some 103), .lkp 3 (.int .i64 0) false (.t 101) (.t 102), none⟩,
     ⟨(some 104), .bin .sub (.t 100) (.t 103), none⟩,
     ⟨(some 105), .fad 4 (.t 3), none⟩,
     ⟨(some 106), .ld1 (.t 105), none⟩,
     ⟨(some 107), .bin .gtr (.t 104) (.t 106), none⟩]) (
    .cond (.t 107) (
     .ops [
      ⟨(some 108), .mv (.t 10), none⟩,
      ⟨(some 109), .mv (.t 11), none⟩,
      ⟨(some 110), .bsl 3 1 1 [(.int .i64 0)] [(0, 1, (.t 109))], none⟩,
      ⟨(some 111), .app 3 1 8 [(.int .i64 0)] (.t 108) (.t 110), none⟩,
      ⟨(some 10), .mv (.t 111), none⟩]) (
     .skip)))) (
   .ops [
    ⟨(some 97), .mv (.t 11), none⟩,
    ⟨(some 98), .bin .add (.t 97) (.c (.int .i64 1)), none⟩,
    ⟨(some 11), .mv (.t 98), none⟩])))))) (
 .seq (
 .ops [
  ⟨(some 112), .mv (.t 10), none⟩,
  ⟨(some 4), .mv (.t 112), none⟩,
  ⟨(some 5), .mv (.c (.int .i64 0)), none⟩]) (
 .ret)))))))), [.tmp 4, .tmp 5]⟩
def x18 : XF := ⟨89, .seq (
 .ops [
  ⟨(some 2), .box 24 (.t 0), none⟩,
  ⟨(some 3), .box 26 (.t 1), none⟩,
  ⟨(some 4), .mv (.c (.slice none 0 true 0)), none⟩,
  ⟨(some 5), .mv (.c (.int .i64 0)), none⟩]) (
 .seq (
 .seq (
 .ops [
  ⟨(some 11), .ldN 2 (.t 2), none⟩,
  ⟨(some 12), .call (.c (.func (.func 48) [] [])) [(.t 11)], none⟩,
  ⟨(some 6), .mv (.t 12), none⟩]) (
 .seq (
 .ops [
  ⟨(some 13), .mv (.t 6), none⟩,
  ⟨(some 14), .bin .neq (.t 13) (.c (.int .i64 0)), none⟩]) (
 .cond (.t 14) (
  .seq (
  .ops [
   ⟨(some 15), .mv (.t 6), none⟩,
   ⟨(some 4), .mv (.c (.slice none 0 true 0)), none⟩,
   ⟨(some 5), .mv (.t 15), none⟩]) (
  .ret)) (
  .skip)))) (
 .seq (
 .seq (
 .ops [
  ⟨(some 16), .fad 0 (.t 3), none⟩,
  ⟨(some 17), .ld1 (.t 16), none⟩,
  ⟨(some 18), .bin .lss (.t 17) (.c (.int .i64 0)), none⟩,
  ⟨(some 19), .mv (.t 18), none⟩,
  ⟨(some 20), .fad 0 (.t 3), some (19, false)⟩,
  ⟨(some 21), .ld1 (.t 20), some (19, false)⟩,
  ⟨(some 22), .fad 1 (.t 3), some (19, false)⟩,
  ⟨(some 23), .ld1 (.t 22), some (19, false)⟩,
  ⟨(some 24), .bin .gtr (.t 21) (.t 23), some (19, false)⟩,
  ⟨(some 25), .pick (.t 19) (.c (.bool true)) (.t 24), none⟩,
  ⟨(some 26), .mv (.t 25), none⟩,
  ⟨(some 27), .fad 1 (.t 3), some (26, false)⟩,
  ⟨(some 28), .ld1 (.t 27), some (26, false)⟩,
  ⟨(some 29), .bin .gtr (.t 28) (.c (.int .i64 60000)), some (26, false)⟩,
  ⟨(some 30), .pick (.t 26) (.c (.bool true)) (.t 29), none⟩,
  ⟨(some 31), .mv (.t 30), none⟩,
  ⟨(some 32), .fad 1 (.t 3), some (31, false)⟩,
  ⟨(some 33), .ld1 (.t 32), some (31, false)⟩,
  ⟨(some 34), .fad 0 (.t 3), some (31, false)⟩,
  ⟨(some 35), .ld1 (.t 34), some (31, false)⟩,
  ⟨(some 36), .bin .sub (.t 33) (.t 35), some (31, false)⟩,
  ⟨(some 37), .bin .geq (.t 36) (.c (.int .i64 1000)), some (31, false)⟩,
  ⟨(some 38), .pick (.t 31) (.c (.bool true)) (.t 37), none⟩,
  ⟨(some 39), .mv (.t 38), none⟩,
  ⟨(some 40), .fad 2 (.t 3), some (39, false)⟩,
  ⟨(some 41), .ld1 (.t 40), some (39, false)⟩,
  ⟨(some 42), .call (.c (.func (.func 49) [] [])) [(.t 41), (.c (.int .i64 1)), (.c (.int .i64 24))], some (39, false)⟩,
  ⟨(some 43), .un .not (.t 42), some (39, false)⟩,
  ⟨(some 44), .pick (.t 39) (.c (.bool true)) (.t 43), none⟩,
  ⟨(some 45), .mv (.t 44), none⟩,
  ⟨(some 46), .fad 3 (.t 3), some (45, false)⟩,
  ⟨(some 47), .ld1 (.t 46), some (45, false)⟩,
  ⟨(some 48), .call (.c (.func (.func 49) [] [])) [(.t 47), (.c (.int .i64 1)), (.c (.int .i64 64))], some (45, false)⟩,
  ⟨(some 49), .un .not (.t 48), some (45, false)⟩,
  ⟨(some 50), .pick (.t 45) (.c (.bool true)) (.t 49), none⟩,
  ⟨(some 51), .mv (.t 50), none⟩,
  ⟨(some 52), .fad 4 (.t 3), some (51, false)⟩,
  ⟨(some 53), .ld1 (.t 52), some (51, false)⟩,
  ⟨(some 54), .call (.c (.func (.func 49) [] [])) [(.t 53), (.c (.int .i64 0)), (.c (.int .i64 24))], some (51, false)⟩,
  ⟨(some 55), .un .not (.t 54), some (51, false)⟩,
  ⟨(some 56), .pick (.t 51) (.c (.bool true)) (.t 55), none⟩]) (
 .cond (.t 56) (
  .seq (
  .ops [
   ⟨(some 4), .mv (.c (.slice none 0 true 0)), none⟩,
   ⟨(some 5), .mv (.c (.int .i64 84)), none⟩]) (
  .ret)) (
  .skip))) (
 .seq (
 .ops [
  ⟨(some 7), .mv (.c (.slice none 0 true 0)), none⟩]) (
 .seq (
 .seq (
 .ops [
  ⟨(some 57), .fad 0 (.t 3), none⟩,
  ⟨(some 58), .ld1 (.t 57), none⟩,
  ⟨(some 8), .mv (.t 58), none⟩]) (
 .block 0 (
  .loop (
   .seq (
   .seq (
   .ops [
    ⟨(some 59), .mv (.t 8), none⟩,
    ⟨(some 60), .fad 1 (.t 3), none⟩,
    ⟨(some 61), .ld1 (.t 60), none⟩,
    ⟨(some 62), .bin .leq (.t 59) (.t 61), none⟩]) (
   .cond (.t 62) (
    .skip) (
    .exit 0))) (
   .seq (
   .block 1 (
    .seq (
    .ops [
     ⟨(some 9), .mv (.c (.int .i64 0)), none⟩]) (
    .seq (
    .seq (
    .ops [
     ⟨(some 10), .mv (.c (.int .i64 0)), none⟩]) (
    .block 2 (
     .loop (
      .seq (
      .seq (
      .ops [
       ⟨(some 65), .mv (.t 10), none⟩,
       ⟨(some 66), .fad 2 (.t 3), none⟩,
       ⟨(some 67), .ld1 (.t 66), none⟩,
       ⟨(some 68), .bin .lss (.t 65) (.t 67), none⟩]) (
      .cond (.t 68) (
       .skip) (
       .exit 2))) (
      .seq (
      .block 3 (
       .seq (
       .ops [
        ⟨(some 71), .ldN 2 (.t 2), none⟩,
        ⟨(some 72), .mv (.t 8), none⟩,
        ⟨(some 73), .mv (.t 10), none⟩,
        ⟨(some 74), .fad 3 (.t 3), none⟩,
        ⟨(some 75), .ld1 (.t 74), none⟩,
        ⟨(some 76), .call (.c (.func (.func 53) [] [])) [(.t 71), (.t 72), (.t 73), (.t 75)], none⟩,
        ⟨(some 77), .un .not (.t 76), none⟩]) (
       .cond (.t 77) (
        .ops [
         ⟨(some 78), .mv (.t 9), none⟩,
         ⟨(some 79), .bin .add (.t 78) (.c (.int .i64 1)), none⟩,
         ⟨(some 9), .mv (.t 79), none⟩]) (
        .skip)))) (
      .ops [
       ⟨(some 69), .mv (.t 10), none⟩,
       ⟨(some 70), .bin .add (.t 69) (.c (.int .i64 1)), none⟩,
       ⟨(some 10), .mv (.t 70), none⟩])))))) (
    .seq (
    .ops [
     ⟨(some 80), .mv (.t 9), none⟩,
     ⟨(some 81), .fad 4 (.t 3), none⟩,
     ⟨(some 82), .ld1 (.t 81), none⟩,
     ⟨(some 83), .bin .gtr (.t 80) (.t 82), none⟩]) (
    .cond (.t 83) (
     .ops [
      ⟨(some 84), .mv (.t 7), none⟩,
      ⟨(some 85), .mv (.t 8), none⟩,
      ⟨(some 86), .bsl 3 1 1 [(.int .i64 0)] [(0, 1, (.t 85))], none⟩,
      ⟨(some 87), .app 3 1 8 [(.int .i64 0)] (.t 84) (.t 86), none⟩,
      ⟨(some 7), .mv (.t 87), none⟩]) (
     .skip)))))) (
   .ops [
    ⟨(some 63), .mv (.t 8), none⟩,
    ⟨(some 64), .bin .add (.t 63) (.c (.int .i64 1)), none⟩,
    ⟨(some 8), .mv (.t 64), none⟩])))))) (
 .seq (
 .ops [
  ⟨(some 88), .mv (.t 7), none⟩,
  ⟨(some 4), .mv (.t 88), none⟩,
  ⟨(some 5), .mv (.c (.int .i64 0)), none⟩]) (
 .ret)))))), [.tmp 4, .tmp 5]⟩
def x46 : XF := ⟨14, .seq (
 .ops [
  ⟨(some 3), .mv (.c (.bool false)), none⟩]) (
 .seq (
 .ops [
  ⟨(some 4), .mv (.t 0), none⟩,
  ⟨(some 5), .call (.c (.func (.func 47) [] [])) [(.t 4)], none⟩,
  ⟨(some 6), .mv (.t 5), none⟩,
  ⟨(some 7), .mv (.t 0), some (6, true)⟩,
  ⟨(some 8), .ld1 (.t 1), some (6, true)⟩,
  ⟨(some 9), .un .neg (.t 8), some (6, true)⟩,
  ⟨(some 10), .ld1 (.t 1), some (6, true)⟩,
  ⟨(some 11), .call (.c (.func (.func 44) [] [])) [(.t 7), (.t 9), (.t 10)], some (6, true)⟩,
  ⟨(some 12), .un .not (.t 11), some (6, true)⟩,
  ⟨(some 13), .pick (.t 6) (.t 12) (.c (.bool false)), none⟩,
  ⟨(some 3), .mv (.t 13), none⟩]) (
 .ret)), [.tmp 3]⟩
def x51 : XF := ⟨7, .seq (
 .ops [
  ⟨(some 2), .mv (.c (.int .i64 0)), none⟩]) (
 .seq (
 .ops [
  ⟨(some 3), .mv (.t 0), none⟩,
  ⟨(some 4), .mv (.t 0), none⟩,
  ⟨(some 5), .un .neg (.t 4), none⟩,
  ⟨(some 6), .max [(.t 3), (.t 5)], none⟩,
  ⟨(some 2), .mv (.t 6), none⟩]) (
 .ret)), [.tmp 2]⟩
def x52 : XF := ⟨6, .seq (
 .ops [
  ⟨(some 2), .mv (.c (.bool false)), none⟩]) (
 .seq (
 .ops [
  ⟨(some 3), .mv (.t 0), none⟩,
  ⟨(some 4), .call (.c (.func (.func 47) [] [])) [(.t 3)], none⟩,
  ⟨(some 5), .un .not (.t 4), none⟩,
  ⟨(some 2), .mv (.t 5), none⟩]) (
 .ret)), [.tmp 2]⟩
def x53 : XF := ⟨48, .seq (
 .ops [
  ⟨(some 4), .box 24 (.t 0), none⟩,
  ⟨(some 8), .mv (.c (.bool false)), none⟩]) (
 .seq (
 .seq (
 .ops [
  ⟨(some 9), .mv (.c (.int .i64 0)), none⟩]) (
 .block 0 (
  .loop (
   .seq (
   .seq (
   .ops [
    ⟨(some 13), .mv (.t 9), none⟩,
    ⟨(some 14), .fad 1 (.t 4), none⟩,
    ⟨(some 15), .ld1 (.t 14), none⟩,
    ⟨(some 16), .len .sl (.t 15), none⟩,
    ⟨(some 17), .bin .lss (.t 13) (.t 16), none⟩]) (
   .cond (.t 17) (
    .skip) (
    .exit 0))) (
   .seq (
   .block 1 (
    .seq (
    .ops [
     ⟨(some 20), .fad 1 (.t 4), none⟩,
     ⟨(some 21), .ld1 (.t 20), none⟩,
     ⟨(some 22), .mv (.t 9), none⟩,
     ⟨(some 23), .iad none 3 (.t 21) (.t 22), none⟩,
     ⟨(some 24), .ldN 3 (.t 23), none⟩,
     ⟨(some 10), .new 48 [(.int .i64 0), (.int .i64 0), (.slice none 0 true 0)], none⟩,
     ⟨none, .st 3 (.t 10) (.t 24), none⟩]) (
    .seq (
    .seq (
    .ops [
     ⟨(some 25), .fad 0 (.t 10), none⟩,
     ⟨(some 26), .ld1 (.t 25), none⟩,
     ⟨(some 27), .mv (.t 1), none⟩,
     ⟨(some 28), .bin .neq (.t 26) (.t 27), none⟩,
     ⟨(some 29), .mv (.t 28), none⟩,
     ⟨(some 30), .fad 1 (.t 10), some (29, false)⟩,
     ⟨(some 31), .ld1 (.t 30), some (29, false)⟩,
     ⟨(some 32), .mv (.t 2), some (29, false)⟩,
     ⟨(some 33), .bin .neq (.t 31) (.t 32), some (29, false)⟩,
     ⟨(some 34), .pick (.t 29) (.c (.bool true)) (.t 33), none⟩]) (
    .cond (.t 34) (
     .exit 1) (
     .skip))) (
    .seq (
    .ops [
     ⟨(some 11), .mv (.c (.bool true)), none⟩]) (
    .seq (
    .seq (
    .ops [
     ⟨(some 12), .mv (.c (.int .i64 0)), none⟩]) (
    .block 2 (
     .loop (
      .seq (
      .seq (
      .ops [
       ⟨(some 35), .mv (.t 12), none⟩,
       ⟨(some 36), .mv (.t 3), none⟩,
       ⟨(some 37), .bin .lss (.t 35) (.t 36), none⟩]) (
      .cond (.t 37) (
       .skip) (
       .exit 2))) (
      .seq (
      .block 3 (
       .ops [
        ⟨(some 40), .mv (.t 11), none⟩,
        ⟨(some 41), .mv (.t 40), none⟩,
        ⟨(some 42), .ldN 3 (.t 10), some (41, true)⟩,
        ⟨(some 43), .mv (.t 12), some (41, true)⟩,
        ⟨(some 44), .call (.c (.func (.func 101) [] [])) [(.t 42), (.t 43)], some (41, true)⟩,
        ⟨(some 45), .call (.c (.func (.func 50) [] [])) [(.t 44)], some (41, true)⟩,
        ⟨(some 46), .pick (.t 41) (.t 45) (.c (.bool false)), none⟩,
        ⟨(some 11), .mv (.t 46), none⟩])) (
      .ops [
       ⟨(some 38), .mv (.t 12), none⟩,
       ⟨(some 39), .bin .add (.t 38) (.c (.int .i64 1)), none⟩,
       ⟨(some 12), .mv (.t 39), none⟩])))))) (
    .seq (
    .ops [
     ⟨(some 47), .mv (.t 11), none⟩,
     ⟨(some 8), .mv (.t 47), none⟩]) (
    .ret))))))) (
   .ops [
    ⟨(some 18), .mv (.t 9), none⟩,
    ⟨(some 19), .bin .add (.t 18) (.c (.int .i64 1)), none⟩,
    ⟨(some 9), .mv (.t 19), none⟩])))))) (
 .seq (
 .ops [
  ⟨(some 8), .mv (.c (.bool false)), none⟩]) (
 .ret))), [.tmp 8]⟩
theorem k3 : cFn Tryz.prog 3 = some x3 := by kernel_rfl
theorem k14 : cFn Tryz.prog 14 = some x14 := by kernel_rfl
theorem k15 : cFn Tryz.prog 15 = some x15 := by kernel_rfl
theorem k17 : cFn Tryz.prog 17 = some x17 := by kernel_rfl
theorem k18 : cFn Tryz.prog 18 = some x18 := by kernel_rfl
theorem k46 : cFn Tryz.prog 46 = some x46 := by kernel_rfl
theorem k51 : cFn Tryz.prog 51 = some x51 := by kernel_rfl
theorem k52 : cFn Tryz.prog 52 = some x52 := by kernel_rfl
theorem k53 : cFn Tryz.prog 53 = some x53 := by kernel_rfl
end Go.Proofs.YtbfnnllgdioccaaGreatDoor.C
end
