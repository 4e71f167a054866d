/-
 Part of the proof of TapeFills: what functions of the program and of the statement come to, walked by the rules. No condition beyond those in each theorem.
-/
import Derived.Test.YtlfkmgpngkbhpaaGreatDoorTA
import Derived.Test.YtlfkmgpngkbhpaaGreatDoorPvF
section
open Go PvL Go.Proofs
set_option linter.unusedVariables false
namespace Go.Proofs.YtlfkmgpngkbhpaaGreatDoor.C
def x45 : XF := ⟨15, .seq (
 .ops [
  ⟨(some 6), .mv (.c (.bool false)), none⟩]) (
 .seq (
 .ops [
  ⟨(some 7), .mv (.t 0), none⟩,
  ⟨(some 8), .mv (.t 1), none⟩,
  ⟨(some 9), .bin .geq (.t 7) (.t 8), none⟩,
  ⟨(some 10), .mv (.t 9), none⟩,
  ⟨(some 11), .mv (.t 0), some (10, true)⟩,
  ⟨(some 12), .mv (.t 2), some (10, true)⟩,
  ⟨(some 13), .bin .leq (.t 11) (.t 12), some (10, true)⟩,
  ⟨(some 14), .pick (.t 10) (.t 13) (.c (.bool false)), none⟩,
  ⟨(some 6), .mv (.t 14), none⟩]) (
 .ret)), [.tmp 6]⟩
theorem k45 : cFn Tryz.prog 45 = some x45 := by kernel_rfl
def x5 : XF := ⟨32, .seq (
 .ops [
  ⟨(some 2), .box 24 (.t 0), none⟩,
  ⟨(some 3), .box 24 (.t 1), none⟩,
  ⟨(some 4), .mv (.c (.bool false)), none⟩]) (
 .seq (
 .ops [
  ⟨(some 10), .ldN 3 (.t 2), none⟩,
  ⟨(some 11), .ldN 3 (.t 3), none⟩,
  ⟨(some 12), .call (.c (.func (.func 21) [] [])) [(.t 10), (.t 11)], none⟩,
  ⟨(some 9), .mv (.t 12), none⟩,
  ⟨(some 13), .ext 0 (.t 9), none⟩,
  ⟨(some 14), .ext 1 (.t 9), none⟩,
  ⟨(some 5), .new 24 [(.int .i64 0), (.int .i64 0), (.slice none 0 true 0)], none⟩,
  ⟨none, .st 3 (.t 5) (.t 13), none⟩,
  ⟨(some 6), .mv (.t 14), none⟩]) (
 .seq (
 .ops [
  ⟨(some 16), .ldN 3 (.t 2), none⟩,
  ⟨(some 17), .ldN 3 (.t 3), none⟩,
  ⟨(some 18), .call (.c (.func (.func 40) [] [])) [(.t 16), (.t 17)], none⟩,
  ⟨(some 15), .mv (.t 18), none⟩,
  ⟨(some 19), .ext 0 (.t 15), none⟩,
  ⟨(some 20), .ext 1 (.t 15), none⟩,
  ⟨(some 7), .new 24 [(.int .i64 0), (.int .i64 0), (.slice none 0 true 0)], none⟩,
  ⟨none, .st 3 (.t 7) (.t 19), none⟩,
  ⟨(some 8), .mv (.t 20), none⟩]) (
 .seq (
 .ops [
  ⟨(some 21), .ldN 3 (.t 5), none⟩,
  ⟨(some 22), .ldN 3 (.t 7), none⟩,
  ⟨(some 23), .call (.c (.func (.func 41) [] [])) [(.t 21), (.t 22)], none⟩,
  ⟨(some 24), .mv (.t 23), none⟩,
  ⟨(some 25), .mv (.t 6), some (24, true)⟩,
  ⟨(some 26), .mv (.t 8), some (24, true)⟩,
  ⟨(some 27), .bin .eql (.t 25) (.t 26), some (24, true)⟩,
  ⟨(some 28), .pick (.t 24) (.t 27) (.c (.bool false)), none⟩,
  ⟨(some 29), .mv (.t 28), none⟩,
  ⟨(some 30), .call (.c (.func (.func 32) [] [])) [], some (29, true)⟩,
  ⟨(some 31), .pick (.t 29) (.t 30) (.c (.bool false)), none⟩,
  ⟨(some 4), .mv (.t 31), none⟩]) (
 .ret)))), [.tmp 4]⟩
def x16 : XF := ⟨25, .seq (
 .ops [
  ⟨(some 1), .box 24 (.t 0), none⟩,
  ⟨(some 2), .mv (.c (.int .i64 0)), none⟩]) (
 .seq (
 .seq (
 .ops [
  ⟨(some 3), .fad 0 (.t 1), none⟩,
  ⟨(some 4), .ld1 (.t 3), none⟩,
  ⟨(some 5), .call (.c (.func (.func 59) [] [])) [(.t 4), (.c (.int .i64 0)), (.c (.int .i64 60000))], none⟩,
  ⟨(some 6), .un .not (.t 5), none⟩,
  ⟨(some 7), .mv (.t 6), none⟩,
  ⟨(some 8), .fad 1 (.t 1), some (7, false)⟩,
  ⟨(some 9), .ld1 (.t 8), some (7, false)⟩,
  ⟨(some 10), .call (.c (.func (.func 59) [] [])) [(.t 9), (.c (.int .i64 0)), (.c (.int .i64 23))], some (7, false)⟩,
  ⟨(some 11), .un .not (.t 10), some (7, false)⟩,
  ⟨(some 12), .pick (.t 7) (.c (.bool true)) (.t 11), none⟩,
  ⟨(some 13), .mv (.t 12), none⟩,
  ⟨(some 14), .fad 2 (.t 1), some (13, false)⟩,
  ⟨(some 15), .ld1 (.t 14), some (13, false)⟩,
  ⟨(some 16), .len .sl (.t 15), some (13, false)⟩,
  ⟨(some 17), .call (.c (.func (.func 59) [] [])) [(.t 16), (.c (.int .i64 1)), (.c (.int .i64 64))], some (13, false)⟩,
  ⟨(some 18), .un .not (.t 17), some (13, false)⟩,
  ⟨(some 19), .pick (.t 13) (.c (.bool true)) (.t 18), none⟩,
  ⟨(some 20), .mv (.t 19), none⟩,
  ⟨(some 21), .fad 2 (.t 1), some (20, false)⟩,
  ⟨(some 22), .ld1 (.t 21), some (20, false)⟩,
  ⟨(some 23), .call (.c (.func (.func 60) [] [])) [(.t 22), (.c (.func (.func 61) [] []))], some (20, false)⟩,
  ⟨(some 24), .pick (.t 20) (.c (.bool true)) (.t 23), none⟩]) (
 .cond (.t 24) (
  .seq (
  .ops [
   ⟨(some 2), .mv (.c (.int .i64 80)), none⟩]) (
  .ret)) (
  .skip))) (
 .seq (
 .ops [
  ⟨(some 2), .mv (.c (.int .i64 0)), none⟩]) (
 .ret))), [.tmp 2]⟩
def x59 : XF := ⟨15, .seq (
 .ops [
  ⟨(some 6), .mv (.c (.bool false)), none⟩]) (
 .seq (
 .ops [
  ⟨(some 7), .mv (.t 0), none⟩,
  ⟨(some 8), .mv (.t 1), none⟩,
  ⟨(some 9), .bin .geq (.t 7) (.t 8), none⟩,
  ⟨(some 10), .mv (.t 9), none⟩,
  ⟨(some 11), .mv (.t 0), some (10, true)⟩,
  ⟨(some 12), .mv (.t 2), some (10, true)⟩,
  ⟨(some 13), .bin .leq (.t 11) (.t 12), some (10, true)⟩,
  ⟨(some 14), .pick (.t 10) (.t 13) (.c (.bool false)), none⟩,
  ⟨(some 6), .mv (.t 14), none⟩]) (
 .ret)), [.tmp 6]⟩
def x60 : XF := ⟨9, .seq (
 .ops [
  ⟨(some 4), .mv (.c (.bool false)), none⟩]) (
 .seq (
 .ops [
  ⟨(some 5), .mv (.t 0), none⟩,
  ⟨(some 6), .mv (.t 1), none⟩,
  ⟨(some 7), .call (.c (.func (.func 101) [] [])) [(.t 5), (.t 6)], none⟩,
  ⟨(some 8), .bin .geq (.t 7) (.c (.int .i64 0)), none⟩,
  ⟨(some 4), .mv (.t 8), none⟩]) (
 .ret)), [.tmp 4]⟩
def x61 : XF := ⟨6, .seq (
 .ops [
  ⟨(some 2), .mv (.c (.bool false)), none⟩]) (
 .seq (
 .ops [
  ⟨(some 3), .mv (.t 0), none⟩,
  ⟨(some 4), .call (.c (.func (.func 62) [] [])) [(.t 3)], none⟩,
  ⟨(some 5), .un .not (.t 4), none⟩,
  ⟨(some 2), .mv (.t 5), none⟩]) (
 .ret)), [.tmp 2]⟩
def x62 : XF := ⟨13, .seq (
 .ops [
  ⟨(some 2), .mv (.c (.bool false)), none⟩]) (
 .seq (
 .ops [
  ⟨(some 3), .mv (.t 0), none⟩,
  ⟨(some 4), .call (.c (.func (.func 79) [] [])) [(.t 3)], none⟩,
  ⟨(some 5), .mv (.t 4), none⟩,
  ⟨(some 6), .mv (.t 0), some (5, false)⟩,
  ⟨(some 7), .bin .eql (.t 6) (.c (.int .i64 40000)), some (5, false)⟩,
  ⟨(some 8), .pick (.t 5) (.c (.bool true)) (.t 7), none⟩,
  ⟨(some 9), .mv (.t 8), none⟩,
  ⟨(some 10), .mv (.t 0), some (9, false)⟩,
  ⟨(some 11), .bin .eql (.t 10) (.c (.int .i64 40001)), some (9, false)⟩,
  ⟨(some 12), .pick (.t 9) (.c (.bool true)) (.t 11), none⟩,
  ⟨(some 2), .mv (.t 12), none⟩]) (
 .ret)), [.tmp 2]⟩
def x79 : XF := ⟨5, .seq (
 .ops [
  ⟨(some 2), .mv (.c (.bool false)), none⟩]) (
 .seq (
 .ops [
  ⟨(some 3), .mv (.t 0), none⟩,
  ⟨(some 4), .call (.c (.func (.func 59) [] [])) [(.t 3), (.c (.int .i64 (-32767))), (.c (.int .i64 32767))], none⟩,
  ⟨(some 2), .mv (.t 4), none⟩]) (
 .ret)), [.tmp 2]⟩
def x101 : XF := ⟨19, .seq (
 .ops [
  ⟨(some 4), .mv (.c (.int .i64 0)), none⟩]) (
 .seq (
 .seq (
 .ops [
  ⟨(some 6), .mv (.t 0), none⟩,
  ⟨(some 7), .len .sl (.t 6), none⟩,
  ⟨(some 8), .mv (.c (.int .i64 0)), none⟩]) (
 .block 0 (
  .loop (
   .seq (
   .ops [
    ⟨(some 9), .bin .lss (.t 8) (.t 7), none⟩]) (
   .seq (
   .cond (.t 9) (
    .skip) (
    .exit 0)) (
   .seq (
   .block 1 (
    .seq (
    .ops [
     ⟨(some 10), .mv (.t 8), none⟩,
     ⟨(some 5), .mv (.t 10), none⟩]) (
    .seq (
    .ops [
     ⟨(some 11), .mv (.t 1), none⟩,
     ⟨(some 12), .mv (.t 0), none⟩,
     ⟨(some 13), .mv (.t 5), none⟩,
     ⟨(some 14), .iad none 1 (.t 12) (.t 13), none⟩,
     ⟨(some 15), .ld1 (.t 14), none⟩,
     ⟨(some 16), .call (.t 11) [(.t 15)], none⟩]) (
    .cond (.t 16) (
     .seq (
     .ops [
      ⟨(some 17), .mv (.t 5), none⟩,
      ⟨(some 4), .mv (.t 17), none⟩]) (
     .ret)) (
     .skip))))) (
   .ops [
    ⟨(some 18), .bin .add (.t 8) (.c (.int .i64 1)), none⟩,
    ⟨(some 8), .mv (.t 18), none⟩]))))))) (
 .seq (
 .ops [
  ⟨(some 4), .mv (.c (.int .i64 (-1))), none⟩]) (
 .ret))), [.tmp 4]⟩
def x85 : XF := ⟨37, .seq (
 .ops [
  ⟨(some 2), .mv (.c (.bool false)), none⟩]) (
 .seq (
 .ops [
  ⟨(some 5), .mv (.t 0), none⟩,
  ⟨(some 6), .len .sl (.t 5), none⟩,
  ⟨(some 7), .call (.c (.func (.func 45) [] [])) [(.t 6), (.c (.int .i64 1)), (.c (.int .i64 64))], none⟩,
  ⟨(some 3), .mv (.t 7), none⟩]) (
 .seq (
 .seq (
 .ops [
  ⟨(some 4), .mv (.c (.int .i64 0)), none⟩]) (
 .block 0 (
  .loop (
   .seq (
   .seq (
   .ops [
    ⟨(some 8), .mv (.t 4), none⟩,
    ⟨(some 9), .mv (.t 0), none⟩,
    ⟨(some 10), .len .sl (.t 9), none⟩,
    ⟨(some 11), .bin .lss (.t 8) (.t 10), none⟩]) (
   .cond (.t 11) (
    .skip) (
    .exit 0))) (
   .seq (
   .block 1 (
    .ops [
     ⟨(some 14), .mv (.t 3), none⟩,
     ⟨(some 15), .mv (.t 14), none⟩,
     ⟨(some 16), .mv (.t 0), some (15, true)⟩,
     ⟨(some 17), .mv (.t 4), some (15, true)⟩,
     ⟨(some 18), .iad none 1 (.t 16) (.t 17), some (15, true)⟩,
     ⟨(some 19), .ld1 (.t 18), some (15, true)⟩,
     ⟨(some 20), .call (.c (.func (.func 92) [] [])) [(.t 19)], some (15, true)⟩,
     ⟨(some 21), .mv (.t 20), some (15, true)⟩,
     ⟨(some 22), .mv (.t 0), some (21, false)⟩,
     ⟨(some 23), .mv (.t 4), some (21, false)⟩,
     ⟨(some 24), .iad none 1 (.t 22) (.t 23), some (21, false)⟩,
     ⟨(some 25), .ld1 (.t 24), some (21, false)⟩,
     ⟨(some 26), .bin .eql (.t 25) (.c (.int .i64 40000)), some (21, false)⟩,
     ⟨(some 27), .pick (.t 21) (.c (.bool true)) (.t 26), some (15, true)⟩,
     ⟨(some 28), .mv (.t 27), some (15, true)⟩,
     ⟨(some 29), .mv (.t 0), some (28, false)⟩,
     ⟨(some 30), .mv (.t 4), some (28, false)⟩,
     ⟨(some 31), .iad none 1 (.t 29) (.t 30), some (28, false)⟩,
     ⟨(some 32), .ld1 (.t 31), some (28, false)⟩,
     ⟨(some 33), .bin .eql (.t 32) (.c (.int .i64 40001)), some (28, false)⟩,
     ⟨(some 34), .pick (.t 28) (.c (.bool true)) (.t 33), some (15, true)⟩,
     ⟨(some 35), .pick (.t 15) (.t 34) (.c (.bool false)), none⟩,
     ⟨(some 3), .mv (.t 35), none⟩])) (
   .ops [
    ⟨(some 12), .mv (.t 4), none⟩,
    ⟨(some 13), .bin .add (.t 12) (.c (.int .i64 1)), none⟩,
    ⟨(some 4), .mv (.t 13), none⟩])))))) (
 .seq (
 .ops [
  ⟨(some 36), .mv (.t 3), none⟩,
  ⟨(some 2), .mv (.t 36), none⟩]) (
 .ret)))), [.tmp 2]⟩
def x92 : XF := ⟨5, .seq (
 .ops [
  ⟨(some 2), .mv (.c (.bool false)), none⟩]) (
 .seq (
 .ops [
  ⟨(some 3), .mv (.t 0), none⟩,
  ⟨(some 4), .call (.c (.func (.func 45) [] [])) [(.t 3), (.c (.int .i64 (-32767))), (.c (.int .i64 32767))], none⟩,
  ⟨(some 2), .mv (.t 4), none⟩]) (
 .ret)), [.tmp 2]⟩
theorem k5 : cFn Tryz.prog 5 = some x5 := by kernel_rfl
theorem k16 : cFn Tryz.prog 16 = some x16 := by kernel_rfl
theorem k59 : cFn Tryz.prog 59 = some x59 := by kernel_rfl
theorem k60 : cFn Tryz.prog 60 = some x60 := by kernel_rfl
theorem k61 : cFn Tryz.prog 61 = some x61 := by kernel_rfl
theorem k62 : cFn Tryz.prog 62 = some x62 := by kernel_rfl
theorem k79 : cFn Tryz.prog 79 = some x79 := by kernel_rfl
theorem k101 : cFn Tryz.prog 101 = some x101 := by kernel_rfl
theorem k85 : cFn Tryz.prog 85 = some x85 := by kernel_rfl
theorem k92 : cFn Tryz.prog 92 = some x92 := by kernel_rfl
def x6 : XF := ⟨32, .seq (
 .ops [
  ⟨(some 4), .mv (.c (.bool false)), none⟩]) (
 .seq (
 .ops [
  ⟨(some 10), .mv (.t 0), none⟩,
  ⟨(some 11), .mv (.t 1), none⟩,
  ⟨(some 12), .call (.c (.func (.func 26) [] [])) [(.t 10), (.t 11)], none⟩,
  ⟨(some 9), .mv (.t 12), none⟩,
  ⟨(some 13), .ext 0 (.t 9), none⟩,
  ⟨(some 14), .ext 1 (.t 9), none⟩,
  ⟨(some 5), .mv (.t 13), none⟩,
  ⟨(some 6), .mv (.t 14), none⟩]) (
 .seq (
 .ops [
  ⟨(some 16), .mv (.t 0), none⟩,
  ⟨(some 17), .mv (.t 1), none⟩,
  ⟨(some 18), .call (.c (.func (.func 42) [] [])) [(.t 16), (.t 17)], none⟩,
  ⟨(some 15), .mv (.t 18), none⟩,
  ⟨(some 19), .ext 0 (.t 15), none⟩,
  ⟨(some 20), .ext 1 (.t 15), none⟩,
  ⟨(some 7), .mv (.t 19), none⟩,
  ⟨(some 8), .mv (.t 20), none⟩]) (
 .seq (
 .ops [
  ⟨(some 21), .mv (.t 5), none⟩,
  ⟨(some 22), .mv (.t 7), none⟩,
  ⟨(some 23), .call (.c (.func (.func 43) [] [])) [(.t 21), (.t 22)], none⟩,
  ⟨(some 24), .mv (.t 23), none⟩,
  ⟨(some 25), .mv (.t 6), some (24, true)⟩,
  ⟨(some 26), .mv (.t 8), some (24, true)⟩,
  ⟨(some 27), .bin .eql (.t 25) (.t 26), some (24, true)⟩,
  ⟨(some 28), .pick (.t 24) (.t 27) (.c (.bool false)), none⟩,
  ⟨(some 29), .mv (.t 28), none⟩,
  ⟨(some 30), .call (.c (.func (.func 32) [] [])) [], some (29, true)⟩,
  ⟨(some 31), .pick (.t 29) (.t 30) (.c (.bool false)), none⟩,
  ⟨(some 4), .mv (.t 31), none⟩]) (
 .ret)))), [.tmp 4]⟩
def x7 : XF := ⟨42, .seq (
 .ops [
  ⟨(some 4), .box 72 (.t 1), none⟩,
  ⟨(some 6), .mv (.c (.bool false)), none⟩]) (
 .seq (
 .ops [
  ⟨(some 12), .mv (.t 0), none⟩,
  ⟨(some 13), .iad (some 2) 1 (.t 4) (.c (.int .i64 0)), none⟩,
  ⟨(some 14), .ld1 (.t 13), none⟩,
  ⟨(some 15), .iad (some 2) 1 (.t 4) (.c (.int .i64 1)), none⟩,
  ⟨(some 16), .ld1 (.t 15), none⟩,
  ⟨(some 17), .mv (.t 2), none⟩,
  ⟨(some 18), .call (.c (.func (.func 31) [] [])) [(.t 12), (.t 14), (.t 16), (.t 17)], none⟩,
  ⟨(some 11), .mv (.t 18), none⟩,
  ⟨(some 19), .ext 0 (.t 11), none⟩,
  ⟨(some 20), .ext 1 (.t 11), none⟩,
  ⟨(some 7), .mv (.t 19), none⟩,
  ⟨(some 8), .mv (.t 20), none⟩]) (
 .seq (
 .ops [
  ⟨(some 22), .mv (.t 0), none⟩,
  ⟨(some 23), .iad (some 2) 1 (.t 4) (.c (.int .i64 0)), none⟩,
  ⟨(some 24), .ld1 (.t 23), none⟩,
  ⟨(some 25), .iad (some 2) 1 (.t 4) (.c (.int .i64 1)), none⟩,
  ⟨(some 26), .ld1 (.t 25), none⟩,
  ⟨(some 27), .mv (.t 2), none⟩,
  ⟨(some 28), .call (.c (.func (.func 44) [] [])) [(.t 22), (.t 24), (.t 26), (.t 27)], none⟩,
  ⟨(some 21), .mv (.t 28), none⟩,
  ⟨(some 29), .ext 0 (.t 21), none⟩,
  ⟨(some 30), .ext 1 (.t 21), none⟩,
  ⟨(some 9), .mv (.t 29), none⟩,
  ⟨(some 10), .mv (.t 30), none⟩]) (
 .seq (
 .ops [
  ⟨(some 31), .mv (.t 7), none⟩,
  ⟨(some 32), .mv (.t 9), none⟩,
  ⟨(some 33), .bin .eql (.t 31) (.t 32), none⟩,
  ⟨(some 34), .mv (.t 33), none⟩,
  ⟨(some 35), .mv (.t 8), some (34, true)⟩,
  ⟨(some 36), .mv (.t 10), some (34, true)⟩,
  ⟨(some 37), .bin .eql (.t 35) (.t 36), some (34, true)⟩,
  ⟨(some 38), .pick (.t 34) (.t 37) (.c (.bool false)), none⟩,
  ⟨(some 39), .mv (.t 38), none⟩,
  ⟨(some 40), .call (.c (.func (.func 32) [] [])) [], some (39, true)⟩,
  ⟨(some 41), .pick (.t 39) (.t 40) (.c (.bool false)), none⟩,
  ⟨(some 6), .mv (.t 41), none⟩]) (
 .ret)))), [.tmp 6]⟩
def x26 : XF := ⟨88, .seq (
 .ops [
  ⟨(some 4), .mv (.c (.slice none 0 true 0)), none⟩,
  ⟨(some 5), .mv (.c (.int .i64 0)), none⟩]) (
 .seq (
 .seq (
 .ops [
  ⟨(some 14), .mv (.t 0), none⟩,
  ⟨(some 15), .build [(.int .i64 0), (.int .i64 0), (.slice none 0 true 0)] [(2, 1, (.t 14))], none⟩,
  ⟨(some 16), .call (.c (.func (.func 16) [] [])) [(.t 15)], none⟩,
  ⟨(some 17), .bin .neq (.t 16) (.c (.int .i64 0)), none⟩]) (
 .cond (.t 17) (
  .seq (
  .ops [
   ⟨(some 4), .mv (.c (.slice none 0 true 0)), none⟩,
   ⟨(some 5), .mv (.c (.int .i64 80)), none⟩]) (
  .ret)) (
  .skip))) (
 .seq (
 .seq (
 .ops [
  ⟨(some 18), .mv (.t 1), none⟩,
  ⟨(some 19), .call (.c (.func (.func 59) [] [])) [(.t 18), (.c (.int .i64 0)), (.c (.int .i64 65535))], none⟩,
  ⟨(some 20), .un .not (.t 19), none⟩]) (
 .cond (.t 20) (
  .seq (
  .ops [
   ⟨(some 4), .mv (.c (.slice none 0 true 0)), none⟩,
   ⟨(some 5), .mv (.c (.int .i64 7)), none⟩]) (
  .ret)) (
  .skip))) (
 .seq (
 .seq (
 .ops [
  ⟨(some 21), .mv (.t 0), none⟩,
  ⟨(some 22), .call (.c (.func (.func 60) [] [])) [(.t 21), (.c (.func (.func 79) [] []))], none⟩,
  ⟨(some 23), .un .not (.t 22), none⟩]) (
 .cond (.t 23) (
  .seq (
  .ops [
   ⟨(some 4), .mv (.c (.slice none 0 true 0)), none⟩,
   ⟨(some 5), .mv (.c (.int .i64 4)), none⟩]) (
  .ret)) (
  .skip))) (
 .seq (
 .ops [
  ⟨(some 6), .mv (.c (.slice none 0 true 0)), none⟩]) (
 .seq (
 .seq (
 .ops [
  ⟨(some 24), .mv (.t 0), none⟩,
  ⟨(some 25), .len .sl (.t 24), none⟩,
  ⟨(some 26), .mv (.c (.int .i64 0)), none⟩]) (
 .block 0 (
  .loop (
   .seq (
   .ops [
    ⟨(some 27), .bin .lss (.t 26) (.t 25), none⟩]) (
   .seq (
   .cond (.t 27) (
    .skip) (
    .exit 0)) (
   .seq (
   .block 1 (
    .seq (
    .ops [
     ⟨(some 28), .mv (.t 26), none⟩,
     ⟨(some 7), .mv (.t 28), none⟩]) (
    .seq (
    .ops [
     ⟨(some 29), .build [(.int .i64 0), (.int .i64 0)] [(0, 1, (.c (.int .i64 (-32767)))), (1, 1, (.c (.int .i64 32767)))], none⟩,
     ⟨(some 8), .new 83 [(.int .i64 0), (.int .i64 0)], none⟩,
     ⟨none, .st 2 (.t 8) (.t 29), none⟩]) (
    .seq (
    .seq (
    .ops [
     ⟨(some 30), .mv (.t 0), none⟩,
     ⟨(some 31), .len .sl (.t 30), none⟩,
     ⟨(some 32), .mv (.c (.int .i64 0)), none⟩]) (
    .block 2 (
     .loop (
      .seq (
      .ops [
       ⟨(some 33), .bin .lss (.t 32) (.t 31), none⟩]) (
      .seq (
      .cond (.t 33) (
       .skip) (
       .exit 2)) (
      .seq (
      .block 3 (
       .seq (
       .ops [
        ⟨(some 34), .mv (.t 32), none⟩,
        ⟨(some 35), .iad none 1 (.t 30) (.t 32), none⟩,
        ⟨(some 36), .ld1 (.t 35), none⟩,
        ⟨(some 9), .mv (.t 34), none⟩,
        ⟨(some 10), .mv (.t 36), none⟩]) (
       .seq (
       .ops [
        ⟨(some 37), .mv (.t 10), none⟩,
        ⟨(some 38), .call (.c (.func (.func 79) [] [])) [(.t 37)], none⟩]) (
       .cond (.t 38) (
        .seq (
        .ops [
         ⟨(some 39), .mv (.t 1), none⟩,
         ⟨(some 40), .mv (.t 7), none⟩,
         ⟨(some 41), .mv (.t 9), none⟩,
         ⟨(some 42), .bin .sub (.t 40) (.t 41), none⟩,
         ⟨(some 43), .mv (.t 9), none⟩,
         ⟨(some 44), .mv (.t 7), none⟩,
         ⟨(some 45), .bin .sub (.t 43) (.t 44), none⟩,
         ⟨(some 46), .max [(.t 42), (.t 45)], none⟩,
         ⟨(some 47), .bin .mul (.t 39) (.t 46), none⟩,
         ⟨(some 11), .mv (.t 47), none⟩]) (
        .ops [
         ⟨(some 48), .fad 0 (.t 8), none⟩,
         ⟨(some 49), .ld1 (.t 48), none⟩,
         ⟨(some 50), .mv (.t 10), none⟩,
         ⟨(some 51), .mv (.t 11), none⟩,
         ⟨(some 52), .bin .sub (.t 50) (.t 51), none⟩,
         ⟨(some 53), .max [(.t 49), (.t 52)], none⟩,
         ⟨(some 54), .fad 1 (.t 8), none⟩,
         ⟨(some 55), .ld1 (.t 54), none⟩,
         ⟨(some 56), .mv (.t 10), none⟩,
         ⟨(some 57), .mv (.t 11), none⟩,
         ⟨(some 58), .bin .add (.t 56) (.t 57), none⟩,
         ⟨(some 59), .min [(.t 55), (.t 58)], none⟩,
         ⟨(some 60), .build [(.int .i64 0), (.int .i64 0)] [(0, 1, (.t 53)), (1, 1, (.t 59))], none⟩,
         ⟨none, .st 2 (.t 8) (.t 60), none⟩])) (
        .skip))))) (
      .ops [
       ⟨(some 61), .bin .add (.t 32) (.c (.int .i64 1)), none⟩,
       ⟨(some 32), .mv (.t 61), none⟩]))))))) (
    .ops [
     ⟨(some 62), .mv (.t 6), none⟩,
     ⟨(some 63), .ldN 2 (.t 8), none⟩,
     ⟨(some 64), .bsl 83 2 1 [(.int .i64 0), (.int .i64 0)] [(0, 2, (.t 63))], none⟩,
     ⟨(some 65), .app 83 2 16 [(.int .i64 0), (.int .i64 0)] (.t 62) (.t 64), none⟩,
     ⟨(some 6), .mv (.t 65), none⟩]))))) (
   .ops [
    ⟨(some 66), .bin .add (.t 26) (.c (.int .i64 1)), none⟩,
    ⟨(some 26), .mv (.t 66), none⟩]))))))) (
 .seq (
 .seq (
 .ops [
  ⟨(some 67), .mv (.t 0), none⟩,
  ⟨(some 68), .len .sl (.t 67), none⟩,
  ⟨(some 69), .mv (.c (.int .i64 0)), none⟩]) (
 .block 4 (
  .loop (
   .seq (
   .ops [
    ⟨(some 70), .bin .lss (.t 69) (.t 68), none⟩]) (
   .seq (
   .cond (.t 70) (
    .skip) (
    .exit 4)) (
   .seq (
   .block 5 (
    .seq (
    .ops [
     ⟨(some 71), .mv (.t 69), none⟩,
     ⟨(some 72), .iad none 1 (.t 67) (.t 69), none⟩,
     ⟨(some 73), .ld1 (.t 72), none⟩,
     ⟨(some 12), .mv (.t 71), none⟩,
     ⟨(some 13), .mv (.t 73), none⟩]) (
    .seq (
    .ops [
     ⟨(some 74), .mv (.t 13), none⟩,
     ⟨(some 75), .call (.c (.func (.func 79) [] [])) [(.t 74)], none⟩,
     ⟨(some 76), .mv (.t 75), none⟩,
     ⟨(some 77), .mv (.t 6), some (76, true)⟩,
     ⟨(some 78), .mv (.t 12), some (76, true)⟩,
     ⟨(some 79), .iad none 2 (.t 77) (.t 78), some (76, true)⟩,
     ⟨(some 80), .ldN 2 (.t 79), some (76, true)⟩,
     ⟨(some 81), .mv (.t 13), some (76, true)⟩,
     ⟨(some 82), .mv (.t 13), some (76, true)⟩,
     ⟨(some 83), .build [(.int .i64 0), (.int .i64 0)] [(0, 1, (.t 81)), (1, 1, (.t 82))], some (76, true)⟩,
     ⟨(some 84), .eqs true 2 [0, 1] (.t 80) (.t 83), some (76, true)⟩,
     ⟨(some 85), .pick (.t 76) (.t 84) (.c (.bool false)), none⟩]) (
    .cond (.t 85) (
     .seq (
     .ops [
      ⟨(some 4), .mv (.c (.slice none 0 true 0)), none⟩,
      ⟨(some 5), .mv (.c (.int .i64 83)), none⟩]) (
     .ret)) (
     .skip))))) (
   .ops [
    ⟨(some 86), .bin .add (.t 69) (.c (.int .i64 1)), none⟩,
    ⟨(some 69), .mv (.t 86), none⟩]))))))) (
 .seq (
 .ops [
  ⟨(some 87), .mv (.t 6), none⟩,
  ⟨(some 4), .mv (.t 87), none⟩,
  ⟨(some 5), .mv (.c (.int .i64 0)), none⟩]) (
 .ret)))))))), [.tmp 4, .tmp 5]⟩
def x42 : XF := ⟨124, .seq (
 .ops [
  ⟨(some 4), .mv (.c (.slice none 0 true 0)), none⟩,
  ⟨(some 5), .mv (.c (.int .i64 0)), none⟩]) (
 .seq (
 .seq (
 .ops [
  ⟨(some 15), .mv (.t 0), none⟩,
  ⟨(some 16), .call (.c (.func (.func 85) [] [])) [(.t 15)], none⟩,
  ⟨(some 17), .un .not (.t 16), none⟩]) (
 .cond (.t 17) (
  .seq (
  .ops [
   ⟨(some 4), .mv (.c (.slice none 0 true 0)), none⟩,
   ⟨(some 5), .mv (.c (.int .i64 80)), none⟩]) (
  .ret)) (
  .skip))) (
 .seq (
 .seq (
 .ops [
  ⟨(some 18), .mv (.t 1), none⟩,
  ⟨(some 19), .call (.c (.func (.func 45) [] [])) [(.t 18), (.c (.int .i64 0)), (.c (.int .i64 65535))], none⟩,
  ⟨(some 20), .un .not (.t 19), none⟩]) (
 .cond (.t 20) (
  .seq (
  .ops [
   ⟨(some 4), .mv (.c (.slice none 0 true 0)), none⟩,
   ⟨(some 5), .mv (.c (.int .i64 7)), none⟩]) (
  .ret)) (
  .skip))) (
 .seq (
 .ops [
  ⟨(some 6), .mv (.c (.bool false)), none⟩,
  ⟨(some 7), .mv (.c (.bool false)), none⟩]) (
 .seq (
 .seq (
 .ops [
  ⟨(some 8), .mv (.c (.int .i64 0)), none⟩]) (
 .block 0 (
  .loop (
   .seq (
   .seq (
   .ops [
    ⟨(some 21), .mv (.t 8), none⟩,
    ⟨(some 22), .mv (.t 0), none⟩,
    ⟨(some 23), .len .sl (.t 22), none⟩,
    ⟨(some 24), .bin .lss (.t 21) (.t 23), none⟩]) (
   .cond (.t 24) (
    .skip) (
    .exit 0))) (
   .seq (
   .block 1 (
    .seq (
    .ops [
     ⟨(some 27), .mv (.t 6), none⟩,
     ⟨(some 28), .mv (.t 27), none⟩,
     ⟨(some 29), .mv (.t 0), some (28, false)⟩,
     ⟨(some 30), .mv (.t 8), some (28, false)⟩,
     ⟨(some 31), .iad none 1 (.t 29) (.t 30), some (28, false)⟩,
     ⟨(some 32), .ld1 (.t 31), some (28, false)⟩,
     ⟨(some 33), .call (.c (.func (.func 92) [] [])) [(.t 32)], some (28, false)⟩,
     ⟨(some 34), .pick (.t 28) (.c (.bool true)) (.t 33), none⟩,
     ⟨(some 6), .mv (.t 34), none⟩]) (
    .seq (
    .ops [
     ⟨(some 9), .mv (.c (.int .i64 0)), none⟩]) (
    .block 2 (
     .loop (
      .seq (
      .seq (
      .ops [
       ⟨(some 35), .mv (.t 9), none⟩,
       ⟨(some 36), .mv (.t 8), none⟩,
       ⟨(some 37), .bin .lss (.t 35) (.t 36), none⟩]) (
      .cond (.t 37) (
       .skip) (
       .exit 2))) (
      .seq (
      .block 3 (
       .draw [
        (⟨(some 40), .mv (.t 7), none⟩, .calm),
        (⟨(some 41), .mv (.t 40), none⟩, .calm),
        (⟨(some 42), .mv (.t 0), some (41, false)⟩, .calm),
        (⟨(some 43), .mv (.t 8), some (41, false)⟩, .calm),
        (⟨(some 44), .iad none 1 (.t 42) (.t 43), some (41, false)⟩, .calm),
        (⟨(some 45), .ld1 (.t 44), some (41, false)⟩, .reads 0 0),
        (⟨(some 46), .call (.c (.func (.func 92) [] [])) [(.t 45)], some (41, false)⟩, .new),
        (⟨(some 47), .mv (.t 46), some (41, false)⟩, .calm),
        (⟨(some 48), .mv (.t 0), some (47, true)⟩, .calm),
        (⟨(some 49), .mv (.t 9), some (47, true)⟩, .calm),
        (⟨(some 50), .iad none 1 (.t 48) (.t 49), some (47, true)⟩, .calm),
        (⟨(some 51), .ld1 (.t 50), some (47, true)⟩, .reads 0 0),
        (⟨(some 52), .call (.c (.func (.func 92) [] [])) [(.t 51)], some (47, true)⟩, .new),
        (⟨(some 53), .pick (.t 47) (.t 52) (.c (.bool false)), some (41, false)⟩, .calm),
        (⟨(some 54), .mv (.t 53), some (41, false)⟩, .calm),
        (⟨(some 55), .mv (.t 0), some (54, true)⟩, .calm),
        (⟨(some 56), .mv (.t 8), some (54, true)⟩, .calm),
        (⟨(some 57), .iad none 1 (.t 55) (.t 56), some (54, true)⟩, .calm),
        (⟨(some 58), .ld1 (.t 57), some (54, true)⟩, .reads 0 0),
        (⟨(some 59), .mv (.t 0), some (54, true)⟩, .calm),
        (⟨(some 60), .mv (.t 9), some (54, true)⟩, .calm),
        (⟨(some 61), .iad none 1 (.t 59) (.t 60), some (54, true)⟩, .calm),
        (⟨(some 62), .ld1 (.t 61), some (54, true)⟩, .reads 0 0),
        (⟨(some 63), .bin .sub (.t 58) (.t 62), some (54, true)⟩, .calm),
        (⟨(some 64), .call (.c (.func (.func 46) [] [])) [(.t 63)], some (54, true)⟩, .new),
        (⟨(some 65), .mv (.t 1), some (54, true)⟩, .calm),
        (⟨(some 66), .mv (.t 8), some (54, true)⟩, .calm),
        (⟨(some 67), .mv (.t 9), some (54, true)⟩, .calm),
        (⟨(some 68), .bin .sub (.t 66) (.t 67), some (54, true)⟩, .calm),
        (⟨(some 69), .bin .mul (.t 65) (.t 68), some (54, true)⟩, .calm),
        (⟨(some 70), .bin .gtr (.t 64) (.t 69), some (54, true)⟩, .calm),
        (⟨(some 71), .pick (.t 54) (.t 70) (.c (.bool false)), some (41, false)⟩, .calm),
        (⟨(some 72), .pick (.t 41) (.c (.bool true)) (.t 71), none⟩, .calm),
        (⟨(some 7), .mv (.t 72), none⟩, .calm)])) (
      .ops [
       ⟨(some 38), .mv (.t 9), none⟩,
       ⟨(some 39), .bin .add (.t 38) (.c (.int .i64 1)), none⟩,
       ⟨(some 9), .mv (.t 39), none⟩])))))))) (
   .ops [
    ⟨(some 25), .mv (.t 8), none⟩,
    ⟨(some 26), .bin .add (.t 25) (.c (.int .i64 1)), none⟩,
    ⟨(some 8), .mv (.t 26), none⟩])))))) (
 .seq (
 .seq (
 .ops [
  ⟨(some 73), .mv (.t 6), none⟩,
  ⟨(some 74), .un .not (.t 73), none⟩]) (
 .cond (.t 74) (
  .seq (
  .ops [
   ⟨(some 4), .mv (.c (.slice none 0 true 0)), none⟩,
   ⟨(some 5), .mv (.c (.int .i64 4)), none⟩]) (
  .ret)) (
  .skip))) (
 .seq (
 .seq (
 .ops [
  ⟨(some 75), .mv (.t 7), none⟩]) (
 .cond (.t 75) (
  .seq (
  .ops [
   ⟨(some 4), .mv (.c (.slice none 0 true 0)), none⟩,
   ⟨(some 5), .mv (.c (.int .i64 83)), none⟩]) (
  .ret)) (
  .skip))) (
 .seq (
 .ops [
  ⟨(some 10), .mv (.c (.slice none 0 true 0)), none⟩]) (
 .seq (
 .seq (
 .ops [
  ⟨(some 11), .mv (.c (.int .i64 0)), none⟩]) (
 .block 4 (
  .loop (
   .seq (
   .seq (
   .ops [
    ⟨(some 76), .mv (.t 11), none⟩,
    ⟨(some 77), .mv (.t 0), none⟩,
    ⟨(some 78), .len .sl (.t 77), none⟩,
    ⟨(some 79), .bin .lss (.t 76) (.t 78), none⟩]) (
   .cond (.t 79) (
    .skip) (
    .exit 4))) (
   .seq (
   .block 5 (
    .seq (
    .ops [
     ⟨(some 82), .build [(.int .i64 0), (.int .i64 0)] [(0, 1, (.c (.int .i64 (-32767)))), (1, 1, (.c (.int .i64 32767)))], none⟩,
     ⟨(some 12), .new 83 [(.int .i64 0), (.int .i64 0)], none⟩,
     ⟨none, .st 2 (.t 12) (.t 82), none⟩]) (
    .seq (
    .seq (
    .ops [
     ⟨(some 13), .mv (.c (.int .i64 0)), none⟩]) (
    .block 6 (
     .loop (
      .seq (
      .seq (
      .ops [
       ⟨(some 83), .mv (.t 13), none⟩,
       ⟨(some 84), .mv (.t 0), none⟩,
       ⟨(some 85), .len .sl (.t 84), none⟩,
       ⟨(some 86), .bin .lss (.t 83) (.t 85), none⟩]) (
      .cond (.t 86) (
       .skip) (
       .exit 6))) (
      .seq (
      .block 7 (
       .seq (
       .ops [
        ⟨(some 89), .mv (.t 0), none⟩,
        ⟨(some 90), .mv (.t 13), none⟩,
        ⟨(some 91), .iad none 1 (.t 89) (.t 90), none⟩,
        ⟨(some 92), .ld1 (.t 91), none⟩,
        ⟨(some 93), .call (.c (.func (.func 92) [] [])) [(.t 92)], none⟩]) (
       .cond (.t 93) (
        .seq (
        .ops [
         ⟨(some 94), .mv (.t 1), none⟩,
         ⟨(some 95), .mv (.t 11), none⟩,
         ⟨(some 96), .mv (.t 13), none⟩,
         ⟨(some 97), .bin .sub (.t 95) (.t 96), none⟩,
         ⟨(some 98), .call (.c (.func (.func 46) [] [])) [(.t 97)], none⟩,
         ⟨(some 99), .bin .mul (.t 94) (.t 98), none⟩,
         ⟨(some 14), .mv (.t 99), none⟩]) (
        .draw [
         (⟨(some 100), .fad 0 (.t 12), none⟩, .calm),
         (⟨(some 101), .ld1 (.t 100), none⟩, .reads 0 0),
         (⟨(some 102), .mv (.t 0), none⟩, .calm),
         (⟨(some 103), .mv (.t 13), none⟩, .calm),
         (⟨(some 104), .iad none 1 (.t 102) (.t 103), none⟩, .calm),
         (⟨(some 105), .ld1 (.t 104), none⟩, .reads 0 0),
         (⟨(some 106), .mv (.t 14), none⟩, .calm),
         (⟨(some 107), .bin .sub (.t 105) (.t 106), none⟩, .calm),
         (⟨(some 108), .max [(.t 101), (.t 107)], none⟩, .calm),
         (⟨(some 109), .fad 1 (.t 12), none⟩, .calm),
         (⟨(some 110), .ld1 (.t 109), none⟩, .reads 0 0),
         (⟨(some 111), .mv (.t 0), none⟩, .calm),
         (⟨(some 112), .mv (.t 13), none⟩, .calm),
         (⟨(some 113), .iad none 1 (.t 111) (.t 112), none⟩, .calm),
         (⟨(some 114), .ld1 (.t 113), none⟩, .reads 0 0),
         (⟨(some 115), .mv (.t 14), none⟩, .calm),
         (⟨(some 116), .bin .add (.t 114) (.t 115), none⟩, .calm),
         (⟨(some 117), .min [(.t 110), (.t 116)], none⟩, .calm),
         (⟨(some 118), .build [(.int .i64 0), (.int .i64 0)] [(0, 1, (.t 108)), (1, 1, (.t 117))], none⟩, .calm),
         (⟨none, .st 2 (.t 12) (.t 118), none⟩, .anchor)])) (
        .skip)))) (
      .ops [
       ⟨(some 87), .mv (.t 13), none⟩,
       ⟨(some 88), .bin .add (.t 87) (.c (.int .i64 1)), none⟩,
       ⟨(some 13), .mv (.t 88), none⟩])))))) (
    .ops [
     ⟨(some 119), .mv (.t 10), none⟩,
     ⟨(some 120), .ldN 2 (.t 12), none⟩,
     ⟨(some 121), .bsl 83 2 1 [(.int .i64 0), (.int .i64 0)] [(0, 2, (.t 120))], none⟩,
     ⟨(some 122), .app 83 2 16 [(.int .i64 0), (.int .i64 0)] (.t 119) (.t 121), none⟩,
     ⟨(some 10), .mv (.t 122), none⟩])))) (
   .ops [
    ⟨(some 80), .mv (.t 11), none⟩,
    ⟨(some 81), .bin .add (.t 80) (.c (.int .i64 1)), none⟩,
    ⟨(some 11), .mv (.t 81), none⟩])))))) (
 .seq (
 .ops [
  ⟨(some 123), .mv (.t 10), none⟩,
  ⟨(some 4), .mv (.t 123), none⟩,
  ⟨(some 5), .mv (.c (.int .i64 0)), none⟩]) (
 .ret)))))))))), [.tmp 4, .tmp 5]⟩
def x43 : XF := ⟨26, .seq (
 .ops [
  ⟨(some 4), .mv (.c (.bool false)), none⟩]) (
 .seq (
 .seq (
 .ops [
  ⟨(some 6), .mv (.t 0), none⟩,
  ⟨(some 7), .len .sl (.t 6), none⟩,
  ⟨(some 8), .mv (.t 1), none⟩,
  ⟨(some 9), .len .sl (.t 8), none⟩,
  ⟨(some 10), .bin .neq (.t 7) (.t 9), none⟩]) (
 .cond (.t 10) (
  .seq (
  .ops [
   ⟨(some 4), .mv (.c (.bool false)), none⟩]) (
  .ret)) (
  .skip))) (
 .seq (
 .seq (
 .ops [
  ⟨(some 5), .mv (.c (.int .i64 0)), none⟩]) (
 .block 0 (
  .loop (
   .seq (
   .seq (
   .ops [
    ⟨(some 11), .mv (.t 5), none⟩,
    ⟨(some 12), .mv (.t 0), none⟩,
    ⟨(some 13), .len .sl (.t 12), none⟩,
    ⟨(some 14), .bin .lss (.t 11) (.t 13), none⟩]) (
   .cond (.t 14) (
    .skip) (
    .exit 0))) (
   .seq (
   .block 1 (
    .seq (
    .draw [
     (⟨(some 17), .mv (.t 0), none⟩, .calm),
     (⟨(some 18), .mv (.t 5), none⟩, .calm),
     (⟨(some 19), .iad none 2 (.t 17) (.t 18), none⟩, .calm),
     (⟨(some 20), .ldN 2 (.t 19), none⟩, .reads 0 0),
     (⟨(some 21), .mv (.t 1), none⟩, .calm),
     (⟨(some 22), .mv (.t 5), none⟩, .calm),
     (⟨(some 23), .iad none 2 (.t 21) (.t 22), none⟩, .calm),
     (⟨(some 24), .ldN 2 (.t 23), none⟩, .reads 0 0),
     (⟨(some 25), .eqs true 2 [0, 1] (.t 20) (.t 24), none⟩, .calm)]) (
    .cond (.t 25) (
     .seq (
     .ops [
      ⟨(some 4), .mv (.c (.bool false)), none⟩]) (
     .ret)) (
     .skip)))) (
   .ops [
    ⟨(some 15), .mv (.t 5), none⟩,
    ⟨(some 16), .bin .add (.t 15) (.c (.int .i64 1)), none⟩,
    ⟨(some 5), .mv (.t 16), none⟩])))))) (
 .seq (
 .ops [
  ⟨(some 4), .mv (.c (.bool true)), none⟩]) (
 .ret)))), [.tmp 4]⟩
theorem k6 : cFn Tryz.prog 6 = some x6 := by kernel_rfl
theorem k7 : cFn Tryz.prog 7 = some x7 := by kernel_rfl
theorem k26 : cFn Tryz.prog 26 = some x26 := by kernel_rfl
theorem k42 : cFn Tryz.prog 42 = some x42 := by kernel_rfl
theorem k43 : cFn Tryz.prog 43 = some x43 := by kernel_rfl
def x46 : XF := ⟨7, .seq (
 .ops [
  ⟨(some 2), .mv (.c (.int .i64 0)), none⟩]) (
 .seq (
 .ops [
  ⟨(some 3), .mv (.t 0), none⟩,
  ⟨(some 4), .mv (.t 0), none⟩,
  ⟨(some 5), .un .neg (.t 4), none⟩,
  ⟨(some 6), .max [(.t 3), (.t 5)], none⟩,
  ⟨(some 2), .mv (.t 6), none⟩]) (
 .ret)), [.tmp 2]⟩
theorem k46 : cFn Tryz.prog 46 = some x46 := by kernel_rfl
end Go.Proofs.YtlfkmgpngkbhpaaGreatDoor.C
end
