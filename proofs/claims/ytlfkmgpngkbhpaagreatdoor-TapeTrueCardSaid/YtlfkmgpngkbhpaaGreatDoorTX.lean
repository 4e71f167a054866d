/-
 Part of the proof of TapeTrue: what functions of the program and of the statement come to, walked by the rules. No condition beyond those in each theorem.
-/
import Derived.Test.YtlfkmgpngkbhpaaGreatDoorTA
import Derived.Test.YtlfkmgpngkbhpaaGreatDoorPvF
section
open Go PvL Go.Proofs
set_option linter.unusedVariables false
namespace Go.Proofs.YtlfkmgpngkbhpaaGreatDoor.C
def x45 : XF := ⟨15, .seq (
 .ops [
  ⟨(some 6), .mv (.c (.bool false)), none⟩]) (
 .seq (
 .ops [
  ⟨(some 7), .mv (.t 0), none⟩,
  ⟨(some 8), .mv (.t 1), none⟩,
  ⟨(some 9), .bin .geq (.t 7) (.t 8), none⟩,
  ⟨(some 10), .mv (.t 9), none⟩,
  ⟨(some 11), .mv (.t 0), some (10, true)⟩,
  ⟨(some 12), .mv (.t 2), some (10, true)⟩,
  ⟨(some 13), .bin .leq (.t 11) (.t 12), some (10, true)⟩,
  ⟨(some 14), .pick (.t 10) (.t 13) (.c (.bool false)), none⟩,
  ⟨(some 6), .mv (.t 14), none⟩]) (
 .ret)), [.tmp 6]⟩
theorem k45 : cFn Tryz.prog 45 = some x45 := by kernel_rfl
def x5 : XF := ⟨32, .seq (
 .ops [
  ⟨(some 2), .box 24 (.t 0), none⟩,
  ⟨(some 3), .box 24 (.t 1), none⟩,
  ⟨(some 4), .mv (.c (.bool false)), none⟩]) (
 .seq (
 .ops [
  ⟨(some 10), .ldN 3 (.t 2), none⟩,
  ⟨(some 11), .ldN 3 (.t 3), none⟩,
  ⟨(some 12), .call (.c (.func (.func 21) [] [])) [(.t 10), (.t 11)], none⟩,
  ⟨(some 9), .mv (.t 12), none⟩,
  ⟨(some 13), .ext 0 (.t 9), none⟩,
  ⟨(some 14), .ext 1 (.t 9), none⟩,
  ⟨(some 5), .new 24 [(.int .i64 0), (.int .i64 0), (.slice none 0 true 0)], none⟩,
  ⟨none, .st 3 (.t 5) (.t 13), none⟩,
  ⟨(some 6), .mv (.t 14), none⟩]) (
 .seq (
 .ops [
  ⟨(some 16), .ldN 3 (.t 2), none⟩,
  ⟨(some 17), .ldN 3 (.t 3), none⟩,
  ⟨(some 18), .call (.c (.func (.func 40) [] [])) [(.t 16), (.t 17)], none⟩,
  ⟨(some 15), .mv (.t 18), none⟩,
  ⟨(some 19), .ext 0 (.t 15), none⟩,
  ⟨(some 20), .ext 1 (.t 15), none⟩,
  ⟨(some 7), .new 24 [(.int .i64 0), (.int .i64 0), (.slice none 0 true 0)], none⟩,
  ⟨none, .st 3 (.t 7) (.t 19), none⟩,
  ⟨(some 8), .mv (.t 20), none⟩]) (
 .seq (
 .ops [
  ⟨(some 21), .ldN 3 (.t 5), none⟩,
  ⟨(some 22), .ldN 3 (.t 7), none⟩,
  ⟨(some 23), .call (.c (.func (.func 41) [] [])) [(.t 21), (.t 22)], none⟩,
  ⟨(some 24), .mv (.t 23), none⟩,
  ⟨(some 25), .mv (.t 6), some (24, true)⟩,
  ⟨(some 26), .mv (.t 8), some (24, true)⟩,
  ⟨(some 27), .bin .eql (.t 25) (.t 26), some (24, true)⟩,
  ⟨(some 28), .pick (.t 24) (.t 27) (.c (.bool false)), none⟩,
  ⟨(some 29), .mv (.t 28), none⟩,
  ⟨(some 30), .call (.c (.func (.func 32) [] [])) [], some (29, true)⟩,
  ⟨(some 31), .pick (.t 29) (.t 30) (.c (.bool false)), none⟩,
  ⟨(some 4), .mv (.t 31), none⟩]) (
 .ret)))), [.tmp 4]⟩
def x16 : XF := ⟨25, .seq (
 .ops [
  ⟨(some 1), .box 24 (.t 0), none⟩,
  ⟨(some 2), .mv (.c (.int .i64 0)), none⟩]) (
 .seq (
 .seq (
 .ops [
  ⟨(some 3), .fad 0 (.t 1), none⟩,
  ⟨(some 4), .ld1 (.t 3), none⟩,
  ⟨(some 5), .call (.c (.func (.func 59) [] [])) [(.t 4), (.c (.int .i64 0)), (.c (.int .i64 60000))], none⟩,
  ⟨(some 6), .un .not (.t 5), none⟩,
  ⟨(some 7), .mv (.t 6), none⟩,
  ⟨(some 8), .fad 1 (.t 1), some (7, false)⟩,
  ⟨(some 9), .ld1 (.t 8), some (7, false)⟩,
  ⟨(some 10), .call (.c (.func (.func 59) [] [])) [(.t 9), (.c (.int .i64 0)), (.c (.int .i64 23))], some (7, false)⟩,
  ⟨(some 11), .un .not (.t 10), some (7, false)⟩,
  ⟨(some 12), .pick (.t 7) (.c (.bool true)) (.t 11), none⟩,
  ⟨(some 13), .mv (.t 12), none⟩,
  ⟨(some 14), .fad 2 (.t 1), some (13, false)⟩,
  ⟨(some 15), .ld1 (.t 14), some (13, false)⟩,
  ⟨(some 16), .len .sl (.t 15), some (13, false)⟩,
  ⟨(some 17), .call (.c (.func (.func 59) [] [])) [(.t 16), (.c (.int .i64 1)), (.c (.int .i64 64))], some (13, false)⟩,
  ⟨(some 18), .un .not (.t 17), some (13, false)⟩,
  ⟨(some 19), .pick (.t 13) (.c (.bool true)) (.t 18), none⟩,
  ⟨(some 20), .mv (.t 19), none⟩,
  ⟨(some 21), .fad 2 (.t 1), some (20, false)⟩,
  ⟨(some 22), .ld1 (.t 21), some (20, false)⟩,
  ⟨(some 23), .call (.c (.func (.func 60) [] [])) [(.t 22), (.c (.func (.func 61) [] []))], some (20, false)⟩,
  ⟨(some 24), .pick (.t 20) (.c (.bool true)) (.t 23), none⟩]) (
 .cond (.t 24) (
  .seq (
  .ops [
   ⟨(some 2), .mv (.c (.int .i64 80)), none⟩]) (
  .ret)) (
  .skip))) (
 .seq (
 .ops [
  ⟨(some 2), .mv (.c (.int .i64 0)), none⟩]) (
 .ret))), [.tmp 2]⟩
def x59 : XF := ⟨15, .seq (
 .ops [
  ⟨(some 6), .mv (.c (.bool false)), none⟩]) (
 .seq (
 .ops [
  ⟨(some 7), .mv (.t 0), none⟩,
  ⟨(some 8), .mv (.t 1), none⟩,
  ⟨(some 9), .bin .geq (.t 7) (.t 8), none⟩,
  ⟨(some 10), .mv (.t 9), none⟩,
  ⟨(some 11), .mv (.t 0), some (10, true)⟩,
  ⟨(some 12), .mv (.t 2), some (10, true)⟩,
  ⟨(some 13), .bin .leq (.t 11) (.t 12), some (10, true)⟩,
  ⟨(some 14), .pick (.t 10) (.t 13) (.c (.bool false)), none⟩,
  ⟨(some 6), .mv (.t 14), none⟩]) (
 .ret)), [.tmp 6]⟩
def x60 : XF := ⟨9, .seq (
 .ops [
  ⟨(some 4), .mv (.c (.bool false)), none⟩]) (
 .seq (
 .ops [
  ⟨(some 5), .mv (.t 0), none⟩,
  ⟨(some 6), .mv (.t 1), none⟩,
  ⟨(some 7), .call (.c (.func (.func 101) [] [])) [(.t 5), (.t 6)], none⟩,
  ⟨(some 8), .bin .geq (.t 7) (.c (.int .i64 0)), none⟩,
  ⟨(some 4), .mv (.t 8), none⟩]) (
 .ret)), [.tmp 4]⟩
def x61 : XF := ⟨6, .seq (
 .ops [
  ⟨(some 2), .mv (.c (.bool false)), none⟩]) (
 .seq (
 .ops [
  ⟨(some 3), .mv (.t 0), none⟩,
  ⟨(some 4), .call (.c (.func (.func 62) [] [])) [(.t 3)], none⟩,
  ⟨(some 5), .un .not (.t 4), none⟩,
  ⟨(some 2), .mv (.t 5), none⟩]) (
 .ret)), [.tmp 2]⟩
def x62 : XF := ⟨13, .seq (
 .ops [
  ⟨(some 2), .mv (.c (.bool false)), none⟩]) (
 .seq (
 .ops [
  ⟨(some 3), .mv (.t 0), none⟩,
  ⟨(some 4), .call (.c (.func (.func 79) [] [])) [(.t 3)], none⟩,
  ⟨(some 5), .mv (.t 4), none⟩,
  ⟨(some 6), .mv (.t 0), some (5, false)⟩,
  ⟨(some 7), .bin .eql (.t 6) (.c (.int .i64 40000)), some (5, false)⟩,
  ⟨(some 8), .pick (.t 5) (.c (.bool true)) (.t 7), none⟩,
  ⟨(some 9), .mv (.t 8), none⟩,
  ⟨(some 10), .mv (.t 0), some (9, false)⟩,
  ⟨(some 11), .bin .eql (.t 10) (.c (.int .i64 40001)), some (9, false)⟩,
  ⟨(some 12), .pick (.t 9) (.c (.bool true)) (.t 11), none⟩,
  ⟨(some 2), .mv (.t 12), none⟩]) (
 .ret)), [.tmp 2]⟩
def x79 : XF := ⟨5, .seq (
 .ops [
  ⟨(some 2), .mv (.c (.bool false)), none⟩]) (
 .seq (
 .ops [
  ⟨(some 3), .mv (.t 0), none⟩,
  ⟨(some 4), .call (.c (.func (.func 59) [] [])) [(.t 3), (.c (.int .i64 (-32767))), (.c (.int .i64 32767))], none⟩,
  ⟨(some 2), .mv (.t 4), none⟩]) (
 .ret)), [.tmp 2]⟩
def x101 : XF := ⟨19, .seq (
 .ops [
  ⟨(some 4), .mv (.c (.int .i64 0)), none⟩]) (
 .seq (
 .seq (
 .ops [
  ⟨(some 6), .mv (.t 0), none⟩,
  ⟨(some 7), .len .sl (.t 6), none⟩,
  ⟨(some 8), .mv (.c (.int .i64 0)), none⟩]) (
 .block 0 (
  .loop (
   .seq (
   .ops [
    ⟨(some 9), .bin .lss (.t 8) (.t 7), none⟩]) (
   .seq (
   .cond (.t 9) (
    .skip) (
    .exit 0)) (
   .seq (
   .block 1 (
    .seq (
    .ops [
     ⟨(some 10), .mv (.t 8), none⟩,
     ⟨(some 5), .mv (.t 10), none⟩]) (
    .seq (
    .ops [
     ⟨(some 11), .mv (.t 1), none⟩,
     ⟨(some 12), .mv (.t 0), none⟩,
     ⟨(some 13), .mv (.t 5), none⟩,
     ⟨(some 14), .iad none 1 (.t 12) (.t 13), none⟩,
     ⟨(some 15), .ld1 (.t 14), none⟩,
     ⟨(some 16), .call (.t 11) [(.t 15)], none⟩]) (
    .cond (.t 16) (
     .seq (
     .ops [
      ⟨(some 17), .mv (.t 5), none⟩,
      ⟨(some 4), .mv (.t 17), none⟩]) (
     .ret)) (
     .skip))))) (
   .ops [
    ⟨(some 18), .bin .add (.t 8) (.c (.int .i64 1)), none⟩,
    ⟨(some 8), .mv (.t 18), none⟩]))))))) (
 .seq (
 .ops [
  ⟨(some 4), .mv (.c (.int .i64 (-1))), none⟩]) (
 .ret))), [.tmp 4]⟩
theorem k5 : cFn Tryz.prog 5 = some x5 := by kernel_rfl
theorem k16 : cFn Tryz.prog 16 = some x16 := by kernel_rfl
theorem k59 : cFn Tryz.prog 59 = some x59 := by kernel_rfl
theorem k60 : cFn Tryz.prog 60 = some x60 := by kernel_rfl
theorem k61 : cFn Tryz.prog 61 = some x61 := by kernel_rfl
theorem k62 : cFn Tryz.prog 62 = some x62 := by kernel_rfl
theorem k79 : cFn Tryz.prog 79 = some x79 := by kernel_rfl
theorem k101 : cFn Tryz.prog 101 = some x101 := by kernel_rfl
def x6 : XF := ⟨32, .seq (
 .ops [
  ⟨(some 4), .mv (.c (.bool false)), none⟩]) (
 .seq (
 .ops [
  ⟨(some 10), .mv (.t 0), none⟩,
  ⟨(some 11), .mv (.t 1), none⟩,
  ⟨(some 12), .call (.c (.func (.func 26) [] [])) [(.t 10), (.t 11)], none⟩,
  ⟨(some 9), .mv (.t 12), none⟩,
  ⟨(some 13), .ext 0 (.t 9), none⟩,
  ⟨(some 14), .ext 1 (.t 9), none⟩,
  ⟨(some 5), .mv (.t 13), none⟩,
  ⟨(some 6), .mv (.t 14), none⟩]) (
 .seq (
 .ops [
  ⟨(some 16), .mv (.t 0), none⟩,
  ⟨(some 17), .mv (.t 1), none⟩,
  ⟨(some 18), .call (.c (.func (.func 42) [] [])) [(.t 16), (.t 17)], none⟩,
  ⟨(some 15), .mv (.t 18), none⟩,
  ⟨(some 19), .ext 0 (.t 15), none⟩,
  ⟨(some 20), .ext 1 (.t 15), none⟩,
  ⟨(some 7), .mv (.t 19), none⟩,
  ⟨(some 8), .mv (.t 20), none⟩]) (
 .seq (
 .ops [
  ⟨(some 21), .mv (.t 5), none⟩,
  ⟨(some 22), .mv (.t 7), none⟩,
  ⟨(some 23), .call (.c (.func (.func 43) [] [])) [(.t 21), (.t 22)], none⟩,
  ⟨(some 24), .mv (.t 23), none⟩,
  ⟨(some 25), .mv (.t 6), some (24, true)⟩,
  ⟨(some 26), .mv (.t 8), some (24, true)⟩,
  ⟨(some 27), .bin .eql (.t 25) (.t 26), some (24, true)⟩,
  ⟨(some 28), .pick (.t 24) (.t 27) (.c (.bool false)), none⟩,
  ⟨(some 29), .mv (.t 28), none⟩,
  ⟨(some 30), .call (.c (.func (.func 32) [] [])) [], some (29, true)⟩,
  ⟨(some 31), .pick (.t 29) (.t 30) (.c (.bool false)), none⟩,
  ⟨(some 4), .mv (.t 31), none⟩]) (
 .ret)))), [.tmp 4]⟩
def x7 : XF := ⟨42, .seq (
 .ops [
  ⟨(some 4), .box 72 (.t 1), none⟩,
  ⟨(some 6), .mv (.c (.bool false)), none⟩]) (
 .seq (
 .ops [
  ⟨(some 12), .mv (.t 0), none⟩,
  ⟨(some 13), .iad (some 2) 1 (.t 4) (.c (.int .i64 0)), none⟩,
  ⟨(some 14), .ld1 (.t 13), none⟩,
  ⟨(some 15), .iad (some 2) 1 (.t 4) (.c (.int .i64 1)), none⟩,
  ⟨(some 16), .ld1 (.t 15), none⟩,
  ⟨(some 17), .mv (.t 2), none⟩,
  ⟨(some 18), .call (.c (.func (.func 31) [] [])) [(.t 12), (.t 14), (.t 16), (.t 17)], none⟩,
  ⟨(some 11), .mv (.t 18), none⟩,
  ⟨(some 19), .ext 0 (.t 11), none⟩,
  ⟨(some 20), .ext 1 (.t 11), none⟩,
  ⟨(some 7), .mv (.t 19), none⟩,
  ⟨(some 8), .mv (.t 20), none⟩]) (
 .seq (
 .ops [
  ⟨(some 22), .mv (.t 0), none⟩,
  ⟨(some 23), .iad (some 2) 1 (.t 4) (.c (.int .i64 0)), none⟩,
  ⟨(some 24), .ld1 (.t 23), none⟩,
  ⟨(some 25), .iad (some 2) 1 (.t 4) (.c (.int .i64 1)), none⟩,
  ⟨(some 26), .ld1 (.t 25), none⟩,
  ⟨(some 27), .mv (.t 2), none⟩,
  ⟨(some 28), .call (.c (.func (.func 44) [] [])) [(.t 22), (.t 24), (.t 26), (.t 27)], none⟩,
  ⟨(some 21), .mv (.t 28), none⟩,
  ⟨(some 29), .ext 0 (.t 21), none⟩,
  ⟨(some 30), .ext 1 (.t 21), none⟩,
  ⟨(some 9), .mv (.t 29), none⟩,
  ⟨(some 10), .mv (.t 30), none⟩]) (
 .seq (
 .ops [
  ⟨(some 31), .mv (.t 7), none⟩,
  ⟨(some 32), .mv (.t 9), none⟩,
  ⟨(some 33), .bin .eql (.t 31) (.t 32), none⟩,
  ⟨(some 34), .mv (.t 33), none⟩,
  ⟨(some 35), .mv (.t 8), some (34, true)⟩,
  ⟨(some 36), .mv (.t 10), some (34, true)⟩,
  ⟨(some 37), .bin .eql (.t 35) (.t 36), some (34, true)⟩,
  ⟨(some 38), .pick (.t 34) (.t 37) (.c (.bool false)), none⟩,
  ⟨(some 39), .mv (.t 38), none⟩,
  ⟨(some 40), .call (.c (.func (.func 32) [] [])) [], some (39, true)⟩,
  ⟨(some 41), .pick (.t 39) (.t 40) (.c (.bool false)), none⟩,
  ⟨(some 6), .mv (.t 41), none⟩]) (
 .ret)))), [.tmp 6]⟩
def x26 : XF := ⟨88, .seq (
 .ops [
  ⟨(some 4), .mv (.c (.slice none 0 true 0)), none⟩,
  ⟨(some 5), .mv (.c (.int .i64 0)), none⟩]) (
 .seq (
 .seq (
 .ops [
  ⟨(some 14), .mv (.t 0), none⟩,
  ⟨(some 15), .build [(.int .i64 0), (.int .i64 0), (.slice none 0 true 0)] [(2, 1, (.t 14))], none⟩,
  ⟨(some 16), .call (.c (.func (.func 16) [] [])) [(.t 15)], none⟩,
  ⟨(some 17), .bin .neq (.t 16) (.c (.int .i64 0)), none⟩]) (
 .cond (.t 17) (
  .seq (
  .ops [
   ⟨(some 4), .mv (.c (.slice none 0 true 0)), none⟩,
   ⟨(some 5), .mv (.c (.int .i64 80)), none⟩]) (
  .ret)) (
  .skip))) (
 .seq (
 .seq (
 .ops [
  ⟨(some 18), .mv (.t 1), none⟩,
  ⟨(some 19), .call (.c (.func (.func 59) [] [])) [(.t 18), (.c (.int .i64 0)), (.c (.int .i64 65535))], none⟩,
  ⟨(some 20), .un .not (.t 19), none⟩]) (
 .cond (.t 20) (
  .seq (
  .ops [
   ⟨(some 4), .mv (.c (.slice none 0 true 0)), none⟩,
   ⟨(some 5), .mv (.c (.int .i64 7)), none⟩]) (
  .ret)) (
  .skip))) (
 .seq (
 .seq (
 .ops [
  ⟨(some 21), .mv (.t 0), none⟩,
  ⟨(some 22), .call (.c (.func (.func 60) [] [])) [(.t 21), (.c (.func (.func 79) [] []))], none⟩,
  ⟨(some 23), .un .not (.t 22), none⟩]) (
 .cond (.t 23) (
  .seq (
  .ops [
   ⟨(some 4), .mv (.c (.slice none 0 true 0)), none⟩,
   ⟨(some 5), .mv (.c (.int .i64 4)), none⟩]) (
  .ret)) (
  .skip))) (
 .seq (
 .ops [
  ⟨(some 6), .mv (.c (.slice none 0 true 0)), none⟩]) (
 .seq (
 .seq (
 .ops [
  ⟨(some 24), .mv (.t 0), none⟩,
  ⟨(some 25), .len .sl (.t 24), none⟩,
  ⟨(some 26), .mv (.c (.int .i64 0)), none⟩]) (
 .block 0 (
  .loop (
   .seq (
   .ops [
    ⟨(some 27), .bin .lss (.t 26) (.t 25), none⟩]) (
   .seq (
   .cond (.t 27) (
    .skip) (
    .exit 0)) (
   .seq (
   .block 1 (
    .seq (
    .ops [
     ⟨(some 28), .mv (.t 26), none⟩,
     ⟨(some 7), .mv (.t 28), none⟩]) (
    .seq (
    .ops [
     ⟨(some 29), .build [(.int .i64 0), (.int .i64 0)] [(0, 1, (.c (.int .i64 (-32767)))), (1, 1, (.c (.int .i64 32767)))], none⟩,
     ⟨(some 8), .new 83 [(.int .i64 0), (.int .i64 0)], none⟩,
     ⟨none, .st 2 (.t 8) (.t 29), none⟩]) (
    .seq (
    .seq (
    .ops [
     ⟨(some 30), .mv (.t 0), none⟩,
     ⟨(some 31), .len .sl (.t 30), none⟩,
     ⟨(some 32), .mv (.c (.int .i64 0)), none⟩]) (
    .block 2 (
     .loop (
      .seq (
      .ops [
       ⟨(some 33), .bin .lss (.t 32) (.t 31), none⟩]) (
      .seq (
      .cond (.t 33) (
       .skip) (
       .exit 2)) (
      .seq (
      .block 3 (
       .seq (
       .ops [
        ⟨(some 34), .mv (.t 32), none⟩,
        ⟨(some 35), .iad none 1 (.t 30) (.t 32), none⟩,
        ⟨(some 36), .ld1 (.t 35), none⟩,
        ⟨(some 9), .mv (.t 34), none⟩,
        ⟨(some 10), .mv (.t 36), none⟩]) (
       .seq (
       .ops [
        ⟨(some 37), .mv (.t 10), none⟩,
        ⟨(some 38), .call (.c (.func (.func 79) [] [])) [(.t 37)], none⟩]) (
       .cond (.t 38) (
        .seq (
        .ops [
         ⟨(some 39), .mv (.t 1), none⟩,
         ⟨(some 40), .mv (.t 7), none⟩,
         ⟨(some 41), .mv (.t 9), none⟩,
         ⟨(some 42), .bin .sub (.t 40) (.t 41), none⟩,
         ⟨(some 43), .mv (.t 9), none⟩,
         ⟨(some 44), .mv (.t 7), none⟩,
         ⟨(some 45), .bin .sub (.t 43) (.t 44), none⟩,
         ⟨(some 46), .max [(.t 42), (.t 45)], none⟩,
         ⟨(some 47), .bin .mul (.t 39) (.t 46), none⟩,
         ⟨(some 11), .mv (.t 47), none⟩]) (
        .ops [
         ⟨(some 48), .fad 0 (.t 8), none⟩,
         ⟨(some 49), .ld1 (.t 48), none⟩,
         ⟨(some 50), .mv (.t 10), none⟩,
         ⟨(some 51), .mv (.t 11), none⟩,
         ⟨(some 52), .bin .sub (.t 50) (.t 51), none⟩,
         ⟨(some 53), .max [(.t 49), (.t 52)], none⟩,
         ⟨(some 54), .fad 1 (.t 8), none⟩,
         ⟨(some 55), .ld1 (.t 54), none⟩,
         ⟨(some 56), .mv (.t 10), none⟩,
         ⟨(some 57), .mv (.t 11), none⟩,
         ⟨(some 58), .bin .add (.t 56) (.t 57), none⟩,
         ⟨(some 59), .min [(.t 55), (.t 58)], none⟩,
         ⟨(some 60), .build [(.int .i64 0), (.int .i64 0)] [(0, 1, (.t 53)), (1, 1, (.t 59))], none⟩,
         ⟨none, .st 2 (.t 8) (.t 60), none⟩])) (
        .skip))))) (
      .ops [
       ⟨(some 61), .bin .add (.t 32) (.c (.int .i64 1)), none⟩,
       ⟨(some 32), .mv (.t 61), none⟩]))))))) (
    .ops [
     ⟨(some 62), .mv (.t 6), none⟩,
     ⟨(some 63), .ldN 2 (.t 8), none⟩,
     ⟨(some 64), .bsl 83 2 1 [(.int .i64 0), (.int .i64 0)] [(0, 2, (.t 63))], none⟩,
     ⟨(some 65), .app 83 2 16 [(.int .i64 0), (.int .i64 0)] (.t 62) (.t 64), none⟩,
     ⟨(some 6), .mv (.t 65), none⟩]))))) (
   .ops [
    ⟨(some 66), .bin .add (.t 26) (.c (.int .i64 1)), none⟩,
    ⟨(some 26), .mv (.t 66), none⟩]))))))) (
 .seq (
 .seq (
 .ops [
  ⟨(some 67), .mv (.t 0), none⟩,
  ⟨(some 68), .len .sl (.t 67), none⟩,
  ⟨(some 69), .mv (.c (.int .i64 0)), none⟩]) (
 .block 4 (
  .loop (
   .seq (
   .ops [
    ⟨(some 70), .bin .lss (.t 69) (.t 68), none⟩]) (
   .seq (
   .cond (.t 70) (
    .skip) (
    .exit 4)) (
   .seq (
   .block 5 (
    .seq (
    .ops [
     ⟨(some 71), .mv (.t 69), none⟩,
     ⟨(some 72), .iad none 1 (.t 67) (.t 69), none⟩,
     ⟨(some 73), .ld1 (.t 72), none⟩,
     ⟨(some 12), .mv (.t 71), none⟩,
     ⟨(some 13), .mv (.t 73), none⟩]) (
    .seq (
    .ops [
     ⟨(some 74), .mv (.t 13), none⟩,
     ⟨(some 75), .call (.c (.func (.func 79) [] [])) [(.t 74)], none⟩,
     ⟨(some 76), .mv (.t 75), none⟩,
     ⟨(some 77), .mv (.t 6), some (76, true)⟩,
     ⟨(some 78), .mv (.t 12), some (76, true)⟩,
     ⟨(some 79), .iad none 2 (.t 77) (.t 78), some (76, true)⟩,
     ⟨(some 80), .ldN 2 (.t 79), some (76, true)⟩,
     ⟨(some 81), .mv (.t 13), some (76, true)⟩,
     ⟨(some 82), .mv (.t 13), some (76, true)⟩,
     ⟨(some 83), .build [(.int .i64 0), (.int .i64 0)] [(0, 1, (.t 81)), (1, 1, (.t 82))], some (76, true)⟩,
     ⟨(some 84), .eqs true 2 [0, 1] (.t 80) (.t 83), some (76, true)⟩,
     ⟨(some 85), .pick (.t 76) (.t 84) (.c (.bool false)), none⟩]) (
    .cond (.t 85) (
     .seq (
     .ops [
      ⟨(some 4), .mv (.c (.slice none 0 true 0)), none⟩,
      ⟨(some 5), .mv (.c (.int .i64 83)), none⟩]) (
     .ret)) (
     .skip))))) (
   .ops [
    ⟨(some 86), .bin .add (.t 69) (.c (.int .i64 1)), none⟩,
    ⟨(some 69), .mv (.t 86), none⟩]))))))) (
 .seq (
 .ops [
  ⟨(some 87), .mv (.t 6), none⟩,
  ⟨(some 4), .mv (.t 87), none⟩,
  ⟨(some 5), .mv (.c (.int .i64 0)), none⟩]) (
 .ret)))))))), [.tmp 4, .tmp 5]⟩
theorem k6 : cFn Tryz.prog 6 = some x6 := by kernel_rfl
theorem k7 : cFn Tryz.prog 7 = some x7 := by kernel_rfl
theorem k26 : cFn Tryz.prog 26 = some x26 := by kernel_rfl
def x46 : XF := ⟨7, .seq (
 .ops [
  ⟨(some 2), .mv (.c (.int .i64 0)), none⟩]) (
 .seq (
 .ops [
  ⟨(some 3), .mv (.t 0), none⟩,
  ⟨(some 4), .mv (.t 0), none⟩,
  ⟨(some 5), .un .neg (.t 4), none⟩,
  ⟨(some 6), .max [(.t 3), (.t 5)], none⟩,
  ⟨(some 2), .mv (.t 6), none⟩]) (
 .ret)), [.tmp 2]⟩
theorem k46 : cFn Tryz.prog 46 = some x46 := by kernel_rfl
def x48 : XF := ⟨16, .seq (
 .ops [
  ⟨(some 4), .mv (.c (.int .i64 0)), none⟩]) (
 .seq (
 .seq (
 .ops [
  ⟨(some 5), .mv (.t 1), none⟩,
  ⟨(some 6), .bin .lss (.t 5) (.c (.int .i64 1)), none⟩]) (
 .cond (.t 6) (
  .seq (
  .ops [
   ⟨(some 4), .mv (.c (.int .i64 0)), none⟩]) (
  .ret)) (
  .skip))) (
 .seq (
 .ops [
  ⟨(some 7), .mv (.t 0), none⟩,
  ⟨(some 8), .mv (.t 1), none⟩,
  ⟨(some 9), .bin .rem (.t 7) (.t 8), none⟩,
  ⟨(some 0), .mv (.t 9), none⟩]) (
 .seq (
 .seq (
 .ops [
  ⟨(some 10), .mv (.t 0), none⟩,
  ⟨(some 11), .bin .lss (.t 10) (.c (.int .i64 0)), none⟩]) (
 .cond (.t 11) (
  .ops [
   ⟨(some 12), .mv (.t 0), none⟩,
   ⟨(some 13), .mv (.t 1), none⟩,
   ⟨(some 14), .bin .add (.t 12) (.t 13), none⟩,
   ⟨(some 0), .mv (.t 14), none⟩]) (
  .skip))) (
 .seq (
 .ops [
  ⟨(some 15), .mv (.t 0), none⟩,
  ⟨(some 4), .mv (.t 15), none⟩]) (
 .ret))))), [.tmp 4]⟩
theorem k48 : cFn Tryz.prog 48 = some x48 := by kernel_rfl
def x10 : XF := ⟨219, .seq (
 .ops [
  ⟨(some 6), .mv (.c (.bool false)), none⟩]) (
 .seq (
 .ops [
  ⟨(some 17), .mv (.t 0), none⟩,
  ⟨(some 18), .mv (.t 0), none⟩,
  ⟨(some 19), .len .sl (.t 18), none⟩,
  ⟨(some 20), .min [(.t 19), (.c (.int .i64 64))], none⟩,
  ⟨(some 21), .slc 1 (.t 17) none (some (.t 20)) none, none⟩,
  ⟨(some 0), .mv (.t 21), none⟩]) (
 .seq (
 .seq (
 .ops [
  ⟨(some 7), .mv (.c (.int .i64 0)), none⟩]) (
 .block 0 (
  .loop (
   .seq (
   .seq (
   .ops [
    ⟨(some 22), .mv (.t 7), none⟩,
    ⟨(some 23), .mv (.t 0), none⟩,
    ⟨(some 24), .len .sl (.t 23), none⟩,
    ⟨(some 25), .bin .lss (.t 22) (.t 24), none⟩]) (
   .cond (.t 25) (
    .skip) (
    .exit 0))) (
   .seq (
   .block 1 (
    .seq (
    .draw [
     (⟨(some 28), .mv (.t 0), none⟩, .calm),
     (⟨(some 29), .mv (.t 7), none⟩, .calm),
     (⟨(some 30), .iad none 1 (.t 28) (.t 29), none⟩, .calm),
     (⟨(some 31), .ld1 (.t 30), none⟩, .reads 0 0),
     (⟨(some 32), .call (.c (.func (.func 45) [] [])) [(.t 31), (.c (.int .i64 (-32767))), (.c (.int .i64 32767))], none⟩, .new),
     (⟨(some 33), .un .not (.t 32), none⟩, .calm),
     (⟨(some 34), .mv (.t 33), none⟩, .calm),
     (⟨(some 35), .mv (.t 7), some (34, false)⟩, .calm),
     (⟨(some 36), .bin .gtr (.t 35) (.c (.int .i64 0)), some (34, false)⟩, .calm),
     (⟨(some 37), .mv (.t 36), some (34, false)⟩, .calm),
     (⟨(some 38), .mv (.t 0), some (37, true)⟩, .calm),
     (⟨(some 39), .mv (.t 7), some (37, true)⟩, .calm),
     (⟨(some 40), .iad none 1 (.t 38) (.t 39), some (37, true)⟩, .calm),
     (⟨(some 41), .ld1 (.t 40), some (37, true)⟩, .reads 0 0),
     (⟨(some 42), .mv (.t 0), some (37, true)⟩, .calm),
     (⟨(some 43), .mv (.t 7), some (37, true)⟩, .calm),
     (⟨(some 44), .bin .sub (.t 43) (.c (.int .i64 1)), some (37, true)⟩, .calm),
     (⟨(some 45), .iad none 1 (.t 42) (.t 44), some (37, true)⟩, .calm),
     (⟨(some 46), .ld1 (.t 45), some (37, true)⟩, .reads 0 0),
     (⟨(some 47), .bin .sub (.t 41) (.t 46), some (37, true)⟩, .calm),
     (⟨(some 48), .call (.c (.func (.func 46) [] [])) [(.t 47)], some (37, true)⟩, .new),
     (⟨(some 49), .mv (.t 1), some (37, true)⟩, .calm),
     (⟨(some 50), .bin .gtr (.t 48) (.t 49), some (37, true)⟩, .calm),
     (⟨(some 51), .pick (.t 37) (.t 50) (.c (.bool false)), some (34, false)⟩, .calm),
     (⟨(some 52), .pick (.t 34) (.c (.bool true)) (.t 51), none⟩, .calm)]) (
    .cond (.t 52) (
     .seq (
     .ops [
      ⟨(some 53), .call (.c (.func (.func 32) [] [])) [], none⟩,
      ⟨(some 6), .mv (.t 53), none⟩]) (
     .ret)) (
     .skip)))) (
   .ops [
    ⟨(some 26), .mv (.t 7), none⟩,
    ⟨(some 27), .bin .add (.t 26) (.c (.int .i64 1)), none⟩,
    ⟨(some 7), .mv (.t 27), none⟩])))))) (
 .seq (
 .seq (
 .ops [
  ⟨(some 54), .mv (.t 1), none⟩,
  ⟨(some 55), .call (.c (.func (.func 45) [] [])) [(.t 54), (.c (.int .i64 0)), (.c (.int .i64 65526))], none⟩,
  ⟨(some 56), .un .not (.t 55), none⟩,
  ⟨(some 57), .mv (.t 56), none⟩,
  ⟨(some 58), .mv (.t 0), some (57, false)⟩,
  ⟨(some 59), .len .sl (.t 58), some (57, false)⟩,
  ⟨(some 60), .bin .eql (.t 59) (.c (.int .i64 0)), some (57, false)⟩,
  ⟨(some 61), .pick (.t 57) (.c (.bool true)) (.t 60), none⟩]) (
 .cond (.t 61) (
  .seq (
  .ops [
   ⟨(some 62), .call (.c (.func (.func 32) [] [])) [], none⟩,
   ⟨(some 6), .mv (.t 62), none⟩]) (
  .ret)) (
  .skip))) (
 .seq (
 .ops [
  ⟨(some 63), .mv (.t 0), none⟩,
  ⟨(some 64), .call (.c (.func (.func 47) [] [])) [(.t 63)], none⟩,
  ⟨(some 8), .mv (.t 64), none⟩]) (
 .seq (
 .seq (
 .ops [
  ⟨(some 9), .mv (.c (.int .i64 0)), none⟩]) (
 .block 2 (
  .loop (
   .seq (
   .seq (
   .ops [
    ⟨(some 65), .mv (.t 9), none⟩,
    ⟨(some 66), .mv (.t 8), none⟩,
    ⟨(some 67), .len .sl (.t 66), none⟩,
    ⟨(some 68), .bin .lss (.t 65) (.t 67), none⟩]) (
   .cond (.t 68) (
    .skip) (
    .exit 2))) (
   .seq (
   .block 3 (
    .seq (
    .ops [
     ⟨(some 71), .mv (.t 2), none⟩,
     ⟨(some 72), .mv (.t 9), none⟩,
     ⟨(some 73), .call (.c (.func (.func 49) [] [])) [(.t 71), (.t 72)], none⟩,
     ⟨(some 74), .call (.c (.func (.func 48) [] [])) [(.t 73), (.c (.int .i64 2))], none⟩,
     ⟨(some 75), .bin .eql (.t 74) (.c (.int .i64 1)), none⟩,
     ⟨(some 76), .mv (.t 75), none⟩,
     ⟨(some 77), .mv (.t 9), some (76, true)⟩,
     ⟨(some 78), .mv (.t 2), some (76, true)⟩,
     ⟨(some 79), .len .sl (.t 78), some (76, true)⟩,
     ⟨(some 80), .mv (.t 0), some (76, true)⟩,
     ⟨(some 81), .len .sl (.t 80), some (76, true)⟩,
     ⟨(some 82), .call (.c (.func (.func 48) [] [])) [(.t 79), (.t 81)], some (76, true)⟩,
     ⟨(some 83), .bin .neq (.t 77) (.t 82), some (76, true)⟩,
     ⟨(some 84), .pick (.t 76) (.t 83) (.c (.bool false)), none⟩]) (
    .cond (.t 84) (
     .ops [
      ⟨(some 85), .mv (.t 8), none⟩,
      ⟨(some 86), .mv (.t 9), none⟩,
      ⟨(some 87), .iad none 1 (.t 85) (.t 86), none⟩,
      ⟨none, .st 1 (.t 87) (.c (.int .i64 40000)), none⟩]) (
     .skip)))) (
   .ops [
    ⟨(some 69), .mv (.t 9), none⟩,
    ⟨(some 70), .bin .add (.t 69) (.c (.int .i64 1)), none⟩,
    ⟨(some 9), .mv (.t 70), none⟩])))))) (
 .seq (
 .ops [
  ⟨(some 89), .mv (.t 8), none⟩,
  ⟨(some 90), .mv (.t 1), none⟩,
  ⟨(some 91), .call (.c (.func (.func 26) [] [])) [(.t 89), (.t 90)], none⟩,
  ⟨(some 88), .mv (.t 91), none⟩,
  ⟨(some 92), .ext 0 (.t 88), none⟩,
  ⟨(some 93), .ext 1 (.t 88), none⟩,
  ⟨(some 10), .mv (.t 92), none⟩,
  ⟨(some 11), .mv (.t 93), none⟩]) (
 .seq (
 .ops [
  ⟨(some 95), .mv (.t 8), none⟩,
  ⟨(some 96), .mv (.t 1), none⟩,
  ⟨(some 97), .bin .add (.t 96) (.c (.int .i64 9)), none⟩,
  ⟨(some 98), .call (.c (.func (.func 26) [] [])) [(.t 95), (.t 97)], none⟩,
  ⟨(some 94), .mv (.t 98), none⟩,
  ⟨(some 99), .ext 0 (.t 94), none⟩,
  ⟨(some 100), .ext 1 (.t 94), none⟩,
  ⟨(some 12), .mv (.t 99), none⟩,
  ⟨(some 13), .mv (.t 100), none⟩]) (
 .seq (
 .ops [
  ⟨(some 102), .mv (.t 0), none⟩,
  ⟨(some 103), .mv (.t 1), none⟩,
  ⟨(some 104), .call (.c (.func (.func 26) [] [])) [(.t 102), (.t 103)], none⟩,
  ⟨(some 101), .mv (.t 104), none⟩,
  ⟨(some 105), .ext 0 (.t 101), none⟩,
  ⟨(some 106), .ext 1 (.t 101), none⟩,
  ⟨(some 14), .mv (.t 105), none⟩,
  ⟨(some 15), .mv (.t 106), none⟩]) (
 .seq (
 .seq (
 .ops [
  ⟨(some 107), .mv (.t 11), none⟩,
  ⟨(some 108), .bin .neq (.t 107) (.c (.int .i64 0)), none⟩,
  ⟨(some 109), .mv (.t 108), none⟩,
  ⟨(some 110), .mv (.t 13), some (109, false)⟩,
  ⟨(some 111), .bin .neq (.t 110) (.c (.int .i64 0)), some (109, false)⟩,
  ⟨(some 112), .pick (.t 109) (.c (.bool true)) (.t 111), none⟩,
  ⟨(some 113), .mv (.t 112), none⟩,
  ⟨(some 114), .mv (.t 15), some (113, false)⟩,
  ⟨(some 115), .bin .neq (.t 114) (.c (.int .i64 0)), some (113, false)⟩,
  ⟨(some 116), .pick (.t 113) (.c (.bool true)) (.t 115), none⟩,
  ⟨(some 117), .mv (.t 116), none⟩,
  ⟨(some 118), .mv (.t 10), some (117, false)⟩,
  ⟨(some 119), .len .sl (.t 118), some (117, false)⟩,
  ⟨(some 120), .mv (.t 0), some (117, false)⟩,
  ⟨(some 121), .len .sl (.t 120), some (117, false)⟩,
  ⟨(some 122), .bin .neq (.t 119) (.t 121), some (117, false)⟩,
  ⟨(some 123), .pick (.t 117) (.c (.bool true)) (.t 122), none⟩,
  ⟨(some 124), .mv (.t 123), none⟩,
  ⟨(some 125), .mv (.t 12), some (124, false)⟩,
  ⟨(some 126), .len .sl (.t 125), some (124, false)⟩,
  ⟨(some 127), .mv (.t 0), some (124, false)⟩,
  ⟨(some 128), .len .sl (.t 127), some (124, false)⟩,
  ⟨(some 129), .bin .neq (.t 126) (.t 128), some (124, false)⟩,
  ⟨(some 130), .pick (.t 124) (.c (.bool true)) (.t 129), none⟩,
  ⟨(some 131), .mv (.t 130), none⟩,
  ⟨(some 132), .mv (.t 14), some (131, false)⟩,
  ⟨(some 133), .len .sl (.t 132), some (131, false)⟩,
  ⟨(some 134), .mv (.t 0), some (131, false)⟩,
  ⟨(some 135), .len .sl (.t 134), some (131, false)⟩,
  ⟨(some 136), .bin .neq (.t 133) (.t 135), some (131, false)⟩,
  ⟨(some 137), .pick (.t 131) (.c (.bool true)) (.t 136), none⟩]) (
 .cond (.t 137) (
  .seq (
  .ops [
   ⟨(some 6), .mv (.c (.bool false)), none⟩]) (
  .ret)) (
  .skip))) (
 .seq (
 .seq (
 .ops [
  ⟨(some 16), .mv (.c (.int .i64 0)), none⟩]) (
 .block 4 (
  .loop (
   .seq (
   .seq (
   .ops [
    ⟨(some 138), .mv (.t 16), none⟩,
    ⟨(some 139), .mv (.t 0), none⟩,
    ⟨(some 140), .len .sl (.t 139), none⟩,
    ⟨(some 141), .bin .lss (.t 138) (.t 140), none⟩]) (
   .cond (.t 141) (
    .skip) (
    .exit 4))) (
   .seq (
   .block 5 (
    .seq (
    .seq (
    .draw [
     (⟨(some 144), .mv (.t 0), none⟩, .calm),
     (⟨(some 145), .mv (.t 16), none⟩, .calm),
     (⟨(some 146), .iad none 1 (.t 144) (.t 145), none⟩, .calm),
     (⟨(some 147), .ld1 (.t 146), none⟩, .reads 0 0),
     (⟨(some 148), .mv (.t 10), none⟩, .calm),
     (⟨(some 149), .mv (.t 16), none⟩, .calm),
     (⟨(some 150), .iad none 2 (.t 148) (.t 149), none⟩, .calm),
     (⟨(some 151), .fad 0 (.t 150), none⟩, .calm),
     (⟨(some 152), .ld1 (.t 151), none⟩, .reads 0 0),
     (⟨(some 153), .mv (.t 10), none⟩, .calm),
     (⟨(some 154), .mv (.t 16), none⟩, .calm),
     (⟨(some 155), .iad none 2 (.t 153) (.t 154), none⟩, .calm),
     (⟨(some 156), .fad 1 (.t 155), none⟩, .calm),
     (⟨(some 157), .ld1 (.t 156), none⟩, .reads 0 0),
     (⟨(some 158), .call (.c (.func (.func 45) [] [])) [(.t 147), (.t 152), (.t 157)], none⟩, .new),
     (⟨(some 159), .un .not (.t 158), none⟩, .calm),
     (⟨(some 160), .mv (.t 159), none⟩, .calm),
     (⟨(some 161), .mv (.t 12), some (160, false)⟩, .calm),
     (⟨(some 162), .mv (.t 16), some (160, false)⟩, .calm),
     (⟨(some 163), .iad none 2 (.t 161) (.t 162), some (160, false)⟩, .calm),
     (⟨(some 164), .fad 0 (.t 163), some (160, false)⟩, .calm),
     (⟨(some 165), .ld1 (.t 164), some (160, false)⟩, .reads 0 0),
     (⟨(some 166), .mv (.t 10), some (160, false)⟩, .calm),
     (⟨(some 167), .mv (.t 16), some (160, false)⟩, .calm),
     (⟨(some 168), .iad none 2 (.t 166) (.t 167), some (160, false)⟩, .calm),
     (⟨(some 169), .fad 0 (.t 168), some (160, false)⟩, .calm),
     (⟨(some 170), .ld1 (.t 169), some (160, false)⟩, .reads 0 0),
     (⟨(some 171), .bin .gtr (.t 165) (.t 170), some (160, false)⟩, .calm),
     (⟨(some 172), .pick (.t 160) (.c (.bool true)) (.t 171), none⟩, .calm),
     (⟨(some 173), .mv (.t 172), none⟩, .calm),
     (⟨(some 174), .mv (.t 12), some (173, false)⟩, .calm),
     (⟨(some 175), .mv (.t 16), some (173, false)⟩, .calm),
     (⟨(some 176), .iad none 2 (.t 174) (.t 175), some (173, false)⟩, .calm),
     (⟨(some 177), .fad 1 (.t 176), some (173, false)⟩, .calm),
     (⟨(some 178), .ld1 (.t 177), some (173, false)⟩, .reads 0 0),
     (⟨(some 179), .mv (.t 10), some (173, false)⟩, .calm),
     (⟨(some 180), .mv (.t 16), some (173, false)⟩, .calm),
     (⟨(some 181), .iad none 2 (.t 179) (.t 180), some (173, false)⟩, .calm),
     (⟨(some 182), .fad 1 (.t 181), some (173, false)⟩, .calm),
     (⟨(some 183), .ld1 (.t 182), some (173, false)⟩, .reads 0 0),
     (⟨(some 184), .bin .lss (.t 178) (.t 183), some (173, false)⟩, .calm),
     (⟨(some 185), .pick (.t 173) (.c (.bool true)) (.t 184), none⟩, .calm),
     (⟨(some 186), .mv (.t 185), none⟩, .calm),
     (⟨(some 187), .mv (.t 14), some (186, false)⟩, .calm),
     (⟨(some 188), .mv (.t 16), some (186, false)⟩, .calm),
     (⟨(some 189), .iad none 2 (.t 187) (.t 188), some (186, false)⟩, .calm),
     (⟨(some 190), .ldN 2 (.t 189), some (186, false)⟩, .reads 0 0),
     (⟨(some 191), .mv (.t 0), some (186, false)⟩, .calm),
     (⟨(some 192), .mv (.t 16), some (186, false)⟩, .calm),
     (⟨(some 193), .iad none 1 (.t 191) (.t 192), some (186, false)⟩, .calm),
     (⟨(some 194), .ld1 (.t 193), some (186, false)⟩, .reads 0 0),
     (⟨(some 195), .mv (.t 0), some (186, false)⟩, .calm),
     (⟨(some 196), .mv (.t 16), some (186, false)⟩, .calm),
     (⟨(some 197), .iad none 1 (.t 195) (.t 196), some (186, false)⟩, .calm),
     (⟨(some 198), .ld1 (.t 197), some (186, false)⟩, .reads 0 0),
     (⟨(some 199), .build [(.int .i64 0), (.int .i64 0)] [(0, 1, (.t 194)), (1, 1, (.t 198))], some (186, false)⟩, .calm),
     (⟨(some 200), .eqs true 2 [0, 1] (.t 190) (.t 199), some (186, false)⟩, .calm),
     (⟨(some 201), .pick (.t 186) (.c (.bool true)) (.t 200), none⟩, .calm)]) (
    .cond (.t 201) (
     .seq (
     .ops [
      ⟨(some 6), .mv (.c (.bool false)), none⟩]) (
     .ret)) (
     .skip))) (
    .seq (
    .draw [
     (⟨(some 202), .mv (.t 8), none⟩, .calm),
     (⟨(some 203), .mv (.t 16), none⟩, .calm),
     (⟨(some 204), .iad none 1 (.t 202) (.t 203), none⟩, .calm),
     (⟨(some 205), .ld1 (.t 204), none⟩, .reads 0 0),
     (⟨(some 206), .bin .neq (.t 205) (.c (.int .i64 40000)), none⟩, .calm),
     (⟨(some 207), .mv (.t 206), none⟩, .calm),
     (⟨(some 208), .mv (.t 10), some (207, true)⟩, .calm),
     (⟨(some 209), .mv (.t 16), some (207, true)⟩, .calm),
     (⟨(some 210), .iad none 2 (.t 208) (.t 209), some (207, true)⟩, .calm),
     (⟨(some 211), .ldN 2 (.t 210), some (207, true)⟩, .reads 0 0),
     (⟨(some 212), .mv (.t 14), some (207, true)⟩, .calm),
     (⟨(some 213), .mv (.t 16), some (207, true)⟩, .calm),
     (⟨(some 214), .iad none 2 (.t 212) (.t 213), some (207, true)⟩, .calm),
     (⟨(some 215), .ldN 2 (.t 214), some (207, true)⟩, .reads 0 0),
     (⟨(some 216), .eqs true 2 [0, 1] (.t 211) (.t 215), some (207, true)⟩, .calm),
     (⟨(some 217), .pick (.t 207) (.t 216) (.c (.bool false)), none⟩, .calm)]) (
    .cond (.t 217) (
     .seq (
     .ops [
      ⟨(some 6), .mv (.c (.bool false)), none⟩]) (
     .ret)) (
     .skip))))) (
   .ops [
    ⟨(some 142), .mv (.t 16), none⟩,
    ⟨(some 143), .bin .add (.t 142) (.c (.int .i64 1)), none⟩,
    ⟨(some 16), .mv (.t 143), none⟩])))))) (
 .seq (
 .ops [
  ⟨(some 218), .call (.c (.func (.func 32) [] [])) [], none⟩,
  ⟨(some 6), .mv (.t 218), none⟩]) (
 .ret)))))))))))), [.tmp 6]⟩
def x47 : XF := ⟨7, .seq (
 .ops [
  ⟨(some 2), .mv (.c (.slice none 0 true 0)), none⟩]) (
 .seq (
 .ops [
  ⟨(some 3), .mv (.c (.slice none 0 true 0)), none⟩]) (
 .seq (
 .ops [
  ⟨(some 4), .mv (.t 3), none⟩,
  ⟨(some 5), .mv (.t 0), none⟩,
  ⟨(some 6), .app 3 1 8 [(.int .i64 0)] (.t 4) (.t 5), none⟩,
  ⟨(some 2), .mv (.t 6), none⟩]) (
 .ret))), [.tmp 2]⟩
def x49 : XF := ⟨15, .seq (
 .ops [
  ⟨(some 4), .mv (.c (.int .i64 0)), none⟩]) (
 .seq (
 .seq (
 .ops [
  ⟨(some 5), .mv (.t 0), none⟩,
  ⟨(some 6), .len .sl (.t 5), none⟩,
  ⟨(some 7), .bin .eql (.t 6) (.c (.int .i64 0)), none⟩]) (
 .cond (.t 7) (
  .seq (
  .ops [
   ⟨(some 4), .mv (.c (.int .i64 0)), none⟩]) (
  .ret)) (
  .skip))) (
 .seq (
 .ops [
  ⟨(some 8), .mv (.t 0), none⟩,
  ⟨(some 9), .mv (.t 1), none⟩,
  ⟨(some 10), .mv (.t 0), none⟩,
  ⟨(some 11), .len .sl (.t 10), none⟩,
  ⟨(some 12), .call (.c (.func (.func 48) [] [])) [(.t 9), (.t 11)], none⟩,
  ⟨(some 13), .iad none 1 (.t 8) (.t 12), none⟩,
  ⟨(some 14), .ld1 (.t 13), none⟩,
  ⟨(some 4), .mv (.t 14), none⟩]) (
 .ret))), [.tmp 4]⟩
theorem k10 : cFn Tryz.prog 10 = some x10 := by kernel_rfl
theorem k47 : cFn Tryz.prog 47 = some x47 := by kernel_rfl
theorem k49 : cFn Tryz.prog 49 = some x49 := by kernel_rfl
end Go.Proofs.YtlfkmgpngkbhpaaGreatDoor.C
end
