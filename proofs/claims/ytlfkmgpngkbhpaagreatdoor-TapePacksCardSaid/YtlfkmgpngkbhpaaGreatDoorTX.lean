/-
 Part of the proof of TapePacks: what functions of the program and of the statement come to, walked by the rules. No condition beyond those in each theorem.
-/
import Derived.Test.YtlfkmgpngkbhpaaGreatDoorTA
import Derived.Test.YtlfkmgpngkbhpaaGreatDoorPvF
section
open Go PvL Go.Proofs
set_option linter.unusedVariables false
namespace Go.Proofs.YtlfkmgpngkbhpaaGreatDoor.C
def x35 : XF := ⟨29, .seq (
 .ops [
  ⟨(some 2), .mv (.c (.int .i64 0)), none⟩]) (
 .seq (
 .ops [
  ⟨(some 3), .mv (.c (.int .i64 65535)), none⟩]) (
 .seq (
 .seq (
 .ops [
  ⟨(some 5), .mv (.t 0), none⟩,
  ⟨(some 6), .len .str (.t 5), none⟩,
  ⟨(some 7), .mv (.c (.int .i64 0)), none⟩]) (
 .block 0 (
  .loop (
   .seq (
   .ops [
    ⟨(some 8), .bin .lss (.t 7) (.t 6), none⟩]) (
   .seq (
   .cond (.t 8) (
    .skip) (
    .exit 0)) (
   .seq (
   .block 1 (
    .seq (
    .ops [
     ⟨(some 9), .mv (.t 7), none⟩,
     ⟨(some 4), .mv (.t 9), none⟩]) (
    .seq (
    .ops [
     ⟨(some 10), .mv (.t 3), none⟩,
     ⟨(some 11), .mv (.t 0), none⟩,
     ⟨(some 12), .mv (.t 4), none⟩,
     ⟨(some 13), .idxS (.t 11) (.t 12), none⟩,
     ⟨(some 14), .conv .i64 (.t 13), none⟩,
     ⟨(some 15), .bin .shl (.t 14) (.c (.int .u64 8)), none⟩,
     ⟨(some 16), .bin .xor (.t 10) (.t 15), none⟩,
     ⟨(some 3), .mv (.t 16), none⟩]) (
    .seq (
    .ops [
     ⟨(some 17), .mv (.c (.int .i64 0)), none⟩]) (
    .block 2 (
     .loop (
      .seq (
      .ops [
       ⟨(some 18), .bin .lss (.t 17) (.c (.int .i64 8)), none⟩]) (
      .seq (
      .cond (.t 18) (
       .skip) (
       .exit 2)) (
      .seq (
      .block 3 (
       .seq (
       .ops [
        ⟨(some 19), .mv (.t 3), none⟩,
        ⟨(some 20), .bin .shl (.t 19) (.c (.int .u64 1)), none⟩,
        ⟨(some 3), .mv (.t 20), none⟩]) (
       .seq (
       .ops [
        ⟨(some 21), .mv (.t 3), none⟩,
        ⟨(some 22), .bin .gtr (.t 21) (.c (.int .i64 65535)), none⟩]) (
       .cond (.t 22) (
        .ops [
         ⟨(some 23), .mv (.t 3), none⟩,
         ⟨(some 24), .bin .and (.t 23) (.c (.int .i64 65535)), none⟩,
         ⟨(some 25), .bin .xor (.t 24) (.c (.int .i64 4129)), none⟩,
         ⟨(some 3), .mv (.t 25), none⟩]) (
        .skip))))) (
      .ops [
       ⟨(some 26), .bin .add (.t 17) (.c (.int .i64 1)), none⟩,
       ⟨(some 17), .mv (.t 26), none⟩])))))))))) (
   .ops [
    ⟨(some 27), .bin .add (.t 7) (.c (.int .i64 1)), none⟩,
    ⟨(some 7), .mv (.t 27), none⟩]))))))) (
 .seq (
 .ops [
  ⟨(some 28), .mv (.t 3), none⟩,
  ⟨(some 2), .mv (.t 28), none⟩]) (
 .ret)))), [.tmp 2]⟩
def x45 : XF := ⟨15, .seq (
 .ops [
  ⟨(some 6), .mv (.c (.bool false)), none⟩]) (
 .seq (
 .ops [
  ⟨(some 7), .mv (.t 0), none⟩,
  ⟨(some 8), .mv (.t 1), none⟩,
  ⟨(some 9), .bin .geq (.t 7) (.t 8), none⟩,
  ⟨(some 10), .mv (.t 9), none⟩,
  ⟨(some 11), .mv (.t 0), some (10, true)⟩,
  ⟨(some 12), .mv (.t 2), some (10, true)⟩,
  ⟨(some 13), .bin .leq (.t 11) (.t 12), some (10, true)⟩,
  ⟨(some 14), .pick (.t 10) (.t 13) (.c (.bool false)), none⟩,
  ⟨(some 6), .mv (.t 14), none⟩]) (
 .ret)), [.tmp 6]⟩
theorem k35 : cFn Tryz.prog 35 = some x35 := by kernel_rfl
theorem k45 : cFn Tryz.prog 45 = some x45 := by kernel_rfl
def x5 : XF := ⟨32, .seq (
 .ops [
  ⟨(some 2), .box 24 (.t 0), none⟩,
  ⟨(some 3), .box 24 (.t 1), none⟩,
  ⟨(some 4), .mv (.c (.bool false)), none⟩]) (
 .seq (
 .ops [
  ⟨(some 10), .ldN 3 (.t 2), none⟩,
  ⟨(some 11), .ldN 3 (.t 3), none⟩,
  ⟨(some 12), .call (.c (.func (.func 21) [] [])) [(.t 10), (.t 11)], none⟩,
  ⟨(some 9), .mv (.t 12), none⟩,
  ⟨(some 13), .ext 0 (.t 9), none⟩,
  ⟨(some 14), .ext 1 (.t 9), none⟩,
  ⟨(some 5), .new 24 [(.int .i64 0), (.int .i64 0), (.slice none 0 true 0)], none⟩,
  ⟨none, .st 3 (.t 5) (.t 13), none⟩,
  ⟨(some 6), .mv (.t 14), none⟩]) (
 .seq (
 .ops [
  ⟨(some 16), .ldN 3 (.t 2), none⟩,
  ⟨(some 17), .ldN 3 (.t 3), none⟩,
  ⟨(some 18), .call (.c (.func (.func 40) [] [])) [(.t 16), (.t 17)], none⟩,
  ⟨(some 15), .mv (.t 18), none⟩,
  ⟨(some 19), .ext 0 (.t 15), none⟩,
  ⟨(some 20), .ext 1 (.t 15), none⟩,
  ⟨(some 7), .new 24 [(.int .i64 0), (.int .i64 0), (.slice none 0 true 0)], none⟩,
  ⟨none, .st 3 (.t 7) (.t 19), none⟩,
  ⟨(some 8), .mv (.t 20), none⟩]) (
 .seq (
 .ops [
  ⟨(some 21), .ldN 3 (.t 5), none⟩,
  ⟨(some 22), .ldN 3 (.t 7), none⟩,
  ⟨(some 23), .call (.c (.func (.func 41) [] [])) [(.t 21), (.t 22)], none⟩,
  ⟨(some 24), .mv (.t 23), none⟩,
  ⟨(some 25), .mv (.t 6), some (24, true)⟩,
  ⟨(some 26), .mv (.t 8), some (24, true)⟩,
  ⟨(some 27), .bin .eql (.t 25) (.t 26), some (24, true)⟩,
  ⟨(some 28), .pick (.t 24) (.t 27) (.c (.bool false)), none⟩,
  ⟨(some 29), .mv (.t 28), none⟩,
  ⟨(some 30), .call (.c (.func (.func 32) [] [])) [], some (29, true)⟩,
  ⟨(some 31), .pick (.t 29) (.t 30) (.c (.bool false)), none⟩,
  ⟨(some 4), .mv (.t 31), none⟩]) (
 .ret)))), [.tmp 4]⟩
def x16 : XF := ⟨25, .seq (
 .ops [
  ⟨(some 1), .box 24 (.t 0), none⟩,
  ⟨(some 2), .mv (.c (.int .i64 0)), none⟩]) (
 .seq (
 .seq (
 .ops [
  ⟨(some 3), .fad 0 (.t 1), none⟩,
  ⟨(some 4), .ld1 (.t 3), none⟩,
  ⟨(some 5), .call (.c (.func (.func 59) [] [])) [(.t 4), (.c (.int .i64 0)), (.c (.int .i64 60000))], none⟩,
  ⟨(some 6), .un .not (.t 5), none⟩,
  ⟨(some 7), .mv (.t 6), none⟩,
  ⟨(some 8), .fad 1 (.t 1), some (7, false)⟩,
  ⟨(some 9), .ld1 (.t 8), some (7, false)⟩,
  ⟨(some 10), .call (.c (.func (.func 59) [] [])) [(.t 9), (.c (.int .i64 0)), (.c (.int .i64 23))], some (7, false)⟩,
  ⟨(some 11), .un .not (.t 10), some (7, false)⟩,
  ⟨(some 12), .pick (.t 7) (.c (.bool true)) (.t 11), none⟩,
  ⟨(some 13), .mv (.t 12), none⟩,
  ⟨(some 14), .fad 2 (.t 1), some (13, false)⟩,
  ⟨(some 15), .ld1 (.t 14), some (13, false)⟩,
  ⟨(some 16), .len .sl (.t 15), some (13, false)⟩,
  ⟨(some 17), .call (.c (.func (.func 59) [] [])) [(.t 16), (.c (.int .i64 1)), (.c (.int .i64 64))], some (13, false)⟩,
  ⟨(some 18), .un .not (.t 17), some (13, false)⟩,
  ⟨(some 19), .pick (.t 13) (.c (.bool true)) (.t 18), none⟩,
  ⟨(some 20), .mv (.t 19), none⟩,
  ⟨(some 21), .fad 2 (.t 1), some (20, false)⟩,
  ⟨(some 22), .ld1 (.t 21), some (20, false)⟩,
  ⟨(some 23), .call (.c (.func (.func 60) [] [])) [(.t 22), (.c (.func (.func 61) [] []))], some (20, false)⟩,
  ⟨(some 24), .pick (.t 20) (.c (.bool true)) (.t 23), none⟩]) (
 .cond (.t 24) (
  .seq (
  .ops [
   ⟨(some 2), .mv (.c (.int .i64 80)), none⟩]) (
  .ret)) (
  .skip))) (
 .seq (
 .ops [
  ⟨(some 2), .mv (.c (.int .i64 0)), none⟩]) (
 .ret))), [.tmp 2]⟩
def x59 : XF := ⟨15, .seq (
 .ops [
  ⟨(some 6), .mv (.c (.bool false)), none⟩]) (
 .seq (
 .ops [
  ⟨(some 7), .mv (.t 0), none⟩,
  ⟨(some 8), .mv (.t 1), none⟩,
  ⟨(some 9), .bin .geq (.t 7) (.t 8), none⟩,
  ⟨(some 10), .mv (.t 9), none⟩,
  ⟨(some 11), .mv (.t 0), some (10, true)⟩,
  ⟨(some 12), .mv (.t 2), some (10, true)⟩,
  ⟨(some 13), .bin .leq (.t 11) (.t 12), some (10, true)⟩,
  ⟨(some 14), .pick (.t 10) (.t 13) (.c (.bool false)), none⟩,
  ⟨(some 6), .mv (.t 14), none⟩]) (
 .ret)), [.tmp 6]⟩
def x60 : XF := ⟨9, .seq (
 .ops [
  ⟨(some 4), .mv (.c (.bool false)), none⟩]) (
 .seq (
 .ops [
  ⟨(some 5), .mv (.t 0), none⟩,
  ⟨(some 6), .mv (.t 1), none⟩,
  ⟨(some 7), .call (.c (.func (.func 101) [] [])) [(.t 5), (.t 6)], none⟩,
  ⟨(some 8), .bin .geq (.t 7) (.c (.int .i64 0)), none⟩,
  ⟨(some 4), .mv (.t 8), none⟩]) (
 .ret)), [.tmp 4]⟩
def x61 : XF := ⟨6, .seq (
 .ops [
  ⟨(some 2), .mv (.c (.bool false)), none⟩]) (
 .seq (
 .ops [
  ⟨(some 3), .mv (.t 0), none⟩,
  ⟨(some 4), .call (.c (.func (.func 62) [] [])) [(.t 3)], none⟩,
  ⟨(some 5), .un .not (.t 4), none⟩,
  ⟨(some 2), .mv (.t 5), none⟩]) (
 .ret)), [.tmp 2]⟩
def x62 : XF := ⟨13, .seq (
 .ops [
  ⟨(some 2), .mv (.c (.bool false)), none⟩]) (
 .seq (
 .ops [
  ⟨(some 3), .mv (.t 0), none⟩,
  ⟨(some 4), .call (.c (.func (.func 79) [] [])) [(.t 3)], none⟩,
  ⟨(some 5), .mv (.t 4), none⟩,
  ⟨(some 6), .mv (.t 0), some (5, false)⟩,
  ⟨(some 7), .bin .eql (.t 6) (.c (.int .i64 40000)), some (5, false)⟩,
  ⟨(some 8), .pick (.t 5) (.c (.bool true)) (.t 7), none⟩,
  ⟨(some 9), .mv (.t 8), none⟩,
  ⟨(some 10), .mv (.t 0), some (9, false)⟩,
  ⟨(some 11), .bin .eql (.t 10) (.c (.int .i64 40001)), some (9, false)⟩,
  ⟨(some 12), .pick (.t 9) (.c (.bool true)) (.t 11), none⟩,
  ⟨(some 2), .mv (.t 12), none⟩]) (
 .ret)), [.tmp 2]⟩
def x79 : XF := ⟨5, .seq (
 .ops [
  ⟨(some 2), .mv (.c (.bool false)), none⟩]) (
 .seq (
 .ops [
  ⟨(some 3), .mv (.t 0), none⟩,
  ⟨(some 4), .call (.c (.func (.func 59) [] [])) [(.t 3), (.c (.int .i64 (-32767))), (.c (.int .i64 32767))], none⟩,
  ⟨(some 2), .mv (.t 4), none⟩]) (
 .ret)), [.tmp 2]⟩
def x65 : XF := ⟨8, .seq (
 .ops [
  ⟨(some 1), .box 24 (.t 0), none⟩,
  ⟨(some 2), .new 101 [(.int .i64 0), (.int .i64 0)], none⟩]) (
 .seq (
 .ops [
  ⟨(some 3), .fad 0 (.t 1), none⟩,
  ⟨(some 4), .ld1 (.t 3), none⟩,
  ⟨(some 5), .fad 1 (.t 1), none⟩,
  ⟨(some 6), .ld1 (.t 5), none⟩,
  ⟨(some 7), .build [(.int .i64 0), (.int .i64 0)] [(0, 1, (.t 4)), (1, 1, (.t 6))], none⟩,
  ⟨none, .st 2 (.t 2) (.t 7), none⟩]) (
 .ret)), [.cellN 2 2]⟩
def x101 : XF := ⟨19, .seq (
 .ops [
  ⟨(some 4), .mv (.c (.int .i64 0)), none⟩]) (
 .seq (
 .seq (
 .ops [
  ⟨(some 6), .mv (.t 0), none⟩,
  ⟨(some 7), .len .sl (.t 6), none⟩,
  ⟨(some 8), .mv (.c (.int .i64 0)), none⟩]) (
 .block 0 (
  .loop (
   .seq (
   .ops [
    ⟨(some 9), .bin .lss (.t 8) (.t 7), none⟩]) (
   .seq (
   .cond (.t 9) (
    .skip) (
    .exit 0)) (
   .seq (
   .block 1 (
    .seq (
    .ops [
     ⟨(some 10), .mv (.t 8), none⟩,
     ⟨(some 5), .mv (.t 10), none⟩]) (
    .seq (
    .ops [
     ⟨(some 11), .mv (.t 1), none⟩,
     ⟨(some 12), .mv (.t 0), none⟩,
     ⟨(some 13), .mv (.t 5), none⟩,
     ⟨(some 14), .iad none 1 (.t 12) (.t 13), none⟩,
     ⟨(some 15), .ld1 (.t 14), none⟩,
     ⟨(some 16), .call (.t 11) [(.t 15)], none⟩]) (
    .cond (.t 16) (
     .seq (
     .ops [
      ⟨(some 17), .mv (.t 5), none⟩,
      ⟨(some 4), .mv (.t 17), none⟩]) (
     .ret)) (
     .skip))))) (
   .ops [
    ⟨(some 18), .bin .add (.t 8) (.c (.int .i64 1)), none⟩,
    ⟨(some 8), .mv (.t 18), none⟩]))))))) (
 .seq (
 .ops [
  ⟨(some 4), .mv (.c (.int .i64 (-1))), none⟩]) (
 .ret))), [.tmp 4]⟩
def x33 : XF := ⟨19, .seq (
 .ops [
  ⟨(some 1), .box 24 (.t 0), none⟩,
  ⟨(some 2), .mv (.c (.int .i64 0)), none⟩]) (
 .seq (
 .seq (
 .ops [
  ⟨(some 3), .fad 0 (.t 1), none⟩,
  ⟨(some 4), .ld1 (.t 3), none⟩,
  ⟨(some 5), .call (.c (.func (.func 45) [] [])) [(.t 4), (.c (.int .i64 0)), (.c (.int .i64 60000))], none⟩,
  ⟨(some 6), .un .not (.t 5), none⟩,
  ⟨(some 7), .mv (.t 6), none⟩,
  ⟨(some 8), .fad 1 (.t 1), some (7, false)⟩,
  ⟨(some 9), .ld1 (.t 8), some (7, false)⟩,
  ⟨(some 10), .call (.c (.func (.func 45) [] [])) [(.t 9), (.c (.int .i64 0)), (.c (.int .i64 23))], some (7, false)⟩,
  ⟨(some 11), .un .not (.t 10), some (7, false)⟩,
  ⟨(some 12), .pick (.t 7) (.c (.bool true)) (.t 11), none⟩,
  ⟨(some 13), .mv (.t 12), none⟩,
  ⟨(some 14), .fad 2 (.t 1), some (13, false)⟩,
  ⟨(some 15), .ld1 (.t 14), some (13, false)⟩,
  ⟨(some 16), .call (.c (.func (.func 85) [] [])) [(.t 15)], some (13, false)⟩,
  ⟨(some 17), .un .not (.t 16), some (13, false)⟩,
  ⟨(some 18), .pick (.t 13) (.c (.bool true)) (.t 17), none⟩]) (
 .cond (.t 18) (
  .seq (
  .ops [
   ⟨(some 2), .mv (.c (.int .i64 80)), none⟩]) (
  .ret)) (
  .skip))) (
 .seq (
 .ops [
  ⟨(some 2), .mv (.c (.int .i64 0)), none⟩]) (
 .ret))), [.tmp 2]⟩
def x85 : XF := ⟨37, .seq (
 .ops [
  ⟨(some 2), .mv (.c (.bool false)), none⟩]) (
 .seq (
 .ops [
  ⟨(some 5), .mv (.t 0), none⟩,
  ⟨(some 6), .len .sl (.t 5), none⟩,
  ⟨(some 7), .call (.c (.func (.func 45) [] [])) [(.t 6), (.c (.int .i64 1)), (.c (.int .i64 64))], none⟩,
  ⟨(some 3), .mv (.t 7), none⟩]) (
 .seq (
 .seq (
 .ops [
  ⟨(some 4), .mv (.c (.int .i64 0)), none⟩]) (
 .block 0 (
  .loop (
   .seq (
   .seq (
   .ops [
    ⟨(some 8), .mv (.t 4), none⟩,
    ⟨(some 9), .mv (.t 0), none⟩,
    ⟨(some 10), .len .sl (.t 9), none⟩,
    ⟨(some 11), .bin .lss (.t 8) (.t 10), none⟩]) (
   .cond (.t 11) (
    .skip) (
    .exit 0))) (
   .seq (
   .block 1 (
    .ops [
     ⟨(some 14), .mv (.t 3), none⟩,
     ⟨(some 15), .mv (.t 14), none⟩,
     ⟨(some 16), .mv (.t 0), some (15, true)⟩,
     ⟨(some 17), .mv (.t 4), some (15, true)⟩,
     ⟨(some 18), .iad none 1 (.t 16) (.t 17), some (15, true)⟩,
     ⟨(some 19), .ld1 (.t 18), some (15, true)⟩,
     ⟨(some 20), .call (.c (.func (.func 92) [] [])) [(.t 19)], some (15, true)⟩,
     ⟨(some 21), .mv (.t 20), some (15, true)⟩,
     ⟨(some 22), .mv (.t 0), some (21, false)⟩,
     ⟨(some 23), .mv (.t 4), some (21, false)⟩,
     ⟨(some 24), .iad none 1 (.t 22) (.t 23), some (21, false)⟩,
     ⟨(some 25), .ld1 (.t 24), some (21, false)⟩,
     ⟨(some 26), .bin .eql (.t 25) (.c (.int .i64 40000)), some (21, false)⟩,
     ⟨(some 27), .pick (.t 21) (.c (.bool true)) (.t 26), some (15, true)⟩,
     ⟨(some 28), .mv (.t 27), some (15, true)⟩,
     ⟨(some 29), .mv (.t 0), some (28, false)⟩,
     ⟨(some 30), .mv (.t 4), some (28, false)⟩,
     ⟨(some 31), .iad none 1 (.t 29) (.t 30), some (28, false)⟩,
     ⟨(some 32), .ld1 (.t 31), some (28, false)⟩,
     ⟨(some 33), .bin .eql (.t 32) (.c (.int .i64 40001)), some (28, false)⟩,
     ⟨(some 34), .pick (.t 28) (.c (.bool true)) (.t 33), some (15, true)⟩,
     ⟨(some 35), .pick (.t 15) (.t 34) (.c (.bool false)), none⟩,
     ⟨(some 3), .mv (.t 35), none⟩])) (
   .ops [
    ⟨(some 12), .mv (.t 4), none⟩,
    ⟨(some 13), .bin .add (.t 12) (.c (.int .i64 1)), none⟩,
    ⟨(some 4), .mv (.t 13), none⟩])))))) (
 .seq (
 .ops [
  ⟨(some 36), .mv (.t 3), none⟩,
  ⟨(some 2), .mv (.t 36), none⟩]) (
 .ret)))), [.tmp 2]⟩
def x92 : XF := ⟨5, .seq (
 .ops [
  ⟨(some 2), .mv (.c (.bool false)), none⟩]) (
 .seq (
 .ops [
  ⟨(some 3), .mv (.t 0), none⟩,
  ⟨(some 4), .call (.c (.func (.func 45) [] [])) [(.t 3), (.c (.int .i64 (-32767))), (.c (.int .i64 32767))], none⟩,
  ⟨(some 2), .mv (.t 4), none⟩]) (
 .ret)), [.tmp 2]⟩
def x87 : XF := ⟨9, .seq (
 .ops [
  ⟨(some 1), .box 24 (.t 0), none⟩,
  ⟨(some 2), .mv (.c (.int .i64 0)), none⟩]) (
 .seq (
 .ops [
  ⟨(some 3), .fad 0 (.t 1), none⟩,
  ⟨(some 4), .ld1 (.t 3), none⟩,
  ⟨(some 5), .bin .mul (.c (.int .i64 24)) (.t 4), none⟩,
  ⟨(some 6), .fad 1 (.t 1), none⟩,
  ⟨(some 7), .ld1 (.t 6), none⟩,
  ⟨(some 8), .bin .add (.t 5) (.t 7), none⟩,
  ⟨(some 2), .mv (.t 8), none⟩]) (
 .ret)), [.tmp 2]⟩
theorem k5 : cFn Tryz.prog 5 = some x5 := by kernel_rfl
theorem k16 : cFn Tryz.prog 16 = some x16 := by kernel_rfl
theorem k59 : cFn Tryz.prog 59 = some x59 := by kernel_rfl
theorem k60 : cFn Tryz.prog 60 = some x60 := by kernel_rfl
theorem k61 : cFn Tryz.prog 61 = some x61 := by kernel_rfl
theorem k62 : cFn Tryz.prog 62 = some x62 := by kernel_rfl
theorem k79 : cFn Tryz.prog 79 = some x79 := by kernel_rfl
theorem k65 : cFn Tryz.prog 65 = some x65 := by kernel_rfl
theorem k101 : cFn Tryz.prog 101 = some x101 := by kernel_rfl
theorem k33 : cFn Tryz.prog 33 = some x33 := by kernel_rfl
theorem k85 : cFn Tryz.prog 85 = some x85 := by kernel_rfl
theorem k92 : cFn Tryz.prog 92 = some x92 := by kernel_rfl
theorem k87 : cFn Tryz.prog 87 = some x87 := by kernel_rfl
def x17 : XF := ⟨44, .seq (
 .ops [
  ⟨(some 1), .box 30 (.t 0), none⟩,
  ⟨(some 2), .mv (.c (.int .i64 0)), none⟩]) (
 .seq (
 .seq (
 .ops [
  ⟨(some 5), .fad 0 (.t 1), none⟩,
  ⟨(some 6), .ld1 (.t 5), none⟩,
  ⟨(some 7), .call (.c (.func (.func 63) [] [])) [(.t 6)], none⟩,
  ⟨(some 8), .un .not (.t 7), none⟩,
  ⟨(some 9), .mv (.t 8), none⟩,
  ⟨(some 10), .fad 1 (.t 1), some (9, false)⟩,
  ⟨(some 11), .ld1 (.t 10), some (9, false)⟩,
  ⟨(some 12), .len .sl (.t 11), some (9, false)⟩,
  ⟨(some 13), .bin .gtr (.t 12) (.c (.int .i64 128)), some (9, false)⟩,
  ⟨(some 14), .pick (.t 9) (.c (.bool true)) (.t 13), none⟩]) (
 .cond (.t 14) (
  .seq (
  .ops [
   ⟨(some 2), .mv (.c (.int .i64 81)), none⟩]) (
  .ret)) (
  .skip))) (
 .seq (
 .seq (
 .ops [
  ⟨(some 15), .fad 1 (.t 1), none⟩,
  ⟨(some 16), .ld1 (.t 15), none⟩,
  ⟨(some 17), .len .sl (.t 16), none⟩,
  ⟨(some 18), .mv (.c (.int .i64 0)), none⟩]) (
 .block 0 (
  .loop (
   .seq (
   .ops [
    ⟨(some 19), .bin .lss (.t 18) (.t 17), none⟩]) (
   .seq (
   .cond (.t 19) (
    .skip) (
    .exit 0)) (
   .seq (
   .block 1 (
    .seq (
    .ops [
     ⟨(some 20), .mv (.t 18), none⟩,
     ⟨(some 21), .iad none 3 (.t 16) (.t 18), none⟩,
     ⟨(some 22), .ldN 3 (.t 21), none⟩,
     ⟨(some 4), .new 24 [(.int .i64 0), (.int .i64 0), (.slice none 0 true 0)], none⟩,
     ⟨(some 3), .mv (.t 20), none⟩,
     ⟨none, .st 3 (.t 4) (.t 22), none⟩]) (
    .seq (
    .draw [
     (⟨(some 23), .ldN 3 (.t 4), none⟩, .reads 0 0),
     (⟨(some 24), .call (.c (.func (.func 16) [] [])) [(.t 23)], none⟩, .anchor),
     (⟨(some 25), .bin .neq (.t 24) (.c (.int .i64 0)), none⟩, .calm),
     (⟨(some 26), .mv (.t 25), none⟩, .calm),
     (⟨(some 27), .mv (.t 3), some (26, false)⟩, .calm),
     (⟨(some 28), .bin .gtr (.t 27) (.c (.int .i64 0)), some (26, false)⟩, .calm),
     (⟨(some 29), .mv (.t 28), some (26, false)⟩, .calm),
     (⟨(some 30), .fad 1 (.t 1), some (29, true)⟩, .calm),
     (⟨(some 31), .ld1 (.t 30), some (29, true)⟩, .reads 1 1),
     (⟨(some 32), .mv (.t 3), some (29, true)⟩, .calm),
     (⟨(some 33), .bin .sub (.t 32) (.c (.int .i64 1)), some (29, true)⟩, .calm),
     (⟨(some 34), .iad none 3 (.t 31) (.t 33), some (29, true)⟩, .calm),
     (⟨(some 35), .ldN 3 (.t 34), some (29, true)⟩, .reads 1 1),
     (⟨(some 36), .call (.c (.func (.func 65) [] [])) [(.t 35)], some (29, true)⟩, .anchor),
     (⟨(some 37), .ldN 3 (.t 4), some (29, true)⟩, .reads 1 2),
     (⟨(some 38), .call (.c (.func (.func 65) [] [])) [(.t 37)], some (29, true)⟩, .anchor),
     (⟨(some 39), .call (.c (.func (.func 64) [] [])) [(.t 36), (.t 38)], some (29, true)⟩, .anchor),
     (⟨(some 40), .bin .geq (.t 39) (.c (.int .i64 0)), some (29, true)⟩, .calm),
     (⟨(some 41), .pick (.t 29) (.t 40) (.c (.bool false)), some (26, false)⟩, .calm),
     (⟨(some 42), .pick (.t 26) (.c (.bool true)) (.t 41), none⟩, .calm)]) (
    .cond (.t 42) (
     .seq (
     .ops [
      ⟨(some 2), .mv (.c (.int .i64 81)), none⟩]) (
     .ret)) (
     .skip))))) (
   .ops [
    ⟨(some 43), .bin .add (.t 18) (.c (.int .i64 1)), none⟩,
    ⟨(some 18), .mv (.t 43), none⟩]))))))) (
 .seq (
 .ops [
  ⟨(some 2), .mv (.c (.int .i64 0)), none⟩]) (
 .ret)))), [.tmp 2]⟩
def x63 : XF := ⟨42, .seq (
 .ops [
  ⟨(some 2), .mv (.c (.bool false)), none⟩]) (
 .seq (
 .seq (
 .ops [
  ⟨(some 6), .mv (.t 0), none⟩,
  ⟨(some 7), .len .str (.t 6), none⟩,
  ⟨(some 8), .mv (.c (.int .i64 0)), none⟩]) (
 .block 0 (
  .loop (
   .seq (
   .ops [
    ⟨(some 9), .bin .lss (.t 8) (.t 7), none⟩]) (
   .seq (
   .cond (.t 9) (
    .skip) (
    .exit 0)) (
   .seq (
   .block 1 (
    .seq (
    .ops [
     ⟨(some 10), .mv (.t 8), none⟩,
     ⟨(some 3), .mv (.t 10), none⟩]) (
    .seq (
    .ops [
     ⟨(some 11), .mv (.t 0), none⟩,
     ⟨(some 12), .mv (.t 3), none⟩,
     ⟨(some 13), .idxS (.t 11) (.t 12), none⟩,
     ⟨(some 4), .mv (.t 13), none⟩]) (
    .seq (
    .ops [
     ⟨(some 14), .mv (.t 4), none⟩,
     ⟨(some 15), .bin .geq (.t 14) (.c (.int .u8 97)), none⟩,
     ⟨(some 16), .mv (.t 15), none⟩,
     ⟨(some 17), .mv (.t 4), some (16, true)⟩,
     ⟨(some 18), .bin .leq (.t 17) (.c (.int .u8 122)), some (16, true)⟩,
     ⟨(some 19), .pick (.t 16) (.t 18) (.c (.bool false)), none⟩,
     ⟨(some 5), .mv (.t 19), none⟩]) (
    .seq (
    .ops [
     ⟨(some 20), .mv (.t 5), none⟩,
     ⟨(some 21), .un .not (.t 20), none⟩,
     ⟨(some 22), .mv (.t 21), none⟩,
     ⟨(some 23), .mv (.t 3), some (22, true)⟩,
     ⟨(some 24), .bin .eql (.t 23) (.c (.int .i64 0)), some (22, true)⟩,
     ⟨(some 25), .mv (.t 24), some (22, true)⟩,
     ⟨(some 26), .mv (.t 4), some (25, false)⟩,
     ⟨(some 27), .bin .neq (.t 26) (.c (.int .u8 95)), some (25, false)⟩,
     ⟨(some 28), .mv (.t 27), some (25, false)⟩,
     ⟨(some 29), .mv (.t 4), some (28, true)⟩,
     ⟨(some 30), .bin .lss (.t 29) (.c (.int .u8 48)), some (28, true)⟩,
     ⟨(some 31), .mv (.t 30), some (28, true)⟩,
     ⟨(some 32), .mv (.t 4), some (31, false)⟩,
     ⟨(some 33), .bin .gtr (.t 32) (.c (.int .u8 57)), some (31, false)⟩,
     ⟨(some 34), .pick (.t 31) (.c (.bool true)) (.t 33), some (28, true)⟩,
     ⟨(some 35), .pick (.t 28) (.t 34) (.c (.bool false)), some (25, false)⟩,
     ⟨(some 36), .pick (.t 25) (.c (.bool true)) (.t 35), some (22, true)⟩,
     ⟨(some 37), .pick (.t 22) (.t 36) (.c (.bool false)), none⟩]) (
    .cond (.t 37) (
     .seq (
     .ops [
      ⟨(some 2), .mv (.c (.bool false)), none⟩]) (
     .ret)) (
     .skip))))))) (
   .ops [
    ⟨(some 38), .bin .add (.t 8) (.c (.int .i64 1)), none⟩,
    ⟨(some 8), .mv (.t 38), none⟩]))))))) (
 .seq (
 .ops [
  ⟨(some 39), .mv (.t 0), none⟩,
  ⟨(some 40), .len .str (.t 39), none⟩,
  ⟨(some 41), .call (.c (.func (.func 102) [] [])) [(.t 40), (.c (.int .i64 1)), (.c (.int .i64 16))], none⟩,
  ⟨(some 2), .mv (.t 41), none⟩]) (
 .ret))), [.tmp 2]⟩
def x64 : XF := ⟨8, .seq (
 .ops [
  ⟨(some 2), .box 101 (.t 0), none⟩,
  ⟨(some 3), .box 101 (.t 1), none⟩,
  ⟨(some 4), .mv (.c (.int .i64 0)), none⟩]) (
 .seq (
 .draw [
  (⟨(some 5), .slA 2 1 (.t 2) none none none, none⟩, .reads 0 0),
  (⟨(some 6), .slA 2 1 (.t 3) none none none, none⟩, .reads 0 0),
  (⟨(some 7), .call (.c (.func (.func 103) [] [])) [(.t 5), (.t 6)], none⟩, .anchor),
  (⟨(some 4), .mv (.t 7), none⟩, .calm)]) (
 .ret)), [.tmp 4]⟩
def x103 : XF := ⟨36, .seq (
 .ops [
  ⟨(some 4), .mv (.c (.int .i64 0)), none⟩]) (
 .seq (
 .seq (
 .ops [
  ⟨(some 9), .mv (.t 0), none⟩,
  ⟨(some 10), .len .sl (.t 9), none⟩,
  ⟨(some 11), .mv (.c (.int .i64 0)), none⟩]) (
 .block 0 (
  .loop (
   .seq (
   .ops [
    ⟨(some 12), .bin .lss (.t 11) (.t 10), none⟩]) (
   .seq (
   .cond (.t 12) (
    .skip) (
    .exit 0)) (
   .seq (
   .block 1 (
    .seq (
    .ops [
     ⟨(some 13), .mv (.t 11), none⟩,
     ⟨(some 14), .iad none 1 (.t 9) (.t 11), none⟩,
     ⟨(some 15), .ld1 (.t 14), none⟩,
     ⟨(some 5), .mv (.t 13), none⟩,
     ⟨(some 6), .mv (.t 15), none⟩]) (
    .seq (
    .seq (
    .ops [
     ⟨(some 16), .mv (.t 5), none⟩,
     ⟨(some 17), .mv (.t 1), none⟩,
     ⟨(some 18), .len .sl (.t 17), none⟩,
     ⟨(some 19), .bin .geq (.t 16) (.t 18), none⟩]) (
    .cond (.t 19) (
     .seq (
     .ops [
      ⟨(some 4), .mv (.c (.int .i64 1)), none⟩]) (
     .ret)) (
     .skip))) (
    .seq (
    .ops [
     ⟨(some 20), .mv (.t 1), none⟩,
     ⟨(some 21), .mv (.t 5), none⟩,
     ⟨(some 22), .iad none 1 (.t 20) (.t 21), none⟩,
     ⟨(some 23), .ld1 (.t 22), none⟩,
     ⟨(some 7), .mv (.t 23), none⟩]) (
    .seq (
    .ops [
     ⟨(some 24), .mv (.t 6), none⟩,
     ⟨(some 25), .mv (.t 7), none⟩,
     ⟨(some 26), .call (.c (.func (.func 132) [] [])) [(.t 24), (.t 25)], none⟩,
     ⟨(some 8), .mv (.t 26), none⟩]) (
    .seq (
    .ops [
     ⟨(some 27), .mv (.t 8), none⟩,
     ⟨(some 28), .bin .neq (.t 27) (.c (.int .i64 0)), none⟩]) (
    .cond (.t 28) (
     .seq (
     .ops [
      ⟨(some 29), .mv (.t 8), none⟩,
      ⟨(some 4), .mv (.t 29), none⟩]) (
     .ret)) (
     .skip)))))))) (
   .ops [
    ⟨(some 30), .bin .add (.t 11) (.c (.int .i64 1)), none⟩,
    ⟨(some 11), .mv (.t 30), none⟩]))))))) (
 .seq (
 .seq (
 .ops [
  ⟨(some 31), .mv (.t 0), none⟩,
  ⟨(some 32), .len .sl (.t 31), none⟩,
  ⟨(some 33), .mv (.t 1), none⟩,
  ⟨(some 34), .len .sl (.t 33), none⟩,
  ⟨(some 35), .bin .lss (.t 32) (.t 34), none⟩]) (
 .cond (.t 35) (
  .seq (
  .ops [
   ⟨(some 4), .mv (.c (.int .i64 (-1))), none⟩]) (
  .ret)) (
  .skip))) (
 .seq (
 .ops [
  ⟨(some 4), .mv (.c (.int .i64 0)), none⟩]) (
 .ret)))), [.tmp 4]⟩
def x132 : XF := ⟨20, .seq (
 .ops [
  ⟨(some 4), .mv (.c (.int .i64 0)), none⟩]) (
 .seq (
 .ops [
  ⟨(some 7), .mv (.t 0), none⟩,
  ⟨(some 8), .call (.c (.func (.func 146) [] [])) [(.t 7)], none⟩,
  ⟨(some 5), .mv (.t 8), none⟩]) (
 .seq (
 .ops [
  ⟨(some 9), .mv (.t 1), none⟩,
  ⟨(some 10), .call (.c (.func (.func 146) [] [])) [(.t 9)], none⟩,
  ⟨(some 6), .mv (.t 10), none⟩]) (
 .seq (
 .seq (
 .ops [
  ⟨(some 11), .mv (.t 5), none⟩]) (
 .cond (.t 11) (
  .seq (
  .seq (
  .ops [
   ⟨(some 12), .mv (.t 6), none⟩]) (
  .cond (.t 12) (
   .seq (
   .ops [
    ⟨(some 4), .mv (.c (.int .i64 0)), none⟩]) (
   .ret)) (
   .skip))) (
  .seq (
  .ops [
   ⟨(some 4), .mv (.c (.int .i64 (-1))), none⟩]) (
  .ret))) (
  .skip))) (
 .seq (
 .seq (
 .ops [
  ⟨(some 13), .mv (.t 6), none⟩]) (
 .cond (.t 13) (
  .seq (
  .ops [
   ⟨(some 4), .mv (.c (.int .i64 1)), none⟩]) (
  .ret)) (
  .skip))) (
 .seq (
 .seq (
 .ops [
  ⟨(some 14), .mv (.t 0), none⟩,
  ⟨(some 15), .mv (.t 1), none⟩,
  ⟨(some 16), .bin .lss (.t 14) (.t 15), none⟩]) (
 .cond (.t 16) (
  .seq (
  .ops [
   ⟨(some 4), .mv (.c (.int .i64 (-1))), none⟩]) (
  .ret)) (
  .skip))) (
 .seq (
 .seq (
 .ops [
  ⟨(some 17), .mv (.t 0), none⟩,
  ⟨(some 18), .mv (.t 1), none⟩,
  ⟨(some 19), .bin .gtr (.t 17) (.t 18), none⟩]) (
 .cond (.t 19) (
  .seq (
  .ops [
   ⟨(some 4), .mv (.c (.int .i64 1)), none⟩]) (
  .ret)) (
  .skip))) (
 .seq (
 .ops [
  ⟨(some 4), .mv (.c (.int .i64 0)), none⟩]) (
 .ret)))))))), [.tmp 4]⟩
def x34 : XF := ⟨48, .seq (
 .ops [
  ⟨(some 1), .box 30 (.t 0), none⟩,
  ⟨(some 2), .mv (.c (.int .i64 0)), none⟩]) (
 .seq (
 .seq (
 .ops [
  ⟨(some 4), .fad 0 (.t 1), none⟩,
  ⟨(some 5), .ld1 (.t 4), none⟩,
  ⟨(some 6), .call (.c (.func (.func 86) [] [])) [(.t 5)], none⟩,
  ⟨(some 7), .un .not (.t 6), none⟩,
  ⟨(some 8), .mv (.t 7), none⟩,
  ⟨(some 9), .fad 1 (.t 1), some (8, false)⟩,
  ⟨(some 10), .ld1 (.t 9), some (8, false)⟩,
  ⟨(some 11), .len .sl (.t 10), some (8, false)⟩,
  ⟨(some 12), .bin .gtr (.t 11) (.c (.int .i64 128)), some (8, false)⟩,
  ⟨(some 13), .pick (.t 8) (.c (.bool true)) (.t 12), none⟩]) (
 .cond (.t 13) (
  .seq (
  .ops [
   ⟨(some 2), .mv (.c (.int .i64 81)), none⟩]) (
  .ret)) (
  .skip))) (
 .seq (
 .seq (
 .ops [
  ⟨(some 3), .mv (.c (.int .i64 0)), none⟩]) (
 .block 0 (
  .loop (
   .seq (
   .seq (
   .ops [
    ⟨(some 14), .mv (.t 3), none⟩,
    ⟨(some 15), .fad 1 (.t 1), none⟩,
    ⟨(some 16), .ld1 (.t 15), none⟩,
    ⟨(some 17), .len .sl (.t 16), none⟩,
    ⟨(some 18), .bin .lss (.t 14) (.t 17), none⟩]) (
   .cond (.t 18) (
    .skip) (
    .exit 0))) (
   .seq (
   .block 1 (
    .seq (
    .draw [
     (⟨(some 21), .fad 1 (.t 1), none⟩, .calm),
     (⟨(some 22), .ld1 (.t 21), none⟩, .reads 0 0),
     (⟨(some 23), .mv (.t 3), none⟩, .calm),
     (⟨(some 24), .iad none 3 (.t 22) (.t 23), none⟩, .calm),
     (⟨(some 25), .ldN 3 (.t 24), none⟩, .reads 0 0),
     (⟨(some 26), .call (.c (.func (.func 33) [] [])) [(.t 25)], none⟩, .anchor),
     (⟨(some 27), .bin .neq (.t 26) (.c (.int .i64 0)), none⟩, .calm),
     (⟨(some 28), .mv (.t 27), none⟩, .calm),
     (⟨(some 29), .mv (.t 3), some (28, false)⟩, .calm),
     (⟨(some 30), .bin .gtr (.t 29) (.c (.int .i64 0)), some (28, false)⟩, .calm),
     (⟨(some 31), .mv (.t 30), some (28, false)⟩, .calm),
     (⟨(some 32), .fad 1 (.t 1), some (31, true)⟩, .calm),
     (⟨(some 33), .ld1 (.t 32), some (31, true)⟩, .reads 1 1),
     (⟨(some 34), .mv (.t 3), some (31, true)⟩, .calm),
     (⟨(some 35), .bin .sub (.t 34) (.c (.int .i64 1)), some (31, true)⟩, .calm),
     (⟨(some 36), .iad none 3 (.t 33) (.t 35), some (31, true)⟩, .calm),
     (⟨(some 37), .ldN 3 (.t 36), some (31, true)⟩, .reads 1 1),
     (⟨(some 38), .call (.c (.func (.func 87) [] [])) [(.t 37)], some (31, true)⟩, .anchor),
     (⟨(some 39), .fad 1 (.t 1), some (31, true)⟩, .calm),
     (⟨(some 40), .ld1 (.t 39), some (31, true)⟩, .reads 1 2),
     (⟨(some 41), .mv (.t 3), some (31, true)⟩, .calm),
     (⟨(some 42), .iad none 3 (.t 40) (.t 41), some (31, true)⟩, .calm),
     (⟨(some 43), .ldN 3 (.t 42), some (31, true)⟩, .reads 1 2),
     (⟨(some 44), .call (.c (.func (.func 87) [] [])) [(.t 43)], some (31, true)⟩, .anchor),
     (⟨(some 45), .bin .geq (.t 38) (.t 44), some (31, true)⟩, .calm),
     (⟨(some 46), .pick (.t 31) (.t 45) (.c (.bool false)), some (28, false)⟩, .calm),
     (⟨(some 47), .pick (.t 28) (.c (.bool true)) (.t 46), none⟩, .calm)]) (
    .cond (.t 47) (
     .seq (
     .ops [
      ⟨(some 2), .mv (.c (.int .i64 81)), none⟩]) (
     .ret)) (
     .skip)))) (
   .ops [
    ⟨(some 19), .mv (.t 3), none⟩,
    ⟨(some 20), .bin .add (.t 19) (.c (.int .i64 1)), none⟩,
    ⟨(some 3), .mv (.t 20), none⟩])))))) (
 .seq (
 .ops [
  ⟨(some 2), .mv (.c (.int .i64 0)), none⟩]) (
 .ret)))), [.tmp 2]⟩
def x86 : XF := ⟨50, .seq (
 .ops [
  ⟨(some 2), .mv (.c (.bool false)), none⟩]) (
 .seq (
 .seq (
 .ops [
  ⟨(some 5), .mv (.t 0), none⟩,
  ⟨(some 6), .len .str (.t 5), none⟩,
  ⟨(some 7), .bin .lss (.t 6) (.c (.int .i64 1)), none⟩,
  ⟨(some 8), .mv (.t 7), none⟩,
  ⟨(some 9), .mv (.t 0), some (8, false)⟩,
  ⟨(some 10), .len .str (.t 9), some (8, false)⟩,
  ⟨(some 11), .bin .gtr (.t 10) (.c (.int .i64 16)), some (8, false)⟩,
  ⟨(some 12), .pick (.t 8) (.c (.bool true)) (.t 11), none⟩,
  ⟨(some 13), .mv (.t 12), none⟩,
  ⟨(some 14), .mv (.t 0), some (13, false)⟩,
  ⟨(some 15), .idxS (.t 14) (.c (.int .i64 0)), some (13, false)⟩,
  ⟨(some 16), .bin .lss (.t 15) (.c (.int .u8 97)), some (13, false)⟩,
  ⟨(some 17), .pick (.t 13) (.c (.bool true)) (.t 16), none⟩,
  ⟨(some 18), .mv (.t 17), none⟩,
  ⟨(some 19), .mv (.t 0), some (18, false)⟩,
  ⟨(some 20), .idxS (.t 19) (.c (.int .i64 0)), some (18, false)⟩,
  ⟨(some 21), .bin .gtr (.t 20) (.c (.int .u8 122)), some (18, false)⟩,
  ⟨(some 22), .pick (.t 18) (.c (.bool true)) (.t 21), none⟩]) (
 .cond (.t 22) (
  .seq (
  .ops [
   ⟨(some 2), .mv (.c (.bool false)), none⟩]) (
  .ret)) (
  .skip))) (
 .seq (
 .seq (
 .ops [
  ⟨(some 3), .mv (.c (.int .i64 0)), none⟩]) (
 .block 0 (
  .loop (
   .seq (
   .seq (
   .ops [
    ⟨(some 23), .mv (.t 3), none⟩,
    ⟨(some 24), .mv (.t 0), none⟩,
    ⟨(some 25), .len .str (.t 24), none⟩,
    ⟨(some 26), .bin .lss (.t 23) (.t 25), none⟩]) (
   .cond (.t 26) (
    .skip) (
    .exit 0))) (
   .seq (
   .block 1 (
    .seq (
    .ops [
     ⟨(some 29), .mv (.t 0), none⟩,
     ⟨(some 30), .mv (.t 3), none⟩,
     ⟨(some 31), .idxS (.t 29) (.t 30), none⟩,
     ⟨(some 4), .mv (.t 31), none⟩]) (
    .seq (
    .ops [
     ⟨(some 32), .mv (.t 4), none⟩,
     ⟨(some 33), .bin .lss (.t 32) (.c (.int .u8 97)), none⟩,
     ⟨(some 34), .mv (.t 33), none⟩,
     ⟨(some 35), .mv (.t 4), some (34, false)⟩,
     ⟨(some 36), .bin .gtr (.t 35) (.c (.int .u8 122)), some (34, false)⟩,
     ⟨(some 37), .pick (.t 34) (.c (.bool true)) (.t 36), none⟩,
     ⟨(some 38), .mv (.t 37), none⟩,
     ⟨(some 39), .mv (.t 4), some (38, true)⟩,
     ⟨(some 40), .bin .lss (.t 39) (.c (.int .u8 48)), some (38, true)⟩,
     ⟨(some 41), .mv (.t 40), some (38, true)⟩,
     ⟨(some 42), .mv (.t 4), some (41, false)⟩,
     ⟨(some 43), .bin .gtr (.t 42) (.c (.int .u8 57)), some (41, false)⟩,
     ⟨(some 44), .pick (.t 41) (.c (.bool true)) (.t 43), some (38, true)⟩,
     ⟨(some 45), .pick (.t 38) (.t 44) (.c (.bool false)), none⟩,
     ⟨(some 46), .mv (.t 45), none⟩,
     ⟨(some 47), .mv (.t 4), some (46, true)⟩,
     ⟨(some 48), .bin .neq (.t 47) (.c (.int .u8 95)), some (46, true)⟩,
     ⟨(some 49), .pick (.t 46) (.t 48) (.c (.bool false)), none⟩]) (
    .cond (.t 49) (
     .seq (
     .ops [
      ⟨(some 2), .mv (.c (.bool false)), none⟩]) (
     .ret)) (
     .skip))))) (
   .ops [
    ⟨(some 27), .mv (.t 3), none⟩,
    ⟨(some 28), .bin .add (.t 27) (.c (.int .i64 1)), none⟩,
    ⟨(some 3), .mv (.t 28), none⟩])))))) (
 .seq (
 .ops [
  ⟨(some 2), .mv (.c (.bool true)), none⟩]) (
 .ret)))), [.tmp 2]⟩
def x146 : XF := ⟨6, .seq (
 .ops [
  ⟨(some 2), .mv (.c (.bool false)), none⟩]) (
 .seq (
 .ops [
  ⟨(some 3), .mv (.t 0), none⟩,
  ⟨(some 4), .mv (.t 0), none⟩,
  ⟨(some 5), .bin .neq (.t 3) (.t 4), none⟩,
  ⟨(some 2), .mv (.t 5), none⟩]) (
 .ret)), [.tmp 2]⟩
def x102 : XF := ⟨15, .seq (
 .ops [
  ⟨(some 6), .mv (.c (.bool false)), none⟩]) (
 .seq (
 .ops [
  ⟨(some 7), .mv (.t 0), none⟩,
  ⟨(some 8), .mv (.t 1), none⟩,
  ⟨(some 9), .bin .geq (.t 7) (.t 8), none⟩,
  ⟨(some 10), .mv (.t 9), none⟩,
  ⟨(some 11), .mv (.t 0), some (10, true)⟩,
  ⟨(some 12), .mv (.t 2), some (10, true)⟩,
  ⟨(some 13), .bin .leq (.t 11) (.t 12), some (10, true)⟩,
  ⟨(some 14), .pick (.t 10) (.t 13) (.c (.bool false)), none⟩,
  ⟨(some 6), .mv (.t 14), none⟩]) (
 .ret)), [.tmp 6]⟩
theorem k17 : cFn Tryz.prog 17 = some x17 := by kernel_rfl
theorem k63 : cFn Tryz.prog 63 = some x63 := by kernel_rfl
theorem k64 : cFn Tryz.prog 64 = some x64 := by kernel_rfl
theorem k103 : cFn Tryz.prog 103 = some x103 := by kernel_rfl
theorem k132 : cFn Tryz.prog 132 = some x132 := by kernel_rfl
theorem k34 : cFn Tryz.prog 34 = some x34 := by kernel_rfl
theorem k86 : cFn Tryz.prog 86 = some x86 := by kernel_rfl
theorem k146 : cFn Tryz.prog 146 = some x146 := by kernel_rfl
theorem k102 : cFn Tryz.prog 102 = some x102 := by kernel_rfl
def x4 : XF := ⟨69, .seq (
 .ops [
  ⟨(some 3), .box 24 (.t 0), none⟩,
  ⟨(some 4), .box 30 (.t 1), none⟩,
  ⟨(some 6), .mv (.c (.bool false)), none⟩]) (
 .seq (
 .seq (
 .draw [
  (⟨(some 11), .ldN 3 (.t 3), none⟩, .reads 0 0),
  (⟨(some 12), .call (.c (.func (.func 16) [] [])) [(.t 11)], none⟩, .anchor),
  (⟨(some 13), .ldN 3 (.t 3), none⟩, .reads 0 1),
  (⟨(some 14), .call (.c (.func (.func 33) [] [])) [(.t 13)], none⟩, .anchor),
  (⟨(some 15), .bin .neq (.t 12) (.t 14), none⟩, .calm),
  (⟨(some 16), .mv (.t 15), none⟩, .calm),
  (⟨(some 17), .ldN 2 (.t 4), some (16, false)⟩, .reads 2 2),
  (⟨(some 18), .call (.c (.func (.func 17) [] [])) [(.t 17)], some (16, false)⟩, .anchor),
  (⟨(some 19), .ldN 2 (.t 4), some (16, false)⟩, .reads 2 3),
  (⟨(some 20), .call (.c (.func (.func 34) [] [])) [(.t 19)], some (16, false)⟩, .anchor),
  (⟨(some 21), .bin .neq (.t 18) (.t 20), some (16, false)⟩, .calm),
  (⟨(some 22), .pick (.t 16) (.c (.bool true)) (.t 21), none⟩, .calm),
  (⟨(some 23), .mv (.t 22), none⟩, .calm),
  (⟨(some 24), .mv (.t 2), some (23, false)⟩, .calm),
  (⟨(some 25), .call (.c (.func (.func 35) [] [])) [(.t 24)], some (23, false)⟩, .anchor),
  (⟨(some 26), .mv (.t 2), some (23, false)⟩, .calm),
  (⟨(some 27), .call (.c (.func (.func 36) [] [])) [(.t 26)], some (23, false)⟩, .anchor),
  (⟨(some 28), .bin .neq (.t 25) (.t 27), some (23, false)⟩, .calm),
  (⟨(some 29), .pick (.t 23) (.c (.bool true)) (.t 28), none⟩, .calm)]) (
 .cond (.t 29) (
  .seq (
  .ops [
   ⟨(some 6), .mv (.c (.bool false)), none⟩]) (
  .ret)) (
  .skip))) (
 .seq (
 .ops [
  ⟨(some 31), .ldN 3 (.t 3), none⟩,
  ⟨(some 32), .call (.c (.func (.func 37) [] [])) [(.t 31)], none⟩,
  ⟨(some 30), .mv (.t 32), none⟩,
  ⟨(some 33), .ext 0 (.t 30), none⟩,
  ⟨(some 34), .ext 1 (.t 30), none⟩,
  ⟨(some 7), .mv (.t 33), none⟩,
  ⟨(some 8), .mv (.t 34), none⟩]) (
 .seq (
 .ops [
  ⟨(some 36), .ldN 3 (.t 3), none⟩,
  ⟨(some 37), .call (.c (.func (.func 38) [] [])) [(.t 36)], none⟩,
  ⟨(some 35), .mv (.t 37), none⟩,
  ⟨(some 38), .ext 0 (.t 35), none⟩,
  ⟨(some 39), .ext 1 (.t 35), none⟩,
  ⟨(some 9), .mv (.t 38), none⟩,
  ⟨(some 10), .mv (.t 39), none⟩]) (
 .seq (
 .seq (
 .ops [
  ⟨(some 40), .mv (.t 7), none⟩,
  ⟨(some 41), .mv (.t 9), none⟩,
  ⟨(some 42), .bin .neq (.t 40) (.t 41), none⟩,
  ⟨(some 43), .mv (.t 42), none⟩,
  ⟨(some 44), .mv (.t 8), some (43, false)⟩,
  ⟨(some 45), .mv (.t 10), some (43, false)⟩,
  ⟨(some 46), .bin .neq (.t 44) (.t 45), some (43, false)⟩,
  ⟨(some 47), .pick (.t 43) (.c (.bool true)) (.t 46), none⟩]) (
 .cond (.t 47) (
  .seq (
  .ops [
   ⟨(some 6), .mv (.c (.bool false)), none⟩]) (
  .ret)) (
  .skip))) (
 .seq (
 .ops [
  ⟨(some 49), .ldN 2 (.t 4), none⟩,
  ⟨(some 50), .call (.c (.func (.func 18) [] [])) [(.t 49)], none⟩,
  ⟨(some 48), .mv (.t 50), none⟩,
  ⟨(some 51), .ext 0 (.t 48), none⟩,
  ⟨(some 52), .ext 1 (.t 48), none⟩,
  ⟨(some 7), .mv (.t 51), none⟩,
  ⟨(some 8), .mv (.t 52), none⟩]) (
 .seq (
 .ops [
  ⟨(some 54), .ldN 2 (.t 4), none⟩,
  ⟨(some 55), .call (.c (.func (.func 39) [] [])) [(.t 54)], none⟩,
  ⟨(some 53), .mv (.t 55), none⟩,
  ⟨(some 56), .ext 0 (.t 53), none⟩,
  ⟨(some 57), .ext 1 (.t 53), none⟩,
  ⟨(some 9), .mv (.t 56), none⟩,
  ⟨(some 10), .mv (.t 57), none⟩]) (
 .seq (
 .ops [
  ⟨(some 58), .mv (.t 7), none⟩,
  ⟨(some 59), .mv (.t 9), none⟩,
  ⟨(some 60), .bin .eql (.t 58) (.t 59), none⟩,
  ⟨(some 61), .mv (.t 60), none⟩,
  ⟨(some 62), .mv (.t 8), some (61, true)⟩,
  ⟨(some 63), .mv (.t 10), some (61, true)⟩,
  ⟨(some 64), .bin .eql (.t 62) (.t 63), some (61, true)⟩,
  ⟨(some 65), .pick (.t 61) (.t 64) (.c (.bool false)), none⟩,
  ⟨(some 66), .mv (.t 65), none⟩,
  ⟨(some 67), .call (.c (.func (.func 32) [] [])) [], some (66, true)⟩,
  ⟨(some 68), .pick (.t 66) (.t 67) (.c (.bool false)), none⟩,
  ⟨(some 6), .mv (.t 68), none⟩]) (
 .ret)))))))), [.tmp 6]⟩
def x36 : XF := ⟨31, .seq (
 .ops [
  ⟨(some 2), .mv (.c (.int .i64 0)), none⟩]) (
 .seq (
 .ops [
  ⟨(some 3), .mv (.c (.int .i64 65535)), none⟩]) (
 .seq (
 .seq (
 .ops [
  ⟨(some 4), .mv (.c (.int .i64 0)), none⟩]) (
 .block 0 (
  .loop (
   .seq (
   .seq (
   .ops [
    ⟨(some 6), .mv (.t 4), none⟩,
    ⟨(some 7), .mv (.t 0), none⟩,
    ⟨(some 8), .len .str (.t 7), none⟩,
    ⟨(some 9), .bin .lss (.t 6) (.t 8), none⟩]) (
   .cond (.t 9) (
    .skip) (
    .exit 0))) (
   .seq (
   .block 1 (
    .seq (
    .ops [
     ⟨(some 12), .mv (.t 3), none⟩,
     ⟨(some 13), .mv (.t 0), none⟩,
     ⟨(some 14), .mv (.t 4), none⟩,
     ⟨(some 15), .idxS (.t 13) (.t 14), none⟩,
     ⟨(some 16), .conv .i64 (.t 15), none⟩,
     ⟨(some 17), .bin .mul (.t 16) (.c (.int .i64 256)), none⟩,
     ⟨(some 18), .bin .xor (.t 12) (.t 17), none⟩,
     ⟨(some 3), .mv (.t 18), none⟩]) (
    .seq (
    .ops [
     ⟨(some 5), .mv (.c (.int .i64 0)), none⟩]) (
    .block 2 (
     .loop (
      .seq (
      .seq (
      .ops [
       ⟨(some 19), .mv (.t 5), none⟩,
       ⟨(some 20), .bin .lss (.t 19) (.c (.int .i64 8)), none⟩]) (
      .cond (.t 20) (
       .skip) (
       .exit 2))) (
      .seq (
      .block 3 (
       .seq (
       .ops [
        ⟨(some 23), .mv (.t 3), none⟩,
        ⟨(some 24), .bin .mul (.c (.int .i64 2)) (.t 23), none⟩,
        ⟨(some 3), .mv (.t 24), none⟩]) (
       .seq (
       .ops [
        ⟨(some 25), .mv (.t 3), none⟩,
        ⟨(some 26), .bin .geq (.t 25) (.c (.int .i64 65536)), none⟩]) (
       .cond (.t 26) (
        .ops [
         ⟨(some 27), .mv (.t 3), none⟩,
         ⟨(some 28), .bin .sub (.t 27) (.c (.int .i64 65536)), none⟩,
         ⟨(some 29), .bin .xor (.t 28) (.c (.int .i64 4129)), none⟩,
         ⟨(some 3), .mv (.t 29), none⟩]) (
        .skip))))) (
      .ops [
       ⟨(some 21), .mv (.t 5), none⟩,
       ⟨(some 22), .bin .add (.t 21) (.c (.int .i64 1)), none⟩,
       ⟨(some 5), .mv (.t 22), none⟩])))))))) (
   .ops [
    ⟨(some 10), .mv (.t 4), none⟩,
    ⟨(some 11), .bin .add (.t 10) (.c (.int .i64 1)), none⟩,
    ⟨(some 4), .mv (.t 11), none⟩])))))) (
 .seq (
 .ops [
  ⟨(some 30), .mv (.t 3), none⟩,
  ⟨(some 2), .mv (.t 30), none⟩]) (
 .ret)))), [.tmp 2]⟩
def x37 : XF := ⟨13, .seq (
 .ops [
  ⟨(some 1), .box 24 (.t 0), none⟩,
  ⟨(some 2), .mv (.c (.str ⟨#[]⟩)), none⟩,
  ⟨(some 3), .mv (.c (.int .i64 0)), none⟩]) (
 .seq (
 .seq (
 .ops [
  ⟨(some 5), .ldN 3 (.t 1), none⟩,
  ⟨(some 6), .call (.c (.func (.func 16) [] [])) [(.t 5)], none⟩,
  ⟨(some 4), .mv (.t 6), none⟩]) (
 .seq (
 .ops [
  ⟨(some 7), .mv (.t 4), none⟩,
  ⟨(some 8), .bin .neq (.t 7) (.c (.int .i64 0)), none⟩]) (
 .cond (.t 8) (
  .seq (
  .ops [
   ⟨(some 9), .mv (.t 4), none⟩,
   ⟨(some 2), .mv (.c (.str ⟨#[]⟩)), none⟩,
   ⟨(some 3), .mv (.t 9), none⟩]) (
  .ret)) (
  .skip)))) (
 .seq (
 .ops [
  ⟨(some 10), .ldN 3 (.t 1), none⟩,
  ⟨(some 11), .call (.c (.func (.func 67) [] [])) [(.t 10)], none⟩,
  ⟨(some 12), .bstr (.t 11), none⟩,
  ⟨(some 2), .mv (.t 12), none⟩,
  ⟨(some 3), .mv (.c (.int .i64 0)), none⟩]) (
 .ret))), [.tmp 2, .tmp 3]⟩
def x38 : XF := ⟨12, .seq (
 .ops [
  ⟨(some 1), .box 24 (.t 0), none⟩,
  ⟨(some 2), .mv (.c (.str ⟨#[]⟩)), none⟩,
  ⟨(some 3), .mv (.c (.int .i64 0)), none⟩]) (
 .seq (
 .seq (
 .ops [
  ⟨(some 5), .ldN 3 (.t 1), none⟩,
  ⟨(some 6), .call (.c (.func (.func 33) [] [])) [(.t 5)], none⟩,
  ⟨(some 4), .mv (.t 6), none⟩]) (
 .seq (
 .ops [
  ⟨(some 7), .mv (.t 4), none⟩,
  ⟨(some 8), .bin .neq (.t 7) (.c (.int .i64 0)), none⟩]) (
 .cond (.t 8) (
  .seq (
  .ops [
   ⟨(some 9), .mv (.t 4), none⟩,
   ⟨(some 2), .mv (.c (.str ⟨#[]⟩)), none⟩,
   ⟨(some 3), .mv (.t 9), none⟩]) (
  .ret)) (
  .skip)))) (
 .seq (
 .ops [
  ⟨(some 10), .ldN 3 (.t 1), none⟩,
  ⟨(some 11), .call (.c (.func (.func 88) [] [])) [(.t 10)], none⟩,
  ⟨(some 2), .mv (.t 11), none⟩,
  ⟨(some 3), .mv (.c (.int .i64 0)), none⟩]) (
 .ret))), [.tmp 2, .tmp 3]⟩
def x67 : XF := ⟨46, .seq (
 .ops [
  ⟨(some 1), .box 24 (.t 0), none⟩,
  ⟨(some 2), .mv (.c (.slice none 0 true 0)), none⟩]) (
 .seq (
 .ops [
  ⟨(some 5), .bsl 5 1 2 [(.int .u8 0)] [(0, 1, (.c (.int .u8 165))), (1, 1, (.c (.int .u8 90)))], none⟩,
  ⟨(some 6), .fad 0 (.t 1), none⟩,
  ⟨(some 7), .ld1 (.t 6), none⟩,
  ⟨(some 8), .call (.c (.func (.func 66) [] [])) [(.t 7)], none⟩,
  ⟨(some 9), .app 5 1 1 [(.int .u8 0)] (.t 5) (.t 8), none⟩,
  ⟨(some 3), .new 75 [(.slice none 0 true 0)], none⟩,
  ⟨none, .st 1 (.t 3) (.t 9), none⟩]) (
 .seq (
 .ops [
  ⟨(some 10), .ld1 (.t 3), none⟩,
  ⟨(some 11), .fad 1 (.t 1), none⟩,
  ⟨(some 12), .ld1 (.t 11), none⟩,
  ⟨(some 13), .conv .u8 (.t 12), none⟩,
  ⟨(some 14), .fad 2 (.t 1), none⟩,
  ⟨(some 15), .ld1 (.t 14), none⟩,
  ⟨(some 16), .len .sl (.t 15), none⟩,
  ⟨(some 17), .conv .u8 (.t 16), none⟩,
  ⟨(some 18), .bsl 5 1 2 [(.int .u8 0)] [(0, 1, (.t 13)), (1, 1, (.t 17))], none⟩,
  ⟨(some 19), .app 5 1 1 [(.int .u8 0)] (.t 10) (.t 18), none⟩,
  ⟨none, .st 1 (.t 3) (.t 19), none⟩]) (
 .seq (
 .seq (
 .ops [
  ⟨(some 20), .fad 2 (.t 1), none⟩,
  ⟨(some 21), .ld1 (.t 20), none⟩,
  ⟨(some 22), .call (.c (.func (.func 104) [] [])) [(.t 21)], none⟩]) (
 .block 0 (
  .rfun (.t 22) [23] (
   .ops [
    ⟨(some 4), .mv (.t 23), none⟩]) (
   .block 1 (
    .seq (
    .block 2 (
     .loop (
      .seq (
      .seq (
      .ops [
       ⟨(some 24), .mv (.t 4), none⟩,
       ⟨(some 25), .bin .geq (.t 24) (.c (.int .i64 128)), none⟩]) (
      .cond (.t 25) (
       .skip) (
       .exit 2))) (
      .block 3 (
       .seq (
       .ops [
        ⟨(some 26), .ld1 (.t 3), none⟩,
        ⟨(some 27), .mv (.t 4), none⟩,
        ⟨(some 28), .bin .rem (.t 27) (.c (.int .i64 128)), none⟩,
        ⟨(some 29), .bin .add (.t 28) (.c (.int .i64 128)), none⟩,
        ⟨(some 30), .conv .u8 (.t 29), none⟩,
        ⟨(some 31), .bsl 5 1 1 [(.int .u8 0)] [(0, 1, (.t 30))], none⟩,
        ⟨(some 32), .app 5 1 1 [(.int .u8 0)] (.t 26) (.t 31), none⟩,
        ⟨none, .st 1 (.t 3) (.t 32), none⟩]) (
       .ops [
        ⟨(some 33), .mv (.t 4), none⟩,
        ⟨(some 34), .bin .quo (.t 33) (.c (.int .i64 128)), none⟩,
        ⟨(some 4), .mv (.t 34), none⟩])))))) (
    .ops [
     ⟨(some 35), .ld1 (.t 3), none⟩,
     ⟨(some 36), .mv (.t 4), none⟩,
     ⟨(some 37), .conv .u8 (.t 36), none⟩,
     ⟨(some 38), .bsl 5 1 1 [(.int .u8 0)] [(0, 1, (.t 37))], none⟩,
     ⟨(some 39), .app 5 1 1 [(.int .u8 0)] (.t 35) (.t 38), none⟩,
     ⟨none, .st 1 (.t 3) (.t 39), none⟩])))))) (
 .seq (
 .draw [
  (⟨(some 40), .ld1 (.t 3), none⟩, .reads 0 2),
  (⟨(some 41), .ld1 (.t 3), none⟩, .reads 0 0),
  (⟨(some 42), .bstr (.t 41), none⟩, .reads 0 0),
  (⟨(some 43), .call (.c (.func (.func 35) [] [])) [(.t 42)], none⟩, .anchor),
  (⟨(some 44), .call (.c (.func (.func 66) [] [])) [(.t 43)], none⟩, .anchor),
  (⟨(some 45), .app 5 1 1 [(.int .u8 0)] (.t 40) (.t 44), none⟩, .anchor),
  (⟨(some 2), .mv (.t 45), none⟩, .calm)]) (
 .ret))))), [.tmp 2]⟩
def x104 : XF := ⟨4, .seq (
 .ops [
  ⟨(some 1), .box 22 (.t 0), none⟩,
  ⟨(some 2), .mv (.c .nilFunc), none⟩]) (
 .seq (
 .ops [
  ⟨(some 3), .mkf 133 [] [(.t 1)], none⟩,
  ⟨(some 2), .mv (.t 3), none⟩]) (
 .ret)), [.tmp 2]⟩
def x133 : XF := ⟨37, .seq (
 .ops [
  ⟨(some 3), .mv (.c (.int .i64 0)), none⟩]) (
 .seq (
 .ops [
  ⟨(some 8), .ld1 (.t 1), none⟩,
  ⟨(some 9), .len .sl (.t 8), none⟩,
  ⟨(some 10), .mv (.c (.int .i64 0)), none⟩]) (
 .block 0 (
  .loop (
   .seq (
   .ops [
    ⟨(some 11), .bin .lss (.t 10) (.t 9), none⟩]) (
   .seq (
   .cond (.t 11) (
    .skip) (
    .exit 0)) (
   .seq (
   .block 1 (
    .seq (
    .ops [
     ⟨(some 12), .iad none 1 (.t 8) (.t 10), none⟩,
     ⟨(some 13), .ld1 (.t 12), none⟩,
     ⟨(some 5), .mv (.t 13), none⟩]) (
    .seq (
    .ops [
     ⟨(some 6), .mv (.c (.int .i64 0)), none⟩]) (
    .seq (
    .block 2 (
     .seq (
     .ops [
      ⟨(some 15), .mv (.t 5), none⟩,
      ⟨(some 16), .bin .eql (.t 15) (.c (.int .i64 40001)), none⟩,
      ⟨(some 14), .mv (.t 16), none⟩]) (
     .cond (.t 14) (
      .ops [
       ⟨(some 6), .mv (.c (.int .i64 1)), none⟩]) (
      .seq (
      .ops [
       ⟨(some 18), .mv (.t 5), none⟩,
       ⟨(some 19), .call (.c (.func (.func 79) [] [])) [(.t 18)], none⟩,
       ⟨(some 17), .mv (.t 19), none⟩]) (
      .cond (.t 17) (
       .seq (
       .ops [
        ⟨(some 20), .mv (.t 5), none⟩,
        ⟨(some 21), .mv (.t 3), none⟩,
        ⟨(some 22), .bin .sub (.t 20) (.t 21), none⟩,
        ⟨(some 7), .mv (.t 22), none⟩]) (
       .seq (
       .ops [
        ⟨(some 23), .mv (.t 7), none⟩,
        ⟨(some 24), .bin .mul (.c (.int .i64 2)) (.t 23), none⟩,
        ⟨(some 25), .bin .add (.t 24) (.c (.int .i64 2)), none⟩,
        ⟨(some 6), .mv (.t 25), none⟩]) (
       .seq (
       .seq (
       .ops [
        ⟨(some 26), .mv (.t 7), none⟩,
        ⟨(some 27), .bin .lss (.t 26) (.c (.int .i64 0)), none⟩]) (
       .cond (.t 27) (
        .ops [
         ⟨(some 28), .mv (.t 7), none⟩,
         ⟨(some 29), .bin .mul (.c (.int .i64 2)) (.t 28), none⟩,
         ⟨(some 30), .bin .sub (.c (.int .i64 1)) (.t 29), none⟩,
         ⟨(some 6), .mv (.t 30), none⟩]) (
        .skip))) (
       .ops [
        ⟨(some 31), .mv (.t 5), none⟩,
        ⟨(some 3), .mv (.t 31), none⟩])))) (
       .skip)))))) (
    .seq (
    .ops [
     ⟨(some 32), .mv (.t 0), none⟩,
     ⟨(some 33), .mv (.t 6), none⟩,
     ⟨(some 34), .call (.t 32) [(.t 33)], none⟩,
     ⟨(some 35), .un .not (.t 34), none⟩]) (
    .cond (.t 35) (
     .ret) (
     .skip))))))) (
   .ops [
    ⟨(some 36), .bin .add (.t 10) (.c (.int .i64 1)), none⟩,
    ⟨(some 10), .mv (.t 36), none⟩]))))))), []⟩
def x66 : XF := ⟨9, .seq (
 .ops [
  ⟨(some 2), .mv (.c (.slice none 0 true 0)), none⟩]) (
 .seq (
 .ops [
  ⟨(some 3), .mv (.t 0), none⟩,
  ⟨(some 4), .bin .shr (.t 3) (.c (.int .u64 8)), none⟩,
  ⟨(some 5), .conv .u8 (.t 4), none⟩,
  ⟨(some 6), .mv (.t 0), none⟩,
  ⟨(some 7), .conv .u8 (.t 6), none⟩,
  ⟨(some 8), .bsl 5 1 2 [(.int .u8 0)] [(0, 1, (.t 5)), (1, 1, (.t 7))], none⟩,
  ⟨(some 2), .mv (.t 8), none⟩]) (
 .ret)), [.tmp 2]⟩
def x88 : XF := ⟨68, .seq (
 .ops [
  ⟨(some 1), .box 24 (.t 0), none⟩,
  ⟨(some 2), .mv (.c (.str ⟨#[]⟩)), none⟩]) (
 .seq (
 .draw [
  (⟨(some 7), .fad 0 (.t 1), none⟩, .calm),
  (⟨(some 8), .ld1 (.t 7), none⟩, .reads 0 0),
  (⟨(some 9), .call (.c (.func (.func 123) [] [])) [(.t 8)], none⟩, .anchor),
  (⟨(some 10), .bin .add (.c (.str ⟨#[165, 90]⟩)) (.t 9), none⟩, .calm),
  (⟨(some 11), .fad 1 (.t 1), none⟩, .calm),
  (⟨(some 12), .ld1 (.t 11), none⟩, .reads 0 1),
  (⟨(some 13), .call (.c (.func (.func 90) [] [])) [(.t 12)], none⟩, .anchor),
  (⟨(some 14), .bin .add (.t 10) (.t 13), none⟩, .calm),
  (⟨(some 15), .fad 2 (.t 1), none⟩, .calm),
  (⟨(some 16), .ld1 (.t 15), none⟩, .reads 0 2),
  (⟨(some 17), .len .sl (.t 16), none⟩, .calm),
  (⟨(some 18), .call (.c (.func (.func 90) [] [])) [(.t 17)], none⟩, .anchor),
  (⟨(some 19), .bin .add (.t 14) (.t 18), none⟩, .calm),
  (⟨(some 3), .mv (.t 19), none⟩, .calm)]) (
 .seq (
 .ops [
  ⟨(some 4), .mv (.c (.int .i64 0)), none⟩]) (
 .seq (
 .seq (
 .ops [
  ⟨(some 5), .mv (.c (.int .i64 0)), none⟩]) (
 .block 0 (
  .loop (
   .seq (
   .seq (
   .ops [
    ⟨(some 20), .mv (.t 5), none⟩,
    ⟨(some 21), .fad 2 (.t 1), none⟩,
    ⟨(some 22), .ld1 (.t 21), none⟩,
    ⟨(some 23), .len .sl (.t 22), none⟩,
    ⟨(some 24), .bin .lss (.t 20) (.t 23), none⟩]) (
   .cond (.t 24) (
    .skip) (
    .exit 0))) (
   .seq (
   .block 1 (
    .seq (
    .ops [
     ⟨(some 27), .fad 2 (.t 1), none⟩,
     ⟨(some 28), .ld1 (.t 27), none⟩,
     ⟨(some 29), .mv (.t 5), none⟩,
     ⟨(some 30), .iad none 1 (.t 28) (.t 29), none⟩,
     ⟨(some 31), .ld1 (.t 30), none⟩,
     ⟨(some 6), .mv (.t 31), none⟩]) (
    .block 2 (
     .seq (
     .ops [
      ⟨(some 42), .mv (.t 6), none⟩,
      ⟨(some 43), .bin .eql (.t 42) (.c (.int .i64 40000)), none⟩,
      ⟨(some 41), .mv (.t 43), none⟩]) (
     .cond (.t 41) (
      .ops [
       ⟨(some 44), .mv (.t 3), none⟩,
       ⟨(some 45), .call (.c (.func (.func 124) [] [])) [(.c (.int .i64 0))], none⟩,
       ⟨(some 46), .bin .add (.t 44) (.t 45), none⟩,
       ⟨(some 3), .mv (.t 46), none⟩]) (
      .seq (
      .ops [
       ⟨(some 48), .mv (.t 6), none⟩,
       ⟨(some 49), .bin .eql (.t 48) (.c (.int .i64 40001)), none⟩,
       ⟨(some 47), .mv (.t 49), none⟩]) (
      .cond (.t 47) (
       .ops [
        ⟨(some 50), .mv (.t 3), none⟩,
        ⟨(some 51), .call (.c (.func (.func 124) [] [])) [(.c (.int .i64 1))], none⟩,
        ⟨(some 52), .bin .add (.t 50) (.t 51), none⟩,
        ⟨(some 3), .mv (.t 52), none⟩]) (
       .seq (
       .ops [
        ⟨(some 54), .mv (.t 6), none⟩,
        ⟨(some 55), .mv (.t 4), none⟩,
        ⟨(some 56), .bin .geq (.t 54) (.t 55), none⟩,
        ⟨(some 53), .mv (.t 56), none⟩]) (
       .cond (.t 53) (
        .seq (
        .ops [
         ⟨(some 57), .mv (.t 3), none⟩,
         ⟨(some 58), .mv (.t 6), none⟩,
         ⟨(some 59), .mv (.t 4), none⟩,
         ⟨(some 60), .bin .sub (.t 58) (.t 59), none⟩,
         ⟨(some 61), .bin .mul (.c (.int .i64 2)) (.t 60), none⟩,
         ⟨(some 62), .bin .add (.t 61) (.c (.int .i64 2)), none⟩,
         ⟨(some 63), .call (.c (.func (.func 124) [] [])) [(.t 62)], none⟩,
         ⟨(some 64), .bin .add (.t 57) (.t 63), none⟩,
         ⟨(some 3), .mv (.t 64), none⟩]) (
        .ops [
         ⟨(some 65), .mv (.t 6), none⟩,
         ⟨(some 4), .mv (.t 65), none⟩])) (
        .seq (
        .ops [
         ⟨(some 32), .mv (.t 3), none⟩,
         ⟨(some 33), .mv (.t 6), none⟩,
         ⟨(some 34), .mv (.t 4), none⟩,
         ⟨(some 35), .bin .sub (.t 33) (.t 34), none⟩,
         ⟨(some 36), .bin .mul (.c (.int .i64 2)) (.t 35), none⟩,
         ⟨(some 37), .bin .sub (.c (.int .i64 1)) (.t 36), none⟩,
         ⟨(some 38), .call (.c (.func (.func 124) [] [])) [(.t 37)], none⟩,
         ⟨(some 39), .bin .add (.t 32) (.t 38), none⟩,
         ⟨(some 3), .mv (.t 39), none⟩]) (
        .ops [
         ⟨(some 40), .mv (.t 6), none⟩,
         ⟨(some 4), .mv (.t 40), none⟩]))))))))))) (
   .ops [
    ⟨(some 25), .mv (.t 5), none⟩,
    ⟨(some 26), .bin .add (.t 25) (.c (.int .i64 1)), none⟩,
    ⟨(some 5), .mv (.t 26), none⟩])))))) (
 .seq (
 .ops [
  ⟨(some 66), .mv (.t 3), none⟩,
  ⟨(some 67), .call (.c (.func (.func 89) [] [])) [(.t 66)], none⟩,
  ⟨(some 2), .mv (.t 67), none⟩]) (
 .ret))))), [.tmp 2]⟩
def x123 : XF := ⟨9, .seq (
 .ops [
  ⟨(some 2), .mv (.c (.str ⟨#[]⟩)), none⟩]) (
 .seq (
 .ops [
  ⟨(some 3), .mv (.t 0), none⟩,
  ⟨(some 4), .bin .quo (.t 3) (.c (.int .i64 256)), none⟩,
  ⟨(some 5), .call (.c (.func (.func 90) [] [])) [(.t 4)], none⟩,
  ⟨(some 6), .mv (.t 0), none⟩,
  ⟨(some 7), .call (.c (.func (.func 90) [] [])) [(.t 6)], none⟩,
  ⟨(some 8), .bin .add (.t 5) (.t 7), none⟩,
  ⟨(some 2), .mv (.t 8), none⟩]) (
 .ret)), [.tmp 2]⟩
def x124 : XF := ⟨18, .seq (
 .ops [
  ⟨(some 2), .mv (.c (.str ⟨#[]⟩)), none⟩]) (
 .seq (
 .ops [
  ⟨(some 3), .mv (.c (.str ⟨#[]⟩)), none⟩]) (
 .seq (
 .block 0 (
  .loop (
   .seq (
   .seq (
   .ops [
    ⟨(some 4), .mv (.t 0), none⟩,
    ⟨(some 5), .bin .geq (.t 4) (.c (.int .i64 128)), none⟩]) (
   .cond (.t 5) (
    .skip) (
    .exit 0))) (
   .block 1 (
    .seq (
    .ops [
     ⟨(some 6), .mv (.t 3), none⟩,
     ⟨(some 7), .mv (.t 0), none⟩,
     ⟨(some 8), .bin .rem (.t 7) (.c (.int .i64 128)), none⟩,
     ⟨(some 9), .bin .add (.c (.int .i64 128)) (.t 8), none⟩,
     ⟨(some 10), .call (.c (.func (.func 90) [] [])) [(.t 9)], none⟩,
     ⟨(some 11), .bin .add (.t 6) (.t 10), none⟩,
     ⟨(some 3), .mv (.t 11), none⟩]) (
    .ops [
     ⟨(some 12), .mv (.t 0), none⟩,
     ⟨(some 13), .bin .quo (.t 12) (.c (.int .i64 128)), none⟩,
     ⟨(some 0), .mv (.t 13), none⟩])))))) (
 .seq (
 .ops [
  ⟨(some 14), .mv (.t 3), none⟩,
  ⟨(some 15), .mv (.t 0), none⟩,
  ⟨(some 16), .call (.c (.func (.func 90) [] [])) [(.t 15)], none⟩,
  ⟨(some 17), .bin .add (.t 14) (.t 16), none⟩,
  ⟨(some 2), .mv (.t 17), none⟩]) (
 .ret)))), [.tmp 2]⟩
def x90 : XF := ⟨8, .seq (
 .ops [
  ⟨(some 2), .mv (.c (.str ⟨#[]⟩)), none⟩]) (
 .seq (
 .ops [
  ⟨(some 3), .mv (.t 0), none⟩,
  ⟨(some 4), .bin .rem (.t 3) (.c (.int .i64 256)), none⟩,
  ⟨(some 5), .conv .u8 (.t 4), none⟩,
  ⟨(some 6), .bsl 5 1 1 [(.int .u8 0)] [(0, 1, (.t 5))], none⟩,
  ⟨(some 7), .bstr (.t 6), none⟩,
  ⟨(some 2), .mv (.t 7), none⟩]) (
 .ret)), [.tmp 2]⟩
def x89 : XF := ⟨8, .seq (
 .ops [
  ⟨(some 2), .mv (.c (.str ⟨#[]⟩)), none⟩]) (
 .seq (
 .ops [
  ⟨(some 3), .mv (.t 0), none⟩,
  ⟨(some 4), .mv (.t 0), none⟩,
  ⟨(some 5), .call (.c (.func (.func 36) [] [])) [(.t 4)], none⟩,
  ⟨(some 6), .call (.c (.func (.func 123) [] [])) [(.t 5)], none⟩,
  ⟨(some 7), .bin .add (.t 3) (.t 6), none⟩,
  ⟨(some 2), .mv (.t 7), none⟩]) (
 .ret)), [.tmp 2]⟩
def x18 : XF := ⟨51, .seq (
 .ops [
  ⟨(some 1), .box 30 (.t 0), none⟩,
  ⟨(some 2), .mv (.c (.str ⟨#[]⟩)), none⟩,
  ⟨(some 3), .mv (.c (.int .i64 0)), none⟩]) (
 .seq (
 .seq (
 .ops [
  ⟨(some 8), .ldN 2 (.t 1), none⟩,
  ⟨(some 9), .call (.c (.func (.func 17) [] [])) [(.t 8)], none⟩,
  ⟨(some 4), .mv (.t 9), none⟩]) (
 .seq (
 .ops [
  ⟨(some 10), .mv (.t 4), none⟩,
  ⟨(some 11), .bin .neq (.t 10) (.c (.int .i64 0)), none⟩]) (
 .cond (.t 11) (
  .seq (
  .ops [
   ⟨(some 12), .mv (.t 4), none⟩,
   ⟨(some 2), .mv (.c (.str ⟨#[]⟩)), none⟩,
   ⟨(some 3), .mv (.t 12), none⟩]) (
  .ret)) (
  .skip)))) (
 .seq (
 .ops [
  ⟨(some 13), .bsl 5 1 8 [(.int .u8 0)] [(0, 1, (.c (.int .u8 80))), (1, 1, (.c (.int .u8 65))), (2, 1, (.c (.int .u8 82))), (3, 1, (.c (.int .u8 65))), (4, 1, (.c (.int .u8 86))), (5, 1, (.c (.int .u8 65))), (6, 1, (.c (.int .u8 78))), (7, 1, (.c (.int .u8 69)))], none⟩,
  ⟨(some 14), .cvs (.t 13), none⟩,
  ⟨(some 15), .fad 0 (.t 1), none⟩,
  ⟨(some 16), .ld1 (.t 15), none⟩,
  ⟨(some 17), .len .str (.t 16), none⟩,
  ⟨(some 18), .conv .u8 (.t 17), none⟩,
  ⟨(some 19), .bsl 5 1 1 [(.int .u8 0)] [(0, 1, (.t 18))], none⟩,
  ⟨(some 20), .app 5 1 1 [(.int .u8 0)] (.t 14) (.t 19), none⟩,
  ⟨(some 5), .mv (.t 20), none⟩]) (
 .seq (
 .draw [
  (⟨(some 21), .mv (.t 5), none⟩, .calm),
  (⟨(some 22), .fad 0 (.t 1), none⟩, .calm),
  (⟨(some 23), .ld1 (.t 22), none⟩, .reads 0 0),
  (⟨(some 24), .app 5 1 1 [(.int .u8 0)] (.t 21) (.t 23), none⟩, .anchor),
  (⟨(some 25), .fad 1 (.t 1), none⟩, .calm),
  (⟨(some 26), .ld1 (.t 25), none⟩, .reads 0 1),
  (⟨(some 27), .len .sl (.t 26), none⟩, .calm),
  (⟨(some 28), .conv .u8 (.t 27), none⟩, .calm),
  (⟨(some 29), .bsl 5 1 1 [(.int .u8 0)] [(0, 1, (.t 28))], none⟩, .new),
  (⟨(some 30), .app 5 1 1 [(.int .u8 0)] (.t 24) (.t 29), none⟩, .anchor),
  (⟨(some 5), .mv (.t 30), none⟩, .calm)]) (
 .seq (
 .ops [
  ⟨(some 31), .mv (.t 5), none⟩,
  ⟨(some 32), .mv (.t 5), none⟩,
  ⟨(some 33), .bstr (.t 32), none⟩,
  ⟨(some 34), .call (.c (.func (.func 35) [] [])) [(.t 33)], none⟩,
  ⟨(some 35), .call (.c (.func (.func 66) [] [])) [(.t 34)], none⟩,
  ⟨(some 36), .app 5 1 1 [(.int .u8 0)] (.t 31) (.t 35), none⟩,
  ⟨(some 5), .mv (.t 36), none⟩]) (
 .seq (
 .seq (
 .ops [
  ⟨(some 37), .fad 1 (.t 1), none⟩,
  ⟨(some 38), .ld1 (.t 37), none⟩,
  ⟨(some 39), .len .sl (.t 38), none⟩,
  ⟨(some 40), .mv (.c (.int .i64 0)), none⟩]) (
 .block 0 (
  .loop (
   .seq (
   .ops [
    ⟨(some 41), .bin .lss (.t 40) (.t 39), none⟩]) (
   .seq (
   .cond (.t 41) (
    .skip) (
    .exit 0)) (
   .seq (
   .block 1 (
    .seq (
    .ops [
     ⟨(some 42), .iad none 3 (.t 38) (.t 40), none⟩,
     ⟨(some 43), .ldN 3 (.t 42), none⟩,
     ⟨(some 7), .new 24 [(.int .i64 0), (.int .i64 0), (.slice none 0 true 0)], none⟩,
     ⟨none, .st 3 (.t 7) (.t 43), none⟩]) (
    .ops [
     ⟨(some 44), .mv (.t 5), none⟩,
     ⟨(some 45), .ldN 3 (.t 7), none⟩,
     ⟨(some 46), .call (.c (.func (.func 67) [] [])) [(.t 45)], none⟩,
     ⟨(some 47), .app 5 1 1 [(.int .u8 0)] (.t 44) (.t 46), none⟩,
     ⟨(some 5), .mv (.t 47), none⟩]))) (
   .ops [
    ⟨(some 48), .bin .add (.t 40) (.c (.int .i64 1)), none⟩,
    ⟨(some 40), .mv (.t 48), none⟩]))))))) (
 .seq (
 .ops [
  ⟨(some 49), .mv (.t 5), none⟩,
  ⟨(some 50), .bstr (.t 49), none⟩,
  ⟨(some 2), .mv (.t 50), none⟩,
  ⟨(some 3), .mv (.c (.int .i64 0)), none⟩]) (
 .ret))))))), [.tmp 2, .tmp 3]⟩
def x39 : XF := ⟨42, .seq (
 .ops [
  ⟨(some 1), .box 30 (.t 0), none⟩,
  ⟨(some 2), .mv (.c (.str ⟨#[]⟩)), none⟩,
  ⟨(some 3), .mv (.c (.int .i64 0)), none⟩]) (
 .seq (
 .seq (
 .ops [
  ⟨(some 7), .ldN 2 (.t 1), none⟩,
  ⟨(some 8), .call (.c (.func (.func 34) [] [])) [(.t 7)], none⟩,
  ⟨(some 4), .mv (.t 8), none⟩]) (
 .seq (
 .ops [
  ⟨(some 9), .mv (.t 4), none⟩,
  ⟨(some 10), .bin .neq (.t 9) (.c (.int .i64 0)), none⟩]) (
 .cond (.t 10) (
  .seq (
  .ops [
   ⟨(some 11), .mv (.t 4), none⟩,
   ⟨(some 2), .mv (.c (.str ⟨#[]⟩)), none⟩,
   ⟨(some 3), .mv (.t 11), none⟩]) (
  .ret)) (
  .skip)))) (
 .seq (
 .draw [
  (⟨(some 12), .fad 0 (.t 1), none⟩, .calm),
  (⟨(some 13), .ld1 (.t 12), none⟩, .reads 0 0),
  (⟨(some 14), .len .str (.t 13), none⟩, .calm),
  (⟨(some 15), .call (.c (.func (.func 90) [] [])) [(.t 14)], none⟩, .anchor),
  (⟨(some 16), .bin .add (.c (.str ⟨#[80, 65, 82, 65, 86, 65, 78, 69]⟩)) (.t 15), none⟩, .calm),
  (⟨(some 17), .fad 0 (.t 1), none⟩, .calm),
  (⟨(some 18), .ld1 (.t 17), none⟩, .reads 0 2),
  (⟨(some 19), .bin .add (.t 16) (.t 18), none⟩, .calm),
  (⟨(some 20), .fad 1 (.t 1), none⟩, .calm),
  (⟨(some 21), .ld1 (.t 20), none⟩, .reads 0 1),
  (⟨(some 22), .len .sl (.t 21), none⟩, .calm),
  (⟨(some 23), .call (.c (.func (.func 90) [] [])) [(.t 22)], none⟩, .anchor),
  (⟨(some 24), .bin .add (.t 19) (.t 23), none⟩, .calm),
  (⟨(some 25), .call (.c (.func (.func 89) [] [])) [(.t 24)], none⟩, .anchor),
  (⟨(some 5), .mv (.t 25), none⟩, .calm)]) (
 .seq (
 .seq (
 .ops [
  ⟨(some 6), .mv (.c (.int .i64 0)), none⟩]) (
 .block 0 (
  .loop (
   .seq (
   .seq (
   .ops [
    ⟨(some 26), .mv (.t 6), none⟩,
    ⟨(some 27), .fad 1 (.t 1), none⟩,
    ⟨(some 28), .ld1 (.t 27), none⟩,
    ⟨(some 29), .len .sl (.t 28), none⟩,
    ⟨(some 30), .bin .lss (.t 26) (.t 29), none⟩]) (
   .cond (.t 30) (
    .skip) (
    .exit 0))) (
   .seq (
   .block 1 (
    .ops [
     ⟨(some 33), .mv (.t 5), none⟩,
     ⟨(some 34), .fad 1 (.t 1), none⟩,
     ⟨(some 35), .ld1 (.t 34), none⟩,
     ⟨(some 36), .mv (.t 6), none⟩,
     ⟨(some 37), .iad none 3 (.t 35) (.t 36), none⟩,
     ⟨(some 38), .ldN 3 (.t 37), none⟩,
     ⟨(some 39), .call (.c (.func (.func 88) [] [])) [(.t 38)], none⟩,
     ⟨(some 40), .bin .add (.t 33) (.t 39), none⟩,
     ⟨(some 5), .mv (.t 40), none⟩])) (
   .ops [
    ⟨(some 31), .mv (.t 6), none⟩,
    ⟨(some 32), .bin .add (.t 31) (.c (.int .i64 1)), none⟩,
    ⟨(some 6), .mv (.t 32), none⟩])))))) (
 .seq (
 .ops [
  ⟨(some 41), .mv (.t 5), none⟩,
  ⟨(some 2), .mv (.t 41), none⟩,
  ⟨(some 3), .mv (.c (.int .i64 0)), none⟩]) (
 .ret))))), [.tmp 2, .tmp 3]⟩
theorem k4 : cFn Tryz.prog 4 = some x4 := by kernel_rfl
theorem k36 : cFn Tryz.prog 36 = some x36 := by kernel_rfl
theorem k37 : cFn Tryz.prog 37 = some x37 := by kernel_rfl
theorem k38 : cFn Tryz.prog 38 = some x38 := by kernel_rfl
theorem k67 : cFn Tryz.prog 67 = some x67 := by kernel_rfl
theorem k104 : cFn Tryz.prog 104 = some x104 := by kernel_rfl
theorem k133 : cFn Tryz.prog 133 = some x133 := by kernel_rfl
theorem k66 : cFn Tryz.prog 66 = some x66 := by kernel_rfl
theorem k88 : cFn Tryz.prog 88 = some x88 := by kernel_rfl
theorem k123 : cFn Tryz.prog 123 = some x123 := by kernel_rfl
theorem k124 : cFn Tryz.prog 124 = some x124 := by kernel_rfl
theorem k90 : cFn Tryz.prog 90 = some x90 := by kernel_rfl
theorem k89 : cFn Tryz.prog 89 = some x89 := by kernel_rfl
theorem k18 : cFn Tryz.prog 18 = some x18 := by kernel_rfl
theorem k39 : cFn Tryz.prog 39 = some x39 := by kernel_rfl
end Go.Proofs.YtlfkmgpngkbhpaaGreatDoor.C
end
