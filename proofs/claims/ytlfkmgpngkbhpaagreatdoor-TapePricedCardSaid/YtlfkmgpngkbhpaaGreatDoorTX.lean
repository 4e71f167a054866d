/-
 Part of the proof of TapePriced: what functions of the program and of the statement come to, walked by the rules. No condition beyond those in each theorem.
-/
import Derived.Test.YtlfkmgpngkbhpaaGreatDoorTA
import Derived.Test.YtlfkmgpngkbhpaaGreatDoorPvF
section
open Go PvL Go.Proofs
set_option linter.unusedVariables false
namespace Go.Proofs.YtlfkmgpngkbhpaaGreatDoor.C
def x45 : XF := ⟨15, .seq (
 .ops [
  ⟨(some 6), .mv (.c (.bool false)), none⟩]) (
 .seq (
 .ops [
  ⟨(some 7), .mv (.t 0), none⟩,
  ⟨(some 8), .mv (.t 1), none⟩,
  ⟨(some 9), .bin .geq (.t 7) (.t 8), none⟩,
  ⟨(some 10), .mv (.t 9), none⟩,
  ⟨(some 11), .mv (.t 0), some (10, true)⟩,
  ⟨(some 12), .mv (.t 2), some (10, true)⟩,
  ⟨(some 13), .bin .leq (.t 11) (.t 12), some (10, true)⟩,
  ⟨(some 14), .pick (.t 10) (.t 13) (.c (.bool false)), none⟩,
  ⟨(some 6), .mv (.t 14), none⟩]) (
 .ret)), [.tmp 6]⟩
theorem k45 : cFn Tryz.prog 45 = some x45 := by kernel_rfl
def x5 : XF := ⟨32, .seq (
 .ops [
  ⟨(some 2), .box 24 (.t 0), none⟩,
  ⟨(some 3), .box 24 (.t 1), none⟩,
  ⟨(some 4), .mv (.c (.bool false)), none⟩]) (
 .seq (
 .ops [
  ⟨(some 10), .ldN 3 (.t 2), none⟩,
  ⟨(some 11), .ldN 3 (.t 3), none⟩,
  ⟨(some 12), .call (.c (.func (.func 21) [] [])) [(.t 10), (.t 11)], none⟩,
  ⟨(some 9), .mv (.t 12), none⟩,
  ⟨(some 13), .ext 0 (.t 9), none⟩,
  ⟨(some 14), .ext 1 (.t 9), none⟩,
  ⟨(some 5), .new 24 [(.int .i64 0), (.int .i64 0), (.slice none 0 true 0)], none⟩,
  ⟨none, .st 3 (.t 5) (.t 13), none⟩,
  ⟨(some 6), .mv (.t 14), none⟩]) (
 .seq (
 .ops [
  ⟨(some 16), .ldN 3 (.t 2), none⟩,
  ⟨(some 17), .ldN 3 (.t 3), none⟩,
  ⟨(some 18), .call (.c (.func (.func 40) [] [])) [(.t 16), (.t 17)], none⟩,
  ⟨(some 15), .mv (.t 18), none⟩,
  ⟨(some 19), .ext 0 (.t 15), none⟩,
  ⟨(some 20), .ext 1 (.t 15), none⟩,
  ⟨(some 7), .new 24 [(.int .i64 0), (.int .i64 0), (.slice none 0 true 0)], none⟩,
  ⟨none, .st 3 (.t 7) (.t 19), none⟩,
  ⟨(some 8), .mv (.t 20), none⟩]) (
 .seq (
 .ops [
  ⟨(some 21), .ldN 3 (.t 5), none⟩,
  ⟨(some 22), .ldN 3 (.t 7), none⟩,
  ⟨(some 23), .call (.c (.func (.func 41) [] [])) [(.t 21), (.t 22)], none⟩,
  ⟨(some 24), .mv (.t 23), none⟩,
  ⟨(some 25), .mv (.t 6), some (24, true)⟩,
  ⟨(some 26), .mv (.t 8), some (24, true)⟩,
  ⟨(some 27), .bin .eql (.t 25) (.t 26), some (24, true)⟩,
  ⟨(some 28), .pick (.t 24) (.t 27) (.c (.bool false)), none⟩,
  ⟨(some 29), .mv (.t 28), none⟩,
  ⟨(some 30), .call (.c (.func (.func 32) [] [])) [], some (29, true)⟩,
  ⟨(some 31), .pick (.t 29) (.t 30) (.c (.bool false)), none⟩,
  ⟨(some 4), .mv (.t 31), none⟩]) (
 .ret)))), [.tmp 4]⟩
def x59 : XF := ⟨15, .seq (
 .ops [
  ⟨(some 6), .mv (.c (.bool false)), none⟩]) (
 .seq (
 .ops [
  ⟨(some 7), .mv (.t 0), none⟩,
  ⟨(some 8), .mv (.t 1), none⟩,
  ⟨(some 9), .bin .geq (.t 7) (.t 8), none⟩,
  ⟨(some 10), .mv (.t 9), none⟩,
  ⟨(some 11), .mv (.t 0), some (10, true)⟩,
  ⟨(some 12), .mv (.t 2), some (10, true)⟩,
  ⟨(some 13), .bin .leq (.t 11) (.t 12), some (10, true)⟩,
  ⟨(some 14), .pick (.t 10) (.t 13) (.c (.bool false)), none⟩,
  ⟨(some 6), .mv (.t 14), none⟩]) (
 .ret)), [.tmp 6]⟩
theorem k5 : cFn Tryz.prog 5 = some x5 := by kernel_rfl
theorem k59 : cFn Tryz.prog 59 = some x59 := by kernel_rfl
def x6 : XF := ⟨32, .seq (
 .ops [
  ⟨(some 4), .mv (.c (.bool false)), none⟩]) (
 .seq (
 .ops [
  ⟨(some 10), .mv (.t 0), none⟩,
  ⟨(some 11), .mv (.t 1), none⟩,
  ⟨(some 12), .call (.c (.func (.func 26) [] [])) [(.t 10), (.t 11)], none⟩,
  ⟨(some 9), .mv (.t 12), none⟩,
  ⟨(some 13), .ext 0 (.t 9), none⟩,
  ⟨(some 14), .ext 1 (.t 9), none⟩,
  ⟨(some 5), .mv (.t 13), none⟩,
  ⟨(some 6), .mv (.t 14), none⟩]) (
 .seq (
 .ops [
  ⟨(some 16), .mv (.t 0), none⟩,
  ⟨(some 17), .mv (.t 1), none⟩,
  ⟨(some 18), .call (.c (.func (.func 42) [] [])) [(.t 16), (.t 17)], none⟩,
  ⟨(some 15), .mv (.t 18), none⟩,
  ⟨(some 19), .ext 0 (.t 15), none⟩,
  ⟨(some 20), .ext 1 (.t 15), none⟩,
  ⟨(some 7), .mv (.t 19), none⟩,
  ⟨(some 8), .mv (.t 20), none⟩]) (
 .seq (
 .ops [
  ⟨(some 21), .mv (.t 5), none⟩,
  ⟨(some 22), .mv (.t 7), none⟩,
  ⟨(some 23), .call (.c (.func (.func 43) [] [])) [(.t 21), (.t 22)], none⟩,
  ⟨(some 24), .mv (.t 23), none⟩,
  ⟨(some 25), .mv (.t 6), some (24, true)⟩,
  ⟨(some 26), .mv (.t 8), some (24, true)⟩,
  ⟨(some 27), .bin .eql (.t 25) (.t 26), some (24, true)⟩,
  ⟨(some 28), .pick (.t 24) (.t 27) (.c (.bool false)), none⟩,
  ⟨(some 29), .mv (.t 28), none⟩,
  ⟨(some 30), .call (.c (.func (.func 32) [] [])) [], some (29, true)⟩,
  ⟨(some 31), .pick (.t 29) (.t 30) (.c (.bool false)), none⟩,
  ⟨(some 4), .mv (.t 31), none⟩]) (
 .ret)))), [.tmp 4]⟩
def x7 : XF := ⟨42, .seq (
 .ops [
  ⟨(some 4), .box 72 (.t 1), none⟩,
  ⟨(some 6), .mv (.c (.bool false)), none⟩]) (
 .seq (
 .ops [
  ⟨(some 12), .mv (.t 0), none⟩,
  ⟨(some 13), .iad (some 2) 1 (.t 4) (.c (.int .i64 0)), none⟩,
  ⟨(some 14), .ld1 (.t 13), none⟩,
  ⟨(some 15), .iad (some 2) 1 (.t 4) (.c (.int .i64 1)), none⟩,
  ⟨(some 16), .ld1 (.t 15), none⟩,
  ⟨(some 17), .mv (.t 2), none⟩,
  ⟨(some 18), .call (.c (.func (.func 31) [] [])) [(.t 12), (.t 14), (.t 16), (.t 17)], none⟩,
  ⟨(some 11), .mv (.t 18), none⟩,
  ⟨(some 19), .ext 0 (.t 11), none⟩,
  ⟨(some 20), .ext 1 (.t 11), none⟩,
  ⟨(some 7), .mv (.t 19), none⟩,
  ⟨(some 8), .mv (.t 20), none⟩]) (
 .seq (
 .ops [
  ⟨(some 22), .mv (.t 0), none⟩,
  ⟨(some 23), .iad (some 2) 1 (.t 4) (.c (.int .i64 0)), none⟩,
  ⟨(some 24), .ld1 (.t 23), none⟩,
  ⟨(some 25), .iad (some 2) 1 (.t 4) (.c (.int .i64 1)), none⟩,
  ⟨(some 26), .ld1 (.t 25), none⟩,
  ⟨(some 27), .mv (.t 2), none⟩,
  ⟨(some 28), .call (.c (.func (.func 44) [] [])) [(.t 22), (.t 24), (.t 26), (.t 27)], none⟩,
  ⟨(some 21), .mv (.t 28), none⟩,
  ⟨(some 29), .ext 0 (.t 21), none⟩,
  ⟨(some 30), .ext 1 (.t 21), none⟩,
  ⟨(some 9), .mv (.t 29), none⟩,
  ⟨(some 10), .mv (.t 30), none⟩]) (
 .seq (
 .ops [
  ⟨(some 31), .mv (.t 7), none⟩,
  ⟨(some 32), .mv (.t 9), none⟩,
  ⟨(some 33), .bin .eql (.t 31) (.t 32), none⟩,
  ⟨(some 34), .mv (.t 33), none⟩,
  ⟨(some 35), .mv (.t 8), some (34, true)⟩,
  ⟨(some 36), .mv (.t 10), some (34, true)⟩,
  ⟨(some 37), .bin .eql (.t 35) (.t 36), some (34, true)⟩,
  ⟨(some 38), .pick (.t 34) (.t 37) (.c (.bool false)), none⟩,
  ⟨(some 39), .mv (.t 38), none⟩,
  ⟨(some 40), .call (.c (.func (.func 32) [] [])) [], some (39, true)⟩,
  ⟨(some 41), .pick (.t 39) (.t 40) (.c (.bool false)), none⟩,
  ⟨(some 6), .mv (.t 41), none⟩]) (
 .ret)))), [.tmp 6]⟩
def x31 : XF := ⟨75, .seq (
 .ops [
  ⟨(some 8), .mv (.c (.int .i64 0)), none⟩,
  ⟨(some 9), .mv (.c (.int .i64 0)), none⟩]) (
 .seq (
 .ops [
  ⟨(some 20), .mv (.t 0), none⟩,
  ⟨(some 21), .mv (.t 1), none⟩,
  ⟨(some 22), .mv (.t 2), none⟩,
  ⟨(some 23), .call (.c (.func (.func 82) [] [])) [(.t 20), (.t 21), (.t 22)], none⟩,
  ⟨(some 19), .mv (.t 23), none⟩,
  ⟨(some 24), .ext 0 (.t 19), none⟩,
  ⟨(some 25), .ext 1 (.t 19), none⟩,
  ⟨(some 10), .new 127 [(.slice none 0 true 0), (.int .i64 0), (.int .i64 0)], none⟩,
  ⟨none, .st 3 (.t 10) (.t 24), none⟩,
  ⟨(some 11), .mv (.t 25), none⟩]) (
 .seq (
 .seq (
 .ops [
  ⟨(some 26), .mv (.t 11), none⟩,
  ⟨(some 27), .bin .neq (.t 26) (.c (.int .i64 0)), none⟩]) (
 .cond (.t 27) (
  .seq (
  .ops [
   ⟨(some 28), .mv (.t 11), none⟩,
   ⟨(some 8), .mv (.c (.int .i64 0)), none⟩,
   ⟨(some 9), .mv (.t 28), none⟩]) (
  .ret)) (
  .skip))) (
 .seq (
 .seq (
 .ops [
  ⟨(some 29), .mv (.t 3), none⟩,
  ⟨(some 30), .len .sl (.t 29), none⟩,
  ⟨(some 31), .mv (.t 0), none⟩,
  ⟨(some 32), .len .sl (.t 31), none⟩,
  ⟨(some 33), .bin .neq (.t 30) (.t 32), none⟩]) (
 .cond (.t 33) (
  .seq (
  .ops [
   ⟨(some 8), .mv (.c (.int .i64 0)), none⟩,
   ⟨(some 9), .mv (.c (.int .i64 85)), none⟩]) (
  .ret)) (
  .skip))) (
 .seq (
 .ops [
  ⟨(some 12), .mv (.c (.int .i64 0)), none⟩]) (
 .seq (
 .seq (
 .ops [
  ⟨(some 34), .mv (.t 3), none⟩,
  ⟨(some 35), .len .sl (.t 34), none⟩,
  ⟨(some 36), .mv (.c (.int .i64 0)), none⟩]) (
 .block 0 (
  .loop (
   .seq (
   .ops [
    ⟨(some 37), .bin .lss (.t 36) (.t 35), none⟩]) (
   .seq (
   .cond (.t 37) (
    .skip) (
    .exit 0)) (
   .seq (
   .block 1 (
    .seq (
    .ops [
     ⟨(some 38), .mv (.t 36), none⟩,
     ⟨(some 39), .iad none 1 (.t 34) (.t 36), none⟩,
     ⟨(some 40), .ld1 (.t 39), none⟩,
     ⟨(some 13), .mv (.t 38), none⟩,
     ⟨(some 14), .mv (.t 40), none⟩]) (
    .seq (
    .seq (
    .ops [
     ⟨(some 41), .mv (.t 14), none⟩,
     ⟨(some 42), .call (.c (.func (.func 59) [] [])) [(.t 41), (.c (.int .i64 0)), (.c (.int .i64 1048576))], none⟩,
     ⟨(some 43), .un .not (.t 42), none⟩]) (
    .cond (.t 43) (
     .seq (
     .ops [
      ⟨(some 8), .mv (.c (.int .i64 0)), none⟩,
      ⟨(some 9), .mv (.c (.int .i64 85)), none⟩]) (
     .ret)) (
     .skip))) (
    .seq (
    .ops [
     ⟨(some 44), .mv (.t 12), none⟩,
     ⟨(some 45), .mv (.t 14), none⟩,
     ⟨(some 46), .bin .add (.t 44) (.t 45), none⟩,
     ⟨(some 12), .mv (.t 46), none⟩]) (
    .seq (
    .ops [
     ⟨(some 15), .mv (.c (.int .i64 0)), none⟩]) (
    .seq (
    .ops [
     ⟨(some 47), .mv (.t 13), none⟩,
     ⟨(some 16), .mv (.t 47), none⟩]) (
    .block 2 (
     .loop (
      .seq (
      .seq (
      .ops [
       ⟨(some 48), .mv (.t 16), none⟩,
       ⟨(some 49), .mv (.t 0), none⟩,
       ⟨(some 50), .len .sl (.t 49), none⟩,
       ⟨(some 51), .bin .lss (.t 48) (.t 50), none⟩]) (
      .cond (.t 51) (
       .skip) (
       .exit 2))) (
      .seq (
      .block 3 (
       .seq (
       .ops [
        ⟨(some 55), .ldN 3 (.t 10), none⟩,
        ⟨(some 56), .mv (.t 13), none⟩,
        ⟨(some 57), .mv (.t 16), none⟩,
        ⟨(some 58), .call (.c (.func (.func 83) [] [])) [(.t 55), (.t 56), (.t 57)], none⟩,
        ⟨(some 54), .mv (.t 58), none⟩,
        ⟨(some 59), .ext 0 (.t 54), none⟩,
        ⟨(some 60), .ext 1 (.t 54), none⟩,
        ⟨(some 17), .mv (.t 59), none⟩,
        ⟨(some 18), .mv (.t 60), none⟩]) (
       .seq (
       .ops [
        ⟨(some 61), .mv (.t 15), none⟩,
        ⟨(some 62), .mv (.t 3), none⟩,
        ⟨(some 63), .mv (.t 16), none⟩,
        ⟨(some 64), .iad none 1 (.t 62) (.t 63), none⟩,
        ⟨(some 65), .ld1 (.t 64), none⟩,
        ⟨(some 66), .bin .add (.t 61) (.t 65), none⟩,
        ⟨(some 15), .mv (.t 66), none⟩]) (
       .seq (
       .ops [
        ⟨(some 67), .mv (.t 18), none⟩,
        ⟨(some 68), .mv (.t 67), none⟩,
        ⟨(some 69), .mv (.t 15), some (68, true)⟩,
        ⟨(some 70), .mv (.t 17), some (68, true)⟩,
        ⟨(some 71), .bin .gtr (.t 69) (.t 70), some (68, true)⟩,
        ⟨(some 72), .pick (.t 68) (.t 71) (.c (.bool false)), none⟩]) (
       .cond (.t 72) (
        .seq (
        .ops [
         ⟨(some 8), .mv (.c (.int .i64 0)), none⟩,
         ⟨(some 9), .mv (.c (.int .i64 85)), none⟩]) (
        .ret)) (
        .skip)))))) (
      .ops [
       ⟨(some 52), .mv (.t 16), none⟩,
       ⟨(some 53), .bin .add (.t 52) (.c (.int .i64 1)), none⟩,
       ⟨(some 16), .mv (.t 53), none⟩]))))))))))) (
   .ops [
    ⟨(some 73), .bin .add (.t 36) (.c (.int .i64 1)), none⟩,
    ⟨(some 36), .mv (.t 73), none⟩]))))))) (
 .seq (
 .ops [
  ⟨(some 74), .mv (.t 12), none⟩,
  ⟨(some 8), .mv (.t 74), none⟩,
  ⟨(some 9), .mv (.c (.int .i64 0)), none⟩]) (
 .ret))))))), [.tmp 8, .tmp 9]⟩
def x44 : XF := ⟨85, .seq (
 .ops [
  ⟨(some 8), .mv (.c (.int .i64 0)), none⟩,
  ⟨(some 9), .mv (.c (.int .i64 0)), none⟩]) (
 .seq (
 .seq (
 .ops [
  ⟨(some 14), .mv (.t 0), none⟩,
  ⟨(some 15), .mv (.t 1), none⟩,
  ⟨(some 16), .mv (.t 2), none⟩,
  ⟨(some 17), .call (.c (.func (.func 93) [] [])) [(.t 14), (.t 15), (.t 16)], none⟩,
  ⟨(some 18), .un .not (.t 17), none⟩]) (
 .cond (.t 18) (
  .seq (
  .ops [
   ⟨(some 8), .mv (.c (.int .i64 0)), none⟩,
   ⟨(some 9), .mv (.c (.int .i64 84)), none⟩]) (
  .ret)) (
  .skip))) (
 .seq (
 .seq (
 .ops [
  ⟨(some 19), .mv (.t 3), none⟩,
  ⟨(some 20), .len .sl (.t 19), none⟩,
  ⟨(some 21), .mv (.t 0), none⟩,
  ⟨(some 22), .len .sl (.t 21), none⟩,
  ⟨(some 23), .bin .neq (.t 20) (.t 22), none⟩]) (
 .cond (.t 23) (
  .seq (
  .ops [
   ⟨(some 8), .mv (.c (.int .i64 0)), none⟩,
   ⟨(some 9), .mv (.c (.int .i64 85)), none⟩]) (
  .ret)) (
  .skip))) (
 .seq (
 .seq (
 .ops [
  ⟨(some 10), .mv (.c (.int .i64 0)), none⟩]) (
 .block 0 (
  .loop (
   .seq (
   .seq (
   .ops [
    ⟨(some 24), .mv (.t 10), none⟩,
    ⟨(some 25), .mv (.t 3), none⟩,
    ⟨(some 26), .len .sl (.t 25), none⟩,
    ⟨(some 27), .bin .lss (.t 24) (.t 26), none⟩]) (
   .cond (.t 27) (
    .skip) (
    .exit 0))) (
   .seq (
   .block 1 (
    .seq (
    .ops [
     ⟨(some 30), .mv (.t 3), none⟩,
     ⟨(some 31), .mv (.t 10), none⟩,
     ⟨(some 32), .iad none 1 (.t 30) (.t 31), none⟩,
     ⟨(some 33), .ld1 (.t 32), none⟩,
     ⟨(some 34), .call (.c (.func (.func 45) [] [])) [(.t 33), (.c (.int .i64 0)), (.c (.int .i64 1048576))], none⟩,
     ⟨(some 35), .un .not (.t 34), none⟩]) (
    .cond (.t 35) (
     .seq (
     .ops [
      ⟨(some 8), .mv (.c (.int .i64 0)), none⟩,
      ⟨(some 9), .mv (.c (.int .i64 85)), none⟩]) (
     .ret)) (
     .skip)))) (
   .ops [
    ⟨(some 28), .mv (.t 10), none⟩,
    ⟨(some 29), .bin .add (.t 28) (.c (.int .i64 1)), none⟩,
    ⟨(some 10), .mv (.t 29), none⟩])))))) (
 .seq (
 .seq (
 .ops [
  ⟨(some 11), .mv (.c (.int .i64 0)), none⟩]) (
 .block 2 (
  .loop (
   .seq (
   .seq (
   .ops [
    ⟨(some 36), .mv (.t 11), none⟩,
    ⟨(some 37), .mv (.t 0), none⟩,
    ⟨(some 38), .len .sl (.t 37), none⟩,
    ⟨(some 39), .bin .lss (.t 36) (.t 38), none⟩]) (
   .cond (.t 39) (
    .skip) (
    .exit 2))) (
   .seq (
   .block 3 (
    .seq (
    .ops [
     ⟨(some 12), .mv (.c (.int .i64 0)), none⟩]) (
    .seq (
    .ops [
     ⟨(some 42), .mv (.t 11), none⟩,
     ⟨(some 13), .mv (.t 42), none⟩]) (
    .block 4 (
     .loop (
      .seq (
      .seq (
      .draw [
       (⟨(some 43), .mv (.t 13), none⟩, .calm),
       (⟨(some 44), .mv (.t 0), none⟩, .calm),
       (⟨(some 45), .len .sl (.t 44), none⟩, .calm),
       (⟨(some 46), .bin .lss (.t 43) (.t 45), none⟩, .calm),
       (⟨(some 47), .mv (.t 46), none⟩, .calm),
       (⟨(some 48), .mv (.t 0), some (47, true)⟩, .calm),
       (⟨(some 49), .mv (.t 13), some (47, true)⟩, .calm),
       (⟨(some 50), .iad none 1 (.t 48) (.t 49), some (47, true)⟩, .calm),
       (⟨(some 51), .ld1 (.t 50), some (47, true)⟩, .reads 0 0),
       (⟨(some 52), .mv (.t 0), some (47, true)⟩, .calm),
       (⟨(some 53), .mv (.t 11), some (47, true)⟩, .calm),
       (⟨(some 54), .iad none 1 (.t 52) (.t 53), some (47, true)⟩, .calm),
       (⟨(some 55), .ld1 (.t 54), some (47, true)⟩, .reads 0 0),
       (⟨(some 56), .bin .sub (.t 51) (.t 55), some (47, true)⟩, .calm),
       (⟨(some 57), .bin .add (.t 56) (.c (.int .i64 1)), some (47, true)⟩, .calm),
       (⟨(some 58), .mv (.t 2), some (47, true)⟩, .calm),
       (⟨(some 59), .bin .leq (.t 57) (.t 58), some (47, true)⟩, .calm),
       (⟨(some 60), .pick (.t 47) (.t 59) (.c (.bool false)), none⟩, .calm)]) (
      .cond (.t 60) (
       .skip) (
       .exit 4))) (
      .seq (
      .block 5 (
       .seq (
       .ops [
        ⟨(some 63), .mv (.t 12), none⟩,
        ⟨(some 64), .mv (.t 3), none⟩,
        ⟨(some 65), .mv (.t 13), none⟩,
        ⟨(some 66), .iad none 1 (.t 64) (.t 65), none⟩,
        ⟨(some 67), .ld1 (.t 66), none⟩,
        ⟨(some 68), .bin .add (.t 63) (.t 67), none⟩,
        ⟨(some 12), .mv (.t 68), none⟩]) (
       .seq (
       .draw [
        (⟨(some 69), .mv (.t 12), none⟩, .calm),
        (⟨(some 70), .mv (.t 1), none⟩, .calm),
        (⟨(some 71), .mv (.t 0), none⟩, .calm),
        (⟨(some 72), .mv (.t 13), none⟩, .calm),
        (⟨(some 73), .iad none 1 (.t 71) (.t 72), none⟩, .calm),
        (⟨(some 74), .ld1 (.t 73), none⟩, .reads 0 0),
        (⟨(some 75), .bin .add (.t 70) (.t 74), none⟩, .calm),
        (⟨(some 76), .mv (.t 0), none⟩, .calm),
        (⟨(some 77), .mv (.t 11), none⟩, .calm),
        (⟨(some 78), .iad none 1 (.t 76) (.t 77), none⟩, .calm),
        (⟨(some 79), .ld1 (.t 78), none⟩, .reads 0 0),
        (⟨(some 80), .bin .sub (.t 75) (.t 79), none⟩, .calm),
        (⟨(some 81), .bin .add (.t 80) (.c (.int .i64 1)), none⟩, .calm),
        (⟨(some 82), .bin .gtr (.t 69) (.t 81), none⟩, .calm)]) (
       .cond (.t 82) (
        .seq (
        .ops [
         ⟨(some 8), .mv (.c (.int .i64 0)), none⟩,
         ⟨(some 9), .mv (.c (.int .i64 85)), none⟩]) (
        .ret)) (
        .skip))))) (
      .ops [
       ⟨(some 61), .mv (.t 13), none⟩,
       ⟨(some 62), .bin .add (.t 61) (.c (.int .i64 1)), none⟩,
       ⟨(some 13), .mv (.t 62), none⟩])))))))) (
   .ops [
    ⟨(some 40), .mv (.t 11), none⟩,
    ⟨(some 41), .bin .add (.t 40) (.c (.int .i64 1)), none⟩,
    ⟨(some 11), .mv (.t 41), none⟩])))))) (
 .seq (
 .ops [
  ⟨(some 83), .mv (.t 3), none⟩,
  ⟨(some 84), .call (.c (.func (.func 94) [] [])) [(.t 83)], none⟩,
  ⟨(some 8), .mv (.t 84), none⟩,
  ⟨(some 9), .mv (.c (.int .i64 0)), none⟩]) (
 .ret)))))), [.tmp 8, .tmp 9]⟩
theorem k6 : cFn Tryz.prog 6 = some x6 := by kernel_rfl
theorem k7 : cFn Tryz.prog 7 = some x7 := by kernel_rfl
theorem k31 : cFn Tryz.prog 31 = some x31 := by kernel_rfl
theorem k44 : cFn Tryz.prog 44 = some x44 := by kernel_rfl
def x82 : XF := ⟨55, .seq (
 .ops [
  ⟨(some 6), .new 127 [(.slice none 0 true 0), (.int .i64 0), (.int .i64 0)], none⟩,
  ⟨(some 7), .mv (.c (.int .i64 0)), none⟩]) (
 .seq (
 .ops [
  ⟨(some 11), .mv (.t 0), none⟩,
  ⟨(some 12), .len .sl (.t 11), none⟩,
  ⟨(some 13), .bin .leq (.t 12) (.c (.int .i64 128)), none⟩,
  ⟨(some 14), .mv (.t 13), none⟩,
  ⟨(some 15), .mv (.t 1), some (14, true)⟩,
  ⟨(some 16), .call (.c (.func (.func 59) [] [])) [(.t 15), (.c (.int .i64 0)), (.c (.int .i64 1000))], some (14, true)⟩,
  ⟨(some 17), .pick (.t 14) (.t 16) (.c (.bool false)), none⟩,
  ⟨(some 18), .mv (.t 17), none⟩,
  ⟨(some 19), .mv (.t 2), some (18, true)⟩,
  ⟨(some 20), .call (.c (.func (.func 59) [] [])) [(.t 19), (.c (.int .i64 1)), (.c (.int .i64 1000))], some (18, true)⟩,
  ⟨(some 21), .pick (.t 18) (.t 20) (.c (.bool false)), none⟩,
  ⟨(some 8), .mv (.t 21), none⟩]) (
 .seq (
 .seq (
 .ops [
  ⟨(some 22), .mv (.t 0), none⟩,
  ⟨(some 23), .len .sl (.t 22), none⟩,
  ⟨(some 24), .mv (.c (.int .i64 0)), none⟩]) (
 .block 0 (
  .loop (
   .seq (
   .ops [
    ⟨(some 25), .bin .lss (.t 24) (.t 23), none⟩]) (
   .seq (
   .cond (.t 25) (
    .skip) (
    .exit 0)) (
   .seq (
   .block 1 (
    .seq (
    .ops [
     ⟨(some 26), .mv (.t 24), none⟩,
     ⟨(some 27), .iad none 1 (.t 22) (.t 24), none⟩,
     ⟨(some 28), .ld1 (.t 27), none⟩,
     ⟨(some 9), .mv (.t 26), none⟩,
     ⟨(some 10), .mv (.t 28), none⟩]) (
    .ops [
     ⟨(some 29), .mv (.t 8), none⟩,
     ⟨(some 30), .mv (.t 29), none⟩,
     ⟨(some 31), .mv (.t 10), some (30, true)⟩,
     ⟨(some 32), .call (.c (.func (.func 59) [] [])) [(.t 31), (.c (.int .i64 0)), (.c (.int .i64 60000))], some (30, true)⟩,
     ⟨(some 33), .pick (.t 30) (.t 32) (.c (.bool false)), none⟩,
     ⟨(some 34), .mv (.t 33), none⟩,
     ⟨(some 35), .mv (.t 9), some (34, true)⟩,
     ⟨(some 36), .bin .eql (.t 35) (.c (.int .i64 0)), some (34, true)⟩,
     ⟨(some 37), .mv (.t 36), some (34, true)⟩,
     ⟨(some 38), .mv (.t 0), some (37, false)⟩,
     ⟨(some 39), .mv (.t 9), some (37, false)⟩,
     ⟨(some 40), .bin .sub (.t 39) (.c (.int .i64 1)), some (37, false)⟩,
     ⟨(some 41), .iad none 1 (.t 38) (.t 40), some (37, false)⟩,
     ⟨(some 42), .ld1 (.t 41), some (37, false)⟩,
     ⟨(some 43), .mv (.t 10), some (37, false)⟩,
     ⟨(some 44), .bin .lss (.t 42) (.t 43), some (37, false)⟩,
     ⟨(some 45), .pick (.t 37) (.c (.bool true)) (.t 44), some (34, true)⟩,
     ⟨(some 46), .pick (.t 34) (.t 45) (.c (.bool false)), none⟩,
     ⟨(some 8), .mv (.t 46), none⟩]))) (
   .ops [
    ⟨(some 47), .bin .add (.t 24) (.c (.int .i64 1)), none⟩,
    ⟨(some 24), .mv (.t 47), none⟩]))))))) (
 .seq (
 .seq (
 .ops [
  ⟨(some 48), .mv (.t 8), none⟩,
  ⟨(some 49), .un .not (.t 48), none⟩]) (
 .cond (.t 49) (
  .seq (
  .ops [
   ⟨(some 50), .build [(.slice none 0 true 0), (.int .i64 0), (.int .i64 0)] [], none⟩,
   ⟨none, .st 3 (.t 6) (.t 50), none⟩,
   ⟨(some 7), .mv (.c (.int .i64 84)), none⟩]) (
  .ret)) (
  .skip))) (
 .seq (
 .ops [
  ⟨(some 51), .mv (.t 0), none⟩,
  ⟨(some 52), .mv (.t 1), none⟩,
  ⟨(some 53), .mv (.t 2), none⟩,
  ⟨(some 54), .build [(.slice none 0 true 0), (.int .i64 0), (.int .i64 0)] [(0, 1, (.t 51)), (1, 1, (.t 52)), (2, 1, (.t 53))], none⟩,
  ⟨none, .st 3 (.t 6) (.t 54), none⟩,
  ⟨(some 7), .mv (.c (.int .i64 0)), none⟩]) (
 .ret))))), [.cellN 6 3, .tmp 7]⟩
def x83 : XF := ⟨29, .seq (
 .ops [
  ⟨(some 3), .box 127 (.t 0), none⟩,
  ⟨(some 6), .mv (.c (.int .i64 0)), none⟩,
  ⟨(some 7), .mv (.c (.bool false)), none⟩]) (
 .seq (
 .draw [
  (⟨(some 9), .fad 0 (.t 3), none⟩, .calm),
  (⟨(some 10), .ld1 (.t 9), none⟩, .reads 0 0),
  (⟨(some 11), .mv (.t 2), none⟩, .calm),
  (⟨(some 12), .iad none 1 (.t 10) (.t 11), none⟩, .calm),
  (⟨(some 13), .ld1 (.t 12), none⟩, .reads 0 0),
  (⟨(some 14), .fad 0 (.t 3), none⟩, .calm),
  (⟨(some 15), .ld1 (.t 14), none⟩, .reads 0 0),
  (⟨(some 16), .mv (.t 1), none⟩, .calm),
  (⟨(some 17), .iad none 1 (.t 15) (.t 16), none⟩, .calm),
  (⟨(some 18), .ld1 (.t 17), none⟩, .reads 0 0),
  (⟨(some 19), .bin .sub (.t 13) (.t 18), none⟩, .calm),
  (⟨(some 20), .bin .add (.t 19) (.c (.int .i64 1)), none⟩, .calm),
  (⟨(some 8), .mv (.t 20), none⟩, .calm)]) (
 .seq (
 .draw [
  (⟨(some 21), .fad 1 (.t 3), none⟩, .calm),
  (⟨(some 22), .ld1 (.t 21), none⟩, .reads 0 0),
  (⟨(some 23), .mv (.t 8), none⟩, .calm),
  (⟨(some 24), .bin .add (.t 22) (.t 23), none⟩, .calm),
  (⟨(some 25), .mv (.t 8), none⟩, .calm),
  (⟨(some 26), .fad 2 (.t 3), none⟩, .calm),
  (⟨(some 27), .ld1 (.t 26), none⟩, .reads 0 0),
  (⟨(some 28), .bin .leq (.t 25) (.t 27), none⟩, .calm),
  (⟨(some 6), .mv (.t 24), none⟩, .calm),
  (⟨(some 7), .mv (.t 28), none⟩, .calm)]) (
 .ret))), [.tmp 6, .tmp 7]⟩
def x93 : XF := ⟨51, .seq (
 .ops [
  ⟨(some 6), .mv (.c (.bool false)), none⟩]) (
 .seq (
 .ops [
  ⟨(some 9), .mv (.t 0), none⟩,
  ⟨(some 10), .len .sl (.t 9), none⟩,
  ⟨(some 11), .bin .leq (.t 10) (.c (.int .i64 128)), none⟩,
  ⟨(some 12), .mv (.t 11), none⟩,
  ⟨(some 13), .mv (.t 1), some (12, true)⟩,
  ⟨(some 14), .call (.c (.func (.func 45) [] [])) [(.t 13), (.c (.int .i64 0)), (.c (.int .i64 1000))], some (12, true)⟩,
  ⟨(some 15), .pick (.t 12) (.t 14) (.c (.bool false)), none⟩,
  ⟨(some 16), .mv (.t 15), none⟩,
  ⟨(some 17), .mv (.t 2), some (16, true)⟩,
  ⟨(some 18), .call (.c (.func (.func 45) [] [])) [(.t 17), (.c (.int .i64 1)), (.c (.int .i64 1000))], some (16, true)⟩,
  ⟨(some 19), .pick (.t 16) (.t 18) (.c (.bool false)), none⟩,
  ⟨(some 7), .mv (.t 19), none⟩]) (
 .seq (
 .seq (
 .ops [
  ⟨(some 8), .mv (.c (.int .i64 0)), none⟩]) (
 .block 0 (
  .loop (
   .seq (
   .seq (
   .ops [
    ⟨(some 20), .mv (.t 8), none⟩,
    ⟨(some 21), .mv (.t 0), none⟩,
    ⟨(some 22), .len .sl (.t 21), none⟩,
    ⟨(some 23), .bin .lss (.t 20) (.t 22), none⟩]) (
   .cond (.t 23) (
    .skip) (
    .exit 0))) (
   .seq (
   .block 1 (
    .draw [
     (⟨(some 26), .mv (.t 7), none⟩, .calm),
     (⟨(some 27), .mv (.t 26), none⟩, .calm),
     (⟨(some 28), .mv (.t 0), some (27, true)⟩, .calm),
     (⟨(some 29), .mv (.t 8), some (27, true)⟩, .calm),
     (⟨(some 30), .iad none 1 (.t 28) (.t 29), some (27, true)⟩, .calm),
     (⟨(some 31), .ld1 (.t 30), some (27, true)⟩, .reads 0 0),
     (⟨(some 32), .call (.c (.func (.func 45) [] [])) [(.t 31), (.c (.int .i64 0)), (.c (.int .i64 60000))], some (27, true)⟩, .new),
     (⟨(some 33), .pick (.t 27) (.t 32) (.c (.bool false)), none⟩, .calm),
     (⟨(some 34), .mv (.t 33), none⟩, .calm),
     (⟨(some 35), .mv (.t 8), some (34, true)⟩, .calm),
     (⟨(some 36), .bin .eql (.t 35) (.c (.int .i64 0)), some (34, true)⟩, .calm),
     (⟨(some 37), .mv (.t 36), some (34, true)⟩, .calm),
     (⟨(some 38), .mv (.t 0), some (37, false)⟩, .calm),
     (⟨(some 39), .mv (.t 8), some (37, false)⟩, .calm),
     (⟨(some 40), .bin .sub (.t 39) (.c (.int .i64 1)), some (37, false)⟩, .calm),
     (⟨(some 41), .iad none 1 (.t 38) (.t 40), some (37, false)⟩, .calm),
     (⟨(some 42), .ld1 (.t 41), some (37, false)⟩, .reads 0 0),
     (⟨(some 43), .mv (.t 0), some (37, false)⟩, .calm),
     (⟨(some 44), .mv (.t 8), some (37, false)⟩, .calm),
     (⟨(some 45), .iad none 1 (.t 43) (.t 44), some (37, false)⟩, .calm),
     (⟨(some 46), .ld1 (.t 45), some (37, false)⟩, .reads 0 0),
     (⟨(some 47), .bin .lss (.t 42) (.t 46), some (37, false)⟩, .calm),
     (⟨(some 48), .pick (.t 37) (.c (.bool true)) (.t 47), some (34, true)⟩, .calm),
     (⟨(some 49), .pick (.t 34) (.t 48) (.c (.bool false)), none⟩, .calm),
     (⟨(some 7), .mv (.t 49), none⟩, .calm)])) (
   .ops [
    ⟨(some 24), .mv (.t 8), none⟩,
    ⟨(some 25), .bin .add (.t 24) (.c (.int .i64 1)), none⟩,
    ⟨(some 8), .mv (.t 25), none⟩])))))) (
 .seq (
 .ops [
  ⟨(some 50), .mv (.t 7), none⟩,
  ⟨(some 6), .mv (.t 50), none⟩]) (
 .ret)))), [.tmp 6]⟩
def x94 : XF := ⟨18, .seq (
 .ops [
  ⟨(some 2), .mv (.c (.int .i64 0)), none⟩]) (
 .seq (
 .ops [
  ⟨(some 3), .mv (.c (.int .i64 0)), none⟩]) (
 .seq (
 .seq (
 .ops [
  ⟨(some 4), .mv (.c (.int .i64 0)), none⟩]) (
 .block 0 (
  .loop (
   .seq (
   .seq (
   .ops [
    ⟨(some 5), .mv (.t 4), none⟩,
    ⟨(some 6), .mv (.t 0), none⟩,
    ⟨(some 7), .len .sl (.t 6), none⟩,
    ⟨(some 8), .bin .lss (.t 5) (.t 7), none⟩]) (
   .cond (.t 8) (
    .skip) (
    .exit 0))) (
   .seq (
   .block 1 (
    .ops [
     ⟨(some 11), .mv (.t 3), none⟩,
     ⟨(some 12), .mv (.t 0), none⟩,
     ⟨(some 13), .mv (.t 4), none⟩,
     ⟨(some 14), .iad none 1 (.t 12) (.t 13), none⟩,
     ⟨(some 15), .ld1 (.t 14), none⟩,
     ⟨(some 16), .bin .add (.t 11) (.t 15), none⟩,
     ⟨(some 3), .mv (.t 16), none⟩])) (
   .ops [
    ⟨(some 9), .mv (.t 4), none⟩,
    ⟨(some 10), .bin .add (.t 9) (.c (.int .i64 1)), none⟩,
    ⟨(some 4), .mv (.t 10), none⟩])))))) (
 .seq (
 .ops [
  ⟨(some 17), .mv (.t 3), none⟩,
  ⟨(some 2), .mv (.t 17), none⟩]) (
 .ret)))), [.tmp 2]⟩
theorem k82 : cFn Tryz.prog 82 = some x82 := by kernel_rfl
theorem k83 : cFn Tryz.prog 83 = some x83 := by kernel_rfl
theorem k93 : cFn Tryz.prog 93 = some x93 := by kernel_rfl
theorem k94 : cFn Tryz.prog 94 = some x94 := by kernel_rfl
end Go.Proofs.YtlfkmgpngkbhpaaGreatDoor.C
end
