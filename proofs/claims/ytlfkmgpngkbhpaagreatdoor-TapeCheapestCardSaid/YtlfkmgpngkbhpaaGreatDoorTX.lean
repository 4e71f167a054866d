/-
 Part of the proof of TapeCheapest: what functions of the program and of the statement come to, walked by the rules. No condition beyond those in each theorem.
-/
import Derived.Test.YtlfkmgpngkbhpaaGreatDoorTA
import Derived.Test.YtlfkmgpngkbhpaaGreatDoorPvF
section
open Go PvL Go.Proofs
set_option linter.unusedVariables false
namespace Go.Proofs.YtlfkmgpngkbhpaaGreatDoor.C
def x45 : XF := ⟨15, .seq (
 .ops [
  ⟨(some 6), .mv (.c (.bool false)), none⟩]) (
 .seq (
 .ops [
  ⟨(some 7), .mv (.t 0), none⟩,
  ⟨(some 8), .mv (.t 1), none⟩,
  ⟨(some 9), .bin .geq (.t 7) (.t 8), none⟩,
  ⟨(some 10), .mv (.t 9), none⟩,
  ⟨(some 11), .mv (.t 0), some (10, true)⟩,
  ⟨(some 12), .mv (.t 2), some (10, true)⟩,
  ⟨(some 13), .bin .leq (.t 11) (.t 12), some (10, true)⟩,
  ⟨(some 14), .pick (.t 10) (.t 13) (.c (.bool false)), none⟩,
  ⟨(some 6), .mv (.t 14), none⟩]) (
 .ret)), [.tmp 6]⟩
theorem k45 : cFn Tryz.prog 45 = some x45 := by kernel_rfl
def x5 : XF := ⟨32, .seq (
 .ops [
  ⟨(some 2), .box 24 (.t 0), none⟩,
  ⟨(some 3), .box 24 (.t 1), none⟩,
  ⟨(some 4), .mv (.c (.bool false)), none⟩]) (
 .seq (
 .ops [
  ⟨(some 10), .ldN 3 (.t 2), none⟩,
  ⟨(some 11), .ldN 3 (.t 3), none⟩,
  ⟨(some 12), .call (.c (.func (.func 21) [] [])) [(.t 10), (.t 11)], none⟩,
  ⟨(some 9), .mv (.t 12), none⟩,
  ⟨(some 13), .ext 0 (.t 9), none⟩,
  ⟨(some 14), .ext 1 (.t 9), none⟩,
  ⟨(some 5), .new 24 [(.int .i64 0), (.int .i64 0), (.slice none 0 true 0)], none⟩,
  ⟨none, .st 3 (.t 5) (.t 13), none⟩,
  ⟨(some 6), .mv (.t 14), none⟩]) (
 .seq (
 .ops [
  ⟨(some 16), .ldN 3 (.t 2), none⟩,
  ⟨(some 17), .ldN 3 (.t 3), none⟩,
  ⟨(some 18), .call (.c (.func (.func 40) [] [])) [(.t 16), (.t 17)], none⟩,
  ⟨(some 15), .mv (.t 18), none⟩,
  ⟨(some 19), .ext 0 (.t 15), none⟩,
  ⟨(some 20), .ext 1 (.t 15), none⟩,
  ⟨(some 7), .new 24 [(.int .i64 0), (.int .i64 0), (.slice none 0 true 0)], none⟩,
  ⟨none, .st 3 (.t 7) (.t 19), none⟩,
  ⟨(some 8), .mv (.t 20), none⟩]) (
 .seq (
 .ops [
  ⟨(some 21), .ldN 3 (.t 5), none⟩,
  ⟨(some 22), .ldN 3 (.t 7), none⟩,
  ⟨(some 23), .call (.c (.func (.func 41) [] [])) [(.t 21), (.t 22)], none⟩,
  ⟨(some 24), .mv (.t 23), none⟩,
  ⟨(some 25), .mv (.t 6), some (24, true)⟩,
  ⟨(some 26), .mv (.t 8), some (24, true)⟩,
  ⟨(some 27), .bin .eql (.t 25) (.t 26), some (24, true)⟩,
  ⟨(some 28), .pick (.t 24) (.t 27) (.c (.bool false)), none⟩,
  ⟨(some 29), .mv (.t 28), none⟩,
  ⟨(some 30), .call (.c (.func (.func 32) [] [])) [], some (29, true)⟩,
  ⟨(some 31), .pick (.t 29) (.t 30) (.c (.bool false)), none⟩,
  ⟨(some 4), .mv (.t 31), none⟩]) (
 .ret)))), [.tmp 4]⟩
def x59 : XF := ⟨15, .seq (
 .ops [
  ⟨(some 6), .mv (.c (.bool false)), none⟩]) (
 .seq (
 .ops [
  ⟨(some 7), .mv (.t 0), none⟩,
  ⟨(some 8), .mv (.t 1), none⟩,
  ⟨(some 9), .bin .geq (.t 7) (.t 8), none⟩,
  ⟨(some 10), .mv (.t 9), none⟩,
  ⟨(some 11), .mv (.t 0), some (10, true)⟩,
  ⟨(some 12), .mv (.t 2), some (10, true)⟩,
  ⟨(some 13), .bin .leq (.t 11) (.t 12), some (10, true)⟩,
  ⟨(some 14), .pick (.t 10) (.t 13) (.c (.bool false)), none⟩,
  ⟨(some 6), .mv (.t 14), none⟩]) (
 .ret)), [.tmp 6]⟩
theorem k5 : cFn Tryz.prog 5 = some x5 := by kernel_rfl
theorem k59 : cFn Tryz.prog 59 = some x59 := by kernel_rfl
def x6 : XF := ⟨32, .seq (
 .ops [
  ⟨(some 4), .mv (.c (.bool false)), none⟩]) (
 .seq (
 .ops [
  ⟨(some 10), .mv (.t 0), none⟩,
  ⟨(some 11), .mv (.t 1), none⟩,
  ⟨(some 12), .call (.c (.func (.func 26) [] [])) [(.t 10), (.t 11)], none⟩,
  ⟨(some 9), .mv (.t 12), none⟩,
  ⟨(some 13), .ext 0 (.t 9), none⟩,
  ⟨(some 14), .ext 1 (.t 9), none⟩,
  ⟨(some 5), .mv (.t 13), none⟩,
  ⟨(some 6), .mv (.t 14), none⟩]) (
 .seq (
 .ops [
  ⟨(some 16), .mv (.t 0), none⟩,
  ⟨(some 17), .mv (.t 1), none⟩,
  ⟨(some 18), .call (.c (.func (.func 42) [] [])) [(.t 16), (.t 17)], none⟩,
  ⟨(some 15), .mv (.t 18), none⟩,
  ⟨(some 19), .ext 0 (.t 15), none⟩,
  ⟨(some 20), .ext 1 (.t 15), none⟩,
  ⟨(some 7), .mv (.t 19), none⟩,
  ⟨(some 8), .mv (.t 20), none⟩]) (
 .seq (
 .ops [
  ⟨(some 21), .mv (.t 5), none⟩,
  ⟨(some 22), .mv (.t 7), none⟩,
  ⟨(some 23), .call (.c (.func (.func 43) [] [])) [(.t 21), (.t 22)], none⟩,
  ⟨(some 24), .mv (.t 23), none⟩,
  ⟨(some 25), .mv (.t 6), some (24, true)⟩,
  ⟨(some 26), .mv (.t 8), some (24, true)⟩,
  ⟨(some 27), .bin .eql (.t 25) (.t 26), some (24, true)⟩,
  ⟨(some 28), .pick (.t 24) (.t 27) (.c (.bool false)), none⟩,
  ⟨(some 29), .mv (.t 28), none⟩,
  ⟨(some 30), .call (.c (.func (.func 32) [] [])) [], some (29, true)⟩,
  ⟨(some 31), .pick (.t 29) (.t 30) (.c (.bool false)), none⟩,
  ⟨(some 4), .mv (.t 31), none⟩]) (
 .ret)))), [.tmp 4]⟩
def x7 : XF := ⟨42, .seq (
 .ops [
  ⟨(some 4), .box 72 (.t 1), none⟩,
  ⟨(some 6), .mv (.c (.bool false)), none⟩]) (
 .seq (
 .ops [
  ⟨(some 12), .mv (.t 0), none⟩,
  ⟨(some 13), .iad (some 2) 1 (.t 4) (.c (.int .i64 0)), none⟩,
  ⟨(some 14), .ld1 (.t 13), none⟩,
  ⟨(some 15), .iad (some 2) 1 (.t 4) (.c (.int .i64 1)), none⟩,
  ⟨(some 16), .ld1 (.t 15), none⟩,
  ⟨(some 17), .mv (.t 2), none⟩,
  ⟨(some 18), .call (.c (.func (.func 31) [] [])) [(.t 12), (.t 14), (.t 16), (.t 17)], none⟩,
  ⟨(some 11), .mv (.t 18), none⟩,
  ⟨(some 19), .ext 0 (.t 11), none⟩,
  ⟨(some 20), .ext 1 (.t 11), none⟩,
  ⟨(some 7), .mv (.t 19), none⟩,
  ⟨(some 8), .mv (.t 20), none⟩]) (
 .seq (
 .ops [
  ⟨(some 22), .mv (.t 0), none⟩,
  ⟨(some 23), .iad (some 2) 1 (.t 4) (.c (.int .i64 0)), none⟩,
  ⟨(some 24), .ld1 (.t 23), none⟩,
  ⟨(some 25), .iad (some 2) 1 (.t 4) (.c (.int .i64 1)), none⟩,
  ⟨(some 26), .ld1 (.t 25), none⟩,
  ⟨(some 27), .mv (.t 2), none⟩,
  ⟨(some 28), .call (.c (.func (.func 44) [] [])) [(.t 22), (.t 24), (.t 26), (.t 27)], none⟩,
  ⟨(some 21), .mv (.t 28), none⟩,
  ⟨(some 29), .ext 0 (.t 21), none⟩,
  ⟨(some 30), .ext 1 (.t 21), none⟩,
  ⟨(some 9), .mv (.t 29), none⟩,
  ⟨(some 10), .mv (.t 30), none⟩]) (
 .seq (
 .ops [
  ⟨(some 31), .mv (.t 7), none⟩,
  ⟨(some 32), .mv (.t 9), none⟩,
  ⟨(some 33), .bin .eql (.t 31) (.t 32), none⟩,
  ⟨(some 34), .mv (.t 33), none⟩,
  ⟨(some 35), .mv (.t 8), some (34, true)⟩,
  ⟨(some 36), .mv (.t 10), some (34, true)⟩,
  ⟨(some 37), .bin .eql (.t 35) (.t 36), some (34, true)⟩,
  ⟨(some 38), .pick (.t 34) (.t 37) (.c (.bool false)), none⟩,
  ⟨(some 39), .mv (.t 38), none⟩,
  ⟨(some 40), .call (.c (.func (.func 32) [] [])) [], some (39, true)⟩,
  ⟨(some 41), .pick (.t 39) (.t 40) (.c (.bool false)), none⟩,
  ⟨(some 6), .mv (.t 41), none⟩]) (
 .ret)))), [.tmp 6]⟩
def x31 : XF := ⟨75, .seq (
 .ops [
  ⟨(some 8), .mv (.c (.int .i64 0)), none⟩,
  ⟨(some 9), .mv (.c (.int .i64 0)), none⟩]) (
 .seq (
 .ops [
  ⟨(some 20), .mv (.t 0), none⟩,
  ⟨(some 21), .mv (.t 1), none⟩,
  ⟨(some 22), .mv (.t 2), none⟩,
  ⟨(some 23), .call (.c (.func (.func 82) [] [])) [(.t 20), (.t 21), (.t 22)], none⟩,
  ⟨(some 19), .mv (.t 23), none⟩,
  ⟨(some 24), .ext 0 (.t 19), none⟩,
  ⟨(some 25), .ext 1 (.t 19), none⟩,
  ⟨(some 10), .new 127 [(.slice none 0 true 0), (.int .i64 0), (.int .i64 0)], none⟩,
  ⟨none, .st 3 (.t 10) (.t 24), none⟩,
  ⟨(some 11), .mv (.t 25), none⟩]) (
 .seq (
 .seq (
 .ops [
  ⟨(some 26), .mv (.t 11), none⟩,
  ⟨(some 27), .bin .neq (.t 26) (.c (.int .i64 0)), none⟩]) (
 .cond (.t 27) (
  .seq (
  .ops [
   ⟨(some 28), .mv (.t 11), none⟩,
   ⟨(some 8), .mv (.c (.int .i64 0)), none⟩,
   ⟨(some 9), .mv (.t 28), none⟩]) (
  .ret)) (
  .skip))) (
 .seq (
 .seq (
 .ops [
  ⟨(some 29), .mv (.t 3), none⟩,
  ⟨(some 30), .len .sl (.t 29), none⟩,
  ⟨(some 31), .mv (.t 0), none⟩,
  ⟨(some 32), .len .sl (.t 31), none⟩,
  ⟨(some 33), .bin .neq (.t 30) (.t 32), none⟩]) (
 .cond (.t 33) (
  .seq (
  .ops [
   ⟨(some 8), .mv (.c (.int .i64 0)), none⟩,
   ⟨(some 9), .mv (.c (.int .i64 85)), none⟩]) (
  .ret)) (
  .skip))) (
 .seq (
 .ops [
  ⟨(some 12), .mv (.c (.int .i64 0)), none⟩]) (
 .seq (
 .seq (
 .ops [
  ⟨(some 34), .mv (.t 3), none⟩,
  ⟨(some 35), .len .sl (.t 34), none⟩,
  ⟨(some 36), .mv (.c (.int .i64 0)), none⟩]) (
 .block 0 (
  .loop (
   .seq (
   .ops [
    ⟨(some 37), .bin .lss (.t 36) (.t 35), none⟩]) (
   .seq (
   .cond (.t 37) (
    .skip) (
    .exit 0)) (
   .seq (
   .block 1 (
    .seq (
    .ops [
     ⟨(some 38), .mv (.t 36), none⟩,
     ⟨(some 39), .iad none 1 (.t 34) (.t 36), none⟩,
     ⟨(some 40), .ld1 (.t 39), none⟩,
     ⟨(some 13), .mv (.t 38), none⟩,
     ⟨(some 14), .mv (.t 40), none⟩]) (
    .seq (
    .seq (
    .ops [
     ⟨(some 41), .mv (.t 14), none⟩,
     ⟨(some 42), .call (.c (.func (.func 59) [] [])) [(.t 41), (.c (.int .i64 0)), (.c (.int .i64 1048576))], none⟩,
     ⟨(some 43), .un .not (.t 42), none⟩]) (
    .cond (.t 43) (
     .seq (
     .ops [
      ⟨(some 8), .mv (.c (.int .i64 0)), none⟩,
      ⟨(some 9), .mv (.c (.int .i64 85)), none⟩]) (
     .ret)) (
     .skip))) (
    .seq (
    .ops [
     ⟨(some 44), .mv (.t 12), none⟩,
     ⟨(some 45), .mv (.t 14), none⟩,
     ⟨(some 46), .bin .add (.t 44) (.t 45), none⟩,
     ⟨(some 12), .mv (.t 46), none⟩]) (
    .seq (
    .ops [
     ⟨(some 15), .mv (.c (.int .i64 0)), none⟩]) (
    .seq (
    .ops [
     ⟨(some 47), .mv (.t 13), none⟩,
     ⟨(some 16), .mv (.t 47), none⟩]) (
    .block 2 (
     .loop (
      .seq (
      .seq (
      .ops [
       ⟨(some 48), .mv (.t 16), none⟩,
       ⟨(some 49), .mv (.t 0), none⟩,
       ⟨(some 50), .len .sl (.t 49), none⟩,
       ⟨(some 51), .bin .lss (.t 48) (.t 50), none⟩]) (
      .cond (.t 51) (
       .skip) (
       .exit 2))) (
      .seq (
      .block 3 (
       .seq (
       .ops [
        ⟨(some 55), .ldN 3 (.t 10), none⟩,
        ⟨(some 56), .mv (.t 13), none⟩,
        ⟨(some 57), .mv (.t 16), none⟩,
        ⟨(some 58), .call (.c (.func (.func 83) [] [])) [(.t 55), (.t 56), (.t 57)], none⟩,
        ⟨(some 54), .mv (.t 58), none⟩,
        ⟨(some 59), .ext 0 (.t 54), none⟩,
        ⟨(some 60), .ext 1 (.t 54), none⟩,
        ⟨(some 17), .mv (.t 59), none⟩,
        ⟨(some 18), .mv (.t 60), none⟩]) (
       .seq (
       .ops [
        ⟨(some 61), .mv (.t 15), none⟩,
        ⟨(some 62), .mv (.t 3), none⟩,
        ⟨(some 63), .mv (.t 16), none⟩,
        ⟨(some 64), .iad none 1 (.t 62) (.t 63), none⟩,
        ⟨(some 65), .ld1 (.t 64), none⟩,
        ⟨(some 66), .bin .add (.t 61) (.t 65), none⟩,
        ⟨(some 15), .mv (.t 66), none⟩]) (
       .seq (
       .ops [
        ⟨(some 67), .mv (.t 18), none⟩,
        ⟨(some 68), .mv (.t 67), none⟩,
        ⟨(some 69), .mv (.t 15), some (68, true)⟩,
        ⟨(some 70), .mv (.t 17), some (68, true)⟩,
        ⟨(some 71), .bin .gtr (.t 69) (.t 70), some (68, true)⟩,
        ⟨(some 72), .pick (.t 68) (.t 71) (.c (.bool false)), none⟩]) (
       .cond (.t 72) (
        .seq (
        .ops [
         ⟨(some 8), .mv (.c (.int .i64 0)), none⟩,
         ⟨(some 9), .mv (.c (.int .i64 85)), none⟩]) (
        .ret)) (
        .skip)))))) (
      .ops [
       ⟨(some 52), .mv (.t 16), none⟩,
       ⟨(some 53), .bin .add (.t 52) (.c (.int .i64 1)), none⟩,
       ⟨(some 16), .mv (.t 53), none⟩]))))))))))) (
   .ops [
    ⟨(some 73), .bin .add (.t 36) (.c (.int .i64 1)), none⟩,
    ⟨(some 36), .mv (.t 73), none⟩]))))))) (
 .seq (
 .ops [
  ⟨(some 74), .mv (.t 12), none⟩,
  ⟨(some 8), .mv (.t 74), none⟩,
  ⟨(some 9), .mv (.c (.int .i64 0)), none⟩]) (
 .ret))))))), [.tmp 8, .tmp 9]⟩
theorem k6 : cFn Tryz.prog 6 = some x6 := by kernel_rfl
theorem k7 : cFn Tryz.prog 7 = some x7 := by kernel_rfl
theorem k31 : cFn Tryz.prog 31 = some x31 := by kernel_rfl
def x82 : XF := ⟨55, .seq (
 .ops [
  ⟨(some 6), .new 127 [(.slice none 0 true 0), (.int .i64 0), (.int .i64 0)], none⟩,
  ⟨(some 7), .mv (.c (.int .i64 0)), none⟩]) (
 .seq (
 .ops [
  ⟨(some 11), .mv (.t 0), none⟩,
  ⟨(some 12), .len .sl (.t 11), none⟩,
  ⟨(some 13), .bin .leq (.t 12) (.c (.int .i64 128)), none⟩,
  ⟨(some 14), .mv (.t 13), none⟩,
  ⟨(some 15), .mv (.t 1), some (14, true)⟩,
  ⟨(some 16), .call (.c (.func (.func 59) [] [])) [(.t 15), (.c (.int .i64 0)), (.c (.int .i64 1000))], some (14, true)⟩,
  ⟨(some 17), .pick (.t 14) (.t 16) (.c (.bool false)), none⟩,
  ⟨(some 18), .mv (.t 17), none⟩,
  ⟨(some 19), .mv (.t 2), some (18, true)⟩,
  ⟨(some 20), .call (.c (.func (.func 59) [] [])) [(.t 19), (.c (.int .i64 1)), (.c (.int .i64 1000))], some (18, true)⟩,
  ⟨(some 21), .pick (.t 18) (.t 20) (.c (.bool false)), none⟩,
  ⟨(some 8), .mv (.t 21), none⟩]) (
 .seq (
 .seq (
 .ops [
  ⟨(some 22), .mv (.t 0), none⟩,
  ⟨(some 23), .len .sl (.t 22), none⟩,
  ⟨(some 24), .mv (.c (.int .i64 0)), none⟩]) (
 .block 0 (
  .loop (
   .seq (
   .ops [
    ⟨(some 25), .bin .lss (.t 24) (.t 23), none⟩]) (
   .seq (
   .cond (.t 25) (
    .skip) (
    .exit 0)) (
   .seq (
   .block 1 (
    .seq (
    .ops [
     ⟨(some 26), .mv (.t 24), none⟩,
     ⟨(some 27), .iad none 1 (.t 22) (.t 24), none⟩,
     ⟨(some 28), .ld1 (.t 27), none⟩,
     ⟨(some 9), .mv (.t 26), none⟩,
     ⟨(some 10), .mv (.t 28), none⟩]) (
    .ops [
     ⟨(some 29), .mv (.t 8), none⟩,
     ⟨(some 30), .mv (.t 29), none⟩,
     ⟨(some 31), .mv (.t 10), some (30, true)⟩,
     ⟨(some 32), .call (.c (.func (.func 59) [] [])) [(.t 31), (.c (.int .i64 0)), (.c (.int .i64 60000))], some (30, true)⟩,
     ⟨(some 33), .pick (.t 30) (.t 32) (.c (.bool false)), none⟩,
     ⟨(some 34), .mv (.t 33), none⟩,
     ⟨(some 35), .mv (.t 9), some (34, true)⟩,
     ⟨(some 36), .bin .eql (.t 35) (.c (.int .i64 0)), some (34, true)⟩,
     ⟨(some 37), .mv (.t 36), some (34, true)⟩,
     ⟨(some 38), .mv (.t 0), some (37, false)⟩,
     ⟨(some 39), .mv (.t 9), some (37, false)⟩,
     ⟨(some 40), .bin .sub (.t 39) (.c (.int .i64 1)), some (37, false)⟩,
     ⟨(some 41), .iad none 1 (.t 38) (.t 40), some (37, false)⟩,
     ⟨(some 42), .ld1 (.t 41), some (37, false)⟩,
     ⟨(some 43), .mv (.t 10), some (37, false)⟩,
     ⟨(some 44), .bin .lss (.t 42) (.t 43), some (37, false)⟩,
     ⟨(some 45), .pick (.t 37) (.c (.bool true)) (.t 44), some (34, true)⟩,
     ⟨(some 46), .pick (.t 34) (.t 45) (.c (.bool false)), none⟩,
     ⟨(some 8), .mv (.t 46), none⟩]))) (
   .ops [
    ⟨(some 47), .bin .add (.t 24) (.c (.int .i64 1)), none⟩,
    ⟨(some 24), .mv (.t 47), none⟩]))))))) (
 .seq (
 .seq (
 .ops [
  ⟨(some 48), .mv (.t 8), none⟩,
  ⟨(some 49), .un .not (.t 48), none⟩]) (
 .cond (.t 49) (
  .seq (
  .ops [
   ⟨(some 50), .build [(.slice none 0 true 0), (.int .i64 0), (.int .i64 0)] [], none⟩,
   ⟨none, .st 3 (.t 6) (.t 50), none⟩,
   ⟨(some 7), .mv (.c (.int .i64 84)), none⟩]) (
  .ret)) (
  .skip))) (
 .seq (
 .ops [
  ⟨(some 51), .mv (.t 0), none⟩,
  ⟨(some 52), .mv (.t 1), none⟩,
  ⟨(some 53), .mv (.t 2), none⟩,
  ⟨(some 54), .build [(.slice none 0 true 0), (.int .i64 0), (.int .i64 0)] [(0, 1, (.t 51)), (1, 1, (.t 52)), (2, 1, (.t 53))], none⟩,
  ⟨none, .st 3 (.t 6) (.t 54), none⟩,
  ⟨(some 7), .mv (.c (.int .i64 0)), none⟩]) (
 .ret))))), [.cellN 6 3, .tmp 7]⟩
def x83 : XF := ⟨29, .seq (
 .ops [
  ⟨(some 3), .box 127 (.t 0), none⟩,
  ⟨(some 6), .mv (.c (.int .i64 0)), none⟩,
  ⟨(some 7), .mv (.c (.bool false)), none⟩]) (
 .seq (
 .draw [
  (⟨(some 9), .fad 0 (.t 3), none⟩, .calm),
  (⟨(some 10), .ld1 (.t 9), none⟩, .reads 0 0),
  (⟨(some 11), .mv (.t 2), none⟩, .calm),
  (⟨(some 12), .iad none 1 (.t 10) (.t 11), none⟩, .calm),
  (⟨(some 13), .ld1 (.t 12), none⟩, .reads 0 0),
  (⟨(some 14), .fad 0 (.t 3), none⟩, .calm),
  (⟨(some 15), .ld1 (.t 14), none⟩, .reads 0 0),
  (⟨(some 16), .mv (.t 1), none⟩, .calm),
  (⟨(some 17), .iad none 1 (.t 15) (.t 16), none⟩, .calm),
  (⟨(some 18), .ld1 (.t 17), none⟩, .reads 0 0),
  (⟨(some 19), .bin .sub (.t 13) (.t 18), none⟩, .calm),
  (⟨(some 20), .bin .add (.t 19) (.c (.int .i64 1)), none⟩, .calm),
  (⟨(some 8), .mv (.t 20), none⟩, .calm)]) (
 .seq (
 .draw [
  (⟨(some 21), .fad 1 (.t 3), none⟩, .calm),
  (⟨(some 22), .ld1 (.t 21), none⟩, .reads 0 0),
  (⟨(some 23), .mv (.t 8), none⟩, .calm),
  (⟨(some 24), .bin .add (.t 22) (.t 23), none⟩, .calm),
  (⟨(some 25), .mv (.t 8), none⟩, .calm),
  (⟨(some 26), .fad 2 (.t 3), none⟩, .calm),
  (⟨(some 27), .ld1 (.t 26), none⟩, .reads 0 0),
  (⟨(some 28), .bin .leq (.t 25) (.t 27), none⟩, .calm),
  (⟨(some 6), .mv (.t 24), none⟩, .calm),
  (⟨(some 7), .mv (.t 28), none⟩, .calm)]) (
 .ret))), [.tmp 6, .tmp 7]⟩
theorem k82 : cFn Tryz.prog 82 = some x82 := by kernel_rfl
theorem k83 : cFn Tryz.prog 83 = some x83 := by kernel_rfl
def x30 : XF := ⟨139, .seq (
 .ops [
  ⟨(some 6), .mv (.c (.slice none 0 true 0)), none⟩,
  ⟨(some 7), .mv (.c (.int .i64 0)), none⟩,
  ⟨(some 8), .mv (.c (.int .i64 0)), none⟩]) (
 .seq (
 .ops [
  ⟨(some 18), .mv (.t 0), none⟩,
  ⟨(some 19), .mv (.t 1), none⟩,
  ⟨(some 20), .mv (.t 2), none⟩,
  ⟨(some 21), .call (.c (.func (.func 82) [] [])) [(.t 18), (.t 19), (.t 20)], none⟩,
  ⟨(some 17), .mv (.t 21), none⟩,
  ⟨(some 22), .ext 0 (.t 17), none⟩,
  ⟨(some 23), .ext 1 (.t 17), none⟩,
  ⟨(some 9), .new 127 [(.slice none 0 true 0), (.int .i64 0), (.int .i64 0)], none⟩,
  ⟨none, .st 3 (.t 9) (.t 22), none⟩,
  ⟨(some 8), .mv (.t 23), none⟩]) (
 .seq (
 .seq (
 .ops [
  ⟨(some 24), .mv (.t 8), none⟩,
  ⟨(some 25), .bin .neq (.t 24) (.c (.int .i64 0)), none⟩]) (
 .cond (.t 25) (
  .seq (
  .ops [
   ⟨(some 26), .mv (.t 8), none⟩,
   ⟨(some 6), .mv (.c (.slice none 0 true 0)), none⟩,
   ⟨(some 7), .mv (.c (.int .i64 0)), none⟩,
   ⟨(some 8), .mv (.t 26), none⟩]) (
  .ret)) (
  .skip))) (
 .seq (
 .ops [
  ⟨(some 27), .mv (.t 0), none⟩,
  ⟨(some 28), .len .sl (.t 27), none⟩,
  ⟨(some 29), .bin .add (.t 28) (.c (.int .i64 1)), none⟩,
  ⟨(some 30), .mksl 133 3 24 [(.int .i64 0), (.int .i64 0), (.int .i64 0)] (.t 29) (.t 29), none⟩,
  ⟨(some 10), .mv (.t 30), none⟩]) (
 .seq (
 .seq (
 .ops [
  ⟨(some 31), .mv (.t 0), none⟩,
  ⟨(some 32), .len .sl (.t 31), none⟩,
  ⟨(some 33), .bin .sub (.t 32) (.c (.int .i64 1)), none⟩,
  ⟨(some 11), .mv (.t 33), none⟩]) (
 .block 0 (
  .loop (
   .seq (
   .seq (
   .ops [
    ⟨(some 34), .mv (.t 11), none⟩,
    ⟨(some 35), .bin .geq (.t 34) (.c (.int .i64 0)), none⟩]) (
   .cond (.t 35) (
    .skip) (
    .exit 0))) (
   .seq (
   .block 1 (
    .seq (
    .ops [
     ⟨(some 38), .mv (.t 11), none⟩,
     ⟨(some 12), .mv (.t 38), none⟩]) (
    .block 2 (
     .loop (
      .seq (
      .seq (
      .ops [
       ⟨(some 39), .mv (.t 12), none⟩,
       ⟨(some 40), .mv (.t 0), none⟩,
       ⟨(some 41), .len .sl (.t 40), none⟩,
       ⟨(some 42), .bin .lss (.t 39) (.t 41), none⟩]) (
      .cond (.t 42) (
       .skip) (
       .exit 2))) (
      .seq (
      .block 3 (
       .seq (
       .ops [
        ⟨(some 46), .ldN 3 (.t 9), none⟩,
        ⟨(some 47), .mv (.t 11), none⟩,
        ⟨(some 48), .mv (.t 12), none⟩,
        ⟨(some 49), .call (.c (.func (.func 83) [] [])) [(.t 46), (.t 47), (.t 48)], none⟩,
        ⟨(some 45), .mv (.t 49), none⟩,
        ⟨(some 50), .ext 0 (.t 45), none⟩,
        ⟨(some 51), .ext 1 (.t 45), none⟩,
        ⟨(some 13), .mv (.t 50), none⟩,
        ⟨(some 14), .mv (.t 51), none⟩]) (
       .seq (
       .seq (
       .ops [
        ⟨(some 52), .mv (.t 14), none⟩,
        ⟨(some 53), .un .not (.t 52), none⟩]) (
       .cond (.t 53) (
        .exit 2) (
        .skip))) (
       .seq (
       .draw [
        (⟨(some 54), .mv (.t 13), none⟩, .calm),
        (⟨(some 55), .mv (.t 10), none⟩, .calm),
        (⟨(some 56), .mv (.t 12), none⟩, .calm),
        (⟨(some 57), .bin .add (.t 56) (.c (.int .i64 1)), none⟩, .calm),
        (⟨(some 58), .iad none 3 (.t 55) (.t 57), none⟩, .calm),
        (⟨(some 59), .fad 0 (.t 58), none⟩, .calm),
        (⟨(some 60), .ld1 (.t 59), none⟩, .reads 0 0),
        (⟨(some 61), .bin .add (.t 54) (.t 60), none⟩, .calm),
        (⟨(some 62), .mv (.t 10), none⟩, .calm),
        (⟨(some 63), .mv (.t 12), none⟩, .calm),
        (⟨(some 64), .bin .add (.t 63) (.c (.int .i64 1)), none⟩, .calm),
        (⟨(some 65), .iad none 3 (.t 62) (.t 64), none⟩, .calm),
        (⟨(some 66), .fad 1 (.t 65), none⟩, .calm),
        (⟨(some 67), .ld1 (.t 66), none⟩, .reads 0 0),
        (⟨(some 68), .bin .add (.c (.int .i64 1)) (.t 67), none⟩, .calm),
        (⟨(some 69), .mv (.t 12), none⟩, .calm),
        (⟨(some 70), .build [(.int .i64 0), (.int .i64 0), (.int .i64 0)] [(0, 1, (.t 61)), (1, 1, (.t 68)), (2, 1, (.t 69))], none⟩, .calm),
        (⟨(some 15), .new 133 [(.int .i64 0), (.int .i64 0), (.int .i64 0)], none⟩, .new),
        (⟨none, .st 3 (.t 15) (.t 70), none⟩, .anchor)]) (
       .seq (
       .draw [
        (⟨(some 71), .mv (.t 12), none⟩, .calm),
        (⟨(some 72), .mv (.t 11), none⟩, .calm),
        (⟨(some 73), .bin .eql (.t 71) (.t 72), none⟩, .calm),
        (⟨(some 74), .mv (.t 73), none⟩, .calm),
        (⟨(some 75), .fad 0 (.t 15), some (74, false)⟩, .calm),
        (⟨(some 76), .ld1 (.t 75), some (74, false)⟩, .reads 0 0),
        (⟨(some 77), .mv (.t 10), some (74, false)⟩, .calm),
        (⟨(some 78), .mv (.t 11), some (74, false)⟩, .calm),
        (⟨(some 79), .iad none 3 (.t 77) (.t 78), some (74, false)⟩, .calm),
        (⟨(some 80), .fad 0 (.t 79), some (74, false)⟩, .calm),
        (⟨(some 81), .ld1 (.t 80), some (74, false)⟩, .reads 0 0),
        (⟨(some 82), .bin .lss (.t 76) (.t 81), some (74, false)⟩, .calm),
        (⟨(some 83), .pick (.t 74) (.c (.bool true)) (.t 82), none⟩, .calm),
        (⟨(some 84), .mv (.t 83), none⟩, .calm),
        (⟨(some 85), .fad 0 (.t 15), some (84, false)⟩, .calm),
        (⟨(some 86), .ld1 (.t 85), some (84, false)⟩, .reads 0 0),
        (⟨(some 87), .mv (.t 10), some (84, false)⟩, .calm),
        (⟨(some 88), .mv (.t 11), some (84, false)⟩, .calm),
        (⟨(some 89), .iad none 3 (.t 87) (.t 88), some (84, false)⟩, .calm),
        (⟨(some 90), .fad 0 (.t 89), some (84, false)⟩, .calm),
        (⟨(some 91), .ld1 (.t 90), some (84, false)⟩, .reads 0 0),
        (⟨(some 92), .bin .eql (.t 86) (.t 91), some (84, false)⟩, .calm),
        (⟨(some 93), .mv (.t 92), some (84, false)⟩, .calm),
        (⟨(some 94), .fad 1 (.t 15), some (93, true)⟩, .calm),
        (⟨(some 95), .ld1 (.t 94), some (93, true)⟩, .reads 0 0),
        (⟨(some 96), .mv (.t 10), some (93, true)⟩, .calm),
        (⟨(some 97), .mv (.t 11), some (93, true)⟩, .calm),
        (⟨(some 98), .iad none 3 (.t 96) (.t 97), some (93, true)⟩, .calm),
        (⟨(some 99), .fad 1 (.t 98), some (93, true)⟩, .calm),
        (⟨(some 100), .ld1 (.t 99), some (93, true)⟩, .reads 0 0),
        (⟨(some 101), .bin .lss (.t 95) (.t 100), some (93, true)⟩, .calm),
        (⟨(some 102), .pick (.t 93) (.t 101) (.c (.bool false)), some (84, false)⟩, .calm),
        (⟨(some 103), .pick (.t 84) (.c (.bool true)) (.t 102), none⟩, .calm)]) (
       .cond (.t 103) (
        .ops [
         ⟨(some 104), .mv (.t 10), none⟩,
         ⟨(some 105), .mv (.t 11), none⟩,
         ⟨(some 106), .ldN 3 (.t 15), none⟩,
         ⟨(some 107), .iad none 3 (.t 104) (.t 105), none⟩,
         ⟨none, .st 3 (.t 107) (.t 106), none⟩]) (
        .skip))))))) (
      .ops [
       ⟨(some 43), .mv (.t 12), none⟩,
       ⟨(some 44), .bin .add (.t 43) (.c (.int .i64 1)), none⟩,
       ⟨(some 12), .mv (.t 44), none⟩]))))))) (
   .ops [
    ⟨(some 36), .mv (.t 11), none⟩,
    ⟨(some 37), .bin .sub (.t 36) (.c (.int .i64 1)), none⟩,
    ⟨(some 11), .mv (.t 37), none⟩])))))) (
 .seq (
 .seq (
 .ops [
  ⟨(some 16), .mv (.c (.int .i64 0)), none⟩]) (
 .block 4 (
  .loop (
   .seq (
   .seq (
   .ops [
    ⟨(some 108), .mv (.t 16), none⟩,
    ⟨(some 109), .mv (.t 0), none⟩,
    ⟨(some 110), .len .sl (.t 109), none⟩,
    ⟨(some 111), .bin .lss (.t 108) (.t 110), none⟩]) (
   .cond (.t 111) (
    .skip) (
    .exit 4))) (
   .seq (
   .block 5 (
    .draw [
     (⟨(some 118), .mv (.t 6), none⟩, .calm),
     (⟨(some 119), .mv (.t 0), none⟩, .calm),
     (⟨(some 120), .mv (.t 16), none⟩, .calm),
     (⟨(some 121), .iad none 1 (.t 119) (.t 120), none⟩, .calm),
     (⟨(some 122), .ld1 (.t 121), none⟩, .reads 0 0),
     (⟨(some 123), .mv (.t 0), none⟩, .calm),
     (⟨(some 124), .mv (.t 10), none⟩, .calm),
     (⟨(some 125), .mv (.t 16), none⟩, .calm),
     (⟨(some 126), .iad none 3 (.t 124) (.t 125), none⟩, .calm),
     (⟨(some 127), .fad 2 (.t 126), none⟩, .calm),
     (⟨(some 128), .ld1 (.t 127), none⟩, .reads 0 0),
     (⟨(some 129), .iad none 1 (.t 123) (.t 128), none⟩, .calm),
     (⟨(some 130), .ld1 (.t 129), none⟩, .reads 0 0),
     (⟨(some 131), .build [(.int .i64 0), (.int .i64 0)] [(0, 1, (.t 122)), (1, 1, (.t 130))], none⟩, .calm),
     (⟨(some 132), .bsl 72 2 1 [(.int .i64 0), (.int .i64 0)] [(0, 2, (.t 131))], none⟩, .new),
     (⟨(some 133), .app 72 2 16 [(.int .i64 0), (.int .i64 0)] (.t 118) (.t 132), none⟩, .anchor),
     (⟨(some 6), .mv (.t 133), none⟩, .calm)])) (
   .ops [
    ⟨(some 112), .mv (.t 10), none⟩,
    ⟨(some 113), .mv (.t 16), none⟩,
    ⟨(some 114), .iad none 3 (.t 112) (.t 113), none⟩,
    ⟨(some 115), .fad 2 (.t 114), none⟩,
    ⟨(some 116), .ld1 (.t 115), none⟩,
    ⟨(some 117), .bin .add (.t 116) (.c (.int .i64 1)), none⟩,
    ⟨(some 16), .mv (.t 117), none⟩])))))) (
 .seq (
 .draw [
  (⟨(some 134), .mv (.t 6), none⟩, .calm),
  (⟨(some 135), .mv (.t 10), none⟩, .calm),
  (⟨(some 136), .iad none 3 (.t 135) (.c (.int .i64 0)), none⟩, .calm),
  (⟨(some 137), .fad 0 (.t 136), none⟩, .calm),
  (⟨(some 138), .ld1 (.t 137), none⟩, .reads 0 0),
  (⟨(some 6), .mv (.t 134), none⟩, .calm),
  (⟨(some 7), .mv (.t 138), none⟩, .calm),
  (⟨(some 8), .mv (.c (.int .i64 0)), none⟩, .calm)]) (
 .ret))))))), [.tmp 6, .tmp 7, .tmp 8]⟩
theorem k30 : cFn Tryz.prog 30 = some x30 := by kernel_rfl
def x50 : XF := ⟨94, .seq (
 .ops [
  ⟨(some 8), .mv (.c (.int .i64 0)), none⟩,
  ⟨(some 9), .mv (.c (.bool false)), none⟩]) (
 .seq (
 .ops [
  ⟨(some 10), .mv (.c (.int .i64 0)), none⟩]) (
 .seq (
 .seq (
 .ops [
  ⟨(some 11), .mv (.c (.int .i64 0)), none⟩]) (
 .block 0 (
  .loop (
   .seq (
   .seq (
   .ops [
    ⟨(some 16), .mv (.t 11), none⟩,
    ⟨(some 17), .mv (.t 3), none⟩,
    ⟨(some 18), .len .sl (.t 17), none⟩,
    ⟨(some 19), .bin .lss (.t 16) (.t 18), none⟩]) (
   .cond (.t 19) (
    .skip) (
    .exit 0))) (
   .seq (
   .block 1 (
    .seq (
    .draw [
     (⟨(some 22), .mv (.t 3), none⟩, .calm),
     (⟨(some 23), .mv (.t 11), none⟩, .calm),
     (⟨(some 24), .iad none 2 (.t 22) (.t 23), none⟩, .calm),
     (⟨(some 25), .iad (some 2) 1 (.t 24) (.c (.int .i64 1)), none⟩, .calm),
     (⟨(some 26), .ld1 (.t 25), none⟩, .reads 0 0),
     (⟨(some 27), .mv (.t 3), none⟩, .calm),
     (⟨(some 28), .mv (.t 11), none⟩, .calm),
     (⟨(some 29), .iad none 2 (.t 27) (.t 28), none⟩, .calm),
     (⟨(some 30), .iad (some 2) 1 (.t 29) (.c (.int .i64 0)), none⟩, .calm),
     (⟨(some 31), .ld1 (.t 30), none⟩, .reads 0 0),
     (⟨(some 32), .bin .sub (.t 26) (.t 31), none⟩, .calm),
     (⟨(some 33), .bin .add (.t 32) (.c (.int .i64 1)), none⟩, .calm),
     (⟨(some 12), .mv (.t 33), none⟩, .calm)]) (
    .seq (
    .seq (
    .draw [
     (⟨(some 34), .mv (.t 12), none⟩, .calm),
     (⟨(some 35), .mv (.t 2), none⟩, .calm),
     (⟨(some 36), .call (.c (.func (.func 45) [] [])) [(.t 34), (.c (.int .i64 1)), (.t 35)], none⟩, .new),
     (⟨(some 37), .un .not (.t 36), none⟩, .calm),
     (⟨(some 38), .mv (.t 37), none⟩, .calm),
     (⟨(some 39), .mv (.t 11), some (38, false)⟩, .calm),
     (⟨(some 40), .bin .gtr (.t 39) (.c (.int .i64 0)), some (38, false)⟩, .calm),
     (⟨(some 41), .mv (.t 40), some (38, false)⟩, .calm),
     (⟨(some 42), .mv (.t 3), some (41, true)⟩, .calm),
     (⟨(some 43), .mv (.t 11), some (41, true)⟩, .calm),
     (⟨(some 44), .iad none 2 (.t 42) (.t 43), some (41, true)⟩, .calm),
     (⟨(some 45), .iad (some 2) 1 (.t 44) (.c (.int .i64 0)), some (41, true)⟩, .calm),
     (⟨(some 46), .ld1 (.t 45), some (41, true)⟩, .reads 0 0),
     (⟨(some 47), .mv (.t 3), some (41, true)⟩, .calm),
     (⟨(some 48), .mv (.t 11), some (41, true)⟩, .calm),
     (⟨(some 49), .bin .sub (.t 48) (.c (.int .i64 1)), some (41, true)⟩, .calm),
     (⟨(some 50), .iad none 2 (.t 47) (.t 49), some (41, true)⟩, .calm),
     (⟨(some 51), .iad (some 2) 1 (.t 50) (.c (.int .i64 1)), some (41, true)⟩, .calm),
     (⟨(some 52), .ld1 (.t 51), some (41, true)⟩, .reads 0 0),
     (⟨(some 53), .bin .leq (.t 46) (.t 52), some (41, true)⟩, .calm),
     (⟨(some 54), .pick (.t 41) (.t 53) (.c (.bool false)), some (38, false)⟩, .calm),
     (⟨(some 55), .pick (.t 38) (.c (.bool true)) (.t 54), none⟩, .calm)]) (
    .cond (.t 55) (
     .seq (
     .ops [
      ⟨(some 8), .mv (.c (.int .i64 0)), none⟩,
      ⟨(some 9), .mv (.c (.bool false)), none⟩]) (
     .ret)) (
     .skip))) (
    .ops [
     ⟨(some 56), .mv (.t 10), none⟩,
     ⟨(some 57), .mv (.t 1), none⟩,
     ⟨(some 58), .mv (.t 12), none⟩,
     ⟨(some 59), .bin .add (.t 57) (.t 58), none⟩,
     ⟨(some 60), .bin .add (.t 56) (.t 59), none⟩,
     ⟨(some 10), .mv (.t 60), none⟩])))) (
   .ops [
    ⟨(some 20), .mv (.t 11), none⟩,
    ⟨(some 21), .bin .add (.t 20) (.c (.int .i64 1)), none⟩,
    ⟨(some 11), .mv (.t 21), none⟩])))))) (
 .seq (
 .seq (
 .ops [
  ⟨(some 13), .mv (.c (.int .i64 0)), none⟩]) (
 .block 2 (
  .loop (
   .seq (
   .seq (
   .ops [
    ⟨(some 61), .mv (.t 13), none⟩,
    ⟨(some 62), .mv (.t 0), none⟩,
    ⟨(some 63), .len .sl (.t 62), none⟩,
    ⟨(some 64), .bin .lss (.t 61) (.t 63), none⟩]) (
   .cond (.t 64) (
    .skip) (
    .exit 2))) (
   .seq (
   .block 3 (
    .seq (
    .ops [
     ⟨(some 14), .mv (.c (.bool false)), none⟩]) (
    .seq (
    .seq (
    .ops [
     ⟨(some 15), .mv (.c (.int .i64 0)), none⟩]) (
    .block 4 (
     .loop (
      .seq (
      .seq (
      .ops [
       ⟨(some 67), .mv (.t 15), none⟩,
       ⟨(some 68), .mv (.t 3), none⟩,
       ⟨(some 69), .len .sl (.t 68), none⟩,
       ⟨(some 70), .bin .lss (.t 67) (.t 69), none⟩]) (
      .cond (.t 70) (
       .skip) (
       .exit 4))) (
      .seq (
      .block 5 (
       .draw [
        (⟨(some 73), .mv (.t 14), none⟩, .calm),
        (⟨(some 74), .mv (.t 73), none⟩, .calm),
        (⟨(some 75), .mv (.t 0), some (74, false)⟩, .calm),
        (⟨(some 76), .mv (.t 13), some (74, false)⟩, .calm),
        (⟨(some 77), .iad none 1 (.t 75) (.t 76), some (74, false)⟩, .calm),
        (⟨(some 78), .ld1 (.t 77), some (74, false)⟩, .reads 0 0),
        (⟨(some 79), .mv (.t 3), some (74, false)⟩, .calm),
        (⟨(some 80), .mv (.t 15), some (74, false)⟩, .calm),
        (⟨(some 81), .iad none 2 (.t 79) (.t 80), some (74, false)⟩, .calm),
        (⟨(some 82), .iad (some 2) 1 (.t 81) (.c (.int .i64 0)), some (74, false)⟩, .calm),
        (⟨(some 83), .ld1 (.t 82), some (74, false)⟩, .reads 0 0),
        (⟨(some 84), .mv (.t 3), some (74, false)⟩, .calm),
        (⟨(some 85), .mv (.t 15), some (74, false)⟩, .calm),
        (⟨(some 86), .iad none 2 (.t 84) (.t 85), some (74, false)⟩, .calm),
        (⟨(some 87), .iad (some 2) 1 (.t 86) (.c (.int .i64 1)), some (74, false)⟩, .calm),
        (⟨(some 88), .ld1 (.t 87), some (74, false)⟩, .reads 0 0),
        (⟨(some 89), .call (.c (.func (.func 45) [] [])) [(.t 78), (.t 83), (.t 88)], some (74, false)⟩, .new),
        (⟨(some 90), .pick (.t 74) (.c (.bool true)) (.t 89), none⟩, .calm),
        (⟨(some 14), .mv (.t 90), none⟩, .calm)])) (
      .ops [
       ⟨(some 71), .mv (.t 15), none⟩,
       ⟨(some 72), .bin .add (.t 71) (.c (.int .i64 1)), none⟩,
       ⟨(some 15), .mv (.t 72), none⟩])))))) (
    .seq (
    .ops [
     ⟨(some 91), .mv (.t 14), none⟩,
     ⟨(some 92), .un .not (.t 91), none⟩]) (
    .cond (.t 92) (
     .seq (
     .ops [
      ⟨(some 8), .mv (.c (.int .i64 0)), none⟩,
      ⟨(some 9), .mv (.c (.bool false)), none⟩]) (
     .ret)) (
     .skip)))))) (
   .ops [
    ⟨(some 65), .mv (.t 13), none⟩,
    ⟨(some 66), .bin .add (.t 65) (.c (.int .i64 1)), none⟩,
    ⟨(some 13), .mv (.t 66), none⟩])))))) (
 .seq (
 .ops [
  ⟨(some 93), .mv (.t 10), none⟩,
  ⟨(some 8), .mv (.t 93), none⟩,
  ⟨(some 9), .mv (.c (.bool true)), none⟩]) (
 .ret))))), [.tmp 8, .tmp 9]⟩
def x51 : XF := ⟨29, .seq (
 .ops [
  ⟨(some 2), .mv (.c (.bool false)), none⟩]) (
 .seq (
 .ops [
  ⟨(some 3), .mv (.c (.bool true)), none⟩]) (
 .seq (
 .seq (
 .ops [
  ⟨(some 4), .mv (.c (.int .i64 0)), none⟩]) (
 .block 0 (
  .loop (
   .seq (
   .seq (
   .ops [
    ⟨(some 5), .mv (.t 4), none⟩,
    ⟨(some 6), .mv (.t 0), none⟩,
    ⟨(some 7), .len .sl (.t 6), none⟩,
    ⟨(some 8), .bin .lss (.t 5) (.t 7), none⟩]) (
   .cond (.t 8) (
    .skip) (
    .exit 0))) (
   .seq (
   .block 1 (
    .ops [
     ⟨(some 11), .mv (.t 3), none⟩,
     ⟨(some 12), .mv (.t 11), none⟩,
     ⟨(some 13), .mv (.t 0), some (12, true)⟩,
     ⟨(some 14), .mv (.t 4), some (12, true)⟩,
     ⟨(some 15), .iad none 2 (.t 13) (.t 14), some (12, true)⟩,
     ⟨(some 16), .iad (some 2) 1 (.t 15) (.c (.int .i64 0)), some (12, true)⟩,
     ⟨(some 17), .ld1 (.t 16), some (12, true)⟩,
     ⟨(some 18), .call (.c (.func (.func 45) [] [])) [(.t 17), (.c (.int .i64 0)), (.c (.int .i64 60000))], some (12, true)⟩,
     ⟨(some 19), .pick (.t 12) (.t 18) (.c (.bool false)), none⟩,
     ⟨(some 20), .mv (.t 19), none⟩,
     ⟨(some 21), .mv (.t 0), some (20, true)⟩,
     ⟨(some 22), .mv (.t 4), some (20, true)⟩,
     ⟨(some 23), .iad none 2 (.t 21) (.t 22), some (20, true)⟩,
     ⟨(some 24), .iad (some 2) 1 (.t 23) (.c (.int .i64 1)), some (20, true)⟩,
     ⟨(some 25), .ld1 (.t 24), some (20, true)⟩,
     ⟨(some 26), .call (.c (.func (.func 45) [] [])) [(.t 25), (.c (.int .i64 0)), (.c (.int .i64 60000))], some (20, true)⟩,
     ⟨(some 27), .pick (.t 20) (.t 26) (.c (.bool false)), none⟩,
     ⟨(some 3), .mv (.t 27), none⟩])) (
   .ops [
    ⟨(some 9), .mv (.t 4), none⟩,
    ⟨(some 10), .bin .add (.t 9) (.c (.int .i64 1)), none⟩,
    ⟨(some 4), .mv (.t 10), none⟩])))))) (
 .seq (
 .ops [
  ⟨(some 28), .mv (.t 3), none⟩,
  ⟨(some 2), .mv (.t 28), none⟩]) (
 .ret)))), [.tmp 2]⟩
def x11 : XF := ⟨114, .seq (
 .ops [
  ⟨(some 4), .box 72 (.t 1), none⟩,
  ⟨(some 5), .box 86 (.t 2), none⟩,
  ⟨(some 6), .mv (.c (.bool false)), none⟩]) (
 .seq (
 .ops [
  ⟨(some 16), .mv (.t 0), none⟩,
  ⟨(some 17), .iad (some 2) 1 (.t 4) (.c (.int .i64 0)), none⟩,
  ⟨(some 18), .ld1 (.t 17), none⟩,
  ⟨(some 19), .iad (some 2) 1 (.t 4) (.c (.int .i64 1)), none⟩,
  ⟨(some 20), .ld1 (.t 19), none⟩,
  ⟨(some 21), .call (.c (.func (.func 30) [] [])) [(.t 16), (.t 18), (.t 20)], none⟩,
  ⟨(some 15), .mv (.t 21), none⟩,
  ⟨(some 22), .ext 0 (.t 15), none⟩,
  ⟨(some 23), .ext 1 (.t 15), none⟩,
  ⟨(some 24), .ext 2 (.t 15), none⟩,
  ⟨(some 7), .mv (.t 22), none⟩,
  ⟨(some 8), .mv (.t 23), none⟩,
  ⟨(some 9), .mv (.t 24), none⟩]) (
 .seq (
 .ops [
  ⟨(some 26), .mv (.t 0), none⟩,
  ⟨(some 27), .iad (some 2) 1 (.t 4) (.c (.int .i64 0)), none⟩,
  ⟨(some 28), .ld1 (.t 27), none⟩,
  ⟨(some 29), .iad (some 2) 1 (.t 4) (.c (.int .i64 1)), none⟩,
  ⟨(some 30), .ld1 (.t 29), none⟩,
  ⟨(some 31), .fad 1 (.t 5), none⟩,
  ⟨(some 32), .ld1 (.t 31), none⟩,
  ⟨(some 33), .call (.c (.func (.func 31) [] [])) [(.t 26), (.t 28), (.t 30), (.t 32)], none⟩,
  ⟨(some 25), .mv (.t 33), none⟩,
  ⟨(some 34), .ext 0 (.t 25), none⟩,
  ⟨(some 35), .ext 1 (.t 25), none⟩,
  ⟨(some 10), .mv (.t 34), none⟩,
  ⟨(some 11), .mv (.t 35), none⟩]) (
 .seq (
 .seq (
 .ops [
  ⟨(some 36), .mv (.t 9), none⟩,
  ⟨(some 37), .bin .neq (.t 36) (.c (.int .i64 0)), none⟩]) (
 .cond (.t 37) (
  .seq (
  .ops [
   ⟨(some 38), .mv (.t 7), none⟩,
   ⟨(some 39), .len .sl (.t 38), none⟩,
   ⟨(some 40), .bin .eql (.t 39) (.c (.int .i64 0)), none⟩,
   ⟨(some 41), .mv (.t 40), none⟩,
   ⟨(some 42), .mv (.t 8), some (41, true)⟩,
   ⟨(some 43), .bin .eql (.t 42) (.c (.int .i64 0)), some (41, true)⟩,
   ⟨(some 44), .pick (.t 41) (.t 43) (.c (.bool false)), none⟩,
   ⟨(some 45), .mv (.t 44), none⟩,
   ⟨(some 46), .mv (.t 11), some (45, true)⟩,
   ⟨(some 47), .bin .eql (.t 46) (.c (.int .i64 84)), some (45, true)⟩,
   ⟨(some 48), .pick (.t 45) (.t 47) (.c (.bool false)), none⟩,
   ⟨(some 49), .mv (.t 48), none⟩,
   ⟨(some 50), .call (.c (.func (.func 32) [] [])) [], some (49, true)⟩,
   ⟨(some 51), .pick (.t 49) (.t 50) (.c (.bool false)), none⟩,
   ⟨(some 6), .mv (.t 51), none⟩]) (
  .ret)) (
  .skip))) (
 .seq (
 .ops [
  ⟨(some 53), .mv (.t 0), none⟩,
  ⟨(some 54), .iad (some 2) 1 (.t 4) (.c (.int .i64 0)), none⟩,
  ⟨(some 55), .ld1 (.t 54), none⟩,
  ⟨(some 56), .iad (some 2) 1 (.t 4) (.c (.int .i64 1)), none⟩,
  ⟨(some 57), .ld1 (.t 56), none⟩,
  ⟨(some 58), .mv (.t 7), none⟩,
  ⟨(some 59), .call (.c (.func (.func 50) [] [])) [(.t 53), (.t 55), (.t 57), (.t 58)], none⟩,
  ⟨(some 52), .mv (.t 59), none⟩,
  ⟨(some 60), .ext 0 (.t 52), none⟩,
  ⟨(some 61), .ext 1 (.t 52), none⟩,
  ⟨(some 12), .mv (.t 60), none⟩,
  ⟨(some 13), .mv (.t 61), none⟩]) (
 .seq (
 .seq (
 .ops [
  ⟨(some 62), .mv (.t 13), none⟩,
  ⟨(some 63), .un .not (.t 62), none⟩,
  ⟨(some 64), .mv (.t 63), none⟩,
  ⟨(some 65), .mv (.t 12), some (64, false)⟩,
  ⟨(some 66), .mv (.t 8), some (64, false)⟩,
  ⟨(some 67), .bin .neq (.t 65) (.t 66), some (64, false)⟩,
  ⟨(some 68), .pick (.t 64) (.c (.bool true)) (.t 67), none⟩]) (
 .cond (.t 68) (
  .seq (
  .ops [
   ⟨(some 6), .mv (.c (.bool false)), none⟩]) (
  .ret)) (
  .skip))) (
 .seq (
 .draw [
  (⟨(some 70), .mv (.t 0), none⟩, .calm),
  (⟨(some 71), .iad (some 2) 1 (.t 4) (.c (.int .i64 0)), none⟩, .calm),
  (⟨(some 72), .ld1 (.t 71), none⟩, .reads 0 0),
  (⟨(some 73), .iad (some 2) 1 (.t 4) (.c (.int .i64 1)), none⟩, .calm),
  (⟨(some 74), .ld1 (.t 73), none⟩, .reads 0 0),
  (⟨(some 75), .fad 0 (.t 5), none⟩, .calm),
  (⟨(some 76), .ld1 (.t 75), none⟩, .reads 0 0),
  (⟨(some 77), .fad 0 (.t 5), none⟩, .calm),
  (⟨(some 78), .ld1 (.t 77), none⟩, .reads 0 0),
  (⟨(some 79), .len .sl (.t 78), none⟩, .calm),
  (⟨(some 80), .min [(.t 79), (.c (.int .i64 200))], none⟩, .calm),
  (⟨(some 81), .slc 2 (.t 76) none (some (.t 80)) none, none⟩, .calm),
  (⟨(some 82), .call (.c (.func (.func 50) [] [])) [(.t 70), (.t 72), (.t 74), (.t 81)], none⟩, .anchor),
  (⟨(some 69), .mv (.t 82), none⟩, .calm),
  (⟨(some 83), .ext 0 (.t 69), none⟩, .calm),
  (⟨(some 84), .ext 1 (.t 69), none⟩, .calm),
  (⟨(some 14), .mv (.t 83), none⟩, .calm),
  (⟨(some 13), .mv (.t 84), none⟩, .calm)]) (
 .seq (
 .seq (
 .ops [
  ⟨(some 85), .mv (.t 13), none⟩,
  ⟨(some 86), .mv (.t 85), none⟩,
  ⟨(some 87), .fad 0 (.t 5), some (86, true)⟩,
  ⟨(some 88), .ld1 (.t 87), some (86, true)⟩,
  ⟨(some 89), .call (.c (.func (.func 51) [] [])) [(.t 88)], some (86, true)⟩,
  ⟨(some 90), .pick (.t 86) (.t 89) (.c (.bool false)), none⟩,
  ⟨(some 91), .mv (.t 90), none⟩,
  ⟨(some 92), .mv (.t 14), some (91, true)⟩,
  ⟨(some 93), .mv (.t 8), some (91, true)⟩,
  ⟨(some 94), .bin .lss (.t 92) (.t 93), some (91, true)⟩,
  ⟨(some 95), .pick (.t 91) (.t 94) (.c (.bool false)), none⟩]) (
 .cond (.t 95) (
  .seq (
  .ops [
   ⟨(some 6), .mv (.c (.bool false)), none⟩]) (
  .ret)) (
  .skip))) (
 .seq (
 .ops [
  ⟨(some 96), .mv (.t 11), none⟩,
  ⟨(some 97), .bin .eql (.t 96) (.c (.int .i64 85)), none⟩,
  ⟨(some 98), .mv (.t 97), none⟩,
  ⟨(some 99), .mv (.t 10), some (98, true)⟩,
  ⟨(some 100), .bin .eql (.t 99) (.c (.int .i64 0)), some (98, true)⟩,
  ⟨(some 101), .pick (.t 98) (.t 100) (.c (.bool false)), none⟩,
  ⟨(some 102), .mv (.t 101), none⟩,
  ⟨(some 103), .mv (.t 11), some (102, false)⟩,
  ⟨(some 104), .bin .eql (.t 103) (.c (.int .i64 0)), some (102, false)⟩,
  ⟨(some 105), .mv (.t 104), some (102, false)⟩,
  ⟨(some 106), .mv (.t 10), some (105, true)⟩,
  ⟨(some 107), .mv (.t 8), some (105, true)⟩,
  ⟨(some 108), .bin .leq (.t 106) (.t 107), some (105, true)⟩,
  ⟨(some 109), .pick (.t 105) (.t 108) (.c (.bool false)), some (102, false)⟩,
  ⟨(some 110), .pick (.t 102) (.c (.bool true)) (.t 109), none⟩,
  ⟨(some 111), .mv (.t 110), none⟩,
  ⟨(some 112), .call (.c (.func (.func 32) [] [])) [], some (111, true)⟩,
  ⟨(some 113), .pick (.t 111) (.t 112) (.c (.bool false)), none⟩,
  ⟨(some 6), .mv (.t 113), none⟩]) (
 .ret))))))))), [.tmp 6]⟩
theorem k50 : cFn Tryz.prog 50 = some x50 := by kernel_rfl
theorem k51 : cFn Tryz.prog 51 = some x51 := by kernel_rfl
theorem k11 : cFn Tryz.prog 11 = some x11 := by kernel_rfl
end Go.Proofs.YtlfkmgpngkbhpaaGreatDoor.C
end
