/-
 Part of the proof of TapeDearer: what functions of the program and of the statement come to, walked by the rules. No condition beyond those in each theorem.
-/
import Derived.Test.YtlfkmgpngkbhpaaGreatDoorTA
import Derived.Test.YtlfkmgpngkbhpaaGreatDoorPvF
section
open Go PvL Go.Proofs
set_option linter.unusedVariables false
namespace Go.Proofs.YtlfkmgpngkbhpaaGreatDoor.C
def x5 : XF := ⟨32, .seq (
 .ops [
  ⟨(some 2), .box 24 (.t 0), none⟩,
  ⟨(some 3), .box 24 (.t 1), none⟩,
  ⟨(some 4), .mv (.c (.bool false)), none⟩]) (
 .seq (
 .ops [
  ⟨(some 10), .ldN 3 (.t 2), none⟩,
  ⟨(some 11), .ldN 3 (.t 3), none⟩,
  ⟨(some 12), .call (.c (.func (.func 21) [] [])) [(.t 10), (.t 11)], none⟩,
  ⟨(some 9), .mv (.t 12), none⟩,
  ⟨(some 13), .ext 0 (.t 9), none⟩,
  ⟨(some 14), .ext 1 (.t 9), none⟩,
  ⟨(some 5), .new 24 [(.int .i64 0), (.int .i64 0), (.slice none 0 true 0)], none⟩,
  ⟨none, .st 3 (.t 5) (.t 13), none⟩,
  ⟨(some 6), .mv (.t 14), none⟩]) (
 .seq (
 .ops [
  ⟨(some 16), .ldN 3 (.t 2), none⟩,
  ⟨(some 17), .ldN 3 (.t 3), none⟩,
  ⟨(some 18), .call (.c (.func (.func 40) [] [])) [(.t 16), (.t 17)], none⟩,
  ⟨(some 15), .mv (.t 18), none⟩,
  ⟨(some 19), .ext 0 (.t 15), none⟩,
  ⟨(some 20), .ext 1 (.t 15), none⟩,
  ⟨(some 7), .new 24 [(.int .i64 0), (.int .i64 0), (.slice none 0 true 0)], none⟩,
  ⟨none, .st 3 (.t 7) (.t 19), none⟩,
  ⟨(some 8), .mv (.t 20), none⟩]) (
 .seq (
 .ops [
  ⟨(some 21), .ldN 3 (.t 5), none⟩,
  ⟨(some 22), .ldN 3 (.t 7), none⟩,
  ⟨(some 23), .call (.c (.func (.func 41) [] [])) [(.t 21), (.t 22)], none⟩,
  ⟨(some 24), .mv (.t 23), none⟩,
  ⟨(some 25), .mv (.t 6), some (24, true)⟩,
  ⟨(some 26), .mv (.t 8), some (24, true)⟩,
  ⟨(some 27), .bin .eql (.t 25) (.t 26), some (24, true)⟩,
  ⟨(some 28), .pick (.t 24) (.t 27) (.c (.bool false)), none⟩,
  ⟨(some 29), .mv (.t 28), none⟩,
  ⟨(some 30), .call (.c (.func (.func 32) [] [])) [], some (29, true)⟩,
  ⟨(some 31), .pick (.t 29) (.t 30) (.c (.bool false)), none⟩,
  ⟨(some 4), .mv (.t 31), none⟩]) (
 .ret)))), [.tmp 4]⟩
def x59 : XF := ⟨15, .seq (
 .ops [
  ⟨(some 6), .mv (.c (.bool false)), none⟩]) (
 .seq (
 .ops [
  ⟨(some 7), .mv (.t 0), none⟩,
  ⟨(some 8), .mv (.t 1), none⟩,
  ⟨(some 9), .bin .geq (.t 7) (.t 8), none⟩,
  ⟨(some 10), .mv (.t 9), none⟩,
  ⟨(some 11), .mv (.t 0), some (10, true)⟩,
  ⟨(some 12), .mv (.t 2), some (10, true)⟩,
  ⟨(some 13), .bin .leq (.t 11) (.t 12), some (10, true)⟩,
  ⟨(some 14), .pick (.t 10) (.t 13) (.c (.bool false)), none⟩,
  ⟨(some 6), .mv (.t 14), none⟩]) (
 .ret)), [.tmp 6]⟩
theorem k5 : cFn Tryz.prog 5 = some x5 := by kernel_rfl
theorem k59 : cFn Tryz.prog 59 = some x59 := by kernel_rfl
def x6 : XF := ⟨32, .seq (
 .ops [
  ⟨(some 4), .mv (.c (.bool false)), none⟩]) (
 .seq (
 .ops [
  ⟨(some 10), .mv (.t 0), none⟩,
  ⟨(some 11), .mv (.t 1), none⟩,
  ⟨(some 12), .call (.c (.func (.func 26) [] [])) [(.t 10), (.t 11)], none⟩,
  ⟨(some 9), .mv (.t 12), none⟩,
  ⟨(some 13), .ext 0 (.t 9), none⟩,
  ⟨(some 14), .ext 1 (.t 9), none⟩,
  ⟨(some 5), .mv (.t 13), none⟩,
  ⟨(some 6), .mv (.t 14), none⟩]) (
 .seq (
 .ops [
  ⟨(some 16), .mv (.t 0), none⟩,
  ⟨(some 17), .mv (.t 1), none⟩,
  ⟨(some 18), .call (.c (.func (.func 42) [] [])) [(.t 16), (.t 17)], none⟩,
  ⟨(some 15), .mv (.t 18), none⟩,
  ⟨(some 19), .ext 0 (.t 15), none⟩,
  ⟨(some 20), .ext 1 (.t 15), none⟩,
  ⟨(some 7), .mv (.t 19), none⟩,
  ⟨(some 8), .mv (.t 20), none⟩]) (
 .seq (
 .ops [
  ⟨(some 21), .mv (.t 5), none⟩,
  ⟨(some 22), .mv (.t 7), none⟩,
  ⟨(some 23), .call (.c (.func (.func 43) [] [])) [(.t 21), (.t 22)], none⟩,
  ⟨(some 24), .mv (.t 23), none⟩,
  ⟨(some 25), .mv (.t 6), some (24, true)⟩,
  ⟨(some 26), .mv (.t 8), some (24, true)⟩,
  ⟨(some 27), .bin .eql (.t 25) (.t 26), some (24, true)⟩,
  ⟨(some 28), .pick (.t 24) (.t 27) (.c (.bool false)), none⟩,
  ⟨(some 29), .mv (.t 28), none⟩,
  ⟨(some 30), .call (.c (.func (.func 32) [] [])) [], some (29, true)⟩,
  ⟨(some 31), .pick (.t 29) (.t 30) (.c (.bool false)), none⟩,
  ⟨(some 4), .mv (.t 31), none⟩]) (
 .ret)))), [.tmp 4]⟩
def x7 : XF := ⟨42, .seq (
 .ops [
  ⟨(some 4), .box 72 (.t 1), none⟩,
  ⟨(some 6), .mv (.c (.bool false)), none⟩]) (
 .seq (
 .ops [
  ⟨(some 12), .mv (.t 0), none⟩,
  ⟨(some 13), .iad (some 2) 1 (.t 4) (.c (.int .i64 0)), none⟩,
  ⟨(some 14), .ld1 (.t 13), none⟩,
  ⟨(some 15), .iad (some 2) 1 (.t 4) (.c (.int .i64 1)), none⟩,
  ⟨(some 16), .ld1 (.t 15), none⟩,
  ⟨(some 17), .mv (.t 2), none⟩,
  ⟨(some 18), .call (.c (.func (.func 31) [] [])) [(.t 12), (.t 14), (.t 16), (.t 17)], none⟩,
  ⟨(some 11), .mv (.t 18), none⟩,
  ⟨(some 19), .ext 0 (.t 11), none⟩,
  ⟨(some 20), .ext 1 (.t 11), none⟩,
  ⟨(some 7), .mv (.t 19), none⟩,
  ⟨(some 8), .mv (.t 20), none⟩]) (
 .seq (
 .ops [
  ⟨(some 22), .mv (.t 0), none⟩,
  ⟨(some 23), .iad (some 2) 1 (.t 4) (.c (.int .i64 0)), none⟩,
  ⟨(some 24), .ld1 (.t 23), none⟩,
  ⟨(some 25), .iad (some 2) 1 (.t 4) (.c (.int .i64 1)), none⟩,
  ⟨(some 26), .ld1 (.t 25), none⟩,
  ⟨(some 27), .mv (.t 2), none⟩,
  ⟨(some 28), .call (.c (.func (.func 44) [] [])) [(.t 22), (.t 24), (.t 26), (.t 27)], none⟩,
  ⟨(some 21), .mv (.t 28), none⟩,
  ⟨(some 29), .ext 0 (.t 21), none⟩,
  ⟨(some 30), .ext 1 (.t 21), none⟩,
  ⟨(some 9), .mv (.t 29), none⟩,
  ⟨(some 10), .mv (.t 30), none⟩]) (
 .seq (
 .ops [
  ⟨(some 31), .mv (.t 7), none⟩,
  ⟨(some 32), .mv (.t 9), none⟩,
  ⟨(some 33), .bin .eql (.t 31) (.t 32), none⟩,
  ⟨(some 34), .mv (.t 33), none⟩,
  ⟨(some 35), .mv (.t 8), some (34, true)⟩,
  ⟨(some 36), .mv (.t 10), some (34, true)⟩,
  ⟨(some 37), .bin .eql (.t 35) (.t 36), some (34, true)⟩,
  ⟨(some 38), .pick (.t 34) (.t 37) (.c (.bool false)), none⟩,
  ⟨(some 39), .mv (.t 38), none⟩,
  ⟨(some 40), .call (.c (.func (.func 32) [] [])) [], some (39, true)⟩,
  ⟨(some 41), .pick (.t 39) (.t 40) (.c (.bool false)), none⟩,
  ⟨(some 6), .mv (.t 41), none⟩]) (
 .ret)))), [.tmp 6]⟩
theorem k6 : cFn Tryz.prog 6 = some x6 := by kernel_rfl
theorem k7 : cFn Tryz.prog 7 = some x7 := by kernel_rfl
def x82 : XF := ⟨55, .seq (
 .ops [
  ⟨(some 6), .new 127 [(.slice none 0 true 0), (.int .i64 0), (.int .i64 0)], none⟩,
  ⟨(some 7), .mv (.c (.int .i64 0)), none⟩]) (
 .seq (
 .ops [
  ⟨(some 11), .mv (.t 0), none⟩,
  ⟨(some 12), .len .sl (.t 11), none⟩,
  ⟨(some 13), .bin .leq (.t 12) (.c (.int .i64 128)), none⟩,
  ⟨(some 14), .mv (.t 13), none⟩,
  ⟨(some 15), .mv (.t 1), some (14, true)⟩,
  ⟨(some 16), .call (.c (.func (.func 59) [] [])) [(.t 15), (.c (.int .i64 0)), (.c (.int .i64 1000))], some (14, true)⟩,
  ⟨(some 17), .pick (.t 14) (.t 16) (.c (.bool false)), none⟩,
  ⟨(some 18), .mv (.t 17), none⟩,
  ⟨(some 19), .mv (.t 2), some (18, true)⟩,
  ⟨(some 20), .call (.c (.func (.func 59) [] [])) [(.t 19), (.c (.int .i64 1)), (.c (.int .i64 1000))], some (18, true)⟩,
  ⟨(some 21), .pick (.t 18) (.t 20) (.c (.bool false)), none⟩,
  ⟨(some 8), .mv (.t 21), none⟩]) (
 .seq (
 .seq (
 .ops [
  ⟨(some 22), .mv (.t 0), none⟩,
  ⟨(some 23), .len .sl (.t 22), none⟩,
  ⟨(some 24), .mv (.c (.int .i64 0)), none⟩]) (
 .block 0 (
  .loop (
   .seq (
   .ops [
    ⟨(some 25), .bin .lss (.t 24) (.t 23), none⟩]) (
   .seq (
   .cond (.t 25) (
    .skip) (
    .exit 0)) (
   .seq (
   .block 1 (
    .seq (
    .ops [
     ⟨(some 26), .mv (.t 24), none⟩,
     ⟨(some 27), .iad none 1 (.t 22) (.t 24), none⟩,
     ⟨(some 28), .ld1 (.t 27), none⟩,
     ⟨(some 9), .mv (.t 26), none⟩,
     ⟨(some 10), .mv (.t 28), none⟩]) (
    .ops [
     ⟨(some 29), .mv (.t 8), none⟩,
     ⟨(some 30), .mv (.t 29), none⟩,
     ⟨(some 31), .mv (.t 10), some (30, true)⟩,
     ⟨(some 32), .call (.c (.func (.func 59) [] [])) [(.t 31), (.c (.int .i64 0)), (.c (.int .i64 60000))], some (30, true)⟩,
     ⟨(some 33), .pick (.t 30) (.t 32) (.c (.bool false)), none⟩,
     ⟨(some 34), .mv (.t 33), none⟩,
     ⟨(some 35), .mv (.t 9), some (34, true)⟩,
     ⟨(some 36), .bin .eql (.t 35) (.c (.int .i64 0)), some (34, true)⟩,
     ⟨(some 37), .mv (.t 36), some (34, true)⟩,
     ⟨(some 38), .mv (.t 0), some (37, false)⟩,
     ⟨(some 39), .mv (.t 9), some (37, false)⟩,
     ⟨(some 40), .bin .sub (.t 39) (.c (.int .i64 1)), some (37, false)⟩,
     ⟨(some 41), .iad none 1 (.t 38) (.t 40), some (37, false)⟩,
     ⟨(some 42), .ld1 (.t 41), some (37, false)⟩,
     ⟨(some 43), .mv (.t 10), some (37, false)⟩,
     ⟨(some 44), .bin .lss (.t 42) (.t 43), some (37, false)⟩,
     ⟨(some 45), .pick (.t 37) (.c (.bool true)) (.t 44), some (34, true)⟩,
     ⟨(some 46), .pick (.t 34) (.t 45) (.c (.bool false)), none⟩,
     ⟨(some 8), .mv (.t 46), none⟩]))) (
   .ops [
    ⟨(some 47), .bin .add (.t 24) (.c (.int .i64 1)), none⟩,
    ⟨(some 24), .mv (.t 47), none⟩]))))))) (
 .seq (
 .seq (
 .ops [
  ⟨(some 48), .mv (.t 8), none⟩,
  ⟨(some 49), .un .not (.t 48), none⟩]) (
 .cond (.t 49) (
  .seq (
  .ops [
   ⟨(some 50), .build [(.slice none 0 true 0), (.int .i64 0), (.int .i64 0)] [], none⟩,
   ⟨none, .st 3 (.t 6) (.t 50), none⟩,
   ⟨(some 7), .mv (.c (.int .i64 84)), none⟩]) (
  .ret)) (
  .skip))) (
 .seq (
 .ops [
  ⟨(some 51), .mv (.t 0), none⟩,
  ⟨(some 52), .mv (.t 1), none⟩,
  ⟨(some 53), .mv (.t 2), none⟩,
  ⟨(some 54), .build [(.slice none 0 true 0), (.int .i64 0), (.int .i64 0)] [(0, 1, (.t 51)), (1, 1, (.t 52)), (2, 1, (.t 53))], none⟩,
  ⟨none, .st 3 (.t 6) (.t 54), none⟩,
  ⟨(some 7), .mv (.c (.int .i64 0)), none⟩]) (
 .ret))))), [.cellN 6 3, .tmp 7]⟩
def x83 : XF := ⟨29, .seq (
 .ops [
  ⟨(some 3), .box 127 (.t 0), none⟩,
  ⟨(some 6), .mv (.c (.int .i64 0)), none⟩,
  ⟨(some 7), .mv (.c (.bool false)), none⟩]) (
 .seq (
 .draw [
  (⟨(some 9), .fad 0 (.t 3), none⟩, .calm),
  (⟨(some 10), .ld1 (.t 9), none⟩, .reads 0 0),
  (⟨(some 11), .mv (.t 2), none⟩, .calm),
  (⟨(some 12), .iad none 1 (.t 10) (.t 11), none⟩, .calm),
  (⟨(some 13), .ld1 (.t 12), none⟩, .reads 0 0),
  (⟨(some 14), .fad 0 (.t 3), none⟩, .calm),
  (⟨(some 15), .ld1 (.t 14), none⟩, .reads 0 0),
  (⟨(some 16), .mv (.t 1), none⟩, .calm),
  (⟨(some 17), .iad none 1 (.t 15) (.t 16), none⟩, .calm),
  (⟨(some 18), .ld1 (.t 17), none⟩, .reads 0 0),
  (⟨(some 19), .bin .sub (.t 13) (.t 18), none⟩, .calm),
  (⟨(some 20), .bin .add (.t 19) (.c (.int .i64 1)), none⟩, .calm),
  (⟨(some 8), .mv (.t 20), none⟩, .calm)]) (
 .seq (
 .draw [
  (⟨(some 21), .fad 1 (.t 3), none⟩, .calm),
  (⟨(some 22), .ld1 (.t 21), none⟩, .reads 0 0),
  (⟨(some 23), .mv (.t 8), none⟩, .calm),
  (⟨(some 24), .bin .add (.t 22) (.t 23), none⟩, .calm),
  (⟨(some 25), .mv (.t 8), none⟩, .calm),
  (⟨(some 26), .fad 2 (.t 3), none⟩, .calm),
  (⟨(some 27), .ld1 (.t 26), none⟩, .reads 0 0),
  (⟨(some 28), .bin .leq (.t 25) (.t 27), none⟩, .calm),
  (⟨(some 6), .mv (.t 24), none⟩, .calm),
  (⟨(some 7), .mv (.t 28), none⟩, .calm)]) (
 .ret))), [.tmp 6, .tmp 7]⟩
theorem k82 : cFn Tryz.prog 82 = some x82 := by kernel_rfl
theorem k83 : cFn Tryz.prog 83 = some x83 := by kernel_rfl
def x30 : XF := ⟨139, .seq (
 .ops [
  ⟨(some 6), .mv (.c (.slice none 0 true 0)), none⟩,
  ⟨(some 7), .mv (.c (.int .i64 0)), none⟩,
  ⟨(some 8), .mv (.c (.int .i64 0)), none⟩]) (
 .seq (
 .ops [
  ⟨(some 18), .mv (.t 0), none⟩,
  ⟨(some 19), .mv (.t 1), none⟩,
  ⟨(some 20), .mv (.t 2), none⟩,
  ⟨(some 21), .call (.c (.func (.func 82) [] [])) [(.t 18), (.t 19), (.t 20)], none⟩,
  ⟨(some 17), .mv (.t 21), none⟩,
  ⟨(some 22), .ext 0 (.t 17), none⟩,
  ⟨(some 23), .ext 1 (.t 17), none⟩,
  ⟨(some 9), .new 127 [(.slice none 0 true 0), (.int .i64 0), (.int .i64 0)], none⟩,
  ⟨none, .st 3 (.t 9) (.t 22), none⟩,
  ⟨(some 8), .mv (.t 23), none⟩]) (
 .seq (
 .seq (
 .ops [
  ⟨(some 24), .mv (.t 8), none⟩,
  ⟨(some 25), .bin .neq (.t 24) (.c (.int .i64 0)), none⟩]) (
 .cond (.t 25) (
  .seq (
  .ops [
   ⟨(some 26), .mv (.t 8), none⟩,
   ⟨(some 6), .mv (.c (.slice none 0 true 0)), none⟩,
   ⟨(some 7), .mv (.c (.int .i64 0)), none⟩,
   ⟨(some 8), .mv (.t 26), none⟩]) (
  .ret)) (
  .skip))) (
 .seq (
 .ops [
  ⟨(some 27), .mv (.t 0), none⟩,
  ⟨(some 28), .len .sl (.t 27), none⟩,
  ⟨(some 29), .bin .add (.t 28) (.c (.int .i64 1)), none⟩,
  ⟨(some 30), .mksl 133 3 24 [(.int .i64 0), (.int .i64 0), (.int .i64 0)] (.t 29) (.t 29), none⟩,
  ⟨(some 10), .mv (.t 30), none⟩]) (
 .seq (
 .seq (
 .ops [
  ⟨(some 31), .mv (.t 0), none⟩,
  ⟨(some 32), .len .sl (.t 31), none⟩,
  ⟨(some 33), .bin .sub (.t 32) (.c (.int .i64 1)), none⟩,
  ⟨(some 11), .mv (.t 33), none⟩]) (
 .block 0 (
  .loop (
   .seq (
   .seq (
   .ops [
    ⟨(some 34), .mv (.t 11), none⟩,
    ⟨(some 35), .bin .geq (.t 34) (.c (.int .i64 0)), none⟩]) (
   .cond (.t 35) (
    .skip) (
    .exit 0))) (
   .seq (
   .block 1 (
    .seq (
    .ops [
     ⟨(some 38), .mv (.t 11), none⟩,
     ⟨(some 12), .mv (.t 38), none⟩]) (
    .block 2 (
     .loop (
      .seq (
      .seq (
      .ops [
       ⟨(some 39), .mv (.t 12), none⟩,
       ⟨(some 40), .mv (.t 0), none⟩,
       ⟨(some 41), .len .sl (.t 40), none⟩,
       ⟨(some 42), .bin .lss (.t 39) (.t 41), none⟩]) (
      .cond (.t 42) (
       .skip) (
       .exit 2))) (
      .seq (
      .block 3 (
       .seq (
       .ops [
        ⟨(some 46), .ldN 3 (.t 9), none⟩,
        ⟨(some 47), .mv (.t 11), none⟩,
        ⟨(some 48), .mv (.t 12), none⟩,
        ⟨(some 49), .call (.c (.func (.func 83) [] [])) [(.t 46), (.t 47), (.t 48)], none⟩,
        ⟨(some 45), .mv (.t 49), none⟩,
        ⟨(some 50), .ext 0 (.t 45), none⟩,
        ⟨(some 51), .ext 1 (.t 45), none⟩,
        ⟨(some 13), .mv (.t 50), none⟩,
        ⟨(some 14), .mv (.t 51), none⟩]) (
       .seq (
       .seq (
       .ops [
        ⟨(some 52), .mv (.t 14), none⟩,
        ⟨(some 53), .un .not (.t 52), none⟩]) (
       .cond (.t 53) (
        .exit 2) (
        .skip))) (
       .seq (
       .draw [
        (⟨(some 54), .mv (.t 13), none⟩, .calm),
        (⟨(some 55), .mv (.t 10), none⟩, .calm),
        (⟨(some 56), .mv (.t 12), none⟩, .calm),
        (⟨(some 57), .bin .add (.t 56) (.c (.int .i64 1)), none⟩, .calm),
        (⟨(some 58), .iad none 3 (.t 55) (.t 57), none⟩, .calm),
        (⟨(some 59), .fad 0 (.t 58), none⟩, .calm),
        (⟨(some 60), .ld1 (.t 59), none⟩, .reads 0 0),
        (⟨(some 61), .bin .add (.t 54) (.t 60), none⟩, .calm),
        (⟨(some 62), .mv (.t 10), none⟩, .calm),
        (⟨(some 63), .mv (.t 12), none⟩, .calm),
        (⟨(some 64), .bin .add (.t 63) (.c (.int .i64 1)), none⟩, .calm),
        (⟨(some 65), .iad none 3 (.t 62) (.t 64), none⟩, .calm),
        (⟨(some 66), .fad 1 (.t 65), none⟩, .calm),
        (⟨(some 67), .ld1 (.t 66), none⟩, .reads 0 0),
        (⟨(some 68), .bin .add (.c (.int .i64 1)) (.t 67), none⟩, .calm),
        (⟨(some 69), .mv (.t 12), none⟩, .calm),
        (⟨(some 70), .build [(.int .i64 0), (.int .i64 0), (.int .i64 0)] [(0, 1, (.t 61)), (1, 1, (.t 68)), (2, 1, (.t 69))], none⟩, .calm),
        (⟨(some 15), .new 133 [(.int .i64 0), (.int .i64 0), (.int .i64 0)], none⟩, .new),
        (⟨none, .st 3 (.t 15) (.t 70), none⟩, .anchor)]) (
       .seq (
       .draw [
        (⟨(some 71), .mv (.t 12), none⟩, .calm),
        (⟨(some 72), .mv (.t 11), none⟩, .calm),
        (⟨(some 73), .bin .eql (.t 71) (.t 72), none⟩, .calm),
        (⟨(some 74), .mv (.t 73), none⟩, .calm),
        (⟨(some 75), .fad 0 (.t 15), some (74, false)⟩, .calm),
        (⟨(some 76), .ld1 (.t 75), some (74, false)⟩, .reads 0 0),
        (⟨(some 77), .mv (.t 10), some (74, false)⟩, .calm),
        (⟨(some 78), .mv (.t 11), some (74, false)⟩, .calm),
        (⟨(some 79), .iad none 3 (.t 77) (.t 78), some (74, false)⟩, .calm),
        (⟨(some 80), .fad 0 (.t 79), some (74, false)⟩, .calm),
        (⟨(some 81), .ld1 (.t 80), some (74, false)⟩, .reads 0 0),
        (⟨(some 82), .bin .lss (.t 76) (.t 81), some (74, false)⟩, .calm),
        (⟨(some 83), .pick (.t 74) (.c (.bool true)) (.t 82), none⟩, .calm),
        (⟨(some 84), .mv (.t 83), none⟩, .calm),
        (⟨(some 85), .fad 0 (.t 15), some (84, false)⟩, .calm),
        (⟨(some 86), .ld1 (.t 85), some (84, false)⟩, .reads 0 0),
        (⟨(some 87), .mv (.t 10), some (84, false)⟩, .calm),
        (⟨(some 88), .mv (.t 11), some (84, false)⟩, .calm),
        (⟨(some 89), .iad none 3 (.t 87) (.t 88), some (84, false)⟩, .calm),
        (⟨(some 90), .fad 0 (.t 89), some (84, false)⟩, .calm),
        (⟨(some 91), .ld1 (.t 90), some (84, false)⟩, .reads 0 0),
        (⟨(some 92), .bin .eql (.t 86) (.t 91), some (84, false)⟩, .calm),
        (⟨(some 93), .mv (.t 92), some (84, false)⟩, .calm),
        (⟨(some 94), .fad 1 (.t 15), some (93, true)⟩, .calm),
        (⟨(some 95), .ld1 (.t 94), some (93, true)⟩, .reads 0 0),
        (⟨(some 96), .mv (.t 10), some (93, true)⟩, .calm),
        (⟨(some 97), .mv (.t 11), some (93, true)⟩, .calm),
        (⟨(some 98), .iad none 3 (.t 96) (.t 97), some (93, true)⟩, .calm),
        (⟨(some 99), .fad 1 (.t 98), some (93, true)⟩, .calm),
        (⟨(some 100), .ld1 (.t 99), some (93, true)⟩, .reads 0 0),
        (⟨(some 101), .bin .lss (.t 95) (.t 100), some (93, true)⟩, .calm),
        (⟨(some 102), .pick (.t 93) (.t 101) (.c (.bool false)), some (84, false)⟩, .calm),
        (⟨(some 103), .pick (.t 84) (.c (.bool true)) (.t 102), none⟩, .calm)]) (
       .cond (.t 103) (
        .ops [
         ⟨(some 104), .mv (.t 10), none⟩,
         ⟨(some 105), .mv (.t 11), none⟩,
         ⟨(some 106), .ldN 3 (.t 15), none⟩,
         ⟨(some 107), .iad none 3 (.t 104) (.t 105), none⟩,
         ⟨none, .st 3 (.t 107) (.t 106), none⟩]) (
        .skip))))))) (
      .ops [
       ⟨(some 43), .mv (.t 12), none⟩,
       ⟨(some 44), .bin .add (.t 43) (.c (.int .i64 1)), none⟩,
       ⟨(some 12), .mv (.t 44), none⟩]))))))) (
   .ops [
    ⟨(some 36), .mv (.t 11), none⟩,
    ⟨(some 37), .bin .sub (.t 36) (.c (.int .i64 1)), none⟩,
    ⟨(some 11), .mv (.t 37), none⟩])))))) (
 .seq (
 .seq (
 .ops [
  ⟨(some 16), .mv (.c (.int .i64 0)), none⟩]) (
 .block 4 (
  .loop (
   .seq (
   .seq (
   .ops [
    ⟨(some 108), .mv (.t 16), none⟩,
    ⟨(some 109), .mv (.t 0), none⟩,
    ⟨(some 110), .len .sl (.t 109), none⟩,
    ⟨(some 111), .bin .lss (.t 108) (.t 110), none⟩]) (
   .cond (.t 111) (
    .skip) (
    .exit 4))) (
   .seq (
   .block 5 (
    .draw [
     (⟨(some 118), .mv (.t 6), none⟩, .calm),
     (⟨(some 119), .mv (.t 0), none⟩, .calm),
     (⟨(some 120), .mv (.t 16), none⟩, .calm),
     (⟨(some 121), .iad none 1 (.t 119) (.t 120), none⟩, .calm),
     (⟨(some 122), .ld1 (.t 121), none⟩, .reads 0 0),
     (⟨(some 123), .mv (.t 0), none⟩, .calm),
     (⟨(some 124), .mv (.t 10), none⟩, .calm),
     (⟨(some 125), .mv (.t 16), none⟩, .calm),
     (⟨(some 126), .iad none 3 (.t 124) (.t 125), none⟩, .calm),
     (⟨(some 127), .fad 2 (.t 126), none⟩, .calm),
     (⟨(some 128), .ld1 (.t 127), none⟩, .reads 0 0),
     (⟨(some 129), .iad none 1 (.t 123) (.t 128), none⟩, .calm),
     (⟨(some 130), .ld1 (.t 129), none⟩, .reads 0 0),
     (⟨(some 131), .build [(.int .i64 0), (.int .i64 0)] [(0, 1, (.t 122)), (1, 1, (.t 130))], none⟩, .calm),
     (⟨(some 132), .bsl 72 2 1 [(.int .i64 0), (.int .i64 0)] [(0, 2, (.t 131))], none⟩, .new),
     (⟨(some 133), .app 72 2 16 [(.int .i64 0), (.int .i64 0)] (.t 118) (.t 132), none⟩, .anchor),
     (⟨(some 6), .mv (.t 133), none⟩, .calm)])) (
   .ops [
    ⟨(some 112), .mv (.t 10), none⟩,
    ⟨(some 113), .mv (.t 16), none⟩,
    ⟨(some 114), .iad none 3 (.t 112) (.t 113), none⟩,
    ⟨(some 115), .fad 2 (.t 114), none⟩,
    ⟨(some 116), .ld1 (.t 115), none⟩,
    ⟨(some 117), .bin .add (.t 116) (.c (.int .i64 1)), none⟩,
    ⟨(some 16), .mv (.t 117), none⟩])))))) (
 .seq (
 .draw [
  (⟨(some 134), .mv (.t 6), none⟩, .calm),
  (⟨(some 135), .mv (.t 10), none⟩, .calm),
  (⟨(some 136), .iad none 3 (.t 135) (.c (.int .i64 0)), none⟩, .calm),
  (⟨(some 137), .fad 0 (.t 136), none⟩, .calm),
  (⟨(some 138), .ld1 (.t 137), none⟩, .reads 0 0),
  (⟨(some 6), .mv (.t 134), none⟩, .calm),
  (⟨(some 7), .mv (.t 138), none⟩, .calm),
  (⟨(some 8), .mv (.c (.int .i64 0)), none⟩, .calm)]) (
 .ret))))))), [.tmp 6, .tmp 7, .tmp 8]⟩
theorem k30 : cFn Tryz.prog 30 = some x30 := by kernel_rfl
def x12 : XF := ⟨122, .seq (
 .ops [
  ⟨(some 4), .box 72 (.t 1), none⟩,
  ⟨(some 5), .box 91 (.t 2), none⟩,
  ⟨(some 6), .mv (.c (.bool false)), none⟩]) (
 .seq (
 .ops [
  ⟨(some 21), .mv (.t 0), none⟩,
  ⟨(some 22), .iad (some 2) 1 (.t 4) (.c (.int .i64 0)), none⟩,
  ⟨(some 23), .ld1 (.t 22), none⟩,
  ⟨(some 24), .iad (some 2) 1 (.t 4) (.c (.int .i64 1)), none⟩,
  ⟨(some 25), .ld1 (.t 24), none⟩,
  ⟨(some 26), .call (.c (.func (.func 30) [] [])) [(.t 21), (.t 23), (.t 25)], none⟩,
  ⟨(some 20), .mv (.t 26), none⟩,
  ⟨(some 27), .ext 0 (.t 20), none⟩,
  ⟨(some 28), .ext 1 (.t 20), none⟩,
  ⟨(some 29), .ext 2 (.t 20), none⟩,
  ⟨(some 7), .mv (.t 27), none⟩,
  ⟨(some 8), .mv (.t 28), none⟩,
  ⟨(some 9), .mv (.t 29), none⟩]) (
 .seq (
 .seq (
 .ops [
  ⟨(some 30), .mv (.t 9), none⟩,
  ⟨(some 31), .bin .neq (.t 30) (.c (.int .i64 0)), none⟩]) (
 .cond (.t 31) (
  .seq (
  .ops [
   ⟨(some 32), .mv (.t 8), none⟩,
   ⟨(some 33), .bin .eql (.t 32) (.c (.int .i64 0)), none⟩,
   ⟨(some 34), .mv (.t 33), none⟩,
   ⟨(some 35), .call (.c (.func (.func 32) [] [])) [], some (34, true)⟩,
   ⟨(some 36), .pick (.t 34) (.t 35) (.c (.bool false)), none⟩,
   ⟨(some 6), .mv (.t 36), none⟩]) (
  .ret)) (
  .skip))) (
 .seq (
 .ops [
  ⟨(some 10), .mv (.c (.slice none 0 true 0)), none⟩]) (
 .seq (
 .seq (
 .ops [
  ⟨(some 37), .mv (.t 0), none⟩,
  ⟨(some 38), .len .sl (.t 37), none⟩,
  ⟨(some 39), .bin .gtr (.t 38) (.c (.int .i64 0)), none⟩]) (
 .cond (.t 39) (
  .seq (
  .ops [
   ⟨(some 40), .iad (some 3) 1 (.t 5) (.c (.int .i64 0)), none⟩,
   ⟨(some 41), .ld1 (.t 40), none⟩,
   ⟨(some 42), .mv (.t 0), none⟩,
   ⟨(some 43), .len .sl (.t 42), none⟩,
   ⟨(some 44), .call (.c (.func (.func 48) [] [])) [(.t 41), (.t 43)], none⟩,
   ⟨(some 11), .mv (.t 44), none⟩]) (
  .draw [
   (⟨(some 45), .mv (.t 10), none⟩, .calm),
   (⟨(some 46), .mv (.t 0), none⟩, .calm),
   (⟨(some 47), .mv (.t 11), none⟩, .calm),
   (⟨(some 48), .slc 1 (.t 46) none (some (.t 47)) none, none⟩, .calm),
   (⟨(some 49), .app 3 1 8 [(.int .i64 0)] (.t 45) (.t 48), none⟩, .anchor),
   (⟨(some 50), .mv (.t 0), none⟩, .calm),
   (⟨(some 51), .mv (.t 11), none⟩, .calm),
   (⟨(some 52), .bin .add (.t 51) (.c (.int .i64 1)), none⟩, .calm),
   (⟨(some 53), .slc 1 (.t 50) (some (.t 52)) none none, none⟩, .calm),
   (⟨(some 54), .app 3 1 8 [(.int .i64 0)] (.t 49) (.t 53), none⟩, .anchor),
   (⟨(some 10), .mv (.t 54), none⟩, .calm)])) (
  .skip))) (
 .seq (
 .ops [
  ⟨(some 56), .mv (.t 10), none⟩,
  ⟨(some 57), .iad (some 2) 1 (.t 4) (.c (.int .i64 0)), none⟩,
  ⟨(some 58), .ld1 (.t 57), none⟩,
  ⟨(some 59), .iad (some 2) 1 (.t 4) (.c (.int .i64 1)), none⟩,
  ⟨(some 60), .ld1 (.t 59), none⟩,
  ⟨(some 61), .call (.c (.func (.func 30) [] [])) [(.t 56), (.t 58), (.t 60)], none⟩,
  ⟨(some 55), .mv (.t 61), none⟩,
  ⟨(some 62), .ext 0 (.t 55), none⟩,
  ⟨(some 63), .ext 1 (.t 55), none⟩,
  ⟨(some 64), .ext 2 (.t 55), none⟩,
  ⟨(some 12), .mv (.t 62), none⟩,
  ⟨(some 13), .mv (.t 63), none⟩,
  ⟨(some 9), .mv (.t 64), none⟩]) (
 .seq (
 .draw [
  (⟨(some 66), .mv (.t 0), none⟩, .calm),
  (⟨(some 67), .iad (some 3) 1 (.t 5) (.c (.int .i64 1)), none⟩, .calm),
  (⟨(some 68), .ld1 (.t 67), none⟩, .reads 0 0),
  (⟨(some 69), .iad (some 2) 1 (.t 4) (.c (.int .i64 0)), none⟩, .calm),
  (⟨(some 70), .ld1 (.t 69), none⟩, .reads 0 0),
  (⟨(some 71), .bin .add (.t 70) (.c (.int .i64 1)), none⟩, .calm),
  (⟨(some 72), .call (.c (.func (.func 48) [] [])) [(.t 68), (.t 71)], none⟩, .new),
  (⟨(some 73), .iad (some 2) 1 (.t 4) (.c (.int .i64 1)), none⟩, .calm),
  (⟨(some 74), .ld1 (.t 73), none⟩, .reads 0 0),
  (⟨(some 75), .call (.c (.func (.func 30) [] [])) [(.t 66), (.t 72), (.t 74)], none⟩, .anchor),
  (⟨(some 65), .mv (.t 75), none⟩, .calm),
  (⟨(some 76), .ext 0 (.t 65), none⟩, .calm),
  (⟨(some 77), .ext 1 (.t 65), none⟩, .calm),
  (⟨(some 78), .ext 2 (.t 65), none⟩, .calm),
  (⟨(some 14), .mv (.t 76), none⟩, .calm),
  (⟨(some 15), .mv (.t 77), none⟩, .calm),
  (⟨(some 16), .mv (.t 78), none⟩, .calm)]) (
 .seq (
 .draw [
  (⟨(some 80), .mv (.t 0), none⟩, .calm),
  (⟨(some 81), .iad (some 2) 1 (.t 4) (.c (.int .i64 0)), none⟩, .calm),
  (⟨(some 82), .ld1 (.t 81), none⟩, .reads 0 0),
  (⟨(some 83), .iad (some 2) 1 (.t 4) (.c (.int .i64 1)), none⟩, .calm),
  (⟨(some 84), .ld1 (.t 83), none⟩, .reads 0 0),
  (⟨(some 85), .iad (some 3) 1 (.t 5) (.c (.int .i64 2)), none⟩, .calm),
  (⟨(some 86), .ld1 (.t 85), none⟩, .reads 0 0),
  (⟨(some 87), .call (.c (.func (.func 48) [] [])) [(.t 86), (.c (.int .i64 9))], none⟩, .new),
  (⟨(some 88), .bin .add (.t 84) (.t 87), none⟩, .calm),
  (⟨(some 89), .min [(.c (.int .i64 1000)), (.t 88)], none⟩, .calm),
  (⟨(some 90), .call (.c (.func (.func 30) [] [])) [(.t 80), (.t 82), (.t 89)], none⟩, .anchor),
  (⟨(some 79), .mv (.t 90), none⟩, .calm),
  (⟨(some 91), .ext 0 (.t 79), none⟩, .calm),
  (⟨(some 92), .ext 1 (.t 79), none⟩, .calm),
  (⟨(some 93), .ext 2 (.t 79), none⟩, .calm),
  (⟨(some 17), .mv (.t 91), none⟩, .calm),
  (⟨(some 18), .mv (.t 92), none⟩, .calm),
  (⟨(some 19), .mv (.t 93), none⟩, .calm)]) (
 .seq (
 .ops [
  ⟨(some 94), .mv (.t 9), none⟩,
  ⟨(some 95), .bin .eql (.t 94) (.c (.int .i64 0)), none⟩,
  ⟨(some 96), .mv (.t 95), none⟩,
  ⟨(some 97), .mv (.t 16), some (96, true)⟩,
  ⟨(some 98), .bin .eql (.t 97) (.c (.int .i64 0)), some (96, true)⟩,
  ⟨(some 99), .pick (.t 96) (.t 98) (.c (.bool false)), none⟩,
  ⟨(some 100), .mv (.t 99), none⟩,
  ⟨(some 101), .mv (.t 19), some (100, true)⟩,
  ⟨(some 102), .bin .eql (.t 101) (.c (.int .i64 0)), some (100, true)⟩,
  ⟨(some 103), .pick (.t 100) (.t 102) (.c (.bool false)), none⟩,
  ⟨(some 104), .mv (.t 103), none⟩,
  ⟨(some 105), .mv (.t 13), some (104, true)⟩,
  ⟨(some 106), .mv (.t 8), some (104, true)⟩,
  ⟨(some 107), .bin .leq (.t 105) (.t 106), some (104, true)⟩,
  ⟨(some 108), .pick (.t 104) (.t 107) (.c (.bool false)), none⟩,
  ⟨(some 109), .mv (.t 108), none⟩,
  ⟨(some 110), .mv (.t 15), some (109, true)⟩,
  ⟨(some 111), .mv (.t 8), some (109, true)⟩,
  ⟨(some 112), .bin .leq (.t 110) (.t 111), some (109, true)⟩,
  ⟨(some 113), .pick (.t 109) (.t 112) (.c (.bool false)), none⟩,
  ⟨(some 114), .mv (.t 113), none⟩,
  ⟨(some 115), .mv (.t 18), some (114, true)⟩,
  ⟨(some 116), .mv (.t 8), some (114, true)⟩,
  ⟨(some 117), .bin .leq (.t 115) (.t 116), some (114, true)⟩,
  ⟨(some 118), .pick (.t 114) (.t 117) (.c (.bool false)), none⟩,
  ⟨(some 119), .mv (.t 118), none⟩,
  ⟨(some 120), .call (.c (.func (.func 32) [] [])) [], some (119, true)⟩,
  ⟨(some 121), .pick (.t 119) (.t 120) (.c (.bool false)), none⟩,
  ⟨(some 6), .mv (.t 121), none⟩]) (
 .ret))))))))), [.tmp 6]⟩
def x48 : XF := ⟨16, .seq (
 .ops [
  ⟨(some 4), .mv (.c (.int .i64 0)), none⟩]) (
 .seq (
 .seq (
 .ops [
  ⟨(some 5), .mv (.t 1), none⟩,
  ⟨(some 6), .bin .lss (.t 5) (.c (.int .i64 1)), none⟩]) (
 .cond (.t 6) (
  .seq (
  .ops [
   ⟨(some 4), .mv (.c (.int .i64 0)), none⟩]) (
  .ret)) (
  .skip))) (
 .seq (
 .ops [
  ⟨(some 7), .mv (.t 0), none⟩,
  ⟨(some 8), .mv (.t 1), none⟩,
  ⟨(some 9), .bin .rem (.t 7) (.t 8), none⟩,
  ⟨(some 0), .mv (.t 9), none⟩]) (
 .seq (
 .seq (
 .ops [
  ⟨(some 10), .mv (.t 0), none⟩,
  ⟨(some 11), .bin .lss (.t 10) (.c (.int .i64 0)), none⟩]) (
 .cond (.t 11) (
  .ops [
   ⟨(some 12), .mv (.t 0), none⟩,
   ⟨(some 13), .mv (.t 1), none⟩,
   ⟨(some 14), .bin .add (.t 12) (.t 13), none⟩,
   ⟨(some 0), .mv (.t 14), none⟩]) (
  .skip))) (
 .seq (
 .ops [
  ⟨(some 15), .mv (.t 0), none⟩,
  ⟨(some 4), .mv (.t 15), none⟩]) (
 .ret))))), [.tmp 4]⟩
theorem k12 : cFn Tryz.prog 12 = some x12 := by kernel_rfl
theorem k48 : cFn Tryz.prog 48 = some x48 := by kernel_rfl
end Go.Proofs.YtlfkmgpngkbhpaaGreatDoor.C
end
