/-
  Part of the proof of CourseShots: what functions of the program and of the statement come to, walked by the rules. No condition beyond those in each theorem.
-/
import Derived.Test.YtgipddabhcmgjaaGreatProg
import Derived.KernelRfl
import Derived.Test.YtgipddabhcmgjaaGreatPvD
open Go PvL Go.Proofs
set_option linter.unusedVariables false
namespace Go.Proofs.YtgipddabhcmgjaaGreat.C
-- NONE 0
-- NONE 1
/-- gosem.cut.init -/
def x2 : XF := ⟨1, .ops [
    ⟨(some 0), .call (.c (.func (.func 1) [] [])) [], none⟩], []⟩
/-- paravane/paravanelaw04.CourseWays -/
def x4 : XF := ⟨65, .seq (
  .ops [
    ⟨(some 3), .box 41 (.t 0), none⟩,
    ⟨(some 4), .box 23 (.t 1), none⟩,
    ⟨(some 5), .box 23 (.t 2), none⟩,
    ⟨(some 6), .mv (.c (.bool false)), none⟩]) (
  .seq (
  .seq (
  .draw [
    (⟨(some 13), .ldN 17 (.t 3), none⟩, .reads 0 0),
    (⟨(some 14), .call (.c (.func (.func 18) [] [])) [(.t 13)], none⟩, .anchor),
    (⟨(some 15), .ldN 17 (.t 3), none⟩, .reads 0 1),
    (⟨(some 16), .call (.c (.func (.func 19) [] [])) [(.t 15)], none⟩, .anchor),
    (⟨(some 17), .bin .neq (.t 14) (.t 16), none⟩, .calm)]) (
  .cond (.t 17) (
   .seq (
   .ops [
     ⟨(some 6), .mv (.c (.bool false)), none⟩]) (
   .ret)) (
   .skip))) (
  .seq (
  .ops [
    ⟨(some 19), .ldN 17 (.t 3), none⟩,
    ⟨(some 20), .ldN 2 (.t 4), none⟩,
    ⟨(some 21), .ldN 2 (.t 5), none⟩,
    ⟨(some 22), .call (.c (.func (.func 20) [] [])) [(.t 19), (.t 20), (.t 21)], none⟩,
    ⟨(some 18), .mv (.t 22), none⟩,
    ⟨(some 23), .ext 0 (.t 18), none⟩,
    ⟨(some 24), .ext 1 (.t 18), none⟩,
    ⟨(some 7), .mv (.t 23), none⟩,
    ⟨(some 8), .mv (.t 24), none⟩]) (
  .seq (
  .ops [
    ⟨(some 26), .ldN 17 (.t 3), none⟩,
    ⟨(some 27), .ldN 2 (.t 4), none⟩,
    ⟨(some 28), .ldN 2 (.t 5), none⟩,
    ⟨(some 29), .call (.c (.func (.func 21) [] [])) [(.t 26), (.t 27), (.t 28)], none⟩,
    ⟨(some 25), .mv (.t 29), none⟩,
    ⟨(some 30), .ext 0 (.t 25), none⟩,
    ⟨(some 31), .ext 1 (.t 25), none⟩,
    ⟨(some 9), .mv (.t 30), none⟩,
    ⟨(some 10), .mv (.t 31), none⟩]) (
  .seq (
  .seq (
  .ops [
    ⟨(some 32), .mv (.t 7), none⟩,
    ⟨(some 33), .mv (.t 9), none⟩,
    ⟨(some 34), .bin .neq (.t 32) (.t 33), none⟩,
    ⟨(some 35), .mv (.t 34), none⟩,
    ⟨(some 36), .mv (.t 8), some (35, false)⟩,
    ⟨(some 37), .mv (.t 10), some (35, false)⟩,
    ⟨(some 38), .bin .neq (.t 36) (.t 37), some (35, false)⟩,
    ⟨(some 39), .pick (.t 35) (.c (.bool true)) (.t 38), none⟩]) (
  .cond (.t 39) (
   .seq (
   .ops [
     ⟨(some 6), .mv (.c (.bool false)), none⟩]) (
   .ret)) (
   .skip))) (
  .seq (
  .ops [
    ⟨(some 41), .ldN 17 (.t 3), none⟩,
    ⟨(some 42), .ldN 2 (.t 4), none⟩,
    ⟨(some 43), .ldN 2 (.t 5), none⟩,
    ⟨(some 44), .call (.c (.func (.func 22) [] [])) [(.t 41), (.t 42), (.t 43)], none⟩,
    ⟨(some 40), .mv (.t 44), none⟩,
    ⟨(some 45), .ext 0 (.t 40), none⟩,
    ⟨(some 46), .ext 1 (.t 40), none⟩,
    ⟨(some 11), .mv (.t 45), none⟩,
    ⟨(some 8), .mv (.t 46), none⟩]) (
  .seq (
  .ops [
    ⟨(some 48), .ldN 17 (.t 3), none⟩,
    ⟨(some 49), .ldN 2 (.t 4), none⟩,
    ⟨(some 50), .ldN 2 (.t 5), none⟩,
    ⟨(some 51), .call (.c (.func (.func 23) [] [])) [(.t 48), (.t 49), (.t 50)], none⟩,
    ⟨(some 47), .mv (.t 51), none⟩,
    ⟨(some 52), .ext 0 (.t 47), none⟩,
    ⟨(some 53), .ext 1 (.t 47), none⟩,
    ⟨(some 12), .mv (.t 52), none⟩,
    ⟨(some 10), .mv (.t 53), none⟩]) (
  .seq (
  .ops [
    ⟨(some 54), .mv (.t 11), none⟩,
    ⟨(some 55), .mv (.t 12), none⟩,
    ⟨(some 56), .eqg false 4 (.t 54) (.t 55), none⟩,
    ⟨(some 57), .mv (.t 56), none⟩,
    ⟨(some 58), .mv (.t 8), some (57, true)⟩,
    ⟨(some 59), .mv (.t 10), some (57, true)⟩,
    ⟨(some 60), .bin .eql (.t 58) (.t 59), some (57, true)⟩,
    ⟨(some 61), .pick (.t 57) (.t 60) (.c (.bool false)), none⟩,
    ⟨(some 62), .mv (.t 61), none⟩,
    ⟨(some 63), .call (.c (.func (.func 17) [] [])) [], some (62, true)⟩,
    ⟨(some 64), .pick (.t 62) (.t 63) (.c (.bool false)), none⟩,
    ⟨(some 6), .mv (.t 64), none⟩]) (
  .ret)))))))), [.tmp 6]⟩
/-- paravane/paravanelaw04.CoursePassages -/
def x5 : XF := ⟨45, .seq (
  .ops [
    ⟨(some 3), .box 41 (.t 0), none⟩,
    ⟨(some 4), .box 38 (.t 1), none⟩,
    ⟨(some 5), .box 38 (.t 2), none⟩,
    ⟨(some 6), .mv (.c (.bool false)), none⟩]) (
  .seq (
  .ops [
    ⟨(some 14), .ldN 17 (.t 3), none⟩,
    ⟨(some 15), .ldN 3 (.t 4), none⟩,
    ⟨(some 16), .ldN 3 (.t 5), none⟩,
    ⟨(some 17), .call (.c (.func (.func 24) [] [])) [(.t 14), (.t 15), (.t 16)], none⟩,
    ⟨(some 13), .mv (.t 17), none⟩,
    ⟨(some 18), .ext 0 (.t 13), none⟩,
    ⟨(some 19), .ext 1 (.t 13), none⟩,
    ⟨(some 20), .ext 2 (.t 13), none⟩,
    ⟨(some 7), .mv (.t 18), none⟩,
    ⟨(some 8), .mv (.t 19), none⟩,
    ⟨(some 9), .mv (.t 20), none⟩]) (
  .seq (
  .ops [
    ⟨(some 22), .ldN 17 (.t 3), none⟩,
    ⟨(some 23), .ldN 3 (.t 4), none⟩,
    ⟨(some 24), .ldN 3 (.t 5), none⟩,
    ⟨(some 25), .call (.c (.func (.func 25) [] [])) [(.t 22), (.t 23), (.t 24)], none⟩,
    ⟨(some 21), .mv (.t 25), none⟩,
    ⟨(some 26), .ext 0 (.t 21), none⟩,
    ⟨(some 27), .ext 1 (.t 21), none⟩,
    ⟨(some 28), .ext 2 (.t 21), none⟩,
    ⟨(some 10), .mv (.t 26), none⟩,
    ⟨(some 11), .mv (.t 27), none⟩,
    ⟨(some 12), .mv (.t 28), none⟩]) (
  .seq (
  .ops [
    ⟨(some 29), .mv (.t 7), none⟩,
    ⟨(some 30), .mv (.t 10), none⟩,
    ⟨(some 31), .call (.c (.func (.func 26) [] [])) [(.t 29), (.t 30)], none⟩,
    ⟨(some 32), .mv (.t 31), none⟩,
    ⟨(some 33), .mv (.t 8), some (32, true)⟩,
    ⟨(some 34), .mv (.t 11), some (32, true)⟩,
    ⟨(some 35), .bin .eql (.t 33) (.t 34), some (32, true)⟩,
    ⟨(some 36), .pick (.t 32) (.t 35) (.c (.bool false)), none⟩,
    ⟨(some 37), .mv (.t 36), none⟩,
    ⟨(some 38), .mv (.t 9), some (37, true)⟩,
    ⟨(some 39), .mv (.t 12), some (37, true)⟩,
    ⟨(some 40), .bin .eql (.t 38) (.t 39), some (37, true)⟩,
    ⟨(some 41), .pick (.t 37) (.t 40) (.c (.bool false)), none⟩,
    ⟨(some 42), .mv (.t 41), none⟩,
    ⟨(some 43), .call (.c (.func (.func 17) [] [])) [], some (42, true)⟩,
    ⟨(some 44), .pick (.t 42) (.t 43) (.c (.bool false)), none⟩,
    ⟨(some 6), .mv (.t 44), none⟩]) (
  .ret)))), [.tmp 6]⟩
/-- paravane/paravanelaw04.CourseShots -/
def x6 : XF := ⟨36, .seq (
  .ops [
    ⟨(some 3), .box 41 (.t 0), none⟩,
    ⟨(some 4), .box 52 (.t 1), none⟩,
    ⟨(some 6), .mv (.c (.bool false)), none⟩]) (
  .seq (
  .ops [
    ⟨(some 12), .ldN 17 (.t 3), none⟩,
    ⟨(some 13), .ldN 2 (.t 4), none⟩,
    ⟨(some 14), .mv (.t 2), none⟩,
    ⟨(some 15), .call (.c (.func (.func 27) [] [])) [(.t 12), (.t 13), (.t 14)], none⟩,
    ⟨(some 11), .mv (.t 15), none⟩,
    ⟨(some 16), .ext 0 (.t 11), none⟩,
    ⟨(some 17), .ext 1 (.t 11), none⟩,
    ⟨(some 7), .new 34 [(.int .i64 0), (.int .i64 0)], none⟩,
    ⟨none, .st 2 (.t 7) (.t 16), none⟩,
    ⟨(some 8), .mv (.t 17), none⟩]) (
  .seq (
  .ops [
    ⟨(some 19), .ldN 17 (.t 3), none⟩,
    ⟨(some 20), .ldN 2 (.t 4), none⟩,
    ⟨(some 21), .mv (.t 2), none⟩,
    ⟨(some 22), .call (.c (.func (.func 28) [] [])) [(.t 19), (.t 20), (.t 21)], none⟩,
    ⟨(some 18), .mv (.t 22), none⟩,
    ⟨(some 23), .ext 0 (.t 18), none⟩,
    ⟨(some 24), .ext 1 (.t 18), none⟩,
    ⟨(some 9), .new 34 [(.int .i64 0), (.int .i64 0)], none⟩,
    ⟨none, .st 2 (.t 9) (.t 23), none⟩,
    ⟨(some 10), .mv (.t 24), none⟩]) (
  .seq (
  .ops [
    ⟨(some 25), .ldN 2 (.t 7), none⟩,
    ⟨(some 26), .ldN 2 (.t 9), none⟩,
    ⟨(some 27), .eqs false 2 [0, 1] (.t 25) (.t 26), none⟩,
    ⟨(some 28), .mv (.t 27), none⟩,
    ⟨(some 29), .mv (.t 8), some (28, true)⟩,
    ⟨(some 30), .mv (.t 10), some (28, true)⟩,
    ⟨(some 31), .bin .eql (.t 29) (.t 30), some (28, true)⟩,
    ⟨(some 32), .pick (.t 28) (.t 31) (.c (.bool false)), none⟩,
    ⟨(some 33), .mv (.t 32), none⟩,
    ⟨(some 34), .call (.c (.func (.func 17) [] [])) [], some (33, true)⟩,
    ⟨(some 35), .pick (.t 33) (.t 34) (.c (.bool false)), none⟩,
    ⟨(some 6), .mv (.t 35), none⟩]) (
  .ret)))), [.tmp 6]⟩
/-- paravane/paravanelaw04.CourseTimes -/
def x7 : XF := ⟨48, .seq (
  .ops [
    ⟨(some 2), .box 41 (.t 0), none⟩,
    ⟨(some 4), .mv (.c (.bool false)), none⟩]) (
  .seq (
  .ops [
    ⟨(some 11), .ldN 17 (.t 2), none⟩,
    ⟨(some 12), .mv (.t 1), none⟩,
    ⟨(some 13), .call (.c (.func (.func 29) [] [])) [(.t 11), (.t 12)], none⟩,
    ⟨(some 10), .mv (.t 13), none⟩,
    ⟨(some 14), .ext 0 (.t 10), none⟩,
    ⟨(some 15), .ext 1 (.t 10), none⟩,
    ⟨(some 5), .mv (.t 14), none⟩,
    ⟨(some 6), .mv (.t 15), none⟩]) (
  .seq (
  .ops [
    ⟨(some 17), .ldN 17 (.t 2), none⟩,
    ⟨(some 18), .mv (.t 1), none⟩,
    ⟨(some 19), .call (.c (.func (.func 30) [] [])) [(.t 17), (.t 18)], none⟩,
    ⟨(some 16), .mv (.t 19), none⟩,
    ⟨(some 20), .ext 0 (.t 16), none⟩,
    ⟨(some 21), .ext 1 (.t 16), none⟩,
    ⟨(some 7), .mv (.t 20), none⟩,
    ⟨(some 8), .mv (.t 21), none⟩]) (
  .seq (
  .seq (
  .ops [
    ⟨(some 22), .mv (.t 5), none⟩,
    ⟨(some 23), .len .sl (.t 22), none⟩,
    ⟨(some 24), .mv (.t 7), none⟩,
    ⟨(some 25), .len .sl (.t 24), none⟩,
    ⟨(some 26), .bin .neq (.t 23) (.t 25), none⟩,
    ⟨(some 27), .mv (.t 26), none⟩,
    ⟨(some 28), .mv (.t 6), some (27, false)⟩,
    ⟨(some 29), .mv (.t 8), some (27, false)⟩,
    ⟨(some 30), .bin .neq (.t 28) (.t 29), some (27, false)⟩,
    ⟨(some 31), .pick (.t 27) (.c (.bool true)) (.t 30), none⟩]) (
  .cond (.t 31) (
   .seq (
   .ops [
     ⟨(some 4), .mv (.c (.bool false)), none⟩]) (
   .ret)) (
   .skip))) (
  .seq (
  .seq (
  .ops [
    ⟨(some 9), .mv (.c (.int .i64 0)), none⟩]) (
  .block 0 (
   .loop (
    .seq (
    .seq (
    .ops [
      ⟨(some 32), .mv (.t 9), none⟩,
      ⟨(some 33), .mv (.t 5), none⟩,
      ⟨(some 34), .len .sl (.t 33), none⟩,
      ⟨(some 35), .bin .lss (.t 32) (.t 34), none⟩]) (
    .cond (.t 35) (
     .skip) (
     .exit 0))) (
    .seq (
    .block 1 (
     .seq (
     .draw [
       (⟨(some 38), .mv (.t 5), none⟩, .calm),
       (⟨(some 39), .mv (.t 9), none⟩, .calm),
       (⟨(some 40), .iad none 2 (.t 38) (.t 39), none⟩, .calm),
       (⟨(some 41), .ldN 2 (.t 40), none⟩, .reads 0 0),
       (⟨(some 42), .mv (.t 7), none⟩, .calm),
       (⟨(some 43), .mv (.t 9), none⟩, .calm),
       (⟨(some 44), .iad none 2 (.t 42) (.t 43), none⟩, .calm),
       (⟨(some 45), .ldN 2 (.t 44), none⟩, .reads 0 0),
       (⟨(some 46), .eqs true 2 [0, 1] (.t 41) (.t 45), none⟩, .calm)]) (
     .cond (.t 46) (
      .seq (
      .ops [
        ⟨(some 4), .mv (.c (.bool false)), none⟩]) (
      .ret)) (
      .skip)))) (
    .ops [
      ⟨(some 36), .mv (.t 9), none⟩,
      ⟨(some 37), .bin .add (.t 36) (.c (.int .i64 1)), none⟩,
      ⟨(some 9), .mv (.t 37), none⟩])))))) (
  .seq (
  .ops [
    ⟨(some 47), .call (.c (.func (.func 17) [] [])) [], none⟩,
    ⟨(some 4), .mv (.t 47), none⟩]) (
  .ret)))))), [.tmp 4]⟩
/-- paravane/course.Octant -/
def x15 : XF := ⟨84, .seq (
  .ops [
    ⟨(some 1), .box 23 (.t 0), none⟩,
    ⟨(some 2), .mv (.c (.int .i64 0)), none⟩]) (
  .seq (
  .seq (
  .ops [
    ⟨(some 7), .fad 0 (.t 1), none⟩,
    ⟨(some 8), .ld1 (.t 7), none⟩,
    ⟨(some 9), .call (.c (.func (.func 43) [] [])) [(.t 8), (.c (.int .i64 (-131072))), (.c (.int .i64 131072))], none⟩,
    ⟨(some 10), .un .not (.t 9), none⟩,
    ⟨(some 11), .mv (.t 10), none⟩,
    ⟨(some 12), .fad 1 (.t 1), some (11, false)⟩,
    ⟨(some 13), .ld1 (.t 12), some (11, false)⟩,
    ⟨(some 14), .call (.c (.func (.func 43) [] [])) [(.t 13), (.c (.int .i64 (-131072))), (.c (.int .i64 131072))], some (11, false)⟩,
    ⟨(some 15), .un .not (.t 14), some (11, false)⟩,
    ⟨(some 16), .pick (.t 11) (.c (.bool true)) (.t 15), none⟩]) (
  .cond (.t 16) (
   .seq (
   .ops [
     ⟨(some 2), .mv (.c (.int .i64 0)), none⟩]) (
   .ret)) (
   .skip))) (
  .seq (
  .draw [
    (⟨(some 17), .fad 0 (.t 1), none⟩, .calm),
    (⟨(some 18), .ld1 (.t 17), none⟩, .reads 0 0),
    (⟨(some 19), .fad 1 (.t 1), none⟩, .calm),
    (⟨(some 20), .ld1 (.t 19), none⟩, .reads 0 0),
    (⟨(some 21), .bin .add (.t 18) (.t 20), none⟩, .calm),
    (⟨(some 22), .fad 0 (.t 1), none⟩, .calm),
    (⟨(some 23), .ld1 (.t 22), none⟩, .reads 0 0),
    (⟨(some 24), .fad 1 (.t 1), none⟩, .calm),
    (⟨(some 25), .ld1 (.t 24), none⟩, .reads 0 0),
    (⟨(some 26), .bin .sub (.t 23) (.t 25), none⟩, .calm),
    (⟨(some 3), .mv (.t 21), none⟩, .calm),
    (⟨(some 4), .mv (.t 26), none⟩, .calm)]) (
  .seq (
  .seq (
  .ops [
    ⟨(some 27), .fad 1 (.t 1), none⟩,
    ⟨(some 28), .ld1 (.t 27), none⟩,
    ⟨(some 29), .bin .geq (.t 28) (.c (.int .i64 0)), none⟩,
    ⟨(some 30), .mv (.t 29), none⟩,
    ⟨(some 31), .mv (.t 4), some (30, true)⟩,
    ⟨(some 32), .bin .geq (.t 31) (.c (.int .i64 0)), some (30, true)⟩,
    ⟨(some 33), .pick (.t 30) (.t 32) (.c (.bool false)), none⟩,
    ⟨(some 34), .fad 0 (.t 1), none⟩,
    ⟨(some 35), .ld1 (.t 34), none⟩,
    ⟨(some 36), .bin .geq (.t 35) (.c (.int .i64 0)), none⟩,
    ⟨(some 37), .mv (.t 36), none⟩,
    ⟨(some 38), .mv (.t 4), some (37, true)⟩,
    ⟨(some 39), .bin .leq (.t 38) (.c (.int .i64 0)), some (37, true)⟩,
    ⟨(some 40), .pick (.t 37) (.t 39) (.c (.bool false)), none⟩,
    ⟨(some 41), .fad 0 (.t 1), none⟩,
    ⟨(some 42), .ld1 (.t 41), none⟩,
    ⟨(some 43), .bin .leq (.t 42) (.c (.int .i64 0)), none⟩,
    ⟨(some 44), .mv (.t 43), none⟩,
    ⟨(some 45), .mv (.t 3), some (44, true)⟩,
    ⟨(some 46), .bin .geq (.t 45) (.c (.int .i64 0)), some (44, true)⟩,
    ⟨(some 47), .pick (.t 44) (.t 46) (.c (.bool false)), none⟩,
    ⟨(some 48), .fad 1 (.t 1), none⟩,
    ⟨(some 49), .ld1 (.t 48), none⟩,
    ⟨(some 50), .bin .geq (.t 49) (.c (.int .i64 0)), none⟩,
    ⟨(some 51), .mv (.t 50), none⟩,
    ⟨(some 52), .mv (.t 3), some (51, true)⟩,
    ⟨(some 53), .bin .leq (.t 52) (.c (.int .i64 0)), some (51, true)⟩,
    ⟨(some 54), .pick (.t 51) (.t 53) (.c (.bool false)), none⟩,
    ⟨(some 55), .fad 1 (.t 1), none⟩,
    ⟨(some 56), .ld1 (.t 55), none⟩,
    ⟨(some 57), .bin .leq (.t 56) (.c (.int .i64 0)), none⟩,
    ⟨(some 58), .mv (.t 57), none⟩,
    ⟨(some 59), .mv (.t 4), some (58, true)⟩,
    ⟨(some 60), .bin .leq (.t 59) (.c (.int .i64 0)), some (58, true)⟩,
    ⟨(some 61), .pick (.t 58) (.t 60) (.c (.bool false)), none⟩,
    ⟨(some 62), .fad 0 (.t 1), none⟩,
    ⟨(some 63), .ld1 (.t 62), none⟩,
    ⟨(some 64), .bin .leq (.t 63) (.c (.int .i64 0)), none⟩,
    ⟨(some 65), .mv (.t 64), none⟩,
    ⟨(some 66), .mv (.t 4), some (65, true)⟩,
    ⟨(some 67), .bin .geq (.t 66) (.c (.int .i64 0)), some (65, true)⟩,
    ⟨(some 68), .pick (.t 65) (.t 67) (.c (.bool false)), none⟩,
    ⟨(some 69), .fad 0 (.t 1), none⟩,
    ⟨(some 70), .ld1 (.t 69), none⟩,
    ⟨(some 71), .bin .geq (.t 70) (.c (.int .i64 0)), none⟩,
    ⟨(some 72), .mv (.t 71), none⟩,
    ⟨(some 73), .mv (.t 3), some (72, true)⟩,
    ⟨(some 74), .bin .leq (.t 73) (.c (.int .i64 0)), some (72, true)⟩,
    ⟨(some 75), .pick (.t 72) (.t 74) (.c (.bool false)), none⟩,
    ⟨(some 76), .build [(.bool false), (.bool false), (.bool false), (.bool false), (.bool false), (.bool false), (.bool false)] [(0, 1, (.t 33)), (1, 1, (.t 40)), (2, 1, (.t 47)), (3, 1, (.t 54)), (4, 1, (.t 61)), (5, 1, (.t 68)), (6, 1, (.t 75))], none⟩,
    ⟨(some 77), .mv (.c (.int .i64 0)), none⟩]) (
  .block 0 (
   .loop (
    .seq (
    .ops [
      ⟨(some 78), .bin .lss (.t 77) (.c (.int .i64 7)), none⟩]) (
    .seq (
    .cond (.t 78) (
     .skip) (
     .exit 0)) (
    .seq (
    .block 1 (
     .seq (
     .ops [
       ⟨(some 79), .mv (.t 77), none⟩,
       ⟨(some 80), .idx 7 1 false (.t 76) (.t 77), none⟩,
       ⟨(some 5), .mv (.t 79), none⟩,
       ⟨(some 6), .mv (.t 80), none⟩]) (
     .seq (
     .ops [
       ⟨(some 81), .mv (.t 6), none⟩]) (
     .cond (.t 81) (
      .seq (
      .ops [
        ⟨(some 82), .mv (.t 5), none⟩,
        ⟨(some 2), .mv (.t 82), none⟩]) (
      .ret)) (
      .skip))))) (
    .ops [
      ⟨(some 83), .bin .add (.t 77) (.c (.int .i64 1)), none⟩,
      ⟨(some 77), .mv (.t 83), none⟩]))))))) (
  .seq (
  .ops [
    ⟨(some 2), .mv (.c (.int .i64 7)), none⟩]) (
  .ret))))), [.tmp 2]⟩
/-- paravane/course.CheckCruise -/
def x18 : XF := ⟨6, .seq (
  .ops [
    ⟨(some 1), .box 41 (.t 0), none⟩,
    ⟨(some 2), .mv (.c (.int .i64 0)), none⟩]) (
  .seq (
  .seq (
  .ops [
    ⟨(some 3), .ldN 17 (.t 1), none⟩,
    ⟨(some 4), .call (.c (.func (.func 49) [] [])) [(.t 3)], none⟩,
    ⟨(some 5), .un .not (.t 4), none⟩]) (
  .cond (.t 5) (
   .seq (
   .ops [
     ⟨(some 2), .mv (.c (.int .i64 40)), none⟩]) (
   .ret)) (
   .skip))) (
  .seq (
  .ops [
    ⟨(some 2), .mv (.c (.int .i64 0)), none⟩]) (
  .ret))), [.tmp 2]⟩
/-- paravane/paravaneref04.CheckCruise -/
def x19 : XF := ⟨158, .seq (
  .ops [
    ⟨(some 1), .box 41 (.t 0), none⟩,
    ⟨(some 2), .mv (.c (.int .i64 0)), none⟩]) (
  .seq (
  .ops [
    ⟨(some 11), .fad 0 (.t 1), none⟩,
    ⟨(some 12), .ld1 (.t 11), none⟩,
    ⟨(some 13), .len .sl (.t 12), none⟩,
    ⟨(some 14), .call (.c (.func (.func 40) [] [])) [(.t 13), (.c (.int .i64 1)), (.c (.int .i64 5))], none⟩,
    ⟨(some 15), .mv (.t 14), none⟩,
    ⟨(some 16), .fad 1 (.t 1), some (15, true)⟩,
    ⟨(some 17), .ld1 (.t 16), some (15, true)⟩,
    ⟨(some 18), .len .sl (.t 17), some (15, true)⟩,
    ⟨(some 19), .bin .leq (.t 18) (.c (.int .i64 4)), some (15, true)⟩,
    ⟨(some 20), .pick (.t 15) (.t 19) (.c (.bool false)), none⟩,
    ⟨(some 21), .mv (.t 20), none⟩,
    ⟨(some 22), .fad 2 (.t 1), some (21, true)⟩,
    ⟨(some 23), .ld1 (.t 22), some (21, true)⟩,
    ⟨(some 24), .len .sl (.t 23), some (21, true)⟩,
    ⟨(some 25), .bin .leq (.t 24) (.c (.int .i64 4)), some (21, true)⟩,
    ⟨(some 26), .pick (.t 21) (.t 25) (.c (.bool false)), none⟩,
    ⟨(some 27), .mv (.t 26), none⟩,
    ⟨(some 28), .fad 16 (.t 1), some (27, true)⟩,
    ⟨(some 29), .ld1 (.t 28), some (27, true)⟩,
    ⟨(some 30), .len .sl (.t 29), some (27, true)⟩,
    ⟨(some 31), .fad 0 (.t 1), some (27, true)⟩,
    ⟨(some 32), .ld1 (.t 31), some (27, true)⟩,
    ⟨(some 33), .len .sl (.t 32), some (27, true)⟩,
    ⟨(some 34), .bin .eql (.t 30) (.t 33), some (27, true)⟩,
    ⟨(some 35), .pick (.t 27) (.t 34) (.c (.bool false)), none⟩,
    ⟨(some 36), .mv (.t 35), none⟩,
    ⟨(some 37), .fad 11 (.t 1), some (36, true)⟩,
    ⟨(some 38), .ldN 3 (.t 37), some (36, true)⟩,
    ⟨(some 39), .call (.c (.func (.func 50) [] [])) [(.t 38)], some (36, true)⟩,
    ⟨(some 40), .pick (.t 36) (.t 39) (.c (.bool false)), none⟩,
    ⟨(some 41), .mv (.t 40), none⟩,
    ⟨(some 42), .fad 14 (.t 1), some (41, true)⟩,
    ⟨(some 43), .ld1 (.t 42), some (41, true)⟩,
    ⟨(some 44), .call (.c (.func (.func 40) [] [])) [(.t 43), (.c (.int .i64 1)), (.c (.int .i64 1000))], some (41, true)⟩,
    ⟨(some 45), .pick (.t 41) (.t 44) (.c (.bool false)), none⟩,
    ⟨(some 46), .mv (.t 45), none⟩,
    ⟨(some 47), .fad 15 (.t 1), some (46, true)⟩,
    ⟨(some 48), .ld1 (.t 47), some (46, true)⟩,
    ⟨(some 49), .call (.c (.func (.func 40) [] [])) [(.t 48), (.c (.int .i64 0)), (.c (.int .i64 1000))], some (46, true)⟩,
    ⟨(some 50), .pick (.t 46) (.t 49) (.c (.bool false)), none⟩,
    ⟨(some 3), .mv (.t 50), none⟩]) (
  .seq (
  .seq (
  .ops [
    ⟨(some 4), .mv (.c (.int .i64 0)), none⟩]) (
  .block 0 (
   .loop (
    .seq (
    .seq (
    .ops [
      ⟨(some 51), .mv (.t 3), none⟩,
      ⟨(some 52), .mv (.t 51), none⟩,
      ⟨(some 53), .mv (.t 4), some (52, true)⟩,
      ⟨(some 54), .fad 0 (.t 1), some (52, true)⟩,
      ⟨(some 55), .ld1 (.t 54), some (52, true)⟩,
      ⟨(some 56), .len .sl (.t 55), some (52, true)⟩,
      ⟨(some 57), .bin .lss (.t 53) (.t 56), some (52, true)⟩,
      ⟨(some 58), .pick (.t 52) (.t 57) (.c (.bool false)), none⟩]) (
    .cond (.t 58) (
     .skip) (
     .exit 0))) (
    .seq (
    .block 1 (
     .seq (
     .ops [
       ⟨(some 61), .fad 0 (.t 1), none⟩,
       ⟨(some 62), .ld1 (.t 61), none⟩,
       ⟨(some 63), .mv (.t 4), none⟩,
       ⟨(some 64), .iad none 4 (.t 62) (.t 63), none⟩,
       ⟨(some 65), .ldN 4 (.t 64), none⟩,
       ⟨(some 5), .new 86 [(.int .i64 0), (.int .i64 0), (.int .i64 0), (.int .i64 0)], none⟩,
       ⟨none, .st 4 (.t 5) (.t 65), none⟩]) (
     .ops [
       ⟨(some 66), .fad 0 (.t 5), none⟩,
       ⟨(some 67), .ldN 2 (.t 66), none⟩,
       ⟨(some 68), .call (.c (.func (.func 51) [] [])) [(.t 67)], none⟩,
       ⟨(some 69), .mv (.t 68), none⟩,
       ⟨(some 70), .fad 2 (.t 5), some (69, true)⟩,
       ⟨(some 71), .ldN 2 (.t 70), some (69, true)⟩,
       ⟨(some 72), .call (.c (.func (.func 51) [] [])) [(.t 71)], some (69, true)⟩,
       ⟨(some 73), .pick (.t 69) (.t 72) (.c (.bool false)), none⟩,
       ⟨(some 74), .mv (.t 73), none⟩,
       ⟨(some 75), .fad 0 (.t 5), some (74, true)⟩,
       ⟨(some 76), .ldN 2 (.t 75), some (74, true)⟩,
       ⟨(some 77), .fad 2 (.t 5), some (74, true)⟩,
       ⟨(some 78), .ldN 2 (.t 77), some (74, true)⟩,
       ⟨(some 79), .eqs true 2 [0, 1] (.t 76) (.t 78), some (74, true)⟩,
       ⟨(some 80), .pick (.t 74) (.t 79) (.c (.bool false)), none⟩,
       ⟨(some 81), .mv (.t 80), none⟩,
       ⟨(some 82), .fad 16 (.t 1), some (81, true)⟩,
       ⟨(some 83), .ld1 (.t 82), some (81, true)⟩,
       ⟨(some 84), .mv (.t 4), some (81, true)⟩,
       ⟨(some 85), .iad none 1 (.t 83) (.t 84), some (81, true)⟩,
       ⟨(some 86), .ld1 (.t 85), some (81, true)⟩,
       ⟨(some 87), .call (.c (.func (.func 52) [] [])) [(.t 86)], some (81, true)⟩,
       ⟨(some 88), .pick (.t 81) (.t 87) (.c (.bool false)), none⟩,
       ⟨(some 3), .mv (.t 88), none⟩]))) (
    .ops [
      ⟨(some 59), .mv (.t 4), none⟩,
      ⟨(some 60), .bin .add (.t 59) (.c (.int .i64 1)), none⟩,
      ⟨(some 4), .mv (.t 60), none⟩])))))) (
  .seq (
  .seq (
  .ops [
    ⟨(some 6), .mv (.c (.int .i64 0)), none⟩]) (
  .block 2 (
   .loop (
    .seq (
    .seq (
    .ops [
      ⟨(some 89), .mv (.t 3), none⟩,
      ⟨(some 90), .mv (.t 89), none⟩,
      ⟨(some 91), .mv (.t 6), some (90, true)⟩,
      ⟨(some 92), .fad 1 (.t 1), some (90, true)⟩,
      ⟨(some 93), .ld1 (.t 92), some (90, true)⟩,
      ⟨(some 94), .len .sl (.t 93), some (90, true)⟩,
      ⟨(some 95), .bin .lss (.t 91) (.t 94), some (90, true)⟩,
      ⟨(some 96), .pick (.t 90) (.t 95) (.c (.bool false)), none⟩]) (
    .cond (.t 96) (
     .skip) (
     .exit 2))) (
    .seq (
    .block 3 (
     .ops [
       ⟨(some 99), .fad 1 (.t 1), none⟩,
       ⟨(some 100), .ld1 (.t 99), none⟩,
       ⟨(some 101), .mv (.t 6), none⟩,
       ⟨(some 102), .iad none 1 (.t 100) (.t 101), none⟩,
       ⟨(some 103), .ld1 (.t 102), none⟩,
       ⟨(some 104), .call (.c (.func (.func 53) [] [])) [(.t 103)], none⟩,
       ⟨(some 105), .bin .eql (.t 104) (.c (.int .i64 0)), none⟩,
       ⟨(some 3), .mv (.t 105), none⟩])) (
    .ops [
      ⟨(some 97), .mv (.t 6), none⟩,
      ⟨(some 98), .bin .add (.t 97) (.c (.int .i64 1)), none⟩,
      ⟨(some 6), .mv (.t 98), none⟩])))))) (
  .seq (
  .seq (
  .ops [
    ⟨(some 7), .mv (.c (.int .i64 0)), none⟩]) (
  .block 4 (
   .loop (
    .seq (
    .seq (
    .ops [
      ⟨(some 106), .mv (.t 3), none⟩,
      ⟨(some 107), .mv (.t 106), none⟩,
      ⟨(some 108), .mv (.t 7), some (107, true)⟩,
      ⟨(some 109), .fad 2 (.t 1), some (107, true)⟩,
      ⟨(some 110), .ld1 (.t 109), some (107, true)⟩,
      ⟨(some 111), .len .sl (.t 110), some (107, true)⟩,
      ⟨(some 112), .bin .lss (.t 108) (.t 111), some (107, true)⟩,
      ⟨(some 113), .pick (.t 107) (.t 112) (.c (.bool false)), none⟩]) (
    .cond (.t 113) (
     .skip) (
     .exit 4))) (
    .seq (
    .block 5 (
     .ops [
       ⟨(some 116), .fad 2 (.t 1), none⟩,
       ⟨(some 117), .ld1 (.t 116), none⟩,
       ⟨(some 118), .mv (.t 7), none⟩,
       ⟨(some 119), .iad none 2 (.t 117) (.t 118), none⟩,
       ⟨(some 120), .ldN 2 (.t 119), none⟩,
       ⟨(some 121), .call (.c (.func (.func 51) [] [])) [(.t 120)], none⟩,
       ⟨(some 3), .mv (.t 121), none⟩])) (
    .ops [
      ⟨(some 114), .mv (.t 7), none⟩,
      ⟨(some 115), .bin .add (.t 114) (.c (.int .i64 1)), none⟩,
      ⟨(some 7), .mv (.t 115), none⟩])))))) (
  .seq (
  .ops [
    ⟨(some 122), .fad 3 (.t 1), none⟩,
    ⟨(some 123), .ldN 8 (.t 122), none⟩,
    ⟨(some 8), .new 36 [(.int .i64 0), (.int .i64 0), (.int .i64 0), (.int .i64 0), (.int .i64 0), (.int .i64 0), (.int .i64 0), (.int .i64 0)], none⟩,
    ⟨none, .st 8 (.t 8) (.t 123), none⟩]) (
  .seq (
  .seq (
  .ops [
    ⟨(some 124), .mv (.t 3), none⟩,
    ⟨(some 125), .un .not (.t 124), none⟩,
    ⟨(some 126), .mv (.t 125), none⟩,
    ⟨(some 127), .ldN 8 (.t 8), some (126, false)⟩,
    ⟨(some 128), .call (.c (.func (.func 54) [] [])) [(.t 127)], some (126, false)⟩,
    ⟨(some 129), .bin .neq (.t 128) (.c (.int .i64 0)), some (126, false)⟩,
    ⟨(some 130), .pick (.t 126) (.c (.bool true)) (.t 129), none⟩,
    ⟨(some 131), .mv (.t 130), none⟩,
    ⟨(some 132), .fad 0 (.t 8), some (131, false)⟩,
    ⟨(some 133), .fad 1 (.t 132), some (131, false)⟩,
    ⟨(some 134), .ld1 (.t 133), some (131, false)⟩,
    ⟨(some 135), .fad 0 (.t 8), some (131, false)⟩,
    ⟨(some 136), .fad 0 (.t 135), some (131, false)⟩,
    ⟨(some 137), .ld1 (.t 136), some (131, false)⟩,
    ⟨(some 138), .bin .sub (.t 134) (.t 137), some (131, false)⟩,
    ⟨(some 139), .bin .gtr (.t 138) (.c (.int .i64 256)), some (131, false)⟩,
    ⟨(some 140), .pick (.t 131) (.c (.bool true)) (.t 139), none⟩,
    ⟨(some 141), .mv (.t 140), none⟩,
    ⟨(some 142), .fad 2 (.t 8), some (141, false)⟩,
    ⟨(some 143), .fad 1 (.t 142), some (141, false)⟩,
    ⟨(some 144), .ld1 (.t 143), some (141, false)⟩,
    ⟨(some 145), .fad 2 (.t 8), some (141, false)⟩,
    ⟨(some 146), .fad 0 (.t 145), some (141, false)⟩,
    ⟨(some 147), .ld1 (.t 146), some (141, false)⟩,
    ⟨(some 148), .bin .sub (.t 144) (.t 147), some (141, false)⟩,
    ⟨(some 149), .bin .gtr (.t 148) (.c (.int .i64 256)), some (141, false)⟩,
    ⟨(some 150), .pick (.t 141) (.c (.bool true)) (.t 149), none⟩]) (
  .cond (.t 150) (
   .seq (
   .ops [
     ⟨(some 2), .mv (.c (.int .i64 40)), none⟩]) (
   .ret)) (
   .skip))) (
  .seq (
  .seq (
  .ops [
    ⟨(some 152), .ldN 8 (.t 8), none⟩,
    ⟨(some 153), .call (.c (.func (.func 55) [] [])) [(.t 152)], none⟩,
    ⟨(some 151), .mv (.t 153), none⟩,
    ⟨(some 154), .ext 0 (.t 151), none⟩,
    ⟨(some 155), .ext 1 (.t 151), none⟩,
    ⟨(some 9), .new 36 [(.int .i64 0), (.int .i64 0), (.int .i64 0), (.int .i64 0), (.int .i64 0), (.int .i64 0), (.int .i64 0), (.int .i64 0)], none⟩,
    ⟨none, .st 8 (.t 9) (.t 154), none⟩,
    ⟨(some 10), .mv (.t 155), none⟩]) (
  .seq (
  .ops [
    ⟨(some 156), .mv (.t 10), none⟩,
    ⟨(some 157), .bin .neq (.t 156) (.c (.int .i64 0)), none⟩]) (
  .cond (.t 157) (
   .seq (
   .ops [
     ⟨(some 2), .mv (.c (.int .i64 40)), none⟩]) (
   .ret)) (
   .skip)))) (
  .seq (
  .ops [
    ⟨(some 2), .mv (.c (.int .i64 0)), none⟩]) (
  .ret))))))))), [.tmp 2]⟩
/-- paravane/course.Steps -/
def x20 : XF := ⟨25, .seq (
  .ops [
    ⟨(some 3), .box 41 (.t 0), none⟩,
    ⟨(some 4), .box 23 (.t 1), none⟩,
    ⟨(some 5), .box 23 (.t 2), none⟩,
    ⟨(some 6), .mv (.c (.int .i64 0)), none⟩,
    ⟨(some 7), .mv (.c (.int .i64 0)), none⟩]) (
  .seq (
  .ops [
    ⟨(some 12), .ldN 17 (.t 3), none⟩,
    ⟨(some 13), .ldN 2 (.t 4), none⟩,
    ⟨(some 14), .ldN 2 (.t 5), none⟩,
    ⟨(some 15), .call (.c (.func (.func 56) [] [])) [(.t 12), (.t 13), (.t 14)], none⟩,
    ⟨(some 11), .mv (.t 15), none⟩,
    ⟨(some 16), .ext 0 (.t 11), none⟩,
    ⟨(some 17), .ext 1 (.t 11), none⟩,
    ⟨(some 18), .ext 2 (.t 11), none⟩,
    ⟨(some 9), .new 95 [(.int .i64 0), (.int .i64 0), (.int .i64 0), (.int .i64 0)], none⟩,
    ⟨(some 8), .mv (.t 16), none⟩,
    ⟨none, .st 4 (.t 9) (.t 17), none⟩,
    ⟨(some 10), .mv (.t 18), none⟩]) (
  .seq (
  .seq (
  .ops [
    ⟨(some 19), .mv (.t 10), none⟩,
    ⟨(some 20), .bin .neq (.t 19) (.c (.int .i64 0)), none⟩]) (
  .cond (.t 20) (
   .seq (
   .ops [
     ⟨(some 21), .mv (.t 10), none⟩,
     ⟨(some 6), .mv (.c (.int .i64 0)), none⟩,
     ⟨(some 7), .mv (.t 21), none⟩]) (
   .ret)) (
   .skip))) (
  .seq (
  .ops [
    ⟨(some 22), .mv (.t 8), none⟩,
    ⟨(some 23), .ldN 4 (.t 9), none⟩,
    ⟨(some 24), .call (.c (.func (.func 57) [] [])) [(.t 22), (.t 23)], none⟩,
    ⟨(some 6), .mv (.t 24), none⟩,
    ⟨(some 7), .mv (.c (.int .i64 0)), none⟩]) (
  .ret)))), [.tmp 6, .tmp 7]⟩
/-- paravane/paravaneref04.Steps -/
def x21 : XF := ⟨26, .seq (
  .ops [
    ⟨(some 3), .box 41 (.t 0), none⟩,
    ⟨(some 4), .box 23 (.t 1), none⟩,
    ⟨(some 5), .box 23 (.t 2), none⟩,
    ⟨(some 6), .mv (.c (.int .i64 0)), none⟩,
    ⟨(some 7), .mv (.c (.int .i64 0)), none⟩]) (
  .seq (
  .seq (
  .ops [
    ⟨(some 9), .ldN 17 (.t 3), none⟩,
    ⟨(some 10), .call (.c (.func (.func 19) [] [])) [(.t 9)], none⟩,
    ⟨(some 8), .mv (.t 10), none⟩]) (
  .seq (
  .ops [
    ⟨(some 11), .mv (.t 8), none⟩,
    ⟨(some 12), .bin .neq (.t 11) (.c (.int .i64 0)), none⟩]) (
  .cond (.t 12) (
   .seq (
   .ops [
     ⟨(some 13), .mv (.t 8), none⟩,
     ⟨(some 6), .mv (.c (.int .i64 0)), none⟩,
     ⟨(some 7), .mv (.t 13), none⟩]) (
   .ret)) (
   .skip)))) (
  .seq (
  .seq (
  .ops [
    ⟨(some 14), .ldN 2 (.t 4), none⟩,
    ⟨(some 15), .call (.c (.func (.func 51) [] [])) [(.t 14)], none⟩,
    ⟨(some 16), .un .not (.t 15), none⟩,
    ⟨(some 17), .mv (.t 16), none⟩,
    ⟨(some 18), .ldN 2 (.t 5), some (17, false)⟩,
    ⟨(some 19), .call (.c (.func (.func 51) [] [])) [(.t 18)], some (17, false)⟩,
    ⟨(some 20), .un .not (.t 19), some (17, false)⟩,
    ⟨(some 21), .pick (.t 17) (.c (.bool true)) (.t 20), none⟩]) (
  .cond (.t 21) (
   .seq (
   .ops [
     ⟨(some 6), .mv (.c (.int .i64 0)), none⟩,
     ⟨(some 7), .mv (.c (.int .i64 10)), none⟩]) (
   .ret)) (
   .skip))) (
  .seq (
  .ops [
    ⟨(some 22), .ldN 17 (.t 3), none⟩,
    ⟨(some 23), .ldN 2 (.t 4), none⟩,
    ⟨(some 24), .ldN 2 (.t 5), none⟩,
    ⟨(some 25), .call (.c (.func (.func 58) [] [])) [(.t 22), (.t 23), (.t 24)], none⟩,
    ⟨(some 6), .mv (.t 25), none⟩,
    ⟨(some 7), .mv (.c (.int .i64 0)), none⟩]) (
  .ret)))), [.tmp 6, .tmp 7]⟩
/-- paravane/course.Clear -/
def x22 : XF := ⟨25, .seq (
  .ops [
    ⟨(some 3), .box 41 (.t 0), none⟩,
    ⟨(some 4), .box 23 (.t 1), none⟩,
    ⟨(some 5), .box 23 (.t 2), none⟩,
    ⟨(some 6), .mv (.c (.bool false)), none⟩,
    ⟨(some 7), .mv (.c (.int .i64 0)), none⟩]) (
  .seq (
  .ops [
    ⟨(some 12), .ldN 17 (.t 3), none⟩,
    ⟨(some 13), .ldN 2 (.t 4), none⟩,
    ⟨(some 14), .ldN 2 (.t 5), none⟩,
    ⟨(some 15), .call (.c (.func (.func 56) [] [])) [(.t 12), (.t 13), (.t 14)], none⟩,
    ⟨(some 11), .mv (.t 15), none⟩,
    ⟨(some 16), .ext 0 (.t 11), none⟩,
    ⟨(some 17), .ext 1 (.t 11), none⟩,
    ⟨(some 18), .ext 2 (.t 11), none⟩,
    ⟨(some 9), .new 95 [(.int .i64 0), (.int .i64 0), (.int .i64 0), (.int .i64 0)], none⟩,
    ⟨(some 8), .mv (.t 16), none⟩,
    ⟨none, .st 4 (.t 9) (.t 17), none⟩,
    ⟨(some 10), .mv (.t 18), none⟩]) (
  .seq (
  .seq (
  .ops [
    ⟨(some 19), .mv (.t 10), none⟩,
    ⟨(some 20), .bin .neq (.t 19) (.c (.int .i64 0)), none⟩]) (
  .cond (.t 20) (
   .seq (
   .ops [
     ⟨(some 21), .mv (.t 10), none⟩,
     ⟨(some 6), .mv (.c (.bool false)), none⟩,
     ⟨(some 7), .mv (.t 21), none⟩]) (
   .ret)) (
   .skip))) (
  .seq (
  .ops [
    ⟨(some 22), .mv (.t 8), none⟩,
    ⟨(some 23), .ldN 4 (.t 9), none⟩,
    ⟨(some 24), .call (.c (.func (.func 59) [] [])) [(.t 22), (.t 23)], none⟩,
    ⟨(some 6), .mv (.t 24), none⟩,
    ⟨(some 7), .mv (.c (.int .i64 0)), none⟩]) (
  .ret)))), [.tmp 6, .tmp 7]⟩
/-- paravane/paravaneref04.Clear -/
def x23 : XF := ⟨26, .seq (
  .ops [
    ⟨(some 3), .box 41 (.t 0), none⟩,
    ⟨(some 4), .box 23 (.t 1), none⟩,
    ⟨(some 5), .box 23 (.t 2), none⟩,
    ⟨(some 6), .mv (.c (.bool false)), none⟩,
    ⟨(some 7), .mv (.c (.int .i64 0)), none⟩]) (
  .seq (
  .seq (
  .ops [
    ⟨(some 9), .ldN 17 (.t 3), none⟩,
    ⟨(some 10), .call (.c (.func (.func 19) [] [])) [(.t 9)], none⟩,
    ⟨(some 8), .mv (.t 10), none⟩]) (
  .seq (
  .ops [
    ⟨(some 11), .mv (.t 8), none⟩,
    ⟨(some 12), .bin .neq (.t 11) (.c (.int .i64 0)), none⟩]) (
  .cond (.t 12) (
   .seq (
   .ops [
     ⟨(some 13), .mv (.t 8), none⟩,
     ⟨(some 6), .mv (.c (.bool false)), none⟩,
     ⟨(some 7), .mv (.t 13), none⟩]) (
   .ret)) (
   .skip)))) (
  .seq (
  .seq (
  .ops [
    ⟨(some 14), .ldN 2 (.t 4), none⟩,
    ⟨(some 15), .call (.c (.func (.func 51) [] [])) [(.t 14)], none⟩,
    ⟨(some 16), .un .not (.t 15), none⟩,
    ⟨(some 17), .mv (.t 16), none⟩,
    ⟨(some 18), .ldN 2 (.t 5), some (17, false)⟩,
    ⟨(some 19), .call (.c (.func (.func 51) [] [])) [(.t 18)], some (17, false)⟩,
    ⟨(some 20), .un .not (.t 19), some (17, false)⟩,
    ⟨(some 21), .pick (.t 17) (.c (.bool true)) (.t 20), none⟩]) (
  .cond (.t 21) (
   .seq (
   .ops [
     ⟨(some 6), .mv (.c (.bool false)), none⟩,
     ⟨(some 7), .mv (.c (.int .i64 10)), none⟩]) (
   .ret)) (
   .skip))) (
  .seq (
  .ops [
    ⟨(some 22), .ldN 17 (.t 3), none⟩,
    ⟨(some 23), .ldN 2 (.t 4), none⟩,
    ⟨(some 24), .ldN 2 (.t 5), none⟩,
    ⟨(some 25), .call (.c (.func (.func 60) [] [])) [(.t 22), (.t 23), (.t 24)], none⟩,
    ⟨(some 6), .mv (.t 25), none⟩,
    ⟨(some 7), .mv (.c (.int .i64 0)), none⟩]) (
  .ret)))), [.tmp 6, .tmp 7]⟩
/-- paravane/course.Shot -/
def x27 : XF := ⟨41, .seq (
  .ops [
    ⟨(some 3), .box 41 (.t 0), none⟩,
    ⟨(some 4), .box 52 (.t 1), none⟩,
    ⟨(some 6), .new 34 [(.int .i64 0), (.int .i64 0)], none⟩,
    ⟨(some 7), .mv (.c (.int .i64 0)), none⟩]) (
  .seq (
  .ops [
    ⟨(some 13), .ldN 17 (.t 3), none⟩,
    ⟨(some 14), .call (.c (.func (.func 61) [] [])) [(.t 13)], none⟩,
    ⟨(some 12), .mv (.t 14), none⟩,
    ⟨(some 15), .ext 0 (.t 12), none⟩,
    ⟨(some 16), .ext 1 (.t 12), none⟩,
    ⟨(some 8), .mv (.t 15), none⟩,
    ⟨(some 9), .mv (.t 16), none⟩]) (
  .seq (
  .seq (
  .ops [
    ⟨(some 17), .mv (.t 9), none⟩,
    ⟨(some 18), .bin .neq (.t 17) (.c (.int .i64 0)), none⟩]) (
  .cond (.t 18) (
   .seq (
   .ops [
     ⟨(some 19), .build [(.int .i64 0), (.int .i64 0)] [], none⟩,
     ⟨(some 20), .mv (.t 9), none⟩,
     ⟨none, .st 2 (.t 6) (.t 19), none⟩,
     ⟨(some 7), .mv (.t 20), none⟩]) (
   .ret)) (
   .skip))) (
  .seq (
  .seq (
  .ops [
    ⟨(some 21), .mv (.t 8), none⟩,
    ⟨(some 22), .ldN 2 (.t 4), none⟩,
    ⟨(some 23), .call (.c (.func (.func 66) [] [])) [(.t 21), (.t 22)], none⟩,
    ⟨(some 24), .un .not (.t 23), none⟩]) (
  .cond (.t 24) (
   .seq (
   .ops [
     ⟨(some 25), .build [(.int .i64 0), (.int .i64 0)] [], none⟩,
     ⟨none, .st 2 (.t 6) (.t 25), none⟩,
     ⟨(some 7), .mv (.c (.int .i64 42)), none⟩]) (
   .ret)) (
   .skip))) (
  .seq (
  .seq (
  .ops [
    ⟨(some 26), .mv (.t 2), none⟩,
    ⟨(some 27), .call (.c (.func (.func 43) [] [])) [(.t 26), (.c (.int .i64 0)), (.c (.int .i64 4194304))], none⟩,
    ⟨(some 28), .un .not (.t 27), none⟩]) (
  .cond (.t 28) (
   .seq (
   .ops [
     ⟨(some 29), .build [(.int .i64 0), (.int .i64 0)] [], none⟩,
     ⟨none, .st 2 (.t 6) (.t 29), none⟩,
     ⟨(some 7), .mv (.c (.int .i64 7)), none⟩]) (
   .ret)) (
   .skip))) (
  .seq (
  .ops [
    ⟨(some 31), .mv (.t 8), none⟩,
    ⟨(some 32), .ldN 2 (.t 4), none⟩,
    ⟨(some 33), .mv (.t 2), none⟩,
    ⟨(some 34), .call (.c (.func (.func 67) [] [])) [(.t 31), (.t 32), (.t 33)], none⟩,
    ⟨(some 30), .mv (.t 34), none⟩,
    ⟨(some 35), .ext 0 (.t 30), none⟩,
    ⟨(some 36), .ext 1 (.t 30), none⟩,
    ⟨(some 10), .new 34 [(.int .i64 0), (.int .i64 0)], none⟩,
    ⟨none, .st 2 (.t 10) (.t 35), none⟩,
    ⟨(some 11), .mv (.t 36), none⟩]) (
  .seq (
  .seq (
  .ops [
    ⟨(some 37), .mv (.t 11), none⟩,
    ⟨(some 38), .un .not (.t 37), none⟩]) (
  .cond (.t 38) (
   .seq (
   .ops [
     ⟨(some 39), .build [(.int .i64 0), (.int .i64 0)] [], none⟩,
     ⟨none, .st 2 (.t 6) (.t 39), none⟩,
     ⟨(some 7), .mv (.c (.int .i64 4)), none⟩]) (
   .ret)) (
   .skip))) (
  .seq (
  .ops [
    ⟨(some 40), .ldN 2 (.t 10), none⟩,
    ⟨none, .st 2 (.t 6) (.t 40), none⟩,
    ⟨(some 7), .mv (.c (.int .i64 0)), none⟩]) (
  .ret)))))))), [.cellN 6 2, .tmp 7]⟩
/-- paravane/paravaneref04.Shot -/
def x28 : XF := ⟨37, .seq (
  .ops [
    ⟨(some 3), .box 41 (.t 0), none⟩,
    ⟨(some 4), .box 52 (.t 1), none⟩,
    ⟨(some 6), .new 34 [(.int .i64 0), (.int .i64 0)], none⟩,
    ⟨(some 7), .mv (.c (.int .i64 0)), none⟩]) (
  .seq (
  .seq (
  .ops [
    ⟨(some 11), .ldN 17 (.t 3), none⟩,
    ⟨(some 12), .call (.c (.func (.func 19) [] [])) [(.t 11)], none⟩,
    ⟨(some 8), .mv (.t 12), none⟩]) (
  .seq (
  .ops [
    ⟨(some 13), .mv (.t 8), none⟩,
    ⟨(some 14), .bin .neq (.t 13) (.c (.int .i64 0)), none⟩]) (
  .cond (.t 14) (
   .seq (
   .ops [
     ⟨(some 15), .build [(.int .i64 0), (.int .i64 0)] [], none⟩,
     ⟨(some 16), .mv (.t 8), none⟩,
     ⟨none, .st 2 (.t 6) (.t 15), none⟩,
     ⟨(some 7), .mv (.t 16), none⟩]) (
   .ret)) (
   .skip)))) (
  .seq (
  .seq (
  .ops [
    ⟨(some 17), .ldN 17 (.t 3), none⟩,
    ⟨(some 18), .ldN 2 (.t 4), none⟩,
    ⟨(some 19), .call (.c (.func (.func 68) [] [])) [(.t 17), (.t 18)], none⟩,
    ⟨(some 20), .un .not (.t 19), none⟩]) (
  .cond (.t 20) (
   .seq (
   .ops [
     ⟨(some 21), .build [(.int .i64 0), (.int .i64 0)] [], none⟩,
     ⟨none, .st 2 (.t 6) (.t 21), none⟩,
     ⟨(some 7), .mv (.c (.int .i64 42)), none⟩]) (
   .ret)) (
   .skip))) (
  .seq (
  .seq (
  .ops [
    ⟨(some 22), .mv (.t 2), none⟩,
    ⟨(some 23), .call (.c (.func (.func 40) [] [])) [(.t 22), (.c (.int .i64 0)), (.c (.int .i64 4194304))], none⟩,
    ⟨(some 24), .un .not (.t 23), none⟩]) (
  .cond (.t 24) (
   .seq (
   .ops [
     ⟨(some 25), .build [(.int .i64 0), (.int .i64 0)] [], none⟩,
     ⟨none, .st 2 (.t 6) (.t 25), none⟩,
     ⟨(some 7), .mv (.c (.int .i64 7)), none⟩]) (
   .ret)) (
   .skip))) (
  .seq (
  .ops [
    ⟨(some 27), .ldN 17 (.t 3), none⟩,
    ⟨(some 28), .ldN 2 (.t 4), none⟩,
    ⟨(some 29), .mv (.t 2), none⟩,
    ⟨(some 30), .call (.c (.func (.func 69) [] [])) [(.t 27), (.t 28), (.t 29)], none⟩,
    ⟨(some 26), .mv (.t 30), none⟩,
    ⟨(some 31), .ext 0 (.t 26), none⟩,
    ⟨(some 32), .ext 1 (.t 26), none⟩,
    ⟨(some 9), .new 34 [(.int .i64 0), (.int .i64 0)], none⟩,
    ⟨none, .st 2 (.t 9) (.t 31), none⟩,
    ⟨(some 10), .mv (.t 32), none⟩]) (
  .seq (
  .seq (
  .ops [
    ⟨(some 33), .mv (.t 10), none⟩,
    ⟨(some 34), .un .not (.t 33), none⟩]) (
  .cond (.t 34) (
   .seq (
   .ops [
     ⟨(some 35), .build [(.int .i64 0), (.int .i64 0)] [], none⟩,
     ⟨none, .st 2 (.t 6) (.t 35), none⟩,
     ⟨(some 7), .mv (.c (.int .i64 4)), none⟩]) (
   .ret)) (
   .skip))) (
  .seq (
  .ops [
    ⟨(some 36), .ldN 2 (.t 9), none⟩,
    ⟨none, .st 2 (.t 6) (.t 36), none⟩,
    ⟨(some 7), .mv (.c (.int .i64 0)), none⟩]) (
  .ret))))))), [.cellN 6 2, .tmp 7]⟩
/-- paravane/paravaneref00.Between -/
def x40 : XF := ⟨15, .seq (
  .ops [
    ⟨(some 6), .mv (.c (.bool false)), none⟩]) (
  .seq (
  .ops [
    ⟨(some 7), .mv (.t 0), none⟩,
    ⟨(some 8), .mv (.t 1), none⟩,
    ⟨(some 9), .bin .geq (.t 7) (.t 8), none⟩,
    ⟨(some 10), .mv (.t 9), none⟩,
    ⟨(some 11), .mv (.t 0), some (10, true)⟩,
    ⟨(some 12), .mv (.t 2), some (10, true)⟩,
    ⟨(some 13), .bin .leq (.t 11) (.t 12), some (10, true)⟩,
    ⟨(some 14), .pick (.t 10) (.t 13) (.c (.bool false)), none⟩,
    ⟨(some 6), .mv (.t 14), none⟩]) (
  .ret)), [.tmp 6]⟩
/-- paravane/course.within -/
def x43 : XF := ⟨15, .seq (
  .ops [
    ⟨(some 6), .mv (.c (.bool false)), none⟩]) (
  .seq (
  .ops [
    ⟨(some 7), .mv (.t 0), none⟩,
    ⟨(some 8), .mv (.t 1), none⟩,
    ⟨(some 9), .bin .geq (.t 7) (.t 8), none⟩,
    ⟨(some 10), .mv (.t 9), none⟩,
    ⟨(some 11), .mv (.t 0), some (10, true)⟩,
    ⟨(some 12), .mv (.t 2), some (10, true)⟩,
    ⟨(some 13), .bin .leq (.t 11) (.t 12), some (10, true)⟩,
    ⟨(some 14), .pick (.t 10) (.t 13) (.c (.bool false)), none⟩,
    ⟨(some 6), .mv (.t 14), none⟩]) (
  .ret)), [.tmp 6]⟩
/-- paravane/paravaneref04.octant -/
def x46 : XF := ⟨68, .seq (
  .ops [
    ⟨(some 4), .mv (.c (.int .i64 0)), none⟩]) (
  .block 0 (
   .seq (
   .ops [
     ⟨(some 6), .mv (.t 1), none⟩,
     ⟨(some 7), .bin .geq (.t 6) (.c (.int .i64 0)), none⟩,
     ⟨(some 8), .mv (.t 7), none⟩,
     ⟨(some 9), .mv (.t 0), some (8, true)⟩,
     ⟨(some 10), .mv (.t 1), some (8, true)⟩,
     ⟨(some 11), .bin .sub (.t 9) (.t 10), some (8, true)⟩,
     ⟨(some 12), .bin .geq (.t 11) (.c (.int .i64 0)), some (8, true)⟩,
     ⟨(some 13), .pick (.t 8) (.t 12) (.c (.bool false)), none⟩,
     ⟨(some 5), .mv (.t 13), none⟩]) (
   .cond (.t 5) (
    .seq (
    .ops [
      ⟨(some 4), .mv (.c (.int .i64 0)), none⟩]) (
    .ret)) (
    .seq (
    .ops [
      ⟨(some 15), .mv (.t 0), none⟩,
      ⟨(some 16), .bin .geq (.t 15) (.c (.int .i64 0)), none⟩,
      ⟨(some 17), .mv (.t 16), none⟩,
      ⟨(some 18), .mv (.t 0), some (17, true)⟩,
      ⟨(some 19), .mv (.t 1), some (17, true)⟩,
      ⟨(some 20), .bin .sub (.t 18) (.t 19), some (17, true)⟩,
      ⟨(some 21), .bin .leq (.t 20) (.c (.int .i64 0)), some (17, true)⟩,
      ⟨(some 22), .pick (.t 17) (.t 21) (.c (.bool false)), none⟩,
      ⟨(some 14), .mv (.t 22), none⟩]) (
    .cond (.t 14) (
     .seq (
     .ops [
       ⟨(some 4), .mv (.c (.int .i64 1)), none⟩]) (
     .ret)) (
     .seq (
     .ops [
       ⟨(some 24), .mv (.t 0), none⟩,
       ⟨(some 25), .bin .leq (.t 24) (.c (.int .i64 0)), none⟩,
       ⟨(some 26), .mv (.t 25), none⟩,
       ⟨(some 27), .mv (.t 0), some (26, true)⟩,
       ⟨(some 28), .mv (.t 1), some (26, true)⟩,
       ⟨(some 29), .bin .add (.t 27) (.t 28), some (26, true)⟩,
       ⟨(some 30), .bin .geq (.t 29) (.c (.int .i64 0)), some (26, true)⟩,
       ⟨(some 31), .pick (.t 26) (.t 30) (.c (.bool false)), none⟩,
       ⟨(some 23), .mv (.t 31), none⟩]) (
     .cond (.t 23) (
      .seq (
      .ops [
        ⟨(some 4), .mv (.c (.int .i64 2)), none⟩]) (
      .ret)) (
      .seq (
      .ops [
        ⟨(some 33), .mv (.t 1), none⟩,
        ⟨(some 34), .bin .geq (.t 33) (.c (.int .i64 0)), none⟩,
        ⟨(some 35), .mv (.t 34), none⟩,
        ⟨(some 36), .mv (.t 0), some (35, true)⟩,
        ⟨(some 37), .mv (.t 1), some (35, true)⟩,
        ⟨(some 38), .bin .add (.t 36) (.t 37), some (35, true)⟩,
        ⟨(some 39), .bin .leq (.t 38) (.c (.int .i64 0)), some (35, true)⟩,
        ⟨(some 40), .pick (.t 35) (.t 39) (.c (.bool false)), none⟩,
        ⟨(some 32), .mv (.t 40), none⟩]) (
      .cond (.t 32) (
       .seq (
       .ops [
         ⟨(some 4), .mv (.c (.int .i64 3)), none⟩]) (
       .ret)) (
       .seq (
       .ops [
         ⟨(some 42), .mv (.t 1), none⟩,
         ⟨(some 43), .bin .leq (.t 42) (.c (.int .i64 0)), none⟩,
         ⟨(some 44), .mv (.t 43), none⟩,
         ⟨(some 45), .mv (.t 0), some (44, true)⟩,
         ⟨(some 46), .mv (.t 1), some (44, true)⟩,
         ⟨(some 47), .bin .sub (.t 45) (.t 46), some (44, true)⟩,
         ⟨(some 48), .bin .leq (.t 47) (.c (.int .i64 0)), some (44, true)⟩,
         ⟨(some 49), .pick (.t 44) (.t 48) (.c (.bool false)), none⟩,
         ⟨(some 41), .mv (.t 49), none⟩]) (
       .cond (.t 41) (
        .seq (
        .ops [
          ⟨(some 4), .mv (.c (.int .i64 4)), none⟩]) (
        .ret)) (
        .seq (
        .ops [
          ⟨(some 51), .mv (.t 0), none⟩,
          ⟨(some 52), .bin .leq (.t 51) (.c (.int .i64 0)), none⟩,
          ⟨(some 53), .mv (.t 52), none⟩,
          ⟨(some 54), .mv (.t 0), some (53, true)⟩,
          ⟨(some 55), .mv (.t 1), some (53, true)⟩,
          ⟨(some 56), .bin .sub (.t 54) (.t 55), some (53, true)⟩,
          ⟨(some 57), .bin .geq (.t 56) (.c (.int .i64 0)), some (53, true)⟩,
          ⟨(some 58), .pick (.t 53) (.t 57) (.c (.bool false)), none⟩,
          ⟨(some 50), .mv (.t 58), none⟩]) (
        .cond (.t 50) (
         .seq (
         .ops [
           ⟨(some 4), .mv (.c (.int .i64 5)), none⟩]) (
         .ret)) (
         .seq (
         .ops [
           ⟨(some 60), .mv (.t 0), none⟩,
           ⟨(some 61), .bin .geq (.t 60) (.c (.int .i64 0)), none⟩,
           ⟨(some 62), .mv (.t 61), none⟩,
           ⟨(some 63), .mv (.t 0), some (62, true)⟩,
           ⟨(some 64), .mv (.t 1), some (62, true)⟩,
           ⟨(some 65), .bin .add (.t 63) (.t 64), some (62, true)⟩,
           ⟨(some 66), .bin .leq (.t 65) (.c (.int .i64 0)), some (62, true)⟩,
           ⟨(some 67), .pick (.t 62) (.t 66) (.c (.bool false)), none⟩,
           ⟨(some 59), .mv (.t 67), none⟩]) (
         .cond (.t 59) (
          .seq (
          .ops [
            ⟨(some 4), .mv (.c (.int .i64 6)), none⟩]) (
          .ret)) (
          .seq (
          .ops [
            ⟨(some 4), .mv (.c (.int .i64 7)), none⟩]) (
          .ret))))))))))))))))), [.tmp 4]⟩
/-- paravane/course.cruise -/
def x49 : XF := ⟨121, .seq (
  .ops [
    ⟨(some 1), .box 41 (.t 0), none⟩,
    ⟨(some 2), .mv (.c (.bool false)), none⟩]) (
  .seq (
  .seq (
  .ops [
    ⟨(some 7), .fad 0 (.t 1), none⟩,
    ⟨(some 8), .ld1 (.t 7), none⟩,
    ⟨(some 9), .len .sl (.t 8), none⟩,
    ⟨(some 10), .call (.c (.func (.func 43) [] [])) [(.t 9), (.c (.int .i64 1)), (.c (.int .i64 5))], none⟩,
    ⟨(some 11), .un .not (.t 10), none⟩,
    ⟨(some 12), .mv (.t 11), none⟩,
    ⟨(some 13), .fad 1 (.t 1), some (12, false)⟩,
    ⟨(some 14), .ld1 (.t 13), some (12, false)⟩,
    ⟨(some 15), .len .sl (.t 14), some (12, false)⟩,
    ⟨(some 16), .bin .gtr (.t 15) (.c (.int .i64 4)), some (12, false)⟩,
    ⟨(some 17), .pick (.t 12) (.c (.bool true)) (.t 16), none⟩,
    ⟨(some 18), .mv (.t 17), none⟩,
    ⟨(some 19), .fad 2 (.t 1), some (18, false)⟩,
    ⟨(some 20), .ld1 (.t 19), some (18, false)⟩,
    ⟨(some 21), .len .sl (.t 20), some (18, false)⟩,
    ⟨(some 22), .bin .gtr (.t 21) (.c (.int .i64 4)), some (18, false)⟩,
    ⟨(some 23), .pick (.t 18) (.c (.bool true)) (.t 22), none⟩,
    ⟨(some 24), .mv (.t 23), none⟩,
    ⟨(some 25), .fad 16 (.t 1), some (24, false)⟩,
    ⟨(some 26), .ld1 (.t 25), some (24, false)⟩,
    ⟨(some 27), .len .sl (.t 26), some (24, false)⟩,
    ⟨(some 28), .fad 0 (.t 1), some (24, false)⟩,
    ⟨(some 29), .ld1 (.t 28), some (24, false)⟩,
    ⟨(some 30), .len .sl (.t 29), some (24, false)⟩,
    ⟨(some 31), .bin .neq (.t 27) (.t 30), some (24, false)⟩,
    ⟨(some 32), .pick (.t 24) (.c (.bool true)) (.t 31), none⟩]) (
  .cond (.t 32) (
   .seq (
   .ops [
     ⟨(some 2), .mv (.c (.bool false)), none⟩]) (
   .ret)) (
   .skip))) (
  .seq (
  .seq (
  .ops [
    ⟨(some 33), .fad 0 (.t 1), none⟩,
    ⟨(some 34), .ld1 (.t 33), none⟩,
    ⟨(some 35), .len .sl (.t 34), none⟩,
    ⟨(some 36), .mv (.c (.int .i64 0)), none⟩]) (
  .block 0 (
   .loop (
    .seq (
    .ops [
      ⟨(some 37), .bin .lss (.t 36) (.t 35), none⟩]) (
    .seq (
    .cond (.t 37) (
     .skip) (
     .exit 0)) (
    .seq (
    .block 1 (
     .seq (
     .ops [
       ⟨(some 38), .mv (.t 36), none⟩,
       ⟨(some 39), .iad none 4 (.t 34) (.t 36), none⟩,
       ⟨(some 40), .ldN 4 (.t 39), none⟩,
       ⟨(some 4), .new 86 [(.int .i64 0), (.int .i64 0), (.int .i64 0), (.int .i64 0)], none⟩,
       ⟨(some 3), .mv (.t 38), none⟩,
       ⟨none, .st 4 (.t 4) (.t 40), none⟩]) (
     .seq (
     .ops [
       ⟨(some 41), .fad 0 (.t 4), none⟩,
       ⟨(some 42), .ldN 2 (.t 41), none⟩,
       ⟨(some 43), .call (.c (.func (.func 93) [] [])) [(.t 42)], none⟩,
       ⟨(some 44), .bin .neq (.t 43) (.c (.int .i64 0)), none⟩,
       ⟨(some 45), .mv (.t 44), none⟩,
       ⟨(some 46), .fad 2 (.t 4), some (45, false)⟩,
       ⟨(some 47), .ldN 2 (.t 46), some (45, false)⟩,
       ⟨(some 48), .call (.c (.func (.func 93) [] [])) [(.t 47)], some (45, false)⟩,
       ⟨(some 49), .bin .neq (.t 48) (.c (.int .i64 0)), some (45, false)⟩,
       ⟨(some 50), .pick (.t 45) (.c (.bool true)) (.t 49), none⟩,
       ⟨(some 51), .mv (.t 50), none⟩,
       ⟨(some 52), .fad 0 (.t 4), some (51, false)⟩,
       ⟨(some 53), .ldN 2 (.t 52), some (51, false)⟩,
       ⟨(some 54), .fad 2 (.t 4), some (51, false)⟩,
       ⟨(some 55), .ldN 2 (.t 54), some (51, false)⟩,
       ⟨(some 56), .eqs false 2 [0, 1] (.t 53) (.t 55), some (51, false)⟩,
       ⟨(some 57), .pick (.t 51) (.c (.bool true)) (.t 56), none⟩,
       ⟨(some 58), .mv (.t 57), none⟩,
       ⟨(some 59), .fad 16 (.t 1), some (58, false)⟩,
       ⟨(some 60), .ld1 (.t 59), some (58, false)⟩,
       ⟨(some 61), .mv (.t 3), some (58, false)⟩,
       ⟨(some 62), .iad none 1 (.t 60) (.t 61), some (58, false)⟩,
       ⟨(some 63), .ld1 (.t 62), some (58, false)⟩,
       ⟨(some 64), .call (.c (.func (.func 94) [] [])) [(.t 63)], some (58, false)⟩,
       ⟨(some 65), .un .not (.t 64), some (58, false)⟩,
       ⟨(some 66), .pick (.t 58) (.c (.bool true)) (.t 65), none⟩]) (
     .cond (.t 66) (
      .seq (
      .ops [
        ⟨(some 2), .mv (.c (.bool false)), none⟩]) (
      .ret)) (
      .skip))))) (
    .ops [
      ⟨(some 67), .bin .add (.t 36) (.c (.int .i64 1)), none⟩,
      ⟨(some 36), .mv (.t 67), none⟩]))))))) (
  .seq (
  .seq (
  .ops [
    ⟨(some 68), .fad 1 (.t 1), none⟩,
    ⟨(some 69), .ld1 (.t 68), none⟩,
    ⟨(some 70), .call (.c (.func (.func 95) [] [])) [(.t 69), (.c (.func (.func 96) [] []))], none⟩,
    ⟨(some 71), .mv (.t 70), none⟩,
    ⟨(some 72), .fad 2 (.t 1), some (71, false)⟩,
    ⟨(some 73), .ld1 (.t 72), some (71, false)⟩,
    ⟨(some 74), .call (.c (.func (.func 98) [] [])) [(.t 73), (.c (.func (.func 99) [] []))], some (71, false)⟩,
    ⟨(some 75), .pick (.t 71) (.c (.bool true)) (.t 74), none⟩]) (
  .cond (.t 75) (
   .seq (
   .ops [
     ⟨(some 2), .mv (.c (.bool false)), none⟩]) (
   .ret)) (
   .skip))) (
  .seq (
  .seq (
  .ops [
    ⟨(some 77), .fad 3 (.t 1), none⟩,
    ⟨(some 78), .ldN 8 (.t 77), none⟩,
    ⟨(some 79), .call (.c (.func (.func 100) [] [])) [(.t 78)], none⟩,
    ⟨(some 76), .mv (.t 79), none⟩,
    ⟨(some 80), .ext 0 (.t 76), none⟩,
    ⟨(some 81), .ext 1 (.t 76), none⟩,
    ⟨(some 5), .new 36 [(.int .i64 0), (.int .i64 0), (.int .i64 0), (.int .i64 0), (.int .i64 0), (.int .i64 0), (.int .i64 0), (.int .i64 0)], none⟩,
    ⟨none, .st 8 (.t 5) (.t 80), none⟩,
    ⟨(some 6), .mv (.t 81), none⟩]) (
  .seq (
  .ops [
    ⟨(some 82), .mv (.t 6), none⟩,
    ⟨(some 83), .bin .neq (.t 82) (.c (.int .i64 0)), none⟩,
    ⟨(some 84), .mv (.t 83), none⟩,
    ⟨(some 85), .fad 3 (.t 1), some (84, false)⟩,
    ⟨(some 86), .fad 0 (.t 85), some (84, false)⟩,
    ⟨(some 87), .fad 1 (.t 86), some (84, false)⟩,
    ⟨(some 88), .ld1 (.t 87), some (84, false)⟩,
    ⟨(some 89), .fad 3 (.t 1), some (84, false)⟩,
    ⟨(some 90), .fad 0 (.t 89), some (84, false)⟩,
    ⟨(some 91), .fad 0 (.t 90), some (84, false)⟩,
    ⟨(some 92), .ld1 (.t 91), some (84, false)⟩,
    ⟨(some 93), .bin .sub (.t 88) (.t 92), some (84, false)⟩,
    ⟨(some 94), .bin .gtr (.t 93) (.c (.int .i64 256)), some (84, false)⟩,
    ⟨(some 95), .pick (.t 84) (.c (.bool true)) (.t 94), none⟩,
    ⟨(some 96), .mv (.t 95), none⟩,
    ⟨(some 97), .fad 3 (.t 1), some (96, false)⟩,
    ⟨(some 98), .fad 2 (.t 97), some (96, false)⟩,
    ⟨(some 99), .fad 1 (.t 98), some (96, false)⟩,
    ⟨(some 100), .ld1 (.t 99), some (96, false)⟩,
    ⟨(some 101), .fad 3 (.t 1), some (96, false)⟩,
    ⟨(some 102), .fad 2 (.t 101), some (96, false)⟩,
    ⟨(some 103), .fad 0 (.t 102), some (96, false)⟩,
    ⟨(some 104), .ld1 (.t 103), some (96, false)⟩,
    ⟨(some 105), .bin .sub (.t 100) (.t 104), some (96, false)⟩,
    ⟨(some 106), .bin .gtr (.t 105) (.c (.int .i64 256)), some (96, false)⟩,
    ⟨(some 107), .pick (.t 96) (.c (.bool true)) (.t 106), none⟩]) (
  .cond (.t 107) (
   .seq (
   .ops [
     ⟨(some 2), .mv (.c (.bool false)), none⟩]) (
   .ret)) (
   .skip)))) (
  .seq (
  .ops [
    ⟨(some 108), .fad 11 (.t 1), none⟩,
    ⟨(some 109), .ldN 3 (.t 108), none⟩,
    ⟨(some 110), .call (.c (.func (.func 62) [] [])) [(.t 109)], none⟩,
    ⟨(some 111), .mv (.t 110), none⟩,
    ⟨(some 112), .fad 14 (.t 1), some (111, true)⟩,
    ⟨(some 113), .ld1 (.t 112), some (111, true)⟩,
    ⟨(some 114), .call (.c (.func (.func 43) [] [])) [(.t 113), (.c (.int .i64 1)), (.c (.int .i64 1000))], some (111, true)⟩,
    ⟨(some 115), .pick (.t 111) (.t 114) (.c (.bool false)), none⟩,
    ⟨(some 116), .mv (.t 115), none⟩,
    ⟨(some 117), .fad 15 (.t 1), some (116, true)⟩,
    ⟨(some 118), .ld1 (.t 117), some (116, true)⟩,
    ⟨(some 119), .call (.c (.func (.func 43) [] [])) [(.t 118), (.c (.int .i64 0)), (.c (.int .i64 1000))], some (116, true)⟩,
    ⟨(some 120), .pick (.t 116) (.t 119) (.c (.bool false)), none⟩,
    ⟨(some 2), .mv (.t 120), none⟩]) (
  .ret)))))), [.tmp 2]⟩
/-- paravane/paravaneref04.pose -/
def x50 : XF := ⟨11, .seq (
  .ops [
    ⟨(some 1), .box 38 (.t 0), none⟩,
    ⟨(some 2), .mv (.c (.bool false)), none⟩]) (
  .seq (
  .ops [
    ⟨(some 3), .fad 0 (.t 1), none⟩,
    ⟨(some 4), .ldN 2 (.t 3), none⟩,
    ⟨(some 5), .call (.c (.func (.func 51) [] [])) [(.t 4)], none⟩,
    ⟨(some 6), .mv (.t 5), none⟩,
    ⟨(some 7), .fad 2 (.t 1), some (6, true)⟩,
    ⟨(some 8), .ld1 (.t 7), some (6, true)⟩,
    ⟨(some 9), .call (.c (.func (.func 40) [] [])) [(.t 8), (.c (.int .i64 0)), (.c (.int .i64 7))], some (6, true)⟩,
    ⟨(some 10), .pick (.t 6) (.t 9) (.c (.bool false)), none⟩,
    ⟨(some 2), .mv (.t 10), none⟩]) (
  .ret)), [.tmp 2]⟩
/-- paravane/paravaneref04.place -/
def x51 : XF := ⟨6, .seq (
  .ops [
    ⟨(some 1), .box 23 (.t 0), none⟩,
    ⟨(some 2), .mv (.c (.bool false)), none⟩]) (
  .seq (
  .ops [
    ⟨(some 3), .ldN 2 (.t 1), none⟩,
    ⟨(some 4), .call (.c (.func (.func 101) [] [])) [(.t 3)], none⟩,
    ⟨(some 5), .bin .eql (.t 4) (.c (.int .i64 0)), none⟩,
    ⟨(some 2), .mv (.t 5), none⟩]) (
  .ret)), [.tmp 2]⟩
/-- paravane/paravaneref04.windows -/
def x52 : XF := ⟨63, .seq (
  .ops [
    ⟨(some 2), .mv (.c (.bool false)), none⟩]) (
  .seq (
  .ops [
    ⟨(some 5), .mv (.t 0), none⟩,
    ⟨(some 6), .len .sl (.t 5), none⟩,
    ⟨(some 7), .bin .leq (.t 6) (.c (.int .i64 4)), none⟩,
    ⟨(some 3), .mv (.t 7), none⟩]) (
  .seq (
  .seq (
  .ops [
    ⟨(some 4), .mv (.c (.int .i64 0)), none⟩]) (
  .block 0 (
   .loop (
    .seq (
    .seq (
    .ops [
      ⟨(some 8), .mv (.t 4), none⟩,
      ⟨(some 9), .mv (.t 0), none⟩,
      ⟨(some 10), .len .sl (.t 9), none⟩,
      ⟨(some 11), .bin .lss (.t 8) (.t 10), none⟩]) (
    .cond (.t 11) (
     .skip) (
     .exit 0))) (
    .seq (
    .block 1 (
     .draw [
       (⟨(some 14), .mv (.t 3), none⟩, .calm),
       (⟨(some 15), .mv (.t 14), none⟩, .calm),
       (⟨(some 16), .mv (.t 0), some (15, true)⟩, .calm),
       (⟨(some 17), .mv (.t 4), some (15, true)⟩, .calm),
       (⟨(some 18), .iad none 2 (.t 16) (.t 17), some (15, true)⟩, .calm),
       (⟨(some 19), .fad 0 (.t 18), some (15, true)⟩, .calm),
       (⟨(some 20), .ld1 (.t 19), some (15, true)⟩, .reads 0 0),
       (⟨(some 21), .bin .geq (.t 20) (.c (.int .i64 0)), some (15, true)⟩, .calm),
       (⟨(some 22), .pick (.t 15) (.t 21) (.c (.bool false)), none⟩, .calm),
       (⟨(some 23), .mv (.t 22), none⟩, .calm),
       (⟨(some 24), .mv (.t 0), some (23, true)⟩, .calm),
       (⟨(some 25), .mv (.t 4), some (23, true)⟩, .calm),
       (⟨(some 26), .iad none 2 (.t 24) (.t 25), some (23, true)⟩, .calm),
       (⟨(some 27), .fad 0 (.t 26), some (23, true)⟩, .calm),
       (⟨(some 28), .ld1 (.t 27), some (23, true)⟩, .reads 0 0),
       (⟨(some 29), .mv (.t 0), some (23, true)⟩, .calm),
       (⟨(some 30), .mv (.t 4), some (23, true)⟩, .calm),
       (⟨(some 31), .iad none 2 (.t 29) (.t 30), some (23, true)⟩, .calm),
       (⟨(some 32), .fad 1 (.t 31), some (23, true)⟩, .calm),
       (⟨(some 33), .ld1 (.t 32), some (23, true)⟩, .reads 0 0),
       (⟨(some 34), .bin .leq (.t 28) (.t 33), some (23, true)⟩, .calm),
       (⟨(some 35), .pick (.t 23) (.t 34) (.c (.bool false)), none⟩, .calm),
       (⟨(some 36), .mv (.t 35), none⟩, .calm),
       (⟨(some 37), .mv (.t 0), some (36, true)⟩, .calm),
       (⟨(some 38), .mv (.t 4), some (36, true)⟩, .calm),
       (⟨(some 39), .iad none 2 (.t 37) (.t 38), some (36, true)⟩, .calm),
       (⟨(some 40), .fad 1 (.t 39), some (36, true)⟩, .calm),
       (⟨(some 41), .ld1 (.t 40), some (36, true)⟩, .reads 0 0),
       (⟨(some 42), .bin .leq (.t 41) (.c (.int .i64 1048576)), some (36, true)⟩, .calm),
       (⟨(some 43), .pick (.t 36) (.t 42) (.c (.bool false)), none⟩, .calm),
       (⟨(some 44), .mv (.t 43), none⟩, .calm),
       (⟨(some 45), .mv (.t 4), some (44, true)⟩, .calm),
       (⟨(some 46), .bin .eql (.t 45) (.c (.int .i64 0)), some (44, true)⟩, .calm),
       (⟨(some 47), .mv (.t 46), some (44, true)⟩, .calm),
       (⟨(some 48), .mv (.t 0), some (47, false)⟩, .calm),
       (⟨(some 49), .mv (.t 4), some (47, false)⟩, .calm),
       (⟨(some 50), .bin .sub (.t 49) (.c (.int .i64 1)), some (47, false)⟩, .calm),
       (⟨(some 51), .iad none 2 (.t 48) (.t 50), some (47, false)⟩, .calm),
       (⟨(some 52), .fad 1 (.t 51), some (47, false)⟩, .calm),
       (⟨(some 53), .ld1 (.t 52), some (47, false)⟩, .reads 0 0),
       (⟨(some 54), .mv (.t 0), some (47, false)⟩, .calm),
       (⟨(some 55), .mv (.t 4), some (47, false)⟩, .calm),
       (⟨(some 56), .iad none 2 (.t 54) (.t 55), some (47, false)⟩, .calm),
       (⟨(some 57), .fad 0 (.t 56), some (47, false)⟩, .calm),
       (⟨(some 58), .ld1 (.t 57), some (47, false)⟩, .reads 0 0),
       (⟨(some 59), .bin .lss (.t 53) (.t 58), some (47, false)⟩, .calm),
       (⟨(some 60), .pick (.t 47) (.c (.bool true)) (.t 59), some (44, true)⟩, .calm),
       (⟨(some 61), .pick (.t 44) (.t 60) (.c (.bool false)), none⟩, .calm),
       (⟨(some 3), .mv (.t 61), none⟩, .calm)])) (
    .ops [
      ⟨(some 12), .mv (.t 4), none⟩,
      ⟨(some 13), .bin .add (.t 12) (.c (.int .i64 1)), none⟩,
      ⟨(some 4), .mv (.t 13), none⟩])))))) (
  .seq (
  .ops [
    ⟨(some 62), .mv (.t 3), none⟩,
    ⟨(some 2), .mv (.t 62), none⟩]) (
  .ret)))), [.tmp 2]⟩
/-- paravane/paravaneref01.CheckField -/
def x53 : XF := ⟨64, .seq (
  .ops [
    ⟨(some 2), .mv (.c (.int .i64 0)), none⟩]) (
  .seq (
  .seq (
  .ops [
    ⟨(some 7), .mv (.t 0), none⟩,
    ⟨(some 8), .len .sl (.t 7), none⟩,
    ⟨(some 9), .call (.c (.func (.func 40) [] [])) [(.t 8), (.c (.int .i64 3)), (.c (.int .i64 8))], none⟩,
    ⟨(some 10), .un .not (.t 9), none⟩]) (
  .cond (.t 10) (
   .seq (
   .ops [
     ⟨(some 2), .mv (.c (.int .i64 12)), none⟩]) (
   .ret)) (
   .skip))) (
  .seq (
  .seq (
  .ops [
    ⟨(some 3), .mv (.c (.int .i64 0)), none⟩]) (
  .block 0 (
   .loop (
    .seq (
    .seq (
    .ops [
      ⟨(some 11), .mv (.t 3), none⟩,
      ⟨(some 12), .mv (.t 0), none⟩,
      ⟨(some 13), .len .sl (.t 12), none⟩,
      ⟨(some 14), .bin .lss (.t 11) (.t 13), none⟩]) (
    .cond (.t 14) (
     .skip) (
     .exit 0))) (
    .seq (
    .block 1 (
     .seq (
     .ops [
       ⟨(some 17), .mv (.t 0), none⟩,
       ⟨(some 18), .mv (.t 3), none⟩,
       ⟨(some 19), .iad none 2 (.t 17) (.t 18), none⟩,
       ⟨(some 20), .ldN 2 (.t 19), none⟩,
       ⟨(some 21), .call (.c (.func (.func 102) [] [])) [(.t 20)], none⟩,
       ⟨(some 22), .un .not (.t 21), none⟩]) (
     .cond (.t 22) (
      .seq (
      .ops [
        ⟨(some 2), .mv (.c (.int .i64 12)), none⟩]) (
      .ret)) (
      .skip)))) (
    .ops [
      ⟨(some 15), .mv (.t 3), none⟩,
      ⟨(some 16), .bin .add (.t 15) (.c (.int .i64 1)), none⟩,
      ⟨(some 3), .mv (.t 16), none⟩])))))) (
  .seq (
  .seq (
  .ops [
    ⟨(some 4), .mv (.c (.int .i64 0)), none⟩]) (
  .block 2 (
   .loop (
    .seq (
    .seq (
    .ops [
      ⟨(some 23), .mv (.t 4), none⟩,
      ⟨(some 24), .mv (.t 0), none⟩,
      ⟨(some 25), .len .sl (.t 24), none⟩,
      ⟨(some 26), .bin .lss (.t 23) (.t 25), none⟩]) (
    .cond (.t 26) (
     .skip) (
     .exit 2))) (
    .seq (
    .block 3 (
     .seq (
     .ops [
       ⟨(some 29), .mv (.t 4), none⟩,
       ⟨(some 30), .bin .add (.t 29) (.c (.int .i64 1)), none⟩,
       ⟨(some 31), .mv (.t 0), none⟩,
       ⟨(some 32), .len .sl (.t 31), none⟩,
       ⟨(some 33), .bin .rem (.t 30) (.t 32), none⟩,
       ⟨(some 5), .mv (.t 33), none⟩]) (
     .seq (
     .ops [
       ⟨(some 6), .mv (.c (.int .i64 0)), none⟩]) (
     .block 4 (
      .loop (
       .seq (
       .seq (
       .ops [
         ⟨(some 34), .mv (.t 6), none⟩,
         ⟨(some 35), .mv (.t 0), none⟩,
         ⟨(some 36), .len .sl (.t 35), none⟩,
         ⟨(some 37), .bin .lss (.t 34) (.t 36), none⟩]) (
       .cond (.t 37) (
        .skip) (
        .exit 4))) (
       .seq (
       .block 5 (
        .seq (
        .draw [
          (⟨(some 40), .mv (.t 6), none⟩, .calm),
          (⟨(some 41), .mv (.t 4), none⟩, .calm),
          (⟨(some 42), .bin .neq (.t 40) (.t 41), none⟩, .calm),
          (⟨(some 43), .mv (.t 42), none⟩, .calm),
          (⟨(some 44), .mv (.t 6), some (43, true)⟩, .calm),
          (⟨(some 45), .mv (.t 5), some (43, true)⟩, .calm),
          (⟨(some 46), .bin .neq (.t 44) (.t 45), some (43, true)⟩, .calm),
          (⟨(some 47), .pick (.t 43) (.t 46) (.c (.bool false)), none⟩, .calm),
          (⟨(some 48), .mv (.t 47), none⟩, .calm),
          (⟨(some 49), .mv (.t 0), some (48, true)⟩, .calm),
          (⟨(some 50), .mv (.t 4), some (48, true)⟩, .calm),
          (⟨(some 51), .iad none 2 (.t 49) (.t 50), some (48, true)⟩, .calm),
          (⟨(some 52), .ldN 2 (.t 51), some (48, true)⟩, .reads 0 0),
          (⟨(some 53), .mv (.t 0), some (48, true)⟩, .calm),
          (⟨(some 54), .mv (.t 5), some (48, true)⟩, .calm),
          (⟨(some 55), .iad none 2 (.t 53) (.t 54), some (48, true)⟩, .calm),
          (⟨(some 56), .ldN 2 (.t 55), some (48, true)⟩, .reads 0 0),
          (⟨(some 57), .mv (.t 0), some (48, true)⟩, .calm),
          (⟨(some 58), .mv (.t 6), some (48, true)⟩, .calm),
          (⟨(some 59), .iad none 2 (.t 57) (.t 58), some (48, true)⟩, .calm),
          (⟨(some 60), .ldN 2 (.t 59), some (48, true)⟩, .reads 0 0),
          (⟨(some 61), .call (.c (.func (.func 103) [] [])) [(.t 52), (.t 56), (.t 60)], some (48, true)⟩, .anchor),
          (⟨(some 62), .bin .leq (.t 61) (.c (.int .i64 0)), some (48, true)⟩, .calm),
          (⟨(some 63), .pick (.t 48) (.t 62) (.c (.bool false)), none⟩, .calm)]) (
        .cond (.t 63) (
         .seq (
         .ops [
           ⟨(some 2), .mv (.c (.int .i64 12)), none⟩]) (
         .ret)) (
         .skip)))) (
       .ops [
         ⟨(some 38), .mv (.t 6), none⟩,
         ⟨(some 39), .bin .add (.t 38) (.c (.int .i64 1)), none⟩,
         ⟨(some 6), .mv (.t 39), none⟩])))))))) (
    .ops [
      ⟨(some 27), .mv (.t 4), none⟩,
      ⟨(some 28), .bin .add (.t 27) (.c (.int .i64 1)), none⟩,
      ⟨(some 4), .mv (.t 28), none⟩])))))) (
  .seq (
  .ops [
    ⟨(some 2), .mv (.c (.int .i64 0)), none⟩]) (
  .ret))))), [.tmp 2]⟩
/-- paravane/paravaneref01.Check -/
def x54 : XF := ⟨25, .seq (
  .ops [
    ⟨(some 1), .box 36 (.t 0), none⟩,
    ⟨(some 2), .mv (.c (.int .i64 0)), none⟩]) (
  .seq (
  .seq (
  .ops [
    ⟨(some 3), .fad 0 (.t 1), none⟩,
    ⟨(some 4), .ldN 2 (.t 3), none⟩,
    ⟨(some 5), .call (.c (.func (.func 104) [] [])) [(.t 4), (.c (.int .i64 32768))], none⟩,
    ⟨(some 6), .un .not (.t 5), none⟩,
    ⟨(some 7), .mv (.t 6), none⟩,
    ⟨(some 8), .fad 2 (.t 1), some (7, false)⟩,
    ⟨(some 9), .ldN 2 (.t 8), some (7, false)⟩,
    ⟨(some 10), .call (.c (.func (.func 104) [] [])) [(.t 9), (.c (.int .i64 32768))], some (7, false)⟩,
    ⟨(some 11), .un .not (.t 10), some (7, false)⟩,
    ⟨(some 12), .pick (.t 7) (.c (.bool true)) (.t 11), none⟩,
    ⟨(some 13), .mv (.t 12), none⟩,
    ⟨(some 14), .fad 4 (.t 1), some (13, false)⟩,
    ⟨(some 15), .ldN 2 (.t 14), some (13, false)⟩,
    ⟨(some 16), .call (.c (.func (.func 104) [] [])) [(.t 15), (.c (.int .i64 65536))], some (13, false)⟩,
    ⟨(some 17), .un .not (.t 16), some (13, false)⟩,
    ⟨(some 18), .pick (.t 13) (.c (.bool true)) (.t 17), none⟩,
    ⟨(some 19), .mv (.t 18), none⟩,
    ⟨(some 20), .fad 6 (.t 1), some (19, false)⟩,
    ⟨(some 21), .ldN 2 (.t 20), some (19, false)⟩,
    ⟨(some 22), .call (.c (.func (.func 104) [] [])) [(.t 21), (.c (.int .i64 65536))], some (19, false)⟩,
    ⟨(some 23), .un .not (.t 22), some (19, false)⟩,
    ⟨(some 24), .pick (.t 19) (.c (.bool true)) (.t 23), none⟩]) (
  .cond (.t 24) (
   .seq (
   .ops [
     ⟨(some 2), .mv (.c (.int .i64 11)), none⟩]) (
   .ret)) (
   .skip))) (
  .seq (
  .ops [
    ⟨(some 2), .mv (.c (.int .i64 0)), none⟩]) (
  .ret))), [.tmp 2]⟩
/-- paravane/paravaneref01.Tight -/
def x55 : XF := ⟨16, .seq (
  .ops [
    ⟨(some 1), .box 36 (.t 0), none⟩,
    ⟨(some 2), .new 36 [(.int .i64 0), (.int .i64 0), (.int .i64 0), (.int .i64 0), (.int .i64 0), (.int .i64 0), (.int .i64 0), (.int .i64 0)], none⟩,
    ⟨(some 3), .mv (.c (.int .i64 0)), none⟩]) (
  .seq (
  .seq (
  .ops [
    ⟨(some 5), .ldN 8 (.t 1), none⟩,
    ⟨(some 6), .call (.c (.func (.func 54) [] [])) [(.t 5)], none⟩,
    ⟨(some 4), .mv (.t 6), none⟩]) (
  .seq (
  .ops [
    ⟨(some 7), .mv (.t 4), none⟩,
    ⟨(some 8), .bin .neq (.t 7) (.c (.int .i64 0)), none⟩]) (
  .cond (.t 8) (
   .seq (
   .ops [
     ⟨(some 9), .build [(.int .i64 0), (.int .i64 0), (.int .i64 0), (.int .i64 0), (.int .i64 0), (.int .i64 0), (.int .i64 0), (.int .i64 0)] [], none⟩,
     ⟨(some 10), .mv (.t 4), none⟩,
     ⟨none, .st 8 (.t 2) (.t 9), none⟩,
     ⟨(some 3), .mv (.t 10), none⟩]) (
   .ret)) (
   .skip)))) (
  .seq (
  .ops [
    ⟨(some 11), .ldN 8 (.t 1), none⟩,
    ⟨(some 12), .bsl 36 8 1 [(.int .i64 0), (.int .i64 0), (.int .i64 0), (.int .i64 0), (.int .i64 0), (.int .i64 0), (.int .i64 0), (.int .i64 0)] [(0, 8, (.t 11))], none⟩,
    ⟨(some 13), .call (.c (.func (.func 105) [] [])) [(.t 12)], none⟩,
    ⟨(some 14), .ext 0 (.t 13), none⟩,
    ⟨(some 15), .ext 1 (.t 13), none⟩,
    ⟨none, .st 8 (.t 2) (.t 14), none⟩,
    ⟨(some 3), .mv (.t 15), none⟩]) (
  .ret))), [.cellN 2 8, .tmp 3]⟩
/-- paravane/course.asked -/
def x56 : XF := ⟨33, .seq (
  .ops [
    ⟨(some 3), .box 41 (.t 0), none⟩,
    ⟨(some 4), .box 23 (.t 1), none⟩,
    ⟨(some 5), .box 23 (.t 2), none⟩,
    ⟨(some 6), .mv (.c (.ptr none)), none⟩,
    ⟨(some 7), .new 95 [(.int .i64 0), (.int .i64 0), (.int .i64 0), (.int .i64 0)], none⟩,
    ⟨(some 8), .mv (.c (.int .i64 0)), none⟩]) (
  .seq (
  .ops [
    ⟨(some 12), .ldN 17 (.t 3), none⟩,
    ⟨(some 13), .call (.c (.func (.func 61) [] [])) [(.t 12)], none⟩,
    ⟨(some 11), .mv (.t 13), none⟩,
    ⟨(some 14), .ext 0 (.t 11), none⟩,
    ⟨(some 15), .ext 1 (.t 11), none⟩,
    ⟨(some 9), .mv (.t 14), none⟩,
    ⟨(some 10), .mv (.t 15), none⟩]) (
  .seq (
  .seq (
  .ops [
    ⟨(some 16), .mv (.t 10), none⟩,
    ⟨(some 17), .bin .neq (.t 16) (.c (.int .i64 0)), none⟩]) (
  .cond (.t 17) (
   .seq (
   .ops [
     ⟨(some 18), .build [(.int .i64 0), (.int .i64 0), (.int .i64 0), (.int .i64 0)] [], none⟩,
     ⟨(some 19), .mv (.t 10), none⟩,
     ⟨(some 6), .mv (.c (.ptr none)), none⟩,
     ⟨none, .st 4 (.t 7) (.t 18), none⟩,
     ⟨(some 8), .mv (.t 19), none⟩]) (
   .ret)) (
   .skip))) (
  .seq (
  .seq (
  .ops [
    ⟨(some 20), .ldN 2 (.t 4), none⟩,
    ⟨(some 21), .call (.c (.func (.func 93) [] [])) [(.t 20)], none⟩,
    ⟨(some 22), .bin .neq (.t 21) (.c (.int .i64 0)), none⟩,
    ⟨(some 23), .mv (.t 22), none⟩,
    ⟨(some 24), .ldN 2 (.t 5), some (23, false)⟩,
    ⟨(some 25), .call (.c (.func (.func 93) [] [])) [(.t 24)], some (23, false)⟩,
    ⟨(some 26), .bin .neq (.t 25) (.c (.int .i64 0)), some (23, false)⟩,
    ⟨(some 27), .pick (.t 23) (.c (.bool true)) (.t 26), none⟩]) (
  .cond (.t 27) (
   .seq (
   .ops [
     ⟨(some 28), .build [(.int .i64 0), (.int .i64 0), (.int .i64 0), (.int .i64 0)] [], none⟩,
     ⟨(some 6), .mv (.c (.ptr none)), none⟩,
     ⟨none, .st 4 (.t 7) (.t 28), none⟩,
     ⟨(some 8), .mv (.c (.int .i64 10)), none⟩]) (
   .ret)) (
   .skip))) (
  .seq (
  .draw [
    (⟨(some 29), .mv (.t 9), none⟩, .calm),
    (⟨(some 30), .ldN 2 (.t 4), none⟩, .reads 0 0),
    (⟨(some 31), .ldN 2 (.t 5), none⟩, .reads 0 0),
    (⟨(some 32), .build [(.int .i64 0), (.int .i64 0), (.int .i64 0), (.int .i64 0)] [(0, 2, (.t 30)), (2, 2, (.t 31))], none⟩, .calm),
    (⟨(some 6), .mv (.t 29), none⟩, .calm),
    (⟨none, .st 4 (.t 7) (.t 32), none⟩, .anchor),
    (⟨(some 8), .mv (.c (.int .i64 0)), none⟩, .calm)]) (
  .ret))))), [.tmp 6, .cellN 7 4, .tmp 8]⟩
/-- (*paravane/course.chart).steps -/
def x57 : XF := ⟨61, .seq (
  .ops [
    ⟨(some 3), .box 95 (.t 1), none⟩,
    ⟨(some 4), .mv (.c (.int .i64 0)), none⟩]) (
  .seq (
  .draw [
    (⟨(some 9), .fad 2 (.t 3), none⟩, .calm),
    (⟨(some 10), .fad 0 (.t 9), none⟩, .calm),
    (⟨(some 11), .ld1 (.t 10), none⟩, .reads 0 0),
    (⟨(some 12), .fad 0 (.t 3), none⟩, .calm),
    (⟨(some 13), .fad 0 (.t 12), none⟩, .calm),
    (⟨(some 14), .ld1 (.t 13), none⟩, .reads 0 0),
    (⟨(some 15), .bin .sub (.t 11) (.t 14), none⟩, .calm),
    (⟨(some 16), .fad 2 (.t 3), none⟩, .calm),
    (⟨(some 17), .fad 1 (.t 16), none⟩, .calm),
    (⟨(some 18), .ld1 (.t 17), none⟩, .reads 0 0),
    (⟨(some 19), .fad 0 (.t 3), none⟩, .calm),
    (⟨(some 20), .fad 1 (.t 19), none⟩, .calm),
    (⟨(some 21), .ld1 (.t 20), none⟩, .reads 0 0),
    (⟨(some 22), .bin .sub (.t 18) (.t 21), none⟩, .calm),
    (⟨(some 5), .mv (.t 15), none⟩, .calm),
    (⟨(some 6), .mv (.t 22), none⟩, .calm)]) (
  .seq (
  .ops [
    ⟨(some 24), .mv (.t 5), none⟩,
    ⟨(some 25), .mv (.t 5), none⟩,
    ⟨(some 26), .bin .mul (.t 24) (.t 25), none⟩,
    ⟨(some 27), .mv (.t 6), none⟩,
    ⟨(some 28), .mv (.t 6), none⟩,
    ⟨(some 29), .bin .mul (.t 27) (.t 28), none⟩,
    ⟨(some 30), .bin .add (.t 26) (.t 29), none⟩,
    ⟨(some 31), .call (.c (.func (.func 106) [] [])) [(.t 30)], none⟩,
    ⟨(some 23), .mv (.t 31), none⟩,
    ⟨(some 32), .ext 0 (.t 23), none⟩,
    ⟨(some 33), .ext 1 (.t 23), none⟩,
    ⟨(some 7), .mv (.t 32), none⟩,
    ⟨(some 8), .mv (.t 33), none⟩]) (
  .seq (
  .seq (
  .ops [
    ⟨(some 34), .mv (.t 7), none⟩,
    ⟨(some 35), .mv (.t 7), none⟩,
    ⟨(some 36), .bin .mul (.t 34) (.t 35), none⟩,
    ⟨(some 37), .mv (.t 5), none⟩,
    ⟨(some 38), .mv (.t 5), none⟩,
    ⟨(some 39), .bin .mul (.t 37) (.t 38), none⟩,
    ⟨(some 40), .mv (.t 6), none⟩,
    ⟨(some 41), .mv (.t 6), none⟩,
    ⟨(some 42), .bin .mul (.t 40) (.t 41), none⟩,
    ⟨(some 43), .bin .add (.t 39) (.t 42), none⟩,
    ⟨(some 44), .bin .lss (.t 36) (.t 43), none⟩]) (
  .cond (.t 44) (
   .ops [
     ⟨(some 45), .mv (.t 7), none⟩,
     ⟨(some 46), .bin .add (.t 45) (.c (.int .i64 1)), none⟩,
     ⟨(some 7), .mv (.t 46), none⟩]) (
   .skip))) (
  .seq (
  .draw [
    (⟨(some 47), .mv (.t 7), none⟩, .calm),
    (⟨(some 48), .mv (.t 0), none⟩, .calm),
    (⟨(some 49), .nilc (.t 48), none⟩, .calm),
    (⟨(some 50), .fad 0 (.t 49), none⟩, .calm),
    (⟨(some 51), .fad 14 (.t 50), none⟩, .calm),
    (⟨(some 52), .ld1 (.t 51), none⟩, .reads 0 0),
    (⟨(some 53), .bin .add (.t 47) (.t 52), none⟩, .calm),
    (⟨(some 54), .bin .sub (.t 53) (.c (.int .i64 1)), none⟩, .calm),
    (⟨(some 55), .mv (.t 0), none⟩, .calm),
    (⟨(some 56), .nilc (.t 55), none⟩, .calm),
    (⟨(some 57), .fad 0 (.t 56), none⟩, .calm),
    (⟨(some 58), .fad 14 (.t 57), none⟩, .calm),
    (⟨(some 59), .ld1 (.t 58), none⟩, .reads 0 0),
    (⟨(some 60), .bin .quo (.t 54) (.t 59), none⟩, .calm),
    (⟨(some 4), .mv (.t 60), none⟩, .calm)]) (
  .ret))))), [.tmp 4]⟩
/-- paravane/paravaneref04.steps -/
def x58 : XF := ⟨45, .seq (
  .ops [
    ⟨(some 3), .box 41 (.t 0), none⟩,
    ⟨(some 4), .box 23 (.t 1), none⟩,
    ⟨(some 5), .box 23 (.t 2), none⟩,
    ⟨(some 6), .mv (.c (.int .i64 0)), none⟩]) (
  .seq (
  .draw [
    (⟨(some 12), .fad 0 (.t 5), none⟩, .calm),
    (⟨(some 13), .ld1 (.t 12), none⟩, .reads 0 0),
    (⟨(some 14), .fad 0 (.t 4), none⟩, .calm),
    (⟨(some 15), .ld1 (.t 14), none⟩, .reads 0 0),
    (⟨(some 16), .bin .sub (.t 13) (.t 15), none⟩, .calm),
    (⟨(some 17), .fad 1 (.t 5), none⟩, .calm),
    (⟨(some 18), .ld1 (.t 17), none⟩, .reads 0 0),
    (⟨(some 19), .fad 1 (.t 4), none⟩, .calm),
    (⟨(some 20), .ld1 (.t 19), none⟩, .reads 0 0),
    (⟨(some 21), .bin .sub (.t 18) (.t 20), none⟩, .calm),
    (⟨(some 7), .mv (.t 16), none⟩, .calm),
    (⟨(some 8), .mv (.t 21), none⟩, .calm)]) (
  .seq (
  .ops [
    ⟨(some 22), .mv (.t 7), none⟩,
    ⟨(some 23), .mv (.t 7), none⟩,
    ⟨(some 24), .bin .mul (.t 22) (.t 23), none⟩,
    ⟨(some 25), .mv (.t 8), none⟩,
    ⟨(some 26), .mv (.t 8), none⟩,
    ⟨(some 27), .bin .mul (.t 25) (.t 26), none⟩,
    ⟨(some 28), .bin .add (.t 24) (.t 27), none⟩,
    ⟨(some 9), .mv (.t 28), none⟩]) (
  .seq (
  .ops [
    ⟨(some 30), .mv (.t 9), none⟩,
    ⟨(some 31), .call (.c (.func (.func 107) [] [])) [(.t 30)], none⟩,
    ⟨(some 29), .mv (.t 31), none⟩,
    ⟨(some 32), .ext 0 (.t 29), none⟩,
    ⟨(some 33), .ext 1 (.t 29), none⟩,
    ⟨(some 10), .mv (.t 32), none⟩,
    ⟨(some 11), .mv (.t 33), none⟩]) (
  .seq (
  .seq (
  .ops [
    ⟨(some 34), .mv (.t 10), none⟩,
    ⟨(some 35), .mv (.t 10), none⟩,
    ⟨(some 36), .bin .mul (.t 34) (.t 35), none⟩,
    ⟨(some 37), .mv (.t 9), none⟩,
    ⟨(some 38), .bin .lss (.t 36) (.t 37), none⟩]) (
  .cond (.t 38) (
   .ops [
     ⟨(some 39), .mv (.t 10), none⟩,
     ⟨(some 40), .bin .add (.t 39) (.c (.int .i64 1)), none⟩,
     ⟨(some 10), .mv (.t 40), none⟩]) (
   .skip))) (
  .seq (
  .ops [
    ⟨(some 41), .mv (.t 10), none⟩,
    ⟨(some 42), .fad 14 (.t 3), none⟩,
    ⟨(some 43), .ld1 (.t 42), none⟩,
    ⟨(some 44), .call (.c (.func (.func 108) [] [])) [(.t 41), (.t 43)], none⟩,
    ⟨(some 6), .mv (.t 44), none⟩]) (
  .ret)))))), [.tmp 6]⟩
/-- (*paravane/course.chart).clear -/
def x59 : XF := ⟨52, .seq (
  .ops [
    ⟨(some 3), .box 95 (.t 1), none⟩,
    ⟨(some 4), .mv (.c (.bool false)), none⟩]) (
  .seq (
  .draw [
    (⟨(some 10), .mv (.t 0), none⟩, .calm),
    (⟨(some 11), .nilc (.t 10), none⟩, .calm),
    (⟨(some 12), .fad 17 (.t 11), none⟩, .calm),
    (⟨(some 13), .ld1 (.t 12), none⟩, .reads 0 0),
    (⟨(some 14), .ldN 4 (.t 3), none⟩, .reads 0 0),
    (⟨(some 15), .lkp 95 (.bool false) true (.t 13) (.t 14), none⟩, .reads 0 0),
    (⟨(some 9), .mv (.t 15), none⟩, .calm),
    (⟨(some 16), .ext 0 (.t 9), none⟩, .calm),
    (⟨(some 17), .ext 1 (.t 9), none⟩, .calm),
    (⟨(some 5), .mv (.t 16), none⟩, .calm),
    (⟨(some 6), .mv (.t 17), none⟩, .calm)]) (
  .seq (
  .seq (
  .ops [
    ⟨(some 18), .mv (.t 6), none⟩,
    ⟨(some 19), .un .not (.t 18), none⟩]) (
  .cond (.t 19) (
   .seq (
   .draw [
     (⟨(some 21), .mv (.t 0), none⟩, .calm),
     (⟨(some 22), .nilc (.t 21), none⟩, .calm),
     (⟨(some 23), .fad 0 (.t 22), none⟩, .calm),
     (⟨(some 24), .fad 3 (.t 23), none⟩, .calm),
     (⟨(some 25), .ldN 8 (.t 24), none⟩, .reads 0 0),
     (⟨(some 26), .fad 0 (.t 3), none⟩, .calm),
     (⟨(some 27), .ldN 2 (.t 26), none⟩, .reads 0 0),
     (⟨(some 28), .fad 2 (.t 3), none⟩, .calm),
     (⟨(some 29), .ldN 2 (.t 28), none⟩, .reads 0 0),
     (⟨(some 30), .call (.c (.func (.func 109) [] [])) [(.t 25), (.t 27), (.t 29)], none⟩, .anchor),
     (⟨(some 20), .mv (.t 30), none⟩, .calm),
     (⟨(some 31), .ext 0 (.t 20), none⟩, .calm),
     (⟨(some 32), .ext 1 (.t 20), none⟩, .calm),
     (⟨(some 7), .new 36 [(.int .i64 0), (.int .i64 0), (.int .i64 0), (.int .i64 0), (.int .i64 0), (.int .i64 0), (.int .i64 0), (.int .i64 0)], none⟩, .new),
     (⟨none, .st 8 (.t 7) (.t 31), none⟩, .anchor),
     (⟨(some 8), .mv (.t 32), none⟩, .calm)]) (
   .seq (
   .ops [
     ⟨(some 33), .mv (.t 8), none⟩,
     ⟨(some 34), .bin .eql (.t 33) (.c (.int .i64 0)), none⟩,
     ⟨(some 35), .mv (.t 34), none⟩,
     ⟨(some 36), .mv (.t 0), some (35, true)⟩,
     ⟨(some 37), .nilc (.t 36), some (35, true)⟩,
     ⟨(some 38), .fad 0 (.t 37), some (35, true)⟩,
     ⟨(some 39), .fad 1 (.t 38), some (35, true)⟩,
     ⟨(some 40), .ld1 (.t 39), some (35, true)⟩,
     ⟨(some 41), .mkf 110 [] [(.t 7)], some (35, true)⟩,
     ⟨(some 42), .call (.c (.func (.func 95) [] [])) [(.t 40), (.t 41)], some (35, true)⟩,
     ⟨(some 43), .un .not (.t 42), some (35, true)⟩,
     ⟨(some 44), .pick (.t 35) (.t 43) (.c (.bool false)), none⟩,
     ⟨(some 5), .mv (.t 44), none⟩]) (
   .draw [
     (⟨(some 45), .mv (.t 0), none⟩, .calm),
     (⟨(some 46), .nilc (.t 45), none⟩, .calm),
     (⟨(some 47), .fad 17 (.t 46), none⟩, .calm),
     (⟨(some 48), .ld1 (.t 47), none⟩, .reads 0 0),
     (⟨(some 49), .ldN 4 (.t 3), none⟩, .reads 0 0),
     (⟨(some 50), .mv (.t 5), none⟩, .calm),
     (⟨none, .mset 95 (.t 48) (.t 49) (.t 50), none⟩, .anchor)]))) (
   .skip))) (
  .seq (
  .ops [
    ⟨(some 51), .mv (.t 5), none⟩,
    ⟨(some 4), .mv (.t 51), none⟩]) (
  .ret)))), [.tmp 4]⟩
/-- paravane/paravaneref04.free -/
def x60 : XF := ⟨41, .seq (
  .ops [
    ⟨(some 3), .box 41 (.t 0), none⟩,
    ⟨(some 4), .box 23 (.t 1), none⟩,
    ⟨(some 5), .box 23 (.t 2), none⟩,
    ⟨(some 6), .mv (.c (.bool false)), none⟩]) (
  .seq (
  .ops [
    ⟨(some 13), .fad 3 (.t 3), none⟩,
    ⟨(some 14), .ldN 8 (.t 13), none⟩,
    ⟨(some 15), .ldN 2 (.t 4), none⟩,
    ⟨(some 16), .ldN 2 (.t 5), none⟩,
    ⟨(some 17), .call (.c (.func (.func 112) [] [])) [(.t 14), (.t 15), (.t 16)], none⟩,
    ⟨(some 12), .mv (.t 17), none⟩,
    ⟨(some 18), .ext 0 (.t 12), none⟩,
    ⟨(some 19), .ext 1 (.t 12), none⟩,
    ⟨(some 7), .new 36 [(.int .i64 0), (.int .i64 0), (.int .i64 0), (.int .i64 0), (.int .i64 0), (.int .i64 0), (.int .i64 0), (.int .i64 0)], none⟩,
    ⟨none, .st 8 (.t 7) (.t 18), none⟩,
    ⟨(some 8), .mv (.t 19), none⟩]) (
  .seq (
  .seq (
  .ops [
    ⟨(some 20), .mv (.t 8), none⟩,
    ⟨(some 21), .bin .neq (.t 20) (.c (.int .i64 0)), none⟩]) (
  .cond (.t 21) (
   .seq (
   .ops [
     ⟨(some 6), .mv (.c (.bool false)), none⟩]) (
   .ret)) (
   .skip))) (
  .seq (
  .seq (
  .ops [
    ⟨(some 9), .mv (.c (.int .i64 0)), none⟩]) (
  .block 0 (
   .loop (
    .seq (
    .seq (
    .ops [
      ⟨(some 22), .mv (.t 9), none⟩,
      ⟨(some 23), .fad 1 (.t 3), none⟩,
      ⟨(some 24), .ld1 (.t 23), none⟩,
      ⟨(some 25), .len .sl (.t 24), none⟩,
      ⟨(some 26), .bin .lss (.t 22) (.t 25), none⟩]) (
    .cond (.t 26) (
     .skip) (
     .exit 0))) (
    .seq (
    .block 1 (
     .seq (
     .draw [
       (⟨(some 30), .fad 1 (.t 3), none⟩, .calm),
       (⟨(some 31), .ld1 (.t 30), none⟩, .reads 0 0),
       (⟨(some 32), .mv (.t 9), none⟩, .calm),
       (⟨(some 33), .iad none 1 (.t 31) (.t 32), none⟩, .calm),
       (⟨(some 34), .ld1 (.t 33), none⟩, .reads 0 0),
       (⟨(some 35), .ldN 8 (.t 7), none⟩, .reads 0 0),
       (⟨(some 36), .call (.c (.func (.func 113) [] [])) [(.t 34), (.t 35)], none⟩, .anchor),
       (⟨(some 29), .mv (.t 36), none⟩, .calm),
       (⟨(some 37), .ext 0 (.t 29), none⟩, .calm),
       (⟨(some 38), .ext 1 (.t 29), none⟩, .calm),
       (⟨(some 10), .new 23 [(.int .i64 0), (.int .i64 0)], none⟩, .new),
       (⟨none, .st 2 (.t 10) (.t 37), none⟩, .anchor),
       (⟨(some 11), .mv (.t 38), none⟩, .calm)]) (
     .seq (
     .ops [
       ⟨(some 39), .mv (.t 11), none⟩,
       ⟨(some 40), .bin .neq (.t 39) (.c (.int .i64 4)), none⟩]) (
     .cond (.t 40) (
      .seq (
      .ops [
        ⟨(some 6), .mv (.c (.bool false)), none⟩]) (
      .ret)) (
      .skip))))) (
    .ops [
      ⟨(some 27), .mv (.t 9), none⟩,
      ⟨(some 28), .bin .add (.t 27) (.c (.int .i64 1)), none⟩,
      ⟨(some 9), .mv (.t 28), none⟩])))))) (
  .seq (
  .ops [
    ⟨(some 6), .mv (.c (.bool true)), none⟩]) (
  .ret))))), [.tmp 6]⟩
/-- paravane/course.chartOf -/
def x61 : XF := ⟨14, .seq (
  .ops [
    ⟨(some 1), .box 41 (.t 0), none⟩,
    ⟨(some 2), .mv (.c (.ptr none)), none⟩,
    ⟨(some 3), .mv (.c (.int .i64 0)), none⟩]) (
  .seq (
  .seq (
  .ops [
    ⟨(some 5), .ldN 17 (.t 1), none⟩,
    ⟨(some 6), .call (.c (.func (.func 18) [] [])) [(.t 5)], none⟩,
    ⟨(some 4), .mv (.t 6), none⟩]) (
  .seq (
  .ops [
    ⟨(some 7), .mv (.t 4), none⟩,
    ⟨(some 8), .bin .neq (.t 7) (.c (.int .i64 0)), none⟩]) (
  .cond (.t 8) (
   .seq (
   .ops [
     ⟨(some 9), .mv (.t 4), none⟩,
     ⟨(some 2), .mv (.c (.ptr none)), none⟩,
     ⟨(some 3), .mv (.t 9), none⟩]) (
   .ret)) (
   .skip)))) (
  .seq (
  .ops [
    ⟨(some 10), .ldN 17 (.t 1), none⟩,
    ⟨(some 11), .mkmap, none⟩,
    ⟨(some 12), .build [(.slice none 0 true 0), (.slice none 0 true 0), (.slice none 0 true 0), (.int .i64 0), (.int .i64 0), (.int .i64 0), (.int .i64 0), (.int .i64 0), (.int .i64 0), (.int .i64 0), (.int .i64 0), (.int .i64 0), (.int .i64 0), (.int .i64 0), (.int .i64 0), (.int .i64 0), (.slice none 0 true 0), (.map none)] [(0, 17, (.t 10)), (17, 1, (.t 11))], none⟩,
    ⟨(some 13), .box 139 (.t 12), none⟩,
    ⟨(some 2), .mv (.t 13), none⟩,
    ⟨(some 3), .mv (.c (.int .i64 0)), none⟩]) (
  .ret))), [.tmp 2, .tmp 3]⟩
/-- (paravane/course.pose).valid -/
def x62 : XF := ⟨12, .seq (
  .ops [
    ⟨(some 1), .box 103 (.t 0), none⟩,
    ⟨(some 2), .mv (.c (.bool false)), none⟩]) (
  .seq (
  .ops [
    ⟨(some 3), .fad 0 (.t 1), none⟩,
    ⟨(some 4), .ldN 2 (.t 3), none⟩,
    ⟨(some 5), .call (.c (.func (.func 93) [] [])) [(.t 4)], none⟩,
    ⟨(some 6), .bin .eql (.t 5) (.c (.int .i64 0)), none⟩,
    ⟨(some 7), .mv (.t 6), none⟩,
    ⟨(some 8), .fad 2 (.t 1), some (7, true)⟩,
    ⟨(some 9), .ld1 (.t 8), some (7, true)⟩,
    ⟨(some 10), .call (.c (.func (.func 43) [] [])) [(.t 9), (.c (.int .i64 0)), (.c (.int .i64 7))], some (7, true)⟩,
    ⟨(some 11), .pick (.t 7) (.t 10) (.c (.bool false)), none⟩,
    ⟨(some 2), .mv (.t 11), none⟩]) (
  .ret)), [.tmp 2]⟩
/-- (*paravane/course.chart).right -/
def x66 : XF := ⟨20, .seq (
  .ops [
    ⟨(some 3), .box 52 (.t 1), none⟩,
    ⟨(some 4), .mv (.c (.bool false)), none⟩]) (
  .seq (
  .draw [
    (⟨(some 5), .fad 0 (.t 3), none⟩, .calm),
    (⟨(some 6), .ld1 (.t 5), none⟩, .reads 0 0),
    (⟨(some 7), .mv (.t 0), none⟩, .calm),
    (⟨(some 8), .nilc (.t 7), none⟩, .calm),
    (⟨(some 9), .fad 0 (.t 8), none⟩, .calm),
    (⟨(some 10), .fad 0 (.t 9), none⟩, .calm),
    (⟨(some 11), .ld1 (.t 10), none⟩, .reads 0 0),
    (⟨(some 12), .len .sl (.t 11), none⟩, .calm),
    (⟨(some 13), .bin .sub (.t 12) (.c (.int .i64 1)), none⟩, .calm),
    (⟨(some 14), .call (.c (.func (.func 43) [] [])) [(.t 6), (.c (.int .i64 0)), (.t 13)], none⟩, .anchor),
    (⟨(some 15), .mv (.t 14), none⟩, .calm),
    (⟨(some 16), .fad 1 (.t 3), some (15, true)⟩, .calm),
    (⟨(some 17), .ld1 (.t 16), some (15, true)⟩, .reads 1 1),
    (⟨(some 18), .call (.c (.func (.func 43) [] [])) [(.t 17), (.c (.int .i64 0)), (.c (.int .i64 1))], some (15, true)⟩, .anchor),
    (⟨(some 19), .pick (.t 15) (.t 18) (.c (.bool false)), none⟩, .calm),
    (⟨(some 4), .mv (.t 19), none⟩, .calm)]) (
  .ret)), [.tmp 4]⟩
/-- (*paravane/course.chart).shot -/
def x67 : XF := ⟨55, .seq (
  .ops [
    ⟨(some 4), .box 52 (.t 1), none⟩,
    ⟨(some 6), .new 34 [(.int .i64 0), (.int .i64 0)], none⟩,
    ⟨(some 7), .mv (.c (.bool false)), none⟩]) (
  .seq (
  .ops [
    ⟨(some 13), .mv (.t 0), none⟩,
    ⟨(some 14), .ldN 2 (.t 4), none⟩,
    ⟨(some 15), .call (.c (.func (.func 119) [] [])) [(.t 13), (.t 14)], none⟩,
    ⟨(some 8), .new 95 [(.int .i64 0), (.int .i64 0), (.int .i64 0), (.int .i64 0)], none⟩,
    ⟨none, .st 4 (.t 8) (.t 15), none⟩]) (
  .seq (
  .seq (
  .ops [
    ⟨(some 16), .mv (.t 0), none⟩,
    ⟨(some 17), .ldN 4 (.t 8), none⟩,
    ⟨(some 18), .call (.c (.func (.func 59) [] [])) [(.t 16), (.t 17)], none⟩,
    ⟨(some 19), .un .not (.t 18), none⟩]) (
  .cond (.t 19) (
   .seq (
   .ops [
     ⟨(some 20), .build [(.int .i64 0), (.int .i64 0)] [], none⟩,
     ⟨none, .st 2 (.t 6) (.t 20), none⟩,
     ⟨(some 7), .mv (.c (.bool false)), none⟩]) (
   .ret)) (
   .skip))) (
  .seq (
  .ops [
    ⟨(some 21), .mv (.t 0), none⟩,
    ⟨(some 22), .ldN 4 (.t 8), none⟩,
    ⟨(some 23), .call (.c (.func (.func 57) [] [])) [(.t 21), (.t 22)], none⟩,
    ⟨(some 9), .mv (.t 23), none⟩]) (
  .seq (
  .seq (
  .draw [
    (⟨(some 24), .mv (.t 0), none⟩, .calm),
    (⟨(some 25), .nilc (.t 24), none⟩, .calm),
    (⟨(some 26), .fad 0 (.t 25), none⟩, .calm),
    (⟨(some 27), .fad 16 (.t 26), none⟩, .calm),
    (⟨(some 28), .ld1 (.t 27), none⟩, .reads 0 0),
    (⟨(some 29), .fad 0 (.t 4), none⟩, .calm),
    (⟨(some 30), .ld1 (.t 29), none⟩, .reads 0 0),
    (⟨(some 31), .iad none 1 (.t 28) (.t 30), none⟩, .calm),
    (⟨(some 32), .ld1 (.t 31), none⟩, .reads 0 0),
    (⟨(some 33), .len .sl (.t 32), none⟩, .calm),
    (⟨(some 34), .mv (.c (.int .i64 0)), none⟩, .calm)]) (
  .block 0 (
   .loop (
    .seq (
    .ops [
      ⟨(some 35), .bin .lss (.t 34) (.t 33), none⟩]) (
    .seq (
    .cond (.t 35) (
     .skip) (
     .exit 0)) (
    .seq (
    .block 1 (
     .seq (
     .ops [
       ⟨(some 36), .iad none 2 (.t 32) (.t 34), none⟩,
       ⟨(some 37), .ldN 2 (.t 36), none⟩,
       ⟨(some 11), .new 34 [(.int .i64 0), (.int .i64 0)], none⟩,
       ⟨none, .st 2 (.t 11) (.t 37), none⟩]) (
     .seq (
     .ops [
       ⟨(some 38), .mv (.t 2), none⟩,
       ⟨(some 39), .fad 0 (.t 11), none⟩,
       ⟨(some 40), .ld1 (.t 39), none⟩,
       ⟨(some 41), .max [(.t 38), (.t 40)], none⟩,
       ⟨(some 12), .mv (.t 41), none⟩]) (
     .seq (
     .ops [
       ⟨(some 42), .mv (.t 12), none⟩,
       ⟨(some 43), .mv (.t 9), none⟩,
       ⟨(some 44), .bin .add (.t 42) (.t 43), none⟩,
       ⟨(some 45), .fad 1 (.t 11), none⟩,
       ⟨(some 46), .ld1 (.t 45), none⟩,
       ⟨(some 47), .bin .leq (.t 44) (.t 46), none⟩]) (
     .cond (.t 47) (
      .seq (
      .ops [
        ⟨(some 48), .mv (.t 12), none⟩,
        ⟨(some 49), .mv (.t 12), none⟩,
        ⟨(some 50), .mv (.t 9), none⟩,
        ⟨(some 51), .bin .add (.t 49) (.t 50), none⟩,
        ⟨(some 52), .build [(.int .i64 0), (.int .i64 0)] [(0, 1, (.t 48)), (1, 1, (.t 51))], none⟩,
        ⟨none, .st 2 (.t 6) (.t 52), none⟩,
        ⟨(some 7), .mv (.c (.bool true)), none⟩]) (
      .ret)) (
      .skip)))))) (
    .ops [
      ⟨(some 53), .bin .add (.t 34) (.c (.int .i64 1)), none⟩,
      ⟨(some 34), .mv (.t 53), none⟩]))))))) (
  .seq (
  .ops [
    ⟨(some 54), .build [(.int .i64 0), (.int .i64 0)] [], none⟩,
    ⟨none, .st 2 (.t 6) (.t 54), none⟩,
    ⟨(some 7), .mv (.c (.bool false)), none⟩]) (
  .ret)))))), [.cellN 6 2, .tmp 7]⟩
/-- paravane/paravaneref04.shoot -/
def x68 : XF := ⟨17, .seq (
  .ops [
    ⟨(some 2), .box 41 (.t 0), none⟩,
    ⟨(some 3), .box 52 (.t 1), none⟩,
    ⟨(some 4), .mv (.c (.bool false)), none⟩]) (
  .seq (
  .ops [
    ⟨(some 5), .fad 0 (.t 3), none⟩,
    ⟨(some 6), .ld1 (.t 5), none⟩,
    ⟨(some 7), .fad 0 (.t 2), none⟩,
    ⟨(some 8), .ld1 (.t 7), none⟩,
    ⟨(some 9), .len .sl (.t 8), none⟩,
    ⟨(some 10), .bin .sub (.t 9) (.c (.int .i64 1)), none⟩,
    ⟨(some 11), .call (.c (.func (.func 40) [] [])) [(.t 6), (.c (.int .i64 0)), (.t 10)], none⟩,
    ⟨(some 12), .mv (.t 11), none⟩,
    ⟨(some 13), .fad 1 (.t 3), some (12, true)⟩,
    ⟨(some 14), .ld1 (.t 13), some (12, true)⟩,
    ⟨(some 15), .call (.c (.func (.func 40) [] [])) [(.t 14), (.c (.int .i64 0)), (.c (.int .i64 1))], some (12, true)⟩,
    ⟨(some 16), .pick (.t 12) (.t 15) (.c (.bool false)), none⟩,
    ⟨(some 4), .mv (.t 16), none⟩]) (
  .ret)), [.tmp 4]⟩
/-- paravane/paravaneref04.shot -/
def x69 : XF := ⟨70, .seq (
  .ops [
    ⟨(some 3), .box 41 (.t 0), none⟩,
    ⟨(some 4), .box 52 (.t 1), none⟩,
    ⟨(some 6), .new 34 [(.int .i64 0), (.int .i64 0)], none⟩,
    ⟨(some 7), .mv (.c (.bool false)), none⟩]) (
  .seq (
  .ops [
    ⟨(some 15), .ldN 17 (.t 3), none⟩,
    ⟨(some 16), .ldN 2 (.t 4), none⟩,
    ⟨(some 17), .call (.c (.func (.func 77) [] [])) [(.t 15), (.t 16)], none⟩,
    ⟨(some 14), .mv (.t 17), none⟩,
    ⟨(some 18), .ext 0 (.t 14), none⟩,
    ⟨(some 19), .ext 1 (.t 14), none⟩,
    ⟨(some 8), .new 38 [(.int .i64 0), (.int .i64 0), (.int .i64 0)], none⟩,
    ⟨(some 9), .new 38 [(.int .i64 0), (.int .i64 0), (.int .i64 0)], none⟩,
    ⟨none, .st 3 (.t 8) (.t 18), none⟩,
    ⟨none, .st 3 (.t 9) (.t 19), none⟩]) (
  .seq (
  .ops [
    ⟨(some 20), .ldN 17 (.t 3), none⟩,
    ⟨(some 21), .fad 0 (.t 8), none⟩,
    ⟨(some 22), .ldN 2 (.t 21), none⟩,
    ⟨(some 23), .fad 0 (.t 9), none⟩,
    ⟨(some 24), .ldN 2 (.t 23), none⟩,
    ⟨(some 25), .call (.c (.func (.func 58) [] [])) [(.t 20), (.t 22), (.t 24)], none⟩,
    ⟨(some 10), .mv (.t 25), none⟩]) (
  .seq (
  .seq (
  .ops [
    ⟨(some 26), .ldN 17 (.t 3), none⟩,
    ⟨(some 27), .fad 0 (.t 8), none⟩,
    ⟨(some 28), .ldN 2 (.t 27), none⟩,
    ⟨(some 29), .fad 0 (.t 9), none⟩,
    ⟨(some 30), .ldN 2 (.t 29), none⟩,
    ⟨(some 31), .call (.c (.func (.func 60) [] [])) [(.t 26), (.t 28), (.t 30)], none⟩,
    ⟨(some 32), .un .not (.t 31), none⟩]) (
  .cond (.t 32) (
   .seq (
   .ops [
     ⟨(some 33), .build [(.int .i64 0), (.int .i64 0)] [], none⟩,
     ⟨none, .st 2 (.t 6) (.t 33), none⟩,
     ⟨(some 7), .mv (.c (.bool false)), none⟩]) (
   .ret)) (
   .skip))) (
  .seq (
  .seq (
  .ops [
    ⟨(some 11), .mv (.c (.int .i64 0)), none⟩]) (
  .block 0 (
   .loop (
    .seq (
    .seq (
    .ops [
      ⟨(some 34), .mv (.t 11), none⟩,
      ⟨(some 35), .fad 16 (.t 3), none⟩,
      ⟨(some 36), .ld1 (.t 35), none⟩,
      ⟨(some 37), .fad 0 (.t 4), none⟩,
      ⟨(some 38), .ld1 (.t 37), none⟩,
      ⟨(some 39), .iad none 1 (.t 36) (.t 38), none⟩,
      ⟨(some 40), .ld1 (.t 39), none⟩,
      ⟨(some 41), .len .sl (.t 40), none⟩,
      ⟨(some 42), .bin .lss (.t 34) (.t 41), none⟩]) (
    .cond (.t 42) (
     .skip) (
     .exit 0))) (
    .seq (
    .block 1 (
     .seq (
     .ops [
       ⟨(some 45), .fad 16 (.t 3), none⟩,
       ⟨(some 46), .ld1 (.t 45), none⟩,
       ⟨(some 47), .fad 0 (.t 4), none⟩,
       ⟨(some 48), .ld1 (.t 47), none⟩,
       ⟨(some 49), .iad none 1 (.t 46) (.t 48), none⟩,
       ⟨(some 50), .ld1 (.t 49), none⟩,
       ⟨(some 51), .mv (.t 11), none⟩,
       ⟨(some 52), .iad none 2 (.t 50) (.t 51), none⟩,
       ⟨(some 53), .ldN 2 (.t 52), none⟩,
       ⟨(some 12), .new 34 [(.int .i64 0), (.int .i64 0)], none⟩,
       ⟨none, .st 2 (.t 12) (.t 53), none⟩]) (
     .seq (
     .ops [
       ⟨(some 54), .mv (.t 2), none⟩,
       ⟨(some 55), .fad 0 (.t 12), none⟩,
       ⟨(some 56), .ld1 (.t 55), none⟩,
       ⟨(some 57), .max [(.t 54), (.t 56)], none⟩,
       ⟨(some 13), .mv (.t 57), none⟩]) (
     .seq (
     .ops [
       ⟨(some 58), .mv (.t 13), none⟩,
       ⟨(some 59), .mv (.t 10), none⟩,
       ⟨(some 60), .bin .add (.t 58) (.t 59), none⟩,
       ⟨(some 61), .fad 1 (.t 12), none⟩,
       ⟨(some 62), .ld1 (.t 61), none⟩,
       ⟨(some 63), .bin .leq (.t 60) (.t 62), none⟩]) (
     .cond (.t 63) (
      .seq (
      .ops [
        ⟨(some 64), .mv (.t 13), none⟩,
        ⟨(some 65), .mv (.t 13), none⟩,
        ⟨(some 66), .mv (.t 10), none⟩,
        ⟨(some 67), .bin .add (.t 65) (.t 66), none⟩,
        ⟨(some 68), .build [(.int .i64 0), (.int .i64 0)] [(0, 1, (.t 64)), (1, 1, (.t 67))], none⟩,
        ⟨none, .st 2 (.t 6) (.t 68), none⟩,
        ⟨(some 7), .mv (.c (.bool true)), none⟩]) (
      .ret)) (
      .skip)))))) (
    .ops [
      ⟨(some 43), .mv (.t 11), none⟩,
      ⟨(some 44), .bin .add (.t 43) (.c (.int .i64 1)), none⟩,
      ⟨(some 11), .mv (.t 44), none⟩])))))) (
  .seq (
  .ops [
    ⟨(some 69), .build [(.int .i64 0), (.int .i64 0)] [], none⟩,
    ⟨none, .st 2 (.t 6) (.t 69), none⟩,
    ⟨(some 7), .mv (.c (.bool false)), none⟩]) (
  .ret)))))), [.cellN 6 2, .tmp 7]⟩
/-- paravane/paravaneref04.ends -/
def x77 : XF := ⟨45, .seq (
  .ops [
    ⟨(some 2), .box 41 (.t 0), none⟩,
    ⟨(some 3), .box 52 (.t 1), none⟩,
    ⟨(some 4), .new 38 [(.int .i64 0), (.int .i64 0), (.int .i64 0)], none⟩,
    ⟨(some 5), .new 38 [(.int .i64 0), (.int .i64 0), (.int .i64 0)], none⟩]) (
  .seq (
  .ops [
    ⟨(some 8), .fad 0 (.t 2), none⟩,
    ⟨(some 9), .ld1 (.t 8), none⟩,
    ⟨(some 10), .fad 0 (.t 3), none⟩,
    ⟨(some 11), .ld1 (.t 10), none⟩,
    ⟨(some 12), .iad none 4 (.t 9) (.t 11), none⟩,
    ⟨(some 13), .ldN 4 (.t 12), none⟩,
    ⟨(some 6), .new 86 [(.int .i64 0), (.int .i64 0), (.int .i64 0), (.int .i64 0)], none⟩,
    ⟨none, .st 4 (.t 6) (.t 13), none⟩]) (
  .seq (
  .seq (
  .ops [
    ⟨(some 14), .fad 1 (.t 3), none⟩,
    ⟨(some 15), .ld1 (.t 14), none⟩,
    ⟨(some 16), .bin .eql (.t 15) (.c (.int .i64 1)), none⟩]) (
  .cond (.t 16) (
   .ops [
     ⟨(some 17), .fad 2 (.t 6), none⟩,
     ⟨(some 18), .ldN 2 (.t 17), none⟩,
     ⟨(some 19), .fad 0 (.t 6), none⟩,
     ⟨(some 20), .ldN 2 (.t 19), none⟩,
     ⟨(some 21), .build [(.int .i64 0), (.int .i64 0), (.int .i64 0), (.int .i64 0)] [(0, 2, (.t 18)), (2, 2, (.t 20))], none⟩,
     ⟨none, .st 4 (.t 6) (.t 21), none⟩]) (
   .skip))) (
  .seq (
  .ops [
    ⟨(some 22), .fad 2 (.t 6), none⟩,
    ⟨(some 23), .fad 0 (.t 22), none⟩,
    ⟨(some 24), .ld1 (.t 23), none⟩,
    ⟨(some 25), .fad 0 (.t 6), none⟩,
    ⟨(some 26), .fad 0 (.t 25), none⟩,
    ⟨(some 27), .ld1 (.t 26), none⟩,
    ⟨(some 28), .bin .sub (.t 24) (.t 27), none⟩,
    ⟨(some 29), .fad 2 (.t 6), none⟩,
    ⟨(some 30), .fad 1 (.t 29), none⟩,
    ⟨(some 31), .ld1 (.t 30), none⟩,
    ⟨(some 32), .fad 0 (.t 6), none⟩,
    ⟨(some 33), .fad 1 (.t 32), none⟩,
    ⟨(some 34), .ld1 (.t 33), none⟩,
    ⟨(some 35), .bin .sub (.t 31) (.t 34), none⟩,
    ⟨(some 36), .call (.c (.func (.func 46) [] [])) [(.t 28), (.t 35)], none⟩,
    ⟨(some 7), .mv (.t 36), none⟩]) (
  .seq (
  .draw [
    (⟨(some 37), .fad 0 (.t 6), none⟩, .calm),
    (⟨(some 38), .ldN 2 (.t 37), none⟩, .reads 0 0),
    (⟨(some 39), .mv (.t 7), none⟩, .calm),
    (⟨(some 40), .build [(.int .i64 0), (.int .i64 0), (.int .i64 0)] [(0, 2, (.t 38)), (2, 1, (.t 39))], none⟩, .calm),
    (⟨(some 41), .fad 2 (.t 6), none⟩, .calm),
    (⟨(some 42), .ldN 2 (.t 41), none⟩, .reads 0 1),
    (⟨(some 43), .mv (.t 7), none⟩, .calm),
    (⟨(some 44), .build [(.int .i64 0), (.int .i64 0), (.int .i64 0)] [(0, 2, (.t 42)), (2, 1, (.t 43))], none⟩, .calm),
    (⟨none, .st 3 (.t 4) (.t 40), none⟩, .anchor),
    (⟨none, .st 3 (.t 5) (.t 44), none⟩, .anchor)]) (
  .ret))))), [.cellN 4 3, .cellN 5 3]⟩
/-- slices.ContainsFunc[[]int,int] -/
def x86 : XF := ⟨9, .seq (
  .ops [
    ⟨(some 4), .mv (.c (.bool false)), none⟩]) (
  .seq (
  .ops [
    ⟨(some 5), .mv (.t 0), none⟩,
    ⟨(some 6), .mv (.t 1), none⟩,
    ⟨(some 7), .call (.c (.func (.func 122) [] [])) [(.t 5), (.t 6)], none⟩,
    ⟨(some 8), .bin .geq (.t 7) (.c (.int .i64 0)), none⟩,
    ⟨(some 4), .mv (.t 8), none⟩]) (
  .ret)), [.tmp 4]⟩
/-- paravane/paravaneref00.Magnitude -/
def x92 : XF := ⟨7, .seq (
  .ops [
    ⟨(some 2), .mv (.c (.int .i64 0)), none⟩]) (
  .seq (
  .ops [
    ⟨(some 3), .mv (.t 0), none⟩,
    ⟨(some 4), .mv (.t 0), none⟩,
    ⟨(some 5), .un .neg (.t 4), none⟩,
    ⟨(some 6), .max [(.t 3), (.t 5)], none⟩,
    ⟨(some 2), .mv (.t 6), none⟩]) (
  .ret)), [.tmp 2]⟩
/-- paravane/region.CheckPoint -/
def x93 : XF := ⟨18, .seq (
  .ops [
    ⟨(some 1), .box 23 (.t 0), none⟩,
    ⟨(some 2), .mv (.c (.int .i64 0)), none⟩]) (
  .seq (
  .seq (
  .ops [
    ⟨(some 5), .fad 0 (.t 1), none⟩,
    ⟨(some 6), .ld1 (.t 5), none⟩,
    ⟨(some 7), .fad 1 (.t 1), none⟩,
    ⟨(some 8), .ld1 (.t 7), none⟩,
    ⟨(some 9), .build [(.int .i64 0), (.int .i64 0)] [(0, 1, (.t 6)), (1, 1, (.t 8))], none⟩,
    ⟨(some 10), .mv (.c (.int .i64 0)), none⟩]) (
  .block 0 (
   .loop (
    .seq (
    .ops [
      ⟨(some 11), .bin .lss (.t 10) (.c (.int .i64 2)), none⟩]) (
    .seq (
    .cond (.t 11) (
     .skip) (
     .exit 0)) (
    .seq (
    .block 1 (
     .seq (
     .ops [
       ⟨(some 12), .idx 2 1 false (.t 9) (.t 10), none⟩,
       ⟨(some 4), .mv (.t 12), none⟩]) (
     .seq (
     .ops [
       ⟨(some 13), .mv (.t 4), none⟩,
       ⟨(some 14), .call (.c (.func (.func 125) [] [])) [(.c (.int .i64 32768)), (.t 13)], none⟩,
       ⟨(some 15), .mv (.t 4), none⟩,
       ⟨(some 16), .bin .neq (.t 14) (.t 15), none⟩]) (
     .cond (.t 16) (
      .seq (
      .ops [
        ⟨(some 2), .mv (.c (.int .i64 10)), none⟩]) (
      .ret)) (
      .skip))))) (
    .ops [
      ⟨(some 17), .bin .add (.t 10) (.c (.int .i64 1)), none⟩,
      ⟨(some 10), .mv (.t 17), none⟩]))))))) (
  .seq (
  .ops [
    ⟨(some 2), .mv (.c (.int .i64 0)), none⟩]) (
  .ret))), [.tmp 2]⟩
/-- paravane/course.windows -/
def x94 : XF := ⟨42, .seq (
  .ops [
    ⟨(some 2), .mv (.c (.bool false)), none⟩]) (
  .seq (
  .seq (
  .ops [
    ⟨(some 5), .mv (.t 0), none⟩,
    ⟨(some 6), .len .sl (.t 5), none⟩,
    ⟨(some 7), .mv (.c (.int .i64 0)), none⟩]) (
  .block 0 (
   .loop (
    .seq (
    .ops [
      ⟨(some 8), .bin .lss (.t 7) (.t 6), none⟩]) (
    .seq (
    .cond (.t 8) (
     .skip) (
     .exit 0)) (
    .seq (
    .block 1 (
     .seq (
     .ops [
       ⟨(some 9), .mv (.t 7), none⟩,
       ⟨(some 10), .iad none 2 (.t 5) (.t 7), none⟩,
       ⟨(some 11), .ldN 2 (.t 10), none⟩,
       ⟨(some 4), .new 34 [(.int .i64 0), (.int .i64 0)], none⟩,
       ⟨(some 3), .mv (.t 9), none⟩,
       ⟨none, .st 2 (.t 4) (.t 11), none⟩]) (
     .seq (
     .draw [
       (⟨(some 12), .fad 0 (.t 4), none⟩, .calm),
       (⟨(some 13), .ld1 (.t 12), none⟩, .reads 0 0),
       (⟨(some 14), .bin .lss (.t 13) (.c (.int .i64 0)), none⟩, .calm),
       (⟨(some 15), .mv (.t 14), none⟩, .calm),
       (⟨(some 16), .fad 1 (.t 4), some (15, false)⟩, .calm),
       (⟨(some 17), .ld1 (.t 16), some (15, false)⟩, .reads 0 0),
       (⟨(some 18), .fad 0 (.t 4), some (15, false)⟩, .calm),
       (⟨(some 19), .ld1 (.t 18), some (15, false)⟩, .reads 0 0),
       (⟨(some 20), .call (.c (.func (.func 43) [] [])) [(.t 17), (.t 19), (.c (.int .i64 1048576))], some (15, false)⟩, .anchor),
       (⟨(some 21), .un .not (.t 20), some (15, false)⟩, .calm),
       (⟨(some 22), .pick (.t 15) (.c (.bool true)) (.t 21), none⟩, .calm),
       (⟨(some 23), .mv (.t 22), none⟩, .calm),
       (⟨(some 24), .mv (.t 3), some (23, false)⟩, .calm),
       (⟨(some 25), .bin .gtr (.t 24) (.c (.int .i64 0)), some (23, false)⟩, .calm),
       (⟨(some 26), .mv (.t 25), some (23, false)⟩, .calm),
       (⟨(some 27), .fad 0 (.t 4), some (26, true)⟩, .calm),
       (⟨(some 28), .ld1 (.t 27), some (26, true)⟩, .reads 1 1),
       (⟨(some 29), .mv (.t 0), some (26, true)⟩, .calm),
       (⟨(some 30), .mv (.t 3), some (26, true)⟩, .calm),
       (⟨(some 31), .bin .sub (.t 30) (.c (.int .i64 1)), some (26, true)⟩, .calm),
       (⟨(some 32), .iad none 2 (.t 29) (.t 31), some (26, true)⟩, .calm),
       (⟨(some 33), .fad 1 (.t 32), some (26, true)⟩, .calm),
       (⟨(some 34), .ld1 (.t 33), some (26, true)⟩, .reads 1 1),
       (⟨(some 35), .bin .leq (.t 28) (.t 34), some (26, true)⟩, .calm),
       (⟨(some 36), .pick (.t 26) (.t 35) (.c (.bool false)), some (23, false)⟩, .calm),
       (⟨(some 37), .pick (.t 23) (.c (.bool true)) (.t 36), none⟩, .calm)]) (
     .cond (.t 37) (
      .seq (
      .ops [
        ⟨(some 2), .mv (.c (.bool false)), none⟩]) (
      .ret)) (
      .skip))))) (
    .ops [
      ⟨(some 38), .bin .add (.t 7) (.c (.int .i64 1)), none⟩,
      ⟨(some 7), .mv (.t 38), none⟩]))))))) (
  .seq (
  .ops [
    ⟨(some 39), .mv (.t 0), none⟩,
    ⟨(some 40), .len .sl (.t 39), none⟩,
    ⟨(some 41), .bin .leq (.t 40) (.c (.int .i64 4)), none⟩,
    ⟨(some 2), .mv (.t 41), none⟩]) (
  .ret))), [.tmp 2]⟩
/-- slices.ContainsFunc[[][]paravane/api.Point,[]paravane/api.Point] -/
def x95 : XF := ⟨9, .seq (
  .ops [
    ⟨(some 4), .mv (.c (.bool false)), none⟩]) (
  .seq (
  .ops [
    ⟨(some 5), .mv (.t 0), none⟩,
    ⟨(some 6), .mv (.t 1), none⟩,
    ⟨(some 7), .call (.c (.func (.func 126) [] [])) [(.t 5), (.t 6)], none⟩,
    ⟨(some 8), .bin .geq (.t 7) (.c (.int .i64 0)), none⟩,
    ⟨(some 4), .mv (.t 8), none⟩]) (
  .ret)), [.tmp 4]⟩
/-- paravane/course.cruise$1 -/
def x96 : XF := ⟨6, .seq (
  .ops [
    ⟨(some 2), .mv (.c (.bool false)), none⟩]) (
  .seq (
  .ops [
    ⟨(some 3), .mv (.t 0), none⟩,
    ⟨(some 4), .call (.c (.func (.func 97) [] [])) [(.t 3)], none⟩,
    ⟨(some 5), .bin .neq (.t 4) (.c (.int .i64 0)), none⟩,
    ⟨(some 2), .mv (.t 5), none⟩]) (
  .ret)), [.tmp 2]⟩
/-- paravane/region.CheckField -/
def x97 : XF := ⟨63, .seq (
  .ops [
    ⟨(some 2), .mv (.c (.int .i64 0)), none⟩]) (
  .seq (
  .seq (
  .ops [
    ⟨(some 10), .mv (.t 0), none⟩,
    ⟨(some 11), .len .sl (.t 10), none⟩,
    ⟨(some 12), .call (.c (.func (.func 127) [] [])) [(.t 11), (.c (.int .i64 3)), (.c (.int .i64 8))], none⟩,
    ⟨(some 13), .un .not (.t 12), none⟩]) (
  .cond (.t 13) (
   .seq (
   .ops [
     ⟨(some 2), .mv (.c (.int .i64 12)), none⟩]) (
   .ret)) (
   .skip))) (
  .seq (
  .seq (
  .ops [
    ⟨(some 14), .mv (.t 0), none⟩,
    ⟨(some 15), .len .sl (.t 14), none⟩,
    ⟨(some 16), .mv (.c (.int .i64 0)), none⟩]) (
  .block 0 (
   .loop (
    .seq (
    .ops [
      ⟨(some 17), .bin .lss (.t 16) (.t 15), none⟩]) (
    .seq (
    .cond (.t 17) (
     .skip) (
     .exit 0)) (
    .seq (
    .block 1 (
     .seq (
     .ops [
       ⟨(some 18), .iad none 2 (.t 14) (.t 16), none⟩,
       ⟨(some 19), .ldN 2 (.t 18), none⟩,
       ⟨(some 4), .new 23 [(.int .i64 0), (.int .i64 0)], none⟩,
       ⟨none, .st 2 (.t 4) (.t 19), none⟩]) (
     .seq (
     .ops [
       ⟨(some 20), .ldN 2 (.t 4), none⟩,
       ⟨(some 21), .call (.c (.func (.func 93) [] [])) [(.t 20)], none⟩,
       ⟨(some 22), .bin .neq (.t 21) (.c (.int .i64 0)), none⟩]) (
     .cond (.t 22) (
      .seq (
      .ops [
        ⟨(some 2), .mv (.c (.int .i64 12)), none⟩]) (
      .ret)) (
      .skip))))) (
    .ops [
      ⟨(some 23), .bin .add (.t 16) (.c (.int .i64 1)), none⟩,
      ⟨(some 16), .mv (.t 23), none⟩]))))))) (
  .seq (
  .seq (
  .ops [
    ⟨(some 24), .mv (.t 0), none⟩,
    ⟨(some 25), .len .sl (.t 24), none⟩,
    ⟨(some 26), .mv (.c (.int .i64 0)), none⟩]) (
  .block 2 (
   .loop (
    .seq (
    .ops [
      ⟨(some 27), .bin .lss (.t 26) (.t 25), none⟩]) (
    .seq (
    .cond (.t 27) (
     .skip) (
     .exit 2)) (
    .seq (
    .block 3 (
     .seq (
     .ops [
       ⟨(some 28), .mv (.t 26), none⟩,
       ⟨(some 29), .iad none 2 (.t 24) (.t 26), none⟩,
       ⟨(some 30), .ldN 2 (.t 29), none⟩,
       ⟨(some 6), .new 23 [(.int .i64 0), (.int .i64 0)], none⟩,
       ⟨(some 5), .mv (.t 28), none⟩,
       ⟨none, .st 2 (.t 6) (.t 30), none⟩]) (
     .seq (
     .ops [
       ⟨(some 31), .mv (.t 5), none⟩,
       ⟨(some 32), .bin .add (.t 31) (.c (.int .i64 1)), none⟩,
       ⟨(some 33), .mv (.t 0), none⟩,
       ⟨(some 34), .len .sl (.t 33), none⟩,
       ⟨(some 35), .bin .rem (.t 32) (.t 34), none⟩,
       ⟨(some 7), .mv (.t 35), none⟩]) (
     .seq (
     .ops [
       ⟨(some 36), .mv (.t 0), none⟩,
       ⟨(some 37), .len .sl (.t 36), none⟩,
       ⟨(some 38), .mv (.c (.int .i64 0)), none⟩]) (
     .block 4 (
      .loop (
       .seq (
       .ops [
         ⟨(some 39), .bin .lss (.t 38) (.t 37), none⟩]) (
       .seq (
       .cond (.t 39) (
        .skip) (
        .exit 4)) (
       .seq (
       .block 5 (
        .seq (
        .ops [
          ⟨(some 40), .mv (.t 38), none⟩,
          ⟨(some 41), .iad none 2 (.t 36) (.t 38), none⟩,
          ⟨(some 42), .ldN 2 (.t 41), none⟩,
          ⟨(some 9), .new 23 [(.int .i64 0), (.int .i64 0)], none⟩,
          ⟨(some 8), .mv (.t 40), none⟩,
          ⟨none, .st 2 (.t 9) (.t 42), none⟩]) (
        .seq (
        .draw [
          (⟨(some 43), .mv (.t 8), none⟩, .calm),
          (⟨(some 44), .mv (.t 5), none⟩, .calm),
          (⟨(some 45), .bin .neq (.t 43) (.t 44), none⟩, .calm),
          (⟨(some 46), .mv (.t 45), none⟩, .calm),
          (⟨(some 47), .mv (.t 8), some (46, true)⟩, .calm),
          (⟨(some 48), .mv (.t 7), some (46, true)⟩, .calm),
          (⟨(some 49), .bin .neq (.t 47) (.t 48), some (46, true)⟩, .calm),
          (⟨(some 50), .pick (.t 46) (.t 49) (.c (.bool false)), none⟩, .calm),
          (⟨(some 51), .mv (.t 50), none⟩, .calm),
          (⟨(some 52), .ldN 2 (.t 6), some (51, true)⟩, .reads 0 0),
          (⟨(some 53), .mv (.t 0), some (51, true)⟩, .calm),
          (⟨(some 54), .mv (.t 7), some (51, true)⟩, .calm),
          (⟨(some 55), .iad none 2 (.t 53) (.t 54), some (51, true)⟩, .calm),
          (⟨(some 56), .ldN 2 (.t 55), some (51, true)⟩, .reads 0 0),
          (⟨(some 57), .ldN 2 (.t 9), some (51, true)⟩, .reads 0 0),
          (⟨(some 58), .call (.c (.func (.func 128) [] [])) [(.t 52), (.t 56), (.t 57)], some (51, true)⟩, .anchor),
          (⟨(some 59), .bin .leq (.t 58) (.c (.int .i64 0)), some (51, true)⟩, .calm),
          (⟨(some 60), .pick (.t 51) (.t 59) (.c (.bool false)), none⟩, .calm)]) (
        .cond (.t 60) (
         .seq (
         .ops [
           ⟨(some 2), .mv (.c (.int .i64 12)), none⟩]) (
         .ret)) (
         .skip))))) (
       .ops [
         ⟨(some 61), .bin .add (.t 38) (.c (.int .i64 1)), none⟩,
         ⟨(some 38), .mv (.t 61), none⟩])))))))))) (
    .ops [
      ⟨(some 62), .bin .add (.t 26) (.c (.int .i64 1)), none⟩,
      ⟨(some 26), .mv (.t 62), none⟩]))))))) (
  .seq (
  .ops [
    ⟨(some 2), .mv (.c (.int .i64 0)), none⟩]) (
  .ret))))), [.tmp 2]⟩
/-- slices.ContainsFunc[[]paravane/api.Point,paravane/api.Point] -/
def x98 : XF := ⟨9, .seq (
  .ops [
    ⟨(some 4), .mv (.c (.bool false)), none⟩]) (
  .seq (
  .ops [
    ⟨(some 5), .mv (.t 0), none⟩,
    ⟨(some 6), .mv (.t 1), none⟩,
    ⟨(some 7), .call (.c (.func (.func 129) [] [])) [(.t 5), (.t 6)], none⟩,
    ⟨(some 8), .bin .geq (.t 7) (.c (.int .i64 0)), none⟩,
    ⟨(some 4), .mv (.t 8), none⟩]) (
  .ret)), [.tmp 4]⟩
/-- paravane/course.cruise$2 -/
def x99 : XF := ⟨6, .seq (
  .ops [
    ⟨(some 1), .box 23 (.t 0), none⟩,
    ⟨(some 2), .mv (.c (.bool false)), none⟩]) (
  .seq (
  .ops [
    ⟨(some 3), .ldN 2 (.t 1), none⟩,
    ⟨(some 4), .call (.c (.func (.func 93) [] [])) [(.t 3)], none⟩,
    ⟨(some 5), .bin .neq (.t 4) (.c (.int .i64 0)), none⟩,
    ⟨(some 2), .mv (.t 5), none⟩]) (
  .ret)), [.tmp 2]⟩
/-- paravane/region.Tight -/
def x100 : XF := ⟨19, .seq (
  .ops [
    ⟨(some 1), .box 36 (.t 0), none⟩,
    ⟨(some 2), .new 36 [(.int .i64 0), (.int .i64 0), (.int .i64 0), (.int .i64 0), (.int .i64 0), (.int .i64 0), (.int .i64 0), (.int .i64 0)], none⟩,
    ⟨(some 3), .mv (.c (.int .i64 0)), none⟩]) (
  .seq (
  .seq (
  .ops [
    ⟨(some 5), .ldN 8 (.t 1), none⟩,
    ⟨(some 6), .call (.c (.func (.func 130) [] [])) [(.t 5)], none⟩,
    ⟨(some 4), .mv (.t 6), none⟩]) (
  .seq (
  .ops [
    ⟨(some 7), .mv (.t 4), none⟩,
    ⟨(some 8), .bin .neq (.t 7) (.c (.int .i64 0)), none⟩]) (
  .cond (.t 8) (
   .seq (
   .ops [
     ⟨(some 9), .build [(.int .i64 0), (.int .i64 0), (.int .i64 0), (.int .i64 0), (.int .i64 0), (.int .i64 0), (.int .i64 0), (.int .i64 0)] [], none⟩,
     ⟨(some 10), .mv (.t 4), none⟩,
     ⟨none, .st 8 (.t 2) (.t 9), none⟩,
     ⟨(some 3), .mv (.t 10), none⟩]) (
   .ret)) (
   .skip)))) (
  .seq (
  .ops [
    ⟨(some 11), .ldN 8 (.t 1), none⟩,
    ⟨(some 12), .call (.c (.func (.func 132) [] [])) [(.t 11)], none⟩,
    ⟨(some 13), .call (.c (.func (.func 133) [] [])) [(.t 12)], none⟩,
    ⟨(some 14), .ext 0 (.t 13), none⟩,
    ⟨(some 15), .ext 1 (.t 13), none⟩,
    ⟨(some 16), .call (.c (.func (.func 131) [] [])) [(.t 14), (.t 15)], none⟩,
    ⟨(some 17), .ext 0 (.t 16), none⟩,
    ⟨(some 18), .ext 1 (.t 16), none⟩,
    ⟨none, .st 8 (.t 2) (.t 17), none⟩,
    ⟨(some 3), .mv (.t 18), none⟩]) (
  .ret))), [.cellN 2 8, .tmp 3]⟩
/-- paravane/paravaneref01.CheckPoint -/
def x101 : XF := ⟨6, .seq (
  .ops [
    ⟨(some 1), .box 23 (.t 0), none⟩,
    ⟨(some 2), .mv (.c (.int .i64 0)), none⟩]) (
  .seq (
  .seq (
  .ops [
    ⟨(some 3), .ldN 2 (.t 1), none⟩,
    ⟨(some 4), .call (.c (.func (.func 102) [] [])) [(.t 3)], none⟩,
    ⟨(some 5), .un .not (.t 4), none⟩]) (
  .cond (.t 5) (
   .seq (
   .ops [
     ⟨(some 2), .mv (.c (.int .i64 10)), none⟩]) (
   .ret)) (
   .skip))) (
  .seq (
  .ops [
    ⟨(some 2), .mv (.c (.int .i64 0)), none⟩]) (
  .ret))), [.tmp 2]⟩
/-- paravane/paravaneref01.place -/
def x102 : XF := ⟨11, .seq (
  .ops [
    ⟨(some 1), .box 23 (.t 0), none⟩,
    ⟨(some 2), .mv (.c (.bool false)), none⟩]) (
  .seq (
  .ops [
    ⟨(some 3), .fad 0 (.t 1), none⟩,
    ⟨(some 4), .ld1 (.t 3), none⟩,
    ⟨(some 5), .call (.c (.func (.func 40) [] [])) [(.t 4), (.c (.int .i64 (-32768))), (.c (.int .i64 32768))], none⟩,
    ⟨(some 6), .mv (.t 5), none⟩,
    ⟨(some 7), .fad 1 (.t 1), some (6, true)⟩,
    ⟨(some 8), .ld1 (.t 7), some (6, true)⟩,
    ⟨(some 9), .call (.c (.func (.func 40) [] [])) [(.t 8), (.c (.int .i64 (-32768))), (.c (.int .i64 32768))], some (6, true)⟩,
    ⟨(some 10), .pick (.t 6) (.t 9) (.c (.bool false)), none⟩,
    ⟨(some 2), .mv (.t 10), none⟩]) (
  .ret)), [.tmp 2]⟩
/-- paravane/paravaneref01.turn -/
def x103 : XF := ⟨30, .seq (
  .ops [
    ⟨(some 3), .box 23 (.t 0), none⟩,
    ⟨(some 4), .box 23 (.t 1), none⟩,
    ⟨(some 5), .box 23 (.t 2), none⟩,
    ⟨(some 6), .mv (.c (.int .i64 0)), none⟩]) (
  .seq (
  .ops [
    ⟨(some 7), .fad 0 (.t 4), none⟩,
    ⟨(some 8), .ld1 (.t 7), none⟩,
    ⟨(some 9), .fad 0 (.t 3), none⟩,
    ⟨(some 10), .ld1 (.t 9), none⟩,
    ⟨(some 11), .bin .sub (.t 8) (.t 10), none⟩,
    ⟨(some 12), .fad 1 (.t 5), none⟩,
    ⟨(some 13), .ld1 (.t 12), none⟩,
    ⟨(some 14), .fad 1 (.t 3), none⟩,
    ⟨(some 15), .ld1 (.t 14), none⟩,
    ⟨(some 16), .bin .sub (.t 13) (.t 15), none⟩,
    ⟨(some 17), .bin .mul (.t 11) (.t 16), none⟩,
    ⟨(some 18), .fad 1 (.t 4), none⟩,
    ⟨(some 19), .ld1 (.t 18), none⟩,
    ⟨(some 20), .fad 1 (.t 3), none⟩,
    ⟨(some 21), .ld1 (.t 20), none⟩,
    ⟨(some 22), .bin .sub (.t 19) (.t 21), none⟩,
    ⟨(some 23), .fad 0 (.t 5), none⟩,
    ⟨(some 24), .ld1 (.t 23), none⟩,
    ⟨(some 25), .fad 0 (.t 3), none⟩,
    ⟨(some 26), .ld1 (.t 25), none⟩,
    ⟨(some 27), .bin .sub (.t 24) (.t 26), none⟩,
    ⟨(some 28), .bin .mul (.t 22) (.t 27), none⟩,
    ⟨(some 29), .bin .sub (.t 17) (.t 28), none⟩,
    ⟨(some 6), .mv (.t 29), none⟩]) (
  .ret)), [.tmp 6]⟩
/-- paravane/paravaneref01.ends -/
def x104 : XF := ⟨23, .seq (
  .ops [
    ⟨(some 2), .box 34 (.t 0), none⟩,
    ⟨(some 4), .mv (.c (.bool false)), none⟩]) (
  .seq (
  .ops [
    ⟨(some 5), .fad 0 (.t 2), none⟩,
    ⟨(some 6), .ld1 (.t 5), none⟩,
    ⟨(some 7), .mv (.t 1), none⟩,
    ⟨(some 8), .un .neg (.t 7), none⟩,
    ⟨(some 9), .bin .geq (.t 6) (.t 8), none⟩,
    ⟨(some 10), .mv (.t 9), none⟩,
    ⟨(some 11), .fad 0 (.t 2), some (10, true)⟩,
    ⟨(some 12), .ld1 (.t 11), some (10, true)⟩,
    ⟨(some 13), .fad 1 (.t 2), some (10, true)⟩,
    ⟨(some 14), .ld1 (.t 13), some (10, true)⟩,
    ⟨(some 15), .bin .leq (.t 12) (.t 14), some (10, true)⟩,
    ⟨(some 16), .pick (.t 10) (.t 15) (.c (.bool false)), none⟩,
    ⟨(some 17), .mv (.t 16), none⟩,
    ⟨(some 18), .fad 1 (.t 2), some (17, true)⟩,
    ⟨(some 19), .ld1 (.t 18), some (17, true)⟩,
    ⟨(some 20), .mv (.t 1), some (17, true)⟩,
    ⟨(some 21), .bin .leq (.t 19) (.t 20), some (17, true)⟩,
    ⟨(some 22), .pick (.t 17) (.t 21) (.c (.bool false)), none⟩,
    ⟨(some 4), .mv (.t 22), none⟩]) (
  .ret)), [.tmp 4]⟩
/-- paravane/paravaneref01.hulls -/
def x105 : XF := ⟨30, .seq (
  .ops [
    ⟨(some 2), .new 36 [(.int .i64 0), (.int .i64 0), (.int .i64 0), (.int .i64 0), (.int .i64 0), (.int .i64 0), (.int .i64 0), (.int .i64 0)], none⟩,
    ⟨(some 3), .mv (.c (.int .i64 0)), none⟩]) (
  .seq (
  .ops [
    ⟨(some 6), .build [(.int .i64 0), (.int .i64 0), (.int .i64 0), (.int .i64 0), (.int .i64 0), (.int .i64 0), (.int .i64 0), (.int .i64 0), (.bool false)] [], none⟩,
    ⟨(some 7), .box 198 (.t 6), none⟩,
    ⟨(some 4), .mv (.t 7), none⟩]) (
  .seq (
  .seq (
  .ops [
    ⟨(some 5), .mv (.c (.int .i64 0)), none⟩]) (
  .block 0 (
   .loop (
    .seq (
    .seq (
    .ops [
      ⟨(some 8), .mv (.t 5), none⟩,
      ⟨(some 9), .mv (.t 0), none⟩,
      ⟨(some 10), .len .sl (.t 9), none⟩,
      ⟨(some 11), .bin .lss (.t 8) (.t 10), none⟩]) (
    .cond (.t 11) (
     .skip) (
     .exit 0))) (
    .seq (
    .block 1 (
     .ops [
       ⟨(some 14), .mv (.t 4), none⟩,
       ⟨(some 15), .mv (.t 0), none⟩,
       ⟨(some 16), .mv (.t 5), none⟩,
       ⟨(some 17), .iad none 8 (.t 15) (.t 16), none⟩,
       ⟨(some 18), .ldN 8 (.t 17), none⟩,
       ⟨(some 19), .call (.c (.func (.func 134) [] [])) [(.t 14), (.t 18)], none⟩])) (
    .ops [
      ⟨(some 12), .mv (.t 5), none⟩,
      ⟨(some 13), .bin .add (.t 12) (.c (.int .i64 1)), none⟩,
      ⟨(some 5), .mv (.t 13), none⟩])))))) (
  .seq (
  .seq (
  .ops [
    ⟨(some 20), .mv (.t 4), none⟩,
    ⟨(some 21), .nilc (.t 20), none⟩,
    ⟨(some 22), .fad 8 (.t 21), none⟩,
    ⟨(some 23), .ld1 (.t 22), none⟩,
    ⟨(some 24), .un .not (.t 23), none⟩]) (
  .cond (.t 24) (
   .seq (
   .ops [
     ⟨(some 25), .build [(.int .i64 0), (.int .i64 0), (.int .i64 0), (.int .i64 0), (.int .i64 0), (.int .i64 0), (.int .i64 0), (.int .i64 0)] [], none⟩,
     ⟨none, .st 8 (.t 2) (.t 25), none⟩,
     ⟨(some 3), .mv (.c (.int .i64 4)), none⟩]) (
   .ret)) (
   .skip))) (
  .seq (
  .ops [
    ⟨(some 26), .mv (.t 4), none⟩,
    ⟨(some 27), .nilc (.t 26), none⟩,
    ⟨(some 28), .fad 0 (.t 27), none⟩,
    ⟨(some 29), .ldN 8 (.t 28), none⟩,
    ⟨none, .st 8 (.t 2) (.t 29), none⟩,
    ⟨(some 3), .mv (.c (.int .i64 0)), none⟩]) (
  .ret))))), [.cellN 2 8, .tmp 3]⟩
/-- paravane/region.Root -/
def x106 : XF := ⟨9, .seq (
  .ops [
    ⟨(some 2), .mv (.c (.int .i64 0)), none⟩,
    ⟨(some 3), .mv (.c (.int .i64 0)), none⟩]) (
  .seq (
  .seq (
  .ops [
    ⟨(some 4), .mv (.t 0), none⟩,
    ⟨(some 5), .call (.c (.func (.func 127) [] [])) [(.t 4), (.c (.int .i64 0)), (.c (.int .i64 1099511627776))], none⟩,
    ⟨(some 6), .un .not (.t 5), none⟩]) (
  .cond (.t 6) (
   .seq (
   .ops [
     ⟨(some 2), .mv (.c (.int .i64 0)), none⟩,
     ⟨(some 3), .mv (.c (.int .i64 7)), none⟩]) (
   .ret)) (
   .skip))) (
  .seq (
  .ops [
    ⟨(some 7), .mv (.t 0), none⟩,
    ⟨(some 8), .call (.c (.func (.func 135) [] [])) [(.t 7)], none⟩,
    ⟨(some 2), .mv (.t 8), none⟩,
    ⟨(some 3), .mv (.c (.int .i64 0)), none⟩]) (
  .ret))), [.tmp 2, .tmp 3]⟩
/-- paravane/paravaneref01.Root -/
def x107 : XF := ⟨26, .seq (
  .ops [
    ⟨(some 2), .mv (.c (.int .i64 0)), none⟩,
    ⟨(some 3), .mv (.c (.int .i64 0)), none⟩]) (
  .seq (
  .seq (
  .ops [
    ⟨(some 7), .mv (.t 0), none⟩,
    ⟨(some 8), .call (.c (.func (.func 40) [] [])) [(.t 7), (.c (.int .i64 0)), (.c (.int .i64 1099511627776))], none⟩,
    ⟨(some 9), .un .not (.t 8), none⟩]) (
  .cond (.t 9) (
   .seq (
   .ops [
     ⟨(some 2), .mv (.c (.int .i64 0)), none⟩,
     ⟨(some 3), .mv (.c (.int .i64 7)), none⟩]) (
   .ret)) (
   .skip))) (
  .seq (
  .ops [
    ⟨(some 4), .mv (.c (.int .i64 0)), none⟩,
    ⟨(some 5), .mv (.c (.int .i64 2097152)), none⟩]) (
  .seq (
  .block 0 (
   .loop (
    .seq (
    .seq (
    .ops [
      ⟨(some 10), .mv (.t 5), none⟩,
      ⟨(some 11), .mv (.t 4), none⟩,
      ⟨(some 12), .bin .sub (.t 10) (.t 11), none⟩,
      ⟨(some 13), .bin .gtr (.t 12) (.c (.int .i64 1)), none⟩]) (
    .cond (.t 13) (
     .skip) (
     .exit 0))) (
    .block 1 (
     .seq (
     .ops [
       ⟨(some 14), .mv (.t 4), none⟩,
       ⟨(some 15), .mv (.t 5), none⟩,
       ⟨(some 16), .bin .add (.t 14) (.t 15), none⟩,
       ⟨(some 17), .bin .quo (.t 16) (.c (.int .i64 2)), none⟩,
       ⟨(some 6), .mv (.t 17), none⟩]) (
     .seq (
     .ops [
       ⟨(some 18), .mv (.t 6), none⟩,
       ⟨(some 19), .mv (.t 6), none⟩,
       ⟨(some 20), .bin .mul (.t 18) (.t 19), none⟩,
       ⟨(some 21), .mv (.t 0), none⟩,
       ⟨(some 22), .bin .leq (.t 20) (.t 21), none⟩]) (
     .cond (.t 22) (
      .ops [
        ⟨(some 23), .mv (.t 6), none⟩,
        ⟨(some 4), .mv (.t 23), none⟩]) (
      .ops [
        ⟨(some 24), .mv (.t 6), none⟩,
        ⟨(some 5), .mv (.t 24), none⟩])))))))) (
  .seq (
  .ops [
    ⟨(some 25), .mv (.t 4), none⟩,
    ⟨(some 2), .mv (.t 25), none⟩,
    ⟨(some 3), .mv (.c (.int .i64 0)), none⟩]) (
  .ret))))), [.tmp 2, .tmp 3]⟩
/-- paravane/paravaneref00.Up -/
def x108 : XF := ⟨10, .seq (
  .ops [
    ⟨(some 4), .mv (.c (.int .i64 0)), none⟩]) (
  .seq (
  .ops [
    ⟨(some 5), .mv (.t 0), none⟩,
    ⟨(some 6), .un .neg (.t 5), none⟩,
    ⟨(some 7), .mv (.t 1), none⟩,
    ⟨(some 8), .call (.c (.func (.func 136) [] [])) [(.t 6), (.t 7)], none⟩,
    ⟨(some 9), .un .neg (.t 8), none⟩,
    ⟨(some 4), .mv (.t 9), none⟩]) (
  .ret)), [.tmp 4]⟩
/-- paravane/region.Swept -/
def x109 : XF := ⟨36, .seq (
  .ops [
    ⟨(some 3), .box 36 (.t 0), none⟩,
    ⟨(some 4), .box 23 (.t 1), none⟩,
    ⟨(some 5), .box 23 (.t 2), none⟩,
    ⟨(some 6), .new 36 [(.int .i64 0), (.int .i64 0), (.int .i64 0), (.int .i64 0), (.int .i64 0), (.int .i64 0), (.int .i64 0), (.int .i64 0)], none⟩,
    ⟨(some 7), .mv (.c (.int .i64 0)), none⟩]) (
  .seq (
  .ops [
    ⟨(some 12), .ldN 8 (.t 3), none⟩,
    ⟨(some 13), .ldN 2 (.t 4), none⟩,
    ⟨(some 14), .call (.c (.func (.func 137) [] [])) [(.t 12), (.t 13)], none⟩,
    ⟨(some 11), .mv (.t 14), none⟩,
    ⟨(some 15), .ext 0 (.t 11), none⟩,
    ⟨(some 16), .ext 1 (.t 11), none⟩,
    ⟨(some 8), .new 36 [(.int .i64 0), (.int .i64 0), (.int .i64 0), (.int .i64 0), (.int .i64 0), (.int .i64 0), (.int .i64 0), (.int .i64 0)], none⟩,
    ⟨none, .st 8 (.t 8) (.t 15), none⟩,
    ⟨(some 9), .mv (.t 16), none⟩]) (
  .seq (
  .seq (
  .ops [
    ⟨(some 17), .mv (.t 9), none⟩,
    ⟨(some 18), .bin .neq (.t 17) (.c (.int .i64 0)), none⟩]) (
  .cond (.t 18) (
   .seq (
   .ops [
     ⟨(some 19), .build [(.int .i64 0), (.int .i64 0), (.int .i64 0), (.int .i64 0), (.int .i64 0), (.int .i64 0), (.int .i64 0), (.int .i64 0)] [], none⟩,
     ⟨(some 20), .mv (.t 9), none⟩,
     ⟨none, .st 8 (.t 6) (.t 19), none⟩,
     ⟨(some 7), .mv (.t 20), none⟩]) (
   .ret)) (
   .skip))) (
  .seq (
  .ops [
    ⟨(some 22), .ldN 8 (.t 3), none⟩,
    ⟨(some 23), .ldN 2 (.t 5), none⟩,
    ⟨(some 24), .call (.c (.func (.func 137) [] [])) [(.t 22), (.t 23)], none⟩,
    ⟨(some 21), .mv (.t 24), none⟩,
    ⟨(some 25), .ext 0 (.t 21), none⟩,
    ⟨(some 26), .ext 1 (.t 21), none⟩,
    ⟨(some 10), .new 36 [(.int .i64 0), (.int .i64 0), (.int .i64 0), (.int .i64 0), (.int .i64 0), (.int .i64 0), (.int .i64 0), (.int .i64 0)], none⟩,
    ⟨none, .st 8 (.t 10) (.t 25), none⟩,
    ⟨(some 9), .mv (.t 26), none⟩]) (
  .seq (
  .seq (
  .ops [
    ⟨(some 27), .mv (.t 9), none⟩,
    ⟨(some 28), .bin .neq (.t 27) (.c (.int .i64 0)), none⟩]) (
  .cond (.t 28) (
   .seq (
   .ops [
     ⟨(some 29), .build [(.int .i64 0), (.int .i64 0), (.int .i64 0), (.int .i64 0), (.int .i64 0), (.int .i64 0), (.int .i64 0), (.int .i64 0)] [], none⟩,
     ⟨(some 30), .mv (.t 9), none⟩,
     ⟨none, .st 8 (.t 6) (.t 29), none⟩,
     ⟨(some 7), .mv (.t 30), none⟩]) (
   .ret)) (
   .skip))) (
  .seq (
  .ops [
    ⟨(some 31), .ldN 8 (.t 8), none⟩,
    ⟨(some 32), .ldN 8 (.t 10), none⟩,
    ⟨(some 33), .call (.c (.func (.func 138) [] [])) [(.t 31), (.t 32)], none⟩,
    ⟨(some 34), .ext 0 (.t 33), none⟩,
    ⟨(some 35), .ext 1 (.t 33), none⟩,
    ⟨none, .st 8 (.t 6) (.t 34), none⟩,
    ⟨(some 7), .mv (.t 35), none⟩]) (
  .ret)))))), [.cellN 6 8, .tmp 7]⟩
/-- (*paravane/course.chart).clear$1 -/
def x110 : XF := ⟨14, .seq (
  .ops [
    ⟨(some 3), .mv (.c (.bool false)), none⟩]) (
  .seq (
  .ops [
    ⟨(some 7), .mv (.t 0), none⟩,
    ⟨(some 8), .ldN 8 (.t 1), none⟩,
    ⟨(some 9), .call (.c (.func (.func 111) [] [])) [(.t 7), (.t 8)], none⟩,
    ⟨(some 6), .mv (.t 9), none⟩,
    ⟨(some 10), .ext 0 (.t 6), none⟩,
    ⟨(some 11), .ext 1 (.t 6), none⟩,
    ⟨(some 4), .new 23 [(.int .i64 0), (.int .i64 0)], none⟩,
    ⟨none, .st 2 (.t 4) (.t 10), none⟩,
    ⟨(some 5), .mv (.t 11), none⟩]) (
  .seq (
  .ops [
    ⟨(some 12), .mv (.t 5), none⟩,
    ⟨(some 13), .bin .eql (.t 12) (.c (.int .i64 0)), none⟩,
    ⟨(some 3), .mv (.t 13), none⟩]) (
  .ret))), [.tmp 3]⟩
/-- paravane/region.Hits -/
def x111 : XF := ⟨87, .seq (
  .ops [
    ⟨(some 2), .box 32 (.t 0), none⟩,
    ⟨(some 3), .box 36 (.t 1), none⟩,
    ⟨(some 4), .new 23 [(.int .i64 0), (.int .i64 0)], none⟩,
    ⟨(some 5), .new 24 [(.int .i64 0)], none⟩]) (
  .scope (
   .seq (
   .seq (
   .draw [
     (⟨(some 12), .ld1 (.t 2), none⟩, .reads 0 0),
     (⟨(some 13), .call (.c (.func (.func 97) [] [])) [(.t 12)], none⟩, .anchor),
     (⟨(some 14), .ldN 8 (.t 3), none⟩, .reads 0 1),
     (⟨(some 15), .call (.c (.func (.func 130) [] [])) [(.t 14)], none⟩, .anchor),
     (⟨(some 16), .bsl 24 1 2 [(.int .i64 0)] [(0, 1, (.t 13)), (1, 1, (.t 15))], none⟩, .new),
     (⟨(some 17), .call (.c (.func (.func 139) [] [])) [(.t 16)], none⟩, .anchor),
     (⟨(some 6), .mv (.t 17), none⟩, .calm)]) (
   .seq (
   .ops [
     ⟨(some 18), .mv (.t 6), none⟩,
     ⟨(some 19), .bin .neq (.t 18) (.c (.int .i64 0)), none⟩]) (
   .cond (.t 19) (
    .seq (
    .ops [
      ⟨(some 20), .build [(.int .i64 0), (.int .i64 0)] [], none⟩,
      ⟨(some 21), .mv (.t 6), none⟩,
      ⟨none, .st 2 (.t 4) (.t 20), none⟩,
      ⟨none, .st 1 (.t 5) (.t 21), none⟩]) (
    .ret)) (
    .skip)))) (
   .seq (
   .skip) (
   .seq (
   .seq (
   .ops [
     ⟨(some 22), .ldN 8 (.t 3), none⟩,
     ⟨(some 23), .call (.c (.func (.func 132) [] [])) [(.t 22)], none⟩,
     ⟨(some 24), .call (.c (.func (.func 140) [] [])) [(.t 23)], none⟩]) (
   .block 0 (
    .rfun (.t 24) [25] (
     .ops [
       ⟨(some 7), .new 206 [(.int .i64 0), (.int .i64 0), (.int .i64 0)], none⟩,
       ⟨none, .st 3 (.t 7) (.t 25), none⟩]) (
     .block 1 (
      .seq (
      .seq (
      .ops [
        ⟨(some 26), .ld1 (.t 2), none⟩,
        ⟨(some 27), .call (.c (.func (.func 141) [] [])) [(.t 26)], none⟩]) (
      .block 2 (
       .rfun (.t 27) [28, 29] (
        .seq (
        .ops [
          ⟨(some 8), .new 23 [(.int .i64 0), (.int .i64 0)], none⟩,
          ⟨none, .st 2 (.t 8) (.t 28), none⟩]) (
        .ops [
          ⟨(some 9), .new 23 [(.int .i64 0), (.int .i64 0)], none⟩,
          ⟨none, .st 2 (.t 9) (.t 29), none⟩])) (
        .block 3 (
         .seq (
         .ops [
           ⟨(some 30), .fad 0 (.t 9), none⟩,
           ⟨(some 31), .ld1 (.t 30), none⟩,
           ⟨(some 32), .fad 0 (.t 8), none⟩,
           ⟨(some 33), .ld1 (.t 32), none⟩,
           ⟨(some 34), .bin .sub (.t 31) (.t 33), none⟩,
           ⟨(some 10), .mv (.t 34), none⟩]) (
         .seq (
         .ops [
           ⟨(some 35), .mv (.t 10), none⟩,
           ⟨(some 36), .fad 1 (.t 8), none⟩,
           ⟨(some 37), .ld1 (.t 36), none⟩,
           ⟨(some 38), .bin .mul (.t 35) (.t 37), none⟩,
           ⟨(some 39), .fad 1 (.t 9), none⟩,
           ⟨(some 40), .ld1 (.t 39), none⟩,
           ⟨(some 41), .fad 1 (.t 8), none⟩,
           ⟨(some 42), .ld1 (.t 41), none⟩,
           ⟨(some 43), .bin .sub (.t 40) (.t 42), none⟩,
           ⟨(some 44), .fad 0 (.t 7), none⟩,
           ⟨(some 45), .ld1 (.t 44), none⟩,
           ⟨(some 46), .fad 0 (.t 8), none⟩,
           ⟨(some 47), .ld1 (.t 46), none⟩,
           ⟨(some 48), .bin .sub (.t 45) (.t 47), none⟩,
           ⟨(some 49), .bin .mul (.t 43) (.t 48), none⟩,
           ⟨(some 50), .bin .add (.t 38) (.t 49), none⟩,
           ⟨(some 11), .mv (.t 50), none⟩]) (
         .block 4 (
          .seq (
          .ops [
            ⟨(some 52), .mv (.t 10), none⟩,
            ⟨(some 53), .bin .gtr (.t 52) (.c (.int .i64 0)), none⟩,
            ⟨(some 51), .mv (.t 53), none⟩]) (
          .cond (.t 51) (
           .draw [
             (⟨(some 54), .fad 1 (.t 7), none⟩, .calm),
             (⟨(some 55), .ld1 (.t 54), none⟩, .reads 0 1),
             (⟨(some 56), .mv (.t 11), none⟩, .calm),
             (⟨(some 57), .mv (.t 10), none⟩, .calm),
             (⟨(some 58), .call (.c (.func (.func 142) [] [])) [(.t 56), (.t 57)], none⟩, .anchor),
             (⟨(some 59), .max [(.t 55), (.t 58)], none⟩, .calm),
             (⟨(some 60), .fad 1 (.t 7), none⟩, .calm),
             (⟨none, .st 1 (.t 60) (.t 59), none⟩, .anchor)]) (
           .seq (
           .ops [
             ⟨(some 62), .mv (.t 10), none⟩,
             ⟨(some 63), .bin .lss (.t 62) (.c (.int .i64 0)), none⟩,
             ⟨(some 61), .mv (.t 63), none⟩]) (
           .cond (.t 61) (
            .draw [
              (⟨(some 64), .fad 2 (.t 7), none⟩, .calm),
              (⟨(some 65), .ld1 (.t 64), none⟩, .reads 0 1),
              (⟨(some 66), .mv (.t 11), none⟩, .calm),
              (⟨(some 67), .un .neg (.t 66), none⟩, .calm),
              (⟨(some 68), .mv (.t 10), none⟩, .calm),
              (⟨(some 69), .un .neg (.t 68), none⟩, .calm),
              (⟨(some 70), .call (.c (.func (.func 143) [] [])) [(.t 67), (.t 69)], none⟩, .anchor),
              (⟨(some 71), .min [(.t 65), (.t 70)], none⟩, .calm),
              (⟨(some 72), .fad 2 (.t 7), none⟩, .calm),
              (⟨none, .st 1 (.t 72) (.t 71), none⟩, .anchor)]) (
            .seq (
            .ops [
              ⟨(some 74), .mv (.t 11), none⟩,
              ⟨(some 75), .bin .gtr (.t 74) (.c (.int .i64 0)), none⟩,
              ⟨(some 73), .mv (.t 75), none⟩]) (
            .cond (.t 73) (
             .exit 1) (
             .skip)))))))))))))) (
      .seq (
      .ops [
        ⟨(some 76), .fad 1 (.t 7), none⟩,
        ⟨(some 77), .ld1 (.t 76), none⟩,
        ⟨(some 78), .fad 2 (.t 7), none⟩,
        ⟨(some 79), .ld1 (.t 78), none⟩,
        ⟨(some 80), .bin .leq (.t 77) (.t 79), none⟩]) (
      .cond (.t 80) (
       .seq (
       .ops [
         ⟨(some 81), .fad 0 (.t 7), none⟩,
         ⟨(some 82), .ld1 (.t 81), none⟩,
         ⟨(some 83), .fad 1 (.t 7), none⟩,
         ⟨(some 84), .ld1 (.t 83), none⟩,
         ⟨(some 85), .build [(.int .i64 0), (.int .i64 0)] [(0, 1, (.t 82)), (1, 1, (.t 84))], none⟩,
         ⟨none, .st 2 (.t 4) (.t 85), none⟩,
         ⟨none, .st 1 (.t 5) (.c (.int .i64 0)), none⟩]) (
       .ret)) (
       .skip)))))))) (
   .seq (
   .ops [
     ⟨(some 86), .build [(.int .i64 0), (.int .i64 0)] [], none⟩,
     ⟨none, .st 2 (.t 4) (.t 86), none⟩,
     ⟨none, .st 1 (.t 5) (.c (.int .i64 4)), none⟩]) (
   .ret)))))), [.cellN 4 2, .cell1 5]⟩
/-- paravane/paravaneref01.Swept -/
def x112 : XF := ⟨36, .seq (
  .ops [
    ⟨(some 3), .box 36 (.t 0), none⟩,
    ⟨(some 4), .box 23 (.t 1), none⟩,
    ⟨(some 5), .box 23 (.t 2), none⟩,
    ⟨(some 6), .new 36 [(.int .i64 0), (.int .i64 0), (.int .i64 0), (.int .i64 0), (.int .i64 0), (.int .i64 0), (.int .i64 0), (.int .i64 0)], none⟩,
    ⟨(some 7), .mv (.c (.int .i64 0)), none⟩]) (
  .seq (
  .ops [
    ⟨(some 12), .ldN 8 (.t 3), none⟩,
    ⟨(some 13), .ldN 2 (.t 4), none⟩,
    ⟨(some 14), .call (.c (.func (.func 144) [] [])) [(.t 12), (.t 13)], none⟩,
    ⟨(some 11), .mv (.t 14), none⟩,
    ⟨(some 15), .ext 0 (.t 11), none⟩,
    ⟨(some 16), .ext 1 (.t 11), none⟩,
    ⟨(some 8), .new 36 [(.int .i64 0), (.int .i64 0), (.int .i64 0), (.int .i64 0), (.int .i64 0), (.int .i64 0), (.int .i64 0), (.int .i64 0)], none⟩,
    ⟨none, .st 8 (.t 8) (.t 15), none⟩,
    ⟨(some 9), .mv (.t 16), none⟩]) (
  .seq (
  .seq (
  .ops [
    ⟨(some 17), .mv (.t 9), none⟩,
    ⟨(some 18), .bin .neq (.t 17) (.c (.int .i64 0)), none⟩]) (
  .cond (.t 18) (
   .seq (
   .ops [
     ⟨(some 19), .build [(.int .i64 0), (.int .i64 0), (.int .i64 0), (.int .i64 0), (.int .i64 0), (.int .i64 0), (.int .i64 0), (.int .i64 0)] [], none⟩,
     ⟨(some 20), .mv (.t 9), none⟩,
     ⟨none, .st 8 (.t 6) (.t 19), none⟩,
     ⟨(some 7), .mv (.t 20), none⟩]) (
   .ret)) (
   .skip))) (
  .seq (
  .ops [
    ⟨(some 22), .ldN 8 (.t 3), none⟩,
    ⟨(some 23), .ldN 2 (.t 5), none⟩,
    ⟨(some 24), .call (.c (.func (.func 144) [] [])) [(.t 22), (.t 23)], none⟩,
    ⟨(some 21), .mv (.t 24), none⟩,
    ⟨(some 25), .ext 0 (.t 21), none⟩,
    ⟨(some 26), .ext 1 (.t 21), none⟩,
    ⟨(some 10), .new 36 [(.int .i64 0), (.int .i64 0), (.int .i64 0), (.int .i64 0), (.int .i64 0), (.int .i64 0), (.int .i64 0), (.int .i64 0)], none⟩,
    ⟨none, .st 8 (.t 10) (.t 25), none⟩,
    ⟨(some 9), .mv (.t 26), none⟩]) (
  .seq (
  .seq (
  .ops [
    ⟨(some 27), .mv (.t 9), none⟩,
    ⟨(some 28), .bin .neq (.t 27) (.c (.int .i64 0)), none⟩]) (
  .cond (.t 28) (
   .seq (
   .ops [
     ⟨(some 29), .build [(.int .i64 0), (.int .i64 0), (.int .i64 0), (.int .i64 0), (.int .i64 0), (.int .i64 0), (.int .i64 0), (.int .i64 0)] [], none⟩,
     ⟨(some 30), .mv (.t 9), none⟩,
     ⟨none, .st 8 (.t 6) (.t 29), none⟩,
     ⟨(some 7), .mv (.t 30), none⟩]) (
   .ret)) (
   .skip))) (
  .seq (
  .ops [
    ⟨(some 31), .ldN 8 (.t 8), none⟩,
    ⟨(some 32), .ldN 8 (.t 10), none⟩,
    ⟨(some 33), .call (.c (.func (.func 145) [] [])) [(.t 31), (.t 32)], none⟩,
    ⟨(some 34), .ext 0 (.t 33), none⟩,
    ⟨(some 35), .ext 1 (.t 33), none⟩,
    ⟨none, .st 8 (.t 6) (.t 34), none⟩,
    ⟨(some 7), .mv (.t 35), none⟩]) (
  .ret)))))), [.cellN 6 8, .tmp 7]⟩
/-- paravane/paravaneref01.Hits -/
def x113 : XF := ⟨60, .seq (
  .ops [
    ⟨(some 3), .box 36 (.t 1), none⟩,
    ⟨(some 4), .new 23 [(.int .i64 0), (.int .i64 0)], none⟩,
    ⟨(some 5), .mv (.c (.int .i64 0)), none⟩]) (
  .seq (
  .seq (
  .ops [
    ⟨(some 10), .mv (.t 0), none⟩,
    ⟨(some 11), .ldN 8 (.t 3), none⟩,
    ⟨(some 12), .call (.c (.func (.func 146) [] [])) [(.t 10), (.t 11)], none⟩,
    ⟨(some 6), .mv (.t 12), none⟩]) (
  .seq (
  .ops [
    ⟨(some 13), .mv (.t 6), none⟩,
    ⟨(some 14), .bin .neq (.t 13) (.c (.int .i64 0)), none⟩]) (
  .cond (.t 14) (
   .seq (
   .ops [
     ⟨(some 15), .build [(.int .i64 0), (.int .i64 0)] [], none⟩,
     ⟨(some 16), .mv (.t 6), none⟩,
     ⟨none, .st 2 (.t 4) (.t 15), none⟩,
     ⟨(some 5), .mv (.t 16), none⟩]) (
   .ret)) (
   .skip)))) (
  .seq (
  .seq (
  .ops [
    ⟨(some 17), .fad 0 (.t 3), none⟩,
    ⟨(some 18), .fad 0 (.t 17), none⟩,
    ⟨(some 19), .ld1 (.t 18), none⟩,
    ⟨(some 7), .mv (.t 19), none⟩]) (
  .block 0 (
   .loop (
    .seq (
    .seq (
    .ops [
      ⟨(some 20), .mv (.t 7), none⟩,
      ⟨(some 21), .fad 0 (.t 3), none⟩,
      ⟨(some 22), .fad 1 (.t 21), none⟩,
      ⟨(some 23), .ld1 (.t 22), none⟩,
      ⟨(some 24), .bin .leq (.t 20) (.t 23), none⟩]) (
    .cond (.t 24) (
     .skip) (
     .exit 0))) (
    .seq (
    .block 1 (
     .seq (
     .ops [
       ⟨(some 27), .ldN 8 (.t 3), none⟩,
       ⟨(some 28), .mv (.t 7), none⟩,
       ⟨(some 29), .call (.c (.func (.func 147) [] [])) [(.t 27), (.t 28)], none⟩,
       ⟨(some 8), .new 211 [(.int .i64 0), (.int .i64 0), (.int .i64 0)], none⟩,
       ⟨none, .st 3 (.t 8) (.t 29), none⟩]) (
     .seq (
     .seq (
     .ops [
       ⟨(some 9), .mv (.c (.int .i64 0)), none⟩]) (
     .block 2 (
      .loop (
       .seq (
       .seq (
       .ops [
         ⟨(some 30), .mv (.t 9), none⟩,
         ⟨(some 31), .mv (.t 0), none⟩,
         ⟨(some 32), .len .sl (.t 31), none⟩,
         ⟨(some 33), .bin .lss (.t 30) (.t 32), none⟩]) (
       .cond (.t 33) (
        .skip) (
        .exit 2))) (
       .seq (
       .block 3 (
        .draw [
          (⟨(some 36), .ldN 3 (.t 8), none⟩, .reads 0 0),
          (⟨(some 37), .mv (.t 0), none⟩, .calm),
          (⟨(some 38), .mv (.t 9), none⟩, .calm),
          (⟨(some 39), .iad none 2 (.t 37) (.t 38), none⟩, .calm),
          (⟨(some 40), .ldN 2 (.t 39), none⟩, .reads 0 0),
          (⟨(some 41), .mv (.t 0), none⟩, .calm),
          (⟨(some 42), .mv (.t 9), none⟩, .calm),
          (⟨(some 43), .bin .add (.t 42) (.c (.int .i64 1)), none⟩, .calm),
          (⟨(some 44), .mv (.t 0), none⟩, .calm),
          (⟨(some 45), .len .sl (.t 44), none⟩, .calm),
          (⟨(some 46), .bin .rem (.t 43) (.t 45), none⟩, .calm),
          (⟨(some 47), .iad none 2 (.t 41) (.t 46), none⟩, .calm),
          (⟨(some 48), .ldN 2 (.t 47), none⟩, .reads 0 0),
          (⟨(some 49), .call (.c (.func (.func 148) [] [])) [(.t 36), (.t 40), (.t 48)], none⟩, .anchor),
          (⟨none, .st 3 (.t 8) (.t 49), none⟩, .anchor)])) (
       .ops [
         ⟨(some 34), .mv (.t 9), none⟩,
         ⟨(some 35), .bin .add (.t 34) (.c (.int .i64 1)), none⟩,
         ⟨(some 9), .mv (.t 35), none⟩])))))) (
     .seq (
     .ops [
       ⟨(some 50), .fad 1 (.t 8), none⟩,
       ⟨(some 51), .ld1 (.t 50), none⟩,
       ⟨(some 52), .fad 2 (.t 8), none⟩,
       ⟨(some 53), .ld1 (.t 52), none⟩,
       ⟨(some 54), .bin .leq (.t 51) (.t 53), none⟩]) (
     .cond (.t 54) (
      .seq (
      .ops [
        ⟨(some 55), .mv (.t 7), none⟩,
        ⟨(some 56), .fad 1 (.t 8), none⟩,
        ⟨(some 57), .ld1 (.t 56), none⟩,
        ⟨(some 58), .build [(.int .i64 0), (.int .i64 0)] [(0, 1, (.t 55)), (1, 1, (.t 57))], none⟩,
        ⟨none, .st 2 (.t 4) (.t 58), none⟩,
        ⟨(some 5), .mv (.c (.int .i64 0)), none⟩]) (
      .ret)) (
      .skip)))))) (
    .ops [
      ⟨(some 25), .mv (.t 7), none⟩,
      ⟨(some 26), .bin .add (.t 25) (.c (.int .i64 1)), none⟩,
      ⟨(some 7), .mv (.t 26), none⟩])))))) (
  .seq (
  .ops [
    ⟨(some 59), .build [(.int .i64 0), (.int .i64 0)] [], none⟩,
    ⟨none, .st 2 (.t 4) (.t 59), none⟩,
    ⟨(some 5), .mv (.c (.int .i64 4)), none⟩]) (
  .ret)))), [.cellN 4 2, .tmp 5]⟩
/-- (*paravane/course.chart).way -/
def x119 : XF := ⟨28, .seq (
  .ops [
    ⟨(some 3), .box 52 (.t 1), none⟩,
    ⟨(some 4), .new 95 [(.int .i64 0), (.int .i64 0), (.int .i64 0), (.int .i64 0)], none⟩]) (
  .seq (
  .draw [
    (⟨(some 6), .mv (.t 0), none⟩, .calm),
    (⟨(some 7), .nilc (.t 6), none⟩, .calm),
    (⟨(some 8), .fad 0 (.t 7), none⟩, .calm),
    (⟨(some 9), .fad 0 (.t 8), none⟩, .calm),
    (⟨(some 10), .ld1 (.t 9), none⟩, .reads 0 0),
    (⟨(some 11), .fad 0 (.t 3), none⟩, .calm),
    (⟨(some 12), .ld1 (.t 11), none⟩, .reads 0 0),
    (⟨(some 13), .iad none 4 (.t 10) (.t 12), none⟩, .calm),
    (⟨(some 14), .ldN 4 (.t 13), none⟩, .reads 0 0),
    (⟨(some 5), .new 86 [(.int .i64 0), (.int .i64 0), (.int .i64 0), (.int .i64 0)], none⟩, .new),
    (⟨none, .st 4 (.t 5) (.t 14), none⟩, .anchor)]) (
  .seq (
  .seq (
  .ops [
    ⟨(some 15), .fad 1 (.t 3), none⟩,
    ⟨(some 16), .ld1 (.t 15), none⟩,
    ⟨(some 17), .bin .eql (.t 16) (.c (.int .i64 1)), none⟩]) (
  .cond (.t 17) (
   .seq (
   .ops [
     ⟨(some 18), .fad 2 (.t 5), none⟩,
     ⟨(some 19), .ldN 2 (.t 18), none⟩,
     ⟨(some 20), .fad 0 (.t 5), none⟩,
     ⟨(some 21), .ldN 2 (.t 20), none⟩,
     ⟨(some 22), .build [(.int .i64 0), (.int .i64 0), (.int .i64 0), (.int .i64 0)] [(0, 2, (.t 19)), (2, 2, (.t 21))], none⟩,
     ⟨none, .st 4 (.t 4) (.t 22), none⟩]) (
   .ret)) (
   .skip))) (
  .seq (
  .ops [
    ⟨(some 23), .fad 0 (.t 5), none⟩,
    ⟨(some 24), .ldN 2 (.t 23), none⟩,
    ⟨(some 25), .fad 2 (.t 5), none⟩,
    ⟨(some 26), .ldN 2 (.t 25), none⟩,
    ⟨(some 27), .build [(.int .i64 0), (.int .i64 0), (.int .i64 0), (.int .i64 0)] [(0, 2, (.t 24)), (2, 2, (.t 26))], none⟩,
    ⟨none, .st 4 (.t 4) (.t 27), none⟩]) (
  .ret)))), [.cellN 4 4]⟩
/-- slices.IndexFunc[[]int,int] -/
def x122 : XF := ⟨19, .seq (
  .ops [
    ⟨(some 4), .mv (.c (.int .i64 0)), none⟩]) (
  .seq (
  .seq (
  .ops [
    ⟨(some 6), .mv (.t 0), none⟩,
    ⟨(some 7), .len .sl (.t 6), none⟩,
    ⟨(some 8), .mv (.c (.int .i64 0)), none⟩]) (
  .block 0 (
   .loop (
    .seq (
    .ops [
      ⟨(some 9), .bin .lss (.t 8) (.t 7), none⟩]) (
    .seq (
    .cond (.t 9) (
     .skip) (
     .exit 0)) (
    .seq (
    .block 1 (
     .seq (
     .ops [
       ⟨(some 10), .mv (.t 8), none⟩,
       ⟨(some 5), .mv (.t 10), none⟩]) (
     .seq (
     .ops [
       ⟨(some 11), .mv (.t 1), none⟩,
       ⟨(some 12), .mv (.t 0), none⟩,
       ⟨(some 13), .mv (.t 5), none⟩,
       ⟨(some 14), .iad none 1 (.t 12) (.t 13), none⟩,
       ⟨(some 15), .ld1 (.t 14), none⟩,
       ⟨(some 16), .call (.t 11) [(.t 15)], none⟩]) (
     .cond (.t 16) (
      .seq (
      .ops [
        ⟨(some 17), .mv (.t 5), none⟩,
        ⟨(some 4), .mv (.t 17), none⟩]) (
      .ret)) (
      .skip))))) (
    .ops [
      ⟨(some 18), .bin .add (.t 8) (.c (.int .i64 1)), none⟩,
      ⟨(some 8), .mv (.t 18), none⟩]))))))) (
  .seq (
  .ops [
    ⟨(some 4), .mv (.c (.int .i64 (-1))), none⟩]) (
  .ret))), [.tmp 4]⟩
/-- (paravane/region.limit).into -/
def x125 : XF := ⟨11, .seq (
  .ops [
    ⟨(some 4), .mv (.c (.int .i64 0)), none⟩]) (
  .seq (
  .ops [
    ⟨(some 5), .mv (.t 0), none⟩,
    ⟨(some 6), .un .neg (.t 5), none⟩,
    ⟨(some 7), .mv (.t 1), none⟩,
    ⟨(some 8), .mv (.t 0), none⟩,
    ⟨(some 9), .min [(.t 7), (.t 8)], none⟩,
    ⟨(some 10), .max [(.t 6), (.t 9)], none⟩,
    ⟨(some 4), .mv (.t 10), none⟩]) (
  .ret)), [.tmp 4]⟩
/-- slices.IndexFunc[[][]paravane/api.Point,[]paravane/api.Point] -/
def x126 : XF := ⟨19, .seq (
  .ops [
    ⟨(some 4), .mv (.c (.int .i64 0)), none⟩]) (
  .seq (
  .seq (
  .ops [
    ⟨(some 6), .mv (.t 0), none⟩,
    ⟨(some 7), .len .sl (.t 6), none⟩,
    ⟨(some 8), .mv (.c (.int .i64 0)), none⟩]) (
  .block 0 (
   .loop (
    .seq (
    .ops [
      ⟨(some 9), .bin .lss (.t 8) (.t 7), none⟩]) (
    .seq (
    .cond (.t 9) (
     .skip) (
     .exit 0)) (
    .seq (
    .block 1 (
     .seq (
     .ops [
       ⟨(some 10), .mv (.t 8), none⟩,
       ⟨(some 5), .mv (.t 10), none⟩]) (
     .seq (
     .ops [
       ⟨(some 11), .mv (.t 1), none⟩,
       ⟨(some 12), .mv (.t 0), none⟩,
       ⟨(some 13), .mv (.t 5), none⟩,
       ⟨(some 14), .iad none 1 (.t 12) (.t 13), none⟩,
       ⟨(some 15), .ld1 (.t 14), none⟩,
       ⟨(some 16), .call (.t 11) [(.t 15)], none⟩]) (
     .cond (.t 16) (
      .seq (
      .ops [
        ⟨(some 17), .mv (.t 5), none⟩,
        ⟨(some 4), .mv (.t 17), none⟩]) (
      .ret)) (
      .skip))))) (
    .ops [
      ⟨(some 18), .bin .add (.t 8) (.c (.int .i64 1)), none⟩,
      ⟨(some 8), .mv (.t 18), none⟩]))))))) (
  .seq (
  .ops [
    ⟨(some 4), .mv (.c (.int .i64 (-1))), none⟩]) (
  .ret))), [.tmp 4]⟩
/-- paravane/region.within -/
def x127 : XF := ⟨15, .seq (
  .ops [
    ⟨(some 6), .mv (.c (.bool false)), none⟩]) (
  .seq (
  .ops [
    ⟨(some 7), .mv (.t 0), none⟩,
    ⟨(some 8), .mv (.t 1), none⟩,
    ⟨(some 9), .bin .geq (.t 7) (.t 8), none⟩,
    ⟨(some 10), .mv (.t 9), none⟩,
    ⟨(some 11), .mv (.t 0), some (10, true)⟩,
    ⟨(some 12), .mv (.t 2), some (10, true)⟩,
    ⟨(some 13), .bin .leq (.t 11) (.t 12), some (10, true)⟩,
    ⟨(some 14), .pick (.t 10) (.t 13) (.c (.bool false)), none⟩,
    ⟨(some 6), .mv (.t 14), none⟩]) (
  .ret)), [.tmp 6]⟩
/-- paravane/region.left -/
def x128 : XF := ⟨30, .seq (
  .ops [
    ⟨(some 3), .box 23 (.t 0), none⟩,
    ⟨(some 4), .box 23 (.t 1), none⟩,
    ⟨(some 5), .box 23 (.t 2), none⟩,
    ⟨(some 6), .mv (.c (.int .i64 0)), none⟩]) (
  .seq (
  .ops [
    ⟨(some 7), .fad 0 (.t 4), none⟩,
    ⟨(some 8), .ld1 (.t 7), none⟩,
    ⟨(some 9), .fad 0 (.t 3), none⟩,
    ⟨(some 10), .ld1 (.t 9), none⟩,
    ⟨(some 11), .bin .sub (.t 8) (.t 10), none⟩,
    ⟨(some 12), .fad 1 (.t 5), none⟩,
    ⟨(some 13), .ld1 (.t 12), none⟩,
    ⟨(some 14), .fad 1 (.t 3), none⟩,
    ⟨(some 15), .ld1 (.t 14), none⟩,
    ⟨(some 16), .bin .sub (.t 13) (.t 15), none⟩,
    ⟨(some 17), .bin .mul (.t 11) (.t 16), none⟩,
    ⟨(some 18), .fad 1 (.t 4), none⟩,
    ⟨(some 19), .ld1 (.t 18), none⟩,
    ⟨(some 20), .fad 1 (.t 3), none⟩,
    ⟨(some 21), .ld1 (.t 20), none⟩,
    ⟨(some 22), .bin .sub (.t 19) (.t 21), none⟩,
    ⟨(some 23), .fad 0 (.t 5), none⟩,
    ⟨(some 24), .ld1 (.t 23), none⟩,
    ⟨(some 25), .fad 0 (.t 3), none⟩,
    ⟨(some 26), .ld1 (.t 25), none⟩,
    ⟨(some 27), .bin .sub (.t 24) (.t 26), none⟩,
    ⟨(some 28), .bin .mul (.t 22) (.t 27), none⟩,
    ⟨(some 29), .bin .sub (.t 17) (.t 28), none⟩,
    ⟨(some 6), .mv (.t 29), none⟩]) (
  .ret)), [.tmp 6]⟩
/-- slices.IndexFunc[[]paravane/api.Point,paravane/api.Point] -/
def x129 : XF := ⟨19, .seq (
  .ops [
    ⟨(some 4), .mv (.c (.int .i64 0)), none⟩]) (
  .seq (
  .seq (
  .ops [
    ⟨(some 6), .mv (.t 0), none⟩,
    ⟨(some 7), .len .sl (.t 6), none⟩,
    ⟨(some 8), .mv (.c (.int .i64 0)), none⟩]) (
  .block 0 (
   .loop (
    .seq (
    .ops [
      ⟨(some 9), .bin .lss (.t 8) (.t 7), none⟩]) (
    .seq (
    .cond (.t 9) (
     .skip) (
     .exit 0)) (
    .seq (
    .block 1 (
     .seq (
     .ops [
       ⟨(some 10), .mv (.t 8), none⟩,
       ⟨(some 5), .mv (.t 10), none⟩]) (
     .seq (
     .ops [
       ⟨(some 11), .mv (.t 1), none⟩,
       ⟨(some 12), .mv (.t 0), none⟩,
       ⟨(some 13), .mv (.t 5), none⟩,
       ⟨(some 14), .iad none 2 (.t 12) (.t 13), none⟩,
       ⟨(some 15), .ldN 2 (.t 14), none⟩,
       ⟨(some 16), .call (.t 11) [(.t 15)], none⟩]) (
     .cond (.t 16) (
      .seq (
      .ops [
        ⟨(some 17), .mv (.t 5), none⟩,
        ⟨(some 4), .mv (.t 17), none⟩]) (
      .ret)) (
      .skip))))) (
    .ops [
      ⟨(some 18), .bin .add (.t 8) (.c (.int .i64 1)), none⟩,
      ⟨(some 8), .mv (.t 18), none⟩]))))))) (
  .seq (
  .ops [
    ⟨(some 4), .mv (.c (.int .i64 (-1))), none⟩]) (
  .ret))), [.tmp 4]⟩
/-- paravane/region.Check -/
def x130 : XF := ⟨24, .seq (
  .ops [
    ⟨(some 1), .box 36 (.t 0), none⟩,
    ⟨(some 2), .mv (.c (.int .i64 0)), none⟩]) (
  .seq (
  .ops [
    ⟨(some 6), .mkf 158 [(.c (.int .i64 32768))] [], none⟩,
    ⟨(some 7), .mkf 158 [(.c (.int .i64 32768))] [], none⟩,
    ⟨(some 8), .mkf 158 [(.c (.int .i64 65536))] [], none⟩,
    ⟨(some 9), .mkf 158 [(.c (.int .i64 65536))] [], none⟩,
    ⟨(some 10), .build [.nilFunc, .nilFunc, .nilFunc, .nilFunc] [(0, 1, (.t 6)), (1, 1, (.t 7)), (2, 1, (.t 8)), (3, 1, (.t 9))], none⟩,
    ⟨(some 3), .new 221 [.nilFunc, .nilFunc, .nilFunc, .nilFunc], none⟩,
    ⟨none, .st 4 (.t 3) (.t 10), none⟩]) (
  .seq (
  .seq (
  .ops [
    ⟨(some 11), .ldN 8 (.t 1), none⟩,
    ⟨(some 12), .call (.c (.func (.func 132) [] [])) [(.t 11)], none⟩,
    ⟨(some 13), .mv (.c (.int .i64 0)), none⟩]) (
  .block 0 (
   .loop (
    .seq (
    .ops [
      ⟨(some 14), .bin .lss (.t 13) (.c (.int .i64 4)), none⟩]) (
    .seq (
    .cond (.t 14) (
     .skip) (
     .exit 0)) (
    .seq (
    .block 1 (
     .seq (
     .ops [
       ⟨(some 15), .mv (.t 13), none⟩,
       ⟨(some 16), .idx 4 2 true (.t 12) (.t 13), none⟩,
       ⟨(some 5), .new 34 [(.int .i64 0), (.int .i64 0)], none⟩,
       ⟨(some 4), .mv (.t 15), none⟩,
       ⟨none, .st 2 (.t 5) (.t 16), none⟩]) (
     .seq (
     .draw [
       (⟨(some 17), .mv (.t 4), none⟩, .calm),
       (⟨(some 18), .iad (some 4) 1 (.t 3) (.t 17), none⟩, .calm),
       (⟨(some 19), .ld1 (.t 18), none⟩, .reads 0 0),
       (⟨(some 20), .ldN 2 (.t 5), none⟩, .reads 0 0),
       (⟨(some 21), .call (.t 19) [(.t 20)], none⟩, .anchor),
       (⟨(some 22), .un .not (.t 21), none⟩, .calm)]) (
     .cond (.t 22) (
      .seq (
      .ops [
        ⟨(some 2), .mv (.c (.int .i64 11)), none⟩]) (
      .ret)) (
      .skip))))) (
    .ops [
      ⟨(some 23), .bin .add (.t 13) (.c (.int .i64 1)), none⟩,
      ⟨(some 13), .mv (.t 23), none⟩]))))))) (
  .seq (
  .ops [
    ⟨(some 2), .mv (.c (.int .i64 0)), none⟩]) (
  .ret)))), [.tmp 2]⟩
/-- paravane/region.done -/
def x131 : XF := ⟨12, .seq (
  .ops [
    ⟨(some 2), .box 191 (.t 0), none⟩,
    ⟨(some 4), .new 36 [(.int .i64 0), (.int .i64 0), (.int .i64 0), (.int .i64 0), (.int .i64 0), (.int .i64 0), (.int .i64 0), (.int .i64 0)], none⟩,
    ⟨(some 5), .mv (.c (.int .i64 0)), none⟩]) (
  .seq (
  .seq (
  .ops [
    ⟨(some 6), .mv (.t 1), none⟩,
    ⟨(some 7), .bin .neq (.t 6) (.c (.int .i64 0)), none⟩]) (
  .cond (.t 7) (
   .seq (
   .ops [
     ⟨(some 8), .build [(.int .i64 0), (.int .i64 0), (.int .i64 0), (.int .i64 0), (.int .i64 0), (.int .i64 0), (.int .i64 0), (.int .i64 0)] [], none⟩,
     ⟨(some 9), .mv (.t 1), none⟩,
     ⟨none, .st 8 (.t 4) (.t 8), none⟩,
     ⟨(some 5), .mv (.t 9), none⟩]) (
   .ret)) (
   .skip))) (
  .seq (
  .ops [
    ⟨(some 10), .ldN 8 (.t 2), none⟩,
    ⟨(some 11), .call (.c (.func (.func 159) [] [])) [(.t 10)], none⟩,
    ⟨none, .st 8 (.t 4) (.t 11), none⟩,
    ⟨(some 5), .mv (.c (.int .i64 0)), none⟩]) (
  .ret))), [.cellN 4 8, .tmp 5]⟩
/-- paravane/region.bounds -/
def x132 : XF := ⟨12, .seq (
  .ops [
    ⟨(some 1), .box 36 (.t 0), none⟩,
    ⟨(some 2), .new 191 [(.int .i64 0), (.int .i64 0), (.int .i64 0), (.int .i64 0), (.int .i64 0), (.int .i64 0), (.int .i64 0), (.int .i64 0)], none⟩]) (
  .seq (
  .ops [
    ⟨(some 3), .fad 0 (.t 1), none⟩,
    ⟨(some 4), .ldN 2 (.t 3), none⟩,
    ⟨(some 5), .fad 2 (.t 1), none⟩,
    ⟨(some 6), .ldN 2 (.t 5), none⟩,
    ⟨(some 7), .fad 4 (.t 1), none⟩,
    ⟨(some 8), .ldN 2 (.t 7), none⟩,
    ⟨(some 9), .fad 6 (.t 1), none⟩,
    ⟨(some 10), .ldN 2 (.t 9), none⟩,
    ⟨(some 11), .build [(.int .i64 0), (.int .i64 0), (.int .i64 0), (.int .i64 0), (.int .i64 0), (.int .i64 0), (.int .i64 0), (.int .i64 0)] [(0, 2, (.t 4)), (2, 2, (.t 6)), (4, 2, (.t 8)), (6, 2, (.t 10))], none⟩,
    ⟨none, .st 8 (.t 2) (.t 11), none⟩]) (
  .ret)), [.cellN 2 8]⟩
/-- (paravane/region.four).tight -/
def x133 : XF := ⟨17, .seq (
  .ops [
    ⟨(some 1), .box 191 (.t 0), none⟩,
    ⟨(some 2), .new 191 [(.int .i64 0), (.int .i64 0), (.int .i64 0), (.int .i64 0), (.int .i64 0), (.int .i64 0), (.int .i64 0), (.int .i64 0)], none⟩,
    ⟨(some 3), .mv (.c (.int .i64 0)), none⟩]) (
  .seq (
  .ops [
    ⟨(some 7), .ldN 8 (.t 1), none⟩,
    ⟨(some 8), .call (.c (.func (.func 161) [] [])) [(.t 7)], none⟩,
    ⟨(some 9), .bsl 225 1 1 [.nilFunc] [(0, 1, (.t 8))], none⟩,
    ⟨(some 10), .call (.c (.func (.func 160) [] [])) [(.t 9)], none⟩,
    ⟨(some 6), .mv (.t 10), none⟩,
    ⟨(some 11), .ext 0 (.t 6), none⟩,
    ⟨(some 12), .ext 1 (.t 6), none⟩,
    ⟨(some 4), .new 191 [(.int .i64 0), (.int .i64 0), (.int .i64 0), (.int .i64 0), (.int .i64 0), (.int .i64 0), (.int .i64 0), (.int .i64 0)], none⟩,
    ⟨none, .st 8 (.t 4) (.t 11), none⟩,
    ⟨(some 5), .mv (.t 12), none⟩]) (
  .seq (
  .seq (
  .ops [
    ⟨(some 13), .mv (.t 5), none⟩,
    ⟨(some 14), .un .not (.t 13), none⟩]) (
  .cond (.t 14) (
   .seq (
   .ops [
     ⟨(some 15), .build [(.int .i64 0), (.int .i64 0), (.int .i64 0), (.int .i64 0), (.int .i64 0), (.int .i64 0), (.int .i64 0), (.int .i64 0)] [], none⟩,
     ⟨none, .st 8 (.t 2) (.t 15), none⟩,
     ⟨(some 3), .mv (.c (.int .i64 4)), none⟩]) (
   .ret)) (
   .skip))) (
  .seq (
  .ops [
    ⟨(some 16), .ldN 8 (.t 4), none⟩,
    ⟨none, .st 8 (.t 2) (.t 16), none⟩,
    ⟨(some 3), .mv (.c (.int .i64 0)), none⟩]) (
  .ret)))), [.cellN 2 8, .tmp 3]⟩
/-- (*paravane/paravaneref01.Hull).fill -/
def x134 : XF := ⟨36, .seq (
  .ops [
    ⟨(some 3), .box 36 (.t 1), none⟩]) (
  .seq (
  .ops [
    ⟨(some 6), .fad 0 (.t 3), none⟩,
    ⟨(some 7), .fad 0 (.t 6), none⟩,
    ⟨(some 8), .ld1 (.t 7), none⟩,
    ⟨(some 4), .mv (.t 8), none⟩]) (
  .block 0 (
   .loop (
    .seq (
    .seq (
    .ops [
      ⟨(some 9), .mv (.t 4), none⟩,
      ⟨(some 10), .fad 0 (.t 3), none⟩,
      ⟨(some 11), .fad 1 (.t 10), none⟩,
      ⟨(some 12), .ld1 (.t 11), none⟩,
      ⟨(some 13), .bin .leq (.t 9) (.t 12), none⟩]) (
    .cond (.t 13) (
     .skip) (
     .exit 0))) (
    .seq (
    .block 1 (
     .seq (
     .ops [
       ⟨(some 16), .ldN 8 (.t 3), none⟩,
       ⟨(some 17), .mv (.t 4), none⟩,
       ⟨(some 18), .call (.c (.func (.func 147) [] [])) [(.t 16), (.t 17)], none⟩,
       ⟨(some 5), .new 211 [(.int .i64 0), (.int .i64 0), (.int .i64 0)], none⟩,
       ⟨none, .st 3 (.t 5) (.t 18), none⟩]) (
     .seq (
     .ops [
       ⟨(some 19), .fad 1 (.t 5), none⟩,
       ⟨(some 20), .ld1 (.t 19), none⟩,
       ⟨(some 21), .fad 2 (.t 5), none⟩,
       ⟨(some 22), .ld1 (.t 21), none⟩,
       ⟨(some 23), .bin .leq (.t 20) (.t 22), none⟩]) (
     .cond (.t 23) (
      .seq (
      .ops [
        ⟨(some 24), .mv (.t 0), none⟩,
        ⟨(some 25), .mv (.t 4), none⟩,
        ⟨(some 26), .fad 1 (.t 5), none⟩,
        ⟨(some 27), .ld1 (.t 26), none⟩,
        ⟨(some 28), .build [(.int .i64 0), (.int .i64 0)] [(0, 1, (.t 25)), (1, 1, (.t 27))], none⟩,
        ⟨(some 29), .call (.c (.func (.func 162) [] [])) [(.t 24), (.t 28)], none⟩]) (
      .ops [
        ⟨(some 30), .mv (.t 0), none⟩,
        ⟨(some 31), .mv (.t 4), none⟩,
        ⟨(some 32), .fad 2 (.t 5), none⟩,
        ⟨(some 33), .ld1 (.t 32), none⟩,
        ⟨(some 34), .build [(.int .i64 0), (.int .i64 0)] [(0, 1, (.t 31)), (1, 1, (.t 33))], none⟩,
        ⟨(some 35), .call (.c (.func (.func 162) [] [])) [(.t 30), (.t 34)], none⟩])) (
      .skip))))) (
    .ops [
      ⟨(some 14), .mv (.t 4), none⟩,
      ⟨(some 15), .bin .add (.t 14) (.c (.int .i64 1)), none⟩,
      ⟨(some 4), .mv (.t 15), none⟩])))))), []⟩
/-- paravane/region.root -/
def x135 : XF := ⟨22, .seq (
  .ops [
    ⟨(some 2), .mv (.c (.int .i64 0)), none⟩]) (
  .seq (
  .ops [
    ⟨(some 3), .mv (.c (.int .i64 0)), none⟩]) (
  .seq (
  .seq (
  .ops [
    ⟨(some 4), .mv (.c (.int .i64 1048576)), none⟩]) (
  .block 0 (
   .loop (
    .seq (
    .seq (
    .ops [
      ⟨(some 5), .mv (.t 4), none⟩,
      ⟨(some 6), .bin .gtr (.t 5) (.c (.int .i64 0)), none⟩]) (
    .cond (.t 6) (
     .skip) (
     .exit 0))) (
    .seq (
    .block 1 (
     .seq (
     .ops [
       ⟨(some 9), .mv (.t 3), none⟩,
       ⟨(some 10), .mv (.t 4), none⟩,
       ⟨(some 11), .bin .add (.t 9) (.t 10), none⟩,
       ⟨(some 12), .mv (.t 3), none⟩,
       ⟨(some 13), .mv (.t 4), none⟩,
       ⟨(some 14), .bin .add (.t 12) (.t 13), none⟩,
       ⟨(some 15), .bin .mul (.t 11) (.t 14), none⟩,
       ⟨(some 16), .mv (.t 0), none⟩,
       ⟨(some 17), .bin .leq (.t 15) (.t 16), none⟩]) (
     .cond (.t 17) (
      .ops [
        ⟨(some 18), .mv (.t 3), none⟩,
        ⟨(some 19), .mv (.t 4), none⟩,
        ⟨(some 20), .bin .add (.t 18) (.t 19), none⟩,
        ⟨(some 3), .mv (.t 20), none⟩]) (
      .skip)))) (
    .ops [
      ⟨(some 7), .mv (.t 4), none⟩,
      ⟨(some 8), .bin .quo (.t 7) (.c (.int .i64 2)), none⟩,
      ⟨(some 4), .mv (.t 8), none⟩])))))) (
  .seq (
  .ops [
    ⟨(some 21), .mv (.t 3), none⟩,
    ⟨(some 2), .mv (.t 21), none⟩]) (
  .ret)))), [.tmp 2]⟩
/-- paravane/paravaneref00.Down -/
def x136 : XF := ⟨23, .seq (
  .ops [
    ⟨(some 4), .mv (.c (.int .i64 0)), none⟩]) (
  .seq (
  .ops [
    ⟨(some 6), .mv (.t 0), none⟩,
    ⟨(some 7), .mv (.t 1), none⟩,
    ⟨(some 8), .bin .quo (.t 6) (.t 7), none⟩,
    ⟨(some 5), .mv (.t 8), none⟩]) (
  .seq (
  .seq (
  .ops [
    ⟨(some 9), .mv (.t 0), none⟩,
    ⟨(some 10), .mv (.t 1), none⟩,
    ⟨(some 11), .bin .rem (.t 9) (.t 10), none⟩,
    ⟨(some 12), .bin .neq (.t 11) (.c (.int .i64 0)), none⟩,
    ⟨(some 13), .mv (.t 12), none⟩,
    ⟨(some 14), .mv (.t 0), some (13, true)⟩,
    ⟨(some 15), .bin .lss (.t 14) (.c (.int .i64 0)), some (13, true)⟩,
    ⟨(some 16), .mv (.t 1), some (13, true)⟩,
    ⟨(some 17), .bin .lss (.t 16) (.c (.int .i64 0)), some (13, true)⟩,
    ⟨(some 18), .eqg true 4 (.t 15) (.t 17), some (13, true)⟩,
    ⟨(some 19), .pick (.t 13) (.t 18) (.c (.bool false)), none⟩]) (
  .cond (.t 19) (
   .ops [
     ⟨(some 20), .mv (.t 5), none⟩,
     ⟨(some 21), .bin .sub (.t 20) (.c (.int .i64 1)), none⟩,
     ⟨(some 5), .mv (.t 21), none⟩]) (
   .skip))) (
  .seq (
  .ops [
    ⟨(some 22), .mv (.t 5), none⟩,
    ⟨(some 4), .mv (.t 22), none⟩]) (
  .ret)))), [.tmp 4]⟩
/-- paravane/region.Move -/
def x137 : XF := ⟨47, .seq (
  .ops [
    ⟨(some 2), .box 36 (.t 0), none⟩,
    ⟨(some 3), .box 23 (.t 1), none⟩,
    ⟨(some 4), .new 36 [(.int .i64 0), (.int .i64 0), (.int .i64 0), (.int .i64 0), (.int .i64 0), (.int .i64 0), (.int .i64 0), (.int .i64 0)], none⟩,
    ⟨(some 5), .mv (.c (.int .i64 0)), none⟩]) (
  .seq (
  .seq (
  .ops [
    ⟨(some 9), .ldN 8 (.t 2), none⟩,
    ⟨(some 10), .call (.c (.func (.func 130) [] [])) [(.t 9)], none⟩,
    ⟨(some 6), .mv (.t 10), none⟩]) (
  .seq (
  .ops [
    ⟨(some 11), .mv (.t 6), none⟩,
    ⟨(some 12), .bin .neq (.t 11) (.c (.int .i64 0)), none⟩]) (
  .cond (.t 12) (
   .seq (
   .ops [
     ⟨(some 13), .build [(.int .i64 0), (.int .i64 0), (.int .i64 0), (.int .i64 0), (.int .i64 0), (.int .i64 0), (.int .i64 0), (.int .i64 0)] [], none⟩,
     ⟨(some 14), .mv (.t 6), none⟩,
     ⟨none, .st 8 (.t 4) (.t 13), none⟩,
     ⟨(some 5), .mv (.t 14), none⟩]) (
   .ret)) (
   .skip)))) (
  .seq (
  .seq (
  .draw [
    (⟨(some 15), .fad 0 (.t 3), none⟩, .calm),
    (⟨(some 16), .ld1 (.t 15), none⟩, .reads 0 0),
    (⟨(some 17), .call (.c (.func (.func 125) [] [])) [(.c (.int .i64 65536)), (.t 16)], none⟩, .anchor),
    (⟨(some 18), .fad 0 (.t 3), none⟩, .calm),
    (⟨(some 19), .ld1 (.t 18), none⟩, .reads 0 1),
    (⟨(some 20), .bin .neq (.t 17) (.t 19), none⟩, .calm),
    (⟨(some 21), .mv (.t 20), none⟩, .calm),
    (⟨(some 22), .fad 1 (.t 3), some (21, false)⟩, .calm),
    (⟨(some 23), .ld1 (.t 22), some (21, false)⟩, .reads 1 1),
    (⟨(some 24), .call (.c (.func (.func 125) [] [])) [(.c (.int .i64 65536)), (.t 23)], some (21, false)⟩, .anchor),
    (⟨(some 25), .fad 1 (.t 3), some (21, false)⟩, .calm),
    (⟨(some 26), .ld1 (.t 25), some (21, false)⟩, .reads 1 2),
    (⟨(some 27), .bin .neq (.t 24) (.t 26), some (21, false)⟩, .calm),
    (⟨(some 28), .pick (.t 21) (.c (.bool true)) (.t 27), none⟩, .calm)]) (
  .cond (.t 28) (
   .seq (
   .ops [
     ⟨(some 29), .build [(.int .i64 0), (.int .i64 0), (.int .i64 0), (.int .i64 0), (.int .i64 0), (.int .i64 0), (.int .i64 0), (.int .i64 0)] [], none⟩,
     ⟨none, .st 8 (.t 4) (.t 29), none⟩,
     ⟨(some 5), .mv (.c (.int .i64 7)), none⟩]) (
   .ret)) (
   .skip))) (
  .seq (
  .ops [
    ⟨(some 31), .ldN 8 (.t 2), none⟩,
    ⟨(some 32), .call (.c (.func (.func 132) [] [])) [(.t 31)], none⟩,
    ⟨(some 33), .call (.c (.func (.func 133) [] [])) [(.t 32)], none⟩,
    ⟨(some 30), .mv (.t 33), none⟩,
    ⟨(some 34), .ext 0 (.t 30), none⟩,
    ⟨(some 35), .ext 1 (.t 30), none⟩,
    ⟨(some 7), .new 191 [(.int .i64 0), (.int .i64 0), (.int .i64 0), (.int .i64 0), (.int .i64 0), (.int .i64 0), (.int .i64 0), (.int .i64 0)], none⟩,
    ⟨none, .st 8 (.t 7) (.t 34), none⟩,
    ⟨(some 8), .mv (.t 35), none⟩]) (
  .seq (
  .seq (
  .ops [
    ⟨(some 36), .mv (.t 8), none⟩,
    ⟨(some 37), .bin .neq (.t 36) (.c (.int .i64 0)), none⟩]) (
  .cond (.t 37) (
   .seq (
   .ops [
     ⟨(some 38), .build [(.int .i64 0), (.int .i64 0), (.int .i64 0), (.int .i64 0), (.int .i64 0), (.int .i64 0), (.int .i64 0), (.int .i64 0)] [], none⟩,
     ⟨(some 39), .mv (.t 8), none⟩,
     ⟨none, .st 8 (.t 4) (.t 38), none⟩,
     ⟨(some 5), .mv (.t 39), none⟩]) (
   .ret)) (
   .skip))) (
  .seq (
  .draw [
    (⟨(some 40), .ldN 8 (.t 7), none⟩, .reads 0 1),
    (⟨(some 41), .ldN 2 (.t 3), none⟩, .reads 0 0),
    (⟨(some 42), .call (.c (.func (.func 165) [] [])) [(.t 41)], none⟩, .anchor),
    (⟨(some 43), .call (.c (.func (.func 164) [] [])) [(.t 40), (.t 42), (.c (.func (.func 166) [] []))], none⟩, .anchor),
    (⟨(some 44), .call (.c (.func (.func 163) [] [])) [(.t 43)], none⟩, .anchor),
    (⟨(some 45), .ext 0 (.t 44), none⟩, .calm),
    (⟨(some 46), .ext 1 (.t 44), none⟩, .calm),
    (⟨none, .st 8 (.t 4) (.t 45), none⟩, .anchor),
    (⟨(some 5), .mv (.t 46), none⟩, .calm)]) (
  .ret)))))), [.cellN 4 8, .tmp 5]⟩
/-- paravane/region.Join -/
def x138 : XF := ⟨35, .seq (
  .ops [
    ⟨(some 2), .box 36 (.t 0), none⟩,
    ⟨(some 3), .box 36 (.t 1), none⟩,
    ⟨(some 4), .new 36 [(.int .i64 0), (.int .i64 0), (.int .i64 0), (.int .i64 0), (.int .i64 0), (.int .i64 0), (.int .i64 0), (.int .i64 0)], none⟩,
    ⟨(some 5), .mv (.c (.int .i64 0)), none⟩]) (
  .seq (
  .seq (
  .draw [
    (⟨(some 9), .ldN 8 (.t 2), none⟩, .reads 0 0),
    (⟨(some 10), .call (.c (.func (.func 130) [] [])) [(.t 9)], none⟩, .anchor),
    (⟨(some 11), .ldN 8 (.t 3), none⟩, .reads 0 1),
    (⟨(some 12), .call (.c (.func (.func 130) [] [])) [(.t 11)], none⟩, .anchor),
    (⟨(some 13), .bsl 24 1 2 [(.int .i64 0)] [(0, 1, (.t 10)), (1, 1, (.t 12))], none⟩, .new),
    (⟨(some 14), .call (.c (.func (.func 139) [] [])) [(.t 13)], none⟩, .anchor),
    (⟨(some 6), .mv (.t 14), none⟩, .calm)]) (
  .seq (
  .ops [
    ⟨(some 15), .mv (.t 6), none⟩,
    ⟨(some 16), .bin .neq (.t 15) (.c (.int .i64 0)), none⟩]) (
  .cond (.t 16) (
   .seq (
   .ops [
     ⟨(some 17), .build [(.int .i64 0), (.int .i64 0), (.int .i64 0), (.int .i64 0), (.int .i64 0), (.int .i64 0), (.int .i64 0), (.int .i64 0)] [], none⟩,
     ⟨(some 18), .mv (.t 6), none⟩,
     ⟨none, .st 8 (.t 4) (.t 17), none⟩,
     ⟨(some 5), .mv (.t 18), none⟩]) (
   .ret)) (
   .skip)))) (
  .seq (
  .draw [
    (⟨(some 20), .ldN 8 (.t 2), none⟩, .reads 0 0),
    (⟨(some 21), .call (.c (.func (.func 132) [] [])) [(.t 20)], none⟩, .anchor),
    (⟨(some 22), .call (.c (.func (.func 161) [] [])) [(.t 21)], none⟩, .anchor),
    (⟨(some 23), .ldN 8 (.t 3), none⟩, .reads 0 2),
    (⟨(some 24), .call (.c (.func (.func 132) [] [])) [(.t 23)], none⟩, .anchor),
    (⟨(some 25), .call (.c (.func (.func 161) [] [])) [(.t 24)], none⟩, .anchor),
    (⟨(some 26), .bsl 225 1 2 [.nilFunc] [(0, 1, (.t 22)), (1, 1, (.t 25))], none⟩, .new),
    (⟨(some 27), .call (.c (.func (.func 160) [] [])) [(.t 26)], none⟩, .anchor),
    (⟨(some 19), .mv (.t 27), none⟩, .calm),
    (⟨(some 28), .ext 0 (.t 19), none⟩, .calm),
    (⟨(some 29), .ext 1 (.t 19), none⟩, .calm),
    (⟨(some 7), .new 191 [(.int .i64 0), (.int .i64 0), (.int .i64 0), (.int .i64 0), (.int .i64 0), (.int .i64 0), (.int .i64 0), (.int .i64 0)], none⟩, .new),
    (⟨none, .st 8 (.t 7) (.t 28), none⟩, .anchor),
    (⟨(some 8), .mv (.t 29), none⟩, .calm)]) (
  .seq (
  .seq (
  .ops [
    ⟨(some 30), .mv (.t 8), none⟩,
    ⟨(some 31), .un .not (.t 30), none⟩]) (
  .cond (.t 31) (
   .seq (
   .ops [
     ⟨(some 32), .build [(.int .i64 0), (.int .i64 0), (.int .i64 0), (.int .i64 0), (.int .i64 0), (.int .i64 0), (.int .i64 0), (.int .i64 0)] [], none⟩,
     ⟨none, .st 8 (.t 4) (.t 32), none⟩,
     ⟨(some 5), .mv (.c (.int .i64 4)), none⟩]) (
   .ret)) (
   .skip))) (
  .seq (
  .ops [
    ⟨(some 33), .ldN 8 (.t 7), none⟩,
    ⟨(some 34), .call (.c (.func (.func 159) [] [])) [(.t 33)], none⟩,
    ⟨none, .st 8 (.t 4) (.t 34), none⟩,
    ⟨(some 5), .mv (.c (.int .i64 0)), none⟩]) (
  .ret))))), [.cellN 4 8, .tmp 5]⟩
/-- paravane/region.first -/
def x139 : XF := ⟨15, .seq (
  .ops [
    ⟨(some 2), .mv (.c (.int .i64 0)), none⟩]) (
  .seq (
  .seq (
  .ops [
    ⟨(some 5), .mv (.t 0), none⟩,
    ⟨(some 6), .len .sl (.t 5), none⟩,
    ⟨(some 7), .mv (.c (.int .i64 0)), none⟩]) (
  .block 0 (
   .loop (
    .seq (
    .ops [
      ⟨(some 8), .bin .lss (.t 7) (.t 6), none⟩]) (
    .seq (
    .cond (.t 8) (
     .skip) (
     .exit 0)) (
    .seq (
    .block 1 (
     .seq (
     .ops [
       ⟨(some 9), .iad none 1 (.t 5) (.t 7), none⟩,
       ⟨(some 10), .ld1 (.t 9), none⟩,
       ⟨(some 4), .mv (.t 10), none⟩]) (
     .seq (
     .ops [
       ⟨(some 11), .mv (.t 4), none⟩,
       ⟨(some 12), .bin .neq (.t 11) (.c (.int .i64 0)), none⟩]) (
     .cond (.t 12) (
      .seq (
      .ops [
        ⟨(some 13), .mv (.t 4), none⟩,
        ⟨(some 2), .mv (.t 13), none⟩]) (
      .ret)) (
      .skip))))) (
    .ops [
      ⟨(some 14), .bin .add (.t 7) (.c (.int .i64 1)), none⟩,
      ⟨(some 7), .mv (.t 14), none⟩]))))))) (
  .seq (
  .ops [
    ⟨(some 2), .mv (.c (.int .i64 0)), none⟩]) (
  .ret))), [.tmp 2]⟩
/-- (paravane/region.four).rows -/
def x140 : XF := ⟨4, .seq (
  .ops [
    ⟨(some 1), .box 191 (.t 0), none⟩,
    ⟨(some 2), .mv (.c .nilFunc), none⟩]) (
  .seq (
  .ops [
    ⟨(some 3), .mkf 167 [] [(.t 1)], none⟩,
    ⟨(some 2), .mv (.t 3), none⟩]) (
  .ret)), [.tmp 2]⟩
/-- paravane/region.sides -/
def x141 : XF := ⟨4, .seq (
  .ops [
    ⟨(some 1), .box 32 (.t 0), none⟩,
    ⟨(some 2), .mv (.c .nilFunc), none⟩]) (
  .seq (
  .ops [
    ⟨(some 3), .mkf 168 [] [(.t 1)], none⟩,
    ⟨(some 2), .mv (.t 3), none⟩]) (
  .ret)), [.tmp 2]⟩
/-- paravane/region.up -/
def x142 : XF := ⟨10, .seq (
  .ops [
    ⟨(some 4), .mv (.c (.int .i64 0)), none⟩]) (
  .seq (
  .ops [
    ⟨(some 5), .mv (.t 0), none⟩,
    ⟨(some 6), .un .neg (.t 5), none⟩,
    ⟨(some 7), .mv (.t 1), none⟩,
    ⟨(some 8), .call (.c (.func (.func 143) [] [])) [(.t 6), (.t 7)], none⟩,
    ⟨(some 9), .un .neg (.t 8), none⟩,
    ⟨(some 4), .mv (.t 9), none⟩]) (
  .ret)), [.tmp 4]⟩
/-- paravane/region.down -/
def x143 : XF := ⟨16, .seq (
  .ops [
    ⟨(some 4), .mv (.c (.int .i64 0)), none⟩]) (
  .seq (
  .ops [
    ⟨(some 6), .mv (.t 0), none⟩,
    ⟨(some 7), .mv (.t 1), none⟩,
    ⟨(some 8), .bin .quo (.t 6) (.t 7), none⟩,
    ⟨(some 5), .mv (.t 8), none⟩]) (
  .seq (
  .seq (
  .ops [
    ⟨(some 9), .mv (.t 0), none⟩,
    ⟨(some 10), .mv (.t 1), none⟩,
    ⟨(some 11), .bin .rem (.t 9) (.t 10), none⟩,
    ⟨(some 12), .bin .lss (.t 11) (.c (.int .i64 0)), none⟩]) (
  .cond (.t 12) (
   .ops [
     ⟨(some 13), .mv (.t 5), none⟩,
     ⟨(some 14), .bin .sub (.t 13) (.c (.int .i64 1)), none⟩,
     ⟨(some 5), .mv (.t 14), none⟩]) (
   .skip))) (
  .seq (
  .ops [
    ⟨(some 15), .mv (.t 5), none⟩,
    ⟨(some 4), .mv (.t 15), none⟩]) (
  .ret)))), [.tmp 4]⟩
/-- paravane/paravaneref01.Move -/
def x144 : XF := ⟨43, .seq (
  .ops [
    ⟨(some 2), .box 36 (.t 0), none⟩,
    ⟨(some 3), .box 23 (.t 1), none⟩,
    ⟨(some 4), .new 36 [(.int .i64 0), (.int .i64 0), (.int .i64 0), (.int .i64 0), (.int .i64 0), (.int .i64 0), (.int .i64 0), (.int .i64 0)], none⟩,
    ⟨(some 5), .mv (.c (.int .i64 0)), none⟩]) (
  .seq (
  .seq (
  .ops [
    ⟨(some 9), .ldN 8 (.t 2), none⟩,
    ⟨(some 10), .call (.c (.func (.func 54) [] [])) [(.t 9)], none⟩,
    ⟨(some 6), .mv (.t 10), none⟩]) (
  .seq (
  .ops [
    ⟨(some 11), .mv (.t 6), none⟩,
    ⟨(some 12), .bin .neq (.t 11) (.c (.int .i64 0)), none⟩]) (
  .cond (.t 12) (
   .seq (
   .ops [
     ⟨(some 13), .build [(.int .i64 0), (.int .i64 0), (.int .i64 0), (.int .i64 0), (.int .i64 0), (.int .i64 0), (.int .i64 0), (.int .i64 0)] [], none⟩,
     ⟨(some 14), .mv (.t 6), none⟩,
     ⟨none, .st 8 (.t 4) (.t 13), none⟩,
     ⟨(some 5), .mv (.t 14), none⟩]) (
   .ret)) (
   .skip)))) (
  .seq (
  .seq (
  .ops [
    ⟨(some 15), .fad 0 (.t 3), none⟩,
    ⟨(some 16), .ld1 (.t 15), none⟩,
    ⟨(some 17), .call (.c (.func (.func 40) [] [])) [(.t 16), (.c (.int .i64 (-65536))), (.c (.int .i64 65536))], none⟩,
    ⟨(some 18), .un .not (.t 17), none⟩,
    ⟨(some 19), .mv (.t 18), none⟩,
    ⟨(some 20), .fad 1 (.t 3), some (19, false)⟩,
    ⟨(some 21), .ld1 (.t 20), some (19, false)⟩,
    ⟨(some 22), .call (.c (.func (.func 40) [] [])) [(.t 21), (.c (.int .i64 (-65536))), (.c (.int .i64 65536))], some (19, false)⟩,
    ⟨(some 23), .un .not (.t 22), some (19, false)⟩,
    ⟨(some 24), .pick (.t 19) (.c (.bool true)) (.t 23), none⟩]) (
  .cond (.t 24) (
   .seq (
   .ops [
     ⟨(some 25), .build [(.int .i64 0), (.int .i64 0), (.int .i64 0), (.int .i64 0), (.int .i64 0), (.int .i64 0), (.int .i64 0), (.int .i64 0)] [], none⟩,
     ⟨none, .st 8 (.t 4) (.t 25), none⟩,
     ⟨(some 5), .mv (.c (.int .i64 7)), none⟩]) (
   .ret)) (
   .skip))) (
  .seq (
  .ops [
    ⟨(some 27), .ldN 8 (.t 2), none⟩,
    ⟨(some 28), .bsl 36 8 1 [(.int .i64 0), (.int .i64 0), (.int .i64 0), (.int .i64 0), (.int .i64 0), (.int .i64 0), (.int .i64 0), (.int .i64 0)] [(0, 8, (.t 27))], none⟩,
    ⟨(some 29), .call (.c (.func (.func 105) [] [])) [(.t 28)], none⟩,
    ⟨(some 26), .mv (.t 29), none⟩,
    ⟨(some 30), .ext 0 (.t 26), none⟩,
    ⟨(some 31), .ext 1 (.t 26), none⟩,
    ⟨(some 7), .new 36 [(.int .i64 0), (.int .i64 0), (.int .i64 0), (.int .i64 0), (.int .i64 0), (.int .i64 0), (.int .i64 0), (.int .i64 0)], none⟩,
    ⟨none, .st 8 (.t 7) (.t 30), none⟩,
    ⟨(some 8), .mv (.t 31), none⟩]) (
  .seq (
  .seq (
  .ops [
    ⟨(some 32), .mv (.t 8), none⟩,
    ⟨(some 33), .bin .neq (.t 32) (.c (.int .i64 0)), none⟩]) (
  .cond (.t 33) (
   .seq (
   .ops [
     ⟨(some 34), .build [(.int .i64 0), (.int .i64 0), (.int .i64 0), (.int .i64 0), (.int .i64 0), (.int .i64 0), (.int .i64 0), (.int .i64 0)] [], none⟩,
     ⟨(some 35), .mv (.t 8), none⟩,
     ⟨none, .st 8 (.t 4) (.t 34), none⟩,
     ⟨(some 5), .mv (.t 35), none⟩]) (
   .ret)) (
   .skip))) (
  .seq (
  .draw [
    (⟨(some 36), .ldN 8 (.t 7), none⟩, .reads 0 1),
    (⟨(some 37), .ldN 2 (.t 3), none⟩, .reads 0 0),
    (⟨(some 38), .call (.c (.func (.func 171) [] [])) [(.t 37)], none⟩, .anchor),
    (⟨(some 39), .call (.c (.func (.func 170) [] [])) [(.t 36), (.t 38)], none⟩, .anchor),
    (⟨(some 40), .call (.c (.func (.func 169) [] [])) [(.t 39)], none⟩, .anchor),
    (⟨(some 41), .ext 0 (.t 40), none⟩, .calm),
    (⟨(some 42), .ext 1 (.t 40), none⟩, .calm),
    (⟨none, .st 8 (.t 4) (.t 41), none⟩, .anchor),
    (⟨(some 5), .mv (.t 42), none⟩, .calm)]) (
  .ret)))))), [.cellN 4 8, .tmp 5]⟩
/-- paravane/paravaneref01.Join -/
def x145 : XF := ⟨20, .seq (
  .ops [
    ⟨(some 2), .box 36 (.t 0), none⟩,
    ⟨(some 3), .box 36 (.t 1), none⟩,
    ⟨(some 4), .new 36 [(.int .i64 0), (.int .i64 0), (.int .i64 0), (.int .i64 0), (.int .i64 0), (.int .i64 0), (.int .i64 0), (.int .i64 0)], none⟩,
    ⟨(some 5), .mv (.c (.int .i64 0)), none⟩]) (
  .seq (
  .seq (
  .ops [
    ⟨(some 7), .ldN 8 (.t 2), none⟩,
    ⟨(some 8), .ldN 8 (.t 3), none⟩,
    ⟨(some 9), .call (.c (.func (.func 172) [] [])) [(.t 7), (.t 8)], none⟩,
    ⟨(some 6), .mv (.t 9), none⟩]) (
  .seq (
  .ops [
    ⟨(some 10), .mv (.t 6), none⟩,
    ⟨(some 11), .bin .neq (.t 10) (.c (.int .i64 0)), none⟩]) (
  .cond (.t 11) (
   .seq (
   .ops [
     ⟨(some 12), .build [(.int .i64 0), (.int .i64 0), (.int .i64 0), (.int .i64 0), (.int .i64 0), (.int .i64 0), (.int .i64 0), (.int .i64 0)] [], none⟩,
     ⟨(some 13), .mv (.t 6), none⟩,
     ⟨none, .st 8 (.t 4) (.t 12), none⟩,
     ⟨(some 5), .mv (.t 13), none⟩]) (
   .ret)) (
   .skip)))) (
  .seq (
  .ops [
    ⟨(some 14), .ldN 8 (.t 2), none⟩,
    ⟨(some 15), .ldN 8 (.t 3), none⟩,
    ⟨(some 16), .bsl 36 8 2 [(.int .i64 0), (.int .i64 0), (.int .i64 0), (.int .i64 0), (.int .i64 0), (.int .i64 0), (.int .i64 0), (.int .i64 0)] [(0, 8, (.t 14)), (8, 8, (.t 15))], none⟩,
    ⟨(some 17), .call (.c (.func (.func 105) [] [])) [(.t 16)], none⟩,
    ⟨(some 18), .ext 0 (.t 17), none⟩,
    ⟨(some 19), .ext 1 (.t 17), none⟩,
    ⟨none, .st 8 (.t 4) (.t 18), none⟩,
    ⟨(some 5), .mv (.t 19), none⟩]) (
  .ret))), [.cellN 4 8, .tmp 5]⟩
/-- paravane/paravaneref01.both -/
def x146 : XF := ⟨13, .seq (
  .ops [
    ⟨(some 3), .box 36 (.t 1), none⟩,
    ⟨(some 4), .mv (.c (.int .i64 0)), none⟩]) (
  .seq (
  .seq (
  .ops [
    ⟨(some 6), .mv (.t 0), none⟩,
    ⟨(some 7), .call (.c (.func (.func 53) [] [])) [(.t 6)], none⟩,
    ⟨(some 5), .mv (.t 7), none⟩]) (
  .seq (
  .ops [
    ⟨(some 8), .mv (.t 5), none⟩,
    ⟨(some 9), .bin .neq (.t 8) (.c (.int .i64 0)), none⟩]) (
  .cond (.t 9) (
   .seq (
   .ops [
     ⟨(some 10), .mv (.t 5), none⟩,
     ⟨(some 4), .mv (.t 10), none⟩]) (
   .ret)) (
   .skip)))) (
  .seq (
  .ops [
    ⟨(some 11), .ldN 8 (.t 3), none⟩,
    ⟨(some 12), .call (.c (.func (.func 54) [] [])) [(.t 11)], none⟩,
    ⟨(some 4), .mv (.t 12), none⟩]) (
  .ret))), [.tmp 4]⟩
/-- paravane/paravaneref01.row -/
def x147 : XF := ⟨35, .seq (
  .ops [
    ⟨(some 2), .box 36 (.t 0), none⟩,
    ⟨(some 4), .new 211 [(.int .i64 0), (.int .i64 0), (.int .i64 0)], none⟩]) (
  .seq (
  .ops [
    ⟨(some 5), .mv (.t 1), none⟩,
    ⟨(some 6), .fad 2 (.t 2), none⟩,
    ⟨(some 7), .fad 0 (.t 6), none⟩,
    ⟨(some 8), .ld1 (.t 7), none⟩,
    ⟨(some 9), .fad 4 (.t 2), none⟩,
    ⟨(some 10), .fad 0 (.t 9), none⟩,
    ⟨(some 11), .ld1 (.t 10), none⟩,
    ⟨(some 12), .mv (.t 1), none⟩,
    ⟨(some 13), .bin .sub (.t 11) (.t 12), none⟩,
    ⟨(some 14), .mv (.t 1), none⟩,
    ⟨(some 15), .fad 6 (.t 2), none⟩,
    ⟨(some 16), .fad 1 (.t 15), none⟩,
    ⟨(some 17), .ld1 (.t 16), none⟩,
    ⟨(some 18), .bin .sub (.t 14) (.t 17), none⟩,
    ⟨(some 19), .max [(.t 8), (.t 13), (.t 18)], none⟩,
    ⟨(some 20), .fad 2 (.t 2), none⟩,
    ⟨(some 21), .fad 1 (.t 20), none⟩,
    ⟨(some 22), .ld1 (.t 21), none⟩,
    ⟨(some 23), .fad 4 (.t 2), none⟩,
    ⟨(some 24), .fad 1 (.t 23), none⟩,
    ⟨(some 25), .ld1 (.t 24), none⟩,
    ⟨(some 26), .mv (.t 1), none⟩,
    ⟨(some 27), .bin .sub (.t 25) (.t 26), none⟩,
    ⟨(some 28), .mv (.t 1), none⟩,
    ⟨(some 29), .fad 6 (.t 2), none⟩,
    ⟨(some 30), .fad 0 (.t 29), none⟩,
    ⟨(some 31), .ld1 (.t 30), none⟩,
    ⟨(some 32), .bin .sub (.t 28) (.t 31), none⟩,
    ⟨(some 33), .min [(.t 22), (.t 27), (.t 32)], none⟩,
    ⟨(some 34), .build [(.int .i64 0), (.int .i64 0), (.int .i64 0)] [(0, 1, (.t 5)), (1, 1, (.t 19)), (2, 1, (.t 33))], none⟩,
    ⟨none, .st 3 (.t 4) (.t 34), none⟩]) (
  .ret)), [.cellN 4 3]⟩
/-- paravane/paravaneref01.left -/
def x148 : XF := ⟨62, .seq (
  .ops [
    ⟨(some 3), .box 211 (.t 0), none⟩,
    ⟨(some 4), .box 23 (.t 1), none⟩,
    ⟨(some 5), .box 23 (.t 2), none⟩,
    ⟨(some 6), .new 211 [(.int .i64 0), (.int .i64 0), (.int .i64 0)], none⟩]) (
  .seq (
  .ops [
    ⟨(some 9), .fad 0 (.t 5), none⟩,
    ⟨(some 10), .ld1 (.t 9), none⟩,
    ⟨(some 11), .fad 0 (.t 4), none⟩,
    ⟨(some 12), .ld1 (.t 11), none⟩,
    ⟨(some 13), .bin .sub (.t 10) (.t 12), none⟩,
    ⟨(some 14), .fad 1 (.t 4), none⟩,
    ⟨(some 15), .ld1 (.t 14), none⟩,
    ⟨(some 16), .bin .mul (.t 13) (.t 15), none⟩,
    ⟨(some 17), .fad 1 (.t 5), none⟩,
    ⟨(some 18), .ld1 (.t 17), none⟩,
    ⟨(some 19), .fad 1 (.t 4), none⟩,
    ⟨(some 20), .ld1 (.t 19), none⟩,
    ⟨(some 21), .bin .sub (.t 18) (.t 20), none⟩,
    ⟨(some 22), .fad 0 (.t 3), none⟩,
    ⟨(some 23), .ld1 (.t 22), none⟩,
    ⟨(some 24), .fad 0 (.t 4), none⟩,
    ⟨(some 25), .ld1 (.t 24), none⟩,
    ⟨(some 26), .bin .sub (.t 23) (.t 25), none⟩,
    ⟨(some 27), .bin .mul (.t 21) (.t 26), none⟩,
    ⟨(some 28), .bin .add (.t 16) (.t 27), none⟩,
    ⟨(some 7), .mv (.t 28), none⟩]) (
  .seq (
  .ops [
    ⟨(some 29), .fad 0 (.t 5), none⟩,
    ⟨(some 30), .ld1 (.t 29), none⟩,
    ⟨(some 31), .fad 0 (.t 4), none⟩,
    ⟨(some 32), .ld1 (.t 31), none⟩,
    ⟨(some 33), .bin .sub (.t 30) (.t 32), none⟩,
    ⟨(some 8), .mv (.t 33), none⟩]) (
  .seq (
  .block 0 (
   .seq (
   .ops [
     ⟨(some 35), .mv (.t 8), none⟩,
     ⟨(some 36), .bin .gtr (.t 35) (.c (.int .i64 0)), none⟩,
     ⟨(some 34), .mv (.t 36), none⟩]) (
   .cond (.t 34) (
    .draw [
      (⟨(some 37), .fad 1 (.t 3), none⟩, .calm),
      (⟨(some 38), .ld1 (.t 37), none⟩, .reads 0 1),
      (⟨(some 39), .mv (.t 7), none⟩, .calm),
      (⟨(some 40), .mv (.t 8), none⟩, .calm),
      (⟨(some 41), .call (.c (.func (.func 108) [] [])) [(.t 39), (.t 40)], none⟩, .anchor),
      (⟨(some 42), .max [(.t 38), (.t 41)], none⟩, .calm),
      (⟨(some 43), .fad 1 (.t 3), none⟩, .calm),
      (⟨none, .st 1 (.t 43) (.t 42), none⟩, .anchor)]) (
    .seq (
    .ops [
      ⟨(some 45), .mv (.t 8), none⟩,
      ⟨(some 46), .bin .lss (.t 45) (.c (.int .i64 0)), none⟩,
      ⟨(some 44), .mv (.t 46), none⟩]) (
    .cond (.t 44) (
     .draw [
       (⟨(some 47), .fad 2 (.t 3), none⟩, .calm),
       (⟨(some 48), .ld1 (.t 47), none⟩, .reads 0 1),
       (⟨(some 49), .mv (.t 7), none⟩, .calm),
       (⟨(some 50), .mv (.t 8), none⟩, .calm),
       (⟨(some 51), .call (.c (.func (.func 136) [] [])) [(.t 49), (.t 50)], none⟩, .anchor),
       (⟨(some 52), .min [(.t 48), (.t 51)], none⟩, .calm),
       (⟨(some 53), .fad 2 (.t 3), none⟩, .calm),
       (⟨none, .st 1 (.t 53) (.t 52), none⟩, .anchor)]) (
     .seq (
     .ops [
       ⟨(some 55), .mv (.t 7), none⟩,
       ⟨(some 56), .bin .gtr (.t 55) (.c (.int .i64 0)), none⟩,
       ⟨(some 54), .mv (.t 56), none⟩]) (
     .cond (.t 54) (
      .ops [
        ⟨(some 57), .fad 1 (.t 3), none⟩,
        ⟨(some 58), .ld1 (.t 57), none⟩,
        ⟨(some 59), .bin .sub (.t 58) (.c (.int .i64 1)), none⟩,
        ⟨(some 60), .fad 2 (.t 3), none⟩,
        ⟨none, .st 1 (.t 60) (.t 59), none⟩]) (
      .skip)))))))) (
  .seq (
  .ops [
    ⟨(some 61), .ldN 3 (.t 3), none⟩,
    ⟨none, .st 3 (.t 6) (.t 61), none⟩]) (
  .ret))))), [.cellN 6 3]⟩
/-- (paravane/region.limit).fits -/
def x158 : XF := ⟨23, .seq (
  .ops [
    ⟨(some 3), .box 34 (.t 1), none⟩,
    ⟨(some 4), .mv (.c (.bool false)), none⟩]) (
  .seq (
  .ops [
    ⟨(some 5), .fad 0 (.t 3), none⟩,
    ⟨(some 6), .ld1 (.t 5), none⟩,
    ⟨(some 7), .mv (.t 0), none⟩,
    ⟨(some 8), .un .neg (.t 7), none⟩,
    ⟨(some 9), .bin .geq (.t 6) (.t 8), none⟩,
    ⟨(some 10), .mv (.t 9), none⟩,
    ⟨(some 11), .fad 0 (.t 3), some (10, true)⟩,
    ⟨(some 12), .ld1 (.t 11), some (10, true)⟩,
    ⟨(some 13), .fad 1 (.t 3), some (10, true)⟩,
    ⟨(some 14), .ld1 (.t 13), some (10, true)⟩,
    ⟨(some 15), .bin .leq (.t 12) (.t 14), some (10, true)⟩,
    ⟨(some 16), .pick (.t 10) (.t 15) (.c (.bool false)), none⟩,
    ⟨(some 17), .mv (.t 16), none⟩,
    ⟨(some 18), .fad 1 (.t 3), some (17, true)⟩,
    ⟨(some 19), .ld1 (.t 18), some (17, true)⟩,
    ⟨(some 20), .mv (.t 0), some (17, true)⟩,
    ⟨(some 21), .bin .leq (.t 19) (.t 20), some (17, true)⟩,
    ⟨(some 22), .pick (.t 17) (.t 21) (.c (.bool false)), none⟩,
    ⟨(some 4), .mv (.t 22), none⟩]) (
  .ret)), [.tmp 4]⟩
/-- (paravane/region.four).region -/
def x159 : XF := ⟨12, .seq (
  .ops [
    ⟨(some 1), .box 191 (.t 0), none⟩,
    ⟨(some 2), .new 36 [(.int .i64 0), (.int .i64 0), (.int .i64 0), (.int .i64 0), (.int .i64 0), (.int .i64 0), (.int .i64 0), (.int .i64 0)], none⟩]) (
  .seq (
  .ops [
    ⟨(some 3), .iad (some 4) 2 (.t 1) (.c (.int .i64 0)), none⟩,
    ⟨(some 4), .ldN 2 (.t 3), none⟩,
    ⟨(some 5), .iad (some 4) 2 (.t 1) (.c (.int .i64 1)), none⟩,
    ⟨(some 6), .ldN 2 (.t 5), none⟩,
    ⟨(some 7), .iad (some 4) 2 (.t 1) (.c (.int .i64 2)), none⟩,
    ⟨(some 8), .ldN 2 (.t 7), none⟩,
    ⟨(some 9), .iad (some 4) 2 (.t 1) (.c (.int .i64 3)), none⟩,
    ⟨(some 10), .ldN 2 (.t 9), none⟩,
    ⟨(some 11), .build [(.int .i64 0), (.int .i64 0), (.int .i64 0), (.int .i64 0), (.int .i64 0), (.int .i64 0), (.int .i64 0), (.int .i64 0)] [(0, 2, (.t 4)), (2, 2, (.t 6)), (4, 2, (.t 8)), (6, 2, (.t 10))], none⟩,
    ⟨none, .st 8 (.t 2) (.t 11), none⟩]) (
  .ret)), [.cellN 2 8]⟩
/-- paravane/region.hull -/
def x160 : XF := ⟨26, .seq (
  .ops [
    ⟨(some 2), .new 191 [(.int .i64 0), (.int .i64 0), (.int .i64 0), (.int .i64 0), (.int .i64 0), (.int .i64 0), (.int .i64 0), (.int .i64 0)], none⟩,
    ⟨(some 3), .new 4 [(.bool false)], none⟩]) (
  .seq (
  .seq (
  .ops [
    ⟨(some 7), .mv (.t 0), none⟩,
    ⟨(some 8), .len .sl (.t 7), none⟩,
    ⟨(some 9), .mv (.c (.int .i64 0)), none⟩]) (
  .block 0 (
   .loop (
    .seq (
    .ops [
      ⟨(some 10), .bin .lss (.t 9) (.t 8), none⟩]) (
    .seq (
    .cond (.t 10) (
     .skip) (
     .exit 0)) (
    .seq (
    .block 1 (
     .seq (
     .ops [
       ⟨(some 11), .iad none 1 (.t 7) (.t 9), none⟩,
       ⟨(some 12), .ld1 (.t 11), none⟩,
       ⟨(some 5), .mv (.t 12), none⟩]) (
     .seq (
     .ops [
       ⟨(some 13), .mv (.t 5), none⟩]) (
     .block 2 (
      .rfun (.t 13) [14] (
       .ops [
         ⟨(some 6), .new 23 [(.int .i64 0), (.int .i64 0)], none⟩,
         ⟨none, .st 2 (.t 6) (.t 14), none⟩]) (
       .block 3 (
        .seq (
        .seq (
        .ops [
          ⟨(some 15), .ld1 (.t 3), none⟩,
          ⟨(some 16), .un .not (.t 15), none⟩]) (
        .cond (.t 16) (
         .ops [
           ⟨(some 17), .ldN 2 (.t 6), none⟩,
           ⟨(some 18), .call (.c (.func (.func 165) [] [])) [(.t 17)], none⟩,
           ⟨none, .st 8 (.t 2) (.t 18), none⟩,
           ⟨none, .st 1 (.t 3) (.c (.bool true)), none⟩]) (
         .skip))) (
        .draw [
          (⟨(some 19), .ldN 8 (.t 2), none⟩, .reads 0 1),
          (⟨(some 20), .ldN 2 (.t 6), none⟩, .reads 0 0),
          (⟨(some 21), .call (.c (.func (.func 165) [] [])) [(.t 20)], none⟩, .anchor),
          (⟨(some 22), .call (.c (.func (.func 164) [] [])) [(.t 19), (.t 21), (.c (.func (.func 173) [] []))], none⟩, .anchor),
          (⟨none, .st 8 (.t 2) (.t 22), none⟩, .anchor)])))))))) (
    .ops [
      ⟨(some 23), .bin .add (.t 9) (.c (.int .i64 1)), none⟩,
      ⟨(some 9), .mv (.t 23), none⟩]))))))) (
  .seq (
  .draw [
    (⟨(some 24), .ldN 8 (.t 2), none⟩, .reads 0 0),
    (⟨(some 25), .ld1 (.t 3), none⟩, .reads 0 1),
    (⟨none, .st 8 (.t 2) (.t 24), none⟩, .anchor),
    (⟨none, .st 1 (.t 3) (.t 25), none⟩, .anchor)]) (
  .ret))), [.cellN 2 8, .cell1 3]⟩
/-- (paravane/region.four).ends -/
def x161 : XF := ⟨4, .seq (
  .ops [
    ⟨(some 1), .box 191 (.t 0), none⟩,
    ⟨(some 2), .mv (.c .nilFunc), none⟩]) (
  .seq (
  .ops [
    ⟨(some 3), .mkf 174 [] [(.t 1)], none⟩,
    ⟨(some 2), .mv (.t 3), none⟩]) (
  .ret)), [.tmp 2]⟩
/-- (*paravane/paravaneref01.Hull).add -/
def x162 : XF := ⟨78, .seq (
  .ops [
    ⟨(some 3), .box 23 (.t 1), none⟩]) (
  .seq (
  .draw [
    (⟨(some 6), .fad 0 (.t 3), none⟩, .calm),
    (⟨(some 7), .ld1 (.t 6), none⟩, .reads 0 0),
    (⟨(some 8), .fad 1 (.t 3), none⟩, .calm),
    (⟨(some 9), .ld1 (.t 8), none⟩, .reads 0 0),
    (⟨(some 10), .bin .add (.t 7) (.t 9), none⟩, .calm),
    (⟨(some 11), .fad 0 (.t 3), none⟩, .calm),
    (⟨(some 12), .ld1 (.t 11), none⟩, .reads 0 0),
    (⟨(some 13), .fad 1 (.t 3), none⟩, .calm),
    (⟨(some 14), .ld1 (.t 13), none⟩, .reads 0 0),
    (⟨(some 15), .bin .sub (.t 12) (.t 14), none⟩, .calm),
    (⟨(some 4), .mv (.t 10), none⟩, .calm),
    (⟨(some 5), .mv (.t 15), none⟩, .calm)]) (
  .seq (
  .seq (
  .ops [
    ⟨(some 16), .mv (.t 0), none⟩,
    ⟨(some 17), .nilc (.t 16), none⟩,
    ⟨(some 18), .fad 8 (.t 17), none⟩,
    ⟨(some 19), .ld1 (.t 18), none⟩,
    ⟨(some 20), .un .not (.t 19), none⟩]) (
  .cond (.t 20) (
   .ops [
     ⟨(some 21), .mv (.t 0), none⟩,
     ⟨(some 22), .mv (.t 0), none⟩,
     ⟨(some 23), .fad 0 (.t 3), none⟩,
     ⟨(some 24), .ld1 (.t 23), none⟩,
     ⟨(some 25), .fad 0 (.t 3), none⟩,
     ⟨(some 26), .ld1 (.t 25), none⟩,
     ⟨(some 27), .build [(.int .i64 0), (.int .i64 0)] [(0, 1, (.t 24)), (1, 1, (.t 26))], none⟩,
     ⟨(some 28), .fad 1 (.t 3), none⟩,
     ⟨(some 29), .ld1 (.t 28), none⟩,
     ⟨(some 30), .fad 1 (.t 3), none⟩,
     ⟨(some 31), .ld1 (.t 30), none⟩,
     ⟨(some 32), .build [(.int .i64 0), (.int .i64 0)] [(0, 1, (.t 29)), (1, 1, (.t 31))], none⟩,
     ⟨(some 33), .mv (.t 4), none⟩,
     ⟨(some 34), .mv (.t 4), none⟩,
     ⟨(some 35), .build [(.int .i64 0), (.int .i64 0)] [(0, 1, (.t 33)), (1, 1, (.t 34))], none⟩,
     ⟨(some 36), .mv (.t 5), none⟩,
     ⟨(some 37), .mv (.t 5), none⟩,
     ⟨(some 38), .build [(.int .i64 0), (.int .i64 0)] [(0, 1, (.t 36)), (1, 1, (.t 37))], none⟩,
     ⟨(some 39), .build [(.int .i64 0), (.int .i64 0), (.int .i64 0), (.int .i64 0), (.int .i64 0), (.int .i64 0), (.int .i64 0), (.int .i64 0)] [(0, 2, (.t 27)), (2, 2, (.t 32)), (4, 2, (.t 35)), (6, 2, (.t 38))], none⟩,
     ⟨(some 40), .nilc (.t 21), none⟩,
     ⟨(some 41), .fad 0 (.t 40), none⟩,
     ⟨none, .st 8 (.t 41) (.t 39), none⟩,
     ⟨(some 42), .nilc (.t 22), none⟩,
     ⟨(some 43), .fad 8 (.t 42), none⟩,
     ⟨none, .st 1 (.t 43) (.c (.bool true)), none⟩]) (
   .skip))) (
  .draw [
    (⟨(some 44), .mv (.t 0), none⟩, .calm),
    (⟨(some 45), .mv (.t 0), none⟩, .calm),
    (⟨(some 46), .nilc (.t 45), none⟩, .calm),
    (⟨(some 47), .fad 0 (.t 46), none⟩, .calm),
    (⟨(some 48), .fad 0 (.t 47), none⟩, .calm),
    (⟨(some 49), .ldN 2 (.t 48), none⟩, .reads 0 0),
    (⟨(some 50), .fad 0 (.t 3), none⟩, .calm),
    (⟨(some 51), .ld1 (.t 50), none⟩, .reads 0 0),
    (⟨(some 52), .call (.c (.func (.func 175) [] [])) [(.t 49), (.t 51)], none⟩, .anchor),
    (⟨(some 53), .mv (.t 0), none⟩, .calm),
    (⟨(some 54), .nilc (.t 53), none⟩, .calm),
    (⟨(some 55), .fad 0 (.t 54), none⟩, .calm),
    (⟨(some 56), .fad 2 (.t 55), none⟩, .calm),
    (⟨(some 57), .ldN 2 (.t 56), none⟩, .reads 0 1),
    (⟨(some 58), .fad 1 (.t 3), none⟩, .calm),
    (⟨(some 59), .ld1 (.t 58), none⟩, .reads 0 1),
    (⟨(some 60), .call (.c (.func (.func 175) [] [])) [(.t 57), (.t 59)], none⟩, .anchor),
    (⟨(some 61), .mv (.t 0), none⟩, .calm),
    (⟨(some 62), .nilc (.t 61), none⟩, .calm),
    (⟨(some 63), .fad 0 (.t 62), none⟩, .calm),
    (⟨(some 64), .fad 4 (.t 63), none⟩, .calm),
    (⟨(some 65), .ldN 2 (.t 64), none⟩, .reads 0 2),
    (⟨(some 66), .mv (.t 4), none⟩, .calm),
    (⟨(some 67), .call (.c (.func (.func 175) [] [])) [(.t 65), (.t 66)], none⟩, .anchor),
    (⟨(some 68), .mv (.t 0), none⟩, .calm),
    (⟨(some 69), .nilc (.t 68), none⟩, .calm),
    (⟨(some 70), .fad 0 (.t 69), none⟩, .calm),
    (⟨(some 71), .fad 6 (.t 70), none⟩, .calm),
    (⟨(some 72), .ldN 2 (.t 71), none⟩, .reads 0 3),
    (⟨(some 73), .mv (.t 5), none⟩, .calm),
    (⟨(some 74), .call (.c (.func (.func 175) [] [])) [(.t 72), (.t 73)], none⟩, .anchor),
    (⟨(some 75), .build [(.int .i64 0), (.int .i64 0), (.int .i64 0), (.int .i64 0), (.int .i64 0), (.int .i64 0), (.int .i64 0), (.int .i64 0)] [(0, 2, (.t 52)), (2, 2, (.t 60)), (4, 2, (.t 67)), (6, 2, (.t 74))], none⟩, .calm),
    (⟨(some 76), .nilc (.t 44), none⟩, .calm),
    (⟨(some 77), .fad 0 (.t 76), none⟩, .calm),
    (⟨none, .st 8 (.t 77) (.t 75), none⟩, .anchor)]))), []⟩
/-- paravane/region.inside -/
def x163 : XF := ⟨17, .seq (
  .ops [
    ⟨(some 1), .box 191 (.t 0), none⟩,
    ⟨(some 2), .new 36 [(.int .i64 0), (.int .i64 0), (.int .i64 0), (.int .i64 0), (.int .i64 0), (.int .i64 0), (.int .i64 0), (.int .i64 0)], none⟩,
    ⟨(some 3), .mv (.c (.int .i64 0)), none⟩]) (
  .seq (
  .seq (
  .ops [
    ⟨(some 4), .iad (some 4) 2 (.t 1) (.c (.int .i64 0)), none⟩,
    ⟨(some 5), .ldN 2 (.t 4), none⟩,
    ⟨(some 6), .call (.c (.func (.func 158) [] [])) [(.c (.int .i64 32768)), (.t 5)], none⟩,
    ⟨(some 7), .un .not (.t 6), none⟩,
    ⟨(some 8), .mv (.t 7), none⟩,
    ⟨(some 9), .iad (some 4) 2 (.t 1) (.c (.int .i64 1)), some (8, false)⟩,
    ⟨(some 10), .ldN 2 (.t 9), some (8, false)⟩,
    ⟨(some 11), .call (.c (.func (.func 158) [] [])) [(.c (.int .i64 32768)), (.t 10)], some (8, false)⟩,
    ⟨(some 12), .un .not (.t 11), some (8, false)⟩,
    ⟨(some 13), .pick (.t 8) (.c (.bool true)) (.t 12), none⟩]) (
  .cond (.t 13) (
   .seq (
   .ops [
     ⟨(some 14), .build [(.int .i64 0), (.int .i64 0), (.int .i64 0), (.int .i64 0), (.int .i64 0), (.int .i64 0), (.int .i64 0), (.int .i64 0)] [], none⟩,
     ⟨none, .st 8 (.t 2) (.t 14), none⟩,
     ⟨(some 3), .mv (.c (.int .i64 7)), none⟩]) (
   .ret)) (
   .skip))) (
  .seq (
  .ops [
    ⟨(some 15), .ldN 8 (.t 1), none⟩,
    ⟨(some 16), .call (.c (.func (.func 159) [] [])) [(.t 15)], none⟩,
    ⟨none, .st 8 (.t 2) (.t 16), none⟩,
    ⟨(some 3), .mv (.c (.int .i64 0)), none⟩]) (
  .ret))), [.cellN 2 8, .tmp 3]⟩
/-- (paravane/region.four).combined -/
def x164 : XF := ⟨23, .seq (
  .ops [
    ⟨(some 3), .box 191 (.t 0), none⟩,
    ⟨(some 4), .box 191 (.t 1), none⟩,
    ⟨(some 6), .new 191 [(.int .i64 0), (.int .i64 0), (.int .i64 0), (.int .i64 0), (.int .i64 0), (.int .i64 0), (.int .i64 0), (.int .i64 0)], none⟩]) (
  .seq (
  .seq (
  .ops [
    ⟨(some 8), .mv (.c (.int .i64 0)), none⟩]) (
  .block 0 (
   .loop (
    .seq (
    .ops [
      ⟨(some 9), .bin .lss (.t 8) (.c (.int .i64 4)), none⟩]) (
    .seq (
    .cond (.t 9) (
     .skip) (
     .exit 0)) (
    .seq (
    .block 1 (
     .seq (
     .ops [
       ⟨(some 10), .mv (.t 8), none⟩,
       ⟨(some 7), .mv (.t 10), none⟩]) (
     .draw [
       (⟨(some 11), .mv (.t 7), none⟩, .calm),
       (⟨(some 12), .mv (.t 2), none⟩, .calm),
       (⟨(some 13), .mv (.t 7), none⟩, .calm),
       (⟨(some 14), .iad (some 4) 2 (.t 3) (.t 13), none⟩, .calm),
       (⟨(some 15), .ldN 2 (.t 14), none⟩, .reads 0 0),
       (⟨(some 16), .mv (.t 7), none⟩, .calm),
       (⟨(some 17), .iad (some 4) 2 (.t 4) (.t 16), none⟩, .calm),
       (⟨(some 18), .ldN 2 (.t 17), none⟩, .reads 0 0),
       (⟨(some 19), .call (.t 12) [(.t 15), (.t 18)], none⟩, .anchor),
       (⟨(some 20), .iad (some 4) 2 (.t 3) (.t 11), none⟩, .calm),
       (⟨none, .st 2 (.t 20) (.t 19), none⟩, .anchor)]))) (
    .ops [
      ⟨(some 21), .bin .add (.t 8) (.c (.int .i64 1)), none⟩,
      ⟨(some 8), .mv (.t 21), none⟩]))))))) (
  .seq (
  .ops [
    ⟨(some 22), .ldN 8 (.t 3), none⟩,
    ⟨none, .st 8 (.t 6) (.t 22), none⟩]) (
  .ret))), [.cellN 6 8]⟩
/-- paravane/region.of -/
def x165 : XF := ⟨32, .seq (
  .ops [
    ⟨(some 1), .box 23 (.t 0), none⟩,
    ⟨(some 2), .new 191 [(.int .i64 0), (.int .i64 0), (.int .i64 0), (.int .i64 0), (.int .i64 0), (.int .i64 0), (.int .i64 0), (.int .i64 0)], none⟩]) (
  .seq (
  .ops [
    ⟨(some 3), .new 191 [(.int .i64 0), (.int .i64 0), (.int .i64 0), (.int .i64 0), (.int .i64 0), (.int .i64 0), (.int .i64 0), (.int .i64 0)], none⟩]) (
  .seq (
  .seq (
  .ops [
    ⟨(some 6), .fad 0 (.t 1), none⟩,
    ⟨(some 7), .ld1 (.t 6), none⟩,
    ⟨(some 8), .fad 1 (.t 1), none⟩,
    ⟨(some 9), .ld1 (.t 8), none⟩,
    ⟨(some 10), .fad 0 (.t 1), none⟩,
    ⟨(some 11), .ld1 (.t 10), none⟩,
    ⟨(some 12), .fad 1 (.t 1), none⟩,
    ⟨(some 13), .ld1 (.t 12), none⟩,
    ⟨(some 14), .bin .add (.t 11) (.t 13), none⟩,
    ⟨(some 15), .fad 0 (.t 1), none⟩,
    ⟨(some 16), .ld1 (.t 15), none⟩,
    ⟨(some 17), .fad 1 (.t 1), none⟩,
    ⟨(some 18), .ld1 (.t 17), none⟩,
    ⟨(some 19), .bin .sub (.t 16) (.t 18), none⟩,
    ⟨(some 20), .build [(.int .i64 0), (.int .i64 0), (.int .i64 0), (.int .i64 0)] [(0, 1, (.t 7)), (1, 1, (.t 9)), (2, 1, (.t 14)), (3, 1, (.t 19))], none⟩,
    ⟨(some 21), .mv (.c (.int .i64 0)), none⟩]) (
  .block 0 (
   .loop (
    .seq (
    .ops [
      ⟨(some 22), .bin .lss (.t 21) (.c (.int .i64 4)), none⟩]) (
    .seq (
    .cond (.t 22) (
     .skip) (
     .exit 0)) (
    .seq (
    .block 1 (
     .seq (
     .ops [
       ⟨(some 23), .mv (.t 21), none⟩,
       ⟨(some 24), .idx 4 1 false (.t 20) (.t 21), none⟩,
       ⟨(some 4), .mv (.t 23), none⟩,
       ⟨(some 5), .mv (.t 24), none⟩]) (
     .ops [
       ⟨(some 25), .mv (.t 4), none⟩,
       ⟨(some 26), .mv (.t 5), none⟩,
       ⟨(some 27), .mv (.t 5), none⟩,
       ⟨(some 28), .build [(.int .i64 0), (.int .i64 0)] [(0, 1, (.t 26)), (1, 1, (.t 27))], none⟩,
       ⟨(some 29), .iad (some 4) 2 (.t 3) (.t 25), none⟩,
       ⟨none, .st 2 (.t 29) (.t 28), none⟩]))) (
    .ops [
      ⟨(some 30), .bin .add (.t 21) (.c (.int .i64 1)), none⟩,
      ⟨(some 21), .mv (.t 30), none⟩]))))))) (
  .seq (
  .ops [
    ⟨(some 31), .ldN 8 (.t 3), none⟩,
    ⟨none, .st 8 (.t 2) (.t 31), none⟩]) (
  .ret)))), [.cellN 2 8]⟩
/-- paravane/region.plus -/
def x166 : XF := ⟨16, .seq (
  .ops [
    ⟨(some 2), .box 34 (.t 0), none⟩,
    ⟨(some 3), .box 34 (.t 1), none⟩,
    ⟨(some 4), .new 34 [(.int .i64 0), (.int .i64 0)], none⟩]) (
  .seq (
  .ops [
    ⟨(some 5), .fad 0 (.t 2), none⟩,
    ⟨(some 6), .ld1 (.t 5), none⟩,
    ⟨(some 7), .fad 0 (.t 3), none⟩,
    ⟨(some 8), .ld1 (.t 7), none⟩,
    ⟨(some 9), .bin .add (.t 6) (.t 8), none⟩,
    ⟨(some 10), .fad 1 (.t 2), none⟩,
    ⟨(some 11), .ld1 (.t 10), none⟩,
    ⟨(some 12), .fad 1 (.t 3), none⟩,
    ⟨(some 13), .ld1 (.t 12), none⟩,
    ⟨(some 14), .bin .add (.t 11) (.t 13), none⟩,
    ⟨(some 15), .build [(.int .i64 0), (.int .i64 0)] [(0, 1, (.t 9)), (1, 1, (.t 14))], none⟩,
    ⟨none, .st 2 (.t 4) (.t 15), none⟩]) (
  .ret)), [.cellN 4 2]⟩
/-- (paravane/region.four).rows$1 -/
def x167 : XF := ⟨56, .seq (
  .ops [
    ⟨(some 5), .iad (some 4) 2 (.t 1) (.c (.int .i64 0)), none⟩,
    ⟨(some 6), .fad 0 (.t 5), none⟩,
    ⟨(some 7), .ld1 (.t 6), none⟩,
    ⟨(some 3), .mv (.t 7), none⟩]) (
  .block 0 (
   .loop (
    .seq (
    .seq (
    .ops [
      ⟨(some 8), .mv (.t 3), none⟩,
      ⟨(some 9), .iad (some 4) 2 (.t 1) (.c (.int .i64 0)), none⟩,
      ⟨(some 10), .fad 1 (.t 9), none⟩,
      ⟨(some 11), .ld1 (.t 10), none⟩,
      ⟨(some 12), .bin .leq (.t 8) (.t 11), none⟩]) (
    .cond (.t 12) (
     .skip) (
     .exit 0))) (
    .seq (
    .block 1 (
     .seq (
     .ops [
       ⟨(some 15), .mv (.t 3), none⟩,
       ⟨(some 16), .iad (some 4) 2 (.t 1) (.c (.int .i64 1)), none⟩,
       ⟨(some 17), .fad 0 (.t 16), none⟩,
       ⟨(some 18), .ld1 (.t 17), none⟩,
       ⟨(some 19), .iad (some 4) 2 (.t 1) (.c (.int .i64 2)), none⟩,
       ⟨(some 20), .fad 0 (.t 19), none⟩,
       ⟨(some 21), .ld1 (.t 20), none⟩,
       ⟨(some 22), .mv (.t 3), none⟩,
       ⟨(some 23), .bin .sub (.t 21) (.t 22), none⟩,
       ⟨(some 24), .mv (.t 3), none⟩,
       ⟨(some 25), .iad (some 4) 2 (.t 1) (.c (.int .i64 3)), none⟩,
       ⟨(some 26), .fad 1 (.t 25), none⟩,
       ⟨(some 27), .ld1 (.t 26), none⟩,
       ⟨(some 28), .bin .sub (.t 24) (.t 27), none⟩,
       ⟨(some 29), .max [(.t 18), (.t 23), (.t 28)], none⟩,
       ⟨(some 30), .iad (some 4) 2 (.t 1) (.c (.int .i64 1)), none⟩,
       ⟨(some 31), .fad 1 (.t 30), none⟩,
       ⟨(some 32), .ld1 (.t 31), none⟩,
       ⟨(some 33), .iad (some 4) 2 (.t 1) (.c (.int .i64 2)), none⟩,
       ⟨(some 34), .fad 1 (.t 33), none⟩,
       ⟨(some 35), .ld1 (.t 34), none⟩,
       ⟨(some 36), .mv (.t 3), none⟩,
       ⟨(some 37), .bin .sub (.t 35) (.t 36), none⟩,
       ⟨(some 38), .mv (.t 3), none⟩,
       ⟨(some 39), .iad (some 4) 2 (.t 1) (.c (.int .i64 3)), none⟩,
       ⟨(some 40), .fad 0 (.t 39), none⟩,
       ⟨(some 41), .ld1 (.t 40), none⟩,
       ⟨(some 42), .bin .sub (.t 38) (.t 41), none⟩,
       ⟨(some 43), .min [(.t 32), (.t 37), (.t 42)], none⟩,
       ⟨(some 44), .build [(.int .i64 0), (.int .i64 0), (.int .i64 0)] [(0, 1, (.t 15)), (1, 1, (.t 29)), (2, 1, (.t 43))], none⟩,
       ⟨(some 4), .new 206 [(.int .i64 0), (.int .i64 0), (.int .i64 0)], none⟩,
       ⟨none, .st 3 (.t 4) (.t 44), none⟩]) (
     .seq (
     .ops [
       ⟨(some 45), .fad 1 (.t 4), none⟩,
       ⟨(some 46), .ld1 (.t 45), none⟩,
       ⟨(some 47), .fad 2 (.t 4), none⟩,
       ⟨(some 48), .ld1 (.t 47), none⟩,
       ⟨(some 49), .bin .leq (.t 46) (.t 48), none⟩,
       ⟨(some 50), .mv (.t 49), none⟩,
       ⟨(some 51), .mv (.t 0), some (50, true)⟩,
       ⟨(some 52), .ldN 3 (.t 4), some (50, true)⟩,
       ⟨(some 53), .call (.t 51) [(.t 52)], some (50, true)⟩,
       ⟨(some 54), .un .not (.t 53), some (50, true)⟩,
       ⟨(some 55), .pick (.t 50) (.t 54) (.c (.bool false)), none⟩]) (
     .cond (.t 55) (
      .ret) (
      .skip))))) (
    .ops [
      ⟨(some 13), .mv (.t 3), none⟩,
      ⟨(some 14), .bin .add (.t 13) (.c (.int .i64 1)), none⟩,
      ⟨(some 3), .mv (.t 14), none⟩]))))), []⟩
/-- paravane/region.sides$1 -/
def x168 : XF := ⟨25, .seq (
  .ops [
    ⟨(some 5), .ld1 (.t 1), none⟩,
    ⟨(some 6), .len .sl (.t 5), none⟩,
    ⟨(some 7), .mv (.c (.int .i64 0)), none⟩]) (
  .block 0 (
   .loop (
    .seq (
    .ops [
      ⟨(some 8), .bin .lss (.t 7) (.t 6), none⟩]) (
    .seq (
    .cond (.t 8) (
     .skip) (
     .exit 0)) (
    .seq (
    .block 1 (
     .seq (
     .ops [
       ⟨(some 9), .mv (.t 7), none⟩,
       ⟨(some 10), .iad none 2 (.t 5) (.t 7), none⟩,
       ⟨(some 11), .ldN 2 (.t 10), none⟩,
       ⟨(some 4), .new 23 [(.int .i64 0), (.int .i64 0)], none⟩,
       ⟨(some 3), .mv (.t 9), none⟩,
       ⟨none, .st 2 (.t 4) (.t 11), none⟩]) (
     .seq (
     .draw [
       (⟨(some 12), .mv (.t 0), none⟩, .calm),
       (⟨(some 13), .ldN 2 (.t 4), none⟩, .reads 0 0),
       (⟨(some 14), .ld1 (.t 1), none⟩, .reads 0 0),
       (⟨(some 15), .mv (.t 3), none⟩, .calm),
       (⟨(some 16), .bin .add (.t 15) (.c (.int .i64 1)), none⟩, .calm),
       (⟨(some 17), .ld1 (.t 1), none⟩, .reads 0 0),
       (⟨(some 18), .len .sl (.t 17), none⟩, .calm),
       (⟨(some 19), .bin .rem (.t 16) (.t 18), none⟩, .calm),
       (⟨(some 20), .iad none 2 (.t 14) (.t 19), none⟩, .calm),
       (⟨(some 21), .ldN 2 (.t 20), none⟩, .reads 0 0),
       (⟨(some 22), .call (.t 12) [(.t 13), (.t 21)], none⟩, .anchor),
       (⟨(some 23), .un .not (.t 22), none⟩, .calm)]) (
     .cond (.t 23) (
      .ret) (
      .skip))))) (
    .ops [
      ⟨(some 24), .bin .add (.t 7) (.c (.int .i64 1)), none⟩,
      ⟨(some 7), .mv (.t 24), none⟩])))))), []⟩
/-- paravane/paravaneref01.plane -/
def x169 : XF := ⟨16, .seq (
  .ops [
    ⟨(some 1), .box 36 (.t 0), none⟩,
    ⟨(some 2), .new 36 [(.int .i64 0), (.int .i64 0), (.int .i64 0), (.int .i64 0), (.int .i64 0), (.int .i64 0), (.int .i64 0), (.int .i64 0)], none⟩,
    ⟨(some 3), .mv (.c (.int .i64 0)), none⟩]) (
  .seq (
  .seq (
  .ops [
    ⟨(some 4), .fad 0 (.t 1), none⟩,
    ⟨(some 5), .ldN 2 (.t 4), none⟩,
    ⟨(some 6), .call (.c (.func (.func 104) [] [])) [(.t 5), (.c (.int .i64 32768))], none⟩,
    ⟨(some 7), .un .not (.t 6), none⟩,
    ⟨(some 8), .mv (.t 7), none⟩,
    ⟨(some 9), .fad 2 (.t 1), some (8, false)⟩,
    ⟨(some 10), .ldN 2 (.t 9), some (8, false)⟩,
    ⟨(some 11), .call (.c (.func (.func 104) [] [])) [(.t 10), (.c (.int .i64 32768))], some (8, false)⟩,
    ⟨(some 12), .un .not (.t 11), some (8, false)⟩,
    ⟨(some 13), .pick (.t 8) (.c (.bool true)) (.t 12), none⟩]) (
  .cond (.t 13) (
   .seq (
   .ops [
     ⟨(some 14), .build [(.int .i64 0), (.int .i64 0), (.int .i64 0), (.int .i64 0), (.int .i64 0), (.int .i64 0), (.int .i64 0), (.int .i64 0)] [], none⟩,
     ⟨none, .st 8 (.t 2) (.t 14), none⟩,
     ⟨(some 3), .mv (.c (.int .i64 7)), none⟩]) (
   .ret)) (
   .skip))) (
  .seq (
  .ops [
    ⟨(some 15), .ldN 8 (.t 1), none⟩,
    ⟨none, .st 8 (.t 2) (.t 15), none⟩,
    ⟨(some 3), .mv (.c (.int .i64 0)), none⟩]) (
  .ret))), [.cellN 2 8, .tmp 3]⟩
/-- paravane/paravaneref01.added -/
def x170 : XF := ⟨26, .seq (
  .ops [
    ⟨(some 2), .box 36 (.t 0), none⟩,
    ⟨(some 3), .box 36 (.t 1), none⟩,
    ⟨(some 4), .new 36 [(.int .i64 0), (.int .i64 0), (.int .i64 0), (.int .i64 0), (.int .i64 0), (.int .i64 0), (.int .i64 0), (.int .i64 0)], none⟩]) (
  .seq (
  .draw [
    (⟨(some 5), .fad 0 (.t 2), none⟩, .calm),
    (⟨(some 6), .ldN 2 (.t 5), none⟩, .reads 0 0),
    (⟨(some 7), .fad 0 (.t 3), none⟩, .calm),
    (⟨(some 8), .ldN 2 (.t 7), none⟩, .reads 0 0),
    (⟨(some 9), .call (.c (.func (.func 176) [] [])) [(.t 6), (.t 8)], none⟩, .anchor),
    (⟨(some 10), .fad 2 (.t 2), none⟩, .calm),
    (⟨(some 11), .ldN 2 (.t 10), none⟩, .reads 0 1),
    (⟨(some 12), .fad 2 (.t 3), none⟩, .calm),
    (⟨(some 13), .ldN 2 (.t 12), none⟩, .reads 0 1),
    (⟨(some 14), .call (.c (.func (.func 176) [] [])) [(.t 11), (.t 13)], none⟩, .anchor),
    (⟨(some 15), .fad 4 (.t 2), none⟩, .calm),
    (⟨(some 16), .ldN 2 (.t 15), none⟩, .reads 0 2),
    (⟨(some 17), .fad 4 (.t 3), none⟩, .calm),
    (⟨(some 18), .ldN 2 (.t 17), none⟩, .reads 0 2),
    (⟨(some 19), .call (.c (.func (.func 176) [] [])) [(.t 16), (.t 18)], none⟩, .anchor),
    (⟨(some 20), .fad 6 (.t 2), none⟩, .calm),
    (⟨(some 21), .ldN 2 (.t 20), none⟩, .reads 0 3),
    (⟨(some 22), .fad 6 (.t 3), none⟩, .calm),
    (⟨(some 23), .ldN 2 (.t 22), none⟩, .reads 0 3),
    (⟨(some 24), .call (.c (.func (.func 176) [] [])) [(.t 21), (.t 23)], none⟩, .anchor),
    (⟨(some 25), .build [(.int .i64 0), (.int .i64 0), (.int .i64 0), (.int .i64 0), (.int .i64 0), (.int .i64 0), (.int .i64 0), (.int .i64 0)] [(0, 2, (.t 9)), (2, 2, (.t 14)), (4, 2, (.t 19)), (6, 2, (.t 24))], none⟩, .calm),
    (⟨none, .st 8 (.t 4) (.t 25), none⟩, .anchor)]) (
  .ret)), [.cellN 4 8]⟩
/-- paravane/paravaneref01.single -/
def x171 : XF := ⟨13, .seq (
  .ops [
    ⟨(some 1), .box 23 (.t 0), none⟩,
    ⟨(some 2), .new 36 [(.int .i64 0), (.int .i64 0), (.int .i64 0), (.int .i64 0), (.int .i64 0), (.int .i64 0), (.int .i64 0), (.int .i64 0)], none⟩]) (
  .seq (
  .ops [
    ⟨(some 4), .build [(.int .i64 0), (.int .i64 0), (.int .i64 0), (.int .i64 0), (.int .i64 0), (.int .i64 0), (.int .i64 0), (.int .i64 0), (.bool false)] [], none⟩,
    ⟨(some 5), .box 198 (.t 4), none⟩,
    ⟨(some 3), .mv (.t 5), none⟩]) (
  .seq (
  .ops [
    ⟨(some 6), .mv (.t 3), none⟩,
    ⟨(some 7), .ldN 2 (.t 1), none⟩,
    ⟨(some 8), .call (.c (.func (.func 162) [] [])) [(.t 6), (.t 7)], none⟩]) (
  .seq (
  .ops [
    ⟨(some 9), .mv (.t 3), none⟩,
    ⟨(some 10), .nilc (.t 9), none⟩,
    ⟨(some 11), .fad 0 (.t 10), none⟩,
    ⟨(some 12), .ldN 8 (.t 11), none⟩,
    ⟨none, .st 8 (.t 2) (.t 12), none⟩]) (
  .ret)))), [.cellN 2 8]⟩
/-- paravane/paravaneref01.two -/
def x172 : XF := ⟨13, .seq (
  .ops [
    ⟨(some 2), .box 36 (.t 0), none⟩,
    ⟨(some 3), .box 36 (.t 1), none⟩,
    ⟨(some 4), .mv (.c (.int .i64 0)), none⟩]) (
  .seq (
  .seq (
  .ops [
    ⟨(some 6), .ldN 8 (.t 2), none⟩,
    ⟨(some 7), .call (.c (.func (.func 54) [] [])) [(.t 6)], none⟩,
    ⟨(some 5), .mv (.t 7), none⟩]) (
  .seq (
  .ops [
    ⟨(some 8), .mv (.t 5), none⟩,
    ⟨(some 9), .bin .neq (.t 8) (.c (.int .i64 0)), none⟩]) (
  .cond (.t 9) (
   .seq (
   .ops [
     ⟨(some 10), .mv (.t 5), none⟩,
     ⟨(some 4), .mv (.t 10), none⟩]) (
   .ret)) (
   .skip)))) (
  .seq (
  .ops [
    ⟨(some 11), .ldN 8 (.t 3), none⟩,
    ⟨(some 12), .call (.c (.func (.func 54) [] [])) [(.t 11)], none⟩,
    ⟨(some 4), .mv (.t 12), none⟩]) (
  .ret))), [.tmp 4]⟩
/-- paravane/region.span -/
def x173 : XF := ⟨16, .seq (
  .ops [
    ⟨(some 2), .box 34 (.t 0), none⟩,
    ⟨(some 3), .box 34 (.t 1), none⟩,
    ⟨(some 4), .new 34 [(.int .i64 0), (.int .i64 0)], none⟩]) (
  .seq (
  .ops [
    ⟨(some 5), .fad 0 (.t 2), none⟩,
    ⟨(some 6), .ld1 (.t 5), none⟩,
    ⟨(some 7), .fad 0 (.t 3), none⟩,
    ⟨(some 8), .ld1 (.t 7), none⟩,
    ⟨(some 9), .min [(.t 6), (.t 8)], none⟩,
    ⟨(some 10), .fad 1 (.t 2), none⟩,
    ⟨(some 11), .ld1 (.t 10), none⟩,
    ⟨(some 12), .fad 1 (.t 3), none⟩,
    ⟨(some 13), .ld1 (.t 12), none⟩,
    ⟨(some 14), .max [(.t 11), (.t 13)], none⟩,
    ⟨(some 15), .build [(.int .i64 0), (.int .i64 0)] [(0, 1, (.t 9)), (1, 1, (.t 14))], none⟩,
    ⟨none, .st 2 (.t 4) (.t 15), none⟩]) (
  .ret)), [.cellN 4 2]⟩
/-- (paravane/region.four).ends$1 -/
def x174 : XF := ⟨34, .seq (
  .ops [
    ⟨(some 2), .box 87 (.t 0), none⟩]) (
  .seq (
  .ops [
    ⟨(some 6), .ldN 8 (.t 1), none⟩,
    ⟨(some 7), .call (.c (.func (.func 140) [] [])) [(.t 6)], none⟩]) (
  .block 0 (
   .rfun (.t 7) [8] (
    .ops [
      ⟨(some 3), .new 206 [(.int .i64 0), (.int .i64 0), (.int .i64 0)], none⟩,
      ⟨none, .st 3 (.t 3) (.t 8), none⟩]) (
    .block 1 (
     .seq (
     .draw [
       (⟨(some 9), .fad 0 (.t 3), none⟩, .calm),
       (⟨(some 10), .ld1 (.t 9), none⟩, .reads 0 0),
       (⟨(some 11), .fad 1 (.t 3), none⟩, .calm),
       (⟨(some 12), .ld1 (.t 11), none⟩, .reads 0 0),
       (⟨(some 13), .build [(.int .i64 0), (.int .i64 0)] [(0, 1, (.t 10)), (1, 1, (.t 12))], none⟩, .calm),
       (⟨(some 14), .fad 0 (.t 3), none⟩, .calm),
       (⟨(some 15), .ld1 (.t 14), none⟩, .reads 0 1),
       (⟨(some 16), .fad 2 (.t 3), none⟩, .calm),
       (⟨(some 17), .ld1 (.t 16), none⟩, .reads 0 1),
       (⟨(some 18), .build [(.int .i64 0), (.int .i64 0)] [(0, 1, (.t 15)), (1, 1, (.t 17))], none⟩, .calm),
       (⟨(some 4), .new 23 [(.int .i64 0), (.int .i64 0)], none⟩, .new),
       (⟨(some 5), .new 23 [(.int .i64 0), (.int .i64 0)], none⟩, .new),
       (⟨none, .st 2 (.t 4) (.t 13), none⟩, .anchor),
       (⟨none, .st 2 (.t 5) (.t 18), none⟩, .anchor)]) (
     .seq (
     .ops [
       ⟨(some 19), .ld1 (.t 2), none⟩,
       ⟨(some 20), .ldN 2 (.t 4), none⟩,
       ⟨(some 21), .call (.t 19) [(.t 20)], none⟩,
       ⟨(some 22), .un .not (.t 21), none⟩,
       ⟨(some 23), .mv (.t 22), none⟩,
       ⟨(some 24), .ldN 2 (.t 4), some (23, false)⟩,
       ⟨(some 25), .ldN 2 (.t 5), some (23, false)⟩,
       ⟨(some 26), .eqs true 2 [0, 1] (.t 24) (.t 25), some (23, false)⟩,
       ⟨(some 27), .mv (.t 26), some (23, false)⟩,
       ⟨(some 28), .ld1 (.t 2), some (27, true)⟩,
       ⟨(some 29), .ldN 2 (.t 5), some (27, true)⟩,
       ⟨(some 30), .call (.t 28) [(.t 29)], some (27, true)⟩,
       ⟨(some 31), .un .not (.t 30), some (27, true)⟩,
       ⟨(some 32), .pick (.t 27) (.t 31) (.c (.bool false)), some (23, false)⟩,
       ⟨(some 33), .pick (.t 23) (.c (.bool true)) (.t 32), none⟩]) (
     .cond (.t 33) (
      .ret) (
      .skip)))))))), []⟩
/-- paravane/paravaneref01.with -/
def x175 : XF := ⟨14, .seq (
  .ops [
    ⟨(some 2), .box 34 (.t 0), none⟩,
    ⟨(some 4), .new 34 [(.int .i64 0), (.int .i64 0)], none⟩]) (
  .seq (
  .ops [
    ⟨(some 5), .fad 0 (.t 2), none⟩,
    ⟨(some 6), .ld1 (.t 5), none⟩,
    ⟨(some 7), .mv (.t 1), none⟩,
    ⟨(some 8), .min [(.t 6), (.t 7)], none⟩,
    ⟨(some 9), .fad 1 (.t 2), none⟩,
    ⟨(some 10), .ld1 (.t 9), none⟩,
    ⟨(some 11), .mv (.t 1), none⟩,
    ⟨(some 12), .max [(.t 10), (.t 11)], none⟩,
    ⟨(some 13), .build [(.int .i64 0), (.int .i64 0)] [(0, 1, (.t 8)), (1, 1, (.t 12))], none⟩,
    ⟨none, .st 2 (.t 4) (.t 13), none⟩]) (
  .ret)), [.cellN 4 2]⟩
/-- paravane/paravaneref01.plus -/
def x176 : XF := ⟨16, .seq (
  .ops [
    ⟨(some 2), .box 34 (.t 0), none⟩,
    ⟨(some 3), .box 34 (.t 1), none⟩,
    ⟨(some 4), .new 34 [(.int .i64 0), (.int .i64 0)], none⟩]) (
  .seq (
  .ops [
    ⟨(some 5), .fad 0 (.t 2), none⟩,
    ⟨(some 6), .ld1 (.t 5), none⟩,
    ⟨(some 7), .fad 0 (.t 3), none⟩,
    ⟨(some 8), .ld1 (.t 7), none⟩,
    ⟨(some 9), .bin .add (.t 6) (.t 8), none⟩,
    ⟨(some 10), .fad 1 (.t 2), none⟩,
    ⟨(some 11), .ld1 (.t 10), none⟩,
    ⟨(some 12), .fad 1 (.t 3), none⟩,
    ⟨(some 13), .ld1 (.t 12), none⟩,
    ⟨(some 14), .bin .add (.t 11) (.t 13), none⟩,
    ⟨(some 15), .build [(.int .i64 0), (.int .i64 0)] [(0, 1, (.t 9)), (1, 1, (.t 14))], none⟩,
    ⟨none, .st 2 (.t 4) (.t 15), none⟩]) (
  .ret)), [.cellN 4 2]⟩
theorem k2 : cFn Tryz.prog 2 = some x2 := by kernel_rfl
theorem k4 : cFn Tryz.prog 4 = some x4 := by kernel_rfl
theorem k5 : cFn Tryz.prog 5 = some x5 := by kernel_rfl
theorem k6 : cFn Tryz.prog 6 = some x6 := by kernel_rfl
theorem k7 : cFn Tryz.prog 7 = some x7 := by kernel_rfl
theorem k15 : cFn Tryz.prog 15 = some x15 := by kernel_rfl
theorem k18 : cFn Tryz.prog 18 = some x18 := by kernel_rfl
theorem k19 : cFn Tryz.prog 19 = some x19 := by kernel_rfl
theorem k20 : cFn Tryz.prog 20 = some x20 := by kernel_rfl
theorem k21 : cFn Tryz.prog 21 = some x21 := by kernel_rfl
theorem k22 : cFn Tryz.prog 22 = some x22 := by kernel_rfl
theorem k23 : cFn Tryz.prog 23 = some x23 := by kernel_rfl
theorem k27 : cFn Tryz.prog 27 = some x27 := by kernel_rfl
theorem k28 : cFn Tryz.prog 28 = some x28 := by kernel_rfl
theorem k40 : cFn Tryz.prog 40 = some x40 := by kernel_rfl
theorem k43 : cFn Tryz.prog 43 = some x43 := by kernel_rfl
theorem k46 : cFn Tryz.prog 46 = some x46 := by kernel_rfl
theorem k49 : cFn Tryz.prog 49 = some x49 := by kernel_rfl
theorem k50 : cFn Tryz.prog 50 = some x50 := by kernel_rfl
theorem k51 : cFn Tryz.prog 51 = some x51 := by kernel_rfl
theorem k52 : cFn Tryz.prog 52 = some x52 := by kernel_rfl
theorem k53 : cFn Tryz.prog 53 = some x53 := by kernel_rfl
theorem k54 : cFn Tryz.prog 54 = some x54 := by kernel_rfl
theorem k55 : cFn Tryz.prog 55 = some x55 := by kernel_rfl
theorem k56 : cFn Tryz.prog 56 = some x56 := by kernel_rfl
theorem k57 : cFn Tryz.prog 57 = some x57 := by kernel_rfl
theorem k58 : cFn Tryz.prog 58 = some x58 := by kernel_rfl
theorem k59 : cFn Tryz.prog 59 = some x59 := by kernel_rfl
theorem k60 : cFn Tryz.prog 60 = some x60 := by kernel_rfl
theorem k61 : cFn Tryz.prog 61 = some x61 := by kernel_rfl
theorem k62 : cFn Tryz.prog 62 = some x62 := by kernel_rfl
theorem k66 : cFn Tryz.prog 66 = some x66 := by kernel_rfl
theorem k67 : cFn Tryz.prog 67 = some x67 := by kernel_rfl
theorem k68 : cFn Tryz.prog 68 = some x68 := by kernel_rfl
theorem k69 : cFn Tryz.prog 69 = some x69 := by kernel_rfl
theorem k77 : cFn Tryz.prog 77 = some x77 := by kernel_rfl
theorem k86 : cFn Tryz.prog 86 = some x86 := by kernel_rfl
theorem k92 : cFn Tryz.prog 92 = some x92 := by kernel_rfl
theorem k93 : cFn Tryz.prog 93 = some x93 := by kernel_rfl
theorem k94 : cFn Tryz.prog 94 = some x94 := by kernel_rfl
theorem k95 : cFn Tryz.prog 95 = some x95 := by kernel_rfl
theorem k96 : cFn Tryz.prog 96 = some x96 := by kernel_rfl
theorem k97 : cFn Tryz.prog 97 = some x97 := by kernel_rfl
theorem k98 : cFn Tryz.prog 98 = some x98 := by kernel_rfl
theorem k99 : cFn Tryz.prog 99 = some x99 := by kernel_rfl
theorem k100 : cFn Tryz.prog 100 = some x100 := by kernel_rfl
theorem k101 : cFn Tryz.prog 101 = some x101 := by kernel_rfl
theorem k102 : cFn Tryz.prog 102 = some x102 := by kernel_rfl
theorem k103 : cFn Tryz.prog 103 = some x103 := by kernel_rfl
theorem k104 : cFn Tryz.prog 104 = some x104 := by kernel_rfl
theorem k105 : cFn Tryz.prog 105 = some x105 := by kernel_rfl
theorem k106 : cFn Tryz.prog 106 = some x106 := by kernel_rfl
theorem k107 : cFn Tryz.prog 107 = some x107 := by kernel_rfl
theorem k108 : cFn Tryz.prog 108 = some x108 := by kernel_rfl
theorem k109 : cFn Tryz.prog 109 = some x109 := by kernel_rfl
theorem k110 : cFn Tryz.prog 110 = some x110 := by kernel_rfl
theorem k111 : cFn Tryz.prog 111 = some x111 := by kernel_rfl
theorem k112 : cFn Tryz.prog 112 = some x112 := by kernel_rfl
theorem k113 : cFn Tryz.prog 113 = some x113 := by kernel_rfl
theorem k119 : cFn Tryz.prog 119 = some x119 := by kernel_rfl
theorem k122 : cFn Tryz.prog 122 = some x122 := by kernel_rfl
theorem k125 : cFn Tryz.prog 125 = some x125 := by kernel_rfl
theorem k126 : cFn Tryz.prog 126 = some x126 := by kernel_rfl
theorem k127 : cFn Tryz.prog 127 = some x127 := by kernel_rfl
theorem k128 : cFn Tryz.prog 128 = some x128 := by kernel_rfl
theorem k129 : cFn Tryz.prog 129 = some x129 := by kernel_rfl
theorem k130 : cFn Tryz.prog 130 = some x130 := by kernel_rfl
theorem k131 : cFn Tryz.prog 131 = some x131 := by kernel_rfl
theorem k132 : cFn Tryz.prog 132 = some x132 := by kernel_rfl
theorem k133 : cFn Tryz.prog 133 = some x133 := by kernel_rfl
theorem k134 : cFn Tryz.prog 134 = some x134 := by kernel_rfl
theorem k135 : cFn Tryz.prog 135 = some x135 := by kernel_rfl
theorem k136 : cFn Tryz.prog 136 = some x136 := by kernel_rfl
theorem k137 : cFn Tryz.prog 137 = some x137 := by kernel_rfl
theorem k138 : cFn Tryz.prog 138 = some x138 := by kernel_rfl
theorem k139 : cFn Tryz.prog 139 = some x139 := by kernel_rfl
theorem k140 : cFn Tryz.prog 140 = some x140 := by kernel_rfl
theorem k141 : cFn Tryz.prog 141 = some x141 := by kernel_rfl
theorem k142 : cFn Tryz.prog 142 = some x142 := by kernel_rfl
theorem k143 : cFn Tryz.prog 143 = some x143 := by kernel_rfl
theorem k144 : cFn Tryz.prog 144 = some x144 := by kernel_rfl
theorem k145 : cFn Tryz.prog 145 = some x145 := by kernel_rfl
theorem k146 : cFn Tryz.prog 146 = some x146 := by kernel_rfl
theorem k147 : cFn Tryz.prog 147 = some x147 := by kernel_rfl
theorem k148 : cFn Tryz.prog 148 = some x148 := by kernel_rfl
theorem k158 : cFn Tryz.prog 158 = some x158 := by kernel_rfl
theorem k159 : cFn Tryz.prog 159 = some x159 := by kernel_rfl
theorem k160 : cFn Tryz.prog 160 = some x160 := by kernel_rfl
theorem k161 : cFn Tryz.prog 161 = some x161 := by kernel_rfl
theorem k162 : cFn Tryz.prog 162 = some x162 := by kernel_rfl
theorem k163 : cFn Tryz.prog 163 = some x163 := by kernel_rfl
theorem k164 : cFn Tryz.prog 164 = some x164 := by kernel_rfl
theorem k165 : cFn Tryz.prog 165 = some x165 := by kernel_rfl
theorem k166 : cFn Tryz.prog 166 = some x166 := by kernel_rfl
theorem k167 : cFn Tryz.prog 167 = some x167 := by kernel_rfl
theorem k168 : cFn Tryz.prog 168 = some x168 := by kernel_rfl
theorem k169 : cFn Tryz.prog 169 = some x169 := by kernel_rfl
theorem k170 : cFn Tryz.prog 170 = some x170 := by kernel_rfl
theorem k171 : cFn Tryz.prog 171 = some x171 := by kernel_rfl
theorem k172 : cFn Tryz.prog 172 = some x172 := by kernel_rfl
theorem k173 : cFn Tryz.prog 173 = some x173 := by kernel_rfl
theorem k174 : cFn Tryz.prog 174 = some x174 := by kernel_rfl
theorem k175 : cFn Tryz.prog 175 = some x175 := by kernel_rfl
theorem k176 : cFn Tryz.prog 176 = some x176 := by kernel_rfl
end Go.Proofs.YtgipddabhcmgjaaGreat.C
