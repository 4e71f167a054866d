/-
  Part of the proof of CourseTurns: what functions of the program and of the statement come to, walked by the rules. No condition beyond those in each theorem.
-/
import Derived.Test.YtgipddabhcmgjaaGreatProg
import Derived.KernelRfl
import Derived.Test.YtgipddabhcmgjaaGreatPvD
open Go PvL Go.Proofs
set_option linter.unusedVariables false
namespace Go.Proofs.YtgipddabhcmgjaaGreat.C
/-- paravane/paravanelaw04.CourseTurns -/
def x11 : XF := ⟨149, .seq (
  .ops [
    ⟨(some 2), .box 73 (.t 0), none⟩,
    ⟨(some 3), .box 23 (.t 1), none⟩,
    ⟨(some 4), .mv (.c (.bool false)), none⟩]) (
  .seq (
  .draw [
    (⟨(some 19), .iad (some 3) 1 (.t 2) (.c (.int .i64 0)), none⟩, .calm),
    (⟨(some 20), .ld1 (.t 19), none⟩, .reads 0 0),
    (⟨(some 21), .call (.c (.func (.func 39) [] [])) [(.t 20), (.c (.int .i64 8))], none⟩, .anchor),
    (⟨(some 22), .iad (some 3) 1 (.t 2) (.c (.int .i64 1)), none⟩, .calm),
    (⟨(some 23), .ld1 (.t 22), none⟩, .reads 0 1),
    (⟨(some 24), .call (.c (.func (.func 39) [] [])) [(.t 23), (.c (.int .i64 8))], none⟩, .anchor),
    (⟨(some 25), .iad (some 3) 1 (.t 2) (.c (.int .i64 2)), none⟩, .calm),
    (⟨(some 26), .ld1 (.t 25), none⟩, .reads 0 2),
    (⟨(some 27), .call (.c (.func (.func 39) [] [])) [(.t 26), (.c (.int .i64 8))], none⟩, .anchor),
    (⟨(some 5), .mv (.t 21), none⟩, .calm),
    (⟨(some 6), .mv (.t 24), none⟩, .calm),
    (⟨(some 7), .mv (.t 27), none⟩, .calm)]) (
  .seq (
  .ops [
    ⟨(some 29), .mv (.t 5), none⟩,
    ⟨(some 30), .mv (.t 6), none⟩,
    ⟨(some 31), .call (.c (.func (.func 13) [] [])) [(.t 29), (.t 30)], none⟩,
    ⟨(some 28), .mv (.t 31), none⟩,
    ⟨(some 32), .ext 0 (.t 28), none⟩,
    ⟨(some 33), .ext 1 (.t 28), none⟩,
    ⟨(some 8), .mv (.t 32), none⟩,
    ⟨(some 9), .mv (.t 33), none⟩]) (
  .seq (
  .ops [
    ⟨(some 35), .mv (.t 6), none⟩,
    ⟨(some 36), .mv (.t 5), none⟩,
    ⟨(some 37), .call (.c (.func (.func 13) [] [])) [(.t 35), (.t 36)], none⟩,
    ⟨(some 34), .mv (.t 37), none⟩,
    ⟨(some 38), .ext 0 (.t 34), none⟩,
    ⟨(some 39), .ext 1 (.t 34), none⟩,
    ⟨(some 10), .mv (.t 38), none⟩,
    ⟨(some 11), .mv (.t 39), none⟩]) (
  .seq (
  .ops [
    ⟨(some 41), .mv (.t 5), none⟩,
    ⟨(some 42), .mv (.t 7), none⟩,
    ⟨(some 43), .call (.c (.func (.func 13) [] [])) [(.t 41), (.t 42)], none⟩,
    ⟨(some 40), .mv (.t 43), none⟩,
    ⟨(some 44), .ext 0 (.t 40), none⟩,
    ⟨(some 45), .ext 1 (.t 40), none⟩,
    ⟨(some 12), .mv (.t 44), none⟩,
    ⟨(some 13), .mv (.t 45), none⟩]) (
  .seq (
  .ops [
    ⟨(some 47), .mv (.t 7), none⟩,
    ⟨(some 48), .mv (.t 6), none⟩,
    ⟨(some 49), .call (.c (.func (.func 13) [] [])) [(.t 47), (.t 48)], none⟩,
    ⟨(some 46), .mv (.t 49), none⟩,
    ⟨(some 50), .ext 0 (.t 46), none⟩,
    ⟨(some 51), .ext 1 (.t 46), none⟩,
    ⟨(some 14), .mv (.t 50), none⟩,
    ⟨(some 15), .mv (.t 51), none⟩]) (
  .seq (
  .seq (
  .ops [
    ⟨(some 52), .mv (.t 9), none⟩,
    ⟨(some 53), .bin .neq (.t 52) (.c (.int .i64 0)), none⟩,
    ⟨(some 54), .mv (.t 53), none⟩,
    ⟨(some 55), .mv (.t 11), some (54, false)⟩,
    ⟨(some 56), .bin .neq (.t 55) (.c (.int .i64 0)), some (54, false)⟩,
    ⟨(some 57), .pick (.t 54) (.c (.bool true)) (.t 56), none⟩,
    ⟨(some 58), .mv (.t 57), none⟩,
    ⟨(some 59), .mv (.t 13), some (58, false)⟩,
    ⟨(some 60), .bin .neq (.t 59) (.c (.int .i64 0)), some (58, false)⟩,
    ⟨(some 61), .pick (.t 58) (.c (.bool true)) (.t 60), none⟩,
    ⟨(some 62), .mv (.t 61), none⟩,
    ⟨(some 63), .mv (.t 15), some (62, false)⟩,
    ⟨(some 64), .bin .neq (.t 63) (.c (.int .i64 0)), some (62, false)⟩,
    ⟨(some 65), .pick (.t 62) (.c (.bool true)) (.t 64), none⟩,
    ⟨(some 66), .mv (.t 65), none⟩,
    ⟨(some 67), .mv (.t 8), some (66, false)⟩,
    ⟨(some 68), .mv (.t 10), some (66, false)⟩,
    ⟨(some 69), .bin .neq (.t 67) (.t 68), some (66, false)⟩,
    ⟨(some 70), .pick (.t 66) (.c (.bool true)) (.t 69), none⟩,
    ⟨(some 71), .mv (.t 70), none⟩,
    ⟨(some 72), .mv (.t 8), some (71, false)⟩,
    ⟨(some 73), .call (.c (.func (.func 40) [] [])) [(.t 72), (.c (.int .i64 0)), (.c (.int .i64 4))], some (71, false)⟩,
    ⟨(some 74), .un .not (.t 73), some (71, false)⟩,
    ⟨(some 75), .pick (.t 71) (.c (.bool true)) (.t 74), none⟩,
    ⟨(some 76), .mv (.t 75), none⟩,
    ⟨(some 77), .mv (.t 8), some (76, false)⟩,
    ⟨(some 78), .mv (.t 12), some (76, false)⟩,
    ⟨(some 79), .mv (.t 14), some (76, false)⟩,
    ⟨(some 80), .bin .add (.t 78) (.t 79), some (76, false)⟩,
    ⟨(some 81), .bin .gtr (.t 77) (.t 80), some (76, false)⟩,
    ⟨(some 82), .pick (.t 76) (.c (.bool true)) (.t 81), none⟩,
    ⟨(some 83), .mv (.t 82), none⟩,
    ⟨(some 84), .mv (.t 8), some (83, false)⟩,
    ⟨(some 85), .bin .eql (.t 84) (.c (.int .i64 0)), some (83, false)⟩,
    ⟨(some 86), .mv (.t 5), some (83, false)⟩,
    ⟨(some 87), .mv (.t 6), some (83, false)⟩,
    ⟨(some 88), .bin .eql (.t 86) (.t 87), some (83, false)⟩,
    ⟨(some 89), .eqg true 4 (.t 85) (.t 88), some (83, false)⟩,
    ⟨(some 90), .pick (.t 83) (.c (.bool true)) (.t 89), none⟩]) (
  .cond (.t 90) (
   .seq (
   .ops [
     ⟨(some 4), .mv (.c (.bool false)), none⟩]) (
   .ret)) (
   .skip))) (
  .seq (
  .seq (
  .ops [
    ⟨(some 91), .fad 0 (.t 3), none⟩,
    ⟨(some 92), .ld1 (.t 91), none⟩,
    ⟨(some 93), .call (.c (.func (.func 40) [] [])) [(.t 92), (.c (.int .i64 (-100000))), (.c (.int .i64 100000))], none⟩,
    ⟨(some 94), .un .not (.t 93), none⟩,
    ⟨(some 95), .mv (.t 94), none⟩,
    ⟨(some 96), .fad 1 (.t 3), some (95, false)⟩,
    ⟨(some 97), .ld1 (.t 96), some (95, false)⟩,
    ⟨(some 98), .call (.c (.func (.func 40) [] [])) [(.t 97), (.c (.int .i64 (-100000))), (.c (.int .i64 100000))], some (95, false)⟩,
    ⟨(some 99), .un .not (.t 98), some (95, false)⟩,
    ⟨(some 100), .pick (.t 95) (.c (.bool true)) (.t 99), none⟩]) (
  .cond (.t 100) (
   .seq (
   .ops [
     ⟨(some 101), .call (.c (.func (.func 17) [] [])) [], none⟩,
     ⟨(some 4), .mv (.t 101), none⟩]) (
   .ret)) (
   .skip))) (
  .seq (
  .ops [
    ⟨(some 102), .ldN 2 (.t 3), none⟩,
    ⟨(some 103), .call (.c (.func (.func 15) [] [])) [(.t 102)], none⟩,
    ⟨(some 16), .mv (.t 103), none⟩]) (
  .seq (
  .ops [
    ⟨(some 104), .fad 1 (.t 3), none⟩,
    ⟨(some 105), .ld1 (.t 104), none⟩,
    ⟨(some 106), .un .neg (.t 105), none⟩,
    ⟨(some 107), .fad 0 (.t 3), none⟩,
    ⟨(some 108), .ld1 (.t 107), none⟩,
    ⟨(some 109), .build [(.int .i64 0), (.int .i64 0)] [(0, 1, (.t 106)), (1, 1, (.t 108))], none⟩,
    ⟨(some 110), .call (.c (.func (.func 15) [] [])) [(.t 109)], none⟩,
    ⟨(some 17), .mv (.t 110), none⟩]) (
  .seq (
  .ops [
    ⟨(some 111), .fad 0 (.t 3), none⟩,
    ⟨(some 112), .ld1 (.t 111), none⟩,
    ⟨(some 113), .bin .eql (.t 112) (.c (.int .i64 0)), none⟩,
    ⟨(some 114), .mv (.t 113), none⟩,
    ⟨(some 115), .fad 1 (.t 3), some (114, false)⟩,
    ⟨(some 116), .ld1 (.t 115), some (114, false)⟩,
    ⟨(some 117), .bin .eql (.t 116) (.c (.int .i64 0)), some (114, false)⟩,
    ⟨(some 118), .pick (.t 114) (.c (.bool true)) (.t 117), none⟩,
    ⟨(some 119), .mv (.t 118), none⟩,
    ⟨(some 120), .fad 0 (.t 3), some (119, false)⟩,
    ⟨(some 121), .ld1 (.t 120), some (119, false)⟩,
    ⟨(some 122), .fad 1 (.t 3), some (119, false)⟩,
    ⟨(some 123), .ld1 (.t 122), some (119, false)⟩,
    ⟨(some 124), .bin .eql (.t 121) (.t 123), some (119, false)⟩,
    ⟨(some 125), .pick (.t 119) (.c (.bool true)) (.t 124), none⟩,
    ⟨(some 126), .mv (.t 125), none⟩,
    ⟨(some 127), .fad 0 (.t 3), some (126, false)⟩,
    ⟨(some 128), .ld1 (.t 127), some (126, false)⟩,
    ⟨(some 129), .fad 1 (.t 3), some (126, false)⟩,
    ⟨(some 130), .ld1 (.t 129), some (126, false)⟩,
    ⟨(some 131), .un .neg (.t 130), some (126, false)⟩,
    ⟨(some 132), .bin .eql (.t 128) (.t 131), some (126, false)⟩,
    ⟨(some 133), .pick (.t 126) (.c (.bool true)) (.t 132), none⟩,
    ⟨(some 18), .mv (.t 133), none⟩]) (
  .seq (
  .ops [
    ⟨(some 134), .mv (.t 16), none⟩,
    ⟨(some 135), .call (.c (.func (.func 40) [] [])) [(.t 134), (.c (.int .i64 0)), (.c (.int .i64 7))], none⟩,
    ⟨(some 136), .mv (.t 135), none⟩,
    ⟨(some 137), .mv (.t 18), some (136, true)⟩,
    ⟨(some 138), .mv (.t 137), some (136, true)⟩,
    ⟨(some 139), .mv (.t 17), some (138, false)⟩,
    ⟨(some 140), .mv (.t 16), some (138, false)⟩,
    ⟨(some 141), .bin .add (.t 140) (.c (.int .i64 2)), some (138, false)⟩,
    ⟨(some 142), .bin .rem (.t 141) (.c (.int .i64 8)), some (138, false)⟩,
    ⟨(some 143), .bin .eql (.t 139) (.t 142), some (138, false)⟩,
    ⟨(some 144), .pick (.t 138) (.c (.bool true)) (.t 143), some (136, true)⟩,
    ⟨(some 145), .pick (.t 136) (.t 144) (.c (.bool false)), none⟩,
    ⟨(some 146), .mv (.t 145), none⟩,
    ⟨(some 147), .call (.c (.func (.func 17) [] [])) [], some (146, true)⟩,
    ⟨(some 148), .pick (.t 146) (.t 147) (.c (.bool false)), none⟩,
    ⟨(some 4), .mv (.t 148), none⟩]) (
  .ret)))))))))))), [.tmp 4]⟩
/-- paravane/course.Turned -/
def x13 : XF := ⟨17, .seq (
  .ops [
    ⟨(some 4), .mv (.c (.int .i64 0)), none⟩,
    ⟨(some 5), .mv (.c (.int .i64 0)), none⟩]) (
  .seq (
  .seq (
  .ops [
    ⟨(some 6), .mv (.t 0), none⟩,
    ⟨(some 7), .call (.c (.func (.func 43) [] [])) [(.t 6), (.c (.int .i64 0)), (.c (.int .i64 7))], none⟩,
    ⟨(some 8), .un .not (.t 7), none⟩,
    ⟨(some 9), .mv (.t 8), none⟩,
    ⟨(some 10), .mv (.t 1), some (9, false)⟩,
    ⟨(some 11), .call (.c (.func (.func 43) [] [])) [(.t 10), (.c (.int .i64 0)), (.c (.int .i64 7))], some (9, false)⟩,
    ⟨(some 12), .un .not (.t 11), some (9, false)⟩,
    ⟨(some 13), .pick (.t 9) (.c (.bool true)) (.t 12), none⟩]) (
  .cond (.t 13) (
   .seq (
   .ops [
     ⟨(some 4), .mv (.c (.int .i64 0)), none⟩,
     ⟨(some 5), .mv (.c (.int .i64 7)), none⟩]) (
   .ret)) (
   .skip))) (
  .seq (
  .ops [
    ⟨(some 14), .mv (.t 0), none⟩,
    ⟨(some 15), .mv (.t 1), none⟩,
    ⟨(some 16), .call (.c (.func (.func 44) [] [])) [(.t 14), (.t 15)], none⟩,
    ⟨(some 4), .mv (.t 16), none⟩,
    ⟨(some 5), .mv (.c (.int .i64 0)), none⟩]) (
  .ret))), [.tmp 4, .tmp 5]⟩
/-- paravane/course.Octant -/
def x15 : XF := ⟨84, .seq (
  .ops [
    ⟨(some 1), .box 23 (.t 0), none⟩,
    ⟨(some 2), .mv (.c (.int .i64 0)), none⟩]) (
  .seq (
  .seq (
  .ops [
    ⟨(some 7), .fad 0 (.t 1), none⟩,
    ⟨(some 8), .ld1 (.t 7), none⟩,
    ⟨(some 9), .call (.c (.func (.func 43) [] [])) [(.t 8), (.c (.int .i64 (-131072))), (.c (.int .i64 131072))], none⟩,
    ⟨(some 10), .un .not (.t 9), none⟩,
    ⟨(some 11), .mv (.t 10), none⟩,
    ⟨(some 12), .fad 1 (.t 1), some (11, false)⟩,
    ⟨(some 13), .ld1 (.t 12), some (11, false)⟩,
    ⟨(some 14), .call (.c (.func (.func 43) [] [])) [(.t 13), (.c (.int .i64 (-131072))), (.c (.int .i64 131072))], some (11, false)⟩,
    ⟨(some 15), .un .not (.t 14), some (11, false)⟩,
    ⟨(some 16), .pick (.t 11) (.c (.bool true)) (.t 15), none⟩]) (
  .cond (.t 16) (
   .seq (
   .ops [
     ⟨(some 2), .mv (.c (.int .i64 0)), none⟩]) (
   .ret)) (
   .skip))) (
  .seq (
  .draw [
    (⟨(some 17), .fad 0 (.t 1), none⟩, .calm),
    (⟨(some 18), .ld1 (.t 17), none⟩, .reads 0 0),
    (⟨(some 19), .fad 1 (.t 1), none⟩, .calm),
    (⟨(some 20), .ld1 (.t 19), none⟩, .reads 0 0),
    (⟨(some 21), .bin .add (.t 18) (.t 20), none⟩, .calm),
    (⟨(some 22), .fad 0 (.t 1), none⟩, .calm),
    (⟨(some 23), .ld1 (.t 22), none⟩, .reads 0 0),
    (⟨(some 24), .fad 1 (.t 1), none⟩, .calm),
    (⟨(some 25), .ld1 (.t 24), none⟩, .reads 0 0),
    (⟨(some 26), .bin .sub (.t 23) (.t 25), none⟩, .calm),
    (⟨(some 3), .mv (.t 21), none⟩, .calm),
    (⟨(some 4), .mv (.t 26), none⟩, .calm)]) (
  .seq (
  .seq (
  .ops [
    ⟨(some 27), .fad 1 (.t 1), none⟩,
    ⟨(some 28), .ld1 (.t 27), none⟩,
    ⟨(some 29), .bin .geq (.t 28) (.c (.int .i64 0)), none⟩,
    ⟨(some 30), .mv (.t 29), none⟩,
    ⟨(some 31), .mv (.t 4), some (30, true)⟩,
    ⟨(some 32), .bin .geq (.t 31) (.c (.int .i64 0)), some (30, true)⟩,
    ⟨(some 33), .pick (.t 30) (.t 32) (.c (.bool false)), none⟩,
    ⟨(some 34), .fad 0 (.t 1), none⟩,
    ⟨(some 35), .ld1 (.t 34), none⟩,
    ⟨(some 36), .bin .geq (.t 35) (.c (.int .i64 0)), none⟩,
    ⟨(some 37), .mv (.t 36), none⟩,
    ⟨(some 38), .mv (.t 4), some (37, true)⟩,
    ⟨(some 39), .bin .leq (.t 38) (.c (.int .i64 0)), some (37, true)⟩,
    ⟨(some 40), .pick (.t 37) (.t 39) (.c (.bool false)), none⟩,
    ⟨(some 41), .fad 0 (.t 1), none⟩,
    ⟨(some 42), .ld1 (.t 41), none⟩,
    ⟨(some 43), .bin .leq (.t 42) (.c (.int .i64 0)), none⟩,
    ⟨(some 44), .mv (.t 43), none⟩,
    ⟨(some 45), .mv (.t 3), some (44, true)⟩,
    ⟨(some 46), .bin .geq (.t 45) (.c (.int .i64 0)), some (44, true)⟩,
    ⟨(some 47), .pick (.t 44) (.t 46) (.c (.bool false)), none⟩,
    ⟨(some 48), .fad 1 (.t 1), none⟩,
    ⟨(some 49), .ld1 (.t 48), none⟩,
    ⟨(some 50), .bin .geq (.t 49) (.c (.int .i64 0)), none⟩,
    ⟨(some 51), .mv (.t 50), none⟩,
    ⟨(some 52), .mv (.t 3), some (51, true)⟩,
    ⟨(some 53), .bin .leq (.t 52) (.c (.int .i64 0)), some (51, true)⟩,
    ⟨(some 54), .pick (.t 51) (.t 53) (.c (.bool false)), none⟩,
    ⟨(some 55), .fad 1 (.t 1), none⟩,
    ⟨(some 56), .ld1 (.t 55), none⟩,
    ⟨(some 57), .bin .leq (.t 56) (.c (.int .i64 0)), none⟩,
    ⟨(some 58), .mv (.t 57), none⟩,
    ⟨(some 59), .mv (.t 4), some (58, true)⟩,
    ⟨(some 60), .bin .leq (.t 59) (.c (.int .i64 0)), some (58, true)⟩,
    ⟨(some 61), .pick (.t 58) (.t 60) (.c (.bool false)), none⟩,
    ⟨(some 62), .fad 0 (.t 1), none⟩,
    ⟨(some 63), .ld1 (.t 62), none⟩,
    ⟨(some 64), .bin .leq (.t 63) (.c (.int .i64 0)), none⟩,
    ⟨(some 65), .mv (.t 64), none⟩,
    ⟨(some 66), .mv (.t 4), some (65, true)⟩,
    ⟨(some 67), .bin .geq (.t 66) (.c (.int .i64 0)), some (65, true)⟩,
    ⟨(some 68), .pick (.t 65) (.t 67) (.c (.bool false)), none⟩,
    ⟨(some 69), .fad 0 (.t 1), none⟩,
    ⟨(some 70), .ld1 (.t 69), none⟩,
    ⟨(some 71), .bin .geq (.t 70) (.c (.int .i64 0)), none⟩,
    ⟨(some 72), .mv (.t 71), none⟩,
    ⟨(some 73), .mv (.t 3), some (72, true)⟩,
    ⟨(some 74), .bin .leq (.t 73) (.c (.int .i64 0)), some (72, true)⟩,
    ⟨(some 75), .pick (.t 72) (.t 74) (.c (.bool false)), none⟩,
    ⟨(some 76), .build [(.bool false), (.bool false), (.bool false), (.bool false), (.bool false), (.bool false), (.bool false)] [(0, 1, (.t 33)), (1, 1, (.t 40)), (2, 1, (.t 47)), (3, 1, (.t 54)), (4, 1, (.t 61)), (5, 1, (.t 68)), (6, 1, (.t 75))], none⟩,
    ⟨(some 77), .mv (.c (.int .i64 0)), none⟩]) (
  .block 0 (
   .loop (
    .seq (
    .ops [
      ⟨(some 78), .bin .lss (.t 77) (.c (.int .i64 7)), none⟩]) (
    .seq (
    .cond (.t 78) (
     .skip) (
     .exit 0)) (
    .seq (
    .block 1 (
     .seq (
     .ops [
       ⟨(some 79), .mv (.t 77), none⟩,
       ⟨(some 80), .idx 7 1 false (.t 76) (.t 77), none⟩,
       ⟨(some 5), .mv (.t 79), none⟩,
       ⟨(some 6), .mv (.t 80), none⟩]) (
     .seq (
     .ops [
       ⟨(some 81), .mv (.t 6), none⟩]) (
     .cond (.t 81) (
      .seq (
      .ops [
        ⟨(some 82), .mv (.t 5), none⟩,
        ⟨(some 2), .mv (.t 82), none⟩]) (
      .ret)) (
      .skip))))) (
    .ops [
      ⟨(some 83), .bin .add (.t 77) (.c (.int .i64 1)), none⟩,
      ⟨(some 77), .mv (.t 83), none⟩]))))))) (
  .seq (
  .ops [
    ⟨(some 2), .mv (.c (.int .i64 7)), none⟩]) (
  .ret))))), [.tmp 2]⟩
/-- paravane/paravaneref00.Rest -/
def x39 : XF := ⟨16, .seq (
  .ops [
    ⟨(some 4), .mv (.c (.int .i64 0)), none⟩]) (
  .seq (
  .seq (
  .ops [
    ⟨(some 5), .mv (.t 1), none⟩,
    ⟨(some 6), .bin .lss (.t 5) (.c (.int .i64 1)), none⟩]) (
  .cond (.t 6) (
   .seq (
   .ops [
     ⟨(some 4), .mv (.c (.int .i64 0)), none⟩]) (
   .ret)) (
   .skip))) (
  .seq (
  .ops [
    ⟨(some 7), .mv (.t 0), none⟩,
    ⟨(some 8), .mv (.t 1), none⟩,
    ⟨(some 9), .bin .rem (.t 7) (.t 8), none⟩,
    ⟨(some 0), .mv (.t 9), none⟩]) (
  .seq (
  .seq (
  .ops [
    ⟨(some 10), .mv (.t 0), none⟩,
    ⟨(some 11), .bin .lss (.t 10) (.c (.int .i64 0)), none⟩]) (
  .cond (.t 11) (
   .ops [
     ⟨(some 12), .mv (.t 0), none⟩,
     ⟨(some 13), .mv (.t 1), none⟩,
     ⟨(some 14), .bin .add (.t 12) (.t 13), none⟩,
     ⟨(some 0), .mv (.t 14), none⟩]) (
   .skip))) (
  .seq (
  .ops [
    ⟨(some 15), .mv (.t 0), none⟩,
    ⟨(some 4), .mv (.t 15), none⟩]) (
  .ret))))), [.tmp 4]⟩
/-- paravane/paravaneref00.Between -/
def x40 : XF := ⟨15, .seq (
  .ops [
    ⟨(some 6), .mv (.c (.bool false)), none⟩]) (
  .seq (
  .ops [
    ⟨(some 7), .mv (.t 0), none⟩,
    ⟨(some 8), .mv (.t 1), none⟩,
    ⟨(some 9), .bin .geq (.t 7) (.t 8), none⟩,
    ⟨(some 10), .mv (.t 9), none⟩,
    ⟨(some 11), .mv (.t 0), some (10, true)⟩,
    ⟨(some 12), .mv (.t 2), some (10, true)⟩,
    ⟨(some 13), .bin .leq (.t 11) (.t 12), some (10, true)⟩,
    ⟨(some 14), .pick (.t 10) (.t 13) (.c (.bool false)), none⟩,
    ⟨(some 6), .mv (.t 14), none⟩]) (
  .ret)), [.tmp 6]⟩
/-- paravane/course.within -/
def x43 : XF := ⟨15, .seq (
  .ops [
    ⟨(some 6), .mv (.c (.bool false)), none⟩]) (
  .seq (
  .ops [
    ⟨(some 7), .mv (.t 0), none⟩,
    ⟨(some 8), .mv (.t 1), none⟩,
    ⟨(some 9), .bin .geq (.t 7) (.t 8), none⟩,
    ⟨(some 10), .mv (.t 9), none⟩,
    ⟨(some 11), .mv (.t 0), some (10, true)⟩,
    ⟨(some 12), .mv (.t 2), some (10, true)⟩,
    ⟨(some 13), .bin .leq (.t 11) (.t 12), some (10, true)⟩,
    ⟨(some 14), .pick (.t 10) (.t 13) (.c (.bool false)), none⟩,
    ⟨(some 6), .mv (.t 14), none⟩]) (
  .ret)), [.tmp 6]⟩
/-- paravane/course.turned -/
def x44 : XF := ⟨15, .seq (
  .ops [
    ⟨(some 4), .mv (.c (.int .i64 0)), none⟩]) (
  .seq (
  .ops [
    ⟨(some 6), .mv (.t 1), none⟩,
    ⟨(some 7), .mv (.t 0), none⟩,
    ⟨(some 8), .bin .sub (.t 6) (.t 7), none⟩,
    ⟨(some 9), .bin .add (.t 8) (.c (.int .i64 8)), none⟩,
    ⟨(some 10), .bin .rem (.t 9) (.c (.int .i64 8)), none⟩,
    ⟨(some 5), .mv (.t 10), none⟩]) (
  .seq (
  .ops [
    ⟨(some 11), .mv (.t 5), none⟩,
    ⟨(some 12), .mv (.t 5), none⟩,
    ⟨(some 13), .bin .sub (.c (.int .i64 8)) (.t 12), none⟩,
    ⟨(some 14), .min [(.t 11), (.t 13)], none⟩,
    ⟨(some 4), .mv (.t 14), none⟩]) (
  .ret))), [.tmp 4]⟩
/-- paravane/paravaneref04.place -/
def x51 : XF := ⟨6, .seq (
  .ops [
    ⟨(some 1), .box 23 (.t 0), none⟩,
    ⟨(some 2), .mv (.c (.bool false)), none⟩]) (
  .seq (
  .ops [
    ⟨(some 3), .ldN 2 (.t 1), none⟩,
    ⟨(some 4), .call (.c (.func (.func 101) [] [])) [(.t 3)], none⟩,
    ⟨(some 5), .bin .eql (.t 4) (.c (.int .i64 0)), none⟩,
    ⟨(some 2), .mv (.t 5), none⟩]) (
  .ret)), [.tmp 2]⟩
/-- paravane/region.CheckPoint -/
def x93 : XF := ⟨18, .seq (
  .ops [
    ⟨(some 1), .box 23 (.t 0), none⟩,
    ⟨(some 2), .mv (.c (.int .i64 0)), none⟩]) (
  .seq (
  .seq (
  .ops [
    ⟨(some 5), .fad 0 (.t 1), none⟩,
    ⟨(some 6), .ld1 (.t 5), none⟩,
    ⟨(some 7), .fad 1 (.t 1), none⟩,
    ⟨(some 8), .ld1 (.t 7), none⟩,
    ⟨(some 9), .build [(.int .i64 0), (.int .i64 0)] [(0, 1, (.t 6)), (1, 1, (.t 8))], none⟩,
    ⟨(some 10), .mv (.c (.int .i64 0)), none⟩]) (
  .block 0 (
   .loop (
    .seq (
    .ops [
      ⟨(some 11), .bin .lss (.t 10) (.c (.int .i64 2)), none⟩]) (
    .seq (
    .cond (.t 11) (
     .skip) (
     .exit 0)) (
    .seq (
    .block 1 (
     .seq (
     .ops [
       ⟨(some 12), .idx 2 1 false (.t 9) (.t 10), none⟩,
       ⟨(some 4), .mv (.t 12), none⟩]) (
     .seq (
     .ops [
       ⟨(some 13), .mv (.t 4), none⟩,
       ⟨(some 14), .call (.c (.func (.func 125) [] [])) [(.c (.int .i64 32768)), (.t 13)], none⟩,
       ⟨(some 15), .mv (.t 4), none⟩,
       ⟨(some 16), .bin .neq (.t 14) (.t 15), none⟩]) (
     .cond (.t 16) (
      .seq (
      .ops [
        ⟨(some 2), .mv (.c (.int .i64 10)), none⟩]) (
      .ret)) (
      .skip))))) (
    .ops [
      ⟨(some 17), .bin .add (.t 10) (.c (.int .i64 1)), none⟩,
      ⟨(some 10), .mv (.t 17), none⟩]))))))) (
  .seq (
  .ops [
    ⟨(some 2), .mv (.c (.int .i64 0)), none⟩]) (
  .ret))), [.tmp 2]⟩
/-- paravane/paravaneref01.CheckPoint -/
def x101 : XF := ⟨6, .seq (
  .ops [
    ⟨(some 1), .box 23 (.t 0), none⟩,
    ⟨(some 2), .mv (.c (.int .i64 0)), none⟩]) (
  .seq (
  .seq (
  .ops [
    ⟨(some 3), .ldN 2 (.t 1), none⟩,
    ⟨(some 4), .call (.c (.func (.func 102) [] [])) [(.t 3)], none⟩,
    ⟨(some 5), .un .not (.t 4), none⟩]) (
  .cond (.t 5) (
   .seq (
   .ops [
     ⟨(some 2), .mv (.c (.int .i64 10)), none⟩]) (
   .ret)) (
   .skip))) (
  .seq (
  .ops [
    ⟨(some 2), .mv (.c (.int .i64 0)), none⟩]) (
  .ret))), [.tmp 2]⟩
/-- paravane/paravaneref01.place -/
def x102 : XF := ⟨11, .seq (
  .ops [
    ⟨(some 1), .box 23 (.t 0), none⟩,
    ⟨(some 2), .mv (.c (.bool false)), none⟩]) (
  .seq (
  .ops [
    ⟨(some 3), .fad 0 (.t 1), none⟩,
    ⟨(some 4), .ld1 (.t 3), none⟩,
    ⟨(some 5), .call (.c (.func (.func 40) [] [])) [(.t 4), (.c (.int .i64 (-32768))), (.c (.int .i64 32768))], none⟩,
    ⟨(some 6), .mv (.t 5), none⟩,
    ⟨(some 7), .fad 1 (.t 1), some (6, true)⟩,
    ⟨(some 8), .ld1 (.t 7), some (6, true)⟩,
    ⟨(some 9), .call (.c (.func (.func 40) [] [])) [(.t 8), (.c (.int .i64 (-32768))), (.c (.int .i64 32768))], some (6, true)⟩,
    ⟨(some 10), .pick (.t 6) (.t 9) (.c (.bool false)), none⟩,
    ⟨(some 2), .mv (.t 10), none⟩]) (
  .ret)), [.tmp 2]⟩
/-- (paravane/region.limit).into -/
def x125 : XF := ⟨11, .seq (
  .ops [
    ⟨(some 4), .mv (.c (.int .i64 0)), none⟩]) (
  .seq (
  .ops [
    ⟨(some 5), .mv (.t 0), none⟩,
    ⟨(some 6), .un .neg (.t 5), none⟩,
    ⟨(some 7), .mv (.t 1), none⟩,
    ⟨(some 8), .mv (.t 0), none⟩,
    ⟨(some 9), .min [(.t 7), (.t 8)], none⟩,
    ⟨(some 10), .max [(.t 6), (.t 9)], none⟩,
    ⟨(some 4), .mv (.t 10), none⟩]) (
  .ret)), [.tmp 4]⟩
/-- paravane/region.within -/
def x127 : XF := ⟨15, .seq (
  .ops [
    ⟨(some 6), .mv (.c (.bool false)), none⟩]) (
  .seq (
  .ops [
    ⟨(some 7), .mv (.t 0), none⟩,
    ⟨(some 8), .mv (.t 1), none⟩,
    ⟨(some 9), .bin .geq (.t 7) (.t 8), none⟩,
    ⟨(some 10), .mv (.t 9), none⟩,
    ⟨(some 11), .mv (.t 0), some (10, true)⟩,
    ⟨(some 12), .mv (.t 2), some (10, true)⟩,
    ⟨(some 13), .bin .leq (.t 11) (.t 12), some (10, true)⟩,
    ⟨(some 14), .pick (.t 10) (.t 13) (.c (.bool false)), none⟩,
    ⟨(some 6), .mv (.t 14), none⟩]) (
  .ret)), [.tmp 6]⟩
theorem k11 : cFn Tryz.prog 11 = some x11 := by kernel_rfl
theorem k13 : cFn Tryz.prog 13 = some x13 := by kernel_rfl
theorem k15 : cFn Tryz.prog 15 = some x15 := by kernel_rfl
theorem k39 : cFn Tryz.prog 39 = some x39 := by kernel_rfl
theorem k40 : cFn Tryz.prog 40 = some x40 := by kernel_rfl
theorem k43 : cFn Tryz.prog 43 = some x43 := by kernel_rfl
theorem k44 : cFn Tryz.prog 44 = some x44 := by kernel_rfl
theorem k51 : cFn Tryz.prog 51 = some x51 := by kernel_rfl
theorem k93 : cFn Tryz.prog 93 = some x93 := by kernel_rfl
theorem k101 : cFn Tryz.prog 101 = some x101 := by kernel_rfl
theorem k102 : cFn Tryz.prog 102 = some x102 := by kernel_rfl
theorem k125 : cFn Tryz.prog 125 = some x125 := by kernel_rfl
theorem k127 : cFn Tryz.prog 127 = some x127 := by kernel_rfl
end Go.Proofs.YtgipddabhcmgjaaGreat.C
