/-
  Part of the proof of CourseTabled: what functions of the program and of the statement come to, walked by the rules. No condition beyond those in each theorem.
-/
import Derived.Test.YtpccafeedfpbaaaProg
import Derived.KernelRfl
import Derived.Test.YtpccafeedfpbaaaPvD
open Go PvL Go.Proofs
set_option linter.unusedVariables false
namespace Go.Proofs.Ytpccafeedfpbaaa.C
-- NONE 0
-- NONE 1
/-- gosem.cut.init -/
def x2 : XF := ⟨1, .ops [
    ⟨(some 0), .call (.c (.func (.func 1) [] [])) [], none⟩], []⟩
/-- paravane/paravanelaw04.CourseEasier -/
def x3 : XF := ⟨95, .seq (
  .ops [
    ⟨(some 3), .box 35 (.t 0), none⟩,
    ⟨(some 4), .box 36 (.t 1), none⟩,
    ⟨(some 5), .box 30 (.t 2), none⟩,
    ⟨(some 6), .mv (.c (.bool false)), none⟩]) (
  .seq (
  .ops [
    ⟨(some 18), .ldN 17 (.t 3), none⟩,
    ⟨(some 19), .iad (some 2) 3 (.t 4) (.c (.int .i64 0)), none⟩,
    ⟨(some 20), .ldN 3 (.t 19), none⟩,
    ⟨(some 21), .iad (some 2) 3 (.t 4) (.c (.int .i64 1)), none⟩,
    ⟨(some 22), .ldN 3 (.t 21), none⟩,
    ⟨(some 23), .call (.c (.func (.func 7) [] [])) [(.t 18), (.t 20), (.t 22)], none⟩,
    ⟨(some 17), .mv (.t 23), none⟩,
    ⟨(some 24), .ext 0 (.t 17), none⟩,
    ⟨(some 25), .ext 1 (.t 17), none⟩,
    ⟨(some 26), .ext 2 (.t 17), none⟩,
    ⟨(some 7), .mv (.t 24), none⟩,
    ⟨(some 8), .mv (.t 25), none⟩,
    ⟨(some 9), .mv (.t 26), none⟩]) (
  .seq (
  .seq (
  .ops [
    ⟨(some 27), .mv (.t 9), none⟩,
    ⟨(some 28), .bin .neq (.t 27) (.c (.int .i64 0)), none⟩]) (
  .cond (.t 28) (
   .seq (
   .ops [
     ⟨(some 29), .mv (.t 8), none⟩,
     ⟨(some 30), .bin .eql (.t 29) (.c (.int .i64 0)), none⟩,
     ⟨(some 31), .mv (.t 30), none⟩,
     ⟨(some 32), .call (.c (.func (.func 8) [] [])) [], some (31, true)⟩,
     ⟨(some 33), .pick (.t 31) (.t 32) (.c (.bool false)), none⟩,
     ⟨(some 6), .mv (.t 33), none⟩]) (
   .ret)) (
   .skip))) (
  .seq (
  .draw [
    (⟨(some 34), .ldN 17 (.t 3), none⟩, .reads 0 0),
    (⟨(some 35), .ldN 17 (.t 3), none⟩, .reads 0 1),
    (⟨(some 10), .new 35 [(.slice none 0 true 0), (.slice none 0 true 0), (.slice none 0 true 0), (.int .i64 0), (.int .i64 0), (.int .i64 0), (.int .i64 0), (.int .i64 0), (.int .i64 0), (.int .i64 0), (.int .i64 0), (.int .i64 0), (.int .i64 0), (.int .i64 0), (.int .i64 0), (.int .i64 0), (.slice none 0 true 0)], none⟩, .new),
    (⟨(some 11), .new 35 [(.slice none 0 true 0), (.slice none 0 true 0), (.slice none 0 true 0), (.int .i64 0), (.int .i64 0), (.int .i64 0), (.int .i64 0), (.int .i64 0), (.int .i64 0), (.int .i64 0), (.int .i64 0), (.int .i64 0), (.int .i64 0), (.int .i64 0), (.int .i64 0), (.int .i64 0), (.slice none 0 true 0)], none⟩, .new),
    (⟨none, .st 17 (.t 10) (.t 34), none⟩, .anchor),
    (⟨none, .st 17 (.t 11) (.t 35), none⟩, .anchor)]) (
  .seq (
  .seq (
  .ops [
    ⟨(some 36), .fad 1 (.t 3), none⟩,
    ⟨(some 37), .ld1 (.t 36), none⟩,
    ⟨(some 38), .len .sl (.t 37), none⟩,
    ⟨(some 39), .bin .gtr (.t 38) (.c (.int .i64 0)), none⟩]) (
  .cond (.t 39) (
   .ops [
     ⟨(some 40), .fad 1 (.t 3), none⟩,
     ⟨(some 41), .ld1 (.t 40), none⟩,
     ⟨(some 42), .slc 1 (.t 41) (some (.c (.int .i64 1))) none none, none⟩,
     ⟨(some 43), .fad 1 (.t 10), none⟩,
     ⟨none, .st 1 (.t 43) (.t 42), none⟩]) (
   .skip))) (
  .seq (
  .draw [
    (⟨(some 44), .bsl 30 2 0 [(.int .i64 0), (.int .i64 0)] [], none⟩, .new),
    (⟨(some 45), .fad 2 (.t 3), none⟩, .calm),
    (⟨(some 46), .ld1 (.t 45), none⟩, .reads 0 0),
    (⟨(some 47), .app 30 2 16 [(.int .i64 0), (.int .i64 0)] (.t 44) (.t 46), none⟩, .anchor),
    (⟨(some 48), .ldN 2 (.t 5), none⟩, .reads 0 1),
    (⟨(some 49), .bsl 30 2 1 [(.int .i64 0), (.int .i64 0)] [(0, 2, (.t 48))], none⟩, .new),
    (⟨(some 50), .app 30 2 16 [(.int .i64 0), (.int .i64 0)] (.t 47) (.t 49), none⟩, .anchor),
    (⟨(some 51), .fad 2 (.t 11), none⟩, .calm),
    (⟨none, .st 1 (.t 51) (.t 50), none⟩, .anchor)]) (
  .seq (
  .ops [
    ⟨(some 53), .ldN 17 (.t 10), none⟩,
    ⟨(some 54), .iad (some 2) 3 (.t 4) (.c (.int .i64 0)), none⟩,
    ⟨(some 55), .ldN 3 (.t 54), none⟩,
    ⟨(some 56), .iad (some 2) 3 (.t 4) (.c (.int .i64 1)), none⟩,
    ⟨(some 57), .ldN 3 (.t 56), none⟩,
    ⟨(some 58), .call (.c (.func (.func 7) [] [])) [(.t 53), (.t 55), (.t 57)], none⟩,
    ⟨(some 52), .mv (.t 58), none⟩,
    ⟨(some 59), .ext 0 (.t 52), none⟩,
    ⟨(some 60), .ext 1 (.t 52), none⟩,
    ⟨(some 61), .ext 2 (.t 52), none⟩,
    ⟨(some 12), .mv (.t 59), none⟩,
    ⟨(some 13), .mv (.t 60), none⟩,
    ⟨(some 9), .mv (.t 61), none⟩]) (
  .seq (
  .ops [
    ⟨(some 63), .ldN 17 (.t 11), none⟩,
    ⟨(some 64), .iad (some 2) 3 (.t 4) (.c (.int .i64 0)), none⟩,
    ⟨(some 65), .ldN 3 (.t 64), none⟩,
    ⟨(some 66), .iad (some 2) 3 (.t 4) (.c (.int .i64 1)), none⟩,
    ⟨(some 67), .ldN 3 (.t 66), none⟩,
    ⟨(some 68), .call (.c (.func (.func 7) [] [])) [(.t 63), (.t 65), (.t 67)], none⟩,
    ⟨(some 62), .mv (.t 68), none⟩,
    ⟨(some 69), .ext 0 (.t 62), none⟩,
    ⟨(some 70), .ext 1 (.t 62), none⟩,
    ⟨(some 71), .ext 2 (.t 62), none⟩,
    ⟨(some 14), .mv (.t 69), none⟩,
    ⟨(some 15), .mv (.t 70), none⟩,
    ⟨(some 16), .mv (.t 71), none⟩]) (
  .seq (
  .ops [
    ⟨(some 72), .mv (.t 9), none⟩,
    ⟨(some 73), .bin .eql (.t 72) (.c (.int .i64 0)), none⟩,
    ⟨(some 74), .mv (.t 73), none⟩,
    ⟨(some 75), .mv (.t 13), some (74, true)⟩,
    ⟨(some 76), .mv (.t 8), some (74, true)⟩,
    ⟨(some 77), .bin .leq (.t 75) (.t 76), some (74, true)⟩,
    ⟨(some 78), .pick (.t 74) (.t 77) (.c (.bool false)), none⟩,
    ⟨(some 79), .mv (.t 78), none⟩,
    ⟨(some 80), .mv (.t 16), some (79, true)⟩,
    ⟨(some 81), .bin .eql (.t 80) (.c (.int .i64 40)), some (79, true)⟩,
    ⟨(some 82), .mv (.t 81), some (79, true)⟩,
    ⟨(some 83), .mv (.t 16), some (82, false)⟩,
    ⟨(some 84), .bin .eql (.t 83) (.c (.int .i64 0)), some (82, false)⟩,
    ⟨(some 85), .mv (.t 84), some (82, false)⟩,
    ⟨(some 86), .mv (.t 15), some (85, true)⟩,
    ⟨(some 87), .mv (.t 8), some (85, true)⟩,
    ⟨(some 88), .bin .leq (.t 86) (.t 87), some (85, true)⟩,
    ⟨(some 89), .pick (.t 85) (.t 88) (.c (.bool false)), some (82, false)⟩,
    ⟨(some 90), .pick (.t 82) (.c (.bool true)) (.t 89), some (79, true)⟩,
    ⟨(some 91), .pick (.t 79) (.t 90) (.c (.bool false)), none⟩,
    ⟨(some 92), .mv (.t 91), none⟩,
    ⟨(some 93), .call (.c (.func (.func 8) [] [])) [], some (92, true)⟩,
    ⟨(some 94), .pick (.t 92) (.t 93) (.c (.bool false)), none⟩,
    ⟨(some 6), .mv (.t 94), none⟩]) (
  .ret))))))))), [.tmp 6]⟩
/-- paravane/paravanelaw04.CourseFirst -/
def x4 : XF := ⟨117, .seq (
  .ops [
    ⟨(some 2), .box 35 (.t 0), none⟩,
    ⟨(some 4), .mv (.c (.bool false)), none⟩]) (
  .seq (
  .ops [
    ⟨(some 13), .ldN 17 (.t 2), none⟩,
    ⟨(some 14), .call (.c (.func (.func 9) [] [])) [(.t 13)], none⟩,
    ⟨(some 12), .mv (.t 14), none⟩,
    ⟨(some 15), .ext 0 (.t 12), none⟩,
    ⟨(some 16), .ext 1 (.t 12), none⟩,
    ⟨(some 17), .ext 2 (.t 12), none⟩,
    ⟨(some 5), .mv (.t 15), none⟩,
    ⟨(some 6), .mv (.t 16), none⟩,
    ⟨(some 7), .mv (.t 17), none⟩]) (
  .seq (
  .ops [
    ⟨(some 19), .ldN 17 (.t 2), none⟩,
    ⟨(some 20), .mv (.t 1), none⟩,
    ⟨(some 21), .call (.c (.func (.func 10) [] [])) [(.t 19), (.t 20)], none⟩,
    ⟨(some 18), .mv (.t 21), none⟩,
    ⟨(some 22), .ext 0 (.t 18), none⟩,
    ⟨(some 23), .ext 1 (.t 18), none⟩,
    ⟨(some 8), .mv (.t 22), none⟩,
    ⟨(some 9), .mv (.t 23), none⟩]) (
  .seq (
  .seq (
  .ops [
    ⟨(some 24), .mv (.t 7), none⟩,
    ⟨(some 25), .bin .neq (.t 24) (.c (.int .i64 0)), none⟩]) (
  .cond (.t 25) (
   .seq (
   .ops [
     ⟨(some 26), .mv (.t 5), none⟩,
     ⟨(some 27), .len .sl (.t 26), none⟩,
     ⟨(some 28), .bin .eql (.t 27) (.c (.int .i64 0)), none⟩,
     ⟨(some 29), .mv (.t 28), none⟩,
     ⟨(some 30), .mv (.t 6), some (29, true)⟩,
     ⟨(some 31), .bin .eql (.t 30) (.c (.int .i64 0)), some (29, true)⟩,
     ⟨(some 32), .pick (.t 29) (.t 31) (.c (.bool false)), none⟩,
     ⟨(some 33), .mv (.t 32), none⟩,
     ⟨(some 34), .mv (.t 9), some (33, true)⟩,
     ⟨(some 35), .bin .neq (.t 34) (.c (.int .i64 0)), some (33, true)⟩,
     ⟨(some 36), .mv (.t 35), some (33, true)⟩,
     ⟨(some 37), .mv (.t 1), some (36, false)⟩,
     ⟨(some 38), .len .sl (.t 37), some (36, false)⟩,
     ⟨(some 39), .fad 0 (.t 2), some (36, false)⟩,
     ⟨(some 40), .ld1 (.t 39), some (36, false)⟩,
     ⟨(some 41), .len .sl (.t 40), some (36, false)⟩,
     ⟨(some 42), .bin .neq (.t 38) (.t 41), some (36, false)⟩,
     ⟨(some 43), .pick (.t 36) (.c (.bool true)) (.t 42), some (33, true)⟩,
     ⟨(some 44), .pick (.t 33) (.t 43) (.c (.bool false)), none⟩,
     ⟨(some 45), .mv (.t 44), none⟩,
     ⟨(some 46), .call (.c (.func (.func 8) [] [])) [], some (45, true)⟩,
     ⟨(some 47), .pick (.t 45) (.t 46) (.c (.bool false)), none⟩,
     ⟨(some 4), .mv (.t 47), none⟩]) (
   .ret)) (
   .skip))) (
  .seq (
  .ops [
    ⟨(some 49), .ldN 17 (.t 2), none⟩,
    ⟨(some 50), .mv (.t 5), none⟩,
    ⟨(some 51), .call (.c (.func (.func 10) [] [])) [(.t 49), (.t 50)], none⟩,
    ⟨(some 48), .mv (.t 51), none⟩,
    ⟨(some 52), .ext 0 (.t 48), none⟩,
    ⟨(some 53), .ext 1 (.t 48), none⟩,
    ⟨(some 10), .mv (.t 52), none⟩,
    ⟨(some 11), .mv (.t 53), none⟩]) (
  .seq (
  .seq (
  .ops [
    ⟨(some 54), .mv (.t 11), none⟩,
    ⟨(some 55), .bin .neq (.t 54) (.c (.int .i64 0)), none⟩,
    ⟨(some 56), .mv (.t 55), none⟩,
    ⟨(some 57), .mv (.t 5), some (56, false)⟩,
    ⟨(some 58), .len .sl (.t 57), some (56, false)⟩,
    ⟨(some 59), .fad 0 (.t 2), some (56, false)⟩,
    ⟨(some 60), .ld1 (.t 59), some (56, false)⟩,
    ⟨(some 61), .len .sl (.t 60), some (56, false)⟩,
    ⟨(some 62), .bin .neq (.t 58) (.t 61), some (56, false)⟩,
    ⟨(some 63), .pick (.t 56) (.c (.bool true)) (.t 62), none⟩,
    ⟨(some 64), .mv (.t 63), none⟩,
    ⟨(some 65), .mv (.t 10), some (64, false)⟩,
    ⟨(some 66), .len .sl (.t 65), some (64, false)⟩,
    ⟨(some 67), .mv (.t 5), some (64, false)⟩,
    ⟨(some 68), .len .sl (.t 67), some (64, false)⟩,
    ⟨(some 69), .bin .neq (.t 66) (.t 68), some (64, false)⟩,
    ⟨(some 70), .pick (.t 64) (.c (.bool true)) (.t 69), none⟩,
    ⟨(some 71), .mv (.t 70), none⟩,
    ⟨(some 72), .mv (.t 10), some (71, false)⟩,
    ⟨(some 73), .len .sl (.t 72), some (71, false)⟩,
    ⟨(some 74), .bin .eql (.t 73) (.c (.int .i64 0)), some (71, false)⟩,
    ⟨(some 75), .pick (.t 71) (.c (.bool true)) (.t 74), none⟩,
    ⟨(some 76), .mv (.t 75), none⟩,
    ⟨(some 77), .mv (.t 10), some (76, false)⟩,
    ⟨(some 78), .mv (.t 10), some (76, false)⟩,
    ⟨(some 79), .len .sl (.t 78), some (76, false)⟩,
    ⟨(some 80), .bin .sub (.t 79) (.c (.int .i64 1)), some (76, false)⟩,
    ⟨(some 81), .iad none 2 (.t 77) (.t 80), some (76, false)⟩,
    ⟨(some 82), .fad 1 (.t 81), some (76, false)⟩,
    ⟨(some 83), .ld1 (.t 82), some (76, false)⟩,
    ⟨(some 84), .mv (.t 6), some (76, false)⟩,
    ⟨(some 85), .bin .neq (.t 83) (.t 84), some (76, false)⟩,
    ⟨(some 86), .pick (.t 76) (.c (.bool true)) (.t 85), none⟩]) (
  .cond (.t 86) (
   .seq (
   .ops [
     ⟨(some 4), .mv (.c (.bool false)), none⟩]) (
   .ret)) (
   .skip))) (
  .seq (
  .seq (
  .ops [
    ⟨(some 87), .mv (.t 9), none⟩,
    ⟨(some 88), .bin .neq (.t 87) (.c (.int .i64 0)), none⟩,
    ⟨(some 89), .mv (.t 88), none⟩,
    ⟨(some 90), .mv (.t 1), some (89, false)⟩,
    ⟨(some 91), .len .sl (.t 90), some (89, false)⟩,
    ⟨(some 92), .fad 0 (.t 2), some (89, false)⟩,
    ⟨(some 93), .ld1 (.t 92), some (89, false)⟩,
    ⟨(some 94), .len .sl (.t 93), some (89, false)⟩,
    ⟨(some 95), .bin .neq (.t 91) (.t 94), some (89, false)⟩,
    ⟨(some 96), .pick (.t 89) (.c (.bool true)) (.t 95), none⟩,
    ⟨(some 97), .mv (.t 96), none⟩,
    ⟨(some 98), .mv (.t 8), some (97, false)⟩,
    ⟨(some 99), .len .sl (.t 98), some (97, false)⟩,
    ⟨(some 100), .mv (.t 1), some (97, false)⟩,
    ⟨(some 101), .len .sl (.t 100), some (97, false)⟩,
    ⟨(some 102), .bin .neq (.t 99) (.t 101), some (97, false)⟩,
    ⟨(some 103), .pick (.t 97) (.c (.bool true)) (.t 102), none⟩]) (
  .cond (.t 103) (
   .seq (
   .ops [
     ⟨(some 104), .call (.c (.func (.func 8) [] [])) [], none⟩,
     ⟨(some 4), .mv (.t 104), none⟩]) (
   .ret)) (
   .skip))) (
  .seq (
  .ops [
    ⟨(some 105), .mv (.t 8), none⟩,
    ⟨(some 106), .mv (.t 8), none⟩,
    ⟨(some 107), .len .sl (.t 106), none⟩,
    ⟨(some 108), .bin .sub (.t 107) (.c (.int .i64 1)), none⟩,
    ⟨(some 109), .iad none 2 (.t 105) (.t 108), none⟩,
    ⟨(some 110), .fad 1 (.t 109), none⟩,
    ⟨(some 111), .ld1 (.t 110), none⟩,
    ⟨(some 112), .mv (.t 6), none⟩,
    ⟨(some 113), .bin .geq (.t 111) (.t 112), none⟩,
    ⟨(some 114), .mv (.t 113), none⟩,
    ⟨(some 115), .call (.c (.func (.func 8) [] [])) [], some (114, true)⟩,
    ⟨(some 116), .pick (.t 114) (.t 115) (.c (.bool false)), none⟩,
    ⟨(some 4), .mv (.t 116), none⟩]) (
  .ret)))))))), [.tmp 4]⟩
/-- paravane/paravanelaw04.CourseWider -/
def x5 : XF := ⟨84, .seq (
  .ops [
    ⟨(some 1), .box 35 (.t 0), none⟩,
    ⟨(some 2), .mv (.c (.bool false)), none⟩]) (
  .seq (
  .ops [
    ⟨(some 13), .ldN 17 (.t 1), none⟩,
    ⟨(some 14), .call (.c (.func (.func 9) [] [])) [(.t 13)], none⟩,
    ⟨(some 12), .mv (.t 14), none⟩,
    ⟨(some 15), .ext 0 (.t 12), none⟩,
    ⟨(some 16), .ext 1 (.t 12), none⟩,
    ⟨(some 17), .ext 2 (.t 12), none⟩,
    ⟨(some 3), .mv (.t 15), none⟩,
    ⟨(some 4), .mv (.t 16), none⟩,
    ⟨(some 5), .mv (.t 17), none⟩]) (
  .seq (
  .seq (
  .ops [
    ⟨(some 18), .mv (.t 5), none⟩,
    ⟨(some 19), .bin .neq (.t 18) (.c (.int .i64 0)), none⟩]) (
  .cond (.t 19) (
   .seq (
   .ops [
     ⟨(some 20), .mv (.t 4), none⟩,
     ⟨(some 21), .bin .eql (.t 20) (.c (.int .i64 0)), none⟩,
     ⟨(some 22), .mv (.t 21), none⟩,
     ⟨(some 23), .call (.c (.func (.func 8) [] [])) [], some (22, true)⟩,
     ⟨(some 24), .pick (.t 22) (.t 23) (.c (.bool false)), none⟩,
     ⟨(some 2), .mv (.t 24), none⟩]) (
   .ret)) (
   .skip))) (
  .seq (
  .ops [
    ⟨(some 25), .ldN 17 (.t 1), none⟩,
    ⟨(some 6), .new 35 [(.slice none 0 true 0), (.slice none 0 true 0), (.slice none 0 true 0), (.int .i64 0), (.int .i64 0), (.int .i64 0), (.int .i64 0), (.int .i64 0), (.int .i64 0), (.int .i64 0), (.int .i64 0), (.int .i64 0), (.int .i64 0), (.int .i64 0), (.int .i64 0), (.int .i64 0), (.slice none 0 true 0)], none⟩,
    ⟨none, .st 17 (.t 6) (.t 25), none⟩]) (
  .seq (
  .ops [
    ⟨(some 26), .fad 16 (.t 6), none⟩,
    ⟨none, .st 1 (.t 26) (.c (.slice none 0 true 0)), none⟩]) (
  .seq (
  .seq (
  .ops [
    ⟨(some 7), .mv (.c (.int .i64 0)), none⟩]) (
  .block 0 (
   .loop (
    .seq (
    .seq (
    .ops [
      ⟨(some 27), .mv (.t 7), none⟩,
      ⟨(some 28), .fad 16 (.t 1), none⟩,
      ⟨(some 29), .ld1 (.t 28), none⟩,
      ⟨(some 30), .len .sl (.t 29), none⟩,
      ⟨(some 31), .bin .lss (.t 27) (.t 30), none⟩]) (
    .cond (.t 31) (
     .skip) (
     .exit 0))) (
    .seq (
    .block 1 (
     .seq (
     .ops [
       ⟨(some 8), .mv (.c (.slice none 0 true 0)), none⟩]) (
     .seq (
     .seq (
     .ops [
       ⟨(some 34), .fad 16 (.t 1), none⟩,
       ⟨(some 35), .ld1 (.t 34), none⟩,
       ⟨(some 36), .mv (.t 7), none⟩,
       ⟨(some 37), .iad none 1 (.t 35) (.t 36), none⟩,
       ⟨(some 38), .ld1 (.t 37), none⟩,
       ⟨(some 39), .len .sl (.t 38), none⟩,
       ⟨(some 9), .mv (.t 39), none⟩]) (
     .seq (
     .ops [
       ⟨(some 40), .mv (.t 9), none⟩,
       ⟨(some 41), .bin .gtr (.t 40) (.c (.int .i64 0)), none⟩]) (
     .cond (.t 41) (
      .draw [
        (⟨(some 42), .fad 16 (.t 1), none⟩, .calm),
        (⟨(some 43), .ld1 (.t 42), none⟩, .reads 0 0),
        (⟨(some 44), .mv (.t 7), none⟩, .calm),
        (⟨(some 45), .iad none 1 (.t 43) (.t 44), none⟩, .calm),
        (⟨(some 46), .ld1 (.t 45), none⟩, .reads 0 0),
        (⟨(some 47), .iad none 2 (.t 46) (.c (.int .i64 0)), none⟩, .calm),
        (⟨(some 48), .fad 0 (.t 47), none⟩, .calm),
        (⟨(some 49), .ld1 (.t 48), none⟩, .reads 0 0),
        (⟨(some 50), .fad 16 (.t 1), none⟩, .calm),
        (⟨(some 51), .ld1 (.t 50), none⟩, .reads 0 0),
        (⟨(some 52), .mv (.t 7), none⟩, .calm),
        (⟨(some 53), .iad none 1 (.t 51) (.t 52), none⟩, .calm),
        (⟨(some 54), .ld1 (.t 53), none⟩, .reads 0 0),
        (⟨(some 55), .mv (.t 9), none⟩, .calm),
        (⟨(some 56), .bin .sub (.t 55) (.c (.int .i64 1)), none⟩, .calm),
        (⟨(some 57), .iad none 2 (.t 54) (.t 56), none⟩, .calm),
        (⟨(some 58), .fad 1 (.t 57), none⟩, .calm),
        (⟨(some 59), .ld1 (.t 58), none⟩, .reads 0 0),
        (⟨(some 60), .build [(.int .i64 0), (.int .i64 0)] [(0, 1, (.t 49)), (1, 1, (.t 59))], none⟩, .calm),
        (⟨(some 61), .bsl 26 2 1 [(.int .i64 0), (.int .i64 0)] [(0, 2, (.t 60))], none⟩, .new),
        (⟨(some 8), .mv (.t 61), none⟩, .calm)]) (
      .skip)))) (
     .ops [
       ⟨(some 62), .fad 16 (.t 6), none⟩,
       ⟨(some 63), .ld1 (.t 62), none⟩,
       ⟨(some 64), .mv (.t 8), none⟩,
       ⟨(some 65), .bsl 45 1 1 [(.slice none 0 true 0)] [(0, 1, (.t 64))], none⟩,
       ⟨(some 66), .app 45 1 24 [(.slice none 0 true 0)] (.t 63) (.t 65), none⟩,
       ⟨(some 67), .fad 16 (.t 6), none⟩,
       ⟨none, .st 1 (.t 67) (.t 66), none⟩])))) (
    .ops [
      ⟨(some 32), .mv (.t 7), none⟩,
      ⟨(some 33), .bin .add (.t 32) (.c (.int .i64 1)), none⟩,
      ⟨(some 7), .mv (.t 33), none⟩])))))) (
  .seq (
  .ops [
    ⟨(some 69), .ldN 17 (.t 6), none⟩,
    ⟨(some 70), .call (.c (.func (.func 9) [] [])) [(.t 69)], none⟩,
    ⟨(some 68), .mv (.t 70), none⟩,
    ⟨(some 71), .ext 0 (.t 68), none⟩,
    ⟨(some 72), .ext 1 (.t 68), none⟩,
    ⟨(some 73), .ext 2 (.t 68), none⟩,
    ⟨(some 10), .mv (.t 71), none⟩,
    ⟨(some 11), .mv (.t 72), none⟩,
    ⟨(some 5), .mv (.t 73), none⟩]) (
  .seq (
  .ops [
    ⟨(some 74), .mv (.t 5), none⟩,
    ⟨(some 75), .bin .eql (.t 74) (.c (.int .i64 0)), none⟩,
    ⟨(some 76), .mv (.t 75), none⟩,
    ⟨(some 77), .mv (.t 11), some (76, true)⟩,
    ⟨(some 78), .mv (.t 4), some (76, true)⟩,
    ⟨(some 79), .bin .leq (.t 77) (.t 78), some (76, true)⟩,
    ⟨(some 80), .pick (.t 76) (.t 79) (.c (.bool false)), none⟩,
    ⟨(some 81), .mv (.t 80), none⟩,
    ⟨(some 82), .call (.c (.func (.func 8) [] [])) [], some (81, true)⟩,
    ⟨(some 83), .pick (.t 81) (.t 82) (.c (.bool false)), none⟩,
    ⟨(some 2), .mv (.t 83), none⟩]) (
  .ret)))))))), [.tmp 2]⟩
/-- paravane/paravanelaw04.CourseTabled -/
def x6 : XF := ⟨70, .seq (
  .ops [
    ⟨(some 2), .box 35 (.t 0), none⟩,
    ⟨(some 4), .mv (.c (.bool false)), none⟩]) (
  .seq (
  .ops [
    ⟨(some 15), .ldN 17 (.t 2), none⟩,
    ⟨(some 16), .call (.c (.func (.func 11) [] [])) [(.t 15)], none⟩,
    ⟨(some 14), .mv (.t 16), none⟩,
    ⟨(some 17), .ext 0 (.t 14), none⟩,
    ⟨(some 18), .ext 1 (.t 14), none⟩,
    ⟨(some 5), .mv (.t 17), none⟩,
    ⟨(some 6), .mv (.t 18), none⟩]) (
  .seq (
  .seq (
  .ops [
    ⟨(some 19), .mv (.t 6), none⟩,
    ⟨(some 20), .bin .neq (.t 19) (.c (.int .i64 0)), none⟩]) (
  .cond (.t 20) (
   .seq (
   .ops [
     ⟨(some 21), .mv (.t 5), none⟩,
     ⟨(some 22), .len .sl (.t 21), none⟩,
     ⟨(some 23), .bin .eql (.t 22) (.c (.int .i64 0)), none⟩,
     ⟨(some 24), .mv (.t 23), none⟩,
     ⟨(some 25), .call (.c (.func (.func 8) [] [])) [], some (24, true)⟩,
     ⟨(some 26), .pick (.t 24) (.t 25) (.c (.bool false)), none⟩,
     ⟨(some 4), .mv (.t 26), none⟩]) (
   .ret)) (
   .skip))) (
  .seq (
  .ops [
    ⟨(some 28), .ldN 17 (.t 2), none⟩,
    ⟨(some 29), .call (.c (.func (.func 9) [] [])) [(.t 28)], none⟩,
    ⟨(some 27), .mv (.t 29), none⟩,
    ⟨(some 30), .ext 0 (.t 27), none⟩,
    ⟨(some 31), .ext 1 (.t 27), none⟩,
    ⟨(some 32), .ext 2 (.t 27), none⟩,
    ⟨(some 7), .mv (.t 30), none⟩,
    ⟨(some 8), .mv (.t 31), none⟩,
    ⟨(some 9), .mv (.t 32), none⟩]) (
  .seq (
  .ops [
    ⟨(some 33), .mv (.t 8), none⟩,
    ⟨(some 34), .bin .add (.t 33) (.c (.int .i64 1)), none⟩,
    ⟨(some 35), .mv (.t 1), none⟩,
    ⟨(some 36), .call (.c (.func (.func 12) [] [])) [(.t 35), (.c (.int .i64 1000))], none⟩,
    ⟨(some 37), .bin .add (.t 34) (.t 36), none⟩,
    ⟨(some 10), .mv (.t 37), none⟩]) (
  .seq (
  .ops [
    ⟨(some 39), .ldN 17 (.t 2), none⟩,
    ⟨(some 40), .mv (.t 5), none⟩,
    ⟨(some 41), .mv (.t 8), none⟩,
    ⟨(some 42), .call (.c (.func (.func 13) [] [])) [(.t 39), (.t 40), (.t 41)], none⟩,
    ⟨(some 38), .mv (.t 42), none⟩,
    ⟨(some 43), .ext 0 (.t 38), none⟩,
    ⟨(some 44), .ext 1 (.t 38), none⟩,
    ⟨(some 11), .mv (.t 43), none⟩,
    ⟨(some 6), .mv (.t 44), none⟩]) (
  .seq (
  .ops [
    ⟨(some 46), .ldN 17 (.t 2), none⟩,
    ⟨(some 47), .mv (.t 5), none⟩,
    ⟨(some 48), .mv (.t 10), none⟩,
    ⟨(some 49), .call (.c (.func (.func 13) [] [])) [(.t 46), (.t 47), (.t 48)], none⟩,
    ⟨(some 45), .mv (.t 49), none⟩,
    ⟨(some 50), .ext 0 (.t 45), none⟩,
    ⟨(some 51), .ext 1 (.t 45), none⟩,
    ⟨(some 12), .mv (.t 50), none⟩,
    ⟨(some 13), .mv (.t 51), none⟩]) (
  .seq (
  .ops [
    ⟨(some 52), .mv (.t 11), none⟩,
    ⟨(some 53), .mv (.t 52), none⟩,
    ⟨(some 54), .mv (.t 6), some (53, true)⟩,
    ⟨(some 55), .bin .eql (.t 54) (.c (.int .i64 0)), some (53, true)⟩,
    ⟨(some 56), .pick (.t 53) (.t 55) (.c (.bool false)), none⟩,
    ⟨(some 57), .mv (.t 56), none⟩,
    ⟨(some 58), .mv (.t 13), some (57, true)⟩,
    ⟨(some 59), .bin .eql (.t 58) (.c (.int .i64 0)), some (57, true)⟩,
    ⟨(some 60), .pick (.t 57) (.t 59) (.c (.bool false)), none⟩,
    ⟨(some 61), .mv (.t 60), none⟩,
    ⟨(some 62), .mv (.t 12), some (61, true)⟩,
    ⟨(some 63), .mv (.t 9), some (61, true)⟩,
    ⟨(some 64), .bin .eql (.t 63) (.c (.int .i64 4)), some (61, true)⟩,
    ⟨(some 65), .eqg false 4 (.t 62) (.t 64), some (61, true)⟩,
    ⟨(some 66), .pick (.t 61) (.t 65) (.c (.bool false)), none⟩,
    ⟨(some 67), .mv (.t 66), none⟩,
    ⟨(some 68), .call (.c (.func (.func 8) [] [])) [], some (67, true)⟩,
    ⟨(some 69), .pick (.t 67) (.t 68) (.c (.bool false)), none⟩,
    ⟨(some 4), .mv (.t 69), none⟩]) (
  .ret)))))))), [.tmp 4]⟩
/-- paravane/course.Passage -/
def x7 : XF := ⟨41, .seq (
  .ops [
    ⟨(some 3), .box 35 (.t 0), none⟩,
    ⟨(some 4), .box 32 (.t 1), none⟩,
    ⟨(some 5), .box 32 (.t 2), none⟩,
    ⟨(some 6), .mv (.c (.slice none 0 true 0)), none⟩,
    ⟨(some 7), .mv (.c (.int .i64 0)), none⟩,
    ⟨(some 8), .mv (.c (.int .i64 0)), none⟩]) (
  .seq (
  .ops [
    ⟨(some 13), .ldN 17 (.t 3), none⟩,
    ⟨(some 14), .call (.c (.func (.func 14) [] [])) [(.t 13)], none⟩,
    ⟨(some 12), .mv (.t 14), none⟩,
    ⟨(some 15), .ext 0 (.t 12), none⟩,
    ⟨(some 16), .ext 1 (.t 12), none⟩,
    ⟨(some 9), .mv (.t 15), none⟩,
    ⟨(some 8), .mv (.t 16), none⟩]) (
  .seq (
  .seq (
  .ops [
    ⟨(some 17), .mv (.t 8), none⟩,
    ⟨(some 18), .bin .neq (.t 17) (.c (.int .i64 0)), none⟩]) (
  .cond (.t 18) (
   .seq (
   .ops [
     ⟨(some 19), .mv (.t 8), none⟩,
     ⟨(some 6), .mv (.c (.slice none 0 true 0)), none⟩,
     ⟨(some 7), .mv (.c (.int .i64 0)), none⟩,
     ⟨(some 8), .mv (.t 19), none⟩]) (
   .ret)) (
   .skip))) (
  .seq (
  .seq (
  .ops [
    ⟨(some 20), .ldN 3 (.t 4), none⟩,
    ⟨(some 21), .call (.c (.func (.func 15) [] [])) [(.t 20)], none⟩,
    ⟨(some 22), .un .not (.t 21), none⟩,
    ⟨(some 23), .mv (.t 22), none⟩,
    ⟨(some 24), .ldN 3 (.t 5), some (23, false)⟩,
    ⟨(some 25), .call (.c (.func (.func 15) [] [])) [(.t 24)], some (23, false)⟩,
    ⟨(some 26), .un .not (.t 25), some (23, false)⟩,
    ⟨(some 27), .pick (.t 23) (.c (.bool true)) (.t 26), none⟩]) (
  .cond (.t 27) (
   .seq (
   .ops [
     ⟨(some 6), .mv (.c (.slice none 0 true 0)), none⟩,
     ⟨(some 7), .mv (.c (.int .i64 0)), none⟩,
     ⟨(some 8), .mv (.c (.int .i64 41)), none⟩]) (
   .ret)) (
   .skip))) (
  .seq (
  .ops [
    ⟨(some 29), .mv (.t 9), none⟩,
    ⟨(some 30), .ldN 3 (.t 4), none⟩,
    ⟨(some 31), .ldN 3 (.t 5), none⟩,
    ⟨(some 32), .call (.c (.func (.func 16) [] [])) [(.t 29), (.t 30), (.t 31)], none⟩,
    ⟨(some 28), .mv (.t 32), none⟩,
    ⟨(some 33), .ext 0 (.t 28), none⟩,
    ⟨(some 34), .ext 1 (.t 28), none⟩,
    ⟨(some 10), .new 62 [(.slice none 0 true 0), (.int .i64 0)], none⟩,
    ⟨none, .st 2 (.t 10) (.t 33), none⟩,
    ⟨(some 11), .mv (.t 34), none⟩]) (
  .seq (
  .seq (
  .ops [
    ⟨(some 35), .mv (.t 11), none⟩,
    ⟨(some 36), .un .not (.t 35), none⟩]) (
  .cond (.t 36) (
   .seq (
   .ops [
     ⟨(some 6), .mv (.c (.slice none 0 true 0)), none⟩,
     ⟨(some 7), .mv (.c (.int .i64 0)), none⟩,
     ⟨(some 8), .mv (.c (.int .i64 4)), none⟩]) (
   .ret)) (
   .skip))) (
  .seq (
  .draw [
    (⟨(some 37), .fad 0 (.t 10), none⟩, .calm),
    (⟨(some 38), .ld1 (.t 37), none⟩, .reads 0 0),
    (⟨(some 39), .fad 1 (.t 10), none⟩, .calm),
    (⟨(some 40), .ld1 (.t 39), none⟩, .reads 0 0),
    (⟨(some 6), .mv (.t 38), none⟩, .calm),
    (⟨(some 7), .mv (.t 40), none⟩, .calm),
    (⟨(some 8), .mv (.c (.int .i64 0)), none⟩, .calm)]) (
  .ret))))))), [.tmp 6, .tmp 7, .tmp 8]⟩
/-- paravane/paravanelaw04.works -/
def x8 : XF := ⟨200, .seq (
  .ops [
    ⟨(some 0), .mv (.c (.bool false)), none⟩]) (
  .seq (
  .ops [
    ⟨(some 18), .call (.c (.func (.func 17) [] [])) [], none⟩,
    ⟨(some 1), .new 35 [(.slice none 0 true 0), (.slice none 0 true 0), (.slice none 0 true 0), (.int .i64 0), (.int .i64 0), (.int .i64 0), (.int .i64 0), (.int .i64 0), (.int .i64 0), (.int .i64 0), (.int .i64 0), (.int .i64 0), (.int .i64 0), (.int .i64 0), (.int .i64 0), (.int .i64 0), (.slice none 0 true 0)], none⟩,
    ⟨none, .st 17 (.t 1) (.t 18), none⟩]) (
  .seq (
  .ops [
    ⟨(some 20), .ldN 17 (.t 1), none⟩,
    ⟨(some 21), .build [(.int .i64 0), (.int .i64 0)] [], none⟩,
    ⟨(some 22), .build [(.int .i64 0), (.int .i64 0)] [(0, 1, (.c (.int .i64 10))), (1, 1, (.c (.int .i64 4)))], none⟩,
    ⟨(some 23), .call (.c (.func (.func 18) [] [])) [(.t 20), (.t 21), (.t 22)], none⟩,
    ⟨(some 19), .mv (.t 23), none⟩,
    ⟨(some 24), .ext 0 (.t 19), none⟩,
    ⟨(some 25), .ext 1 (.t 19), none⟩,
    ⟨(some 2), .mv (.t 24), none⟩,
    ⟨(some 3), .mv (.t 25), none⟩]) (
  .seq (
  .ops [
    ⟨(some 27), .call (.c (.func (.func 19) [] [])) [(.c (.int .i64 1)), (.c (.int .i64 6))], none⟩,
    ⟨(some 26), .mv (.t 27), none⟩,
    ⟨(some 28), .ext 0 (.t 26), none⟩,
    ⟨(some 29), .ext 1 (.t 26), none⟩,
    ⟨(some 4), .mv (.t 28), none⟩,
    ⟨(some 5), .mv (.t 29), none⟩]) (
  .seq (
  .ops [
    ⟨(some 31), .ldN 17 (.t 1), none⟩,
    ⟨(some 32), .build [(.int .i64 0), (.int .i64 0)] [(0, 1, (.c (.int .i64 10)))], none⟩,
    ⟨(some 33), .build [(.int .i64 0), (.int .i64 0), (.int .i64 0)] [(0, 2, (.t 32))], none⟩,
    ⟨(some 34), .build [(.int .i64 0), (.int .i64 0)] [(0, 1, (.c (.int .i64 10))), (1, 1, (.c (.int .i64 4)))], none⟩,
    ⟨(some 35), .build [(.int .i64 0), (.int .i64 0), (.int .i64 0)] [(0, 2, (.t 34)), (2, 1, (.c (.int .i64 3)))], none⟩,
    ⟨(some 36), .call (.c (.func (.func 7) [] [])) [(.t 31), (.t 33), (.t 35)], none⟩,
    ⟨(some 30), .mv (.t 36), none⟩,
    ⟨(some 37), .ext 0 (.t 30), none⟩,
    ⟨(some 38), .ext 1 (.t 30), none⟩,
    ⟨(some 39), .ext 2 (.t 30), none⟩,
    ⟨(some 6), .mv (.t 37), none⟩,
    ⟨(some 7), .mv (.t 38), none⟩,
    ⟨(some 8), .mv (.t 39), none⟩]) (
  .seq (
  .seq (
  .ops [
    ⟨(some 40), .mv (.t 2), none⟩,
    ⟨(some 41), .bin .neq (.t 40) (.c (.int .i64 6)), none⟩,
    ⟨(some 42), .mv (.t 41), none⟩,
    ⟨(some 43), .mv (.t 3), some (42, false)⟩,
    ⟨(some 44), .bin .neq (.t 43) (.c (.int .i64 0)), some (42, false)⟩,
    ⟨(some 45), .pick (.t 42) (.c (.bool true)) (.t 44), none⟩,
    ⟨(some 46), .mv (.t 45), none⟩,
    ⟨(some 47), .mv (.t 4), some (46, false)⟩,
    ⟨(some 48), .bin .neq (.t 47) (.c (.int .i64 3)), some (46, false)⟩,
    ⟨(some 49), .pick (.t 46) (.c (.bool true)) (.t 48), none⟩,
    ⟨(some 50), .mv (.t 49), none⟩,
    ⟨(some 51), .mv (.t 5), some (50, false)⟩,
    ⟨(some 52), .bin .neq (.t 51) (.c (.int .i64 0)), some (50, false)⟩,
    ⟨(some 53), .pick (.t 50) (.c (.bool true)) (.t 52), none⟩,
    ⟨(some 54), .mv (.t 53), none⟩,
    ⟨(some 55), .mv (.t 8), some (54, false)⟩,
    ⟨(some 56), .bin .neq (.t 55) (.c (.int .i64 0)), some (54, false)⟩,
    ⟨(some 57), .pick (.t 54) (.c (.bool true)) (.t 56), none⟩,
    ⟨(some 58), .mv (.t 57), none⟩,
    ⟨(some 59), .mv (.t 7), some (58, false)⟩,
    ⟨(some 60), .bin .neq (.t 59) (.c (.int .i64 11)), some (58, false)⟩,
    ⟨(some 61), .pick (.t 58) (.c (.bool true)) (.t 60), none⟩,
    ⟨(some 62), .mv (.t 61), none⟩,
    ⟨(some 63), .mv (.t 6), some (62, false)⟩,
    ⟨(some 64), .build [(.int .i64 0), (.int .i64 0)] [(0, 1, (.c (.int .i64 10)))], some (62, false)⟩,
    ⟨(some 65), .build [(.int .i64 0), (.int .i64 0)] [(0, 1, (.c (.int .i64 10))), (1, 1, (.c (.int .i64 4)))], some (62, false)⟩,
    ⟨(some 66), .bsl 30 2 2 [(.int .i64 0), (.int .i64 0)] [(0, 2, (.t 64)), (2, 2, (.t 65))], some (62, false)⟩,
    ⟨(some 67), .call (.c (.func (.func 20) [] [])) [(.t 63), (.t 66)], some (62, false)⟩,
    ⟨(some 68), .un .not (.t 67), some (62, false)⟩,
    ⟨(some 69), .pick (.t 62) (.c (.bool true)) (.t 68), none⟩,
    ⟨(some 70), .mv (.t 69), none⟩,
    ⟨(some 71), .build [(.int .i64 0), (.int .i64 0)] [(0, 1, (.c (.int .i64 (-1)))), (1, 1, (.c (.int .i64 4)))], some (70, false)⟩,
    ⟨(some 72), .call (.c (.func (.func 21) [] [])) [(.t 71)], some (70, false)⟩,
    ⟨(some 73), .bin .neq (.t 72) (.c (.int .i64 2)), some (70, false)⟩,
    ⟨(some 74), .pick (.t 70) (.c (.bool true)) (.t 73), none⟩,
    ⟨(some 75), .mv (.t 74), none⟩,
    ⟨(some 76), .build [(.int .i64 0), (.int .i64 0)] [(0, 1, (.c (.int .i64 3))), (1, 1, (.c (.int .i64 3)))], some (75, false)⟩,
    ⟨(some 77), .call (.c (.func (.func 21) [] [])) [(.t 76)], some (75, false)⟩,
    ⟨(some 78), .bin .neq (.t 77) (.c (.int .i64 0)), some (75, false)⟩,
    ⟨(some 79), .pick (.t 75) (.c (.bool true)) (.t 78), none⟩]) (
  .cond (.t 79) (
   .seq (
   .ops [
     ⟨(some 0), .mv (.c (.bool false)), none⟩]) (
   .ret)) (
   .skip))) (
  .seq (
  .ops [
    ⟨(some 81), .ldN 17 (.t 1), none⟩,
    ⟨(some 82), .build [(.int .i64 0), (.int .i64 0)] [(0, 1, (.c (.int .i64 1)))], none⟩,
    ⟨(some 83), .call (.c (.func (.func 22) [] [])) [(.t 81), (.t 82), (.c (.int .i64 24))], none⟩,
    ⟨(some 80), .mv (.t 83), none⟩,
    ⟨(some 84), .ext 0 (.t 80), none⟩,
    ⟨(some 85), .ext 1 (.t 80), none⟩,
    ⟨(some 9), .new 26 [(.int .i64 0), (.int .i64 0)], none⟩,
    ⟨none, .st 2 (.t 9) (.t 84), none⟩,
    ⟨(some 3), .mv (.t 85), none⟩]) (
  .seq (
  .ops [
    ⟨(some 87), .ldN 17 (.t 1), none⟩,
    ⟨(some 88), .build [(.int .i64 0), (.int .i64 0)] [(0, 1, (.c (.int .i64 1)))], none⟩,
    ⟨(some 89), .call (.c (.func (.func 22) [] [])) [(.t 87), (.t 88), (.c (.int .i64 26))], none⟩,
    ⟨(some 86), .mv (.t 89), none⟩,
    ⟨(some 90), .ext 0 (.t 86), none⟩,
    ⟨(some 91), .ext 1 (.t 86), none⟩,
    ⟨(some 10), .new 26 [(.int .i64 0), (.int .i64 0)], none⟩,
    ⟨none, .st 2 (.t 10) (.t 90), none⟩,
    ⟨(some 5), .mv (.t 91), none⟩]) (
  .seq (
  .ops [
    ⟨(some 93), .ldN 17 (.t 1), none⟩,
    ⟨(some 94), .build [(.int .i64 0), (.int .i64 0)] [], none⟩,
    ⟨(some 95), .build [(.int .i64 0), (.int .i64 0)] [(0, 1, (.c (.int .i64 1))), (1, 1, (.c (.int .i64 1)))], none⟩,
    ⟨(some 96), .bsl 74 2 2 [(.int .i64 0), (.int .i64 0)] [(0, 2, (.t 94)), (2, 2, (.t 95))], none⟩,
    ⟨(some 97), .call (.c (.func (.func 10) [] [])) [(.t 93), (.t 96)], none⟩,
    ⟨(some 92), .mv (.t 97), none⟩,
    ⟨(some 98), .ext 0 (.t 92), none⟩,
    ⟨(some 99), .ext 1 (.t 92), none⟩,
    ⟨(some 11), .mv (.t 98), none⟩,
    ⟨(some 8), .mv (.t 99), none⟩]) (
  .seq (
  .seq (
  .ops [
    ⟨(some 100), .mv (.t 3), none⟩,
    ⟨(some 101), .bin .neq (.t 100) (.c (.int .i64 0)), none⟩,
    ⟨(some 102), .mv (.t 101), none⟩,
    ⟨(some 103), .mv (.t 5), some (102, false)⟩,
    ⟨(some 104), .bin .neq (.t 103) (.c (.int .i64 0)), some (102, false)⟩,
    ⟨(some 105), .pick (.t 102) (.c (.bool true)) (.t 104), none⟩,
    ⟨(some 106), .mv (.t 105), none⟩,
    ⟨(some 107), .mv (.t 8), some (106, false)⟩,
    ⟨(some 108), .bin .neq (.t 107) (.c (.int .i64 0)), some (106, false)⟩,
    ⟨(some 109), .pick (.t 106) (.c (.bool true)) (.t 108), none⟩,
    ⟨(some 110), .mv (.t 109), none⟩,
    ⟨(some 111), .ldN 2 (.t 9), some (110, false)⟩,
    ⟨(some 112), .build [(.int .i64 0), (.int .i64 0)] [(0, 1, (.c (.int .i64 24))), (1, 1, (.c (.int .i64 29)))], some (110, false)⟩,
    ⟨(some 113), .eqs true 2 [0, 1] (.t 111) (.t 112), some (110, false)⟩,
    ⟨(some 114), .pick (.t 110) (.c (.bool true)) (.t 113), none⟩,
    ⟨(some 115), .mv (.t 114), none⟩,
    ⟨(some 116), .ldN 2 (.t 10), some (115, false)⟩,
    ⟨(some 117), .build [(.int .i64 0), (.int .i64 0)] [(0, 1, (.c (.int .i64 40))), (1, 1, (.c (.int .i64 45)))], some (115, false)⟩,
    ⟨(some 118), .eqs true 2 [0, 1] (.t 116) (.t 117), some (115, false)⟩,
    ⟨(some 119), .pick (.t 115) (.c (.bool true)) (.t 118), none⟩,
    ⟨(some 120), .mv (.t 119), none⟩,
    ⟨(some 121), .mv (.t 11), some (120, false)⟩,
    ⟨(some 122), .len .sl (.t 121), some (120, false)⟩,
    ⟨(some 123), .bin .neq (.t 122) (.c (.int .i64 2)), some (120, false)⟩,
    ⟨(some 124), .pick (.t 120) (.c (.bool true)) (.t 123), none⟩,
    ⟨(some 125), .mv (.t 124), none⟩,
    ⟨(some 126), .mv (.t 11), some (125, false)⟩,
    ⟨(some 127), .iad none 2 (.t 126) (.c (.int .i64 1)), some (125, false)⟩,
    ⟨(some 128), .ldN 2 (.t 127), some (125, false)⟩,
    ⟨(some 129), .build [(.int .i64 0), (.int .i64 0)] [(0, 1, (.c (.int .i64 20))), (1, 1, (.c (.int .i64 25)))], some (125, false)⟩,
    ⟨(some 130), .eqs true 2 [0, 1] (.t 128) (.t 129), some (125, false)⟩,
    ⟨(some 131), .pick (.t 125) (.c (.bool true)) (.t 130), none⟩]) (
  .cond (.t 131) (
   .seq (
   .ops [
     ⟨(some 0), .mv (.c (.bool false)), none⟩]) (
   .ret)) (
   .skip))) (
  .seq (
  .ops [
    ⟨(some 133), .ldN 17 (.t 1), none⟩,
    ⟨(some 134), .call (.c (.func (.func 9) [] [])) [(.t 133)], none⟩,
    ⟨(some 132), .mv (.t 134), none⟩,
    ⟨(some 135), .ext 0 (.t 132), none⟩,
    ⟨(some 136), .ext 1 (.t 132), none⟩,
    ⟨(some 137), .ext 2 (.t 132), none⟩,
    ⟨(some 12), .mv (.t 135), none⟩,
    ⟨(some 13), .mv (.t 136), none⟩,
    ⟨(some 3), .mv (.t 137), none⟩]) (
  .seq (
  .ops [
    ⟨(some 139), .ldN 17 (.t 1), none⟩,
    ⟨(some 140), .call (.c (.func (.func 11) [] [])) [(.t 139)], none⟩,
    ⟨(some 138), .mv (.t 140), none⟩,
    ⟨(some 141), .ext 0 (.t 138), none⟩,
    ⟨(some 142), .ext 1 (.t 138), none⟩,
    ⟨(some 14), .mv (.t 141), none⟩,
    ⟨(some 5), .mv (.t 142), none⟩]) (
  .seq (
  .ops [
    ⟨(some 144), .ldN 17 (.t 1), none⟩,
    ⟨(some 145), .mv (.t 14), none⟩,
    ⟨(some 146), .call (.c (.func (.func 13) [] [])) [(.t 144), (.t 145), (.c (.int .i64 25))], none⟩,
    ⟨(some 143), .mv (.t 146), none⟩,
    ⟨(some 147), .ext 0 (.t 143), none⟩,
    ⟨(some 148), .ext 1 (.t 143), none⟩,
    ⟨(some 15), .mv (.t 147), none⟩,
    ⟨(some 8), .mv (.t 148), none⟩]) (
  .seq (
  .ops [
    ⟨(some 150), .call (.c (.func (.func 24) [] [])) [], none⟩,
    ⟨(some 151), .build [(.int .i64 0), (.int .i64 0)] [], none⟩,
    ⟨(some 152), .build [(.int .i64 0), (.int .i64 0)] [(0, 1, (.c (.int .i64 10)))], none⟩,
    ⟨(some 153), .call (.c (.func (.func 23) [] [])) [(.t 150), (.t 151), (.t 152)], none⟩,
    ⟨(some 149), .mv (.t 153), none⟩,
    ⟨(some 154), .ext 0 (.t 149), none⟩,
    ⟨(some 155), .ext 1 (.t 149), none⟩,
    ⟨(some 16), .mv (.t 154), none⟩,
    ⟨(some 17), .mv (.t 155), none⟩]) (
  .seq (
  .ops [
    ⟨(some 156), .mv (.t 3), none⟩,
    ⟨(some 157), .bin .eql (.t 156) (.c (.int .i64 0)), none⟩,
    ⟨(some 158), .mv (.t 157), none⟩,
    ⟨(some 159), .mv (.t 5), some (158, true)⟩,
    ⟨(some 160), .bin .eql (.t 159) (.c (.int .i64 0)), some (158, true)⟩,
    ⟨(some 161), .pick (.t 158) (.t 160) (.c (.bool false)), none⟩,
    ⟨(some 162), .mv (.t 161), none⟩,
    ⟨(some 163), .mv (.t 8), some (162, true)⟩,
    ⟨(some 164), .bin .eql (.t 163) (.c (.int .i64 0)), some (162, true)⟩,
    ⟨(some 165), .pick (.t 162) (.t 164) (.c (.bool false)), none⟩,
    ⟨(some 166), .mv (.t 165), none⟩,
    ⟨(some 167), .mv (.t 17), some (166, true)⟩,
    ⟨(some 168), .bin .eql (.t 167) (.c (.int .i64 0)), some (166, true)⟩,
    ⟨(some 169), .pick (.t 166) (.t 168) (.c (.bool false)), none⟩,
    ⟨(some 170), .mv (.t 169), none⟩,
    ⟨(some 171), .mv (.t 12), some (170, true)⟩,
    ⟨(some 172), .len .sl (.t 171), some (170, true)⟩,
    ⟨(some 173), .bin .eql (.t 172) (.c (.int .i64 2)), some (170, true)⟩,
    ⟨(some 174), .pick (.t 170) (.t 173) (.c (.bool false)), none⟩,
    ⟨(some 175), .mv (.t 174), none⟩,
    ⟨(some 176), .mv (.t 12), some (175, true)⟩,
    ⟨(some 177), .iad none 2 (.t 176) (.c (.int .i64 0)), some (175, true)⟩,
    ⟨(some 178), .ldN 2 (.t 177), some (175, true)⟩,
    ⟨(some 179), .build [(.int .i64 0), (.int .i64 0)] [], some (175, true)⟩,
    ⟨(some 180), .eqs false 2 [0, 1] (.t 178) (.t 179), some (175, true)⟩,
    ⟨(some 181), .pick (.t 175) (.t 180) (.c (.bool false)), none⟩,
    ⟨(some 182), .mv (.t 181), none⟩,
    ⟨(some 183), .mv (.t 12), some (182, true)⟩,
    ⟨(some 184), .iad none 2 (.t 183) (.c (.int .i64 1)), some (182, true)⟩,
    ⟨(some 185), .ldN 2 (.t 184), some (182, true)⟩,
    ⟨(some 186), .build [(.int .i64 0), (.int .i64 0)] [(0, 1, (.c (.int .i64 1))), (1, 1, (.c (.int .i64 1)))], some (182, true)⟩,
    ⟨(some 187), .eqs false 2 [0, 1] (.t 185) (.t 186), some (182, true)⟩,
    ⟨(some 188), .pick (.t 182) (.t 187) (.c (.bool false)), none⟩,
    ⟨(some 189), .mv (.t 188), none⟩,
    ⟨(some 190), .mv (.t 13), some (189, true)⟩,
    ⟨(some 191), .bin .eql (.t 190) (.c (.int .i64 25)), some (189, true)⟩,
    ⟨(some 192), .pick (.t 189) (.t 191) (.c (.bool false)), none⟩,
    ⟨(some 193), .mv (.t 192), none⟩,
    ⟨(some 194), .mv (.t 15), some (193, true)⟩,
    ⟨(some 195), .pick (.t 193) (.t 194) (.c (.bool false)), none⟩,
    ⟨(some 196), .mv (.t 195), none⟩,
    ⟨(some 197), .mv (.t 16), some (196, true)⟩,
    ⟨(some 198), .un .not (.t 197), some (196, true)⟩,
    ⟨(some 199), .pick (.t 196) (.t 198) (.c (.bool false)), none⟩,
    ⟨(some 0), .mv (.t 199), none⟩]) (
  .ret))))))))))))))), [.tmp 0]⟩
/-- paravane/course.Best -/
def x9 : XF := ⟨64, .seq (
  .ops [
    ⟨(some 1), .box 35 (.t 0), none⟩,
    ⟨(some 2), .mv (.c (.slice none 0 true 0)), none⟩,
    ⟨(some 3), .new 3 [(.int .i64 0)], none⟩,
    ⟨(some 4), .mv (.c (.int .i64 0)), none⟩]) (
  .seq (
  .ops [
    ⟨(some 13), .ldN 17 (.t 1), none⟩,
    ⟨(some 14), .call (.c (.func (.func 25) [] [])) [(.t 13)], none⟩,
    ⟨(some 12), .mv (.t 14), none⟩,
    ⟨(some 15), .ext 0 (.t 12), none⟩,
    ⟨(some 16), .ext 1 (.t 12), none⟩,
    ⟨(some 5), .new 78 [(.ptr none), (.map none)], none⟩,
    ⟨none, .st 2 (.t 5) (.t 15), none⟩,
    ⟨(some 4), .mv (.t 16), none⟩]) (
  .seq (
  .seq (
  .ops [
    ⟨(some 17), .mv (.t 4), none⟩,
    ⟨(some 18), .bin .neq (.t 17) (.c (.int .i64 0)), none⟩]) (
  .cond (.t 18) (
   .seq (
   .ops [
     ⟨(some 19), .mv (.t 4), none⟩,
     ⟨(some 2), .mv (.c (.slice none 0 true 0)), none⟩,
     ⟨none, .st 1 (.t 3) (.c (.int .i64 0)), none⟩,
     ⟨(some 4), .mv (.t 19), none⟩]) (
   .ret)) (
   .skip))) (
  .seq (
  .ops [
    ⟨(some 20), .fad 0 (.t 5), none⟩,
    ⟨(some 21), .ld1 (.t 20), none⟩,
    ⟨(some 22), .nilc (.t 21), none⟩,
    ⟨(some 23), .fad 0 (.t 22), none⟩,
    ⟨(some 24), .fad 0 (.t 23), none⟩,
    ⟨(some 25), .ld1 (.t 24), none⟩,
    ⟨(some 26), .len .sl (.t 25), none⟩,
    ⟨(some 27), .bin .shl (.c (.int .i64 1)) (.t 26), none⟩,
    ⟨(some 28), .bin .sub (.t 27) (.c (.int .i64 1)), none⟩,
    ⟨(some 6), .new 3 [(.int .i64 0)], none⟩,
    ⟨none, .st 1 (.t 6) (.t 28), none⟩]) (
  .seq (
  .ops [
    ⟨(some 29), .ldN 2 (.t 5), none⟩,
    ⟨(some 30), .call (.c (.func (.func 26) [] [])) [(.t 29)], none⟩,
    ⟨(some 7), .new 50 [(.slice none 0 true 0)], none⟩,
    ⟨none, .st 1 (.t 7) (.t 30), none⟩]) (
  .seq (
  .ops [
    ⟨none, .st 1 (.t 3) (.c (.int .i64 (-1))), none⟩]) (
  .seq (
  .seq (
  .ops [
    ⟨(some 31), .ldN 2 (.t 5), none⟩,
    ⟨(some 32), .ld1 (.t 6), none⟩,
    ⟨(some 33), .call (.c (.func (.func 27) [] [])) [(.t 31), (.t 32)], none⟩]) (
  .block 0 (
   .rfun (.t 33) [34] (
    .ops [
      ⟨(some 8), .new 74 [(.int .i64 0), (.int .i64 0)], none⟩,
      ⟨none, .st 2 (.t 8) (.t 34), none⟩]) (
    .block 1 (
     .seq (
     .draw [
       (⟨(some 35), .ld1 (.t 7), none⟩, .reads 0 1),
       (⟨(some 36), .ldN 2 (.t 5), none⟩, .reads 0 0),
       (⟨(some 37), .ld1 (.t 6), none⟩, .reads 0 0),
       (⟨(some 38), .ldN 2 (.t 8), none⟩, .reads 0 0),
       (⟨(some 39), .call (.c (.func (.func 28) [] [])) [(.t 36), (.t 37), (.t 38)], none⟩, .anchor),
       (⟨(some 40), .iad none 1 (.t 35) (.t 39), none⟩, .calm),
       (⟨(some 41), .ld1 (.t 40), none⟩, .reads 1 1),
       (⟨(some 9), .mv (.t 41), none⟩, .calm)]) (
     .seq (
     .ops [
       ⟨(some 42), .mv (.t 9), none⟩,
       ⟨(some 43), .bin .geq (.t 42) (.c (.int .i64 0)), none⟩,
       ⟨(some 44), .mv (.t 43), none⟩,
       ⟨(some 45), .ld1 (.t 3), some (44, true)⟩,
       ⟨(some 46), .bin .lss (.t 45) (.c (.int .i64 0)), some (44, true)⟩,
       ⟨(some 47), .mv (.t 46), some (44, true)⟩,
       ⟨(some 48), .mv (.t 9), some (47, false)⟩,
       ⟨(some 49), .ld1 (.t 3), some (47, false)⟩,
       ⟨(some 50), .bin .lss (.t 48) (.t 49), some (47, false)⟩,
       ⟨(some 51), .pick (.t 47) (.c (.bool true)) (.t 50), some (44, true)⟩,
       ⟨(some 52), .pick (.t 44) (.t 51) (.c (.bool false)), none⟩]) (
     .cond (.t 52) (
      .ops [
        ⟨(some 53), .mv (.t 9), none⟩,
        ⟨none, .st 1 (.t 3) (.t 53), none⟩]) (
      .skip)))))))) (
  .seq (
  .seq (
  .ops [
    ⟨(some 54), .ld1 (.t 3), none⟩,
    ⟨(some 55), .bin .lss (.t 54) (.c (.int .i64 0)), none⟩]) (
  .cond (.t 55) (
   .seq (
   .ops [
     ⟨(some 2), .mv (.c (.slice none 0 true 0)), none⟩,
     ⟨none, .st 1 (.t 3) (.c (.int .i64 0)), none⟩,
     ⟨(some 4), .mv (.c (.int .i64 4)), none⟩]) (
   .ret)) (
   .skip))) (
  .seq (
  .ops [
    ⟨(some 10), .new 42 [(.slice none 0 true 0)], none⟩]) (
  .seq (
  .ops [
    ⟨(some 11), .new 88 [.nilFunc], none⟩]) (
  .seq (
  .ops [
    ⟨(some 56), .mkf 29 [] [(.t 10), (.t 3), (.t 5), (.t 11)], none⟩,
    ⟨none, .st 1 (.t 11) (.t 56), none⟩]) (
  .seq (
  .draw [
    (⟨(some 57), .ld1 (.t 11), none⟩, .reads 0 1),
    (⟨(some 58), .ldN 2 (.t 5), none⟩, .reads 0 0),
    (⟨(some 59), .call (.c (.func (.func 33) [] [])) [(.t 58)], none⟩, .anchor),
    (⟨(some 60), .ld1 (.t 6), none⟩, .reads 0 1),
    (⟨(some 61), .call (.t 57) [(.c (.slice none 0 true 0)), (.t 59), (.t 60)], none⟩, .anchor)]) (
  .seq (
  .draw [
    (⟨(some 62), .ld1 (.t 10), none⟩, .reads 0 0),
    (⟨(some 63), .ld1 (.t 3), none⟩, .reads 0 0),
    (⟨(some 2), .mv (.t 62), none⟩, .calm),
    (⟨none, .st 1 (.t 3) (.t 63), none⟩, .anchor),
    (⟨(some 4), .mv (.c (.int .i64 0)), none⟩, .calm)]) (
  .ret))))))))))))), [.tmp 2, .cell1 3, .tmp 4]⟩
/-- paravane/course.Table -/
def x11 : XF := ⟨16, .seq (
  .ops [
    ⟨(some 1), .box 35 (.t 0), none⟩,
    ⟨(some 2), .mv (.c (.slice none 0 true 0)), none⟩,
    ⟨(some 3), .mv (.c (.int .i64 0)), none⟩]) (
  .seq (
  .ops [
    ⟨(some 7), .ldN 17 (.t 1), none⟩,
    ⟨(some 8), .call (.c (.func (.func 25) [] [])) [(.t 7)], none⟩,
    ⟨(some 6), .mv (.t 8), none⟩,
    ⟨(some 9), .ext 0 (.t 6), none⟩,
    ⟨(some 10), .ext 1 (.t 6), none⟩,
    ⟨(some 4), .new 78 [(.ptr none), (.map none)], none⟩,
    ⟨none, .st 2 (.t 4) (.t 9), none⟩,
    ⟨(some 5), .mv (.t 10), none⟩]) (
  .seq (
  .seq (
  .ops [
    ⟨(some 11), .mv (.t 5), none⟩,
    ⟨(some 12), .bin .neq (.t 11) (.c (.int .i64 0)), none⟩]) (
  .cond (.t 12) (
   .seq (
   .ops [
     ⟨(some 13), .mv (.t 5), none⟩,
     ⟨(some 2), .mv (.c (.slice none 0 true 0)), none⟩,
     ⟨(some 3), .mv (.t 13), none⟩]) (
   .ret)) (
   .skip))) (
  .seq (
  .ops [
    ⟨(some 14), .ldN 2 (.t 4), none⟩,
    ⟨(some 15), .call (.c (.func (.func 26) [] [])) [(.t 14)], none⟩,
    ⟨(some 2), .mv (.t 15), none⟩,
    ⟨(some 3), .mv (.c (.int .i64 0)), none⟩]) (
  .ret)))), [.tmp 2, .tmp 3]⟩
/-- paravane/paravaneref00.Rest -/
def x12 : XF := ⟨16, .seq (
  .ops [
    ⟨(some 4), .mv (.c (.int .i64 0)), none⟩]) (
  .seq (
  .seq (
  .ops [
    ⟨(some 5), .mv (.t 1), none⟩,
    ⟨(some 6), .bin .lss (.t 5) (.c (.int .i64 1)), none⟩]) (
  .cond (.t 6) (
   .seq (
   .ops [
     ⟨(some 4), .mv (.c (.int .i64 0)), none⟩]) (
   .ret)) (
   .skip))) (
  .seq (
  .ops [
    ⟨(some 7), .mv (.t 0), none⟩,
    ⟨(some 8), .mv (.t 1), none⟩,
    ⟨(some 9), .bin .rem (.t 7) (.t 8), none⟩,
    ⟨(some 0), .mv (.t 9), none⟩]) (
  .seq (
  .seq (
  .ops [
    ⟨(some 10), .mv (.t 0), none⟩,
    ⟨(some 11), .bin .lss (.t 10) (.c (.int .i64 0)), none⟩]) (
  .cond (.t 11) (
   .ops [
     ⟨(some 12), .mv (.t 0), none⟩,
     ⟨(some 13), .mv (.t 1), none⟩,
     ⟨(some 14), .bin .add (.t 12) (.t 13), none⟩,
     ⟨(some 0), .mv (.t 14), none⟩]) (
   .skip))) (
  .seq (
  .ops [
    ⟨(some 15), .mv (.t 0), none⟩,
    ⟨(some 4), .mv (.t 15), none⟩]) (
  .ret))))), [.tmp 4]⟩
/-- paravane/course.Proves -/
def x13 : XF := ⟨93, .seq (
  .ops [
    ⟨(some 3), .box 35 (.t 0), none⟩,
    ⟨(some 4), .box 50 (.t 1), none⟩,
    ⟨(some 5), .box 3 (.t 2), none⟩,
    ⟨(some 6), .new 4 [(.bool false)], none⟩,
    ⟨(some 7), .new 37 [(.int .i64 0)], none⟩]) (
  .seq (
  .ops [
    ⟨(some 19), .ldN 17 (.t 3), none⟩,
    ⟨(some 20), .call (.c (.func (.func 25) [] [])) [(.t 19)], none⟩,
    ⟨(some 18), .mv (.t 20), none⟩,
    ⟨(some 21), .ext 0 (.t 18), none⟩,
    ⟨(some 22), .ext 1 (.t 18), none⟩,
    ⟨(some 8), .new 78 [(.ptr none), (.map none)], none⟩,
    ⟨none, .st 2 (.t 8) (.t 21), none⟩,
    ⟨(some 9), .mv (.t 22), none⟩]) (
  .seq (
  .seq (
  .ops [
    ⟨(some 23), .mv (.t 9), none⟩,
    ⟨(some 24), .bin .neq (.t 23) (.c (.int .i64 0)), none⟩]) (
  .cond (.t 24) (
   .seq (
   .ops [
     ⟨(some 25), .mv (.t 9), none⟩,
     ⟨none, .st 1 (.t 6) (.c (.bool false)), none⟩,
     ⟨none, .st 1 (.t 7) (.t 25), none⟩]) (
   .ret)) (
   .skip))) (
  .seq (
  .ops [
    ⟨(some 26), .fad 0 (.t 8), none⟩,
    ⟨(some 27), .ld1 (.t 26), none⟩,
    ⟨(some 28), .nilc (.t 27), none⟩,
    ⟨(some 29), .fad 0 (.t 28), none⟩,
    ⟨(some 30), .fad 0 (.t 29), none⟩,
    ⟨(some 31), .ld1 (.t 30), none⟩,
    ⟨(some 32), .len .sl (.t 31), none⟩,
    ⟨(some 10), .mv (.t 32), none⟩]) (
  .seq (
  .seq (
  .draw [
    (⟨(some 33), .ld1 (.t 4), none⟩, .reads 0 0),
    (⟨(some 34), .len .sl (.t 33), none⟩, .calm),
    (⟨(some 35), .mv (.t 10), none⟩, .calm),
    (⟨(some 36), .bin .mul (.c (.int .i64 2)) (.t 35), none⟩, .calm),
    (⟨(some 37), .mv (.t 10), none⟩, .calm),
    (⟨(some 38), .bin .shl (.t 36) (.t 37), none⟩, .calm),
    (⟨(some 39), .bin .neq (.t 34) (.t 38), none⟩, .calm),
    (⟨(some 40), .mv (.t 39), none⟩, .calm),
    (⟨(some 41), .ld1 (.t 4), some (40, false)⟩, .reads 0 0),
    (⟨(some 42), .call (.c (.func (.func 35) [] [])) [(.t 41), (.c (.func (.func 36) [] []))], some (40, false)⟩, .anchor),
    (⟨(some 43), .pick (.t 40) (.c (.bool true)) (.t 42), none⟩, .calm)]) (
  .cond (.t 43) (
   .seq (
   .ops [
     ⟨none, .st 1 (.t 6) (.c (.bool false)), none⟩,
     ⟨none, .st 1 (.t 7) (.c (.int .i64 43)), none⟩]) (
   .ret)) (
   .skip))) (
  .seq (
  .ops [
    ⟨(some 44), .mv (.t 10), none⟩,
    ⟨(some 45), .bin .shl (.c (.int .i64 1)) (.t 44), none⟩,
    ⟨(some 46), .bin .sub (.t 45) (.c (.int .i64 1)), none⟩,
    ⟨(some 11), .mv (.t 46), none⟩]) (
  .seq (
  .seq (
  .ops [
    ⟨(some 47), .mv (.t 10), none⟩,
    ⟨(some 48), .bin .shl (.c (.int .i64 1)) (.t 47), none⟩,
    ⟨(some 49), .mv (.c (.int .i64 0)), none⟩]) (
  .block 0 (
   .loop (
    .seq (
    .ops [
      ⟨(some 50), .bin .lss (.t 49) (.t 48), none⟩]) (
    .seq (
    .cond (.t 50) (
     .skip) (
     .exit 0)) (
    .seq (
    .block 1 (
     .seq (
     .ops [
       ⟨(some 51), .mv (.t 49), none⟩,
       ⟨(some 12), .new 3 [(.int .i64 0)], none⟩,
       ⟨none, .st 1 (.t 12) (.t 51), none⟩]) (
     .seq (
     .ops [
       ⟨(some 52), .ldN 2 (.t 8), none⟩,
       ⟨(some 53), .ld1 (.t 12), none⟩,
       ⟨(some 54), .call (.c (.func (.func 27) [] [])) [(.t 52), (.t 53)], none⟩]) (
     .block 2 (
      .rfun (.t 54) [55] (
       .ops [
         ⟨(some 13), .new 74 [(.int .i64 0), (.int .i64 0)], none⟩,
         ⟨none, .st 2 (.t 13) (.t 55), none⟩]) (
       .block 3 (
        .seq (
        .draw [
          (⟨(some 56), .ld1 (.t 4), none⟩, .reads 0 1),
          (⟨(some 57), .ldN 2 (.t 8), none⟩, .reads 0 0),
          (⟨(some 58), .ld1 (.t 12), none⟩, .reads 0 0),
          (⟨(some 59), .ldN 2 (.t 13), none⟩, .reads 0 0),
          (⟨(some 60), .call (.c (.func (.func 28) [] [])) [(.t 57), (.t 58), (.t 59)], none⟩, .anchor),
          (⟨(some 61), .iad none 1 (.t 56) (.t 60), none⟩, .calm),
          (⟨(some 62), .ld1 (.t 61), none⟩, .reads 1 1),
          (⟨(some 14), .mv (.t 62), none⟩, .calm)]) (
        .seq (
        .ops [
          ⟨(some 64), .ldN 2 (.t 8), none⟩,
          ⟨(some 65), .ld1 (.t 4), none⟩,
          ⟨(some 66), .ld1 (.t 12), none⟩,
          ⟨(some 67), .ldN 2 (.t 13), none⟩,
          ⟨(some 68), .call (.c (.func (.func 39) [] [])) [(.t 64), (.t 65), (.t 66), (.t 67)], none⟩,
          ⟨(some 69), .call (.c (.func (.func 38) [] [])) [(.t 68), (.c (.func (.func 40) [] []))], none⟩,
          ⟨(some 63), .mv (.t 69), none⟩,
          ⟨(some 70), .ext 0 (.t 63), none⟩,
          ⟨(some 71), .ext 1 (.t 63), none⟩,
          ⟨(some 15), .mv (.t 70), none⟩,
          ⟨(some 16), .mv (.t 71), none⟩]) (
        .seq (
        .ops [
          ⟨(some 72), .mv (.t 16), none⟩,
          ⟨(some 73), .mv (.t 72), none⟩,
          ⟨(some 74), .mv (.t 14), some (73, true)⟩,
          ⟨(some 75), .bin .eql (.t 74) (.c (.int .i64 (-1))), some (73, true)⟩,
          ⟨(some 76), .mv (.t 75), some (73, true)⟩,
          ⟨(some 77), .mv (.t 14), some (76, false)⟩,
          ⟨(some 78), .mv (.t 15), some (76, false)⟩,
          ⟨(some 79), .bin .gtr (.t 77) (.t 78), some (76, false)⟩,
          ⟨(some 80), .pick (.t 76) (.c (.bool true)) (.t 79), some (73, true)⟩,
          ⟨(some 81), .pick (.t 73) (.t 80) (.c (.bool false)), none⟩]) (
        .cond (.t 81) (
         .seq (
         .ops [
           ⟨none, .st 1 (.t 6) (.c (.bool false)), none⟩,
           ⟨none, .st 1 (.t 7) (.c (.int .i64 0)), none⟩]) (
         .ret)) (
         .skip))))))))))) (
    .ops [
      ⟨(some 82), .bin .add (.t 49) (.c (.int .i64 1)), none⟩,
      ⟨(some 49), .mv (.t 82), none⟩]))))))) (
  .seq (
  .draw [
    (⟨(some 83), .ld1 (.t 4), none⟩, .reads 0 1),
    (⟨(some 84), .ldN 2 (.t 8), none⟩, .reads 0 0),
    (⟨(some 85), .mv (.t 11), none⟩, .calm),
    (⟨(some 86), .build [(.int .i64 0), (.int .i64 0)] [], none⟩, .calm),
    (⟨(some 87), .call (.c (.func (.func 28) [] [])) [(.t 84), (.t 85), (.t 86)], none⟩, .anchor),
    (⟨(some 88), .slc 1 (.t 83) (some (.t 87)) none none, none⟩, .calm),
    (⟨(some 17), .mv (.t 88), none⟩, .calm)]) (
  .seq (
  .ops [
    ⟨(some 89), .mv (.t 17), none⟩,
    ⟨(some 90), .mkf 41 [] [(.t 5)], none⟩,
    ⟨(some 91), .call (.c (.func (.func 35) [] [])) [(.t 89), (.t 90)], none⟩,
    ⟨(some 92), .un .not (.t 91), none⟩,
    ⟨none, .st 1 (.t 6) (.t 92), none⟩,
    ⟨none, .st 1 (.t 7) (.c (.int .i64 0)), none⟩]) (
  .ret))))))))), [.cell1 6, .cell1 7]⟩
/-- paravane/course.chartOf -/
def x14 : XF := ⟨14, .seq (
  .ops [
    ⟨(some 1), .box 35 (.t 0), none⟩,
    ⟨(some 2), .mv (.c (.ptr none)), none⟩,
    ⟨(some 3), .mv (.c (.int .i64 0)), none⟩]) (
  .seq (
  .seq (
  .ops [
    ⟨(some 5), .ldN 17 (.t 1), none⟩,
    ⟨(some 6), .call (.c (.func (.func 42) [] [])) [(.t 5)], none⟩,
    ⟨(some 4), .mv (.t 6), none⟩]) (
  .seq (
  .ops [
    ⟨(some 7), .mv (.t 4), none⟩,
    ⟨(some 8), .bin .neq (.t 7) (.c (.int .i64 0)), none⟩]) (
  .cond (.t 8) (
   .seq (
   .ops [
     ⟨(some 9), .mv (.t 4), none⟩,
     ⟨(some 2), .mv (.c (.ptr none)), none⟩,
     ⟨(some 3), .mv (.t 9), none⟩]) (
   .ret)) (
   .skip)))) (
  .seq (
  .ops [
    ⟨(some 10), .ldN 17 (.t 1), none⟩,
    ⟨(some 11), .mkmap, none⟩,
    ⟨(some 12), .build [(.slice none 0 true 0), (.slice none 0 true 0), (.slice none 0 true 0), (.int .i64 0), (.int .i64 0), (.int .i64 0), (.int .i64 0), (.int .i64 0), (.int .i64 0), (.int .i64 0), (.int .i64 0), (.int .i64 0), (.int .i64 0), (.int .i64 0), (.int .i64 0), (.int .i64 0), (.slice none 0 true 0), (.map none)] [(0, 17, (.t 10)), (17, 1, (.t 11))], none⟩,
    ⟨(some 13), .box 83 (.t 12), none⟩,
    ⟨(some 2), .mv (.t 13), none⟩,
    ⟨(some 3), .mv (.c (.int .i64 0)), none⟩]) (
  .ret))), [.tmp 2, .tmp 3]⟩
/-- (paravane/course.pose).valid -/
def x15 : XF := ⟨12, .seq (
  .ops [
    ⟨(some 1), .box 60 (.t 0), none⟩,
    ⟨(some 2), .mv (.c (.bool false)), none⟩]) (
  .seq (
  .ops [
    ⟨(some 3), .fad 0 (.t 1), none⟩,
    ⟨(some 4), .ldN 2 (.t 3), none⟩,
    ⟨(some 5), .call (.c (.func (.func 43) [] [])) [(.t 4)], none⟩,
    ⟨(some 6), .bin .eql (.t 5) (.c (.int .i64 0)), none⟩,
    ⟨(some 7), .mv (.t 6), none⟩,
    ⟨(some 8), .fad 2 (.t 1), some (7, true)⟩,
    ⟨(some 9), .ld1 (.t 8), some (7, true)⟩,
    ⟨(some 10), .call (.c (.func (.func 37) [] [])) [(.t 9), (.c (.int .i64 0)), (.c (.int .i64 7))], some (7, true)⟩,
    ⟨(some 11), .pick (.t 7) (.t 10) (.c (.bool false)), none⟩,
    ⟨(some 2), .mv (.t 11), none⟩]) (
  .ret)), [.tmp 2]⟩
/-- (*paravane/course.chart).best -/
def x16 : XF := ⟨15, .seq (
  .ops [
    ⟨(some 4), .box 60 (.t 1), none⟩,
    ⟨(some 5), .box 60 (.t 2), none⟩,
    ⟨(some 6), .new 62 [(.slice none 0 true 0), (.int .i64 0)], none⟩,
    ⟨(some 7), .mv (.c (.bool false)), none⟩]) (
  .seq (
  .ops [
    ⟨(some 8), .mv (.t 0), none⟩,
    ⟨(some 9), .ldN 3 (.t 4), none⟩,
    ⟨(some 10), .ldN 3 (.t 5), none⟩,
    ⟨(some 11), .call (.c (.func (.func 45) [] [])) [(.t 8), (.t 9), (.t 10)], none⟩,
    ⟨(some 12), .call (.c (.func (.func 44) [] [])) [(.t 11), (.c (.func (.func 46) [] []))], none⟩,
    ⟨(some 13), .ext 0 (.t 12), none⟩,
    ⟨(some 14), .ext 1 (.t 12), none⟩,
    ⟨none, .st 2 (.t 6) (.t 13), none⟩,
    ⟨(some 7), .mv (.t 14), none⟩]) (
  .ret)), [.cellN 6 2, .tmp 7]⟩
/-- paravane/course.Octant -/
def x21 : XF := ⟨84, .seq (
  .ops [
    ⟨(some 1), .box 30 (.t 0), none⟩,
    ⟨(some 2), .mv (.c (.int .i64 0)), none⟩]) (
  .seq (
  .seq (
  .ops [
    ⟨(some 7), .fad 0 (.t 1), none⟩,
    ⟨(some 8), .ld1 (.t 7), none⟩,
    ⟨(some 9), .call (.c (.func (.func 37) [] [])) [(.t 8), (.c (.int .i64 (-131072))), (.c (.int .i64 131072))], none⟩,
    ⟨(some 10), .un .not (.t 9), none⟩,
    ⟨(some 11), .mv (.t 10), none⟩,
    ⟨(some 12), .fad 1 (.t 1), some (11, false)⟩,
    ⟨(some 13), .ld1 (.t 12), some (11, false)⟩,
    ⟨(some 14), .call (.c (.func (.func 37) [] [])) [(.t 13), (.c (.int .i64 (-131072))), (.c (.int .i64 131072))], some (11, false)⟩,
    ⟨(some 15), .un .not (.t 14), some (11, false)⟩,
    ⟨(some 16), .pick (.t 11) (.c (.bool true)) (.t 15), none⟩]) (
  .cond (.t 16) (
   .seq (
   .ops [
     ⟨(some 2), .mv (.c (.int .i64 0)), none⟩]) (
   .ret)) (
   .skip))) (
  .seq (
  .draw [
    (⟨(some 17), .fad 0 (.t 1), none⟩, .calm),
    (⟨(some 18), .ld1 (.t 17), none⟩, .reads 0 0),
    (⟨(some 19), .fad 1 (.t 1), none⟩, .calm),
    (⟨(some 20), .ld1 (.t 19), none⟩, .reads 0 0),
    (⟨(some 21), .bin .add (.t 18) (.t 20), none⟩, .calm),
    (⟨(some 22), .fad 0 (.t 1), none⟩, .calm),
    (⟨(some 23), .ld1 (.t 22), none⟩, .reads 0 0),
    (⟨(some 24), .fad 1 (.t 1), none⟩, .calm),
    (⟨(some 25), .ld1 (.t 24), none⟩, .reads 0 0),
    (⟨(some 26), .bin .sub (.t 23) (.t 25), none⟩, .calm),
    (⟨(some 3), .mv (.t 21), none⟩, .calm),
    (⟨(some 4), .mv (.t 26), none⟩, .calm)]) (
  .seq (
  .seq (
  .ops [
    ⟨(some 27), .fad 1 (.t 1), none⟩,
    ⟨(some 28), .ld1 (.t 27), none⟩,
    ⟨(some 29), .bin .geq (.t 28) (.c (.int .i64 0)), none⟩,
    ⟨(some 30), .mv (.t 29), none⟩,
    ⟨(some 31), .mv (.t 4), some (30, true)⟩,
    ⟨(some 32), .bin .geq (.t 31) (.c (.int .i64 0)), some (30, true)⟩,
    ⟨(some 33), .pick (.t 30) (.t 32) (.c (.bool false)), none⟩,
    ⟨(some 34), .fad 0 (.t 1), none⟩,
    ⟨(some 35), .ld1 (.t 34), none⟩,
    ⟨(some 36), .bin .geq (.t 35) (.c (.int .i64 0)), none⟩,
    ⟨(some 37), .mv (.t 36), none⟩,
    ⟨(some 38), .mv (.t 4), some (37, true)⟩,
    ⟨(some 39), .bin .leq (.t 38) (.c (.int .i64 0)), some (37, true)⟩,
    ⟨(some 40), .pick (.t 37) (.t 39) (.c (.bool false)), none⟩,
    ⟨(some 41), .fad 0 (.t 1), none⟩,
    ⟨(some 42), .ld1 (.t 41), none⟩,
    ⟨(some 43), .bin .leq (.t 42) (.c (.int .i64 0)), none⟩,
    ⟨(some 44), .mv (.t 43), none⟩,
    ⟨(some 45), .mv (.t 3), some (44, true)⟩,
    ⟨(some 46), .bin .geq (.t 45) (.c (.int .i64 0)), some (44, true)⟩,
    ⟨(some 47), .pick (.t 44) (.t 46) (.c (.bool false)), none⟩,
    ⟨(some 48), .fad 1 (.t 1), none⟩,
    ⟨(some 49), .ld1 (.t 48), none⟩,
    ⟨(some 50), .bin .geq (.t 49) (.c (.int .i64 0)), none⟩,
    ⟨(some 51), .mv (.t 50), none⟩,
    ⟨(some 52), .mv (.t 3), some (51, true)⟩,
    ⟨(some 53), .bin .leq (.t 52) (.c (.int .i64 0)), some (51, true)⟩,
    ⟨(some 54), .pick (.t 51) (.t 53) (.c (.bool false)), none⟩,
    ⟨(some 55), .fad 1 (.t 1), none⟩,
    ⟨(some 56), .ld1 (.t 55), none⟩,
    ⟨(some 57), .bin .leq (.t 56) (.c (.int .i64 0)), none⟩,
    ⟨(some 58), .mv (.t 57), none⟩,
    ⟨(some 59), .mv (.t 4), some (58, true)⟩,
    ⟨(some 60), .bin .leq (.t 59) (.c (.int .i64 0)), some (58, true)⟩,
    ⟨(some 61), .pick (.t 58) (.t 60) (.c (.bool false)), none⟩,
    ⟨(some 62), .fad 0 (.t 1), none⟩,
    ⟨(some 63), .ld1 (.t 62), none⟩,
    ⟨(some 64), .bin .leq (.t 63) (.c (.int .i64 0)), none⟩,
    ⟨(some 65), .mv (.t 64), none⟩,
    ⟨(some 66), .mv (.t 4), some (65, true)⟩,
    ⟨(some 67), .bin .geq (.t 66) (.c (.int .i64 0)), some (65, true)⟩,
    ⟨(some 68), .pick (.t 65) (.t 67) (.c (.bool false)), none⟩,
    ⟨(some 69), .fad 0 (.t 1), none⟩,
    ⟨(some 70), .ld1 (.t 69), none⟩,
    ⟨(some 71), .bin .geq (.t 70) (.c (.int .i64 0)), none⟩,
    ⟨(some 72), .mv (.t 71), none⟩,
    ⟨(some 73), .mv (.t 3), some (72, true)⟩,
    ⟨(some 74), .bin .leq (.t 73) (.c (.int .i64 0)), some (72, true)⟩,
    ⟨(some 75), .pick (.t 72) (.t 74) (.c (.bool false)), none⟩,
    ⟨(some 76), .build [(.bool false), (.bool false), (.bool false), (.bool false), (.bool false), (.bool false), (.bool false)] [(0, 1, (.t 33)), (1, 1, (.t 40)), (2, 1, (.t 47)), (3, 1, (.t 54)), (4, 1, (.t 61)), (5, 1, (.t 68)), (6, 1, (.t 75))], none⟩,
    ⟨(some 77), .mv (.c (.int .i64 0)), none⟩]) (
  .block 0 (
   .loop (
    .seq (
    .ops [
      ⟨(some 78), .bin .lss (.t 77) (.c (.int .i64 7)), none⟩]) (
    .seq (
    .cond (.t 78) (
     .skip) (
     .exit 0)) (
    .seq (
    .block 1 (
     .seq (
     .ops [
       ⟨(some 79), .mv (.t 77), none⟩,
       ⟨(some 80), .idx 7 1 false (.t 76) (.t 77), none⟩,
       ⟨(some 5), .mv (.t 79), none⟩,
       ⟨(some 6), .mv (.t 80), none⟩]) (
     .seq (
     .ops [
       ⟨(some 81), .mv (.t 6), none⟩]) (
     .cond (.t 81) (
      .seq (
      .ops [
        ⟨(some 82), .mv (.t 5), none⟩,
        ⟨(some 2), .mv (.t 82), none⟩]) (
      .ret)) (
      .skip))))) (
    .ops [
      ⟨(some 83), .bin .add (.t 77) (.c (.int .i64 1)), none⟩,
      ⟨(some 77), .mv (.t 83), none⟩]))))))) (
  .seq (
  .ops [
    ⟨(some 2), .mv (.c (.int .i64 7)), none⟩]) (
  .ret))))), [.tmp 2]⟩
/-- paravane/course.planOf -/
def x25 : XF := ⟨15, .seq (
  .ops [
    ⟨(some 1), .box 35 (.t 0), none⟩,
    ⟨(some 2), .new 78 [(.ptr none), (.map none)], none⟩,
    ⟨(some 3), .mv (.c (.int .i64 0)), none⟩]) (
  .seq (
  .ops [
    ⟨(some 7), .ldN 17 (.t 1), none⟩,
    ⟨(some 8), .call (.c (.func (.func 14) [] [])) [(.t 7)], none⟩,
    ⟨(some 6), .mv (.t 8), none⟩,
    ⟨(some 9), .ext 0 (.t 6), none⟩,
    ⟨(some 10), .ext 1 (.t 6), none⟩,
    ⟨(some 4), .mv (.t 9), none⟩,
    ⟨(some 5), .mv (.t 10), none⟩]) (
  .seq (
  .ops [
    ⟨(some 11), .mv (.t 4), none⟩,
    ⟨(some 12), .mkmap, none⟩,
    ⟨(some 13), .build [(.ptr none), (.map none)] [(0, 1, (.t 11)), (1, 1, (.t 12))], none⟩,
    ⟨(some 14), .mv (.t 5), none⟩,
    ⟨none, .st 2 (.t 2) (.t 13), none⟩,
    ⟨(some 3), .mv (.t 14), none⟩]) (
  .ret))), [.cellN 2 2, .tmp 3]⟩
/-- (paravane/course.plan).table -/
def x26 : XF := ⟨59, .seq (
  .ops [
    ⟨(some 1), .box 78 (.t 0), none⟩,
    ⟨(some 2), .mv (.c (.slice none 0 true 0)), none⟩]) (
  .seq (
  .ops [
    ⟨(some 10), .fad 0 (.t 1), none⟩,
    ⟨(some 11), .ld1 (.t 10), none⟩,
    ⟨(some 12), .nilc (.t 11), none⟩,
    ⟨(some 13), .fad 0 (.t 12), none⟩,
    ⟨(some 14), .fad 0 (.t 13), none⟩,
    ⟨(some 15), .ld1 (.t 14), none⟩,
    ⟨(some 16), .len .sl (.t 15), none⟩,
    ⟨(some 3), .mv (.t 16), none⟩]) (
  .seq (
  .ops [
    ⟨(some 17), .mv (.t 3), none⟩,
    ⟨(some 18), .bin .mul (.c (.int .i64 2)) (.t 17), none⟩,
    ⟨(some 19), .mv (.t 3), none⟩,
    ⟨(some 20), .bin .shl (.t 18) (.t 19), none⟩,
    ⟨(some 21), .mksl 3 1 8 [(.int .i64 0)] (.t 20) (.t 20), none⟩,
    ⟨(some 4), .new 50 [(.slice none 0 true 0)], none⟩,
    ⟨none, .st 1 (.t 4) (.t 21), none⟩]) (
  .seq (
  .seq (
  .ops [
    ⟨(some 22), .ld1 (.t 4), none⟩,
    ⟨(some 23), .len .sl (.t 22), none⟩,
    ⟨(some 24), .mv (.c (.int .i64 0)), none⟩]) (
  .block 0 (
   .loop (
    .seq (
    .ops [
      ⟨(some 25), .bin .lss (.t 24) (.t 23), none⟩]) (
    .seq (
    .cond (.t 25) (
     .skip) (
     .exit 0)) (
    .seq (
    .block 1 (
     .seq (
     .ops [
       ⟨(some 26), .mv (.t 24), none⟩,
       ⟨(some 5), .mv (.t 26), none⟩]) (
     .ops [
       ⟨(some 27), .ld1 (.t 4), none⟩,
       ⟨(some 28), .mv (.t 5), none⟩,
       ⟨(some 29), .iad none 1 (.t 27) (.t 28), none⟩,
       ⟨none, .st 1 (.t 29) (.c (.int .i64 (-1))), none⟩]))) (
    .ops [
      ⟨(some 30), .bin .add (.t 24) (.c (.int .i64 1)), none⟩,
      ⟨(some 24), .mv (.t 30), none⟩]))))))) (
  .seq (
  .seq (
  .ops [
    ⟨(some 31), .mv (.t 3), none⟩,
    ⟨(some 32), .bin .shl (.c (.int .i64 1)) (.t 31), none⟩,
    ⟨(some 33), .mv (.c (.int .i64 0)), none⟩]) (
  .block 2 (
   .loop (
    .seq (
    .ops [
      ⟨(some 34), .bin .lss (.t 33) (.t 32), none⟩]) (
    .seq (
    .cond (.t 34) (
     .skip) (
     .exit 2)) (
    .seq (
    .block 3 (
     .seq (
     .ops [
       ⟨(some 35), .mv (.t 33), none⟩,
       ⟨(some 6), .new 3 [(.int .i64 0)], none⟩,
       ⟨none, .st 1 (.t 6) (.t 35), none⟩]) (
     .seq (
     .ops [
       ⟨(some 36), .ldN 2 (.t 1), none⟩,
       ⟨(some 37), .ld1 (.t 6), none⟩,
       ⟨(some 38), .call (.c (.func (.func 27) [] [])) [(.t 36), (.t 37)], none⟩]) (
     .block 4 (
      .rfun (.t 38) [39] (
       .ops [
         ⟨(some 7), .new 74 [(.int .i64 0), (.int .i64 0)], none⟩,
         ⟨none, .st 2 (.t 7) (.t 39), none⟩]) (
       .block 5 (
        .seq (
        .ops [
          ⟨(some 41), .ldN 2 (.t 1), none⟩,
          ⟨(some 42), .ld1 (.t 4), none⟩,
          ⟨(some 43), .ld1 (.t 6), none⟩,
          ⟨(some 44), .ldN 2 (.t 7), none⟩,
          ⟨(some 45), .call (.c (.func (.func 39) [] [])) [(.t 41), (.t 42), (.t 43), (.t 44)], none⟩,
          ⟨(some 46), .call (.c (.func (.func 38) [] [])) [(.t 45), (.c (.func (.func 40) [] []))], none⟩,
          ⟨(some 40), .mv (.t 46), none⟩,
          ⟨(some 47), .ext 0 (.t 40), none⟩,
          ⟨(some 48), .ext 1 (.t 40), none⟩,
          ⟨(some 8), .mv (.t 47), none⟩,
          ⟨(some 9), .mv (.t 48), none⟩]) (
        .seq (
        .ops [
          ⟨(some 49), .mv (.t 9), none⟩]) (
        .cond (.t 49) (
         .draw [
           (⟨(some 50), .ld1 (.t 4), none⟩, .reads 0 1),
           (⟨(some 51), .ldN 2 (.t 1), none⟩, .reads 0 0),
           (⟨(some 52), .ld1 (.t 6), none⟩, .reads 0 0),
           (⟨(some 53), .ldN 2 (.t 7), none⟩, .reads 0 0),
           (⟨(some 54), .call (.c (.func (.func 28) [] [])) [(.t 51), (.t 52), (.t 53)], none⟩, .anchor),
           (⟨(some 55), .mv (.t 8), none⟩, .calm),
           (⟨(some 56), .iad none 1 (.t 50) (.t 54), none⟩, .calm),
           (⟨none, .st 1 (.t 56) (.t 55), none⟩, .anchor)]) (
         .skip)))))))))) (
    .ops [
      ⟨(some 57), .bin .add (.t 33) (.c (.int .i64 1)), none⟩,
      ⟨(some 33), .mv (.t 57), none⟩]))))))) (
  .seq (
  .ops [
    ⟨(some 58), .ld1 (.t 4), none⟩,
    ⟨(some 2), .mv (.t 58), none⟩]) (
  .ret)))))), [.tmp 2]⟩
/-- (paravane/course.plan).shoots -/
def x27 : XF := ⟨6, .seq (
  .ops [
    ⟨(some 2), .box 78 (.t 0), none⟩,
    ⟨(some 3), .box 3 (.t 1), none⟩,
    ⟨(some 4), .mv (.c .nilFunc), none⟩]) (
  .seq (
  .ops [
    ⟨(some 5), .mkf 52 [] [(.t 2), (.t 3)], none⟩,
    ⟨(some 4), .mv (.t 5), none⟩]) (
  .ret)), [.tmp 4]⟩
/-- (paravane/course.plan).place -/
def x28 : XF := ⟨24, .seq (
  .ops [
    ⟨(some 3), .box 78 (.t 0), none⟩,
    ⟨(some 5), .box 74 (.t 2), none⟩,
    ⟨(some 6), .mv (.c (.int .i64 0)), none⟩]) (
  .seq (
  .draw [
    (⟨(some 7), .fad 0 (.t 3), none⟩, .calm),
    (⟨(some 8), .ld1 (.t 7), none⟩, .reads 0 0),
    (⟨(some 9), .nilc (.t 8), none⟩, .calm),
    (⟨(some 10), .fad 0 (.t 9), none⟩, .calm),
    (⟨(some 11), .fad 0 (.t 10), none⟩, .calm),
    (⟨(some 12), .ld1 (.t 11), none⟩, .reads 0 0),
    (⟨(some 13), .len .sl (.t 12), none⟩, .calm),
    (⟨(some 14), .bin .mul (.c (.int .i64 2)) (.t 13), none⟩, .calm),
    (⟨(some 15), .mv (.t 1), none⟩, .calm),
    (⟨(some 16), .bin .mul (.t 14) (.t 15), none⟩, .calm),
    (⟨(some 17), .fad 0 (.t 5), none⟩, .calm),
    (⟨(some 18), .ld1 (.t 17), none⟩, .reads 0 0),
    (⟨(some 19), .bin .mul (.c (.int .i64 2)) (.t 18), none⟩, .calm),
    (⟨(some 20), .bin .add (.t 16) (.t 19), none⟩, .calm),
    (⟨(some 21), .fad 1 (.t 5), none⟩, .calm),
    (⟨(some 22), .ld1 (.t 21), none⟩, .reads 0 0),
    (⟨(some 23), .bin .add (.t 20) (.t 22), none⟩, .calm),
    (⟨(some 6), .mv (.t 23), none⟩, .calm)]) (
  .ret)), [.tmp 6]⟩
/-- paravane/course.Best$1 -/
def x29 : XF := ⟨57, .seq (
  .ops [
    ⟨(some 7), .box 42 (.t 0), none⟩,
    ⟨(some 8), .box 90 (.t 1), none⟩,
    ⟨(some 9), .box 3 (.t 2), none⟩,
    ⟨(some 10), .new 4 [(.bool false)], none⟩]) (
  .scope (
   .seq (
   .seq (
   .ops [
     ⟨(some 14), .ld1 (.t 9), none⟩,
     ⟨(some 15), .bin .eql (.t 14) (.c (.int .i64 0)), none⟩]) (
   .cond (.t 15) (
    .seq (
    .ops [
      ⟨(some 16), .ld1 (.t 7), none⟩,
      ⟨none, .st 1 (.t 3) (.t 16), none⟩]) (
    .seq (
    .ops [
      ⟨(some 17), .fad 3 (.t 8), none⟩,
      ⟨(some 18), .ld1 (.t 17), none⟩,
      ⟨(some 19), .ld1 (.t 4), none⟩,
      ⟨(some 20), .bin .eql (.t 18) (.t 19), none⟩,
      ⟨none, .st 1 (.t 10) (.t 20), none⟩]) (
    .ret))) (
    .skip))) (
   .seq (
   .skip) (
   .seq (
   .seq (
   .ops [
     ⟨(some 21), .ldN 2 (.t 5), none⟩,
     ⟨(some 22), .ld1 (.t 9), none⟩,
     ⟨(some 23), .call (.c (.func (.func 27) [] [])) [(.t 21), (.t 22)], none⟩]) (
   .block 0 (
    .rfun (.t 23) [24] (
     .ops [
       ⟨(some 11), .new 74 [(.int .i64 0), (.int .i64 0)], none⟩,
       ⟨none, .st 2 (.t 11) (.t 24), none⟩]) (
     .block 1 (
      .seq (
      .ops [
        ⟨(some 26), .ldN 2 (.t 5), none⟩,
        ⟨(some 27), .ldN 4 (.t 8), none⟩,
        ⟨(some 28), .ldN 2 (.t 11), none⟩,
        ⟨(some 29), .call (.c (.func (.func 30) [] [])) [(.t 26), (.t 27), (.t 28)], none⟩,
        ⟨(some 25), .mv (.t 29), none⟩,
        ⟨(some 30), .ext 0 (.t 25), none⟩,
        ⟨(some 31), .ext 1 (.t 25), none⟩,
        ⟨(some 12), .new 26 [(.int .i64 0), (.int .i64 0)], none⟩,
        ⟨none, .st 2 (.t 12) (.t 30), none⟩,
        ⟨(some 13), .mv (.t 31), none⟩]) (
      .seq (
      .seq (
      .ops [
        ⟨(some 32), .mv (.t 13), none⟩,
        ⟨(some 33), .un .not (.t 32), none⟩,
        ⟨(some 34), .mv (.t 33), none⟩,
        ⟨(some 35), .fad 1 (.t 12), some (34, false)⟩,
        ⟨(some 36), .ld1 (.t 35), some (34, false)⟩,
        ⟨(some 37), .ld1 (.t 4), some (34, false)⟩,
        ⟨(some 38), .bin .gtr (.t 36) (.t 37), some (34, false)⟩,
        ⟨(some 39), .pick (.t 34) (.c (.bool true)) (.t 38), none⟩]) (
      .cond (.t 39) (
       .exit 1) (
       .skip))) (
      .seq (
      .draw [
        (⟨(some 40), .ld1 (.t 6), none⟩, .reads 0 3),
        (⟨(some 41), .ld1 (.t 7), none⟩, .reads 0 0),
        (⟨(some 42), .call (.c (.func (.func 31) [] [])) [(.t 41)], none⟩, .anchor),
        (⟨(some 43), .ldN 2 (.t 11), none⟩, .reads 0 1),
        (⟨(some 44), .bsl 74 2 1 [(.int .i64 0), (.int .i64 0)] [(0, 2, (.t 43))], none⟩, .new),
        (⟨(some 45), .app 74 2 16 [(.int .i64 0), (.int .i64 0)] (.t 42) (.t 44), none⟩, .anchor),
        (⟨(some 46), .ldN 2 (.t 5), none⟩, .reads 0 2),
        (⟨(some 47), .ldN 2 (.t 11), none⟩, .reads 0 2),
        (⟨(some 48), .fad 1 (.t 12), none⟩, .calm),
        (⟨(some 49), .ld1 (.t 48), none⟩, .reads 0 2),
        (⟨(some 50), .call (.c (.func (.func 32) [] [])) [(.t 46), (.t 47), (.t 49)], none⟩, .anchor),
        (⟨(some 51), .ld1 (.t 9), none⟩, .reads 0 3),
        (⟨(some 52), .fad 0 (.t 11), none⟩, .calm),
        (⟨(some 53), .ld1 (.t 52), none⟩, .reads 0 3),
        (⟨(some 54), .bin .shl (.c (.int .i64 1)) (.t 53), none⟩, .calm),
        (⟨(some 55), .bin .andNot (.t 51) (.t 54), none⟩, .calm),
        (⟨(some 56), .call (.t 40) [(.t 45), (.t 50), (.t 55)], none⟩, .anchor)]) (
      .cond (.t 56) (
       .seq (
       .ops [
         ⟨none, .st 1 (.t 10) (.c (.bool true)), none⟩]) (
       .ret)) (
       .skip))))))))) (
   .seq (
   .ops [
     ⟨none, .st 1 (.t 10) (.c (.bool false)), none⟩]) (
   .ret)))))), [.cell1 10]⟩
/-- (paravane/course.plan).goes -/
def x30 : XF := ⟨67, .seq (
  .ops [
    ⟨(some 3), .box 78 (.t 0), none⟩,
    ⟨(some 4), .box 90 (.t 1), none⟩,
    ⟨(some 5), .box 74 (.t 2), none⟩,
    ⟨(some 6), .new 26 [(.int .i64 0), (.int .i64 0)], none⟩,
    ⟨(some 7), .mv (.c (.bool false)), none⟩]) (
  .seq (
  .ops [
    ⟨(some 16), .fad 0 (.t 3), none⟩,
    ⟨(some 17), .ld1 (.t 16), none⟩,
    ⟨(some 18), .ldN 2 (.t 5), none⟩,
    ⟨(some 19), .call (.c (.func (.func 53) [] [])) [(.t 17), (.t 18)], none⟩,
    ⟨(some 15), .mv (.t 19), none⟩,
    ⟨(some 20), .ext 0 (.t 15), none⟩,
    ⟨(some 21), .ext 1 (.t 15), none⟩,
    ⟨(some 8), .new 60 [(.int .i64 0), (.int .i64 0), (.int .i64 0)], none⟩,
    ⟨(some 9), .new 60 [(.int .i64 0), (.int .i64 0), (.int .i64 0)], none⟩,
    ⟨none, .st 3 (.t 8) (.t 20), none⟩,
    ⟨none, .st 3 (.t 9) (.t 21), none⟩]) (
  .seq (
  .ops [
    ⟨(some 22), .fad 0 (.t 4), none⟩,
    ⟨(some 23), .ldN 3 (.t 22), none⟩,
    ⟨(some 24), .ldN 3 (.t 8), none⟩,
    ⟨(some 25), .build [(.int .i64 0), (.int .i64 0), (.int .i64 0), (.int .i64 0), (.int .i64 0), (.int .i64 0)] [(0, 3, (.t 23)), (3, 3, (.t 24))], none⟩,
    ⟨(some 10), .new 124 [(.int .i64 0), (.int .i64 0), (.int .i64 0), (.int .i64 0), (.int .i64 0), (.int .i64 0)], none⟩,
    ⟨none, .st 6 (.t 10) (.t 25), none⟩]) (
  .seq (
  .ops [
    ⟨(some 27), .fad 1 (.t 3), none⟩,
    ⟨(some 28), .ld1 (.t 27), none⟩,
    ⟨(some 29), .ldN 6 (.t 10), none⟩,
    ⟨(some 30), .lkp 124 (.int .i64 0) true (.t 28) (.t 29), none⟩,
    ⟨(some 26), .mv (.t 30), none⟩,
    ⟨(some 31), .ext 0 (.t 26), none⟩,
    ⟨(some 32), .ext 1 (.t 26), none⟩,
    ⟨(some 11), .mv (.t 31), none⟩,
    ⟨(some 12), .mv (.t 32), none⟩]) (
  .seq (
  .seq (
  .ops [
    ⟨(some 33), .mv (.t 12), none⟩,
    ⟨(some 34), .un .not (.t 33), none⟩]) (
  .cond (.t 34) (
   .seq (
   .ops [
     ⟨(some 11), .mv (.c (.int .i64 (-1))), none⟩]) (
   .seq (
   .seq (
   .ops [
     ⟨(some 35), .fad 0 (.t 4), none⟩,
     ⟨(some 36), .ldN 3 (.t 35), none⟩,
     ⟨(some 37), .call (.c (.func (.func 15) [] [])) [(.t 36)], none⟩]) (
   .cond (.t 37) (
    .seq (
    .ops [
      ⟨(some 39), .fad 0 (.t 3), none⟩,
      ⟨(some 40), .ld1 (.t 39), none⟩,
      ⟨(some 41), .fad 0 (.t 4), none⟩,
      ⟨(some 42), .ldN 3 (.t 41), none⟩,
      ⟨(some 43), .ldN 3 (.t 8), none⟩,
      ⟨(some 44), .call (.c (.func (.func 16) [] [])) [(.t 40), (.t 42), (.t 43)], none⟩,
      ⟨(some 38), .mv (.t 44), none⟩,
      ⟨(some 45), .ext 0 (.t 38), none⟩,
      ⟨(some 46), .ext 1 (.t 38), none⟩,
      ⟨(some 13), .new 62 [(.slice none 0 true 0), (.int .i64 0)], none⟩,
      ⟨none, .st 2 (.t 13) (.t 45), none⟩,
      ⟨(some 14), .mv (.t 46), none⟩]) (
    .seq (
    .ops [
      ⟨(some 47), .mv (.t 14), none⟩]) (
    .cond (.t 47) (
     .ops [
       ⟨(some 48), .fad 1 (.t 13), none⟩,
       ⟨(some 49), .ld1 (.t 48), none⟩,
       ⟨(some 11), .mv (.t 49), none⟩]) (
     .skip)))) (
    .skip))) (
   .ops [
     ⟨(some 50), .fad 1 (.t 3), none⟩,
     ⟨(some 51), .ld1 (.t 50), none⟩,
     ⟨(some 52), .ldN 6 (.t 10), none⟩,
     ⟨(some 53), .mv (.t 11), none⟩,
     ⟨none, .mset 124 (.t 51) (.t 52) (.t 53), none⟩]))) (
   .skip))) (
  .seq (
  .seq (
  .ops [
    ⟨(some 54), .mv (.t 11), none⟩,
    ⟨(some 55), .bin .lss (.t 54) (.c (.int .i64 0)), none⟩]) (
  .cond (.t 55) (
   .seq (
   .ops [
     ⟨(some 56), .build [(.int .i64 0), (.int .i64 0)] [], none⟩,
     ⟨none, .st 2 (.t 6) (.t 56), none⟩,
     ⟨(some 7), .mv (.c (.bool false)), none⟩]) (
   .ret)) (
   .skip))) (
  .seq (
  .ops [
    ⟨(some 57), .fad 0 (.t 3), none⟩,
    ⟨(some 58), .ld1 (.t 57), none⟩,
    ⟨(some 59), .ldN 2 (.t 5), none⟩,
    ⟨(some 60), .fad 3 (.t 4), none⟩,
    ⟨(some 61), .ld1 (.t 60), none⟩,
    ⟨(some 62), .mv (.t 11), none⟩,
    ⟨(some 63), .bin .add (.t 61) (.t 62), none⟩,
    ⟨(some 64), .call (.c (.func (.func 50) [] [])) [(.t 58), (.t 59), (.t 63)], none⟩,
    ⟨(some 65), .ext 0 (.t 64), none⟩,
    ⟨(some 66), .ext 1 (.t 64), none⟩,
    ⟨none, .st 2 (.t 6) (.t 65), none⟩,
    ⟨(some 7), .mv (.t 66), none⟩]) (
  .ret))))))), [.cellN 6 2, .tmp 7]⟩
/-- slices.Clone[[]paravane/api.Shoot,paravane/api.Shoot] -/
def x31 : XF := ⟨8, .seq (
  .ops [
    ⟨(some 2), .mv (.c (.slice none 0 true 0)), none⟩]) (
  .seq (
  .seq (
  .ops [
    ⟨(some 3), .mv (.t 0), none⟩,
    ⟨(some 4), .eqg false 42 (.t 3) (.c (.slice none 0 true 0)), none⟩]) (
  .cond (.t 4) (
   .seq (
   .ops [
     ⟨(some 2), .mv (.c (.slice none 0 true 0)), none⟩]) (
   .ret)) (
   .skip))) (
  .seq (
  .ops [
    ⟨(some 5), .bsl 74 2 0 [(.int .i64 0), (.int .i64 0)] [], none⟩,
    ⟨(some 6), .mv (.t 0), none⟩,
    ⟨(some 7), .app 74 2 16 [(.int .i64 0), (.int .i64 0)] (.t 5) (.t 6), none⟩,
    ⟨(some 2), .mv (.t 7), none⟩]) (
  .ret))), [.tmp 2]⟩
/-- (paravane/course.plan).after -/
def x32 : XF := ⟨19, .seq (
  .ops [
    ⟨(some 3), .box 78 (.t 0), none⟩,
    ⟨(some 4), .box 74 (.t 1), none⟩,
    ⟨(some 6), .new 90 [(.int .i64 0), (.int .i64 0), (.int .i64 0), (.int .i64 0)], none⟩]) (
  .seq (
  .ops [
    ⟨(some 10), .fad 0 (.t 3), none⟩,
    ⟨(some 11), .ld1 (.t 10), none⟩,
    ⟨(some 12), .ldN 2 (.t 4), none⟩,
    ⟨(some 13), .call (.c (.func (.func 53) [] [])) [(.t 11), (.t 12)], none⟩,
    ⟨(some 9), .mv (.t 13), none⟩,
    ⟨(some 14), .ext 0 (.t 9), none⟩,
    ⟨(some 15), .ext 1 (.t 9), none⟩,
    ⟨(some 7), .new 60 [(.int .i64 0), (.int .i64 0), (.int .i64 0)], none⟩,
    ⟨(some 8), .new 60 [(.int .i64 0), (.int .i64 0), (.int .i64 0)], none⟩,
    ⟨none, .st 3 (.t 7) (.t 14), none⟩,
    ⟨none, .st 3 (.t 8) (.t 15), none⟩]) (
  .seq (
  .ops [
    ⟨(some 16), .ldN 3 (.t 8), none⟩,
    ⟨(some 17), .mv (.t 2), none⟩,
    ⟨(some 18), .build [(.int .i64 0), (.int .i64 0), (.int .i64 0), (.int .i64 0)] [(0, 3, (.t 16)), (3, 1, (.t 17))], none⟩,
    ⟨none, .st 4 (.t 6) (.t 18), none⟩]) (
  .ret))), [.cellN 6 4]⟩
/-- (paravane/course.plan).start -/
def x33 : XF := ⟨10, .seq (
  .ops [
    ⟨(some 1), .box 78 (.t 0), none⟩,
    ⟨(some 2), .new 90 [(.int .i64 0), (.int .i64 0), (.int .i64 0), (.int .i64 0)], none⟩]) (
  .seq (
  .ops [
    ⟨(some 3), .fad 0 (.t 1), none⟩,
    ⟨(some 4), .ld1 (.t 3), none⟩,
    ⟨(some 5), .nilc (.t 4), none⟩,
    ⟨(some 6), .fad 0 (.t 5), none⟩,
    ⟨(some 7), .fad 11 (.t 6), none⟩,
    ⟨(some 8), .ldN 3 (.t 7), none⟩,
    ⟨(some 9), .build [(.int .i64 0), (.int .i64 0), (.int .i64 0), (.int .i64 0)] [(0, 3, (.t 8)), (3, 1, (.c (.int .i64 0)))], none⟩,
    ⟨none, .st 4 (.t 2) (.t 9), none⟩]) (
  .ret)), [.cellN 2 4]⟩
/-- slices.ContainsFunc[[]int,int] -/
def x35 : XF := ⟨9, .seq (
  .ops [
    ⟨(some 4), .mv (.c (.bool false)), none⟩]) (
  .seq (
  .ops [
    ⟨(some 5), .mv (.t 0), none⟩,
    ⟨(some 6), .mv (.t 1), none⟩,
    ⟨(some 7), .call (.c (.func (.func 54) [] [])) [(.t 5), (.t 6)], none⟩,
    ⟨(some 8), .bin .geq (.t 7) (.c (.int .i64 0)), none⟩,
    ⟨(some 4), .mv (.t 8), none⟩]) (
  .ret)), [.tmp 4]⟩
/-- paravane/course.Proves$1 -/
def x36 : XF := ⟨6, .seq (
  .ops [
    ⟨(some 2), .mv (.c (.bool false)), none⟩]) (
  .seq (
  .ops [
    ⟨(some 3), .mv (.t 0), none⟩,
    ⟨(some 4), .call (.c (.func (.func 37) [] [])) [(.t 3), (.c (.int .i64 (-1))), (.c (.int .i64 4194304))], none⟩,
    ⟨(some 5), .un .not (.t 4), none⟩,
    ⟨(some 2), .mv (.t 5), none⟩]) (
  .ret)), [.tmp 2]⟩
/-- paravane/course.within -/
def x37 : XF := ⟨15, .seq (
  .ops [
    ⟨(some 6), .mv (.c (.bool false)), none⟩]) (
  .seq (
  .ops [
    ⟨(some 7), .mv (.t 0), none⟩,
    ⟨(some 8), .mv (.t 1), none⟩,
    ⟨(some 9), .bin .geq (.t 7) (.t 8), none⟩,
    ⟨(some 10), .mv (.t 9), none⟩,
    ⟨(some 11), .mv (.t 0), some (10, true)⟩,
    ⟨(some 12), .mv (.t 2), some (10, true)⟩,
    ⟨(some 13), .bin .leq (.t 11) (.t 12), some (10, true)⟩,
    ⟨(some 14), .pick (.t 10) (.t 13) (.c (.bool false)), none⟩,
    ⟨(some 6), .mv (.t 14), none⟩]) (
  .ret)), [.tmp 6]⟩
/-- paravane/course.first[int] -/
def x38 : XF := ⟨20, .seq (
  .ops [
    ⟨(some 3), .box 104 (.t 1), none⟩,
    ⟨(some 4), .new 3 [(.int .i64 0)], none⟩,
    ⟨(some 5), .new 4 [(.bool false)], none⟩]) (
  .seq (
  .seq (
  .ops [
    ⟨(some 7), .mv (.t 0), none⟩]) (
  .block 0 (
   .rfun (.t 7) [8] (
    .ops [
      ⟨(some 6), .mv (.t 8), none⟩]) (
    .block 1 (
     .seq (
     .ops [
       ⟨(some 9), .ld1 (.t 5), none⟩,
       ⟨(some 10), .un .not (.t 9), none⟩,
       ⟨(some 11), .mv (.t 10), none⟩,
       ⟨(some 12), .ld1 (.t 3), some (11, false)⟩,
       ⟨(some 13), .mv (.t 6), some (11, false)⟩,
       ⟨(some 14), .ld1 (.t 4), some (11, false)⟩,
       ⟨(some 15), .call (.t 12) [(.t 13), (.t 14)], some (11, false)⟩,
       ⟨(some 16), .pick (.t 11) (.c (.bool true)) (.t 15), none⟩]) (
     .cond (.t 16) (
      .ops [
        ⟨(some 17), .mv (.t 6), none⟩,
        ⟨none, .st 1 (.t 4) (.t 17), none⟩,
        ⟨none, .st 1 (.t 5) (.c (.bool true)), none⟩]) (
      .skip))))))) (
  .seq (
  .draw [
    (⟨(some 18), .ld1 (.t 4), none⟩, .reads 0 0),
    (⟨(some 19), .ld1 (.t 5), none⟩, .reads 0 1),
    (⟨none, .st 1 (.t 4) (.t 18), none⟩, .anchor),
    (⟨none, .st 1 (.t 5) (.t 19), none⟩, .anchor)]) (
  .ret))), [.cell1 4, .cell1 5]⟩
/-- (paravane/course.plan).earliest -/
def x39 : XF := ⟨10, .seq (
  .ops [
    ⟨(some 4), .box 78 (.t 0), none⟩,
    ⟨(some 5), .box 50 (.t 1), none⟩,
    ⟨(some 6), .box 3 (.t 2), none⟩,
    ⟨(some 7), .box 74 (.t 3), none⟩,
    ⟨(some 8), .mv (.c .nilFunc), none⟩]) (
  .seq (
  .ops [
    ⟨(some 9), .mkf 55 [] [(.t 4), (.t 5), (.t 6), (.t 7)], none⟩,
    ⟨(some 8), .mv (.t 9), none⟩]) (
  .ret)), [.tmp 8]⟩
/-- paravane/course.sooner -/
def x40 : XF := ⟨8, .seq (
  .ops [
    ⟨(some 4), .mv (.c (.bool false)), none⟩]) (
  .seq (
  .ops [
    ⟨(some 5), .mv (.t 0), none⟩,
    ⟨(some 6), .mv (.t 1), none⟩,
    ⟨(some 7), .bin .lss (.t 5) (.t 6), none⟩,
    ⟨(some 4), .mv (.t 7), none⟩]) (
  .ret)), [.tmp 4]⟩
/-- paravane/course.Proves$2 -/
def x41 : XF := ⟨11, .seq (
  .ops [
    ⟨(some 3), .mv (.c (.bool false)), none⟩]) (
  .seq (
  .ops [
    ⟨(some 4), .mv (.t 0), none⟩,
    ⟨(some 5), .bin .neq (.t 4) (.c (.int .i64 (-1))), none⟩,
    ⟨(some 6), .mv (.t 5), none⟩,
    ⟨(some 7), .mv (.t 0), some (6, true)⟩,
    ⟨(some 8), .ld1 (.t 1), some (6, true)⟩,
    ⟨(some 9), .bin .lss (.t 7) (.t 8), some (6, true)⟩,
    ⟨(some 10), .pick (.t 6) (.t 9) (.c (.bool false)), none⟩,
    ⟨(some 3), .mv (.t 10), none⟩]) (
  .ret)), [.tmp 3]⟩
/-- paravane/course.CheckCruise -/
def x42 : XF := ⟨6, .seq (
  .ops [
    ⟨(some 1), .box 35 (.t 0), none⟩,
    ⟨(some 2), .mv (.c (.int .i64 0)), none⟩]) (
  .seq (
  .seq (
  .ops [
    ⟨(some 3), .ldN 17 (.t 1), none⟩,
    ⟨(some 4), .call (.c (.func (.func 57) [] [])) [(.t 3)], none⟩,
    ⟨(some 5), .un .not (.t 4), none⟩]) (
  .cond (.t 5) (
   .seq (
   .ops [
     ⟨(some 2), .mv (.c (.int .i64 40)), none⟩]) (
   .ret)) (
   .skip))) (
  .seq (
  .ops [
    ⟨(some 2), .mv (.c (.int .i64 0)), none⟩]) (
  .ret))), [.tmp 2]⟩
/-- paravane/region.CheckPoint -/
def x43 : XF := ⟨18, .seq (
  .ops [
    ⟨(some 1), .box 30 (.t 0), none⟩,
    ⟨(some 2), .mv (.c (.int .i64 0)), none⟩]) (
  .seq (
  .seq (
  .ops [
    ⟨(some 5), .fad 0 (.t 1), none⟩,
    ⟨(some 6), .ld1 (.t 5), none⟩,
    ⟨(some 7), .fad 1 (.t 1), none⟩,
    ⟨(some 8), .ld1 (.t 7), none⟩,
    ⟨(some 9), .build [(.int .i64 0), (.int .i64 0)] [(0, 1, (.t 6)), (1, 1, (.t 8))], none⟩,
    ⟨(some 10), .mv (.c (.int .i64 0)), none⟩]) (
  .block 0 (
   .loop (
    .seq (
    .ops [
      ⟨(some 11), .bin .lss (.t 10) (.c (.int .i64 2)), none⟩]) (
    .seq (
    .cond (.t 11) (
     .skip) (
     .exit 0)) (
    .seq (
    .block 1 (
     .seq (
     .ops [
       ⟨(some 12), .idx 2 1 false (.t 9) (.t 10), none⟩,
       ⟨(some 4), .mv (.t 12), none⟩]) (
     .seq (
     .ops [
       ⟨(some 13), .mv (.t 4), none⟩,
       ⟨(some 14), .call (.c (.func (.func 58) [] [])) [(.c (.int .i64 32768)), (.t 13)], none⟩,
       ⟨(some 15), .mv (.t 4), none⟩,
       ⟨(some 16), .bin .neq (.t 14) (.t 15), none⟩]) (
     .cond (.t 16) (
      .seq (
      .ops [
        ⟨(some 2), .mv (.c (.int .i64 10)), none⟩]) (
      .ret)) (
      .skip))))) (
    .ops [
      ⟨(some 17), .bin .add (.t 10) (.c (.int .i64 1)), none⟩,
      ⟨(some 10), .mv (.t 17), none⟩]))))))) (
  .seq (
  .ops [
    ⟨(some 2), .mv (.c (.int .i64 0)), none⟩]) (
  .ret))), [.tmp 2]⟩
/-- paravane/course.first[paravane/course.passage] -/
def x44 : XF := ⟨20, .seq (
  .ops [
    ⟨(some 3), .box 110 (.t 1), none⟩,
    ⟨(some 4), .new 62 [(.slice none 0 true 0), (.int .i64 0)], none⟩,
    ⟨(some 5), .new 4 [(.bool false)], none⟩]) (
  .seq (
  .seq (
  .ops [
    ⟨(some 7), .mv (.t 0), none⟩]) (
  .block 0 (
   .rfun (.t 7) [8] (
    .ops [
      ⟨(some 6), .new 62 [(.slice none 0 true 0), (.int .i64 0)], none⟩,
      ⟨none, .st 2 (.t 6) (.t 8), none⟩]) (
    .block 1 (
     .seq (
     .ops [
       ⟨(some 9), .ld1 (.t 5), none⟩,
       ⟨(some 10), .un .not (.t 9), none⟩,
       ⟨(some 11), .mv (.t 10), none⟩,
       ⟨(some 12), .ld1 (.t 3), some (11, false)⟩,
       ⟨(some 13), .ldN 2 (.t 6), some (11, false)⟩,
       ⟨(some 14), .ldN 2 (.t 4), some (11, false)⟩,
       ⟨(some 15), .call (.t 12) [(.t 13), (.t 14)], some (11, false)⟩,
       ⟨(some 16), .pick (.t 11) (.c (.bool true)) (.t 15), none⟩]) (
     .cond (.t 16) (
      .ops [
        ⟨(some 17), .ldN 2 (.t 6), none⟩,
        ⟨none, .st 2 (.t 4) (.t 17), none⟩,
        ⟨none, .st 1 (.t 5) (.c (.bool true)), none⟩]) (
      .skip))))))) (
  .seq (
  .draw [
    (⟨(some 18), .ldN 2 (.t 4), none⟩, .reads 0 0),
    (⟨(some 19), .ld1 (.t 5), none⟩, .reads 0 1),
    (⟨none, .st 2 (.t 4) (.t 18), none⟩, .anchor),
    (⟨none, .st 1 (.t 5) (.t 19), none⟩, .anchor)]) (
  .ret))), [.cellN 4 2, .cell1 5]⟩
/-- (*paravane/course.chart).passages -/
def x45 : XF := ⟨8, .seq (
  .ops [
    ⟨(some 3), .box 57 (.t 0), none⟩,
    ⟨(some 4), .box 60 (.t 1), none⟩,
    ⟨(some 5), .box 60 (.t 2), none⟩,
    ⟨(some 6), .mv (.c .nilFunc), none⟩]) (
  .seq (
  .ops [
    ⟨(some 7), .mkf 59 [] [(.t 3), (.t 4), (.t 5)], none⟩,
    ⟨(some 6), .mv (.t 7), none⟩]) (
  .ret)), [.tmp 6]⟩
/-- (paravane/course.passage).less -/
def x46 : XF := ⟨37, .seq (
  .ops [
    ⟨(some 2), .box 62 (.t 0), none⟩,
    ⟨(some 3), .box 62 (.t 1), none⟩,
    ⟨(some 4), .mv (.c (.bool false)), none⟩]) (
  .seq (
  .block 0 (
   .seq (
   .ops [
     ⟨(some 6), .fad 1 (.t 2), none⟩,
     ⟨(some 7), .ld1 (.t 6), none⟩,
     ⟨(some 8), .fad 1 (.t 3), none⟩,
     ⟨(some 9), .ld1 (.t 8), none⟩,
     ⟨(some 10), .bin .neq (.t 7) (.t 9), none⟩,
     ⟨(some 5), .mv (.t 10), none⟩]) (
   .cond (.t 5) (
    .seq (
    .ops [
      ⟨(some 11), .fad 1 (.t 2), none⟩,
      ⟨(some 12), .ld1 (.t 11), none⟩,
      ⟨(some 13), .fad 1 (.t 3), none⟩,
      ⟨(some 14), .ld1 (.t 13), none⟩,
      ⟨(some 15), .bin .lss (.t 12) (.t 14), none⟩,
      ⟨(some 4), .mv (.t 15), none⟩]) (
    .ret)) (
    .seq (
    .ops [
      ⟨(some 17), .fad 0 (.t 2), none⟩,
      ⟨(some 18), .ld1 (.t 17), none⟩,
      ⟨(some 19), .len .sl (.t 18), none⟩,
      ⟨(some 20), .fad 0 (.t 3), none⟩,
      ⟨(some 21), .ld1 (.t 20), none⟩,
      ⟨(some 22), .len .sl (.t 21), none⟩,
      ⟨(some 23), .bin .neq (.t 19) (.t 22), none⟩,
      ⟨(some 16), .mv (.t 23), none⟩]) (
    .cond (.t 16) (
     .seq (
     .ops [
       ⟨(some 24), .fad 0 (.t 2), none⟩,
       ⟨(some 25), .ld1 (.t 24), none⟩,
       ⟨(some 26), .len .sl (.t 25), none⟩,
       ⟨(some 27), .fad 0 (.t 3), none⟩,
       ⟨(some 28), .ld1 (.t 27), none⟩,
       ⟨(some 29), .len .sl (.t 28), none⟩,
       ⟨(some 30), .bin .lss (.t 26) (.t 29), none⟩,
       ⟨(some 4), .mv (.t 30), none⟩]) (
     .ret)) (
     .skip)))))) (
  .seq (
  .ops [
    ⟨(some 31), .fad 0 (.t 2), none⟩,
    ⟨(some 32), .ld1 (.t 31), none⟩,
    ⟨(some 33), .fad 0 (.t 3), none⟩,
    ⟨(some 34), .ld1 (.t 33), none⟩,
    ⟨(some 35), .call (.c (.func (.func 64) [] [])) [(.t 32), (.t 34), (.c (.func (.func 65) [] []))], none⟩,
    ⟨(some 36), .bin .lss (.t 35) (.c (.int .i64 0)), none⟩,
    ⟨(some 4), .mv (.t 36), none⟩]) (
  .ret))), [.tmp 4]⟩
/-- (*paravane/course.chart).steps -/
def x48 : XF := ⟨61, .seq (
  .ops [
    ⟨(some 3), .box 115 (.t 1), none⟩,
    ⟨(some 4), .mv (.c (.int .i64 0)), none⟩]) (
  .seq (
  .draw [
    (⟨(some 9), .fad 2 (.t 3), none⟩, .calm),
    (⟨(some 10), .fad 0 (.t 9), none⟩, .calm),
    (⟨(some 11), .ld1 (.t 10), none⟩, .reads 0 0),
    (⟨(some 12), .fad 0 (.t 3), none⟩, .calm),
    (⟨(some 13), .fad 0 (.t 12), none⟩, .calm),
    (⟨(some 14), .ld1 (.t 13), none⟩, .reads 0 0),
    (⟨(some 15), .bin .sub (.t 11) (.t 14), none⟩, .calm),
    (⟨(some 16), .fad 2 (.t 3), none⟩, .calm),
    (⟨(some 17), .fad 1 (.t 16), none⟩, .calm),
    (⟨(some 18), .ld1 (.t 17), none⟩, .reads 0 0),
    (⟨(some 19), .fad 0 (.t 3), none⟩, .calm),
    (⟨(some 20), .fad 1 (.t 19), none⟩, .calm),
    (⟨(some 21), .ld1 (.t 20), none⟩, .reads 0 0),
    (⟨(some 22), .bin .sub (.t 18) (.t 21), none⟩, .calm),
    (⟨(some 5), .mv (.t 15), none⟩, .calm),
    (⟨(some 6), .mv (.t 22), none⟩, .calm)]) (
  .seq (
  .ops [
    ⟨(some 24), .mv (.t 5), none⟩,
    ⟨(some 25), .mv (.t 5), none⟩,
    ⟨(some 26), .bin .mul (.t 24) (.t 25), none⟩,
    ⟨(some 27), .mv (.t 6), none⟩,
    ⟨(some 28), .mv (.t 6), none⟩,
    ⟨(some 29), .bin .mul (.t 27) (.t 28), none⟩,
    ⟨(some 30), .bin .add (.t 26) (.t 29), none⟩,
    ⟨(some 31), .call (.c (.func (.func 66) [] [])) [(.t 30)], none⟩,
    ⟨(some 23), .mv (.t 31), none⟩,
    ⟨(some 32), .ext 0 (.t 23), none⟩,
    ⟨(some 33), .ext 1 (.t 23), none⟩,
    ⟨(some 7), .mv (.t 32), none⟩,
    ⟨(some 8), .mv (.t 33), none⟩]) (
  .seq (
  .seq (
  .ops [
    ⟨(some 34), .mv (.t 7), none⟩,
    ⟨(some 35), .mv (.t 7), none⟩,
    ⟨(some 36), .bin .mul (.t 34) (.t 35), none⟩,
    ⟨(some 37), .mv (.t 5), none⟩,
    ⟨(some 38), .mv (.t 5), none⟩,
    ⟨(some 39), .bin .mul (.t 37) (.t 38), none⟩,
    ⟨(some 40), .mv (.t 6), none⟩,
    ⟨(some 41), .mv (.t 6), none⟩,
    ⟨(some 42), .bin .mul (.t 40) (.t 41), none⟩,
    ⟨(some 43), .bin .add (.t 39) (.t 42), none⟩,
    ⟨(some 44), .bin .lss (.t 36) (.t 43), none⟩]) (
  .cond (.t 44) (
   .ops [
     ⟨(some 45), .mv (.t 7), none⟩,
     ⟨(some 46), .bin .add (.t 45) (.c (.int .i64 1)), none⟩,
     ⟨(some 7), .mv (.t 46), none⟩]) (
   .skip))) (
  .seq (
  .draw [
    (⟨(some 47), .mv (.t 7), none⟩, .calm),
    (⟨(some 48), .mv (.t 0), none⟩, .calm),
    (⟨(some 49), .nilc (.t 48), none⟩, .calm),
    (⟨(some 50), .fad 0 (.t 49), none⟩, .calm),
    (⟨(some 51), .fad 14 (.t 50), none⟩, .calm),
    (⟨(some 52), .ld1 (.t 51), none⟩, .reads 0 0),
    (⟨(some 53), .bin .add (.t 47) (.t 52), none⟩, .calm),
    (⟨(some 54), .bin .sub (.t 53) (.c (.int .i64 1)), none⟩, .calm),
    (⟨(some 55), .mv (.t 0), none⟩, .calm),
    (⟨(some 56), .nilc (.t 55), none⟩, .calm),
    (⟨(some 57), .fad 0 (.t 56), none⟩, .calm),
    (⟨(some 58), .fad 14 (.t 57), none⟩, .calm),
    (⟨(some 59), .ld1 (.t 58), none⟩, .reads 0 0),
    (⟨(some 60), .bin .quo (.t 54) (.t 59), none⟩, .calm),
    (⟨(some 4), .mv (.t 60), none⟩, .calm)]) (
  .ret))))), [.tmp 4]⟩
/-- paravane/course.turned -/
def x49 : XF := ⟨15, .seq (
  .ops [
    ⟨(some 4), .mv (.c (.int .i64 0)), none⟩]) (
  .seq (
  .ops [
    ⟨(some 6), .mv (.t 1), none⟩,
    ⟨(some 7), .mv (.t 0), none⟩,
    ⟨(some 8), .bin .sub (.t 6) (.t 7), none⟩,
    ⟨(some 9), .bin .add (.t 8) (.c (.int .i64 8)), none⟩,
    ⟨(some 10), .bin .rem (.t 9) (.c (.int .i64 8)), none⟩,
    ⟨(some 5), .mv (.t 10), none⟩]) (
  .seq (
  .ops [
    ⟨(some 11), .mv (.t 5), none⟩,
    ⟨(some 12), .mv (.t 5), none⟩,
    ⟨(some 13), .bin .sub (.c (.int .i64 8)) (.t 12), none⟩,
    ⟨(some 14), .min [(.t 11), (.t 13)], none⟩,
    ⟨(some 4), .mv (.t 14), none⟩]) (
  .ret))), [.tmp 4]⟩
/-- (*paravane/course.chart).shot -/
def x50 : XF := ⟨55, .seq (
  .ops [
    ⟨(some 4), .box 74 (.t 1), none⟩,
    ⟨(some 6), .new 26 [(.int .i64 0), (.int .i64 0)], none⟩,
    ⟨(some 7), .mv (.c (.bool false)), none⟩]) (
  .seq (
  .ops [
    ⟨(some 13), .mv (.t 0), none⟩,
    ⟨(some 14), .ldN 2 (.t 4), none⟩,
    ⟨(some 15), .call (.c (.func (.func 67) [] [])) [(.t 13), (.t 14)], none⟩,
    ⟨(some 8), .new 115 [(.int .i64 0), (.int .i64 0), (.int .i64 0), (.int .i64 0)], none⟩,
    ⟨none, .st 4 (.t 8) (.t 15), none⟩]) (
  .seq (
  .seq (
  .ops [
    ⟨(some 16), .mv (.t 0), none⟩,
    ⟨(some 17), .ldN 4 (.t 8), none⟩,
    ⟨(some 18), .call (.c (.func (.func 51) [] [])) [(.t 16), (.t 17)], none⟩,
    ⟨(some 19), .un .not (.t 18), none⟩]) (
  .cond (.t 19) (
   .seq (
   .ops [
     ⟨(some 20), .build [(.int .i64 0), (.int .i64 0)] [], none⟩,
     ⟨none, .st 2 (.t 6) (.t 20), none⟩,
     ⟨(some 7), .mv (.c (.bool false)), none⟩]) (
   .ret)) (
   .skip))) (
  .seq (
  .ops [
    ⟨(some 21), .mv (.t 0), none⟩,
    ⟨(some 22), .ldN 4 (.t 8), none⟩,
    ⟨(some 23), .call (.c (.func (.func 48) [] [])) [(.t 21), (.t 22)], none⟩,
    ⟨(some 9), .mv (.t 23), none⟩]) (
  .seq (
  .seq (
  .draw [
    (⟨(some 24), .mv (.t 0), none⟩, .calm),
    (⟨(some 25), .nilc (.t 24), none⟩, .calm),
    (⟨(some 26), .fad 0 (.t 25), none⟩, .calm),
    (⟨(some 27), .fad 16 (.t 26), none⟩, .calm),
    (⟨(some 28), .ld1 (.t 27), none⟩, .reads 0 0),
    (⟨(some 29), .fad 0 (.t 4), none⟩, .calm),
    (⟨(some 30), .ld1 (.t 29), none⟩, .reads 0 0),
    (⟨(some 31), .iad none 1 (.t 28) (.t 30), none⟩, .calm),
    (⟨(some 32), .ld1 (.t 31), none⟩, .reads 0 0),
    (⟨(some 33), .len .sl (.t 32), none⟩, .calm),
    (⟨(some 34), .mv (.c (.int .i64 0)), none⟩, .calm)]) (
  .block 0 (
   .loop (
    .seq (
    .ops [
      ⟨(some 35), .bin .lss (.t 34) (.t 33), none⟩]) (
    .seq (
    .cond (.t 35) (
     .skip) (
     .exit 0)) (
    .seq (
    .block 1 (
     .seq (
     .ops [
       ⟨(some 36), .iad none 2 (.t 32) (.t 34), none⟩,
       ⟨(some 37), .ldN 2 (.t 36), none⟩,
       ⟨(some 11), .new 26 [(.int .i64 0), (.int .i64 0)], none⟩,
       ⟨none, .st 2 (.t 11) (.t 37), none⟩]) (
     .seq (
     .ops [
       ⟨(some 38), .mv (.t 2), none⟩,
       ⟨(some 39), .fad 0 (.t 11), none⟩,
       ⟨(some 40), .ld1 (.t 39), none⟩,
       ⟨(some 41), .max [(.t 38), (.t 40)], none⟩,
       ⟨(some 12), .mv (.t 41), none⟩]) (
     .seq (
     .ops [
       ⟨(some 42), .mv (.t 12), none⟩,
       ⟨(some 43), .mv (.t 9), none⟩,
       ⟨(some 44), .bin .add (.t 42) (.t 43), none⟩,
       ⟨(some 45), .fad 1 (.t 11), none⟩,
       ⟨(some 46), .ld1 (.t 45), none⟩,
       ⟨(some 47), .bin .leq (.t 44) (.t 46), none⟩]) (
     .cond (.t 47) (
      .seq (
      .ops [
        ⟨(some 48), .mv (.t 12), none⟩,
        ⟨(some 49), .mv (.t 12), none⟩,
        ⟨(some 50), .mv (.t 9), none⟩,
        ⟨(some 51), .bin .add (.t 49) (.t 50), none⟩,
        ⟨(some 52), .build [(.int .i64 0), (.int .i64 0)] [(0, 1, (.t 48)), (1, 1, (.t 51))], none⟩,
        ⟨none, .st 2 (.t 6) (.t 52), none⟩,
        ⟨(some 7), .mv (.c (.bool true)), none⟩]) (
      .ret)) (
      .skip)))))) (
    .ops [
      ⟨(some 53), .bin .add (.t 34) (.c (.int .i64 1)), none⟩,
      ⟨(some 34), .mv (.t 53), none⟩]))))))) (
  .seq (
  .ops [
    ⟨(some 54), .build [(.int .i64 0), (.int .i64 0)] [], none⟩,
    ⟨none, .st 2 (.t 6) (.t 54), none⟩,
    ⟨(some 7), .mv (.c (.bool false)), none⟩]) (
  .ret)))))), [.cellN 6 2, .tmp 7]⟩
/-- (*paravane/course.chart).clear -/
def x51 : XF := ⟨52, .seq (
  .ops [
    ⟨(some 3), .box 115 (.t 1), none⟩,
    ⟨(some 4), .mv (.c (.bool false)), none⟩]) (
  .seq (
  .draw [
    (⟨(some 10), .mv (.t 0), none⟩, .calm),
    (⟨(some 11), .nilc (.t 10), none⟩, .calm),
    (⟨(some 12), .fad 17 (.t 11), none⟩, .calm),
    (⟨(some 13), .ld1 (.t 12), none⟩, .reads 0 0),
    (⟨(some 14), .ldN 4 (.t 3), none⟩, .reads 0 0),
    (⟨(some 15), .lkp 115 (.bool false) true (.t 13) (.t 14), none⟩, .reads 0 0),
    (⟨(some 9), .mv (.t 15), none⟩, .calm),
    (⟨(some 16), .ext 0 (.t 9), none⟩, .calm),
    (⟨(some 17), .ext 1 (.t 9), none⟩, .calm),
    (⟨(some 5), .mv (.t 16), none⟩, .calm),
    (⟨(some 6), .mv (.t 17), none⟩, .calm)]) (
  .seq (
  .seq (
  .ops [
    ⟨(some 18), .mv (.t 6), none⟩,
    ⟨(some 19), .un .not (.t 18), none⟩]) (
  .cond (.t 19) (
   .seq (
   .draw [
     (⟨(some 21), .mv (.t 0), none⟩, .calm),
     (⟨(some 22), .nilc (.t 21), none⟩, .calm),
     (⟨(some 23), .fad 0 (.t 22), none⟩, .calm),
     (⟨(some 24), .fad 3 (.t 23), none⟩, .calm),
     (⟨(some 25), .ldN 8 (.t 24), none⟩, .reads 0 0),
     (⟨(some 26), .fad 0 (.t 3), none⟩, .calm),
     (⟨(some 27), .ldN 2 (.t 26), none⟩, .reads 0 0),
     (⟨(some 28), .fad 2 (.t 3), none⟩, .calm),
     (⟨(some 29), .ldN 2 (.t 28), none⟩, .reads 0 0),
     (⟨(some 30), .call (.c (.func (.func 68) [] [])) [(.t 25), (.t 27), (.t 29)], none⟩, .anchor),
     (⟨(some 20), .mv (.t 30), none⟩, .calm),
     (⟨(some 31), .ext 0 (.t 20), none⟩, .calm),
     (⟨(some 32), .ext 1 (.t 20), none⟩, .calm),
     (⟨(some 7), .new 28 [(.int .i64 0), (.int .i64 0), (.int .i64 0), (.int .i64 0), (.int .i64 0), (.int .i64 0), (.int .i64 0), (.int .i64 0)], none⟩, .new),
     (⟨none, .st 8 (.t 7) (.t 31), none⟩, .anchor),
     (⟨(some 8), .mv (.t 32), none⟩, .calm)]) (
   .seq (
   .ops [
     ⟨(some 33), .mv (.t 8), none⟩,
     ⟨(some 34), .bin .eql (.t 33) (.c (.int .i64 0)), none⟩,
     ⟨(some 35), .mv (.t 34), none⟩,
     ⟨(some 36), .mv (.t 0), some (35, true)⟩,
     ⟨(some 37), .nilc (.t 36), some (35, true)⟩,
     ⟨(some 38), .fad 0 (.t 37), some (35, true)⟩,
     ⟨(some 39), .fad 1 (.t 38), some (35, true)⟩,
     ⟨(some 40), .ld1 (.t 39), some (35, true)⟩,
     ⟨(some 41), .mkf 70 [] [(.t 7)], some (35, true)⟩,
     ⟨(some 42), .call (.c (.func (.func 69) [] [])) [(.t 40), (.t 41)], some (35, true)⟩,
     ⟨(some 43), .un .not (.t 42), some (35, true)⟩,
     ⟨(some 44), .pick (.t 35) (.t 43) (.c (.bool false)), none⟩,
     ⟨(some 5), .mv (.t 44), none⟩]) (
   .draw [
     (⟨(some 45), .mv (.t 0), none⟩, .calm),
     (⟨(some 46), .nilc (.t 45), none⟩, .calm),
     (⟨(some 47), .fad 17 (.t 46), none⟩, .calm),
     (⟨(some 48), .ld1 (.t 47), none⟩, .reads 0 0),
     (⟨(some 49), .ldN 4 (.t 3), none⟩, .reads 0 0),
     (⟨(some 50), .mv (.t 5), none⟩, .calm),
     (⟨none, .mset 115 (.t 48) (.t 49) (.t 50), none⟩, .anchor)]))) (
   .skip))) (
  .seq (
  .ops [
    ⟨(some 51), .mv (.t 5), none⟩,
    ⟨(some 4), .mv (.t 51), none⟩]) (
  .ret)))), [.tmp 4]⟩
/-- (paravane/course.plan).shoots$1 -/
def x52 : XF := ⟨34, .seq (
  .ops [
    ⟨(some 6), .fad 0 (.t 1), none⟩,
    ⟨(some 7), .ld1 (.t 6), none⟩,
    ⟨(some 8), .nilc (.t 7), none⟩,
    ⟨(some 9), .fad 0 (.t 8), none⟩,
    ⟨(some 10), .fad 0 (.t 9), none⟩,
    ⟨(some 11), .ld1 (.t 10), none⟩,
    ⟨(some 12), .len .sl (.t 11), none⟩,
    ⟨(some 13), .mv (.c (.int .i64 0)), none⟩]) (
  .block 0 (
   .loop (
    .seq (
    .ops [
      ⟨(some 14), .bin .lss (.t 13) (.t 12), none⟩]) (
    .seq (
    .cond (.t 14) (
     .skip) (
     .exit 0)) (
    .seq (
    .block 1 (
     .seq (
     .ops [
       ⟨(some 15), .mv (.t 13), none⟩,
       ⟨(some 4), .mv (.t 15), none⟩]) (
     .seq (
     .ops [
       ⟨(some 16), .mv (.c (.int .i64 0)), none⟩]) (
     .block 2 (
      .loop (
       .seq (
       .ops [
         ⟨(some 17), .bin .lss (.t 16) (.c (.int .i64 2)), none⟩]) (
       .seq (
       .cond (.t 17) (
        .skip) (
        .exit 2)) (
       .seq (
       .block 3 (
        .seq (
        .ops [
          ⟨(some 18), .mv (.t 16), none⟩,
          ⟨(some 5), .mv (.t 18), none⟩]) (
        .seq (
        .draw [
          (⟨(some 19), .ld1 (.t 2), none⟩, .reads 0 0),
          (⟨(some 20), .mv (.t 4), none⟩, .calm),
          (⟨(some 21), .bin .shl (.c (.int .i64 1)) (.t 20), none⟩, .calm),
          (⟨(some 22), .bin .and (.t 19) (.t 21), none⟩, .calm),
          (⟨(some 23), .bin .neq (.t 22) (.c (.int .i64 0)), none⟩, .calm),
          (⟨(some 24), .mv (.t 23), none⟩, .calm),
          (⟨(some 25), .mv (.t 0), some (24, true)⟩, .calm),
          (⟨(some 26), .mv (.t 4), some (24, true)⟩, .calm),
          (⟨(some 27), .mv (.t 5), some (24, true)⟩, .calm),
          (⟨(some 28), .build [(.int .i64 0), (.int .i64 0)] [(0, 1, (.t 26)), (1, 1, (.t 27))], some (24, true)⟩, .calm),
          (⟨(some 29), .call (.t 25) [(.t 28)], some (24, true)⟩, .anchor),
          (⟨(some 30), .un .not (.t 29), some (24, true)⟩, .calm),
          (⟨(some 31), .pick (.t 24) (.t 30) (.c (.bool false)), none⟩, .calm)]) (
        .cond (.t 31) (
         .ret) (
         .skip))))) (
       .ops [
         ⟨(some 32), .bin .add (.t 16) (.c (.int .i64 1)), none⟩,
         ⟨(some 16), .mv (.t 32), none⟩]))))))))) (
    .ops [
      ⟨(some 33), .bin .add (.t 13) (.c (.int .i64 1)), none⟩,
      ⟨(some 13), .mv (.t 33), none⟩])))))), []⟩
/-- (*paravane/course.chart).ends -/
def x53 : XF := ⟨35, .seq (
  .ops [
    ⟨(some 3), .box 74 (.t 1), none⟩,
    ⟨(some 4), .new 60 [(.int .i64 0), (.int .i64 0), (.int .i64 0)], none⟩,
    ⟨(some 5), .new 60 [(.int .i64 0), (.int .i64 0), (.int .i64 0)], none⟩]) (
  .seq (
  .ops [
    ⟨(some 8), .mv (.t 0), none⟩,
    ⟨(some 9), .ldN 2 (.t 3), none⟩,
    ⟨(some 10), .call (.c (.func (.func 67) [] [])) [(.t 8), (.t 9)], none⟩,
    ⟨(some 6), .new 115 [(.int .i64 0), (.int .i64 0), (.int .i64 0), (.int .i64 0)], none⟩,
    ⟨none, .st 4 (.t 6) (.t 10), none⟩]) (
  .seq (
  .ops [
    ⟨(some 11), .fad 2 (.t 6), none⟩,
    ⟨(some 12), .fad 0 (.t 11), none⟩,
    ⟨(some 13), .ld1 (.t 12), none⟩,
    ⟨(some 14), .fad 0 (.t 6), none⟩,
    ⟨(some 15), .fad 0 (.t 14), none⟩,
    ⟨(some 16), .ld1 (.t 15), none⟩,
    ⟨(some 17), .bin .sub (.t 13) (.t 16), none⟩,
    ⟨(some 18), .fad 2 (.t 6), none⟩,
    ⟨(some 19), .fad 1 (.t 18), none⟩,
    ⟨(some 20), .ld1 (.t 19), none⟩,
    ⟨(some 21), .fad 0 (.t 6), none⟩,
    ⟨(some 22), .fad 1 (.t 21), none⟩,
    ⟨(some 23), .ld1 (.t 22), none⟩,
    ⟨(some 24), .bin .sub (.t 20) (.t 23), none⟩,
    ⟨(some 25), .build [(.int .i64 0), (.int .i64 0)] [(0, 1, (.t 17)), (1, 1, (.t 24))], none⟩,
    ⟨(some 26), .call (.c (.func (.func 21) [] [])) [(.t 25)], none⟩,
    ⟨(some 7), .mv (.t 26), none⟩]) (
  .seq (
  .draw [
    (⟨(some 27), .fad 0 (.t 6), none⟩, .calm),
    (⟨(some 28), .ldN 2 (.t 27), none⟩, .reads 0 0),
    (⟨(some 29), .mv (.t 7), none⟩, .calm),
    (⟨(some 30), .build [(.int .i64 0), (.int .i64 0), (.int .i64 0)] [(0, 2, (.t 28)), (2, 1, (.t 29))], none⟩, .calm),
    (⟨(some 31), .fad 2 (.t 6), none⟩, .calm),
    (⟨(some 32), .ldN 2 (.t 31), none⟩, .reads 0 1),
    (⟨(some 33), .mv (.t 7), none⟩, .calm),
    (⟨(some 34), .build [(.int .i64 0), (.int .i64 0), (.int .i64 0)] [(0, 2, (.t 32)), (2, 1, (.t 33))], none⟩, .calm),
    (⟨none, .st 3 (.t 4) (.t 30), none⟩, .anchor),
    (⟨none, .st 3 (.t 5) (.t 34), none⟩, .anchor)]) (
  .ret)))), [.cellN 4 3, .cellN 5 3]⟩
/-- slices.IndexFunc[[]int,int] -/
def x54 : XF := ⟨19, .seq (
  .ops [
    ⟨(some 4), .mv (.c (.int .i64 0)), none⟩]) (
  .seq (
  .seq (
  .ops [
    ⟨(some 6), .mv (.t 0), none⟩,
    ⟨(some 7), .len .sl (.t 6), none⟩,
    ⟨(some 8), .mv (.c (.int .i64 0)), none⟩]) (
  .block 0 (
   .loop (
    .seq (
    .ops [
      ⟨(some 9), .bin .lss (.t 8) (.t 7), none⟩]) (
    .seq (
    .cond (.t 9) (
     .skip) (
     .exit 0)) (
    .seq (
    .block 1 (
     .seq (
     .ops [
       ⟨(some 10), .mv (.t 8), none⟩,
       ⟨(some 5), .mv (.t 10), none⟩]) (
     .seq (
     .ops [
       ⟨(some 11), .mv (.t 1), none⟩,
       ⟨(some 12), .mv (.t 0), none⟩,
       ⟨(some 13), .mv (.t 5), none⟩,
       ⟨(some 14), .iad none 1 (.t 12) (.t 13), none⟩,
       ⟨(some 15), .ld1 (.t 14), none⟩,
       ⟨(some 16), .call (.t 11) [(.t 15)], none⟩]) (
     .cond (.t 16) (
      .seq (
      .ops [
        ⟨(some 17), .mv (.t 5), none⟩,
        ⟨(some 4), .mv (.t 17), none⟩]) (
      .ret)) (
      .skip))))) (
    .ops [
      ⟨(some 18), .bin .add (.t 8) (.c (.int .i64 1)), none⟩,
      ⟨(some 8), .mv (.t 18), none⟩]))))))) (
  .seq (
  .ops [
    ⟨(some 4), .mv (.c (.int .i64 (-1))), none⟩]) (
  .ret))), [.tmp 4]⟩
/-- (paravane/course.plan).earliest$1 -/
def x55 : XF := ⟨30, .seq (
  .ops [
    ⟨(some 5), .box 99 (.t 0), none⟩]) (
  .seq (
  .ops [
    ⟨(some 9), .ldN 2 (.t 1), none⟩,
    ⟨(some 10), .ld1 (.t 2), none⟩,
    ⟨(some 11), .ld1 (.t 3), none⟩,
    ⟨(some 12), .ldN 2 (.t 4), none⟩,
    ⟨(some 13), .call (.c (.func (.func 56) [] [])) [(.t 9), (.t 10), (.t 11), (.t 12)], none⟩]) (
  .block 0 (
   .rfun (.t 13) [14] (
    .ops [
      ⟨(some 6), .new 90 [(.int .i64 0), (.int .i64 0), (.int .i64 0), (.int .i64 0)], none⟩,
      ⟨none, .st 4 (.t 6) (.t 14), none⟩]) (
    .block 1 (
     .seq (
     .ops [
       ⟨(some 16), .ldN 2 (.t 1), none⟩,
       ⟨(some 17), .ldN 4 (.t 6), none⟩,
       ⟨(some 18), .ldN 2 (.t 4), none⟩,
       ⟨(some 19), .call (.c (.func (.func 30) [] [])) [(.t 16), (.t 17), (.t 18)], none⟩,
       ⟨(some 15), .mv (.t 19), none⟩,
       ⟨(some 20), .ext 0 (.t 15), none⟩,
       ⟨(some 21), .ext 1 (.t 15), none⟩,
       ⟨(some 7), .new 26 [(.int .i64 0), (.int .i64 0)], none⟩,
       ⟨none, .st 2 (.t 7) (.t 20), none⟩,
       ⟨(some 8), .mv (.t 21), none⟩]) (
     .seq (
     .ops [
       ⟨(some 22), .mv (.t 8), none⟩,
       ⟨(some 23), .mv (.t 22), none⟩,
       ⟨(some 24), .ld1 (.t 5), some (23, true)⟩,
       ⟨(some 25), .fad 1 (.t 7), some (23, true)⟩,
       ⟨(some 26), .ld1 (.t 25), some (23, true)⟩,
       ⟨(some 27), .call (.t 24) [(.t 26)], some (23, true)⟩,
       ⟨(some 28), .un .not (.t 27), some (23, true)⟩,
       ⟨(some 29), .pick (.t 23) (.t 28) (.c (.bool false)), none⟩]) (
     .cond (.t 29) (
      .ret) (
      .skip)))))))), []⟩
/-- (paravane/course.plan).before -/
def x56 : XF := ⟨10, .seq (
  .ops [
    ⟨(some 4), .box 78 (.t 0), none⟩,
    ⟨(some 5), .box 50 (.t 1), none⟩,
    ⟨(some 6), .box 3 (.t 2), none⟩,
    ⟨(some 7), .box 74 (.t 3), none⟩,
    ⟨(some 8), .mv (.c .nilFunc), none⟩]) (
  .seq (
  .ops [
    ⟨(some 9), .mkf 72 [] [(.t 6), (.t 7), (.t 4), (.t 5)], none⟩,
    ⟨(some 8), .mv (.t 9), none⟩]) (
  .ret)), [.tmp 8]⟩
/-- paravane/course.cruise -/
def x57 : XF := ⟨121, .seq (
  .ops [
    ⟨(some 1), .box 35 (.t 0), none⟩,
    ⟨(some 2), .mv (.c (.bool false)), none⟩]) (
  .seq (
  .seq (
  .ops [
    ⟨(some 7), .fad 0 (.t 1), none⟩,
    ⟨(some 8), .ld1 (.t 7), none⟩,
    ⟨(some 9), .len .sl (.t 8), none⟩,
    ⟨(some 10), .call (.c (.func (.func 37) [] [])) [(.t 9), (.c (.int .i64 1)), (.c (.int .i64 5))], none⟩,
    ⟨(some 11), .un .not (.t 10), none⟩,
    ⟨(some 12), .mv (.t 11), none⟩,
    ⟨(some 13), .fad 1 (.t 1), some (12, false)⟩,
    ⟨(some 14), .ld1 (.t 13), some (12, false)⟩,
    ⟨(some 15), .len .sl (.t 14), some (12, false)⟩,
    ⟨(some 16), .bin .gtr (.t 15) (.c (.int .i64 4)), some (12, false)⟩,
    ⟨(some 17), .pick (.t 12) (.c (.bool true)) (.t 16), none⟩,
    ⟨(some 18), .mv (.t 17), none⟩,
    ⟨(some 19), .fad 2 (.t 1), some (18, false)⟩,
    ⟨(some 20), .ld1 (.t 19), some (18, false)⟩,
    ⟨(some 21), .len .sl (.t 20), some (18, false)⟩,
    ⟨(some 22), .bin .gtr (.t 21) (.c (.int .i64 4)), some (18, false)⟩,
    ⟨(some 23), .pick (.t 18) (.c (.bool true)) (.t 22), none⟩,
    ⟨(some 24), .mv (.t 23), none⟩,
    ⟨(some 25), .fad 16 (.t 1), some (24, false)⟩,
    ⟨(some 26), .ld1 (.t 25), some (24, false)⟩,
    ⟨(some 27), .len .sl (.t 26), some (24, false)⟩,
    ⟨(some 28), .fad 0 (.t 1), some (24, false)⟩,
    ⟨(some 29), .ld1 (.t 28), some (24, false)⟩,
    ⟨(some 30), .len .sl (.t 29), some (24, false)⟩,
    ⟨(some 31), .bin .neq (.t 27) (.t 30), some (24, false)⟩,
    ⟨(some 32), .pick (.t 24) (.c (.bool true)) (.t 31), none⟩]) (
  .cond (.t 32) (
   .seq (
   .ops [
     ⟨(some 2), .mv (.c (.bool false)), none⟩]) (
   .ret)) (
   .skip))) (
  .seq (
  .seq (
  .ops [
    ⟨(some 33), .fad 0 (.t 1), none⟩,
    ⟨(some 34), .ld1 (.t 33), none⟩,
    ⟨(some 35), .len .sl (.t 34), none⟩,
    ⟨(some 36), .mv (.c (.int .i64 0)), none⟩]) (
  .block 0 (
   .loop (
    .seq (
    .ops [
      ⟨(some 37), .bin .lss (.t 36) (.t 35), none⟩]) (
    .seq (
    .cond (.t 37) (
     .skip) (
     .exit 0)) (
    .seq (
    .block 1 (
     .seq (
     .ops [
       ⟨(some 38), .mv (.t 36), none⟩,
       ⟨(some 39), .iad none 4 (.t 34) (.t 36), none⟩,
       ⟨(some 40), .ldN 4 (.t 39), none⟩,
       ⟨(some 4), .new 113 [(.int .i64 0), (.int .i64 0), (.int .i64 0), (.int .i64 0)], none⟩,
       ⟨(some 3), .mv (.t 38), none⟩,
       ⟨none, .st 4 (.t 4) (.t 40), none⟩]) (
     .seq (
     .ops [
       ⟨(some 41), .fad 0 (.t 4), none⟩,
       ⟨(some 42), .ldN 2 (.t 41), none⟩,
       ⟨(some 43), .call (.c (.func (.func 43) [] [])) [(.t 42)], none⟩,
       ⟨(some 44), .bin .neq (.t 43) (.c (.int .i64 0)), none⟩,
       ⟨(some 45), .mv (.t 44), none⟩,
       ⟨(some 46), .fad 2 (.t 4), some (45, false)⟩,
       ⟨(some 47), .ldN 2 (.t 46), some (45, false)⟩,
       ⟨(some 48), .call (.c (.func (.func 43) [] [])) [(.t 47)], some (45, false)⟩,
       ⟨(some 49), .bin .neq (.t 48) (.c (.int .i64 0)), some (45, false)⟩,
       ⟨(some 50), .pick (.t 45) (.c (.bool true)) (.t 49), none⟩,
       ⟨(some 51), .mv (.t 50), none⟩,
       ⟨(some 52), .fad 0 (.t 4), some (51, false)⟩,
       ⟨(some 53), .ldN 2 (.t 52), some (51, false)⟩,
       ⟨(some 54), .fad 2 (.t 4), some (51, false)⟩,
       ⟨(some 55), .ldN 2 (.t 54), some (51, false)⟩,
       ⟨(some 56), .eqs false 2 [0, 1] (.t 53) (.t 55), some (51, false)⟩,
       ⟨(some 57), .pick (.t 51) (.c (.bool true)) (.t 56), none⟩,
       ⟨(some 58), .mv (.t 57), none⟩,
       ⟨(some 59), .fad 16 (.t 1), some (58, false)⟩,
       ⟨(some 60), .ld1 (.t 59), some (58, false)⟩,
       ⟨(some 61), .mv (.t 3), some (58, false)⟩,
       ⟨(some 62), .iad none 1 (.t 60) (.t 61), some (58, false)⟩,
       ⟨(some 63), .ld1 (.t 62), some (58, false)⟩,
       ⟨(some 64), .call (.c (.func (.func 73) [] [])) [(.t 63)], some (58, false)⟩,
       ⟨(some 65), .un .not (.t 64), some (58, false)⟩,
       ⟨(some 66), .pick (.t 58) (.c (.bool true)) (.t 65), none⟩]) (
     .cond (.t 66) (
      .seq (
      .ops [
        ⟨(some 2), .mv (.c (.bool false)), none⟩]) (
      .ret)) (
      .skip))))) (
    .ops [
      ⟨(some 67), .bin .add (.t 36) (.c (.int .i64 1)), none⟩,
      ⟨(some 36), .mv (.t 67), none⟩]))))))) (
  .seq (
  .seq (
  .ops [
    ⟨(some 68), .fad 1 (.t 1), none⟩,
    ⟨(some 69), .ld1 (.t 68), none⟩,
    ⟨(some 70), .call (.c (.func (.func 69) [] [])) [(.t 69), (.c (.func (.func 74) [] []))], none⟩,
    ⟨(some 71), .mv (.t 70), none⟩,
    ⟨(some 72), .fad 2 (.t 1), some (71, false)⟩,
    ⟨(some 73), .ld1 (.t 72), some (71, false)⟩,
    ⟨(some 74), .call (.c (.func (.func 76) [] [])) [(.t 73), (.c (.func (.func 77) [] []))], some (71, false)⟩,
    ⟨(some 75), .pick (.t 71) (.c (.bool true)) (.t 74), none⟩]) (
  .cond (.t 75) (
   .seq (
   .ops [
     ⟨(some 2), .mv (.c (.bool false)), none⟩]) (
   .ret)) (
   .skip))) (
  .seq (
  .seq (
  .ops [
    ⟨(some 77), .fad 3 (.t 1), none⟩,
    ⟨(some 78), .ldN 8 (.t 77), none⟩,
    ⟨(some 79), .call (.c (.func (.func 78) [] [])) [(.t 78)], none⟩,
    ⟨(some 76), .mv (.t 79), none⟩,
    ⟨(some 80), .ext 0 (.t 76), none⟩,
    ⟨(some 81), .ext 1 (.t 76), none⟩,
    ⟨(some 5), .new 28 [(.int .i64 0), (.int .i64 0), (.int .i64 0), (.int .i64 0), (.int .i64 0), (.int .i64 0), (.int .i64 0), (.int .i64 0)], none⟩,
    ⟨none, .st 8 (.t 5) (.t 80), none⟩,
    ⟨(some 6), .mv (.t 81), none⟩]) (
  .seq (
  .ops [
    ⟨(some 82), .mv (.t 6), none⟩,
    ⟨(some 83), .bin .neq (.t 82) (.c (.int .i64 0)), none⟩,
    ⟨(some 84), .mv (.t 83), none⟩,
    ⟨(some 85), .fad 3 (.t 1), some (84, false)⟩,
    ⟨(some 86), .fad 0 (.t 85), some (84, false)⟩,
    ⟨(some 87), .fad 1 (.t 86), some (84, false)⟩,
    ⟨(some 88), .ld1 (.t 87), some (84, false)⟩,
    ⟨(some 89), .fad 3 (.t 1), some (84, false)⟩,
    ⟨(some 90), .fad 0 (.t 89), some (84, false)⟩,
    ⟨(some 91), .fad 0 (.t 90), some (84, false)⟩,
    ⟨(some 92), .ld1 (.t 91), some (84, false)⟩,
    ⟨(some 93), .bin .sub (.t 88) (.t 92), some (84, false)⟩,
    ⟨(some 94), .bin .gtr (.t 93) (.c (.int .i64 256)), some (84, false)⟩,
    ⟨(some 95), .pick (.t 84) (.c (.bool true)) (.t 94), none⟩,
    ⟨(some 96), .mv (.t 95), none⟩,
    ⟨(some 97), .fad 3 (.t 1), some (96, false)⟩,
    ⟨(some 98), .fad 2 (.t 97), some (96, false)⟩,
    ⟨(some 99), .fad 1 (.t 98), some (96, false)⟩,
    ⟨(some 100), .ld1 (.t 99), some (96, false)⟩,
    ⟨(some 101), .fad 3 (.t 1), some (96, false)⟩,
    ⟨(some 102), .fad 2 (.t 101), some (96, false)⟩,
    ⟨(some 103), .fad 0 (.t 102), some (96, false)⟩,
    ⟨(some 104), .ld1 (.t 103), some (96, false)⟩,
    ⟨(some 105), .bin .sub (.t 100) (.t 104), some (96, false)⟩,
    ⟨(some 106), .bin .gtr (.t 105) (.c (.int .i64 256)), some (96, false)⟩,
    ⟨(some 107), .pick (.t 96) (.c (.bool true)) (.t 106), none⟩]) (
  .cond (.t 107) (
   .seq (
   .ops [
     ⟨(some 2), .mv (.c (.bool false)), none⟩]) (
   .ret)) (
   .skip)))) (
  .seq (
  .ops [
    ⟨(some 108), .fad 11 (.t 1), none⟩,
    ⟨(some 109), .ldN 3 (.t 108), none⟩,
    ⟨(some 110), .call (.c (.func (.func 15) [] [])) [(.t 109)], none⟩,
    ⟨(some 111), .mv (.t 110), none⟩,
    ⟨(some 112), .fad 14 (.t 1), some (111, true)⟩,
    ⟨(some 113), .ld1 (.t 112), some (111, true)⟩,
    ⟨(some 114), .call (.c (.func (.func 37) [] [])) [(.t 113), (.c (.int .i64 1)), (.c (.int .i64 1000))], some (111, true)⟩,
    ⟨(some 115), .pick (.t 111) (.t 114) (.c (.bool false)), none⟩,
    ⟨(some 116), .mv (.t 115), none⟩,
    ⟨(some 117), .fad 15 (.t 1), some (116, true)⟩,
    ⟨(some 118), .ld1 (.t 117), some (116, true)⟩,
    ⟨(some 119), .call (.c (.func (.func 37) [] [])) [(.t 118), (.c (.int .i64 0)), (.c (.int .i64 1000))], some (116, true)⟩,
    ⟨(some 120), .pick (.t 116) (.t 119) (.c (.bool false)), none⟩,
    ⟨(some 2), .mv (.t 120), none⟩]) (
  .ret)))))), [.tmp 2]⟩
/-- (paravane/region.limit).into -/
def x58 : XF := ⟨11, .seq (
  .ops [
    ⟨(some 4), .mv (.c (.int .i64 0)), none⟩]) (
  .seq (
  .ops [
    ⟨(some 5), .mv (.t 0), none⟩,
    ⟨(some 6), .un .neg (.t 5), none⟩,
    ⟨(some 7), .mv (.t 1), none⟩,
    ⟨(some 8), .mv (.t 0), none⟩,
    ⟨(some 9), .min [(.t 7), (.t 8)], none⟩,
    ⟨(some 10), .max [(.t 6), (.t 9)], none⟩,
    ⟨(some 4), .mv (.t 10), none⟩]) (
  .ret)), [.tmp 4]⟩
/-- (*paravane/course.chart).passages$1 -/
def x59 : XF := ⟨27, .seq (
  .ops [
    ⟨(some 4), .box 111 (.t 0), none⟩]) (
  .seq (
  .ops [
    ⟨(some 7), .mkf 60 [] [(.t 1), (.t 2), (.t 3), (.t 4)], none⟩,
    ⟨(some 5), .new 133 [.nilFunc], none⟩,
    ⟨none, .st 1 (.t 5) (.t 7), none⟩]) (
  .seq (
  .seq (
  .ops [
    ⟨(some 8), .fad 0 (.t 2), none⟩,
    ⟨(some 9), .ldN 2 (.t 8), none⟩,
    ⟨(some 10), .fad 0 (.t 3), none⟩,
    ⟨(some 11), .ldN 2 (.t 10), none⟩,
    ⟨(some 12), .eqs false 2 [0, 1] (.t 9) (.t 11), none⟩,
    ⟨(some 13), .mv (.t 12), none⟩,
    ⟨(some 14), .ld1 (.t 5), some (13, true)⟩,
    ⟨(some 15), .fad 0 (.t 2), some (13, true)⟩,
    ⟨(some 16), .ldN 2 (.t 15), some (13, true)⟩,
    ⟨(some 17), .bsl 30 2 1 [(.int .i64 0), (.int .i64 0)] [(0, 2, (.t 16))], some (13, true)⟩,
    ⟨(some 18), .call (.t 14) [(.t 17)], some (13, true)⟩,
    ⟨(some 19), .un .not (.t 18), some (13, true)⟩,
    ⟨(some 20), .pick (.t 13) (.t 19) (.c (.bool false)), none⟩]) (
  .cond (.t 20) (
   .ret) (
   .skip))) (
  .seq (
  .ops [
    ⟨(some 6), .new 134 [.nilFunc], none⟩]) (
  .seq (
  .ops [
    ⟨(some 21), .mkf 63 [] [(.t 5), (.t 3), (.t 1), (.t 6)], none⟩,
    ⟨none, .st 1 (.t 6) (.t 21), none⟩]) (
  .ops [
    ⟨(some 22), .ld1 (.t 6), none⟩,
    ⟨(some 23), .fad 0 (.t 2), none⟩,
    ⟨(some 24), .ldN 2 (.t 23), none⟩,
    ⟨(some 25), .bsl 30 2 1 [(.int .i64 0), (.int .i64 0)] [(0, 2, (.t 24))], none⟩,
    ⟨(some 26), .call (.t 22) [(.t 25), (.c (.int .i64 0))], none⟩]))))), []⟩
/-- (*paravane/course.chart).passages$1$1 -/
def x60 : XF := ⟨29, .seq (
  .ops [
    ⟨(some 6), .mv (.c (.bool false)), none⟩]) (
  .seq (
  .ops [
    ⟨(some 10), .ld1 (.t 1), none⟩,
    ⟨(some 11), .mv (.t 0), none⟩,
    ⟨(some 12), .fad 2 (.t 2), none⟩,
    ⟨(some 13), .ld1 (.t 12), none⟩,
    ⟨(some 14), .fad 2 (.t 3), none⟩,
    ⟨(some 15), .ld1 (.t 14), none⟩,
    ⟨(some 16), .call (.c (.func (.func 61) [] [])) [(.t 10), (.t 11), (.t 13), (.t 15)], none⟩,
    ⟨(some 9), .mv (.t 16), none⟩,
    ⟨(some 17), .ext 0 (.t 9), none⟩,
    ⟨(some 18), .ext 1 (.t 9), none⟩,
    ⟨(some 7), .mv (.t 17), none⟩,
    ⟨(some 8), .mv (.t 18), none⟩]) (
  .seq (
  .draw [
    (⟨(some 19), .mv (.t 8), none⟩, .calm),
    (⟨(some 20), .un .not (.t 19), none⟩, .calm),
    (⟨(some 21), .mv (.t 20), none⟩, .calm),
    (⟨(some 22), .ld1 (.t 4), some (21, false)⟩, .reads 0 1),
    (⟨(some 23), .mv (.t 0), some (21, false)⟩, .calm),
    (⟨(some 24), .call (.c (.func (.func 62) [] [])) [(.t 23)], some (21, false)⟩, .anchor),
    (⟨(some 25), .mv (.t 7), some (21, false)⟩, .calm),
    (⟨(some 26), .build [(.slice none 0 true 0), (.int .i64 0)] [(0, 1, (.t 24)), (1, 1, (.t 25))], some (21, false)⟩, .calm),
    (⟨(some 27), .call (.t 22) [(.t 26)], some (21, false)⟩, .anchor),
    (⟨(some 28), .pick (.t 21) (.c (.bool true)) (.t 27), none⟩, .calm),
    (⟨(some 6), .mv (.t 28), none⟩, .calm)]) (
  .ret))), [.tmp 6]⟩
/-- (*paravane/course.chart).cost -/
def x61 : XF := ⟨84, .seq (
  .ops [
    ⟨(some 8), .mv (.c (.int .i64 0)), none⟩,
    ⟨(some 9), .mv (.c (.bool false)), none⟩]) (
  .seq (
  .ops [
    ⟨(some 10), .mv (.c (.int .i64 0)), none⟩]) (
  .seq (
  .seq (
  .ops [
    ⟨(some 11), .mv (.c (.int .i64 1)), none⟩]) (
  .block 0 (
   .loop (
    .seq (
    .seq (
    .ops [
      ⟨(some 14), .mv (.t 11), none⟩,
      ⟨(some 15), .mv (.t 1), none⟩,
      ⟨(some 16), .len .sl (.t 15), none⟩,
      ⟨(some 17), .bin .lss (.t 14) (.t 16), none⟩]) (
    .cond (.t 17) (
     .skip) (
     .exit 0))) (
    .seq (
    .block 1 (
     .seq (
     .draw [
       (⟨(some 20), .mv (.t 1), none⟩, .calm),
       (⟨(some 21), .mv (.t 11), none⟩, .calm),
       (⟨(some 22), .bin .sub (.t 21) (.c (.int .i64 1)), none⟩, .calm),
       (⟨(some 23), .iad none 2 (.t 20) (.t 22), none⟩, .calm),
       (⟨(some 24), .ldN 2 (.t 23), none⟩, .reads 0 0),
       (⟨(some 25), .mv (.t 1), none⟩, .calm),
       (⟨(some 26), .mv (.t 11), none⟩, .calm),
       (⟨(some 27), .iad none 2 (.t 25) (.t 26), none⟩, .calm),
       (⟨(some 28), .ldN 2 (.t 27), none⟩, .reads 0 0),
       (⟨(some 29), .build [(.int .i64 0), (.int .i64 0), (.int .i64 0), (.int .i64 0)] [(0, 2, (.t 24)), (2, 2, (.t 28))], none⟩, .calm),
       (⟨(some 12), .new 115 [(.int .i64 0), (.int .i64 0), (.int .i64 0), (.int .i64 0)], none⟩, .new),
       (⟨none, .st 4 (.t 12) (.t 29), none⟩, .anchor)]) (
     .seq (
     .seq (
     .ops [
       ⟨(some 30), .fad 0 (.t 12), none⟩,
       ⟨(some 31), .ldN 2 (.t 30), none⟩,
       ⟨(some 32), .fad 2 (.t 12), none⟩,
       ⟨(some 33), .ldN 2 (.t 32), none⟩,
       ⟨(some 34), .eqs false 2 [0, 1] (.t 31) (.t 33), none⟩,
       ⟨(some 35), .mv (.t 34), none⟩,
       ⟨(some 36), .mv (.t 0), some (35, false)⟩,
       ⟨(some 37), .ldN 4 (.t 12), some (35, false)⟩,
       ⟨(some 38), .call (.c (.func (.func 51) [] [])) [(.t 36), (.t 37)], some (35, false)⟩,
       ⟨(some 39), .un .not (.t 38), some (35, false)⟩,
       ⟨(some 40), .pick (.t 35) (.c (.bool true)) (.t 39), none⟩]) (
     .cond (.t 40) (
      .seq (
      .ops [
        ⟨(some 8), .mv (.c (.int .i64 0)), none⟩,
        ⟨(some 9), .mv (.c (.bool false)), none⟩]) (
      .ret)) (
      .skip))) (
     .seq (
     .ops [
       ⟨(some 41), .fad 2 (.t 12), none⟩,
       ⟨(some 42), .fad 0 (.t 41), none⟩,
       ⟨(some 43), .ld1 (.t 42), none⟩,
       ⟨(some 44), .fad 0 (.t 12), none⟩,
       ⟨(some 45), .fad 0 (.t 44), none⟩,
       ⟨(some 46), .ld1 (.t 45), none⟩,
       ⟨(some 47), .bin .sub (.t 43) (.t 46), none⟩,
       ⟨(some 48), .fad 2 (.t 12), none⟩,
       ⟨(some 49), .fad 1 (.t 48), none⟩,
       ⟨(some 50), .ld1 (.t 49), none⟩,
       ⟨(some 51), .fad 0 (.t 12), none⟩,
       ⟨(some 52), .fad 1 (.t 51), none⟩,
       ⟨(some 53), .ld1 (.t 52), none⟩,
       ⟨(some 54), .bin .sub (.t 50) (.t 53), none⟩,
       ⟨(some 55), .build [(.int .i64 0), (.int .i64 0)] [(0, 1, (.t 47)), (1, 1, (.t 54))], none⟩,
       ⟨(some 56), .call (.c (.func (.func 21) [] [])) [(.t 55)], none⟩,
       ⟨(some 13), .mv (.t 56), none⟩]) (
     .seq (
     .draw [
       (⟨(some 57), .mv (.t 10), none⟩, .calm),
       (⟨(some 58), .mv (.t 0), none⟩, .calm),
       (⟨(some 59), .ldN 4 (.t 12), none⟩, .reads 0 0),
       (⟨(some 60), .call (.c (.func (.func 48) [] [])) [(.t 58), (.t 59)], none⟩, .anchor),
       (⟨(some 61), .mv (.t 0), none⟩, .calm),
       (⟨(some 62), .nilc (.t 61), none⟩, .calm),
       (⟨(some 63), .fad 0 (.t 62), none⟩, .calm),
       (⟨(some 64), .fad 15 (.t 63), none⟩, .calm),
       (⟨(some 65), .ld1 (.t 64), none⟩, .reads 0 1),
       (⟨(some 66), .mv (.t 2), none⟩, .calm),
       (⟨(some 67), .mv (.t 13), none⟩, .calm),
       (⟨(some 68), .call (.c (.func (.func 49) [] [])) [(.t 66), (.t 67)], none⟩, .new),
       (⟨(some 69), .bin .mul (.t 65) (.t 68), none⟩, .calm),
       (⟨(some 70), .bin .add (.t 60) (.t 69), none⟩, .calm),
       (⟨(some 71), .bin .add (.t 57) (.t 70), none⟩, .calm),
       (⟨(some 10), .mv (.t 71), none⟩, .calm)]) (
     .ops [
       ⟨(some 72), .mv (.t 13), none⟩,
       ⟨(some 2), .mv (.t 72), none⟩])))))) (
    .ops [
      ⟨(some 18), .mv (.t 11), none⟩,
      ⟨(some 19), .bin .add (.t 18) (.c (.int .i64 1)), none⟩,
      ⟨(some 11), .mv (.t 19), none⟩])))))) (
  .seq (
  .draw [
    (⟨(some 73), .mv (.t 10), none⟩, .calm),
    (⟨(some 74), .mv (.t 0), none⟩, .calm),
    (⟨(some 75), .nilc (.t 74), none⟩, .calm),
    (⟨(some 76), .fad 0 (.t 75), none⟩, .calm),
    (⟨(some 77), .fad 15 (.t 76), none⟩, .calm),
    (⟨(some 78), .ld1 (.t 77), none⟩, .reads 0 0),
    (⟨(some 79), .mv (.t 2), none⟩, .calm),
    (⟨(some 80), .mv (.t 3), none⟩, .calm),
    (⟨(some 81), .call (.c (.func (.func 49) [] [])) [(.t 79), (.t 80)], none⟩, .new),
    (⟨(some 82), .bin .mul (.t 78) (.t 81), none⟩, .calm),
    (⟨(some 83), .bin .add (.t 73) (.t 82), none⟩, .calm),
    (⟨(some 8), .mv (.t 83), none⟩, .calm),
    (⟨(some 9), .mv (.c (.bool true)), none⟩, .calm)]) (
  .ret)))), [.tmp 8, .tmp 9]⟩
/-- slices.Clone[[]paravane/api.Point,paravane/api.Point] -/
def x62 : XF := ⟨8, .seq (
  .ops [
    ⟨(some 2), .mv (.c (.slice none 0 true 0)), none⟩]) (
  .seq (
  .seq (
  .ops [
    ⟨(some 3), .mv (.t 0), none⟩,
    ⟨(some 4), .eqg false 24 (.t 3) (.c (.slice none 0 true 0)), none⟩]) (
  .cond (.t 4) (
   .seq (
   .ops [
     ⟨(some 2), .mv (.c (.slice none 0 true 0)), none⟩]) (
   .ret)) (
   .skip))) (
  .seq (
  .ops [
    ⟨(some 5), .bsl 30 2 0 [(.int .i64 0), (.int .i64 0)] [], none⟩,
    ⟨(some 6), .mv (.t 0), none⟩,
    ⟨(some 7), .app 30 2 16 [(.int .i64 0), (.int .i64 0)] (.t 5) (.t 6), none⟩,
    ⟨(some 2), .mv (.t 7), none⟩]) (
  .ret))), [.tmp 2]⟩
/-- (*paravane/course.chart).passages$1$2 -/
def x63 : XF := ⟨51, .seq (
  .ops [
    ⟨(some 8), .mv (.c (.bool false)), none⟩]) (
  .seq (
  .seq (
  .draw [
    (⟨(some 11), .ld1 (.t 2), none⟩, .reads 0 2),
    (⟨(some 12), .mv (.t 0), none⟩, .calm),
    (⟨(some 13), .call (.c (.func (.func 62) [] [])) [(.t 12)], none⟩, .anchor),
    (⟨(some 14), .fad 0 (.t 3), none⟩, .calm),
    (⟨(some 15), .ldN 2 (.t 14), none⟩, .reads 0 1),
    (⟨(some 16), .bsl 30 2 1 [(.int .i64 0), (.int .i64 0)] [(0, 2, (.t 15))], none⟩, .new),
    (⟨(some 17), .app 30 2 16 [(.int .i64 0), (.int .i64 0)] (.t 13) (.t 16), none⟩, .anchor),
    (⟨(some 18), .call (.t 11) [(.t 17)], none⟩, .anchor),
    (⟨(some 19), .un .not (.t 18), none⟩, .calm)]) (
  .cond (.t 19) (
   .seq (
   .ops [
     ⟨(some 8), .mv (.c (.bool false)), none⟩]) (
   .ret)) (
   .skip))) (
  .seq (
  .seq (
  .ops [
    ⟨(some 20), .ld1 (.t 4), none⟩,
    ⟨(some 21), .nilc (.t 20), none⟩,
    ⟨(some 22), .fad 0 (.t 21), none⟩,
    ⟨(some 23), .fad 2 (.t 22), none⟩,
    ⟨(some 24), .ld1 (.t 23), none⟩,
    ⟨(some 25), .len .sl (.t 24), none⟩,
    ⟨(some 26), .mv (.c (.int .i64 0)), none⟩]) (
  .block 0 (
   .loop (
    .seq (
    .ops [
      ⟨(some 27), .bin .lss (.t 26) (.t 25), none⟩]) (
    .seq (
    .cond (.t 27) (
     .skip) (
     .exit 0)) (
    .seq (
    .block 1 (
     .seq (
     .ops [
       ⟨(some 28), .mv (.t 26), none⟩,
       ⟨(some 29), .iad none 2 (.t 24) (.t 26), none⟩,
       ⟨(some 30), .ldN 2 (.t 29), none⟩,
       ⟨(some 10), .new 30 [(.int .i64 0), (.int .i64 0)], none⟩,
       ⟨(some 9), .mv (.t 28), none⟩,
       ⟨none, .st 2 (.t 10) (.t 30), none⟩]) (
     .seq (
     .draw [
       (⟨(some 31), .mv (.t 1), none⟩, .calm),
       (⟨(some 32), .mv (.t 9), none⟩, .calm),
       (⟨(some 33), .bin .shl (.c (.int .i64 1)) (.t 32), none⟩, .calm),
       (⟨(some 34), .bin .and (.t 31) (.t 33), none⟩, .calm),
       (⟨(some 35), .bin .eql (.t 34) (.c (.int .i64 0)), none⟩, .calm),
       (⟨(some 36), .mv (.t 35), none⟩, .calm),
       (⟨(some 37), .ld1 (.t 5), some (36, true)⟩, .reads 0 2),
       (⟨(some 38), .mv (.t 0), some (36, true)⟩, .calm),
       (⟨(some 39), .call (.c (.func (.func 62) [] [])) [(.t 38)], some (36, true)⟩, .anchor),
       (⟨(some 40), .ldN 2 (.t 10), some (36, true)⟩, .reads 0 1),
       (⟨(some 41), .bsl 30 2 1 [(.int .i64 0), (.int .i64 0)] [(0, 2, (.t 40))], some (36, true)⟩, .new),
       (⟨(some 42), .app 30 2 16 [(.int .i64 0), (.int .i64 0)] (.t 39) (.t 41), some (36, true)⟩, .anchor),
       (⟨(some 43), .mv (.t 1), some (36, true)⟩, .calm),
       (⟨(some 44), .mv (.t 9), some (36, true)⟩, .calm),
       (⟨(some 45), .bin .shl (.c (.int .i64 1)) (.t 44), some (36, true)⟩, .calm),
       (⟨(some 46), .bin .or (.t 43) (.t 45), some (36, true)⟩, .calm),
       (⟨(some 47), .call (.t 37) [(.t 42), (.t 46)], some (36, true)⟩, .anchor),
       (⟨(some 48), .un .not (.t 47), some (36, true)⟩, .calm),
       (⟨(some 49), .pick (.t 36) (.t 48) (.c (.bool false)), none⟩, .calm)]) (
     .cond (.t 49) (
      .seq (
      .ops [
        ⟨(some 8), .mv (.c (.bool false)), none⟩]) (
      .ret)) (
      .skip))))) (
    .ops [
      ⟨(some 50), .bin .add (.t 26) (.c (.int .i64 1)), none⟩,
      ⟨(some 26), .mv (.t 50), none⟩]))))))) (
  .seq (
  .ops [
    ⟨(some 8), .mv (.c (.bool true)), none⟩]) (
  .ret)))), [.tmp 8]⟩
/-- slices.CompareFunc[[]paravane/api.Point,[]paravane/api.Point,paravane/api.Point,paravane/api.Point] -/
def x64 : XF := ⟨39, .seq (
  .ops [
    ⟨(some 6), .mv (.c (.int .i64 0)), none⟩]) (
  .seq (
  .seq (
  .ops [
    ⟨(some 11), .mv (.t 0), none⟩,
    ⟨(some 12), .len .sl (.t 11), none⟩,
    ⟨(some 13), .mv (.c (.int .i64 0)), none⟩]) (
  .block 0 (
   .loop (
    .seq (
    .ops [
      ⟨(some 14), .bin .lss (.t 13) (.t 12), none⟩]) (
    .seq (
    .cond (.t 14) (
     .skip) (
     .exit 0)) (
    .seq (
    .block 1 (
     .seq (
     .ops [
       ⟨(some 15), .mv (.t 13), none⟩,
       ⟨(some 16), .iad none 2 (.t 11) (.t 13), none⟩,
       ⟨(some 17), .ldN 2 (.t 16), none⟩,
       ⟨(some 8), .new 30 [(.int .i64 0), (.int .i64 0)], none⟩,
       ⟨(some 7), .mv (.t 15), none⟩,
       ⟨none, .st 2 (.t 8) (.t 17), none⟩]) (
     .seq (
     .seq (
     .ops [
       ⟨(some 18), .mv (.t 7), none⟩,
       ⟨(some 19), .mv (.t 1), none⟩,
       ⟨(some 20), .len .sl (.t 19), none⟩,
       ⟨(some 21), .bin .geq (.t 18) (.t 20), none⟩]) (
     .cond (.t 21) (
      .seq (
      .ops [
        ⟨(some 6), .mv (.c (.int .i64 1)), none⟩]) (
      .ret)) (
      .skip))) (
     .seq (
     .ops [
       ⟨(some 22), .mv (.t 1), none⟩,
       ⟨(some 23), .mv (.t 7), none⟩,
       ⟨(some 24), .iad none 2 (.t 22) (.t 23), none⟩,
       ⟨(some 25), .ldN 2 (.t 24), none⟩,
       ⟨(some 9), .new 30 [(.int .i64 0), (.int .i64 0)], none⟩,
       ⟨none, .st 2 (.t 9) (.t 25), none⟩]) (
     .seq (
     .ops [
       ⟨(some 26), .mv (.t 2), none⟩,
       ⟨(some 27), .ldN 2 (.t 8), none⟩,
       ⟨(some 28), .ldN 2 (.t 9), none⟩,
       ⟨(some 29), .call (.t 26) [(.t 27), (.t 28)], none⟩,
       ⟨(some 10), .mv (.t 29), none⟩]) (
     .seq (
     .ops [
       ⟨(some 30), .mv (.t 10), none⟩,
       ⟨(some 31), .bin .neq (.t 30) (.c (.int .i64 0)), none⟩]) (
     .cond (.t 31) (
      .seq (
      .ops [
        ⟨(some 32), .mv (.t 10), none⟩,
        ⟨(some 6), .mv (.t 32), none⟩]) (
      .ret)) (
      .skip)))))))) (
    .ops [
      ⟨(some 33), .bin .add (.t 13) (.c (.int .i64 1)), none⟩,
      ⟨(some 13), .mv (.t 33), none⟩]))))))) (
  .seq (
  .seq (
  .ops [
    ⟨(some 34), .mv (.t 0), none⟩,
    ⟨(some 35), .len .sl (.t 34), none⟩,
    ⟨(some 36), .mv (.t 1), none⟩,
    ⟨(some 37), .len .sl (.t 36), none⟩,
    ⟨(some 38), .bin .lss (.t 35) (.t 37), none⟩]) (
  .cond (.t 38) (
   .seq (
   .ops [
     ⟨(some 6), .mv (.c (.int .i64 (-1))), none⟩]) (
   .ret)) (
   .skip))) (
  .seq (
  .ops [
    ⟨(some 6), .mv (.c (.int .i64 0)), none⟩]) (
  .ret)))), [.tmp 6]⟩
/-- paravane/course.before -/
def x65 : XF := ⟨20, .seq (
  .ops [
    ⟨(some 2), .box 30 (.t 0), none⟩,
    ⟨(some 3), .box 30 (.t 1), none⟩,
    ⟨(some 4), .mv (.c (.int .i64 0)), none⟩]) (
  .seq (
  .seq (
  .ops [
    ⟨(some 5), .fad 0 (.t 2), none⟩,
    ⟨(some 6), .ld1 (.t 5), none⟩,
    ⟨(some 7), .fad 0 (.t 3), none⟩,
    ⟨(some 8), .ld1 (.t 7), none⟩,
    ⟨(some 9), .bin .neq (.t 6) (.t 8), none⟩]) (
  .cond (.t 9) (
   .seq (
   .ops [
     ⟨(some 10), .fad 0 (.t 2), none⟩,
     ⟨(some 11), .ld1 (.t 10), none⟩,
     ⟨(some 12), .fad 0 (.t 3), none⟩,
     ⟨(some 13), .ld1 (.t 12), none⟩,
     ⟨(some 14), .bin .sub (.t 11) (.t 13), none⟩,
     ⟨(some 4), .mv (.t 14), none⟩]) (
   .ret)) (
   .skip))) (
  .seq (
  .ops [
    ⟨(some 15), .fad 1 (.t 2), none⟩,
    ⟨(some 16), .ld1 (.t 15), none⟩,
    ⟨(some 17), .fad 1 (.t 3), none⟩,
    ⟨(some 18), .ld1 (.t 17), none⟩,
    ⟨(some 19), .bin .sub (.t 16) (.t 18), none⟩,
    ⟨(some 4), .mv (.t 19), none⟩]) (
  .ret))), [.tmp 4]⟩
/-- paravane/region.Root -/
def x66 : XF := ⟨9, .seq (
  .ops [
    ⟨(some 2), .mv (.c (.int .i64 0)), none⟩,
    ⟨(some 3), .mv (.c (.int .i64 0)), none⟩]) (
  .seq (
  .seq (
  .ops [
    ⟨(some 4), .mv (.t 0), none⟩,
    ⟨(some 5), .call (.c (.func (.func 79) [] [])) [(.t 4), (.c (.int .i64 0)), (.c (.int .i64 1099511627776))], none⟩,
    ⟨(some 6), .un .not (.t 5), none⟩]) (
  .cond (.t 6) (
   .seq (
   .ops [
     ⟨(some 2), .mv (.c (.int .i64 0)), none⟩,
     ⟨(some 3), .mv (.c (.int .i64 7)), none⟩]) (
   .ret)) (
   .skip))) (
  .seq (
  .ops [
    ⟨(some 7), .mv (.t 0), none⟩,
    ⟨(some 8), .call (.c (.func (.func 80) [] [])) [(.t 7)], none⟩,
    ⟨(some 2), .mv (.t 8), none⟩,
    ⟨(some 3), .mv (.c (.int .i64 0)), none⟩]) (
  .ret))), [.tmp 2, .tmp 3]⟩
/-- (*paravane/course.chart).way -/
def x67 : XF := ⟨28, .seq (
  .ops [
    ⟨(some 3), .box 74 (.t 1), none⟩,
    ⟨(some 4), .new 115 [(.int .i64 0), (.int .i64 0), (.int .i64 0), (.int .i64 0)], none⟩]) (
  .seq (
  .draw [
    (⟨(some 6), .mv (.t 0), none⟩, .calm),
    (⟨(some 7), .nilc (.t 6), none⟩, .calm),
    (⟨(some 8), .fad 0 (.t 7), none⟩, .calm),
    (⟨(some 9), .fad 0 (.t 8), none⟩, .calm),
    (⟨(some 10), .ld1 (.t 9), none⟩, .reads 0 0),
    (⟨(some 11), .fad 0 (.t 3), none⟩, .calm),
    (⟨(some 12), .ld1 (.t 11), none⟩, .reads 0 0),
    (⟨(some 13), .iad none 4 (.t 10) (.t 12), none⟩, .calm),
    (⟨(some 14), .ldN 4 (.t 13), none⟩, .reads 0 0),
    (⟨(some 5), .new 113 [(.int .i64 0), (.int .i64 0), (.int .i64 0), (.int .i64 0)], none⟩, .new),
    (⟨none, .st 4 (.t 5) (.t 14), none⟩, .anchor)]) (
  .seq (
  .seq (
  .ops [
    ⟨(some 15), .fad 1 (.t 3), none⟩,
    ⟨(some 16), .ld1 (.t 15), none⟩,
    ⟨(some 17), .bin .eql (.t 16) (.c (.int .i64 1)), none⟩]) (
  .cond (.t 17) (
   .seq (
   .ops [
     ⟨(some 18), .fad 2 (.t 5), none⟩,
     ⟨(some 19), .ldN 2 (.t 18), none⟩,
     ⟨(some 20), .fad 0 (.t 5), none⟩,
     ⟨(some 21), .ldN 2 (.t 20), none⟩,
     ⟨(some 22), .build [(.int .i64 0), (.int .i64 0), (.int .i64 0), (.int .i64 0)] [(0, 2, (.t 19)), (2, 2, (.t 21))], none⟩,
     ⟨none, .st 4 (.t 4) (.t 22), none⟩]) (
   .ret)) (
   .skip))) (
  .seq (
  .ops [
    ⟨(some 23), .fad 0 (.t 5), none⟩,
    ⟨(some 24), .ldN 2 (.t 23), none⟩,
    ⟨(some 25), .fad 2 (.t 5), none⟩,
    ⟨(some 26), .ldN 2 (.t 25), none⟩,
    ⟨(some 27), .build [(.int .i64 0), (.int .i64 0), (.int .i64 0), (.int .i64 0)] [(0, 2, (.t 24)), (2, 2, (.t 26))], none⟩,
    ⟨none, .st 4 (.t 4) (.t 27), none⟩]) (
  .ret)))), [.cellN 4 4]⟩
/-- paravane/region.Swept -/
def x68 : XF := ⟨36, .seq (
  .ops [
    ⟨(some 3), .box 28 (.t 0), none⟩,
    ⟨(some 4), .box 30 (.t 1), none⟩,
    ⟨(some 5), .box 30 (.t 2), none⟩,
    ⟨(some 6), .new 28 [(.int .i64 0), (.int .i64 0), (.int .i64 0), (.int .i64 0), (.int .i64 0), (.int .i64 0), (.int .i64 0), (.int .i64 0)], none⟩,
    ⟨(some 7), .mv (.c (.int .i64 0)), none⟩]) (
  .seq (
  .ops [
    ⟨(some 12), .ldN 8 (.t 3), none⟩,
    ⟨(some 13), .ldN 2 (.t 4), none⟩,
    ⟨(some 14), .call (.c (.func (.func 81) [] [])) [(.t 12), (.t 13)], none⟩,
    ⟨(some 11), .mv (.t 14), none⟩,
    ⟨(some 15), .ext 0 (.t 11), none⟩,
    ⟨(some 16), .ext 1 (.t 11), none⟩,
    ⟨(some 8), .new 28 [(.int .i64 0), (.int .i64 0), (.int .i64 0), (.int .i64 0), (.int .i64 0), (.int .i64 0), (.int .i64 0), (.int .i64 0)], none⟩,
    ⟨none, .st 8 (.t 8) (.t 15), none⟩,
    ⟨(some 9), .mv (.t 16), none⟩]) (
  .seq (
  .seq (
  .ops [
    ⟨(some 17), .mv (.t 9), none⟩,
    ⟨(some 18), .bin .neq (.t 17) (.c (.int .i64 0)), none⟩]) (
  .cond (.t 18) (
   .seq (
   .ops [
     ⟨(some 19), .build [(.int .i64 0), (.int .i64 0), (.int .i64 0), (.int .i64 0), (.int .i64 0), (.int .i64 0), (.int .i64 0), (.int .i64 0)] [], none⟩,
     ⟨(some 20), .mv (.t 9), none⟩,
     ⟨none, .st 8 (.t 6) (.t 19), none⟩,
     ⟨(some 7), .mv (.t 20), none⟩]) (
   .ret)) (
   .skip))) (
  .seq (
  .ops [
    ⟨(some 22), .ldN 8 (.t 3), none⟩,
    ⟨(some 23), .ldN 2 (.t 5), none⟩,
    ⟨(some 24), .call (.c (.func (.func 81) [] [])) [(.t 22), (.t 23)], none⟩,
    ⟨(some 21), .mv (.t 24), none⟩,
    ⟨(some 25), .ext 0 (.t 21), none⟩,
    ⟨(some 26), .ext 1 (.t 21), none⟩,
    ⟨(some 10), .new 28 [(.int .i64 0), (.int .i64 0), (.int .i64 0), (.int .i64 0), (.int .i64 0), (.int .i64 0), (.int .i64 0), (.int .i64 0)], none⟩,
    ⟨none, .st 8 (.t 10) (.t 25), none⟩,
    ⟨(some 9), .mv (.t 26), none⟩]) (
  .seq (
  .seq (
  .ops [
    ⟨(some 27), .mv (.t 9), none⟩,
    ⟨(some 28), .bin .neq (.t 27) (.c (.int .i64 0)), none⟩]) (
  .cond (.t 28) (
   .seq (
   .ops [
     ⟨(some 29), .build [(.int .i64 0), (.int .i64 0), (.int .i64 0), (.int .i64 0), (.int .i64 0), (.int .i64 0), (.int .i64 0), (.int .i64 0)] [], none⟩,
     ⟨(some 30), .mv (.t 9), none⟩,
     ⟨none, .st 8 (.t 6) (.t 29), none⟩,
     ⟨(some 7), .mv (.t 30), none⟩]) (
   .ret)) (
   .skip))) (
  .seq (
  .ops [
    ⟨(some 31), .ldN 8 (.t 8), none⟩,
    ⟨(some 32), .ldN 8 (.t 10), none⟩,
    ⟨(some 33), .call (.c (.func (.func 82) [] [])) [(.t 31), (.t 32)], none⟩,
    ⟨(some 34), .ext 0 (.t 33), none⟩,
    ⟨(some 35), .ext 1 (.t 33), none⟩,
    ⟨none, .st 8 (.t 6) (.t 34), none⟩,
    ⟨(some 7), .mv (.t 35), none⟩]) (
  .ret)))))), [.cellN 6 8, .tmp 7]⟩
/-- slices.ContainsFunc[[][]paravane/api.Point,[]paravane/api.Point] -/
def x69 : XF := ⟨9, .seq (
  .ops [
    ⟨(some 4), .mv (.c (.bool false)), none⟩]) (
  .seq (
  .ops [
    ⟨(some 5), .mv (.t 0), none⟩,
    ⟨(some 6), .mv (.t 1), none⟩,
    ⟨(some 7), .call (.c (.func (.func 83) [] [])) [(.t 5), (.t 6)], none⟩,
    ⟨(some 8), .bin .geq (.t 7) (.c (.int .i64 0)), none⟩,
    ⟨(some 4), .mv (.t 8), none⟩]) (
  .ret)), [.tmp 4]⟩
/-- (*paravane/course.chart).clear$1 -/
def x70 : XF := ⟨14, .seq (
  .ops [
    ⟨(some 3), .mv (.c (.bool false)), none⟩]) (
  .seq (
  .ops [
    ⟨(some 7), .mv (.t 0), none⟩,
    ⟨(some 8), .ldN 8 (.t 1), none⟩,
    ⟨(some 9), .call (.c (.func (.func 71) [] [])) [(.t 7), (.t 8)], none⟩,
    ⟨(some 6), .mv (.t 9), none⟩,
    ⟨(some 10), .ext 0 (.t 6), none⟩,
    ⟨(some 11), .ext 1 (.t 6), none⟩,
    ⟨(some 4), .new 30 [(.int .i64 0), (.int .i64 0)], none⟩,
    ⟨none, .st 2 (.t 4) (.t 10), none⟩,
    ⟨(some 5), .mv (.t 11), none⟩]) (
  .seq (
  .ops [
    ⟨(some 12), .mv (.t 5), none⟩,
    ⟨(some 13), .bin .eql (.t 12) (.c (.int .i64 0)), none⟩,
    ⟨(some 3), .mv (.t 13), none⟩]) (
  .ret))), [.tmp 3]⟩
/-- paravane/region.Hits -/
def x71 : XF := ⟨87, .seq (
  .ops [
    ⟨(some 2), .box 24 (.t 0), none⟩,
    ⟨(some 3), .box 28 (.t 1), none⟩,
    ⟨(some 4), .new 30 [(.int .i64 0), (.int .i64 0)], none⟩,
    ⟨(some 5), .new 37 [(.int .i64 0)], none⟩]) (
  .scope (
   .seq (
   .seq (
   .draw [
     (⟨(some 12), .ld1 (.t 2), none⟩, .reads 0 0),
     (⟨(some 13), .call (.c (.func (.func 75) [] [])) [(.t 12)], none⟩, .anchor),
     (⟨(some 14), .ldN 8 (.t 3), none⟩, .reads 0 1),
     (⟨(some 15), .call (.c (.func (.func 85) [] [])) [(.t 14)], none⟩, .anchor),
     (⟨(some 16), .bsl 37 1 2 [(.int .i64 0)] [(0, 1, (.t 13)), (1, 1, (.t 15))], none⟩, .new),
     (⟨(some 17), .call (.c (.func (.func 84) [] [])) [(.t 16)], none⟩, .anchor),
     (⟨(some 6), .mv (.t 17), none⟩, .calm)]) (
   .seq (
   .ops [
     ⟨(some 18), .mv (.t 6), none⟩,
     ⟨(some 19), .bin .neq (.t 18) (.c (.int .i64 0)), none⟩]) (
   .cond (.t 19) (
    .seq (
    .ops [
      ⟨(some 20), .build [(.int .i64 0), (.int .i64 0)] [], none⟩,
      ⟨(some 21), .mv (.t 6), none⟩,
      ⟨none, .st 2 (.t 4) (.t 20), none⟩,
      ⟨none, .st 1 (.t 5) (.t 21), none⟩]) (
    .ret)) (
    .skip)))) (
   .seq (
   .skip) (
   .seq (
   .seq (
   .ops [
     ⟨(some 22), .ldN 8 (.t 3), none⟩,
     ⟨(some 23), .call (.c (.func (.func 86) [] [])) [(.t 22)], none⟩,
     ⟨(some 24), .call (.c (.func (.func 87) [] [])) [(.t 23)], none⟩]) (
   .block 0 (
    .rfun (.t 24) [25] (
     .ops [
       ⟨(some 7), .new 162 [(.int .i64 0), (.int .i64 0), (.int .i64 0)], none⟩,
       ⟨none, .st 3 (.t 7) (.t 25), none⟩]) (
     .block 1 (
      .seq (
      .seq (
      .ops [
        ⟨(some 26), .ld1 (.t 2), none⟩,
        ⟨(some 27), .call (.c (.func (.func 88) [] [])) [(.t 26)], none⟩]) (
      .block 2 (
       .rfun (.t 27) [28, 29] (
        .seq (
        .ops [
          ⟨(some 8), .new 30 [(.int .i64 0), (.int .i64 0)], none⟩,
          ⟨none, .st 2 (.t 8) (.t 28), none⟩]) (
        .ops [
          ⟨(some 9), .new 30 [(.int .i64 0), (.int .i64 0)], none⟩,
          ⟨none, .st 2 (.t 9) (.t 29), none⟩])) (
        .block 3 (
         .seq (
         .ops [
           ⟨(some 30), .fad 0 (.t 9), none⟩,
           ⟨(some 31), .ld1 (.t 30), none⟩,
           ⟨(some 32), .fad 0 (.t 8), none⟩,
           ⟨(some 33), .ld1 (.t 32), none⟩,
           ⟨(some 34), .bin .sub (.t 31) (.t 33), none⟩,
           ⟨(some 10), .mv (.t 34), none⟩]) (
         .seq (
         .ops [
           ⟨(some 35), .mv (.t 10), none⟩,
           ⟨(some 36), .fad 1 (.t 8), none⟩,
           ⟨(some 37), .ld1 (.t 36), none⟩,
           ⟨(some 38), .bin .mul (.t 35) (.t 37), none⟩,
           ⟨(some 39), .fad 1 (.t 9), none⟩,
           ⟨(some 40), .ld1 (.t 39), none⟩,
           ⟨(some 41), .fad 1 (.t 8), none⟩,
           ⟨(some 42), .ld1 (.t 41), none⟩,
           ⟨(some 43), .bin .sub (.t 40) (.t 42), none⟩,
           ⟨(some 44), .fad 0 (.t 7), none⟩,
           ⟨(some 45), .ld1 (.t 44), none⟩,
           ⟨(some 46), .fad 0 (.t 8), none⟩,
           ⟨(some 47), .ld1 (.t 46), none⟩,
           ⟨(some 48), .bin .sub (.t 45) (.t 47), none⟩,
           ⟨(some 49), .bin .mul (.t 43) (.t 48), none⟩,
           ⟨(some 50), .bin .add (.t 38) (.t 49), none⟩,
           ⟨(some 11), .mv (.t 50), none⟩]) (
         .block 4 (
          .seq (
          .ops [
            ⟨(some 52), .mv (.t 10), none⟩,
            ⟨(some 53), .bin .gtr (.t 52) (.c (.int .i64 0)), none⟩,
            ⟨(some 51), .mv (.t 53), none⟩]) (
          .cond (.t 51) (
           .draw [
             (⟨(some 54), .fad 1 (.t 7), none⟩, .calm),
             (⟨(some 55), .ld1 (.t 54), none⟩, .reads 0 0),
             (⟨(some 56), .mv (.t 11), none⟩, .calm),
             (⟨(some 57), .mv (.t 10), none⟩, .calm),
             (⟨(some 58), .call (.c (.func (.func 89) [] [])) [(.t 56), (.t 57)], none⟩, .new),
             (⟨(some 59), .max [(.t 55), (.t 58)], none⟩, .calm),
             (⟨(some 60), .fad 1 (.t 7), none⟩, .calm),
             (⟨none, .st 1 (.t 60) (.t 59), none⟩, .anchor)]) (
           .seq (
           .ops [
             ⟨(some 62), .mv (.t 10), none⟩,
             ⟨(some 63), .bin .lss (.t 62) (.c (.int .i64 0)), none⟩,
             ⟨(some 61), .mv (.t 63), none⟩]) (
           .cond (.t 61) (
            .draw [
              (⟨(some 64), .fad 2 (.t 7), none⟩, .calm),
              (⟨(some 65), .ld1 (.t 64), none⟩, .reads 0 0),
              (⟨(some 66), .mv (.t 11), none⟩, .calm),
              (⟨(some 67), .un .neg (.t 66), none⟩, .calm),
              (⟨(some 68), .mv (.t 10), none⟩, .calm),
              (⟨(some 69), .un .neg (.t 68), none⟩, .calm),
              (⟨(some 70), .call (.c (.func (.func 90) [] [])) [(.t 67), (.t 69)], none⟩, .new),
              (⟨(some 71), .min [(.t 65), (.t 70)], none⟩, .calm),
              (⟨(some 72), .fad 2 (.t 7), none⟩, .calm),
              (⟨none, .st 1 (.t 72) (.t 71), none⟩, .anchor)]) (
            .seq (
            .ops [
              ⟨(some 74), .mv (.t 11), none⟩,
              ⟨(some 75), .bin .gtr (.t 74) (.c (.int .i64 0)), none⟩,
              ⟨(some 73), .mv (.t 75), none⟩]) (
            .cond (.t 73) (
             .exit 1) (
             .skip)))))))))))))) (
      .seq (
      .ops [
        ⟨(some 76), .fad 1 (.t 7), none⟩,
        ⟨(some 77), .ld1 (.t 76), none⟩,
        ⟨(some 78), .fad 2 (.t 7), none⟩,
        ⟨(some 79), .ld1 (.t 78), none⟩,
        ⟨(some 80), .bin .leq (.t 77) (.t 79), none⟩]) (
      .cond (.t 80) (
       .seq (
       .ops [
         ⟨(some 81), .fad 0 (.t 7), none⟩,
         ⟨(some 82), .ld1 (.t 81), none⟩,
         ⟨(some 83), .fad 1 (.t 7), none⟩,
         ⟨(some 84), .ld1 (.t 83), none⟩,
         ⟨(some 85), .build [(.int .i64 0), (.int .i64 0)] [(0, 1, (.t 82)), (1, 1, (.t 84))], none⟩,
         ⟨none, .st 2 (.t 4) (.t 85), none⟩,
         ⟨none, .st 1 (.t 5) (.c (.int .i64 0)), none⟩]) (
       .ret)) (
       .skip)))))))) (
   .seq (
   .ops [
     ⟨(some 86), .build [(.int .i64 0), (.int .i64 0)] [], none⟩,
     ⟨none, .st 2 (.t 4) (.t 86), none⟩,
     ⟨none, .st 1 (.t 5) (.c (.int .i64 4)), none⟩]) (
   .ret)))))), [.cellN 4 2, .cell1 5]⟩
/-- (paravane/course.plan).before$1 -/
def x72 : XF := ⟨50, .seq (
  .ops [
    ⟨(some 5), .box 145 (.t 0), none⟩]) (
  .seq (
  .draw [
    (⟨(some 9), .ld1 (.t 1), none⟩, .reads 0 0),
    (⟨(some 10), .fad 0 (.t 2), none⟩, .calm),
    (⟨(some 11), .ld1 (.t 10), none⟩, .reads 0 0),
    (⟨(some 12), .bin .shl (.c (.int .i64 1)) (.t 11), none⟩, .calm),
    (⟨(some 13), .bin .andNot (.t 9) (.t 12), none⟩, .calm),
    (⟨(some 6), .new 3 [(.int .i64 0)], none⟩, .new),
    (⟨none, .st 1 (.t 6) (.t 13), none⟩, .anchor)]) (
  .seq (
  .seq (
  .ops [
    ⟨(some 14), .ld1 (.t 6), none⟩,
    ⟨(some 15), .bin .eql (.t 14) (.c (.int .i64 0)), none⟩]) (
  .cond (.t 15) (
   .seq (
   .draw [
     (⟨(some 16), .ld1 (.t 5), none⟩, .reads 0 1),
     (⟨(some 17), .ldN 2 (.t 3), none⟩, .reads 0 0),
     (⟨(some 18), .call (.c (.func (.func 33) [] [])) [(.t 17)], none⟩, .anchor),
     (⟨(some 19), .call (.t 16) [(.t 18)], none⟩, .anchor)]) (
   .ret)) (
   .skip))) (
  .seq (
  .draw [
    (⟨(some 20), .ldN 2 (.t 3), none⟩, .reads 0 0),
    (⟨(some 21), .fad 0 (.t 3), none⟩, .calm),
    (⟨(some 22), .ld1 (.t 21), none⟩, .reads 0 0),
    (⟨(some 23), .nilc (.t 22), none⟩, .calm),
    (⟨(some 24), .fad 0 (.t 23), none⟩, .calm),
    (⟨(some 25), .fad 0 (.t 24), none⟩, .calm),
    (⟨(some 26), .ld1 (.t 25), none⟩, .reads 0 0),
    (⟨(some 27), .len .sl (.t 26), none⟩, .calm),
    (⟨(some 28), .bin .shl (.c (.int .i64 1)) (.t 27), none⟩, .calm),
    (⟨(some 29), .bin .sub (.t 28) (.c (.int .i64 1)), none⟩, .calm),
    (⟨(some 30), .call (.c (.func (.func 27) [] [])) [(.t 20), (.t 29)], none⟩, .anchor)]) (
  .block 0 (
   .rfun (.t 30) [31] (
    .ops [
      ⟨(some 7), .new 74 [(.int .i64 0), (.int .i64 0)], none⟩,
      ⟨none, .st 2 (.t 7) (.t 31), none⟩]) (
    .block 1 (
     .seq (
     .draw [
       (⟨(some 32), .ld1 (.t 4), none⟩, .reads 0 1),
       (⟨(some 33), .ldN 2 (.t 3), none⟩, .reads 0 0),
       (⟨(some 34), .ld1 (.t 6), none⟩, .reads 0 0),
       (⟨(some 35), .ldN 2 (.t 7), none⟩, .reads 0 0),
       (⟨(some 36), .call (.c (.func (.func 28) [] [])) [(.t 33), (.t 34), (.t 35)], none⟩, .anchor),
       (⟨(some 37), .iad none 1 (.t 32) (.t 36), none⟩, .calm),
       (⟨(some 38), .ld1 (.t 37), none⟩, .reads 1 1),
       (⟨(some 8), .mv (.t 38), none⟩, .calm)]) (
     .seq (
     .draw [
       (⟨(some 39), .mv (.t 8), none⟩, .calm),
       (⟨(some 40), .bin .neq (.t 39) (.c (.int .i64 (-1))), none⟩, .calm),
       (⟨(some 41), .mv (.t 40), none⟩, .calm),
       (⟨(some 42), .ld1 (.t 5), some (41, true)⟩, .reads 0 1),
       (⟨(some 43), .ldN 2 (.t 3), some (41, true)⟩, .reads 0 0),
       (⟨(some 44), .ldN 2 (.t 7), some (41, true)⟩, .reads 0 0),
       (⟨(some 45), .mv (.t 8), some (41, true)⟩, .calm),
       (⟨(some 46), .call (.c (.func (.func 32) [] [])) [(.t 43), (.t 44), (.t 45)], some (41, true)⟩, .anchor),
       (⟨(some 47), .call (.t 42) [(.t 46)], some (41, true)⟩, .anchor),
       (⟨(some 48), .un .not (.t 47), some (41, true)⟩, .calm),
       (⟨(some 49), .pick (.t 41) (.t 48) (.c (.bool false)), none⟩, .calm)]) (
     .cond (.t 49) (
      .ret) (
      .skip)))))))))), []⟩
/-- paravane/course.windows -/
def x73 : XF := ⟨42, .seq (
  .ops [
    ⟨(some 2), .mv (.c (.bool false)), none⟩]) (
  .seq (
  .seq (
  .ops [
    ⟨(some 5), .mv (.t 0), none⟩,
    ⟨(some 6), .len .sl (.t 5), none⟩,
    ⟨(some 7), .mv (.c (.int .i64 0)), none⟩]) (
  .block 0 (
   .loop (
    .seq (
    .ops [
      ⟨(some 8), .bin .lss (.t 7) (.t 6), none⟩]) (
    .seq (
    .cond (.t 8) (
     .skip) (
     .exit 0)) (
    .seq (
    .block 1 (
     .seq (
     .ops [
       ⟨(some 9), .mv (.t 7), none⟩,
       ⟨(some 10), .iad none 2 (.t 5) (.t 7), none⟩,
       ⟨(some 11), .ldN 2 (.t 10), none⟩,
       ⟨(some 4), .new 26 [(.int .i64 0), (.int .i64 0)], none⟩,
       ⟨(some 3), .mv (.t 9), none⟩,
       ⟨none, .st 2 (.t 4) (.t 11), none⟩]) (
     .seq (
     .draw [
       (⟨(some 12), .fad 0 (.t 4), none⟩, .calm),
       (⟨(some 13), .ld1 (.t 12), none⟩, .reads 0 0),
       (⟨(some 14), .bin .lss (.t 13) (.c (.int .i64 0)), none⟩, .calm),
       (⟨(some 15), .mv (.t 14), none⟩, .calm),
       (⟨(some 16), .fad 1 (.t 4), some (15, false)⟩, .calm),
       (⟨(some 17), .ld1 (.t 16), some (15, false)⟩, .reads 0 0),
       (⟨(some 18), .fad 0 (.t 4), some (15, false)⟩, .calm),
       (⟨(some 19), .ld1 (.t 18), some (15, false)⟩, .reads 0 0),
       (⟨(some 20), .call (.c (.func (.func 37) [] [])) [(.t 17), (.t 19), (.c (.int .i64 1048576))], some (15, false)⟩, .new),
       (⟨(some 21), .un .not (.t 20), some (15, false)⟩, .calm),
       (⟨(some 22), .pick (.t 15) (.c (.bool true)) (.t 21), none⟩, .calm),
       (⟨(some 23), .mv (.t 22), none⟩, .calm),
       (⟨(some 24), .mv (.t 3), some (23, false)⟩, .calm),
       (⟨(some 25), .bin .gtr (.t 24) (.c (.int .i64 0)), some (23, false)⟩, .calm),
       (⟨(some 26), .mv (.t 25), some (23, false)⟩, .calm),
       (⟨(some 27), .fad 0 (.t 4), some (26, true)⟩, .calm),
       (⟨(some 28), .ld1 (.t 27), some (26, true)⟩, .reads 0 0),
       (⟨(some 29), .mv (.t 0), some (26, true)⟩, .calm),
       (⟨(some 30), .mv (.t 3), some (26, true)⟩, .calm),
       (⟨(some 31), .bin .sub (.t 30) (.c (.int .i64 1)), some (26, true)⟩, .calm),
       (⟨(some 32), .iad none 2 (.t 29) (.t 31), some (26, true)⟩, .calm),
       (⟨(some 33), .fad 1 (.t 32), some (26, true)⟩, .calm),
       (⟨(some 34), .ld1 (.t 33), some (26, true)⟩, .reads 0 0),
       (⟨(some 35), .bin .leq (.t 28) (.t 34), some (26, true)⟩, .calm),
       (⟨(some 36), .pick (.t 26) (.t 35) (.c (.bool false)), some (23, false)⟩, .calm),
       (⟨(some 37), .pick (.t 23) (.c (.bool true)) (.t 36), none⟩, .calm)]) (
     .cond (.t 37) (
      .seq (
      .ops [
        ⟨(some 2), .mv (.c (.bool false)), none⟩]) (
      .ret)) (
      .skip))))) (
    .ops [
      ⟨(some 38), .bin .add (.t 7) (.c (.int .i64 1)), none⟩,
      ⟨(some 7), .mv (.t 38), none⟩]))))))) (
  .seq (
  .ops [
    ⟨(some 39), .mv (.t 0), none⟩,
    ⟨(some 40), .len .sl (.t 39), none⟩,
    ⟨(some 41), .bin .leq (.t 40) (.c (.int .i64 4)), none⟩,
    ⟨(some 2), .mv (.t 41), none⟩]) (
  .ret))), [.tmp 2]⟩
/-- paravane/course.cruise$1 -/
def x74 : XF := ⟨6, .seq (
  .ops [
    ⟨(some 2), .mv (.c (.bool false)), none⟩]) (
  .seq (
  .ops [
    ⟨(some 3), .mv (.t 0), none⟩,
    ⟨(some 4), .call (.c (.func (.func 75) [] [])) [(.t 3)], none⟩,
    ⟨(some 5), .bin .neq (.t 4) (.c (.int .i64 0)), none⟩,
    ⟨(some 2), .mv (.t 5), none⟩]) (
  .ret)), [.tmp 2]⟩
/-- paravane/region.CheckField -/
def x75 : XF := ⟨63, .seq (
  .ops [
    ⟨(some 2), .mv (.c (.int .i64 0)), none⟩]) (
  .seq (
  .seq (
  .ops [
    ⟨(some 10), .mv (.t 0), none⟩,
    ⟨(some 11), .len .sl (.t 10), none⟩,
    ⟨(some 12), .call (.c (.func (.func 79) [] [])) [(.t 11), (.c (.int .i64 3)), (.c (.int .i64 8))], none⟩,
    ⟨(some 13), .un .not (.t 12), none⟩]) (
  .cond (.t 13) (
   .seq (
   .ops [
     ⟨(some 2), .mv (.c (.int .i64 12)), none⟩]) (
   .ret)) (
   .skip))) (
  .seq (
  .seq (
  .ops [
    ⟨(some 14), .mv (.t 0), none⟩,
    ⟨(some 15), .len .sl (.t 14), none⟩,
    ⟨(some 16), .mv (.c (.int .i64 0)), none⟩]) (
  .block 0 (
   .loop (
    .seq (
    .ops [
      ⟨(some 17), .bin .lss (.t 16) (.t 15), none⟩]) (
    .seq (
    .cond (.t 17) (
     .skip) (
     .exit 0)) (
    .seq (
    .block 1 (
     .seq (
     .ops [
       ⟨(some 18), .iad none 2 (.t 14) (.t 16), none⟩,
       ⟨(some 19), .ldN 2 (.t 18), none⟩,
       ⟨(some 4), .new 30 [(.int .i64 0), (.int .i64 0)], none⟩,
       ⟨none, .st 2 (.t 4) (.t 19), none⟩]) (
     .seq (
     .ops [
       ⟨(some 20), .ldN 2 (.t 4), none⟩,
       ⟨(some 21), .call (.c (.func (.func 43) [] [])) [(.t 20)], none⟩,
       ⟨(some 22), .bin .neq (.t 21) (.c (.int .i64 0)), none⟩]) (
     .cond (.t 22) (
      .seq (
      .ops [
        ⟨(some 2), .mv (.c (.int .i64 12)), none⟩]) (
      .ret)) (
      .skip))))) (
    .ops [
      ⟨(some 23), .bin .add (.t 16) (.c (.int .i64 1)), none⟩,
      ⟨(some 16), .mv (.t 23), none⟩]))))))) (
  .seq (
  .seq (
  .ops [
    ⟨(some 24), .mv (.t 0), none⟩,
    ⟨(some 25), .len .sl (.t 24), none⟩,
    ⟨(some 26), .mv (.c (.int .i64 0)), none⟩]) (
  .block 2 (
   .loop (
    .seq (
    .ops [
      ⟨(some 27), .bin .lss (.t 26) (.t 25), none⟩]) (
    .seq (
    .cond (.t 27) (
     .skip) (
     .exit 2)) (
    .seq (
    .block 3 (
     .seq (
     .ops [
       ⟨(some 28), .mv (.t 26), none⟩,
       ⟨(some 29), .iad none 2 (.t 24) (.t 26), none⟩,
       ⟨(some 30), .ldN 2 (.t 29), none⟩,
       ⟨(some 6), .new 30 [(.int .i64 0), (.int .i64 0)], none⟩,
       ⟨(some 5), .mv (.t 28), none⟩,
       ⟨none, .st 2 (.t 6) (.t 30), none⟩]) (
     .seq (
     .ops [
       ⟨(some 31), .mv (.t 5), none⟩,
       ⟨(some 32), .bin .add (.t 31) (.c (.int .i64 1)), none⟩,
       ⟨(some 33), .mv (.t 0), none⟩,
       ⟨(some 34), .len .sl (.t 33), none⟩,
       ⟨(some 35), .bin .rem (.t 32) (.t 34), none⟩,
       ⟨(some 7), .mv (.t 35), none⟩]) (
     .seq (
     .ops [
       ⟨(some 36), .mv (.t 0), none⟩,
       ⟨(some 37), .len .sl (.t 36), none⟩,
       ⟨(some 38), .mv (.c (.int .i64 0)), none⟩]) (
     .block 4 (
      .loop (
       .seq (
       .ops [
         ⟨(some 39), .bin .lss (.t 38) (.t 37), none⟩]) (
       .seq (
       .cond (.t 39) (
        .skip) (
        .exit 4)) (
       .seq (
       .block 5 (
        .seq (
        .ops [
          ⟨(some 40), .mv (.t 38), none⟩,
          ⟨(some 41), .iad none 2 (.t 36) (.t 38), none⟩,
          ⟨(some 42), .ldN 2 (.t 41), none⟩,
          ⟨(some 9), .new 30 [(.int .i64 0), (.int .i64 0)], none⟩,
          ⟨(some 8), .mv (.t 40), none⟩,
          ⟨none, .st 2 (.t 9) (.t 42), none⟩]) (
        .seq (
        .draw [
          (⟨(some 43), .mv (.t 8), none⟩, .calm),
          (⟨(some 44), .mv (.t 5), none⟩, .calm),
          (⟨(some 45), .bin .neq (.t 43) (.t 44), none⟩, .calm),
          (⟨(some 46), .mv (.t 45), none⟩, .calm),
          (⟨(some 47), .mv (.t 8), some (46, true)⟩, .calm),
          (⟨(some 48), .mv (.t 7), some (46, true)⟩, .calm),
          (⟨(some 49), .bin .neq (.t 47) (.t 48), some (46, true)⟩, .calm),
          (⟨(some 50), .pick (.t 46) (.t 49) (.c (.bool false)), none⟩, .calm),
          (⟨(some 51), .mv (.t 50), none⟩, .calm),
          (⟨(some 52), .ldN 2 (.t 6), some (51, true)⟩, .reads 0 0),
          (⟨(some 53), .mv (.t 0), some (51, true)⟩, .calm),
          (⟨(some 54), .mv (.t 7), some (51, true)⟩, .calm),
          (⟨(some 55), .iad none 2 (.t 53) (.t 54), some (51, true)⟩, .calm),
          (⟨(some 56), .ldN 2 (.t 55), some (51, true)⟩, .reads 0 0),
          (⟨(some 57), .ldN 2 (.t 9), some (51, true)⟩, .reads 0 0),
          (⟨(some 58), .call (.c (.func (.func 91) [] [])) [(.t 52), (.t 56), (.t 57)], some (51, true)⟩, .anchor),
          (⟨(some 59), .bin .leq (.t 58) (.c (.int .i64 0)), some (51, true)⟩, .calm),
          (⟨(some 60), .pick (.t 51) (.t 59) (.c (.bool false)), none⟩, .calm)]) (
        .cond (.t 60) (
         .seq (
         .ops [
           ⟨(some 2), .mv (.c (.int .i64 12)), none⟩]) (
         .ret)) (
         .skip))))) (
       .ops [
         ⟨(some 61), .bin .add (.t 38) (.c (.int .i64 1)), none⟩,
         ⟨(some 38), .mv (.t 61), none⟩])))))))))) (
    .ops [
      ⟨(some 62), .bin .add (.t 26) (.c (.int .i64 1)), none⟩,
      ⟨(some 26), .mv (.t 62), none⟩]))))))) (
  .seq (
  .ops [
    ⟨(some 2), .mv (.c (.int .i64 0)), none⟩]) (
  .ret))))), [.tmp 2]⟩
/-- slices.ContainsFunc[[]paravane/api.Point,paravane/api.Point] -/
def x76 : XF := ⟨9, .seq (
  .ops [
    ⟨(some 4), .mv (.c (.bool false)), none⟩]) (
  .seq (
  .ops [
    ⟨(some 5), .mv (.t 0), none⟩,
    ⟨(some 6), .mv (.t 1), none⟩,
    ⟨(some 7), .call (.c (.func (.func 92) [] [])) [(.t 5), (.t 6)], none⟩,
    ⟨(some 8), .bin .geq (.t 7) (.c (.int .i64 0)), none⟩,
    ⟨(some 4), .mv (.t 8), none⟩]) (
  .ret)), [.tmp 4]⟩
/-- paravane/course.cruise$2 -/
def x77 : XF := ⟨6, .seq (
  .ops [
    ⟨(some 1), .box 30 (.t 0), none⟩,
    ⟨(some 2), .mv (.c (.bool false)), none⟩]) (
  .seq (
  .ops [
    ⟨(some 3), .ldN 2 (.t 1), none⟩,
    ⟨(some 4), .call (.c (.func (.func 43) [] [])) [(.t 3)], none⟩,
    ⟨(some 5), .bin .neq (.t 4) (.c (.int .i64 0)), none⟩,
    ⟨(some 2), .mv (.t 5), none⟩]) (
  .ret)), [.tmp 2]⟩
/-- paravane/region.Tight -/
def x78 : XF := ⟨19, .seq (
  .ops [
    ⟨(some 1), .box 28 (.t 0), none⟩,
    ⟨(some 2), .new 28 [(.int .i64 0), (.int .i64 0), (.int .i64 0), (.int .i64 0), (.int .i64 0), (.int .i64 0), (.int .i64 0), (.int .i64 0)], none⟩,
    ⟨(some 3), .mv (.c (.int .i64 0)), none⟩]) (
  .seq (
  .seq (
  .ops [
    ⟨(some 5), .ldN 8 (.t 1), none⟩,
    ⟨(some 6), .call (.c (.func (.func 85) [] [])) [(.t 5)], none⟩,
    ⟨(some 4), .mv (.t 6), none⟩]) (
  .seq (
  .ops [
    ⟨(some 7), .mv (.t 4), none⟩,
    ⟨(some 8), .bin .neq (.t 7) (.c (.int .i64 0)), none⟩]) (
  .cond (.t 8) (
   .seq (
   .ops [
     ⟨(some 9), .build [(.int .i64 0), (.int .i64 0), (.int .i64 0), (.int .i64 0), (.int .i64 0), (.int .i64 0), (.int .i64 0), (.int .i64 0)] [], none⟩,
     ⟨(some 10), .mv (.t 4), none⟩,
     ⟨none, .st 8 (.t 2) (.t 9), none⟩,
     ⟨(some 3), .mv (.t 10), none⟩]) (
   .ret)) (
   .skip)))) (
  .seq (
  .ops [
    ⟨(some 11), .ldN 8 (.t 1), none⟩,
    ⟨(some 12), .call (.c (.func (.func 86) [] [])) [(.t 11)], none⟩,
    ⟨(some 13), .call (.c (.func (.func 94) [] [])) [(.t 12)], none⟩,
    ⟨(some 14), .ext 0 (.t 13), none⟩,
    ⟨(some 15), .ext 1 (.t 13), none⟩,
    ⟨(some 16), .call (.c (.func (.func 93) [] [])) [(.t 14), (.t 15)], none⟩,
    ⟨(some 17), .ext 0 (.t 16), none⟩,
    ⟨(some 18), .ext 1 (.t 16), none⟩,
    ⟨none, .st 8 (.t 2) (.t 17), none⟩,
    ⟨(some 3), .mv (.t 18), none⟩]) (
  .ret))), [.cellN 2 8, .tmp 3]⟩
/-- paravane/region.within -/
def x79 : XF := ⟨15, .seq (
  .ops [
    ⟨(some 6), .mv (.c (.bool false)), none⟩]) (
  .seq (
  .ops [
    ⟨(some 7), .mv (.t 0), none⟩,
    ⟨(some 8), .mv (.t 1), none⟩,
    ⟨(some 9), .bin .geq (.t 7) (.t 8), none⟩,
    ⟨(some 10), .mv (.t 9), none⟩,
    ⟨(some 11), .mv (.t 0), some (10, true)⟩,
    ⟨(some 12), .mv (.t 2), some (10, true)⟩,
    ⟨(some 13), .bin .leq (.t 11) (.t 12), some (10, true)⟩,
    ⟨(some 14), .pick (.t 10) (.t 13) (.c (.bool false)), none⟩,
    ⟨(some 6), .mv (.t 14), none⟩]) (
  .ret)), [.tmp 6]⟩
/-- paravane/region.root -/
def x80 : XF := ⟨22, .seq (
  .ops [
    ⟨(some 2), .mv (.c (.int .i64 0)), none⟩]) (
  .seq (
  .ops [
    ⟨(some 3), .mv (.c (.int .i64 0)), none⟩]) (
  .seq (
  .seq (
  .ops [
    ⟨(some 4), .mv (.c (.int .i64 1048576)), none⟩]) (
  .block 0 (
   .loop (
    .seq (
    .seq (
    .ops [
      ⟨(some 5), .mv (.t 4), none⟩,
      ⟨(some 6), .bin .gtr (.t 5) (.c (.int .i64 0)), none⟩]) (
    .cond (.t 6) (
     .skip) (
     .exit 0))) (
    .seq (
    .block 1 (
     .seq (
     .ops [
       ⟨(some 9), .mv (.t 3), none⟩,
       ⟨(some 10), .mv (.t 4), none⟩,
       ⟨(some 11), .bin .add (.t 9) (.t 10), none⟩,
       ⟨(some 12), .mv (.t 3), none⟩,
       ⟨(some 13), .mv (.t 4), none⟩,
       ⟨(some 14), .bin .add (.t 12) (.t 13), none⟩,
       ⟨(some 15), .bin .mul (.t 11) (.t 14), none⟩,
       ⟨(some 16), .mv (.t 0), none⟩,
       ⟨(some 17), .bin .leq (.t 15) (.t 16), none⟩]) (
     .cond (.t 17) (
      .ops [
        ⟨(some 18), .mv (.t 3), none⟩,
        ⟨(some 19), .mv (.t 4), none⟩,
        ⟨(some 20), .bin .add (.t 18) (.t 19), none⟩,
        ⟨(some 3), .mv (.t 20), none⟩]) (
      .skip)))) (
    .ops [
      ⟨(some 7), .mv (.t 4), none⟩,
      ⟨(some 8), .bin .quo (.t 7) (.c (.int .i64 2)), none⟩,
      ⟨(some 4), .mv (.t 8), none⟩])))))) (
  .seq (
  .ops [
    ⟨(some 21), .mv (.t 3), none⟩,
    ⟨(some 2), .mv (.t 21), none⟩]) (
  .ret)))), [.tmp 2]⟩
/-- paravane/region.Move -/
def x81 : XF := ⟨47, .seq (
  .ops [
    ⟨(some 2), .box 28 (.t 0), none⟩,
    ⟨(some 3), .box 30 (.t 1), none⟩,
    ⟨(some 4), .new 28 [(.int .i64 0), (.int .i64 0), (.int .i64 0), (.int .i64 0), (.int .i64 0), (.int .i64 0), (.int .i64 0), (.int .i64 0)], none⟩,
    ⟨(some 5), .mv (.c (.int .i64 0)), none⟩]) (
  .seq (
  .seq (
  .ops [
    ⟨(some 9), .ldN 8 (.t 2), none⟩,
    ⟨(some 10), .call (.c (.func (.func 85) [] [])) [(.t 9)], none⟩,
    ⟨(some 6), .mv (.t 10), none⟩]) (
  .seq (
  .ops [
    ⟨(some 11), .mv (.t 6), none⟩,
    ⟨(some 12), .bin .neq (.t 11) (.c (.int .i64 0)), none⟩]) (
  .cond (.t 12) (
   .seq (
   .ops [
     ⟨(some 13), .build [(.int .i64 0), (.int .i64 0), (.int .i64 0), (.int .i64 0), (.int .i64 0), (.int .i64 0), (.int .i64 0), (.int .i64 0)] [], none⟩,
     ⟨(some 14), .mv (.t 6), none⟩,
     ⟨none, .st 8 (.t 4) (.t 13), none⟩,
     ⟨(some 5), .mv (.t 14), none⟩]) (
   .ret)) (
   .skip)))) (
  .seq (
  .seq (
  .draw [
    (⟨(some 15), .fad 0 (.t 3), none⟩, .calm),
    (⟨(some 16), .ld1 (.t 15), none⟩, .reads 0 0),
    (⟨(some 17), .call (.c (.func (.func 58) [] [])) [(.c (.int .i64 65536)), (.t 16)], none⟩, .new),
    (⟨(some 18), .fad 0 (.t 3), none⟩, .calm),
    (⟨(some 19), .ld1 (.t 18), none⟩, .reads 0 0),
    (⟨(some 20), .bin .neq (.t 17) (.t 19), none⟩, .calm),
    (⟨(some 21), .mv (.t 20), none⟩, .calm),
    (⟨(some 22), .fad 1 (.t 3), some (21, false)⟩, .calm),
    (⟨(some 23), .ld1 (.t 22), some (21, false)⟩, .reads 0 0),
    (⟨(some 24), .call (.c (.func (.func 58) [] [])) [(.c (.int .i64 65536)), (.t 23)], some (21, false)⟩, .new),
    (⟨(some 25), .fad 1 (.t 3), some (21, false)⟩, .calm),
    (⟨(some 26), .ld1 (.t 25), some (21, false)⟩, .reads 0 0),
    (⟨(some 27), .bin .neq (.t 24) (.t 26), some (21, false)⟩, .calm),
    (⟨(some 28), .pick (.t 21) (.c (.bool true)) (.t 27), none⟩, .calm)]) (
  .cond (.t 28) (
   .seq (
   .ops [
     ⟨(some 29), .build [(.int .i64 0), (.int .i64 0), (.int .i64 0), (.int .i64 0), (.int .i64 0), (.int .i64 0), (.int .i64 0), (.int .i64 0)] [], none⟩,
     ⟨none, .st 8 (.t 4) (.t 29), none⟩,
     ⟨(some 5), .mv (.c (.int .i64 7)), none⟩]) (
   .ret)) (
   .skip))) (
  .seq (
  .ops [
    ⟨(some 31), .ldN 8 (.t 2), none⟩,
    ⟨(some 32), .call (.c (.func (.func 86) [] [])) [(.t 31)], none⟩,
    ⟨(some 33), .call (.c (.func (.func 94) [] [])) [(.t 32)], none⟩,
    ⟨(some 30), .mv (.t 33), none⟩,
    ⟨(some 34), .ext 0 (.t 30), none⟩,
    ⟨(some 35), .ext 1 (.t 30), none⟩,
    ⟨(some 7), .new 158 [(.int .i64 0), (.int .i64 0), (.int .i64 0), (.int .i64 0), (.int .i64 0), (.int .i64 0), (.int .i64 0), (.int .i64 0)], none⟩,
    ⟨none, .st 8 (.t 7) (.t 34), none⟩,
    ⟨(some 8), .mv (.t 35), none⟩]) (
  .seq (
  .seq (
  .ops [
    ⟨(some 36), .mv (.t 8), none⟩,
    ⟨(some 37), .bin .neq (.t 36) (.c (.int .i64 0)), none⟩]) (
  .cond (.t 37) (
   .seq (
   .ops [
     ⟨(some 38), .build [(.int .i64 0), (.int .i64 0), (.int .i64 0), (.int .i64 0), (.int .i64 0), (.int .i64 0), (.int .i64 0), (.int .i64 0)] [], none⟩,
     ⟨(some 39), .mv (.t 8), none⟩,
     ⟨none, .st 8 (.t 4) (.t 38), none⟩,
     ⟨(some 5), .mv (.t 39), none⟩]) (
   .ret)) (
   .skip))) (
  .seq (
  .draw [
    (⟨(some 40), .ldN 8 (.t 7), none⟩, .reads 0 1),
    (⟨(some 41), .ldN 2 (.t 3), none⟩, .reads 0 0),
    (⟨(some 42), .call (.c (.func (.func 97) [] [])) [(.t 41)], none⟩, .anchor),
    (⟨(some 43), .call (.c (.func (.func 96) [] [])) [(.t 40), (.t 42), (.c (.func (.func 98) [] []))], none⟩, .anchor),
    (⟨(some 44), .call (.c (.func (.func 95) [] [])) [(.t 43)], none⟩, .anchor),
    (⟨(some 45), .ext 0 (.t 44), none⟩, .calm),
    (⟨(some 46), .ext 1 (.t 44), none⟩, .calm),
    (⟨none, .st 8 (.t 4) (.t 45), none⟩, .anchor),
    (⟨(some 5), .mv (.t 46), none⟩, .calm)]) (
  .ret)))))), [.cellN 4 8, .tmp 5]⟩
/-- paravane/region.Join -/
def x82 : XF := ⟨35, .seq (
  .ops [
    ⟨(some 2), .box 28 (.t 0), none⟩,
    ⟨(some 3), .box 28 (.t 1), none⟩,
    ⟨(some 4), .new 28 [(.int .i64 0), (.int .i64 0), (.int .i64 0), (.int .i64 0), (.int .i64 0), (.int .i64 0), (.int .i64 0), (.int .i64 0)], none⟩,
    ⟨(some 5), .mv (.c (.int .i64 0)), none⟩]) (
  .seq (
  .seq (
  .draw [
    (⟨(some 9), .ldN 8 (.t 2), none⟩, .reads 0 0),
    (⟨(some 10), .call (.c (.func (.func 85) [] [])) [(.t 9)], none⟩, .anchor),
    (⟨(some 11), .ldN 8 (.t 3), none⟩, .reads 0 1),
    (⟨(some 12), .call (.c (.func (.func 85) [] [])) [(.t 11)], none⟩, .anchor),
    (⟨(some 13), .bsl 37 1 2 [(.int .i64 0)] [(0, 1, (.t 10)), (1, 1, (.t 12))], none⟩, .new),
    (⟨(some 14), .call (.c (.func (.func 84) [] [])) [(.t 13)], none⟩, .anchor),
    (⟨(some 6), .mv (.t 14), none⟩, .calm)]) (
  .seq (
  .ops [
    ⟨(some 15), .mv (.t 6), none⟩,
    ⟨(some 16), .bin .neq (.t 15) (.c (.int .i64 0)), none⟩]) (
  .cond (.t 16) (
   .seq (
   .ops [
     ⟨(some 17), .build [(.int .i64 0), (.int .i64 0), (.int .i64 0), (.int .i64 0), (.int .i64 0), (.int .i64 0), (.int .i64 0), (.int .i64 0)] [], none⟩,
     ⟨(some 18), .mv (.t 6), none⟩,
     ⟨none, .st 8 (.t 4) (.t 17), none⟩,
     ⟨(some 5), .mv (.t 18), none⟩]) (
   .ret)) (
   .skip)))) (
  .seq (
  .draw [
    (⟨(some 20), .ldN 8 (.t 2), none⟩, .reads 0 0),
    (⟨(some 21), .call (.c (.func (.func 86) [] [])) [(.t 20)], none⟩, .anchor),
    (⟨(some 22), .call (.c (.func (.func 100) [] [])) [(.t 21)], none⟩, .anchor),
    (⟨(some 23), .ldN 8 (.t 3), none⟩, .reads 0 2),
    (⟨(some 24), .call (.c (.func (.func 86) [] [])) [(.t 23)], none⟩, .anchor),
    (⟨(some 25), .call (.c (.func (.func 100) [] [])) [(.t 24)], none⟩, .anchor),
    (⟨(some 26), .bsl 176 1 2 [.nilFunc] [(0, 1, (.t 22)), (1, 1, (.t 25))], none⟩, .new),
    (⟨(some 27), .call (.c (.func (.func 99) [] [])) [(.t 26)], none⟩, .anchor),
    (⟨(some 19), .mv (.t 27), none⟩, .calm),
    (⟨(some 28), .ext 0 (.t 19), none⟩, .calm),
    (⟨(some 29), .ext 1 (.t 19), none⟩, .calm),
    (⟨(some 7), .new 158 [(.int .i64 0), (.int .i64 0), (.int .i64 0), (.int .i64 0), (.int .i64 0), (.int .i64 0), (.int .i64 0), (.int .i64 0)], none⟩, .new),
    (⟨none, .st 8 (.t 7) (.t 28), none⟩, .anchor),
    (⟨(some 8), .mv (.t 29), none⟩, .calm)]) (
  .seq (
  .seq (
  .ops [
    ⟨(some 30), .mv (.t 8), none⟩,
    ⟨(some 31), .un .not (.t 30), none⟩]) (
  .cond (.t 31) (
   .seq (
   .ops [
     ⟨(some 32), .build [(.int .i64 0), (.int .i64 0), (.int .i64 0), (.int .i64 0), (.int .i64 0), (.int .i64 0), (.int .i64 0), (.int .i64 0)] [], none⟩,
     ⟨none, .st 8 (.t 4) (.t 32), none⟩,
     ⟨(some 5), .mv (.c (.int .i64 4)), none⟩]) (
   .ret)) (
   .skip))) (
  .seq (
  .ops [
    ⟨(some 33), .ldN 8 (.t 7), none⟩,
    ⟨(some 34), .call (.c (.func (.func 101) [] [])) [(.t 33)], none⟩,
    ⟨none, .st 8 (.t 4) (.t 34), none⟩,
    ⟨(some 5), .mv (.c (.int .i64 0)), none⟩]) (
  .ret))))), [.cellN 4 8, .tmp 5]⟩
/-- slices.IndexFunc[[][]paravane/api.Point,[]paravane/api.Point] -/
def x83 : XF := ⟨19, .seq (
  .ops [
    ⟨(some 4), .mv (.c (.int .i64 0)), none⟩]) (
  .seq (
  .seq (
  .ops [
    ⟨(some 6), .mv (.t 0), none⟩,
    ⟨(some 7), .len .sl (.t 6), none⟩,
    ⟨(some 8), .mv (.c (.int .i64 0)), none⟩]) (
  .block 0 (
   .loop (
    .seq (
    .ops [
      ⟨(some 9), .bin .lss (.t 8) (.t 7), none⟩]) (
    .seq (
    .cond (.t 9) (
     .skip) (
     .exit 0)) (
    .seq (
    .block 1 (
     .seq (
     .ops [
       ⟨(some 10), .mv (.t 8), none⟩,
       ⟨(some 5), .mv (.t 10), none⟩]) (
     .seq (
     .ops [
       ⟨(some 11), .mv (.t 1), none⟩,
       ⟨(some 12), .mv (.t 0), none⟩,
       ⟨(some 13), .mv (.t 5), none⟩,
       ⟨(some 14), .iad none 1 (.t 12) (.t 13), none⟩,
       ⟨(some 15), .ld1 (.t 14), none⟩,
       ⟨(some 16), .call (.t 11) [(.t 15)], none⟩]) (
     .cond (.t 16) (
      .seq (
      .ops [
        ⟨(some 17), .mv (.t 5), none⟩,
        ⟨(some 4), .mv (.t 17), none⟩]) (
      .ret)) (
      .skip))))) (
    .ops [
      ⟨(some 18), .bin .add (.t 8) (.c (.int .i64 1)), none⟩,
      ⟨(some 8), .mv (.t 18), none⟩]))))))) (
  .seq (
  .ops [
    ⟨(some 4), .mv (.c (.int .i64 (-1))), none⟩]) (
  .ret))), [.tmp 4]⟩
/-- paravane/region.first -/
def x84 : XF := ⟨15, .seq (
  .ops [
    ⟨(some 2), .mv (.c (.int .i64 0)), none⟩]) (
  .seq (
  .seq (
  .ops [
    ⟨(some 5), .mv (.t 0), none⟩,
    ⟨(some 6), .len .sl (.t 5), none⟩,
    ⟨(some 7), .mv (.c (.int .i64 0)), none⟩]) (
  .block 0 (
   .loop (
    .seq (
    .ops [
      ⟨(some 8), .bin .lss (.t 7) (.t 6), none⟩]) (
    .seq (
    .cond (.t 8) (
     .skip) (
     .exit 0)) (
    .seq (
    .block 1 (
     .seq (
     .ops [
       ⟨(some 9), .iad none 1 (.t 5) (.t 7), none⟩,
       ⟨(some 10), .ld1 (.t 9), none⟩,
       ⟨(some 4), .mv (.t 10), none⟩]) (
     .seq (
     .ops [
       ⟨(some 11), .mv (.t 4), none⟩,
       ⟨(some 12), .bin .neq (.t 11) (.c (.int .i64 0)), none⟩]) (
     .cond (.t 12) (
      .seq (
      .ops [
        ⟨(some 13), .mv (.t 4), none⟩,
        ⟨(some 2), .mv (.t 13), none⟩]) (
      .ret)) (
      .skip))))) (
    .ops [
      ⟨(some 14), .bin .add (.t 7) (.c (.int .i64 1)), none⟩,
      ⟨(some 7), .mv (.t 14), none⟩]))))))) (
  .seq (
  .ops [
    ⟨(some 2), .mv (.c (.int .i64 0)), none⟩]) (
  .ret))), [.tmp 2]⟩
/-- paravane/region.Check -/
def x85 : XF := ⟨24, .seq (
  .ops [
    ⟨(some 1), .box 28 (.t 0), none⟩,
    ⟨(some 2), .mv (.c (.int .i64 0)), none⟩]) (
  .seq (
  .ops [
    ⟨(some 6), .mkf 102 [(.c (.int .i64 32768))] [], none⟩,
    ⟨(some 7), .mkf 102 [(.c (.int .i64 32768))] [], none⟩,
    ⟨(some 8), .mkf 102 [(.c (.int .i64 65536))] [], none⟩,
    ⟨(some 9), .mkf 102 [(.c (.int .i64 65536))] [], none⟩,
    ⟨(some 10), .build [.nilFunc, .nilFunc, .nilFunc, .nilFunc] [(0, 1, (.t 6)), (1, 1, (.t 7)), (2, 1, (.t 8)), (3, 1, (.t 9))], none⟩,
    ⟨(some 3), .new 181 [.nilFunc, .nilFunc, .nilFunc, .nilFunc], none⟩,
    ⟨none, .st 4 (.t 3) (.t 10), none⟩]) (
  .seq (
  .seq (
  .ops [
    ⟨(some 11), .ldN 8 (.t 1), none⟩,
    ⟨(some 12), .call (.c (.func (.func 86) [] [])) [(.t 11)], none⟩,
    ⟨(some 13), .mv (.c (.int .i64 0)), none⟩]) (
  .block 0 (
   .loop (
    .seq (
    .ops [
      ⟨(some 14), .bin .lss (.t 13) (.c (.int .i64 4)), none⟩]) (
    .seq (
    .cond (.t 14) (
     .skip) (
     .exit 0)) (
    .seq (
    .block 1 (
     .seq (
     .ops [
       ⟨(some 15), .mv (.t 13), none⟩,
       ⟨(some 16), .idx 4 2 true (.t 12) (.t 13), none⟩,
       ⟨(some 5), .new 26 [(.int .i64 0), (.int .i64 0)], none⟩,
       ⟨(some 4), .mv (.t 15), none⟩,
       ⟨none, .st 2 (.t 5) (.t 16), none⟩]) (
     .seq (
     .draw [
       (⟨(some 17), .mv (.t 4), none⟩, .calm),
       (⟨(some 18), .iad (some 4) 1 (.t 3) (.t 17), none⟩, .calm),
       (⟨(some 19), .ld1 (.t 18), none⟩, .reads 0 0),
       (⟨(some 20), .ldN 2 (.t 5), none⟩, .reads 0 0),
       (⟨(some 21), .call (.t 19) [(.t 20)], none⟩, .anchor),
       (⟨(some 22), .un .not (.t 21), none⟩, .calm)]) (
     .cond (.t 22) (
      .seq (
      .ops [
        ⟨(some 2), .mv (.c (.int .i64 11)), none⟩]) (
      .ret)) (
      .skip))))) (
    .ops [
      ⟨(some 23), .bin .add (.t 13) (.c (.int .i64 1)), none⟩,
      ⟨(some 13), .mv (.t 23), none⟩]))))))) (
  .seq (
  .ops [
    ⟨(some 2), .mv (.c (.int .i64 0)), none⟩]) (
  .ret)))), [.tmp 2]⟩
/-- paravane/region.bounds -/
def x86 : XF := ⟨12, .seq (
  .ops [
    ⟨(some 1), .box 28 (.t 0), none⟩,
    ⟨(some 2), .new 158 [(.int .i64 0), (.int .i64 0), (.int .i64 0), (.int .i64 0), (.int .i64 0), (.int .i64 0), (.int .i64 0), (.int .i64 0)], none⟩]) (
  .seq (
  .ops [
    ⟨(some 3), .fad 0 (.t 1), none⟩,
    ⟨(some 4), .ldN 2 (.t 3), none⟩,
    ⟨(some 5), .fad 2 (.t 1), none⟩,
    ⟨(some 6), .ldN 2 (.t 5), none⟩,
    ⟨(some 7), .fad 4 (.t 1), none⟩,
    ⟨(some 8), .ldN 2 (.t 7), none⟩,
    ⟨(some 9), .fad 6 (.t 1), none⟩,
    ⟨(some 10), .ldN 2 (.t 9), none⟩,
    ⟨(some 11), .build [(.int .i64 0), (.int .i64 0), (.int .i64 0), (.int .i64 0), (.int .i64 0), (.int .i64 0), (.int .i64 0), (.int .i64 0)] [(0, 2, (.t 4)), (2, 2, (.t 6)), (4, 2, (.t 8)), (6, 2, (.t 10))], none⟩,
    ⟨none, .st 8 (.t 2) (.t 11), none⟩]) (
  .ret)), [.cellN 2 8]⟩
/-- (paravane/region.four).rows -/
def x87 : XF := ⟨4, .seq (
  .ops [
    ⟨(some 1), .box 158 (.t 0), none⟩,
    ⟨(some 2), .mv (.c .nilFunc), none⟩]) (
  .seq (
  .ops [
    ⟨(some 3), .mkf 103 [] [(.t 1)], none⟩,
    ⟨(some 2), .mv (.t 3), none⟩]) (
  .ret)), [.tmp 2]⟩
/-- paravane/region.sides -/
def x88 : XF := ⟨4, .seq (
  .ops [
    ⟨(some 1), .box 24 (.t 0), none⟩,
    ⟨(some 2), .mv (.c .nilFunc), none⟩]) (
  .seq (
  .ops [
    ⟨(some 3), .mkf 104 [] [(.t 1)], none⟩,
    ⟨(some 2), .mv (.t 3), none⟩]) (
  .ret)), [.tmp 2]⟩
/-- paravane/region.up -/
def x89 : XF := ⟨10, .seq (
  .ops [
    ⟨(some 4), .mv (.c (.int .i64 0)), none⟩]) (
  .seq (
  .ops [
    ⟨(some 5), .mv (.t 0), none⟩,
    ⟨(some 6), .un .neg (.t 5), none⟩,
    ⟨(some 7), .mv (.t 1), none⟩,
    ⟨(some 8), .call (.c (.func (.func 90) [] [])) [(.t 6), (.t 7)], none⟩,
    ⟨(some 9), .un .neg (.t 8), none⟩,
    ⟨(some 4), .mv (.t 9), none⟩]) (
  .ret)), [.tmp 4]⟩
/-- paravane/region.down -/
def x90 : XF := ⟨16, .seq (
  .ops [
    ⟨(some 4), .mv (.c (.int .i64 0)), none⟩]) (
  .seq (
  .ops [
    ⟨(some 6), .mv (.t 0), none⟩,
    ⟨(some 7), .mv (.t 1), none⟩,
    ⟨(some 8), .bin .quo (.t 6) (.t 7), none⟩,
    ⟨(some 5), .mv (.t 8), none⟩]) (
  .seq (
  .seq (
  .ops [
    ⟨(some 9), .mv (.t 0), none⟩,
    ⟨(some 10), .mv (.t 1), none⟩,
    ⟨(some 11), .bin .rem (.t 9) (.t 10), none⟩,
    ⟨(some 12), .bin .lss (.t 11) (.c (.int .i64 0)), none⟩]) (
  .cond (.t 12) (
   .ops [
     ⟨(some 13), .mv (.t 5), none⟩,
     ⟨(some 14), .bin .sub (.t 13) (.c (.int .i64 1)), none⟩,
     ⟨(some 5), .mv (.t 14), none⟩]) (
   .skip))) (
  .seq (
  .ops [
    ⟨(some 15), .mv (.t 5), none⟩,
    ⟨(some 4), .mv (.t 15), none⟩]) (
  .ret)))), [.tmp 4]⟩
/-- paravane/region.left -/
def x91 : XF := ⟨30, .seq (
  .ops [
    ⟨(some 3), .box 30 (.t 0), none⟩,
    ⟨(some 4), .box 30 (.t 1), none⟩,
    ⟨(some 5), .box 30 (.t 2), none⟩,
    ⟨(some 6), .mv (.c (.int .i64 0)), none⟩]) (
  .seq (
  .ops [
    ⟨(some 7), .fad 0 (.t 4), none⟩,
    ⟨(some 8), .ld1 (.t 7), none⟩,
    ⟨(some 9), .fad 0 (.t 3), none⟩,
    ⟨(some 10), .ld1 (.t 9), none⟩,
    ⟨(some 11), .bin .sub (.t 8) (.t 10), none⟩,
    ⟨(some 12), .fad 1 (.t 5), none⟩,
    ⟨(some 13), .ld1 (.t 12), none⟩,
    ⟨(some 14), .fad 1 (.t 3), none⟩,
    ⟨(some 15), .ld1 (.t 14), none⟩,
    ⟨(some 16), .bin .sub (.t 13) (.t 15), none⟩,
    ⟨(some 17), .bin .mul (.t 11) (.t 16), none⟩,
    ⟨(some 18), .fad 1 (.t 4), none⟩,
    ⟨(some 19), .ld1 (.t 18), none⟩,
    ⟨(some 20), .fad 1 (.t 3), none⟩,
    ⟨(some 21), .ld1 (.t 20), none⟩,
    ⟨(some 22), .bin .sub (.t 19) (.t 21), none⟩,
    ⟨(some 23), .fad 0 (.t 5), none⟩,
    ⟨(some 24), .ld1 (.t 23), none⟩,
    ⟨(some 25), .fad 0 (.t 3), none⟩,
    ⟨(some 26), .ld1 (.t 25), none⟩,
    ⟨(some 27), .bin .sub (.t 24) (.t 26), none⟩,
    ⟨(some 28), .bin .mul (.t 22) (.t 27), none⟩,
    ⟨(some 29), .bin .sub (.t 17) (.t 28), none⟩,
    ⟨(some 6), .mv (.t 29), none⟩]) (
  .ret)), [.tmp 6]⟩
/-- slices.IndexFunc[[]paravane/api.Point,paravane/api.Point] -/
def x92 : XF := ⟨19, .seq (
  .ops [
    ⟨(some 4), .mv (.c (.int .i64 0)), none⟩]) (
  .seq (
  .seq (
  .ops [
    ⟨(some 6), .mv (.t 0), none⟩,
    ⟨(some 7), .len .sl (.t 6), none⟩,
    ⟨(some 8), .mv (.c (.int .i64 0)), none⟩]) (
  .block 0 (
   .loop (
    .seq (
    .ops [
      ⟨(some 9), .bin .lss (.t 8) (.t 7), none⟩]) (
    .seq (
    .cond (.t 9) (
     .skip) (
     .exit 0)) (
    .seq (
    .block 1 (
     .seq (
     .ops [
       ⟨(some 10), .mv (.t 8), none⟩,
       ⟨(some 5), .mv (.t 10), none⟩]) (
     .seq (
     .ops [
       ⟨(some 11), .mv (.t 1), none⟩,
       ⟨(some 12), .mv (.t 0), none⟩,
       ⟨(some 13), .mv (.t 5), none⟩,
       ⟨(some 14), .iad none 2 (.t 12) (.t 13), none⟩,
       ⟨(some 15), .ldN 2 (.t 14), none⟩,
       ⟨(some 16), .call (.t 11) [(.t 15)], none⟩]) (
     .cond (.t 16) (
      .seq (
      .ops [
        ⟨(some 17), .mv (.t 5), none⟩,
        ⟨(some 4), .mv (.t 17), none⟩]) (
      .ret)) (
      .skip))))) (
    .ops [
      ⟨(some 18), .bin .add (.t 8) (.c (.int .i64 1)), none⟩,
      ⟨(some 8), .mv (.t 18), none⟩]))))))) (
  .seq (
  .ops [
    ⟨(some 4), .mv (.c (.int .i64 (-1))), none⟩]) (
  .ret))), [.tmp 4]⟩
/-- paravane/region.done -/
def x93 : XF := ⟨12, .seq (
  .ops [
    ⟨(some 2), .box 158 (.t 0), none⟩,
    ⟨(some 4), .new 28 [(.int .i64 0), (.int .i64 0), (.int .i64 0), (.int .i64 0), (.int .i64 0), (.int .i64 0), (.int .i64 0), (.int .i64 0)], none⟩,
    ⟨(some 5), .mv (.c (.int .i64 0)), none⟩]) (
  .seq (
  .seq (
  .ops [
    ⟨(some 6), .mv (.t 1), none⟩,
    ⟨(some 7), .bin .neq (.t 6) (.c (.int .i64 0)), none⟩]) (
  .cond (.t 7) (
   .seq (
   .ops [
     ⟨(some 8), .build [(.int .i64 0), (.int .i64 0), (.int .i64 0), (.int .i64 0), (.int .i64 0), (.int .i64 0), (.int .i64 0), (.int .i64 0)] [], none⟩,
     ⟨(some 9), .mv (.t 1), none⟩,
     ⟨none, .st 8 (.t 4) (.t 8), none⟩,
     ⟨(some 5), .mv (.t 9), none⟩]) (
   .ret)) (
   .skip))) (
  .seq (
  .ops [
    ⟨(some 10), .ldN 8 (.t 2), none⟩,
    ⟨(some 11), .call (.c (.func (.func 101) [] [])) [(.t 10)], none⟩,
    ⟨none, .st 8 (.t 4) (.t 11), none⟩,
    ⟨(some 5), .mv (.c (.int .i64 0)), none⟩]) (
  .ret))), [.cellN 4 8, .tmp 5]⟩
/-- (paravane/region.four).tight -/
def x94 : XF := ⟨17, .seq (
  .ops [
    ⟨(some 1), .box 158 (.t 0), none⟩,
    ⟨(some 2), .new 158 [(.int .i64 0), (.int .i64 0), (.int .i64 0), (.int .i64 0), (.int .i64 0), (.int .i64 0), (.int .i64 0), (.int .i64 0)], none⟩,
    ⟨(some 3), .mv (.c (.int .i64 0)), none⟩]) (
  .seq (
  .ops [
    ⟨(some 7), .ldN 8 (.t 1), none⟩,
    ⟨(some 8), .call (.c (.func (.func 100) [] [])) [(.t 7)], none⟩,
    ⟨(some 9), .bsl 176 1 1 [.nilFunc] [(0, 1, (.t 8))], none⟩,
    ⟨(some 10), .call (.c (.func (.func 99) [] [])) [(.t 9)], none⟩,
    ⟨(some 6), .mv (.t 10), none⟩,
    ⟨(some 11), .ext 0 (.t 6), none⟩,
    ⟨(some 12), .ext 1 (.t 6), none⟩,
    ⟨(some 4), .new 158 [(.int .i64 0), (.int .i64 0), (.int .i64 0), (.int .i64 0), (.int .i64 0), (.int .i64 0), (.int .i64 0), (.int .i64 0)], none⟩,
    ⟨none, .st 8 (.t 4) (.t 11), none⟩,
    ⟨(some 5), .mv (.t 12), none⟩]) (
  .seq (
  .seq (
  .ops [
    ⟨(some 13), .mv (.t 5), none⟩,
    ⟨(some 14), .un .not (.t 13), none⟩]) (
  .cond (.t 14) (
   .seq (
   .ops [
     ⟨(some 15), .build [(.int .i64 0), (.int .i64 0), (.int .i64 0), (.int .i64 0), (.int .i64 0), (.int .i64 0), (.int .i64 0), (.int .i64 0)] [], none⟩,
     ⟨none, .st 8 (.t 2) (.t 15), none⟩,
     ⟨(some 3), .mv (.c (.int .i64 4)), none⟩]) (
   .ret)) (
   .skip))) (
  .seq (
  .ops [
    ⟨(some 16), .ldN 8 (.t 4), none⟩,
    ⟨none, .st 8 (.t 2) (.t 16), none⟩,
    ⟨(some 3), .mv (.c (.int .i64 0)), none⟩]) (
  .ret)))), [.cellN 2 8, .tmp 3]⟩
/-- paravane/region.inside -/
def x95 : XF := ⟨17, .seq (
  .ops [
    ⟨(some 1), .box 158 (.t 0), none⟩,
    ⟨(some 2), .new 28 [(.int .i64 0), (.int .i64 0), (.int .i64 0), (.int .i64 0), (.int .i64 0), (.int .i64 0), (.int .i64 0), (.int .i64 0)], none⟩,
    ⟨(some 3), .mv (.c (.int .i64 0)), none⟩]) (
  .seq (
  .seq (
  .ops [
    ⟨(some 4), .iad (some 4) 2 (.t 1) (.c (.int .i64 0)), none⟩,
    ⟨(some 5), .ldN 2 (.t 4), none⟩,
    ⟨(some 6), .call (.c (.func (.func 102) [] [])) [(.c (.int .i64 32768)), (.t 5)], none⟩,
    ⟨(some 7), .un .not (.t 6), none⟩,
    ⟨(some 8), .mv (.t 7), none⟩,
    ⟨(some 9), .iad (some 4) 2 (.t 1) (.c (.int .i64 1)), some (8, false)⟩,
    ⟨(some 10), .ldN 2 (.t 9), some (8, false)⟩,
    ⟨(some 11), .call (.c (.func (.func 102) [] [])) [(.c (.int .i64 32768)), (.t 10)], some (8, false)⟩,
    ⟨(some 12), .un .not (.t 11), some (8, false)⟩,
    ⟨(some 13), .pick (.t 8) (.c (.bool true)) (.t 12), none⟩]) (
  .cond (.t 13) (
   .seq (
   .ops [
     ⟨(some 14), .build [(.int .i64 0), (.int .i64 0), (.int .i64 0), (.int .i64 0), (.int .i64 0), (.int .i64 0), (.int .i64 0), (.int .i64 0)] [], none⟩,
     ⟨none, .st 8 (.t 2) (.t 14), none⟩,
     ⟨(some 3), .mv (.c (.int .i64 7)), none⟩]) (
   .ret)) (
   .skip))) (
  .seq (
  .ops [
    ⟨(some 15), .ldN 8 (.t 1), none⟩,
    ⟨(some 16), .call (.c (.func (.func 101) [] [])) [(.t 15)], none⟩,
    ⟨none, .st 8 (.t 2) (.t 16), none⟩,
    ⟨(some 3), .mv (.c (.int .i64 0)), none⟩]) (
  .ret))), [.cellN 2 8, .tmp 3]⟩
/-- (paravane/region.four).combined -/
def x96 : XF := ⟨23, .seq (
  .ops [
    ⟨(some 3), .box 158 (.t 0), none⟩,
    ⟨(some 4), .box 158 (.t 1), none⟩,
    ⟨(some 6), .new 158 [(.int .i64 0), (.int .i64 0), (.int .i64 0), (.int .i64 0), (.int .i64 0), (.int .i64 0), (.int .i64 0), (.int .i64 0)], none⟩]) (
  .seq (
  .seq (
  .ops [
    ⟨(some 8), .mv (.c (.int .i64 0)), none⟩]) (
  .block 0 (
   .loop (
    .seq (
    .ops [
      ⟨(some 9), .bin .lss (.t 8) (.c (.int .i64 4)), none⟩]) (
    .seq (
    .cond (.t 9) (
     .skip) (
     .exit 0)) (
    .seq (
    .block 1 (
     .seq (
     .ops [
       ⟨(some 10), .mv (.t 8), none⟩,
       ⟨(some 7), .mv (.t 10), none⟩]) (
     .draw [
       (⟨(some 11), .mv (.t 7), none⟩, .calm),
       (⟨(some 12), .mv (.t 2), none⟩, .calm),
       (⟨(some 13), .mv (.t 7), none⟩, .calm),
       (⟨(some 14), .iad (some 4) 2 (.t 3) (.t 13), none⟩, .calm),
       (⟨(some 15), .ldN 2 (.t 14), none⟩, .reads 0 0),
       (⟨(some 16), .mv (.t 7), none⟩, .calm),
       (⟨(some 17), .iad (some 4) 2 (.t 4) (.t 16), none⟩, .calm),
       (⟨(some 18), .ldN 2 (.t 17), none⟩, .reads 0 0),
       (⟨(some 19), .call (.t 12) [(.t 15), (.t 18)], none⟩, .anchor),
       (⟨(some 20), .iad (some 4) 2 (.t 3) (.t 11), none⟩, .calm),
       (⟨none, .st 2 (.t 20) (.t 19), none⟩, .anchor)]))) (
    .ops [
      ⟨(some 21), .bin .add (.t 8) (.c (.int .i64 1)), none⟩,
      ⟨(some 8), .mv (.t 21), none⟩]))))))) (
  .seq (
  .ops [
    ⟨(some 22), .ldN 8 (.t 3), none⟩,
    ⟨none, .st 8 (.t 6) (.t 22), none⟩]) (
  .ret))), [.cellN 6 8]⟩
/-- paravane/region.of -/
def x97 : XF := ⟨32, .seq (
  .ops [
    ⟨(some 1), .box 30 (.t 0), none⟩,
    ⟨(some 2), .new 158 [(.int .i64 0), (.int .i64 0), (.int .i64 0), (.int .i64 0), (.int .i64 0), (.int .i64 0), (.int .i64 0), (.int .i64 0)], none⟩]) (
  .seq (
  .ops [
    ⟨(some 3), .new 158 [(.int .i64 0), (.int .i64 0), (.int .i64 0), (.int .i64 0), (.int .i64 0), (.int .i64 0), (.int .i64 0), (.int .i64 0)], none⟩]) (
  .seq (
  .seq (
  .ops [
    ⟨(some 6), .fad 0 (.t 1), none⟩,
    ⟨(some 7), .ld1 (.t 6), none⟩,
    ⟨(some 8), .fad 1 (.t 1), none⟩,
    ⟨(some 9), .ld1 (.t 8), none⟩,
    ⟨(some 10), .fad 0 (.t 1), none⟩,
    ⟨(some 11), .ld1 (.t 10), none⟩,
    ⟨(some 12), .fad 1 (.t 1), none⟩,
    ⟨(some 13), .ld1 (.t 12), none⟩,
    ⟨(some 14), .bin .add (.t 11) (.t 13), none⟩,
    ⟨(some 15), .fad 0 (.t 1), none⟩,
    ⟨(some 16), .ld1 (.t 15), none⟩,
    ⟨(some 17), .fad 1 (.t 1), none⟩,
    ⟨(some 18), .ld1 (.t 17), none⟩,
    ⟨(some 19), .bin .sub (.t 16) (.t 18), none⟩,
    ⟨(some 20), .build [(.int .i64 0), (.int .i64 0), (.int .i64 0), (.int .i64 0)] [(0, 1, (.t 7)), (1, 1, (.t 9)), (2, 1, (.t 14)), (3, 1, (.t 19))], none⟩,
    ⟨(some 21), .mv (.c (.int .i64 0)), none⟩]) (
  .block 0 (
   .loop (
    .seq (
    .ops [
      ⟨(some 22), .bin .lss (.t 21) (.c (.int .i64 4)), none⟩]) (
    .seq (
    .cond (.t 22) (
     .skip) (
     .exit 0)) (
    .seq (
    .block 1 (
     .seq (
     .ops [
       ⟨(some 23), .mv (.t 21), none⟩,
       ⟨(some 24), .idx 4 1 false (.t 20) (.t 21), none⟩,
       ⟨(some 4), .mv (.t 23), none⟩,
       ⟨(some 5), .mv (.t 24), none⟩]) (
     .ops [
       ⟨(some 25), .mv (.t 4), none⟩,
       ⟨(some 26), .mv (.t 5), none⟩,
       ⟨(some 27), .mv (.t 5), none⟩,
       ⟨(some 28), .build [(.int .i64 0), (.int .i64 0)] [(0, 1, (.t 26)), (1, 1, (.t 27))], none⟩,
       ⟨(some 29), .iad (some 4) 2 (.t 3) (.t 25), none⟩,
       ⟨none, .st 2 (.t 29) (.t 28), none⟩]))) (
    .ops [
      ⟨(some 30), .bin .add (.t 21) (.c (.int .i64 1)), none⟩,
      ⟨(some 21), .mv (.t 30), none⟩]))))))) (
  .seq (
  .ops [
    ⟨(some 31), .ldN 8 (.t 3), none⟩,
    ⟨none, .st 8 (.t 2) (.t 31), none⟩]) (
  .ret)))), [.cellN 2 8]⟩
/-- paravane/region.plus -/
def x98 : XF := ⟨16, .seq (
  .ops [
    ⟨(some 2), .box 26 (.t 0), none⟩,
    ⟨(some 3), .box 26 (.t 1), none⟩,
    ⟨(some 4), .new 26 [(.int .i64 0), (.int .i64 0)], none⟩]) (
  .seq (
  .ops [
    ⟨(some 5), .fad 0 (.t 2), none⟩,
    ⟨(some 6), .ld1 (.t 5), none⟩,
    ⟨(some 7), .fad 0 (.t 3), none⟩,
    ⟨(some 8), .ld1 (.t 7), none⟩,
    ⟨(some 9), .bin .add (.t 6) (.t 8), none⟩,
    ⟨(some 10), .fad 1 (.t 2), none⟩,
    ⟨(some 11), .ld1 (.t 10), none⟩,
    ⟨(some 12), .fad 1 (.t 3), none⟩,
    ⟨(some 13), .ld1 (.t 12), none⟩,
    ⟨(some 14), .bin .add (.t 11) (.t 13), none⟩,
    ⟨(some 15), .build [(.int .i64 0), (.int .i64 0)] [(0, 1, (.t 9)), (1, 1, (.t 14))], none⟩,
    ⟨none, .st 2 (.t 4) (.t 15), none⟩]) (
  .ret)), [.cellN 4 2]⟩
/-- paravane/region.hull -/
def x99 : XF := ⟨26, .seq (
  .ops [
    ⟨(some 2), .new 158 [(.int .i64 0), (.int .i64 0), (.int .i64 0), (.int .i64 0), (.int .i64 0), (.int .i64 0), (.int .i64 0), (.int .i64 0)], none⟩,
    ⟨(some 3), .new 4 [(.bool false)], none⟩]) (
  .seq (
  .seq (
  .ops [
    ⟨(some 7), .mv (.t 0), none⟩,
    ⟨(some 8), .len .sl (.t 7), none⟩,
    ⟨(some 9), .mv (.c (.int .i64 0)), none⟩]) (
  .block 0 (
   .loop (
    .seq (
    .ops [
      ⟨(some 10), .bin .lss (.t 9) (.t 8), none⟩]) (
    .seq (
    .cond (.t 10) (
     .skip) (
     .exit 0)) (
    .seq (
    .block 1 (
     .seq (
     .ops [
       ⟨(some 11), .iad none 1 (.t 7) (.t 9), none⟩,
       ⟨(some 12), .ld1 (.t 11), none⟩,
       ⟨(some 5), .mv (.t 12), none⟩]) (
     .seq (
     .ops [
       ⟨(some 13), .mv (.t 5), none⟩]) (
     .block 2 (
      .rfun (.t 13) [14] (
       .ops [
         ⟨(some 6), .new 30 [(.int .i64 0), (.int .i64 0)], none⟩,
         ⟨none, .st 2 (.t 6) (.t 14), none⟩]) (
       .block 3 (
        .seq (
        .seq (
        .ops [
          ⟨(some 15), .ld1 (.t 3), none⟩,
          ⟨(some 16), .un .not (.t 15), none⟩]) (
        .cond (.t 16) (
         .ops [
           ⟨(some 17), .ldN 2 (.t 6), none⟩,
           ⟨(some 18), .call (.c (.func (.func 97) [] [])) [(.t 17)], none⟩,
           ⟨none, .st 8 (.t 2) (.t 18), none⟩,
           ⟨none, .st 1 (.t 3) (.c (.bool true)), none⟩]) (
         .skip))) (
        .draw [
          (⟨(some 19), .ldN 8 (.t 2), none⟩, .reads 0 1),
          (⟨(some 20), .ldN 2 (.t 6), none⟩, .reads 0 0),
          (⟨(some 21), .call (.c (.func (.func 97) [] [])) [(.t 20)], none⟩, .anchor),
          (⟨(some 22), .call (.c (.func (.func 96) [] [])) [(.t 19), (.t 21), (.c (.func (.func 105) [] []))], none⟩, .anchor),
          (⟨none, .st 8 (.t 2) (.t 22), none⟩, .anchor)])))))))) (
    .ops [
      ⟨(some 23), .bin .add (.t 9) (.c (.int .i64 1)), none⟩,
      ⟨(some 9), .mv (.t 23), none⟩]))))))) (
  .seq (
  .draw [
    (⟨(some 24), .ldN 8 (.t 2), none⟩, .reads 0 0),
    (⟨(some 25), .ld1 (.t 3), none⟩, .reads 0 1),
    (⟨none, .st 8 (.t 2) (.t 24), none⟩, .anchor),
    (⟨none, .st 1 (.t 3) (.t 25), none⟩, .anchor)]) (
  .ret))), [.cellN 2 8, .cell1 3]⟩
/-- (paravane/region.four).ends -/
def x100 : XF := ⟨4, .seq (
  .ops [
    ⟨(some 1), .box 158 (.t 0), none⟩,
    ⟨(some 2), .mv (.c .nilFunc), none⟩]) (
  .seq (
  .ops [
    ⟨(some 3), .mkf 106 [] [(.t 1)], none⟩,
    ⟨(some 2), .mv (.t 3), none⟩]) (
  .ret)), [.tmp 2]⟩
/-- (paravane/region.four).region -/
def x101 : XF := ⟨12, .seq (
  .ops [
    ⟨(some 1), .box 158 (.t 0), none⟩,
    ⟨(some 2), .new 28 [(.int .i64 0), (.int .i64 0), (.int .i64 0), (.int .i64 0), (.int .i64 0), (.int .i64 0), (.int .i64 0), (.int .i64 0)], none⟩]) (
  .seq (
  .ops [
    ⟨(some 3), .iad (some 4) 2 (.t 1) (.c (.int .i64 0)), none⟩,
    ⟨(some 4), .ldN 2 (.t 3), none⟩,
    ⟨(some 5), .iad (some 4) 2 (.t 1) (.c (.int .i64 1)), none⟩,
    ⟨(some 6), .ldN 2 (.t 5), none⟩,
    ⟨(some 7), .iad (some 4) 2 (.t 1) (.c (.int .i64 2)), none⟩,
    ⟨(some 8), .ldN 2 (.t 7), none⟩,
    ⟨(some 9), .iad (some 4) 2 (.t 1) (.c (.int .i64 3)), none⟩,
    ⟨(some 10), .ldN 2 (.t 9), none⟩,
    ⟨(some 11), .build [(.int .i64 0), (.int .i64 0), (.int .i64 0), (.int .i64 0), (.int .i64 0), (.int .i64 0), (.int .i64 0), (.int .i64 0)] [(0, 2, (.t 4)), (2, 2, (.t 6)), (4, 2, (.t 8)), (6, 2, (.t 10))], none⟩,
    ⟨none, .st 8 (.t 2) (.t 11), none⟩]) (
  .ret)), [.cellN 2 8]⟩
/-- (paravane/region.limit).fits -/
def x102 : XF := ⟨23, .seq (
  .ops [
    ⟨(some 3), .box 26 (.t 1), none⟩,
    ⟨(some 4), .mv (.c (.bool false)), none⟩]) (
  .seq (
  .ops [
    ⟨(some 5), .fad 0 (.t 3), none⟩,
    ⟨(some 6), .ld1 (.t 5), none⟩,
    ⟨(some 7), .mv (.t 0), none⟩,
    ⟨(some 8), .un .neg (.t 7), none⟩,
    ⟨(some 9), .bin .geq (.t 6) (.t 8), none⟩,
    ⟨(some 10), .mv (.t 9), none⟩,
    ⟨(some 11), .fad 0 (.t 3), some (10, true)⟩,
    ⟨(some 12), .ld1 (.t 11), some (10, true)⟩,
    ⟨(some 13), .fad 1 (.t 3), some (10, true)⟩,
    ⟨(some 14), .ld1 (.t 13), some (10, true)⟩,
    ⟨(some 15), .bin .leq (.t 12) (.t 14), some (10, true)⟩,
    ⟨(some 16), .pick (.t 10) (.t 15) (.c (.bool false)), none⟩,
    ⟨(some 17), .mv (.t 16), none⟩,
    ⟨(some 18), .fad 1 (.t 3), some (17, true)⟩,
    ⟨(some 19), .ld1 (.t 18), some (17, true)⟩,
    ⟨(some 20), .mv (.t 0), some (17, true)⟩,
    ⟨(some 21), .bin .leq (.t 19) (.t 20), some (17, true)⟩,
    ⟨(some 22), .pick (.t 17) (.t 21) (.c (.bool false)), none⟩,
    ⟨(some 4), .mv (.t 22), none⟩]) (
  .ret)), [.tmp 4]⟩
/-- (paravane/region.four).rows$1 -/
def x103 : XF := ⟨56, .seq (
  .ops [
    ⟨(some 5), .iad (some 4) 2 (.t 1) (.c (.int .i64 0)), none⟩,
    ⟨(some 6), .fad 0 (.t 5), none⟩,
    ⟨(some 7), .ld1 (.t 6), none⟩,
    ⟨(some 3), .mv (.t 7), none⟩]) (
  .block 0 (
   .loop (
    .seq (
    .seq (
    .ops [
      ⟨(some 8), .mv (.t 3), none⟩,
      ⟨(some 9), .iad (some 4) 2 (.t 1) (.c (.int .i64 0)), none⟩,
      ⟨(some 10), .fad 1 (.t 9), none⟩,
      ⟨(some 11), .ld1 (.t 10), none⟩,
      ⟨(some 12), .bin .leq (.t 8) (.t 11), none⟩]) (
    .cond (.t 12) (
     .skip) (
     .exit 0))) (
    .seq (
    .block 1 (
     .seq (
     .ops [
       ⟨(some 15), .mv (.t 3), none⟩,
       ⟨(some 16), .iad (some 4) 2 (.t 1) (.c (.int .i64 1)), none⟩,
       ⟨(some 17), .fad 0 (.t 16), none⟩,
       ⟨(some 18), .ld1 (.t 17), none⟩,
       ⟨(some 19), .iad (some 4) 2 (.t 1) (.c (.int .i64 2)), none⟩,
       ⟨(some 20), .fad 0 (.t 19), none⟩,
       ⟨(some 21), .ld1 (.t 20), none⟩,
       ⟨(some 22), .mv (.t 3), none⟩,
       ⟨(some 23), .bin .sub (.t 21) (.t 22), none⟩,
       ⟨(some 24), .mv (.t 3), none⟩,
       ⟨(some 25), .iad (some 4) 2 (.t 1) (.c (.int .i64 3)), none⟩,
       ⟨(some 26), .fad 1 (.t 25), none⟩,
       ⟨(some 27), .ld1 (.t 26), none⟩,
       ⟨(some 28), .bin .sub (.t 24) (.t 27), none⟩,
       ⟨(some 29), .max [(.t 18), (.t 23), (.t 28)], none⟩,
       ⟨(some 30), .iad (some 4) 2 (.t 1) (.c (.int .i64 1)), none⟩,
       ⟨(some 31), .fad 1 (.t 30), none⟩,
       ⟨(some 32), .ld1 (.t 31), none⟩,
       ⟨(some 33), .iad (some 4) 2 (.t 1) (.c (.int .i64 2)), none⟩,
       ⟨(some 34), .fad 1 (.t 33), none⟩,
       ⟨(some 35), .ld1 (.t 34), none⟩,
       ⟨(some 36), .mv (.t 3), none⟩,
       ⟨(some 37), .bin .sub (.t 35) (.t 36), none⟩,
       ⟨(some 38), .mv (.t 3), none⟩,
       ⟨(some 39), .iad (some 4) 2 (.t 1) (.c (.int .i64 3)), none⟩,
       ⟨(some 40), .fad 0 (.t 39), none⟩,
       ⟨(some 41), .ld1 (.t 40), none⟩,
       ⟨(some 42), .bin .sub (.t 38) (.t 41), none⟩,
       ⟨(some 43), .min [(.t 32), (.t 37), (.t 42)], none⟩,
       ⟨(some 44), .build [(.int .i64 0), (.int .i64 0), (.int .i64 0)] [(0, 1, (.t 15)), (1, 1, (.t 29)), (2, 1, (.t 43))], none⟩,
       ⟨(some 4), .new 162 [(.int .i64 0), (.int .i64 0), (.int .i64 0)], none⟩,
       ⟨none, .st 3 (.t 4) (.t 44), none⟩]) (
     .seq (
     .ops [
       ⟨(some 45), .fad 1 (.t 4), none⟩,
       ⟨(some 46), .ld1 (.t 45), none⟩,
       ⟨(some 47), .fad 2 (.t 4), none⟩,
       ⟨(some 48), .ld1 (.t 47), none⟩,
       ⟨(some 49), .bin .leq (.t 46) (.t 48), none⟩,
       ⟨(some 50), .mv (.t 49), none⟩,
       ⟨(some 51), .mv (.t 0), some (50, true)⟩,
       ⟨(some 52), .ldN 3 (.t 4), some (50, true)⟩,
       ⟨(some 53), .call (.t 51) [(.t 52)], some (50, true)⟩,
       ⟨(some 54), .un .not (.t 53), some (50, true)⟩,
       ⟨(some 55), .pick (.t 50) (.t 54) (.c (.bool false)), none⟩]) (
     .cond (.t 55) (
      .ret) (
      .skip))))) (
    .ops [
      ⟨(some 13), .mv (.t 3), none⟩,
      ⟨(some 14), .bin .add (.t 13) (.c (.int .i64 1)), none⟩,
      ⟨(some 3), .mv (.t 14), none⟩]))))), []⟩
/-- paravane/region.sides$1 -/
def x104 : XF := ⟨25, .seq (
  .ops [
    ⟨(some 5), .ld1 (.t 1), none⟩,
    ⟨(some 6), .len .sl (.t 5), none⟩,
    ⟨(some 7), .mv (.c (.int .i64 0)), none⟩]) (
  .block 0 (
   .loop (
    .seq (
    .ops [
      ⟨(some 8), .bin .lss (.t 7) (.t 6), none⟩]) (
    .seq (
    .cond (.t 8) (
     .skip) (
     .exit 0)) (
    .seq (
    .block 1 (
     .seq (
     .ops [
       ⟨(some 9), .mv (.t 7), none⟩,
       ⟨(some 10), .iad none 2 (.t 5) (.t 7), none⟩,
       ⟨(some 11), .ldN 2 (.t 10), none⟩,
       ⟨(some 4), .new 30 [(.int .i64 0), (.int .i64 0)], none⟩,
       ⟨(some 3), .mv (.t 9), none⟩,
       ⟨none, .st 2 (.t 4) (.t 11), none⟩]) (
     .seq (
     .draw [
       (⟨(some 12), .mv (.t 0), none⟩, .calm),
       (⟨(some 13), .ldN 2 (.t 4), none⟩, .reads 0 0),
       (⟨(some 14), .ld1 (.t 1), none⟩, .reads 0 0),
       (⟨(some 15), .mv (.t 3), none⟩, .calm),
       (⟨(some 16), .bin .add (.t 15) (.c (.int .i64 1)), none⟩, .calm),
       (⟨(some 17), .ld1 (.t 1), none⟩, .reads 0 0),
       (⟨(some 18), .len .sl (.t 17), none⟩, .calm),
       (⟨(some 19), .bin .rem (.t 16) (.t 18), none⟩, .calm),
       (⟨(some 20), .iad none 2 (.t 14) (.t 19), none⟩, .calm),
       (⟨(some 21), .ldN 2 (.t 20), none⟩, .reads 0 0),
       (⟨(some 22), .call (.t 12) [(.t 13), (.t 21)], none⟩, .anchor),
       (⟨(some 23), .un .not (.t 22), none⟩, .calm)]) (
     .cond (.t 23) (
      .ret) (
      .skip))))) (
    .ops [
      ⟨(some 24), .bin .add (.t 7) (.c (.int .i64 1)), none⟩,
      ⟨(some 7), .mv (.t 24), none⟩])))))), []⟩
/-- paravane/region.span -/
def x105 : XF := ⟨16, .seq (
  .ops [
    ⟨(some 2), .box 26 (.t 0), none⟩,
    ⟨(some 3), .box 26 (.t 1), none⟩,
    ⟨(some 4), .new 26 [(.int .i64 0), (.int .i64 0)], none⟩]) (
  .seq (
  .ops [
    ⟨(some 5), .fad 0 (.t 2), none⟩,
    ⟨(some 6), .ld1 (.t 5), none⟩,
    ⟨(some 7), .fad 0 (.t 3), none⟩,
    ⟨(some 8), .ld1 (.t 7), none⟩,
    ⟨(some 9), .min [(.t 6), (.t 8)], none⟩,
    ⟨(some 10), .fad 1 (.t 2), none⟩,
    ⟨(some 11), .ld1 (.t 10), none⟩,
    ⟨(some 12), .fad 1 (.t 3), none⟩,
    ⟨(some 13), .ld1 (.t 12), none⟩,
    ⟨(some 14), .max [(.t 11), (.t 13)], none⟩,
    ⟨(some 15), .build [(.int .i64 0), (.int .i64 0)] [(0, 1, (.t 9)), (1, 1, (.t 14))], none⟩,
    ⟨none, .st 2 (.t 4) (.t 15), none⟩]) (
  .ret)), [.cellN 4 2]⟩
/-- (paravane/region.four).ends$1 -/
def x106 : XF := ⟨34, .seq (
  .ops [
    ⟨(some 2), .box 149 (.t 0), none⟩]) (
  .seq (
  .ops [
    ⟨(some 6), .ldN 8 (.t 1), none⟩,
    ⟨(some 7), .call (.c (.func (.func 87) [] [])) [(.t 6)], none⟩]) (
  .block 0 (
   .rfun (.t 7) [8] (
    .ops [
      ⟨(some 3), .new 162 [(.int .i64 0), (.int .i64 0), (.int .i64 0)], none⟩,
      ⟨none, .st 3 (.t 3) (.t 8), none⟩]) (
    .block 1 (
     .seq (
     .draw [
       (⟨(some 9), .fad 0 (.t 3), none⟩, .calm),
       (⟨(some 10), .ld1 (.t 9), none⟩, .reads 0 0),
       (⟨(some 11), .fad 1 (.t 3), none⟩, .calm),
       (⟨(some 12), .ld1 (.t 11), none⟩, .reads 0 0),
       (⟨(some 13), .build [(.int .i64 0), (.int .i64 0)] [(0, 1, (.t 10)), (1, 1, (.t 12))], none⟩, .calm),
       (⟨(some 14), .fad 0 (.t 3), none⟩, .calm),
       (⟨(some 15), .ld1 (.t 14), none⟩, .reads 0 1),
       (⟨(some 16), .fad 2 (.t 3), none⟩, .calm),
       (⟨(some 17), .ld1 (.t 16), none⟩, .reads 0 1),
       (⟨(some 18), .build [(.int .i64 0), (.int .i64 0)] [(0, 1, (.t 15)), (1, 1, (.t 17))], none⟩, .calm),
       (⟨(some 4), .new 30 [(.int .i64 0), (.int .i64 0)], none⟩, .new),
       (⟨(some 5), .new 30 [(.int .i64 0), (.int .i64 0)], none⟩, .new),
       (⟨none, .st 2 (.t 4) (.t 13), none⟩, .anchor),
       (⟨none, .st 2 (.t 5) (.t 18), none⟩, .anchor)]) (
     .seq (
     .ops [
       ⟨(some 19), .ld1 (.t 2), none⟩,
       ⟨(some 20), .ldN 2 (.t 4), none⟩,
       ⟨(some 21), .call (.t 19) [(.t 20)], none⟩,
       ⟨(some 22), .un .not (.t 21), none⟩,
       ⟨(some 23), .mv (.t 22), none⟩,
       ⟨(some 24), .ldN 2 (.t 4), some (23, false)⟩,
       ⟨(some 25), .ldN 2 (.t 5), some (23, false)⟩,
       ⟨(some 26), .eqs true 2 [0, 1] (.t 24) (.t 25), some (23, false)⟩,
       ⟨(some 27), .mv (.t 26), some (23, false)⟩,
       ⟨(some 28), .ld1 (.t 2), some (27, true)⟩,
       ⟨(some 29), .ldN 2 (.t 5), some (27, true)⟩,
       ⟨(some 30), .call (.t 28) [(.t 29)], some (27, true)⟩,
       ⟨(some 31), .un .not (.t 30), some (27, true)⟩,
       ⟨(some 32), .pick (.t 27) (.t 31) (.c (.bool false)), some (23, false)⟩,
       ⟨(some 33), .pick (.t 23) (.c (.bool true)) (.t 32), none⟩]) (
     .cond (.t 33) (
      .ret) (
      .skip)))))))), []⟩
theorem k2 : cFn Try.prog 2 = some x2 := by kernel_rfl
theorem k3 : cFn Try.prog 3 = some x3 := by kernel_rfl
theorem k4 : cFn Try.prog 4 = some x4 := by kernel_rfl
theorem k5 : cFn Try.prog 5 = some x5 := by kernel_rfl
theorem k6 : cFn Try.prog 6 = some x6 := by kernel_rfl
theorem k7 : cFn Try.prog 7 = some x7 := by kernel_rfl
theorem k8 : cFn Try.prog 8 = some x8 := by kernel_rfl
theorem k9 : cFn Try.prog 9 = some x9 := by kernel_rfl
theorem k11 : cFn Try.prog 11 = some x11 := by kernel_rfl
theorem k12 : cFn Try.prog 12 = some x12 := by kernel_rfl
theorem k13 : cFn Try.prog 13 = some x13 := by kernel_rfl
theorem k14 : cFn Try.prog 14 = some x14 := by kernel_rfl
theorem k15 : cFn Try.prog 15 = some x15 := by kernel_rfl
theorem k16 : cFn Try.prog 16 = some x16 := by kernel_rfl
theorem k21 : cFn Try.prog 21 = some x21 := by kernel_rfl
theorem k25 : cFn Try.prog 25 = some x25 := by kernel_rfl
theorem k26 : cFn Try.prog 26 = some x26 := by kernel_rfl
theorem k27 : cFn Try.prog 27 = some x27 := by kernel_rfl
theorem k28 : cFn Try.prog 28 = some x28 := by kernel_rfl
theorem k29 : cFn Try.prog 29 = some x29 := by kernel_rfl
theorem k30 : cFn Try.prog 30 = some x30 := by kernel_rfl
theorem k31 : cFn Try.prog 31 = some x31 := by kernel_rfl
theorem k32 : cFn Try.prog 32 = some x32 := by kernel_rfl
theorem k33 : cFn Try.prog 33 = some x33 := by kernel_rfl
theorem k35 : cFn Try.prog 35 = some x35 := by kernel_rfl
theorem k36 : cFn Try.prog 36 = some x36 := by kernel_rfl
theorem k37 : cFn Try.prog 37 = some x37 := by kernel_rfl
theorem k38 : cFn Try.prog 38 = some x38 := by kernel_rfl
theorem k39 : cFn Try.prog 39 = some x39 := by kernel_rfl
theorem k40 : cFn Try.prog 40 = some x40 := by kernel_rfl
theorem k41 : cFn Try.prog 41 = some x41 := by kernel_rfl
theorem k42 : cFn Try.prog 42 = some x42 := by kernel_rfl
theorem k43 : cFn Try.prog 43 = some x43 := by kernel_rfl
theorem k44 : cFn Try.prog 44 = some x44 := by kernel_rfl
theorem k45 : cFn Try.prog 45 = some x45 := by kernel_rfl
theorem k46 : cFn Try.prog 46 = some x46 := by kernel_rfl
theorem k48 : cFn Try.prog 48 = some x48 := by kernel_rfl
theorem k49 : cFn Try.prog 49 = some x49 := by kernel_rfl
theorem k50 : cFn Try.prog 50 = some x50 := by kernel_rfl
theorem k51 : cFn Try.prog 51 = some x51 := by kernel_rfl
theorem k52 : cFn Try.prog 52 = some x52 := by kernel_rfl
theorem k53 : cFn Try.prog 53 = some x53 := by kernel_rfl
theorem k54 : cFn Try.prog 54 = some x54 := by kernel_rfl
theorem k55 : cFn Try.prog 55 = some x55 := by kernel_rfl
theorem k56 : cFn Try.prog 56 = some x56 := by kernel_rfl
theorem k57 : cFn Try.prog 57 = some x57 := by kernel_rfl
theorem k58 : cFn Try.prog 58 = some x58 := by kernel_rfl
theorem k59 : cFn Try.prog 59 = some x59 := by kernel_rfl
theorem k60 : cFn Try.prog 60 = some x60 := by kernel_rfl
theorem k61 : cFn Try.prog 61 = some x61 := by kernel_rfl
theorem k62 : cFn Try.prog 62 = some x62 := by kernel_rfl
theorem k63 : cFn Try.prog 63 = some x63 := by kernel_rfl
theorem k64 : cFn Try.prog 64 = some x64 := by kernel_rfl
theorem k65 : cFn Try.prog 65 = some x65 := by kernel_rfl
theorem k66 : cFn Try.prog 66 = some x66 := by kernel_rfl
theorem k67 : cFn Try.prog 67 = some x67 := by kernel_rfl
theorem k68 : cFn Try.prog 68 = some x68 := by kernel_rfl
theorem k69 : cFn Try.prog 69 = some x69 := by kernel_rfl
theorem k70 : cFn Try.prog 70 = some x70 := by kernel_rfl
theorem k71 : cFn Try.prog 71 = some x71 := by kernel_rfl
theorem k72 : cFn Try.prog 72 = some x72 := by kernel_rfl
theorem k73 : cFn Try.prog 73 = some x73 := by kernel_rfl
theorem k74 : cFn Try.prog 74 = some x74 := by kernel_rfl
theorem k75 : cFn Try.prog 75 = some x75 := by kernel_rfl
theorem k76 : cFn Try.prog 76 = some x76 := by kernel_rfl
theorem k77 : cFn Try.prog 77 = some x77 := by kernel_rfl
theorem k78 : cFn Try.prog 78 = some x78 := by kernel_rfl
theorem k79 : cFn Try.prog 79 = some x79 := by kernel_rfl
theorem k80 : cFn Try.prog 80 = some x80 := by kernel_rfl
theorem k81 : cFn Try.prog 81 = some x81 := by kernel_rfl
theorem k82 : cFn Try.prog 82 = some x82 := by kernel_rfl
theorem k83 : cFn Try.prog 83 = some x83 := by kernel_rfl
theorem k84 : cFn Try.prog 84 = some x84 := by kernel_rfl
theorem k85 : cFn Try.prog 85 = some x85 := by kernel_rfl
theorem k86 : cFn Try.prog 86 = some x86 := by kernel_rfl
theorem k87 : cFn Try.prog 87 = some x87 := by kernel_rfl
theorem k88 : cFn Try.prog 88 = some x88 := by kernel_rfl
theorem k89 : cFn Try.prog 89 = some x89 := by kernel_rfl
theorem k90 : cFn Try.prog 90 = some x90 := by kernel_rfl
theorem k91 : cFn Try.prog 91 = some x91 := by kernel_rfl
theorem k92 : cFn Try.prog 92 = some x92 := by kernel_rfl
theorem k93 : cFn Try.prog 93 = some x93 := by kernel_rfl
theorem k94 : cFn Try.prog 94 = some x94 := by kernel_rfl
theorem k95 : cFn Try.prog 95 = some x95 := by kernel_rfl
theorem k96 : cFn Try.prog 96 = some x96 := by kernel_rfl
theorem k97 : cFn Try.prog 97 = some x97 := by kernel_rfl
theorem k98 : cFn Try.prog 98 = some x98 := by kernel_rfl
theorem k99 : cFn Try.prog 99 = some x99 := by kernel_rfl
theorem k100 : cFn Try.prog 100 = some x100 := by kernel_rfl
theorem k101 : cFn Try.prog 101 = some x101 := by kernel_rfl
theorem k102 : cFn Try.prog 102 = some x102 := by kernel_rfl
theorem k103 : cFn Try.prog 103 = some x103 := by kernel_rfl
theorem k104 : cFn Try.prog 104 = some x104 := by kernel_rfl
theorem k105 : cFn Try.prog 105 = some x105 := by kernel_rfl
theorem k106 : cFn Try.prog 106 = some x106 := by kernel_rfl
end Go.Proofs.Ytpccafeedfpbaaa.C
