/-
 Part of the proof of TapeJoins: what functions of the program and of the statement come to, walked by the rules. No condition beyond those in each theorem.
-/
import Derived.Test.YtlfkmgpngkbhpaaGreatDoorTA
import Derived.Test.YtlfkmgpngkbhpaaGreatDoorPvF
section
open Go PvL Go.Proofs
set_option linter.unusedVariables false
namespace Go.Proofs.YtlfkmgpngkbhpaaGreatDoor.C
def x45 : XF := ⟨15, .seq (
 .ops [
  ⟨(some 6), .mv (.c (.bool false)), none⟩]) (
 .seq (
 .ops [
  ⟨(some 7), .mv (.t 0), none⟩,
  ⟨(some 8), .mv (.t 1), none⟩,
  ⟨(some 9), .bin .geq (.t 7) (.t 8), none⟩,
  ⟨(some 10), .mv (.t 9), none⟩,
  ⟨(some 11), .mv (.t 0), some (10, true)⟩,
  ⟨(some 12), .mv (.t 2), some (10, true)⟩,
  ⟨(some 13), .bin .leq (.t 11) (.t 12), some (10, true)⟩,
  ⟨(some 14), .pick (.t 10) (.t 13) (.c (.bool false)), none⟩,
  ⟨(some 6), .mv (.t 14), none⟩]) (
 .ret)), [.tmp 6]⟩
theorem k45 : cFn Tryz.prog 45 = some x45 := by kernel_rfl
def x5 : XF := ⟨32, .seq (
 .ops [
  ⟨(some 2), .box 24 (.t 0), none⟩,
  ⟨(some 3), .box 24 (.t 1), none⟩,
  ⟨(some 4), .mv (.c (.bool false)), none⟩]) (
 .seq (
 .ops [
  ⟨(some 10), .ldN 3 (.t 2), none⟩,
  ⟨(some 11), .ldN 3 (.t 3), none⟩,
  ⟨(some 12), .call (.c (.func (.func 21) [] [])) [(.t 10), (.t 11)], none⟩,
  ⟨(some 9), .mv (.t 12), none⟩,
  ⟨(some 13), .ext 0 (.t 9), none⟩,
  ⟨(some 14), .ext 1 (.t 9), none⟩,
  ⟨(some 5), .new 24 [(.int .i64 0), (.int .i64 0), (.slice none 0 true 0)], none⟩,
  ⟨none, .st 3 (.t 5) (.t 13), none⟩,
  ⟨(some 6), .mv (.t 14), none⟩]) (
 .seq (
 .ops [
  ⟨(some 16), .ldN 3 (.t 2), none⟩,
  ⟨(some 17), .ldN 3 (.t 3), none⟩,
  ⟨(some 18), .call (.c (.func (.func 40) [] [])) [(.t 16), (.t 17)], none⟩,
  ⟨(some 15), .mv (.t 18), none⟩,
  ⟨(some 19), .ext 0 (.t 15), none⟩,
  ⟨(some 20), .ext 1 (.t 15), none⟩,
  ⟨(some 7), .new 24 [(.int .i64 0), (.int .i64 0), (.slice none 0 true 0)], none⟩,
  ⟨none, .st 3 (.t 7) (.t 19), none⟩,
  ⟨(some 8), .mv (.t 20), none⟩]) (
 .seq (
 .ops [
  ⟨(some 21), .ldN 3 (.t 5), none⟩,
  ⟨(some 22), .ldN 3 (.t 7), none⟩,
  ⟨(some 23), .call (.c (.func (.func 41) [] [])) [(.t 21), (.t 22)], none⟩,
  ⟨(some 24), .mv (.t 23), none⟩,
  ⟨(some 25), .mv (.t 6), some (24, true)⟩,
  ⟨(some 26), .mv (.t 8), some (24, true)⟩,
  ⟨(some 27), .bin .eql (.t 25) (.t 26), some (24, true)⟩,
  ⟨(some 28), .pick (.t 24) (.t 27) (.c (.bool false)), none⟩,
  ⟨(some 29), .mv (.t 28), none⟩,
  ⟨(some 30), .call (.c (.func (.func 32) [] [])) [], some (29, true)⟩,
  ⟨(some 31), .pick (.t 29) (.t 30) (.c (.bool false)), none⟩,
  ⟨(some 4), .mv (.t 31), none⟩]) (
 .ret)))), [.tmp 4]⟩
def x21 : XF := ⟨35, .seq (
 .ops [
  ⟨(some 2), .box 24 (.t 0), none⟩,
  ⟨(some 3), .box 24 (.t 1), none⟩,
  ⟨(some 4), .new 24 [(.int .i64 0), (.int .i64 0), (.slice none 0 true 0)], none⟩,
  ⟨(some 5), .mv (.c (.int .i64 0)), none⟩]) (
 .seq (
 .seq (
 .ops [
  ⟨(some 9), .ldN 3 (.t 2), none⟩,
  ⟨(some 10), .ldN 3 (.t 3), none⟩,
  ⟨(some 11), .build [(.int .i64 0), (.int .i64 0), (.slice none 0 true 0), (.int .i64 0), (.int .i64 0), (.slice none 0 true 0)] [(0, 3, (.t 9)), (3, 3, (.t 10))], none⟩,
  ⟨(some 12), .mv (.c (.int .i64 0)), none⟩]) (
 .block 0 (
  .loop (
   .seq (
   .ops [
    ⟨(some 13), .bin .lss (.t 12) (.c (.int .i64 2)), none⟩]) (
   .seq (
   .cond (.t 13) (
    .skip) (
    .exit 0)) (
   .seq (
   .block 1 (
    .seq (
    .ops [
     ⟨(some 14), .idx 2 3 true (.t 11) (.t 12), none⟩,
     ⟨(some 7), .new 24 [(.int .i64 0), (.int .i64 0), (.slice none 0 true 0)], none⟩,
     ⟨none, .st 3 (.t 7) (.t 14), none⟩]) (
    .seq (
    .ops [
     ⟨(some 15), .ldN 3 (.t 7), none⟩,
     ⟨(some 16), .call (.c (.func (.func 16) [] [])) [(.t 15)], none⟩,
     ⟨(some 8), .mv (.t 16), none⟩]) (
    .seq (
    .ops [
     ⟨(some 17), .mv (.t 8), none⟩,
     ⟨(some 18), .bin .neq (.t 17) (.c (.int .i64 0)), none⟩]) (
    .cond (.t 18) (
     .seq (
     .ops [
      ⟨(some 19), .build [(.int .i64 0), (.int .i64 0), (.slice none 0 true 0)] [], none⟩,
      ⟨(some 20), .mv (.t 8), none⟩,
      ⟨none, .st 3 (.t 4) (.t 19), none⟩,
      ⟨(some 5), .mv (.t 20), none⟩]) (
     .ret)) (
     .skip)))))) (
   .ops [
    ⟨(some 21), .bin .add (.t 12) (.c (.int .i64 1)), none⟩,
    ⟨(some 12), .mv (.t 21), none⟩]))))))) (
 .seq (
 .seq (
 .draw [
  (⟨(some 22), .ldN 3 (.t 2), none⟩, .reads 0 0),
  (⟨(some 23), .call (.c (.func (.func 65) [] [])) [(.t 22)], none⟩, .anchor),
  (⟨(some 24), .ldN 3 (.t 3), none⟩, .reads 0 1),
  (⟨(some 25), .call (.c (.func (.func 65) [] [])) [(.t 24)], none⟩, .anchor),
  (⟨(some 26), .eqg true 101 (.t 23) (.t 25), none⟩, .calm)]) (
 .cond (.t 26) (
  .seq (
  .ops [
   ⟨(some 27), .build [(.int .i64 0), (.int .i64 0), (.slice none 0 true 0)] [], none⟩,
   ⟨none, .st 3 (.t 4) (.t 27), none⟩,
   ⟨(some 5), .mv (.c (.int .i64 2)), none⟩]) (
  .ret)) (
  .skip))) (
 .seq (
 .ops [
  ⟨(some 28), .fad 2 (.t 2), none⟩,
  ⟨(some 29), .ld1 (.t 28), none⟩,
  ⟨(some 30), .fad 2 (.t 3), none⟩,
  ⟨(some 31), .ld1 (.t 30), none⟩,
  ⟨(some 32), .call (.c (.func (.func 73) [] [])) [(.t 29), (.t 31)], none⟩,
  ⟨(some 33), .fad 2 (.t 2), none⟩,
  ⟨none, .st 1 (.t 33) (.t 32), none⟩]) (
 .seq (
 .ops [
  ⟨(some 34), .ldN 3 (.t 2), none⟩,
  ⟨none, .st 3 (.t 4) (.t 34), none⟩,
  ⟨(some 5), .mv (.c (.int .i64 0)), none⟩]) (
 .ret))))), [.cellN 4 3, .tmp 5]⟩
def x16 : XF := ⟨25, .seq (
 .ops [
  ⟨(some 1), .box 24 (.t 0), none⟩,
  ⟨(some 2), .mv (.c (.int .i64 0)), none⟩]) (
 .seq (
 .seq (
 .ops [
  ⟨(some 3), .fad 0 (.t 1), none⟩,
  ⟨(some 4), .ld1 (.t 3), none⟩,
  ⟨(some 5), .call (.c (.func (.func 59) [] [])) [(.t 4), (.c (.int .i64 0)), (.c (.int .i64 60000))], none⟩,
  ⟨(some 6), .un .not (.t 5), none⟩,
  ⟨(some 7), .mv (.t 6), none⟩,
  ⟨(some 8), .fad 1 (.t 1), some (7, false)⟩,
  ⟨(some 9), .ld1 (.t 8), some (7, false)⟩,
  ⟨(some 10), .call (.c (.func (.func 59) [] [])) [(.t 9), (.c (.int .i64 0)), (.c (.int .i64 23))], some (7, false)⟩,
  ⟨(some 11), .un .not (.t 10), some (7, false)⟩,
  ⟨(some 12), .pick (.t 7) (.c (.bool true)) (.t 11), none⟩,
  ⟨(some 13), .mv (.t 12), none⟩,
  ⟨(some 14), .fad 2 (.t 1), some (13, false)⟩,
  ⟨(some 15), .ld1 (.t 14), some (13, false)⟩,
  ⟨(some 16), .len .sl (.t 15), some (13, false)⟩,
  ⟨(some 17), .call (.c (.func (.func 59) [] [])) [(.t 16), (.c (.int .i64 1)), (.c (.int .i64 64))], some (13, false)⟩,
  ⟨(some 18), .un .not (.t 17), some (13, false)⟩,
  ⟨(some 19), .pick (.t 13) (.c (.bool true)) (.t 18), none⟩,
  ⟨(some 20), .mv (.t 19), none⟩,
  ⟨(some 21), .fad 2 (.t 1), some (20, false)⟩,
  ⟨(some 22), .ld1 (.t 21), some (20, false)⟩,
  ⟨(some 23), .call (.c (.func (.func 60) [] [])) [(.t 22), (.c (.func (.func 61) [] []))], some (20, false)⟩,
  ⟨(some 24), .pick (.t 20) (.c (.bool true)) (.t 23), none⟩]) (
 .cond (.t 24) (
  .seq (
  .ops [
   ⟨(some 2), .mv (.c (.int .i64 80)), none⟩]) (
  .ret)) (
  .skip))) (
 .seq (
 .ops [
  ⟨(some 2), .mv (.c (.int .i64 0)), none⟩]) (
 .ret))), [.tmp 2]⟩
def x59 : XF := ⟨15, .seq (
 .ops [
  ⟨(some 6), .mv (.c (.bool false)), none⟩]) (
 .seq (
 .ops [
  ⟨(some 7), .mv (.t 0), none⟩,
  ⟨(some 8), .mv (.t 1), none⟩,
  ⟨(some 9), .bin .geq (.t 7) (.t 8), none⟩,
  ⟨(some 10), .mv (.t 9), none⟩,
  ⟨(some 11), .mv (.t 0), some (10, true)⟩,
  ⟨(some 12), .mv (.t 2), some (10, true)⟩,
  ⟨(some 13), .bin .leq (.t 11) (.t 12), some (10, true)⟩,
  ⟨(some 14), .pick (.t 10) (.t 13) (.c (.bool false)), none⟩,
  ⟨(some 6), .mv (.t 14), none⟩]) (
 .ret)), [.tmp 6]⟩
def x60 : XF := ⟨9, .seq (
 .ops [
  ⟨(some 4), .mv (.c (.bool false)), none⟩]) (
 .seq (
 .ops [
  ⟨(some 5), .mv (.t 0), none⟩,
  ⟨(some 6), .mv (.t 1), none⟩,
  ⟨(some 7), .call (.c (.func (.func 101) [] [])) [(.t 5), (.t 6)], none⟩,
  ⟨(some 8), .bin .geq (.t 7) (.c (.int .i64 0)), none⟩,
  ⟨(some 4), .mv (.t 8), none⟩]) (
 .ret)), [.tmp 4]⟩
def x61 : XF := ⟨6, .seq (
 .ops [
  ⟨(some 2), .mv (.c (.bool false)), none⟩]) (
 .seq (
 .ops [
  ⟨(some 3), .mv (.t 0), none⟩,
  ⟨(some 4), .call (.c (.func (.func 62) [] [])) [(.t 3)], none⟩,
  ⟨(some 5), .un .not (.t 4), none⟩,
  ⟨(some 2), .mv (.t 5), none⟩]) (
 .ret)), [.tmp 2]⟩
def x62 : XF := ⟨13, .seq (
 .ops [
  ⟨(some 2), .mv (.c (.bool false)), none⟩]) (
 .seq (
 .ops [
  ⟨(some 3), .mv (.t 0), none⟩,
  ⟨(some 4), .call (.c (.func (.func 79) [] [])) [(.t 3)], none⟩,
  ⟨(some 5), .mv (.t 4), none⟩,
  ⟨(some 6), .mv (.t 0), some (5, false)⟩,
  ⟨(some 7), .bin .eql (.t 6) (.c (.int .i64 40000)), some (5, false)⟩,
  ⟨(some 8), .pick (.t 5) (.c (.bool true)) (.t 7), none⟩,
  ⟨(some 9), .mv (.t 8), none⟩,
  ⟨(some 10), .mv (.t 0), some (9, false)⟩,
  ⟨(some 11), .bin .eql (.t 10) (.c (.int .i64 40001)), some (9, false)⟩,
  ⟨(some 12), .pick (.t 9) (.c (.bool true)) (.t 11), none⟩,
  ⟨(some 2), .mv (.t 12), none⟩]) (
 .ret)), [.tmp 2]⟩
def x79 : XF := ⟨5, .seq (
 .ops [
  ⟨(some 2), .mv (.c (.bool false)), none⟩]) (
 .seq (
 .ops [
  ⟨(some 3), .mv (.t 0), none⟩,
  ⟨(some 4), .call (.c (.func (.func 59) [] [])) [(.t 3), (.c (.int .i64 (-32767))), (.c (.int .i64 32767))], none⟩,
  ⟨(some 2), .mv (.t 4), none⟩]) (
 .ret)), [.tmp 2]⟩
def x65 : XF := ⟨8, .seq (
 .ops [
  ⟨(some 1), .box 24 (.t 0), none⟩,
  ⟨(some 2), .new 101 [(.int .i64 0), (.int .i64 0)], none⟩]) (
 .seq (
 .ops [
  ⟨(some 3), .fad 0 (.t 1), none⟩,
  ⟨(some 4), .ld1 (.t 3), none⟩,
  ⟨(some 5), .fad 1 (.t 1), none⟩,
  ⟨(some 6), .ld1 (.t 5), none⟩,
  ⟨(some 7), .build [(.int .i64 0), (.int .i64 0)] [(0, 1, (.t 4)), (1, 1, (.t 6))], none⟩,
  ⟨none, .st 2 (.t 2) (.t 7), none⟩]) (
 .ret)), [.cellN 2 2]⟩
def x73 : XF := ⟨30, .seq (
 .ops [
  ⟨(some 4), .mv (.c (.slice none 0 true 0)), none⟩]) (
 .seq (
 .ops [
  ⟨(some 5), .mv (.c (.func (.func 113) [] [])), none⟩]) (
 .seq (
 .ops [
  ⟨(some 6), .mv (.c (.slice none 0 true 0)), none⟩]) (
 .seq (
 .seq (
 .ops [
  ⟨(some 8), .mv (.t 0), none⟩,
  ⟨(some 9), .len .sl (.t 8), none⟩,
  ⟨(some 10), .mv (.t 1), none⟩,
  ⟨(some 11), .len .sl (.t 10), none⟩,
  ⟨(some 12), .max [(.t 9), (.t 11)], none⟩,
  ⟨(some 13), .mv (.c (.int .i64 0)), none⟩]) (
 .block 0 (
  .loop (
   .seq (
   .ops [
    ⟨(some 14), .bin .lss (.t 13) (.t 12), none⟩]) (
   .seq (
   .cond (.t 14) (
    .skip) (
    .exit 0)) (
   .seq (
   .block 1 (
    .seq (
    .ops [
     ⟨(some 15), .mv (.t 13), none⟩,
     ⟨(some 7), .mv (.t 15), none⟩]) (
    .ops [
     ⟨(some 16), .mv (.t 6), none⟩,
     ⟨(some 17), .mv (.t 5), none⟩,
     ⟨(some 18), .mv (.t 0), none⟩,
     ⟨(some 19), .mv (.t 7), none⟩,
     ⟨(some 20), .call (.t 17) [(.t 18), (.t 19)], none⟩,
     ⟨(some 21), .mv (.t 5), none⟩,
     ⟨(some 22), .mv (.t 1), none⟩,
     ⟨(some 23), .mv (.t 7), none⟩,
     ⟨(some 24), .call (.t 21) [(.t 22), (.t 23)], none⟩,
     ⟨(some 25), .call (.c (.func (.func 114) [] [])) [(.t 20), (.t 24), (.c (.int .i64 40000)), (.c (.int .i64 40001))], none⟩,
     ⟨(some 26), .bsl 3 1 1 [(.int .i64 0)] [(0, 1, (.t 25))], none⟩,
     ⟨(some 27), .app 3 1 8 [(.int .i64 0)] (.t 16) (.t 26), none⟩,
     ⟨(some 6), .mv (.t 27), none⟩]))) (
   .ops [
    ⟨(some 28), .bin .add (.t 13) (.c (.int .i64 1)), none⟩,
    ⟨(some 13), .mv (.t 28), none⟩]))))))) (
 .seq (
 .ops [
  ⟨(some 29), .mv (.t 6), none⟩,
  ⟨(some 4), .mv (.t 29), none⟩]) (
 .ret))))), [.tmp 4]⟩
def x113 : XF := ⟨13, .seq (
 .ops [
  ⟨(some 4), .mv (.c (.int .i64 0)), none⟩]) (
 .seq (
 .seq (
 .ops [
  ⟨(some 5), .mv (.t 1), none⟩,
  ⟨(some 6), .mv (.t 0), none⟩,
  ⟨(some 7), .len .sl (.t 6), none⟩,
  ⟨(some 8), .bin .lss (.t 5) (.t 7), none⟩]) (
 .cond (.t 8) (
  .seq (
  .ops [
   ⟨(some 9), .mv (.t 0), none⟩,
   ⟨(some 10), .mv (.t 1), none⟩,
   ⟨(some 11), .iad none 1 (.t 9) (.t 10), none⟩,
   ⟨(some 12), .ld1 (.t 11), none⟩,
   ⟨(some 4), .mv (.t 12), none⟩]) (
  .ret)) (
  .skip))) (
 .seq (
 .ops [
  ⟨(some 4), .mv (.c (.int .i64 40000)), none⟩]) (
 .ret))), [.tmp 4]⟩
def x114 : XF := ⟨23, .seq (
 .ops [
  ⟨(some 8), .mv (.c (.int .i64 0)), none⟩]) (
 .seq (
 .block 0 (
  .seq (
  .seq (
  .ops [
   ⟨(some 10), .mv (.t 0), none⟩,
   ⟨(some 11), .mv (.t 1), none⟩,
   ⟨(some 12), .bin .eql (.t 10) (.t 11), none⟩,
   ⟨(some 9), .mv (.t 12), none⟩]) (
  .cond (.t 9) (
   .skip) (
   .ops [
    ⟨(some 13), .mv (.t 1), none⟩,
    ⟨(some 14), .mv (.t 2), none⟩,
    ⟨(some 15), .bin .eql (.t 13) (.t 14), none⟩,
    ⟨(some 9), .mv (.t 15), none⟩]))) (
  .cond (.t 9) (
   .seq (
   .ops [
    ⟨(some 16), .mv (.t 0), none⟩,
    ⟨(some 8), .mv (.t 16), none⟩]) (
   .ret)) (
   .seq (
   .ops [
    ⟨(some 18), .mv (.t 0), none⟩,
    ⟨(some 19), .mv (.t 2), none⟩,
    ⟨(some 20), .bin .eql (.t 18) (.t 19), none⟩,
    ⟨(some 17), .mv (.t 20), none⟩]) (
   .cond (.t 17) (
    .seq (
    .ops [
     ⟨(some 21), .mv (.t 1), none⟩,
     ⟨(some 8), .mv (.t 21), none⟩]) (
    .ret)) (
    .skip)))))) (
 .seq (
 .ops [
  ⟨(some 22), .mv (.t 3), none⟩,
  ⟨(some 8), .mv (.t 22), none⟩]) (
 .ret))), [.tmp 8]⟩
def x101 : XF := ⟨19, .seq (
 .ops [
  ⟨(some 4), .mv (.c (.int .i64 0)), none⟩]) (
 .seq (
 .seq (
 .ops [
  ⟨(some 6), .mv (.t 0), none⟩,
  ⟨(some 7), .len .sl (.t 6), none⟩,
  ⟨(some 8), .mv (.c (.int .i64 0)), none⟩]) (
 .block 0 (
  .loop (
   .seq (
   .ops [
    ⟨(some 9), .bin .lss (.t 8) (.t 7), none⟩]) (
   .seq (
   .cond (.t 9) (
    .skip) (
    .exit 0)) (
   .seq (
   .block 1 (
    .seq (
    .ops [
     ⟨(some 10), .mv (.t 8), none⟩,
     ⟨(some 5), .mv (.t 10), none⟩]) (
    .seq (
    .ops [
     ⟨(some 11), .mv (.t 1), none⟩,
     ⟨(some 12), .mv (.t 0), none⟩,
     ⟨(some 13), .mv (.t 5), none⟩,
     ⟨(some 14), .iad none 1 (.t 12) (.t 13), none⟩,
     ⟨(some 15), .ld1 (.t 14), none⟩,
     ⟨(some 16), .call (.t 11) [(.t 15)], none⟩]) (
    .cond (.t 16) (
     .seq (
     .ops [
      ⟨(some 17), .mv (.t 5), none⟩,
      ⟨(some 4), .mv (.t 17), none⟩]) (
     .ret)) (
     .skip))))) (
   .ops [
    ⟨(some 18), .bin .add (.t 8) (.c (.int .i64 1)), none⟩,
    ⟨(some 8), .mv (.t 18), none⟩]))))))) (
 .seq (
 .ops [
  ⟨(some 4), .mv (.c (.int .i64 (-1))), none⟩]) (
 .ret))), [.tmp 4]⟩
def x40 : XF := ⟨29, .seq (
 .ops [
  ⟨(some 2), .box 24 (.t 0), none⟩,
  ⟨(some 3), .box 24 (.t 1), none⟩,
  ⟨(some 4), .new 24 [(.int .i64 0), (.int .i64 0), (.slice none 0 true 0)], none⟩,
  ⟨(some 5), .mv (.c (.int .i64 0)), none⟩]) (
 .seq (
 .seq (
 .ops [
  ⟨(some 8), .ldN 3 (.t 2), none⟩,
  ⟨(some 9), .call (.c (.func (.func 33) [] [])) [(.t 8)], none⟩,
  ⟨(some 6), .mv (.t 9), none⟩]) (
 .seq (
 .ops [
  ⟨(some 10), .mv (.t 6), none⟩,
  ⟨(some 11), .bin .neq (.t 10) (.c (.int .i64 0)), none⟩]) (
 .cond (.t 11) (
  .seq (
  .ops [
   ⟨(some 12), .build [(.int .i64 0), (.int .i64 0), (.slice none 0 true 0)] [], none⟩,
   ⟨(some 13), .mv (.t 6), none⟩,
   ⟨none, .st 3 (.t 4) (.t 12), none⟩,
   ⟨(some 5), .mv (.t 13), none⟩]) (
  .ret)) (
  .skip)))) (
 .seq (
 .seq (
 .ops [
  ⟨(some 14), .ldN 3 (.t 3), none⟩,
  ⟨(some 15), .call (.c (.func (.func 33) [] [])) [(.t 14)], none⟩,
  ⟨(some 7), .mv (.t 15), none⟩]) (
 .seq (
 .ops [
  ⟨(some 16), .mv (.t 7), none⟩,
  ⟨(some 17), .bin .neq (.t 16) (.c (.int .i64 0)), none⟩]) (
 .cond (.t 17) (
  .seq (
  .ops [
   ⟨(some 18), .build [(.int .i64 0), (.int .i64 0), (.slice none 0 true 0)] [], none⟩,
   ⟨(some 19), .mv (.t 7), none⟩,
   ⟨none, .st 3 (.t 4) (.t 18), none⟩,
   ⟨(some 5), .mv (.t 19), none⟩]) (
  .ret)) (
  .skip)))) (
 .seq (
 .seq (
 .draw [
  (⟨(some 20), .ldN 3 (.t 2), none⟩, .reads 0 0),
  (⟨(some 21), .call (.c (.func (.func 87) [] [])) [(.t 20)], none⟩, .anchor),
  (⟨(some 22), .ldN 3 (.t 3), none⟩, .reads 0 1),
  (⟨(some 23), .call (.c (.func (.func 87) [] [])) [(.t 22)], none⟩, .anchor),
  (⟨(some 24), .bin .neq (.t 21) (.t 23), none⟩, .calm)]) (
 .cond (.t 24) (
  .seq (
  .ops [
   ⟨(some 25), .build [(.int .i64 0), (.int .i64 0), (.slice none 0 true 0)] [], none⟩,
   ⟨none, .st 3 (.t 4) (.t 25), none⟩,
   ⟨(some 5), .mv (.c (.int .i64 2)), none⟩]) (
  .ret)) (
  .skip))) (
 .seq (
 .ops [
  ⟨(some 26), .ldN 3 (.t 2), none⟩,
  ⟨(some 27), .ldN 3 (.t 3), none⟩,
  ⟨(some 28), .call (.c (.func (.func 91) [] [])) [(.t 26), (.t 27)], none⟩,
  ⟨none, .st 3 (.t 4) (.t 28), none⟩,
  ⟨(some 5), .mv (.c (.int .i64 0)), none⟩]) (
 .ret))))), [.cellN 4 3, .tmp 5]⟩
def x33 : XF := ⟨19, .seq (
 .ops [
  ⟨(some 1), .box 24 (.t 0), none⟩,
  ⟨(some 2), .mv (.c (.int .i64 0)), none⟩]) (
 .seq (
 .seq (
 .ops [
  ⟨(some 3), .fad 0 (.t 1), none⟩,
  ⟨(some 4), .ld1 (.t 3), none⟩,
  ⟨(some 5), .call (.c (.func (.func 45) [] [])) [(.t 4), (.c (.int .i64 0)), (.c (.int .i64 60000))], none⟩,
  ⟨(some 6), .un .not (.t 5), none⟩,
  ⟨(some 7), .mv (.t 6), none⟩,
  ⟨(some 8), .fad 1 (.t 1), some (7, false)⟩,
  ⟨(some 9), .ld1 (.t 8), some (7, false)⟩,
  ⟨(some 10), .call (.c (.func (.func 45) [] [])) [(.t 9), (.c (.int .i64 0)), (.c (.int .i64 23))], some (7, false)⟩,
  ⟨(some 11), .un .not (.t 10), some (7, false)⟩,
  ⟨(some 12), .pick (.t 7) (.c (.bool true)) (.t 11), none⟩,
  ⟨(some 13), .mv (.t 12), none⟩,
  ⟨(some 14), .fad 2 (.t 1), some (13, false)⟩,
  ⟨(some 15), .ld1 (.t 14), some (13, false)⟩,
  ⟨(some 16), .call (.c (.func (.func 85) [] [])) [(.t 15)], some (13, false)⟩,
  ⟨(some 17), .un .not (.t 16), some (13, false)⟩,
  ⟨(some 18), .pick (.t 13) (.c (.bool true)) (.t 17), none⟩]) (
 .cond (.t 18) (
  .seq (
  .ops [
   ⟨(some 2), .mv (.c (.int .i64 80)), none⟩]) (
  .ret)) (
  .skip))) (
 .seq (
 .ops [
  ⟨(some 2), .mv (.c (.int .i64 0)), none⟩]) (
 .ret))), [.tmp 2]⟩
def x85 : XF := ⟨37, .seq (
 .ops [
  ⟨(some 2), .mv (.c (.bool false)), none⟩]) (
 .seq (
 .ops [
  ⟨(some 5), .mv (.t 0), none⟩,
  ⟨(some 6), .len .sl (.t 5), none⟩,
  ⟨(some 7), .call (.c (.func (.func 45) [] [])) [(.t 6), (.c (.int .i64 1)), (.c (.int .i64 64))], none⟩,
  ⟨(some 3), .mv (.t 7), none⟩]) (
 .seq (
 .seq (
 .ops [
  ⟨(some 4), .mv (.c (.int .i64 0)), none⟩]) (
 .block 0 (
  .loop (
   .seq (
   .seq (
   .ops [
    ⟨(some 8), .mv (.t 4), none⟩,
    ⟨(some 9), .mv (.t 0), none⟩,
    ⟨(some 10), .len .sl (.t 9), none⟩,
    ⟨(some 11), .bin .lss (.t 8) (.t 10), none⟩]) (
   .cond (.t 11) (
    .skip) (
    .exit 0))) (
   .seq (
   .block 1 (
    .ops [
     ⟨(some 14), .mv (.t 3), none⟩,
     ⟨(some 15), .mv (.t 14), none⟩,
     ⟨(some 16), .mv (.t 0), some (15, true)⟩,
     ⟨(some 17), .mv (.t 4), some (15, true)⟩,
     ⟨(some 18), .iad none 1 (.t 16) (.t 17), some (15, true)⟩,
     ⟨(some 19), .ld1 (.t 18), some (15, true)⟩,
     ⟨(some 20), .call (.c (.func (.func 92) [] [])) [(.t 19)], some (15, true)⟩,
     ⟨(some 21), .mv (.t 20), some (15, true)⟩,
     ⟨(some 22), .mv (.t 0), some (21, false)⟩,
     ⟨(some 23), .mv (.t 4), some (21, false)⟩,
     ⟨(some 24), .iad none 1 (.t 22) (.t 23), some (21, false)⟩,
     ⟨(some 25), .ld1 (.t 24), some (21, false)⟩,
     ⟨(some 26), .bin .eql (.t 25) (.c (.int .i64 40000)), some (21, false)⟩,
     ⟨(some 27), .pick (.t 21) (.c (.bool true)) (.t 26), some (15, true)⟩,
     ⟨(some 28), .mv (.t 27), some (15, true)⟩,
     ⟨(some 29), .mv (.t 0), some (28, false)⟩,
     ⟨(some 30), .mv (.t 4), some (28, false)⟩,
     ⟨(some 31), .iad none 1 (.t 29) (.t 30), some (28, false)⟩,
     ⟨(some 32), .ld1 (.t 31), some (28, false)⟩,
     ⟨(some 33), .bin .eql (.t 32) (.c (.int .i64 40001)), some (28, false)⟩,
     ⟨(some 34), .pick (.t 28) (.c (.bool true)) (.t 33), some (15, true)⟩,
     ⟨(some 35), .pick (.t 15) (.t 34) (.c (.bool false)), none⟩,
     ⟨(some 3), .mv (.t 35), none⟩])) (
   .ops [
    ⟨(some 12), .mv (.t 4), none⟩,
    ⟨(some 13), .bin .add (.t 12) (.c (.int .i64 1)), none⟩,
    ⟨(some 4), .mv (.t 13), none⟩])))))) (
 .seq (
 .ops [
  ⟨(some 36), .mv (.t 3), none⟩,
  ⟨(some 2), .mv (.t 36), none⟩]) (
 .ret)))), [.tmp 2]⟩
def x92 : XF := ⟨5, .seq (
 .ops [
  ⟨(some 2), .mv (.c (.bool false)), none⟩]) (
 .seq (
 .ops [
  ⟨(some 3), .mv (.t 0), none⟩,
  ⟨(some 4), .call (.c (.func (.func 45) [] [])) [(.t 3), (.c (.int .i64 (-32767))), (.c (.int .i64 32767))], none⟩,
  ⟨(some 2), .mv (.t 4), none⟩]) (
 .ret)), [.tmp 2]⟩
def x87 : XF := ⟨9, .seq (
 .ops [
  ⟨(some 1), .box 24 (.t 0), none⟩,
  ⟨(some 2), .mv (.c (.int .i64 0)), none⟩]) (
 .seq (
 .ops [
  ⟨(some 3), .fad 0 (.t 1), none⟩,
  ⟨(some 4), .ld1 (.t 3), none⟩,
  ⟨(some 5), .bin .mul (.c (.int .i64 24)) (.t 4), none⟩,
  ⟨(some 6), .fad 1 (.t 1), none⟩,
  ⟨(some 7), .ld1 (.t 6), none⟩,
  ⟨(some 8), .bin .add (.t 5) (.t 7), none⟩,
  ⟨(some 2), .mv (.t 8), none⟩]) (
 .ret)), [.tmp 2]⟩
def x91 : XF := ⟨36, .seq (
 .ops [
  ⟨(some 2), .box 24 (.t 0), none⟩,
  ⟨(some 3), .box 24 (.t 1), none⟩,
  ⟨(some 4), .new 24 [(.int .i64 0), (.int .i64 0), (.slice none 0 true 0)], none⟩]) (
 .seq (
 .ops [
  ⟨(some 7), .fad 0 (.t 2), none⟩,
  ⟨(some 8), .ld1 (.t 7), none⟩,
  ⟨(some 9), .fad 1 (.t 2), none⟩,
  ⟨(some 10), .ld1 (.t 9), none⟩,
  ⟨(some 11), .build [(.int .i64 0), (.int .i64 0), (.slice none 0 true 0)] [(0, 1, (.t 8)), (1, 1, (.t 10))], none⟩,
  ⟨(some 5), .new 24 [(.int .i64 0), (.int .i64 0), (.slice none 0 true 0)], none⟩,
  ⟨none, .st 3 (.t 5) (.t 11), none⟩]) (
 .seq (
 .seq (
 .ops [
  ⟨(some 6), .mv (.c (.int .i64 0)), none⟩]) (
 .block 0 (
  .loop (
   .seq (
   .seq (
   .ops [
    ⟨(some 12), .mv (.t 6), none⟩,
    ⟨(some 13), .fad 2 (.t 2), none⟩,
    ⟨(some 14), .ld1 (.t 13), none⟩,
    ⟨(some 15), .len .sl (.t 14), none⟩,
    ⟨(some 16), .fad 2 (.t 3), none⟩,
    ⟨(some 17), .ld1 (.t 16), none⟩,
    ⟨(some 18), .len .sl (.t 17), none⟩,
    ⟨(some 19), .max [(.t 15), (.t 18)], none⟩,
    ⟨(some 20), .bin .lss (.t 12) (.t 19), none⟩]) (
   .cond (.t 20) (
    .skip) (
    .exit 0))) (
   .seq (
   .block 1 (
    .draw [
     (⟨(some 23), .fad 2 (.t 5), none⟩, .calm),
     (⟨(some 24), .ld1 (.t 23), none⟩, .reads 0 2),
     (⟨(some 25), .ldN 3 (.t 2), none⟩, .reads 0 0),
     (⟨(some 26), .mv (.t 6), none⟩, .calm),
     (⟨(some 27), .call (.c (.func (.func 126) [] [])) [(.t 25), (.t 26)], none⟩, .anchor),
     (⟨(some 28), .ldN 3 (.t 3), none⟩, .reads 0 1),
     (⟨(some 29), .mv (.t 6), none⟩, .calm),
     (⟨(some 30), .call (.c (.func (.func 126) [] [])) [(.t 28), (.t 29)], none⟩, .anchor),
     (⟨(some 31), .call (.c (.func (.func 125) [] [])) [(.t 27), (.t 30)], none⟩, .new),
     (⟨(some 32), .bsl 3 1 1 [(.int .i64 0)] [(0, 1, (.t 31))], none⟩, .new),
     (⟨(some 33), .app 3 1 8 [(.int .i64 0)] (.t 24) (.t 32), none⟩, .anchor),
     (⟨(some 34), .fad 2 (.t 5), none⟩, .calm),
     (⟨none, .st 1 (.t 34) (.t 33), none⟩, .anchor)])) (
   .ops [
    ⟨(some 21), .mv (.t 6), none⟩,
    ⟨(some 22), .bin .add (.t 21) (.c (.int .i64 1)), none⟩,
    ⟨(some 6), .mv (.t 22), none⟩])))))) (
 .seq (
 .ops [
  ⟨(some 35), .ldN 3 (.t 5), none⟩,
  ⟨none, .st 3 (.t 4) (.t 35), none⟩]) (
 .ret)))), [.cellN 4 3]⟩
def x125 : XF := ⟨18, .seq (
 .ops [
  ⟨(some 4), .mv (.c (.int .i64 0)), none⟩]) (
 .block 0 (
  .seq (
  .ops [
   ⟨(some 6), .mv (.t 0), none⟩,
   ⟨(some 7), .mv (.t 1), none⟩,
   ⟨(some 8), .bin .eql (.t 6) (.t 7), none⟩,
   ⟨(some 9), .mv (.t 8), none⟩,
   ⟨(some 10), .mv (.t 1), some (9, false)⟩,
   ⟨(some 11), .bin .eql (.t 10) (.c (.int .i64 40000)), some (9, false)⟩,
   ⟨(some 12), .pick (.t 9) (.c (.bool true)) (.t 11), none⟩,
   ⟨(some 5), .mv (.t 12), none⟩]) (
  .cond (.t 5) (
   .seq (
   .ops [
    ⟨(some 13), .mv (.t 0), none⟩,
    ⟨(some 4), .mv (.t 13), none⟩]) (
   .ret)) (
   .seq (
   .ops [
    ⟨(some 15), .mv (.t 0), none⟩,
    ⟨(some 16), .bin .eql (.t 15) (.c (.int .i64 40000)), none⟩,
    ⟨(some 14), .mv (.t 16), none⟩]) (
   .cond (.t 14) (
    .seq (
    .ops [
     ⟨(some 17), .mv (.t 1), none⟩,
     ⟨(some 4), .mv (.t 17), none⟩]) (
    .ret)) (
    .seq (
    .ops [
     ⟨(some 4), .mv (.c (.int .i64 40001)), none⟩]) (
    .ret))))))), [.tmp 4]⟩
def x126 : XF := ⟨15, .seq (
 .ops [
  ⟨(some 2), .box 24 (.t 0), none⟩,
  ⟨(some 4), .mv (.c (.int .i64 0)), none⟩]) (
 .seq (
 .seq (
 .ops [
  ⟨(some 5), .mv (.t 1), none⟩,
  ⟨(some 6), .fad 2 (.t 2), none⟩,
  ⟨(some 7), .ld1 (.t 6), none⟩,
  ⟨(some 8), .len .sl (.t 7), none⟩,
  ⟨(some 9), .bin .geq (.t 5) (.t 8), none⟩]) (
 .cond (.t 9) (
  .seq (
  .ops [
   ⟨(some 4), .mv (.c (.int .i64 40000)), none⟩]) (
  .ret)) (
  .skip))) (
 .seq (
 .ops [
  ⟨(some 10), .fad 2 (.t 2), none⟩,
  ⟨(some 11), .ld1 (.t 10), none⟩,
  ⟨(some 12), .mv (.t 1), none⟩,
  ⟨(some 13), .iad none 1 (.t 11) (.t 12), none⟩,
  ⟨(some 14), .ld1 (.t 13), none⟩,
  ⟨(some 4), .mv (.t 14), none⟩]) (
 .ret))), [.tmp 4]⟩
def x41 : XF := ⟨24, .seq (
 .ops [
  ⟨(some 2), .box 24 (.t 0), none⟩,
  ⟨(some 3), .box 24 (.t 1), none⟩,
  ⟨(some 4), .mv (.c (.bool false)), none⟩]) (
 .seq (
 .ops [
  ⟨(some 5), .fad 0 (.t 2), none⟩,
  ⟨(some 6), .ld1 (.t 5), none⟩,
  ⟨(some 7), .fad 0 (.t 3), none⟩,
  ⟨(some 8), .ld1 (.t 7), none⟩,
  ⟨(some 9), .bin .eql (.t 6) (.t 8), none⟩,
  ⟨(some 10), .mv (.t 9), none⟩,
  ⟨(some 11), .fad 1 (.t 2), some (10, true)⟩,
  ⟨(some 12), .ld1 (.t 11), some (10, true)⟩,
  ⟨(some 13), .fad 1 (.t 3), some (10, true)⟩,
  ⟨(some 14), .ld1 (.t 13), some (10, true)⟩,
  ⟨(some 15), .bin .eql (.t 12) (.t 14), some (10, true)⟩,
  ⟨(some 16), .pick (.t 10) (.t 15) (.c (.bool false)), none⟩,
  ⟨(some 17), .mv (.t 16), none⟩,
  ⟨(some 18), .fad 2 (.t 2), some (17, true)⟩,
  ⟨(some 19), .ld1 (.t 18), some (17, true)⟩,
  ⟨(some 20), .fad 2 (.t 3), some (17, true)⟩,
  ⟨(some 21), .ld1 (.t 20), some (17, true)⟩,
  ⟨(some 22), .call (.c (.func (.func 29) [] [])) [(.t 19), (.t 21)], some (17, true)⟩,
  ⟨(some 23), .pick (.t 17) (.t 22) (.c (.bool false)), none⟩,
  ⟨(some 4), .mv (.t 23), none⟩]) (
 .ret)), [.tmp 4]⟩
def x29 : XF := ⟨26, .seq (
 .ops [
  ⟨(some 4), .mv (.c (.bool false)), none⟩]) (
 .seq (
 .seq (
 .ops [
  ⟨(some 6), .mv (.t 0), none⟩,
  ⟨(some 7), .len .sl (.t 6), none⟩,
  ⟨(some 8), .mv (.t 1), none⟩,
  ⟨(some 9), .len .sl (.t 8), none⟩,
  ⟨(some 10), .bin .neq (.t 7) (.t 9), none⟩]) (
 .cond (.t 10) (
  .seq (
  .ops [
   ⟨(some 4), .mv (.c (.bool false)), none⟩]) (
  .ret)) (
  .skip))) (
 .seq (
 .seq (
 .ops [
  ⟨(some 5), .mv (.c (.int .i64 0)), none⟩]) (
 .block 0 (
  .loop (
   .seq (
   .seq (
   .ops [
    ⟨(some 11), .mv (.t 5), none⟩,
    ⟨(some 12), .mv (.t 0), none⟩,
    ⟨(some 13), .len .sl (.t 12), none⟩,
    ⟨(some 14), .bin .lss (.t 11) (.t 13), none⟩]) (
   .cond (.t 14) (
    .skip) (
    .exit 0))) (
   .seq (
   .block 1 (
    .seq (
    .draw [
     (⟨(some 17), .mv (.t 0), none⟩, .calm),
     (⟨(some 18), .mv (.t 5), none⟩, .calm),
     (⟨(some 19), .iad none 1 (.t 17) (.t 18), none⟩, .calm),
     (⟨(some 20), .ld1 (.t 19), none⟩, .reads 0 0),
     (⟨(some 21), .mv (.t 1), none⟩, .calm),
     (⟨(some 22), .mv (.t 5), none⟩, .calm),
     (⟨(some 23), .iad none 1 (.t 21) (.t 22), none⟩, .calm),
     (⟨(some 24), .ld1 (.t 23), none⟩, .reads 0 0),
     (⟨(some 25), .bin .neq (.t 20) (.t 24), none⟩, .calm)]) (
    .cond (.t 25) (
     .seq (
     .ops [
      ⟨(some 4), .mv (.c (.bool false)), none⟩]) (
     .ret)) (
     .skip)))) (
   .ops [
    ⟨(some 15), .mv (.t 5), none⟩,
    ⟨(some 16), .bin .add (.t 15) (.c (.int .i64 1)), none⟩,
    ⟨(some 5), .mv (.t 16), none⟩])))))) (
 .seq (
 .ops [
  ⟨(some 4), .mv (.c (.bool true)), none⟩]) (
 .ret)))), [.tmp 4]⟩
theorem k5 : cFn Tryz.prog 5 = some x5 := by kernel_rfl
theorem k21 : cFn Tryz.prog 21 = some x21 := by kernel_rfl
theorem k16 : cFn Tryz.prog 16 = some x16 := by kernel_rfl
theorem k59 : cFn Tryz.prog 59 = some x59 := by kernel_rfl
theorem k60 : cFn Tryz.prog 60 = some x60 := by kernel_rfl
theorem k61 : cFn Tryz.prog 61 = some x61 := by kernel_rfl
theorem k62 : cFn Tryz.prog 62 = some x62 := by kernel_rfl
theorem k79 : cFn Tryz.prog 79 = some x79 := by kernel_rfl
theorem k65 : cFn Tryz.prog 65 = some x65 := by kernel_rfl
theorem k73 : cFn Tryz.prog 73 = some x73 := by kernel_rfl
theorem k113 : cFn Tryz.prog 113 = some x113 := by kernel_rfl
theorem k114 : cFn Tryz.prog 114 = some x114 := by kernel_rfl
theorem k101 : cFn Tryz.prog 101 = some x101 := by kernel_rfl
theorem k40 : cFn Tryz.prog 40 = some x40 := by kernel_rfl
theorem k33 : cFn Tryz.prog 33 = some x33 := by kernel_rfl
theorem k85 : cFn Tryz.prog 85 = some x85 := by kernel_rfl
theorem k92 : cFn Tryz.prog 92 = some x92 := by kernel_rfl
theorem k87 : cFn Tryz.prog 87 = some x87 := by kernel_rfl
theorem k91 : cFn Tryz.prog 91 = some x91 := by kernel_rfl
theorem k125 : cFn Tryz.prog 125 = some x125 := by kernel_rfl
theorem k126 : cFn Tryz.prog 126 = some x126 := by kernel_rfl
theorem k41 : cFn Tryz.prog 41 = some x41 := by kernel_rfl
theorem k29 : cFn Tryz.prog 29 = some x29 := by kernel_rfl
end Go.Proofs.YtlfkmgpngkbhpaaGreatDoor.C
end
