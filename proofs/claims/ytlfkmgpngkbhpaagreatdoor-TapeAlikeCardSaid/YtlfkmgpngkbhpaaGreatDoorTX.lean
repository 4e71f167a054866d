/-
 Part of the proof of TapeAlike: what functions of the program and of the statement come to, walked by the rules. No condition beyond those in each theorem.
-/
import Derived.Test.YtlfkmgpngkbhpaaGreatDoorTA
import Derived.Test.YtlfkmgpngkbhpaaGreatDoorPvF
section
open Go PvL Go.Proofs
set_option linter.unusedVariables false
namespace Go.Proofs.YtlfkmgpngkbhpaaGreatDoor.C
def x5 : XF := ⟨32, .seq (
 .ops [
  ⟨(some 2), .box 24 (.t 0), none⟩,
  ⟨(some 3), .box 24 (.t 1), none⟩,
  ⟨(some 4), .mv (.c (.bool false)), none⟩]) (
 .seq (
 .ops [
  ⟨(some 10), .ldN 3 (.t 2), none⟩,
  ⟨(some 11), .ldN 3 (.t 3), none⟩,
  ⟨(some 12), .call (.c (.func (.func 21) [] [])) [(.t 10), (.t 11)], none⟩,
  ⟨(some 9), .mv (.t 12), none⟩,
  ⟨(some 13), .ext 0 (.t 9), none⟩,
  ⟨(some 14), .ext 1 (.t 9), none⟩,
  ⟨(some 5), .new 24 [(.int .i64 0), (.int .i64 0), (.slice none 0 true 0)], none⟩,
  ⟨none, .st 3 (.t 5) (.t 13), none⟩,
  ⟨(some 6), .mv (.t 14), none⟩]) (
 .seq (
 .ops [
  ⟨(some 16), .ldN 3 (.t 2), none⟩,
  ⟨(some 17), .ldN 3 (.t 3), none⟩,
  ⟨(some 18), .call (.c (.func (.func 40) [] [])) [(.t 16), (.t 17)], none⟩,
  ⟨(some 15), .mv (.t 18), none⟩,
  ⟨(some 19), .ext 0 (.t 15), none⟩,
  ⟨(some 20), .ext 1 (.t 15), none⟩,
  ⟨(some 7), .new 24 [(.int .i64 0), (.int .i64 0), (.slice none 0 true 0)], none⟩,
  ⟨none, .st 3 (.t 7) (.t 19), none⟩,
  ⟨(some 8), .mv (.t 20), none⟩]) (
 .seq (
 .ops [
  ⟨(some 21), .ldN 3 (.t 5), none⟩,
  ⟨(some 22), .ldN 3 (.t 7), none⟩,
  ⟨(some 23), .call (.c (.func (.func 41) [] [])) [(.t 21), (.t 22)], none⟩,
  ⟨(some 24), .mv (.t 23), none⟩,
  ⟨(some 25), .mv (.t 6), some (24, true)⟩,
  ⟨(some 26), .mv (.t 8), some (24, true)⟩,
  ⟨(some 27), .bin .eql (.t 25) (.t 26), some (24, true)⟩,
  ⟨(some 28), .pick (.t 24) (.t 27) (.c (.bool false)), none⟩,
  ⟨(some 29), .mv (.t 28), none⟩,
  ⟨(some 30), .call (.c (.func (.func 32) [] [])) [], some (29, true)⟩,
  ⟨(some 31), .pick (.t 29) (.t 30) (.c (.bool false)), none⟩,
  ⟨(some 4), .mv (.t 31), none⟩]) (
 .ret)))), [.tmp 4]⟩
def x21 : XF := ⟨35, .seq (
 .ops [
  ⟨(some 2), .box 24 (.t 0), none⟩,
  ⟨(some 3), .box 24 (.t 1), none⟩,
  ⟨(some 4), .new 24 [(.int .i64 0), (.int .i64 0), (.slice none 0 true 0)], none⟩,
  ⟨(some 5), .mv (.c (.int .i64 0)), none⟩]) (
 .seq (
 .seq (
 .ops [
  ⟨(some 9), .ldN 3 (.t 2), none⟩,
  ⟨(some 10), .ldN 3 (.t 3), none⟩,
  ⟨(some 11), .build [(.int .i64 0), (.int .i64 0), (.slice none 0 true 0), (.int .i64 0), (.int .i64 0), (.slice none 0 true 0)] [(0, 3, (.t 9)), (3, 3, (.t 10))], none⟩,
  ⟨(some 12), .mv (.c (.int .i64 0)), none⟩]) (
 .block 0 (
  .loop (
   .seq (
   .ops [
    ⟨(some 13), .bin .lss (.t 12) (.c (.int .i64 2)), none⟩]) (
   .seq (
   .cond (.t 13) (
    .skip) (
    .exit 0)) (
   .seq (
   .block 1 (
    .seq (
    .ops [
     ⟨(some 14), .idx 2 3 true (.t 11) (.t 12), none⟩,
     ⟨(some 7), .new 24 [(.int .i64 0), (.int .i64 0), (.slice none 0 true 0)], none⟩,
     ⟨none, .st 3 (.t 7) (.t 14), none⟩]) (
    .seq (
    .ops [
     ⟨(some 15), .ldN 3 (.t 7), none⟩,
     ⟨(some 16), .call (.c (.func (.func 16) [] [])) [(.t 15)], none⟩,
     ⟨(some 8), .mv (.t 16), none⟩]) (
    .seq (
    .ops [
     ⟨(some 17), .mv (.t 8), none⟩,
     ⟨(some 18), .bin .neq (.t 17) (.c (.int .i64 0)), none⟩]) (
    .cond (.t 18) (
     .seq (
     .ops [
      ⟨(some 19), .build [(.int .i64 0), (.int .i64 0), (.slice none 0 true 0)] [], none⟩,
      ⟨(some 20), .mv (.t 8), none⟩,
      ⟨none, .st 3 (.t 4) (.t 19), none⟩,
      ⟨(some 5), .mv (.t 20), none⟩]) (
     .ret)) (
     .skip)))))) (
   .ops [
    ⟨(some 21), .bin .add (.t 12) (.c (.int .i64 1)), none⟩,
    ⟨(some 12), .mv (.t 21), none⟩]))))))) (
 .seq (
 .seq (
 .draw [
  (⟨(some 22), .ldN 3 (.t 2), none⟩, .reads 0 0),
  (⟨(some 23), .call (.c (.func (.func 65) [] [])) [(.t 22)], none⟩, .anchor),
  (⟨(some 24), .ldN 3 (.t 3), none⟩, .reads 0 1),
  (⟨(some 25), .call (.c (.func (.func 65) [] [])) [(.t 24)], none⟩, .anchor),
  (⟨(some 26), .eqg true 101 (.t 23) (.t 25), none⟩, .calm)]) (
 .cond (.t 26) (
  .seq (
  .ops [
   ⟨(some 27), .build [(.int .i64 0), (.int .i64 0), (.slice none 0 true 0)] [], none⟩,
   ⟨none, .st 3 (.t 4) (.t 27), none⟩,
   ⟨(some 5), .mv (.c (.int .i64 2)), none⟩]) (
  .ret)) (
  .skip))) (
 .seq (
 .ops [
  ⟨(some 28), .fad 2 (.t 2), none⟩,
  ⟨(some 29), .ld1 (.t 28), none⟩,
  ⟨(some 30), .fad 2 (.t 3), none⟩,
  ⟨(some 31), .ld1 (.t 30), none⟩,
  ⟨(some 32), .call (.c (.func (.func 73) [] [])) [(.t 29), (.t 31)], none⟩,
  ⟨(some 33), .fad 2 (.t 2), none⟩,
  ⟨none, .st 1 (.t 33) (.t 32), none⟩]) (
 .seq (
 .ops [
  ⟨(some 34), .ldN 3 (.t 2), none⟩,
  ⟨none, .st 3 (.t 4) (.t 34), none⟩,
  ⟨(some 5), .mv (.c (.int .i64 0)), none⟩]) (
 .ret))))), [.cellN 4 3, .tmp 5]⟩
def x16 : XF := ⟨25, .seq (
 .ops [
  ⟨(some 1), .box 24 (.t 0), none⟩,
  ⟨(some 2), .mv (.c (.int .i64 0)), none⟩]) (
 .seq (
 .seq (
 .ops [
  ⟨(some 3), .fad 0 (.t 1), none⟩,
  ⟨(some 4), .ld1 (.t 3), none⟩,
  ⟨(some 5), .call (.c (.func (.func 59) [] [])) [(.t 4), (.c (.int .i64 0)), (.c (.int .i64 60000))], none⟩,
  ⟨(some 6), .un .not (.t 5), none⟩,
  ⟨(some 7), .mv (.t 6), none⟩,
  ⟨(some 8), .fad 1 (.t 1), some (7, false)⟩,
  ⟨(some 9), .ld1 (.t 8), some (7, false)⟩,
  ⟨(some 10), .call (.c (.func (.func 59) [] [])) [(.t 9), (.c (.int .i64 0)), (.c (.int .i64 23))], some (7, false)⟩,
  ⟨(some 11), .un .not (.t 10), some (7, false)⟩,
  ⟨(some 12), .pick (.t 7) (.c (.bool true)) (.t 11), none⟩,
  ⟨(some 13), .mv (.t 12), none⟩,
  ⟨(some 14), .fad 2 (.t 1), some (13, false)⟩,
  ⟨(some 15), .ld1 (.t 14), some (13, false)⟩,
  ⟨(some 16), .len .sl (.t 15), some (13, false)⟩,
  ⟨(some 17), .call (.c (.func (.func 59) [] [])) [(.t 16), (.c (.int .i64 1)), (.c (.int .i64 64))], some (13, false)⟩,
  ⟨(some 18), .un .not (.t 17), some (13, false)⟩,
  ⟨(some 19), .pick (.t 13) (.c (.bool true)) (.t 18), none⟩,
  ⟨(some 20), .mv (.t 19), none⟩,
  ⟨(some 21), .fad 2 (.t 1), some (20, false)⟩,
  ⟨(some 22), .ld1 (.t 21), some (20, false)⟩,
  ⟨(some 23), .call (.c (.func (.func 60) [] [])) [(.t 22), (.c (.func (.func 61) [] []))], some (20, false)⟩,
  ⟨(some 24), .pick (.t 20) (.c (.bool true)) (.t 23), none⟩]) (
 .cond (.t 24) (
  .seq (
  .ops [
   ⟨(some 2), .mv (.c (.int .i64 80)), none⟩]) (
  .ret)) (
  .skip))) (
 .seq (
 .ops [
  ⟨(some 2), .mv (.c (.int .i64 0)), none⟩]) (
 .ret))), [.tmp 2]⟩
def x59 : XF := ⟨15, .seq (
 .ops [
  ⟨(some 6), .mv (.c (.bool false)), none⟩]) (
 .seq (
 .ops [
  ⟨(some 7), .mv (.t 0), none⟩,
  ⟨(some 8), .mv (.t 1), none⟩,
  ⟨(some 9), .bin .geq (.t 7) (.t 8), none⟩,
  ⟨(some 10), .mv (.t 9), none⟩,
  ⟨(some 11), .mv (.t 0), some (10, true)⟩,
  ⟨(some 12), .mv (.t 2), some (10, true)⟩,
  ⟨(some 13), .bin .leq (.t 11) (.t 12), some (10, true)⟩,
  ⟨(some 14), .pick (.t 10) (.t 13) (.c (.bool false)), none⟩,
  ⟨(some 6), .mv (.t 14), none⟩]) (
 .ret)), [.tmp 6]⟩
def x60 : XF := ⟨9, .seq (
 .ops [
  ⟨(some 4), .mv (.c (.bool false)), none⟩]) (
 .seq (
 .ops [
  ⟨(some 5), .mv (.t 0), none⟩,
  ⟨(some 6), .mv (.t 1), none⟩,
  ⟨(some 7), .call (.c (.func (.func 101) [] [])) [(.t 5), (.t 6)], none⟩,
  ⟨(some 8), .bin .geq (.t 7) (.c (.int .i64 0)), none⟩,
  ⟨(some 4), .mv (.t 8), none⟩]) (
 .ret)), [.tmp 4]⟩
def x61 : XF := ⟨6, .seq (
 .ops [
  ⟨(some 2), .mv (.c (.bool false)), none⟩]) (
 .seq (
 .ops [
  ⟨(some 3), .mv (.t 0), none⟩,
  ⟨(some 4), .call (.c (.func (.func 62) [] [])) [(.t 3)], none⟩,
  ⟨(some 5), .un .not (.t 4), none⟩,
  ⟨(some 2), .mv (.t 5), none⟩]) (
 .ret)), [.tmp 2]⟩
def x62 : XF := ⟨13, .seq (
 .ops [
  ⟨(some 2), .mv (.c (.bool false)), none⟩]) (
 .seq (
 .ops [
  ⟨(some 3), .mv (.t 0), none⟩,
  ⟨(some 4), .call (.c (.func (.func 79) [] [])) [(.t 3)], none⟩,
  ⟨(some 5), .mv (.t 4), none⟩,
  ⟨(some 6), .mv (.t 0), some (5, false)⟩,
  ⟨(some 7), .bin .eql (.t 6) (.c (.int .i64 40000)), some (5, false)⟩,
  ⟨(some 8), .pick (.t 5) (.c (.bool true)) (.t 7), none⟩,
  ⟨(some 9), .mv (.t 8), none⟩,
  ⟨(some 10), .mv (.t 0), some (9, false)⟩,
  ⟨(some 11), .bin .eql (.t 10) (.c (.int .i64 40001)), some (9, false)⟩,
  ⟨(some 12), .pick (.t 9) (.c (.bool true)) (.t 11), none⟩,
  ⟨(some 2), .mv (.t 12), none⟩]) (
 .ret)), [.tmp 2]⟩
def x79 : XF := ⟨5, .seq (
 .ops [
  ⟨(some 2), .mv (.c (.bool false)), none⟩]) (
 .seq (
 .ops [
  ⟨(some 3), .mv (.t 0), none⟩,
  ⟨(some 4), .call (.c (.func (.func 59) [] [])) [(.t 3), (.c (.int .i64 (-32767))), (.c (.int .i64 32767))], none⟩,
  ⟨(some 2), .mv (.t 4), none⟩]) (
 .ret)), [.tmp 2]⟩
def x65 : XF := ⟨8, .seq (
 .ops [
  ⟨(some 1), .box 24 (.t 0), none⟩,
  ⟨(some 2), .new 101 [(.int .i64 0), (.int .i64 0)], none⟩]) (
 .seq (
 .ops [
  ⟨(some 3), .fad 0 (.t 1), none⟩,
  ⟨(some 4), .ld1 (.t 3), none⟩,
  ⟨(some 5), .fad 1 (.t 1), none⟩,
  ⟨(some 6), .ld1 (.t 5), none⟩,
  ⟨(some 7), .build [(.int .i64 0), (.int .i64 0)] [(0, 1, (.t 4)), (1, 1, (.t 6))], none⟩,
  ⟨none, .st 2 (.t 2) (.t 7), none⟩]) (
 .ret)), [.cellN 2 2]⟩
def x73 : XF := ⟨30, .seq (
 .ops [
  ⟨(some 4), .mv (.c (.slice none 0 true 0)), none⟩]) (
 .seq (
 .ops [
  ⟨(some 5), .mv (.c (.func (.func 113) [] [])), none⟩]) (
 .seq (
 .ops [
  ⟨(some 6), .mv (.c (.slice none 0 true 0)), none⟩]) (
 .seq (
 .seq (
 .ops [
  ⟨(some 8), .mv (.t 0), none⟩,
  ⟨(some 9), .len .sl (.t 8), none⟩,
  ⟨(some 10), .mv (.t 1), none⟩,
  ⟨(some 11), .len .sl (.t 10), none⟩,
  ⟨(some 12), .max [(.t 9), (.t 11)], none⟩,
  ⟨(some 13), .mv (.c (.int .i64 0)), none⟩]) (
 .block 0 (
  .loop (
   .seq (
   .ops [
    ⟨(some 14), .bin .lss (.t 13) (.t 12), none⟩]) (
   .seq (
   .cond (.t 14) (
    .skip) (
    .exit 0)) (
   .seq (
   .block 1 (
    .seq (
    .ops [
     ⟨(some 15), .mv (.t 13), none⟩,
     ⟨(some 7), .mv (.t 15), none⟩]) (
    .ops [
     ⟨(some 16), .mv (.t 6), none⟩,
     ⟨(some 17), .mv (.t 5), none⟩,
     ⟨(some 18), .mv (.t 0), none⟩,
     ⟨(some 19), .mv (.t 7), none⟩,
     ⟨(some 20), .call (.t 17) [(.t 18), (.t 19)], none⟩,
     ⟨(some 21), .mv (.t 5), none⟩,
     ⟨(some 22), .mv (.t 1), none⟩,
     ⟨(some 23), .mv (.t 7), none⟩,
     ⟨(some 24), .call (.t 21) [(.t 22), (.t 23)], none⟩,
     ⟨(some 25), .call (.c (.func (.func 114) [] [])) [(.t 20), (.t 24), (.c (.int .i64 40000)), (.c (.int .i64 40001))], none⟩,
     ⟨(some 26), .bsl 3 1 1 [(.int .i64 0)] [(0, 1, (.t 25))], none⟩,
     ⟨(some 27), .app 3 1 8 [(.int .i64 0)] (.t 16) (.t 26), none⟩,
     ⟨(some 6), .mv (.t 27), none⟩]))) (
   .ops [
    ⟨(some 28), .bin .add (.t 13) (.c (.int .i64 1)), none⟩,
    ⟨(some 13), .mv (.t 28), none⟩]))))))) (
 .seq (
 .ops [
  ⟨(some 29), .mv (.t 6), none⟩,
  ⟨(some 4), .mv (.t 29), none⟩]) (
 .ret))))), [.tmp 4]⟩
def x113 : XF := ⟨13, .seq (
 .ops [
  ⟨(some 4), .mv (.c (.int .i64 0)), none⟩]) (
 .seq (
 .seq (
 .ops [
  ⟨(some 5), .mv (.t 1), none⟩,
  ⟨(some 6), .mv (.t 0), none⟩,
  ⟨(some 7), .len .sl (.t 6), none⟩,
  ⟨(some 8), .bin .lss (.t 5) (.t 7), none⟩]) (
 .cond (.t 8) (
  .seq (
  .ops [
   ⟨(some 9), .mv (.t 0), none⟩,
   ⟨(some 10), .mv (.t 1), none⟩,
   ⟨(some 11), .iad none 1 (.t 9) (.t 10), none⟩,
   ⟨(some 12), .ld1 (.t 11), none⟩,
   ⟨(some 4), .mv (.t 12), none⟩]) (
  .ret)) (
  .skip))) (
 .seq (
 .ops [
  ⟨(some 4), .mv (.c (.int .i64 40000)), none⟩]) (
 .ret))), [.tmp 4]⟩
def x114 : XF := ⟨23, .seq (
 .ops [
  ⟨(some 8), .mv (.c (.int .i64 0)), none⟩]) (
 .seq (
 .block 0 (
  .seq (
  .seq (
  .ops [
   ⟨(some 10), .mv (.t 0), none⟩,
   ⟨(some 11), .mv (.t 1), none⟩,
   ⟨(some 12), .bin .eql (.t 10) (.t 11), none⟩,
   ⟨(some 9), .mv (.t 12), none⟩]) (
  .cond (.t 9) (
   .skip) (
   .ops [
    ⟨(some 13), .mv (.t 1), none⟩,
    ⟨(some 14), .mv (.t 2), none⟩,
    ⟨(some 15), .bin .eql (.t 13) (.t 14), none⟩,
    ⟨(some 9), .mv (.t 15), none⟩]))) (
  .cond (.t 9) (
   .seq (
   .ops [
    ⟨(some 16), .mv (.t 0), none⟩,
    ⟨(some 8), .mv (.t 16), none⟩]) (
   .ret)) (
   .seq (
   .ops [
    ⟨(some 18), .mv (.t 0), none⟩,
    ⟨(some 19), .mv (.t 2), none⟩,
    ⟨(some 20), .bin .eql (.t 18) (.t 19), none⟩,
    ⟨(some 17), .mv (.t 20), none⟩]) (
   .cond (.t 17) (
    .seq (
    .ops [
     ⟨(some 21), .mv (.t 1), none⟩,
     ⟨(some 8), .mv (.t 21), none⟩]) (
    .ret)) (
    .skip)))))) (
 .seq (
 .ops [
  ⟨(some 22), .mv (.t 3), none⟩,
  ⟨(some 8), .mv (.t 22), none⟩]) (
 .ret))), [.tmp 8]⟩
def x101 : XF := ⟨19, .seq (
 .ops [
  ⟨(some 4), .mv (.c (.int .i64 0)), none⟩]) (
 .seq (
 .seq (
 .ops [
  ⟨(some 6), .mv (.t 0), none⟩,
  ⟨(some 7), .len .sl (.t 6), none⟩,
  ⟨(some 8), .mv (.c (.int .i64 0)), none⟩]) (
 .block 0 (
  .loop (
   .seq (
   .ops [
    ⟨(some 9), .bin .lss (.t 8) (.t 7), none⟩]) (
   .seq (
   .cond (.t 9) (
    .skip) (
    .exit 0)) (
   .seq (
   .block 1 (
    .seq (
    .ops [
     ⟨(some 10), .mv (.t 8), none⟩,
     ⟨(some 5), .mv (.t 10), none⟩]) (
    .seq (
    .ops [
     ⟨(some 11), .mv (.t 1), none⟩,
     ⟨(some 12), .mv (.t 0), none⟩,
     ⟨(some 13), .mv (.t 5), none⟩,
     ⟨(some 14), .iad none 1 (.t 12) (.t 13), none⟩,
     ⟨(some 15), .ld1 (.t 14), none⟩,
     ⟨(some 16), .call (.t 11) [(.t 15)], none⟩]) (
    .cond (.t 16) (
     .seq (
     .ops [
      ⟨(some 17), .mv (.t 5), none⟩,
      ⟨(some 4), .mv (.t 17), none⟩]) (
     .ret)) (
     .skip))))) (
   .ops [
    ⟨(some 18), .bin .add (.t 8) (.c (.int .i64 1)), none⟩,
    ⟨(some 8), .mv (.t 18), none⟩]))))))) (
 .seq (
 .ops [
  ⟨(some 4), .mv (.c (.int .i64 (-1))), none⟩]) (
 .ret))), [.tmp 4]⟩
def x41 : XF := ⟨24, .seq (
 .ops [
  ⟨(some 2), .box 24 (.t 0), none⟩,
  ⟨(some 3), .box 24 (.t 1), none⟩,
  ⟨(some 4), .mv (.c (.bool false)), none⟩]) (
 .seq (
 .ops [
  ⟨(some 5), .fad 0 (.t 2), none⟩,
  ⟨(some 6), .ld1 (.t 5), none⟩,
  ⟨(some 7), .fad 0 (.t 3), none⟩,
  ⟨(some 8), .ld1 (.t 7), none⟩,
  ⟨(some 9), .bin .eql (.t 6) (.t 8), none⟩,
  ⟨(some 10), .mv (.t 9), none⟩,
  ⟨(some 11), .fad 1 (.t 2), some (10, true)⟩,
  ⟨(some 12), .ld1 (.t 11), some (10, true)⟩,
  ⟨(some 13), .fad 1 (.t 3), some (10, true)⟩,
  ⟨(some 14), .ld1 (.t 13), some (10, true)⟩,
  ⟨(some 15), .bin .eql (.t 12) (.t 14), some (10, true)⟩,
  ⟨(some 16), .pick (.t 10) (.t 15) (.c (.bool false)), none⟩,
  ⟨(some 17), .mv (.t 16), none⟩,
  ⟨(some 18), .fad 2 (.t 2), some (17, true)⟩,
  ⟨(some 19), .ld1 (.t 18), some (17, true)⟩,
  ⟨(some 20), .fad 2 (.t 3), some (17, true)⟩,
  ⟨(some 21), .ld1 (.t 20), some (17, true)⟩,
  ⟨(some 22), .call (.c (.func (.func 29) [] [])) [(.t 19), (.t 21)], some (17, true)⟩,
  ⟨(some 23), .pick (.t 17) (.t 22) (.c (.bool false)), none⟩,
  ⟨(some 4), .mv (.t 23), none⟩]) (
 .ret)), [.tmp 4]⟩
def x29 : XF := ⟨26, .seq (
 .ops [
  ⟨(some 4), .mv (.c (.bool false)), none⟩]) (
 .seq (
 .seq (
 .ops [
  ⟨(some 6), .mv (.t 0), none⟩,
  ⟨(some 7), .len .sl (.t 6), none⟩,
  ⟨(some 8), .mv (.t 1), none⟩,
  ⟨(some 9), .len .sl (.t 8), none⟩,
  ⟨(some 10), .bin .neq (.t 7) (.t 9), none⟩]) (
 .cond (.t 10) (
  .seq (
  .ops [
   ⟨(some 4), .mv (.c (.bool false)), none⟩]) (
  .ret)) (
  .skip))) (
 .seq (
 .seq (
 .ops [
  ⟨(some 5), .mv (.c (.int .i64 0)), none⟩]) (
 .block 0 (
  .loop (
   .seq (
   .seq (
   .ops [
    ⟨(some 11), .mv (.t 5), none⟩,
    ⟨(some 12), .mv (.t 0), none⟩,
    ⟨(some 13), .len .sl (.t 12), none⟩,
    ⟨(some 14), .bin .lss (.t 11) (.t 13), none⟩]) (
   .cond (.t 14) (
    .skip) (
    .exit 0))) (
   .seq (
   .block 1 (
    .seq (
    .draw [
     (⟨(some 17), .mv (.t 0), none⟩, .calm),
     (⟨(some 18), .mv (.t 5), none⟩, .calm),
     (⟨(some 19), .iad none 1 (.t 17) (.t 18), none⟩, .calm),
     (⟨(some 20), .ld1 (.t 19), none⟩, .reads 0 0),
     (⟨(some 21), .mv (.t 1), none⟩, .calm),
     (⟨(some 22), .mv (.t 5), none⟩, .calm),
     (⟨(some 23), .iad none 1 (.t 21) (.t 22), none⟩, .calm),
     (⟨(some 24), .ld1 (.t 23), none⟩, .reads 0 0),
     (⟨(some 25), .bin .neq (.t 20) (.t 24), none⟩, .calm)]) (
    .cond (.t 25) (
     .seq (
     .ops [
      ⟨(some 4), .mv (.c (.bool false)), none⟩]) (
     .ret)) (
     .skip)))) (
   .ops [
    ⟨(some 15), .mv (.t 5), none⟩,
    ⟨(some 16), .bin .add (.t 15) (.c (.int .i64 1)), none⟩,
    ⟨(some 5), .mv (.t 16), none⟩])))))) (
 .seq (
 .ops [
  ⟨(some 4), .mv (.c (.bool true)), none⟩]) (
 .ret)))), [.tmp 4]⟩
theorem k5 : cFn Tryz.prog 5 = some x5 := by kernel_rfl
theorem k21 : cFn Tryz.prog 21 = some x21 := by kernel_rfl
theorem k16 : cFn Tryz.prog 16 = some x16 := by kernel_rfl
theorem k59 : cFn Tryz.prog 59 = some x59 := by kernel_rfl
theorem k60 : cFn Tryz.prog 60 = some x60 := by kernel_rfl
theorem k61 : cFn Tryz.prog 61 = some x61 := by kernel_rfl
theorem k62 : cFn Tryz.prog 62 = some x62 := by kernel_rfl
theorem k79 : cFn Tryz.prog 79 = some x79 := by kernel_rfl
theorem k65 : cFn Tryz.prog 65 = some x65 := by kernel_rfl
theorem k73 : cFn Tryz.prog 73 = some x73 := by kernel_rfl
theorem k113 : cFn Tryz.prog 113 = some x113 := by kernel_rfl
theorem k114 : cFn Tryz.prog 114 = some x114 := by kernel_rfl
theorem k101 : cFn Tryz.prog 101 = some x101 := by kernel_rfl
theorem k41 : cFn Tryz.prog 41 = some x41 := by kernel_rfl
theorem k29 : cFn Tryz.prog 29 = some x29 := by kernel_rfl
def x9 : XF := ⟨158, .seq (
 .ops [
  ⟨(some 3), .box 24 (.t 0), none⟩,
  ⟨(some 4), .box 24 (.t 1), none⟩,
  ⟨(some 5), .box 24 (.t 2), none⟩,
  ⟨(some 6), .mv (.c (.bool false)), none⟩]) (
 .seq (
 .ops [
  ⟨(some 18), .ldN 3 (.t 3), none⟩,
  ⟨(some 19), .ldN 3 (.t 4), none⟩,
  ⟨(some 20), .call (.c (.func (.func 21) [] [])) [(.t 18), (.t 19)], none⟩,
  ⟨(some 17), .mv (.t 20), none⟩,
  ⟨(some 21), .ext 0 (.t 17), none⟩,
  ⟨(some 22), .ext 1 (.t 17), none⟩,
  ⟨(some 7), .new 24 [(.int .i64 0), (.int .i64 0), (.slice none 0 true 0)], none⟩,
  ⟨none, .st 3 (.t 7) (.t 21), none⟩,
  ⟨(some 8), .mv (.t 22), none⟩]) (
 .seq (
 .ops [
  ⟨(some 24), .ldN 3 (.t 4), none⟩,
  ⟨(some 25), .ldN 3 (.t 3), none⟩,
  ⟨(some 26), .call (.c (.func (.func 21) [] [])) [(.t 24), (.t 25)], none⟩,
  ⟨(some 23), .mv (.t 26), none⟩,
  ⟨(some 27), .ext 0 (.t 23), none⟩,
  ⟨(some 28), .ext 1 (.t 23), none⟩,
  ⟨(some 9), .new 24 [(.int .i64 0), (.int .i64 0), (.slice none 0 true 0)], none⟩,
  ⟨none, .st 3 (.t 9) (.t 27), none⟩,
  ⟨(some 10), .mv (.t 28), none⟩]) (
 .seq (
 .seq (
 .ops [
  ⟨(some 29), .mv (.t 8), none⟩,
  ⟨(some 30), .bin .neq (.t 29) (.c (.int .i64 0)), none⟩,
  ⟨(some 31), .mv (.t 30), none⟩,
  ⟨(some 32), .mv (.t 10), some (31, false)⟩,
  ⟨(some 33), .bin .neq (.t 32) (.c (.int .i64 0)), some (31, false)⟩,
  ⟨(some 34), .pick (.t 31) (.c (.bool true)) (.t 33), none⟩]) (
 .cond (.t 34) (
  .seq (
  .ops [
   ⟨(some 35), .mv (.t 8), none⟩,
   ⟨(some 36), .bin .eql (.t 35) (.c (.int .i64 0)), none⟩,
   ⟨(some 37), .mv (.t 10), none⟩,
   ⟨(some 38), .bin .eql (.t 37) (.c (.int .i64 0)), none⟩,
   ⟨(some 39), .eqg false 4 (.t 36) (.t 38), none⟩,
   ⟨(some 40), .mv (.t 39), none⟩,
   ⟨(some 41), .fad 2 (.t 7), some (40, true)⟩,
   ⟨(some 42), .ld1 (.t 41), some (40, true)⟩,
   ⟨(some 43), .len .sl (.t 42), some (40, true)⟩,
   ⟨(some 44), .bin .eql (.t 43) (.c (.int .i64 0)), some (40, true)⟩,
   ⟨(some 45), .pick (.t 40) (.t 44) (.c (.bool false)), none⟩,
   ⟨(some 46), .mv (.t 45), none⟩,
   ⟨(some 47), .call (.c (.func (.func 32) [] [])) [], some (46, true)⟩,
   ⟨(some 48), .pick (.t 46) (.t 47) (.c (.bool false)), none⟩,
   ⟨(some 6), .mv (.t 48), none⟩]) (
  .ret)) (
  .skip))) (
 .seq (
 .ops [
  ⟨(some 50), .ldN 3 (.t 3), none⟩,
  ⟨(some 51), .ldN 3 (.t 3), none⟩,
  ⟨(some 52), .call (.c (.func (.func 21) [] [])) [(.t 50), (.t 51)], none⟩,
  ⟨(some 49), .mv (.t 52), none⟩,
  ⟨(some 53), .ext 0 (.t 49), none⟩,
  ⟨(some 54), .ext 1 (.t 49), none⟩,
  ⟨(some 11), .new 24 [(.int .i64 0), (.int .i64 0), (.slice none 0 true 0)], none⟩,
  ⟨none, .st 3 (.t 11) (.t 53), none⟩,
  ⟨(some 12), .mv (.t 54), none⟩]) (
 .seq (
 .seq (
 .ops [
  ⟨(some 55), .mv (.t 12), none⟩,
  ⟨(some 56), .bin .neq (.t 55) (.c (.int .i64 0)), none⟩,
  ⟨(some 57), .mv (.t 56), none⟩,
  ⟨(some 58), .ldN 3 (.t 11), some (57, false)⟩,
  ⟨(some 59), .ldN 3 (.t 3), some (57, false)⟩,
  ⟨(some 60), .call (.c (.func (.func 41) [] [])) [(.t 58), (.t 59)], some (57, false)⟩,
  ⟨(some 61), .un .not (.t 60), some (57, false)⟩,
  ⟨(some 62), .pick (.t 57) (.c (.bool true)) (.t 61), none⟩,
  ⟨(some 63), .mv (.t 62), none⟩,
  ⟨(some 64), .ldN 3 (.t 7), some (63, false)⟩,
  ⟨(some 65), .ldN 3 (.t 9), some (63, false)⟩,
  ⟨(some 66), .call (.c (.func (.func 41) [] [])) [(.t 64), (.t 65)], some (63, false)⟩,
  ⟨(some 67), .un .not (.t 66), some (63, false)⟩,
  ⟨(some 68), .pick (.t 63) (.c (.bool true)) (.t 67), none⟩,
  ⟨(some 69), .mv (.t 68), none⟩,
  ⟨(some 70), .fad 2 (.t 7), some (69, false)⟩,
  ⟨(some 71), .ld1 (.t 70), some (69, false)⟩,
  ⟨(some 72), .len .sl (.t 71), some (69, false)⟩,
  ⟨(some 73), .fad 2 (.t 3), some (69, false)⟩,
  ⟨(some 74), .ld1 (.t 73), some (69, false)⟩,
  ⟨(some 75), .len .sl (.t 74), some (69, false)⟩,
  ⟨(some 76), .fad 2 (.t 4), some (69, false)⟩,
  ⟨(some 77), .ld1 (.t 76), some (69, false)⟩,
  ⟨(some 78), .len .sl (.t 77), some (69, false)⟩,
  ⟨(some 79), .max [(.t 75), (.t 78)], some (69, false)⟩,
  ⟨(some 80), .bin .neq (.t 72) (.t 79), some (69, false)⟩,
  ⟨(some 81), .pick (.t 69) (.c (.bool true)) (.t 80), none⟩]) (
 .cond (.t 81) (
  .seq (
  .ops [
   ⟨(some 6), .mv (.c (.bool false)), none⟩]) (
  .ret)) (
  .skip))) (
 .seq (
 .seq (
 .ops [
  ⟨(some 13), .mv (.c (.int .i64 0)), none⟩]) (
 .block 0 (
  .loop (
   .seq (
   .seq (
   .ops [
    ⟨(some 82), .mv (.t 13), none⟩,
    ⟨(some 83), .fad 2 (.t 3), none⟩,
    ⟨(some 84), .ld1 (.t 83), none⟩,
    ⟨(some 85), .len .sl (.t 84), none⟩,
    ⟨(some 86), .bin .lss (.t 82) (.t 85), none⟩]) (
   .cond (.t 86) (
    .skip) (
    .exit 0))) (
   .seq (
   .block 1 (
    .seq (
    .draw [
     (⟨(some 89), .fad 2 (.t 3), none⟩, .calm),
     (⟨(some 90), .ld1 (.t 89), none⟩, .reads 0 0),
     (⟨(some 91), .mv (.t 13), none⟩, .calm),
     (⟨(some 92), .iad none 1 (.t 90) (.t 91), none⟩, .calm),
     (⟨(some 93), .ld1 (.t 92), none⟩, .reads 0 0),
     (⟨(some 94), .bin .neq (.t 93) (.c (.int .i64 40000)), none⟩, .calm),
     (⟨(some 95), .mv (.t 94), none⟩, .calm),
     (⟨(some 96), .fad 2 (.t 7), some (95, true)⟩, .calm),
     (⟨(some 97), .ld1 (.t 96), some (95, true)⟩, .reads 0 0),
     (⟨(some 98), .mv (.t 13), some (95, true)⟩, .calm),
     (⟨(some 99), .iad none 1 (.t 97) (.t 98), some (95, true)⟩, .calm),
     (⟨(some 100), .ld1 (.t 99), some (95, true)⟩, .reads 0 0),
     (⟨(some 101), .fad 2 (.t 3), some (95, true)⟩, .calm),
     (⟨(some 102), .ld1 (.t 101), some (95, true)⟩, .reads 0 0),
     (⟨(some 103), .mv (.t 13), some (95, true)⟩, .calm),
     (⟨(some 104), .iad none 1 (.t 102) (.t 103), some (95, true)⟩, .calm),
     (⟨(some 105), .ld1 (.t 104), some (95, true)⟩, .reads 0 0),
     (⟨(some 106), .bin .neq (.t 100) (.t 105), some (95, true)⟩, .calm),
     (⟨(some 107), .pick (.t 95) (.t 106) (.c (.bool false)), none⟩, .calm),
     (⟨(some 108), .mv (.t 107), none⟩, .calm),
     (⟨(some 109), .fad 2 (.t 7), some (108, true)⟩, .calm),
     (⟨(some 110), .ld1 (.t 109), some (108, true)⟩, .reads 0 0),
     (⟨(some 111), .mv (.t 13), some (108, true)⟩, .calm),
     (⟨(some 112), .iad none 1 (.t 110) (.t 111), some (108, true)⟩, .calm),
     (⟨(some 113), .ld1 (.t 112), some (108, true)⟩, .reads 0 0),
     (⟨(some 114), .bin .neq (.t 113) (.c (.int .i64 40001)), some (108, true)⟩, .calm),
     (⟨(some 115), .pick (.t 108) (.t 114) (.c (.bool false)), none⟩, .calm)]) (
    .cond (.t 115) (
     .seq (
     .ops [
      ⟨(some 6), .mv (.c (.bool false)), none⟩]) (
     .ret)) (
     .skip)))) (
   .ops [
    ⟨(some 87), .mv (.t 13), none⟩,
    ⟨(some 88), .bin .add (.t 87) (.c (.int .i64 1)), none⟩,
    ⟨(some 13), .mv (.t 88), none⟩])))))) (
 .seq (
 .ops [
  ⟨(some 117), .ldN 3 (.t 7), none⟩,
  ⟨(some 118), .ldN 3 (.t 5), none⟩,
  ⟨(some 119), .call (.c (.func (.func 21) [] [])) [(.t 117), (.t 118)], none⟩,
  ⟨(some 116), .mv (.t 119), none⟩,
  ⟨(some 120), .ext 0 (.t 116), none⟩,
  ⟨(some 121), .ext 1 (.t 116), none⟩,
  ⟨(some 14), .new 24 [(.int .i64 0), (.int .i64 0), (.slice none 0 true 0)], none⟩,
  ⟨none, .st 3 (.t 14) (.t 120), none⟩,
  ⟨(some 8), .mv (.t 121), none⟩]) (
 .seq (
 .ops [
  ⟨(some 123), .ldN 3 (.t 4), none⟩,
  ⟨(some 124), .ldN 3 (.t 5), none⟩,
  ⟨(some 125), .call (.c (.func (.func 21) [] [])) [(.t 123), (.t 124)], none⟩,
  ⟨(some 122), .mv (.t 125), none⟩,
  ⟨(some 126), .ext 0 (.t 122), none⟩,
  ⟨(some 127), .ext 1 (.t 122), none⟩,
  ⟨(some 15), .new 24 [(.int .i64 0), (.int .i64 0), (.slice none 0 true 0)], none⟩,
  ⟨none, .st 3 (.t 15) (.t 126), none⟩,
  ⟨(some 10), .mv (.t 127), none⟩]) (
 .seq (
 .seq (
 .ops [
  ⟨(some 128), .mv (.t 8), none⟩,
  ⟨(some 129), .bin .neq (.t 128) (.c (.int .i64 0)), none⟩,
  ⟨(some 130), .mv (.t 129), none⟩,
  ⟨(some 131), .mv (.t 10), some (130, false)⟩,
  ⟨(some 132), .bin .neq (.t 131) (.c (.int .i64 0)), some (130, false)⟩,
  ⟨(some 133), .pick (.t 130) (.c (.bool true)) (.t 132), none⟩]) (
 .cond (.t 133) (
  .seq (
  .ops [
   ⟨(some 134), .mv (.t 8), none⟩,
   ⟨(some 135), .bin .eql (.t 134) (.c (.int .i64 0)), none⟩,
   ⟨(some 136), .mv (.t 10), none⟩,
   ⟨(some 137), .bin .eql (.t 136) (.c (.int .i64 0)), none⟩,
   ⟨(some 138), .eqg false 4 (.t 135) (.t 137), none⟩,
   ⟨(some 139), .mv (.t 138), none⟩,
   ⟨(some 140), .call (.c (.func (.func 32) [] [])) [], some (139, true)⟩,
   ⟨(some 141), .pick (.t 139) (.t 140) (.c (.bool false)), none⟩,
   ⟨(some 6), .mv (.t 141), none⟩]) (
  .ret)) (
  .skip))) (
 .seq (
 .ops [
  ⟨(some 143), .ldN 3 (.t 3), none⟩,
  ⟨(some 144), .ldN 3 (.t 15), none⟩,
  ⟨(some 145), .call (.c (.func (.func 21) [] [])) [(.t 143), (.t 144)], none⟩,
  ⟨(some 142), .mv (.t 145), none⟩,
  ⟨(some 146), .ext 0 (.t 142), none⟩,
  ⟨(some 147), .ext 1 (.t 142), none⟩,
  ⟨(some 16), .new 24 [(.int .i64 0), (.int .i64 0), (.slice none 0 true 0)], none⟩,
  ⟨none, .st 3 (.t 16) (.t 146), none⟩,
  ⟨(some 10), .mv (.t 147), none⟩]) (
 .seq (
 .ops [
  ⟨(some 148), .mv (.t 10), none⟩,
  ⟨(some 149), .bin .eql (.t 148) (.c (.int .i64 0)), none⟩,
  ⟨(some 150), .mv (.t 149), none⟩,
  ⟨(some 151), .ldN 3 (.t 14), some (150, true)⟩,
  ⟨(some 152), .ldN 3 (.t 16), some (150, true)⟩,
  ⟨(some 153), .call (.c (.func (.func 41) [] [])) [(.t 151), (.t 152)], some (150, true)⟩,
  ⟨(some 154), .pick (.t 150) (.t 153) (.c (.bool false)), none⟩,
  ⟨(some 155), .mv (.t 154), none⟩,
  ⟨(some 156), .call (.c (.func (.func 32) [] [])) [], some (155, true)⟩,
  ⟨(some 157), .pick (.t 155) (.t 156) (.c (.bool false)), none⟩,
  ⟨(some 6), .mv (.t 157), none⟩]) (
 .ret)))))))))))), [.tmp 6]⟩
def x6 : XF := ⟨32, .seq (
 .ops [
  ⟨(some 4), .mv (.c (.bool false)), none⟩]) (
 .seq (
 .ops [
  ⟨(some 10), .mv (.t 0), none⟩,
  ⟨(some 11), .mv (.t 1), none⟩,
  ⟨(some 12), .call (.c (.func (.func 26) [] [])) [(.t 10), (.t 11)], none⟩,
  ⟨(some 9), .mv (.t 12), none⟩,
  ⟨(some 13), .ext 0 (.t 9), none⟩,
  ⟨(some 14), .ext 1 (.t 9), none⟩,
  ⟨(some 5), .mv (.t 13), none⟩,
  ⟨(some 6), .mv (.t 14), none⟩]) (
 .seq (
 .ops [
  ⟨(some 16), .mv (.t 0), none⟩,
  ⟨(some 17), .mv (.t 1), none⟩,
  ⟨(some 18), .call (.c (.func (.func 42) [] [])) [(.t 16), (.t 17)], none⟩,
  ⟨(some 15), .mv (.t 18), none⟩,
  ⟨(some 19), .ext 0 (.t 15), none⟩,
  ⟨(some 20), .ext 1 (.t 15), none⟩,
  ⟨(some 7), .mv (.t 19), none⟩,
  ⟨(some 8), .mv (.t 20), none⟩]) (
 .seq (
 .ops [
  ⟨(some 21), .mv (.t 5), none⟩,
  ⟨(some 22), .mv (.t 7), none⟩,
  ⟨(some 23), .call (.c (.func (.func 43) [] [])) [(.t 21), (.t 22)], none⟩,
  ⟨(some 24), .mv (.t 23), none⟩,
  ⟨(some 25), .mv (.t 6), some (24, true)⟩,
  ⟨(some 26), .mv (.t 8), some (24, true)⟩,
  ⟨(some 27), .bin .eql (.t 25) (.t 26), some (24, true)⟩,
  ⟨(some 28), .pick (.t 24) (.t 27) (.c (.bool false)), none⟩,
  ⟨(some 29), .mv (.t 28), none⟩,
  ⟨(some 30), .call (.c (.func (.func 32) [] [])) [], some (29, true)⟩,
  ⟨(some 31), .pick (.t 29) (.t 30) (.c (.bool false)), none⟩,
  ⟨(some 4), .mv (.t 31), none⟩]) (
 .ret)))), [.tmp 4]⟩
def x7 : XF := ⟨42, .seq (
 .ops [
  ⟨(some 4), .box 72 (.t 1), none⟩,
  ⟨(some 6), .mv (.c (.bool false)), none⟩]) (
 .seq (
 .ops [
  ⟨(some 12), .mv (.t 0), none⟩,
  ⟨(some 13), .iad (some 2) 1 (.t 4) (.c (.int .i64 0)), none⟩,
  ⟨(some 14), .ld1 (.t 13), none⟩,
  ⟨(some 15), .iad (some 2) 1 (.t 4) (.c (.int .i64 1)), none⟩,
  ⟨(some 16), .ld1 (.t 15), none⟩,
  ⟨(some 17), .mv (.t 2), none⟩,
  ⟨(some 18), .call (.c (.func (.func 31) [] [])) [(.t 12), (.t 14), (.t 16), (.t 17)], none⟩,
  ⟨(some 11), .mv (.t 18), none⟩,
  ⟨(some 19), .ext 0 (.t 11), none⟩,
  ⟨(some 20), .ext 1 (.t 11), none⟩,
  ⟨(some 7), .mv (.t 19), none⟩,
  ⟨(some 8), .mv (.t 20), none⟩]) (
 .seq (
 .ops [
  ⟨(some 22), .mv (.t 0), none⟩,
  ⟨(some 23), .iad (some 2) 1 (.t 4) (.c (.int .i64 0)), none⟩,
  ⟨(some 24), .ld1 (.t 23), none⟩,
  ⟨(some 25), .iad (some 2) 1 (.t 4) (.c (.int .i64 1)), none⟩,
  ⟨(some 26), .ld1 (.t 25), none⟩,
  ⟨(some 27), .mv (.t 2), none⟩,
  ⟨(some 28), .call (.c (.func (.func 44) [] [])) [(.t 22), (.t 24), (.t 26), (.t 27)], none⟩,
  ⟨(some 21), .mv (.t 28), none⟩,
  ⟨(some 29), .ext 0 (.t 21), none⟩,
  ⟨(some 30), .ext 1 (.t 21), none⟩,
  ⟨(some 9), .mv (.t 29), none⟩,
  ⟨(some 10), .mv (.t 30), none⟩]) (
 .seq (
 .ops [
  ⟨(some 31), .mv (.t 7), none⟩,
  ⟨(some 32), .mv (.t 9), none⟩,
  ⟨(some 33), .bin .eql (.t 31) (.t 32), none⟩,
  ⟨(some 34), .mv (.t 33), none⟩,
  ⟨(some 35), .mv (.t 8), some (34, true)⟩,
  ⟨(some 36), .mv (.t 10), some (34, true)⟩,
  ⟨(some 37), .bin .eql (.t 35) (.t 36), some (34, true)⟩,
  ⟨(some 38), .pick (.t 34) (.t 37) (.c (.bool false)), none⟩,
  ⟨(some 39), .mv (.t 38), none⟩,
  ⟨(some 40), .call (.c (.func (.func 32) [] [])) [], some (39, true)⟩,
  ⟨(some 41), .pick (.t 39) (.t 40) (.c (.bool false)), none⟩,
  ⟨(some 6), .mv (.t 41), none⟩]) (
 .ret)))), [.tmp 6]⟩
theorem k9 : cFn Tryz.prog 9 = some x9 := by kernel_rfl
theorem k6 : cFn Tryz.prog 6 = some x6 := by kernel_rfl
theorem k7 : cFn Tryz.prog 7 = some x7 := by kernel_rfl
end Go.Proofs.YtlfkmgpngkbhpaaGreatDoor.C
end
