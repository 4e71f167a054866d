/-
  Part of the proof of CoursePassages: what functions of the program and of the statement come to, walked by the rules. No condition beyond those in each theorem.
-/
import Derived.Test.YtpccafeedfpbaaaGreatProg
import Derived.KernelRfl
import Derived.Test.YtpccafeedfpbaaaGreatPvD
open Go PvL Go.Proofs
set_option linter.unusedVariables false
namespace Go.Proofs.YtpccafeedfpbaaaGreat.C
/-- paravane/paravanelaw04.CoursePassages -/
def xq3 : XF := ⟨45, .seq (
  .ops [
  ⟨some 3, .box 35 (.t 0), none⟩,
  ⟨some 4, .box 32 (.t 1), none⟩,
  ⟨some 5, .box 32 (.t 2), none⟩,
  ⟨some 6, .mv (.c (.bool false)), none⟩]) (
  .seq (
  .ops [
  ⟨some 14, .ldN 17 (.t 3), none⟩,
  ⟨some 15, .ldN 3 (.t 4), none⟩,
  ⟨some 16, .ldN 3 (.t 5), none⟩,
  ⟨some 17, .call (.c (.func (.func 13) [] [])) [(.t 14), (.t 15), (.t 16)], none⟩,
  ⟨some 13, .mv (.t 17), none⟩,
  ⟨some 18, .ext 0 (.t 13), none⟩,
  ⟨some 19, .ext 1 (.t 13), none⟩,
  ⟨some 20, .ext 2 (.t 13), none⟩,
  ⟨some 7, .mv (.t 18), none⟩,
  ⟨some 8, .mv (.t 19), none⟩,
  ⟨some 9, .mv (.t 20), none⟩]) (
  .seq (
  .ops [
  ⟨some 22, .ldN 17 (.t 3), none⟩,
  ⟨some 23, .ldN 3 (.t 4), none⟩,
  ⟨some 24, .ldN 3 (.t 5), none⟩,
  ⟨some 25, .call (.c (.func (.func 14) [] [])) [(.t 22), (.t 23), (.t 24)], none⟩,
  ⟨some 21, .mv (.t 25), none⟩,
  ⟨some 26, .ext 0 (.t 21), none⟩,
  ⟨some 27, .ext 1 (.t 21), none⟩,
  ⟨some 28, .ext 2 (.t 21), none⟩,
  ⟨some 10, .mv (.t 26), none⟩,
  ⟨some 11, .mv (.t 27), none⟩,
  ⟨some 12, .mv (.t 28), none⟩]) (
  .seq (
  .ops [
  ⟨some 29, .mv (.t 7), none⟩,
  ⟨some 30, .mv (.t 10), none⟩,
  ⟨some 31, .call (.c (.func (.func 15) [] [])) [(.t 29), (.t 30)], none⟩,
  ⟨some 32, .mv (.t 31), none⟩,
  ⟨some 33, .mv (.t 8), some (32, true)⟩,
  ⟨some 34, .mv (.t 11), some (32, true)⟩,
  ⟨some 35, .bin .eql (.t 33) (.t 34), some (32, true)⟩,
  ⟨some 36, .pick (.t 32) (.t 35) (.c (.bool false)), none⟩,
  ⟨some 37, .mv (.t 36), none⟩,
  ⟨some 38, .mv (.t 9), some (37, true)⟩,
  ⟨some 39, .mv (.t 12), some (37, true)⟩,
  ⟨some 40, .bin .eql (.t 38) (.t 39), some (37, true)⟩,
  ⟨some 41, .pick (.t 37) (.t 40) (.c (.bool false)), none⟩,
  ⟨some 42, .mv (.t 41), none⟩,
  ⟨some 43, .call (.c (.func (.func 16) [] [])) [], some (42, true)⟩,
  ⟨some 44, .pick (.t 42) (.t 43) (.c (.bool false)), none⟩,
  ⟨some 6, .mv (.t 44), none⟩]) (
  .ret)))), [.tmp 6]⟩
/-- paravane/course.Passage -/
def xq13 : XF := ⟨41, .seq (
  .ops [
  ⟨some 3, .box 35 (.t 0), none⟩,
  ⟨some 4, .box 32 (.t 1), none⟩,
  ⟨some 5, .box 32 (.t 2), none⟩,
  ⟨some 6, .mv (.c (.slice none 0 true 0)), none⟩,
  ⟨some 7, .mv (.c (.int .i64 0)), none⟩,
  ⟨some 8, .mv (.c (.int .i64 0)), none⟩]) (
  .seq (
  .ops [
  ⟨some 13, .ldN 17 (.t 3), none⟩,
  ⟨some 14, .call (.c (.func (.func 41) [] [])) [(.t 13)], none⟩,
  ⟨some 12, .mv (.t 14), none⟩,
  ⟨some 15, .ext 0 (.t 12), none⟩,
  ⟨some 16, .ext 1 (.t 12), none⟩,
  ⟨some 9, .mv (.t 15), none⟩,
  ⟨some 8, .mv (.t 16), none⟩]) (
  .seq (
  .seq (
  .ops [
  ⟨some 17, .mv (.t 8), none⟩,
  ⟨some 18, .bin .neq (.t 17) (.c (.int .i64 0)), none⟩]) (
  .cond (.t 18) (
   .seq (
   .ops [
  ⟨some 19, .mv (.t 8), none⟩,
  ⟨some 6, .mv (.c (.slice none 0 true 0)), none⟩,
  ⟨some 7, .mv (.c (.int .i64 0)), none⟩,
  ⟨some 8, .mv (.t 19), none⟩]) (
   .ret)) (
   .skip))) (
  .seq (
  .seq (
  .ops [
  ⟨some 20, .ldN 3 (.t 4), none⟩,
  ⟨some 21, .call (.c (.func (.func 42) [] [])) [(.t 20)], none⟩,
  ⟨some 22, .un .not (.t 21), none⟩,
  ⟨some 23, .mv (.t 22), none⟩,
  ⟨some 24, .ldN 3 (.t 5), some (23, false)⟩,
  ⟨some 25, .call (.c (.func (.func 42) [] [])) [(.t 24)], some (23, false)⟩,
  ⟨some 26, .un .not (.t 25), some (23, false)⟩,
  ⟨some 27, .pick (.t 23) (.c (.bool true)) (.t 26), none⟩]) (
  .cond (.t 27) (
   .seq (
   .ops [
  ⟨some 6, .mv (.c (.slice none 0 true 0)), none⟩,
  ⟨some 7, .mv (.c (.int .i64 0)), none⟩,
  ⟨some 8, .mv (.c (.int .i64 41)), none⟩]) (
   .ret)) (
   .skip))) (
  .seq (
  .ops [
  ⟨some 29, .mv (.t 9), none⟩,
  ⟨some 30, .ldN 3 (.t 4), none⟩,
  ⟨some 31, .ldN 3 (.t 5), none⟩,
  ⟨some 32, .call (.c (.func (.func 43) [] [])) [(.t 29), (.t 30), (.t 31)], none⟩,
  ⟨some 28, .mv (.t 32), none⟩,
  ⟨some 33, .ext 0 (.t 28), none⟩,
  ⟨some 34, .ext 1 (.t 28), none⟩,
  ⟨some 10, .new 92 [(.slice none 0 true 0), (.int .i64 0)], none⟩,
  ⟨none, .st 2 (.t 10) (.t 33), none⟩,
  ⟨some 11, .mv (.t 34), none⟩]) (
  .seq (
  .seq (
  .ops [
  ⟨some 35, .mv (.t 11), none⟩,
  ⟨some 36, .un .not (.t 35), none⟩]) (
  .cond (.t 36) (
   .seq (
   .ops [
  ⟨some 6, .mv (.c (.slice none 0 true 0)), none⟩,
  ⟨some 7, .mv (.c (.int .i64 0)), none⟩,
  ⟨some 8, .mv (.c (.int .i64 4)), none⟩]) (
   .ret)) (
   .skip))) (
  .seq (
  .draw [
  (⟨some 37, .fad 0 (.t 10), none⟩, .calm),
  (⟨some 38, .ld1 (.t 37), none⟩, .reads 0 0),
  (⟨some 39, .fad 1 (.t 10), none⟩, .calm),
  (⟨some 40, .ld1 (.t 39), none⟩, .reads 0 0),
  (⟨some 6, .mv (.t 38), none⟩, .calm),
  (⟨some 7, .mv (.t 40), none⟩, .calm),
  (⟨some 8, .mv (.c (.int .i64 0)), none⟩, .calm)]) (
  .ret))))))), [.tmp 6, .tmp 7, .tmp 8]⟩
/-- paravane/paravaneref04.Passage -/
def xq14 : XF := ⟨52, .seq (
  .ops [
  ⟨some 3, .box 35 (.t 0), none⟩,
  ⟨some 4, .box 32 (.t 1), none⟩,
  ⟨some 5, .box 32 (.t 2), none⟩,
  ⟨some 6, .mv (.c (.slice none 0 true 0)), none⟩,
  ⟨some 7, .mv (.c (.int .i64 0)), none⟩,
  ⟨some 8, .mv (.c (.int .i64 0)), none⟩]) (
  .seq (
  .seq (
  .ops [
  ⟨some 13, .ldN 17 (.t 3), none⟩,
  ⟨some 14, .call (.c (.func (.func 44) [] [])) [(.t 13)], none⟩,
  ⟨some 9, .mv (.t 14), none⟩]) (
  .seq (
  .ops [
  ⟨some 15, .mv (.t 9), none⟩,
  ⟨some 16, .bin .neq (.t 15) (.c (.int .i64 0)), none⟩]) (
  .cond (.t 16) (
   .seq (
   .ops [
  ⟨some 17, .mv (.t 9), none⟩,
  ⟨some 6, .mv (.c (.slice none 0 true 0)), none⟩,
  ⟨some 7, .mv (.c (.int .i64 0)), none⟩,
  ⟨some 8, .mv (.t 17), none⟩]) (
   .ret)) (
   .skip)))) (
  .seq (
  .seq (
  .ops [
  ⟨some 18, .ldN 3 (.t 4), none⟩,
  ⟨some 19, .call (.c (.func (.func 45) [] [])) [(.t 18)], none⟩,
  ⟨some 20, .un .not (.t 19), none⟩,
  ⟨some 21, .mv (.t 20), none⟩,
  ⟨some 22, .ldN 3 (.t 5), some (21, false)⟩,
  ⟨some 23, .call (.c (.func (.func 45) [] [])) [(.t 22)], some (21, false)⟩,
  ⟨some 24, .un .not (.t 23), some (21, false)⟩,
  ⟨some 25, .pick (.t 21) (.c (.bool true)) (.t 24), none⟩]) (
  .cond (.t 25) (
   .seq (
   .ops [
  ⟨some 6, .mv (.c (.slice none 0 true 0)), none⟩,
  ⟨some 7, .mv (.c (.int .i64 0)), none⟩,
  ⟨some 8, .mv (.c (.int .i64 41)), none⟩]) (
   .ret)) (
   .skip))) (
  .seq (
  .ops [
  ⟨some 26, .ldN 17 (.t 3), none⟩,
  ⟨some 27, .fad 0 (.t 4), none⟩,
  ⟨some 28, .ldN 2 (.t 27), none⟩,
  ⟨some 29, .fad 0 (.t 5), none⟩,
  ⟨some 30, .ldN 2 (.t 29), none⟩,
  ⟨some 31, .bsl 30 2 2 [(.int .i64 0), (.int .i64 0)] [(0, 2, (.t 28)), (2, 2, (.t 30))], none⟩,
  ⟨some 32, .call (.c (.func (.func 46) [] [])) [(.t 26), (.t 31)], none⟩,
  ⟨some 10, .new 99 [(.slice none 0 true 0), (.slice none 0 true 0), (.slice none 0 true 0), (.int .i64 0), (.int .i64 0), (.int .i64 0), (.int .i64 0), (.int .i64 0), (.int .i64 0), (.int .i64 0), (.int .i64 0), (.int .i64 0), (.int .i64 0), (.int .i64 0), (.int .i64 0), (.int .i64 0), (.slice none 0 true 0), (.slice none 0 true 0), (.slice none 0 true 0)], none⟩,
  ⟨none, .st 19 (.t 10) (.t 32), none⟩]) (
  .seq (
  .ops [
  ⟨some 33, .fad 2 (.t 3), none⟩,
  ⟨some 34, .ld1 (.t 33), none⟩,
  ⟨some 35, .len .sl (.t 34), none⟩,
  ⟨some 11, .mv (.t 35), none⟩]) (
  .seq (
  .ops [
  ⟨some 36, .ldN 19 (.t 10), none⟩,
  ⟨some 37, .mv (.t 11), none⟩,
  ⟨some 38, .fad 2 (.t 4), none⟩,
  ⟨some 39, .ld1 (.t 38), none⟩,
  ⟨some 40, .mv (.t 11), none⟩,
  ⟨some 41, .bin .add (.t 40) (.c (.int .i64 1)), none⟩,
  ⟨some 42, .fad 2 (.t 5), none⟩,
  ⟨some 43, .ld1 (.t 42), none⟩,
  ⟨some 44, .call (.c (.func (.func 47) [] [])) [(.t 36), (.t 37), (.t 39), (.t 41), (.t 43)], none⟩,
  ⟨some 12, .new 102 [(.slice none 0 true 0), (.int .i64 0), (.bool false)], none⟩,
  ⟨none, .st 3 (.t 12) (.t 44), none⟩]) (
  .seq (
  .seq (
  .ops [
  ⟨some 45, .fad 2 (.t 12), none⟩,
  ⟨some 46, .ld1 (.t 45), none⟩,
  ⟨some 47, .un .not (.t 46), none⟩]) (
  .cond (.t 47) (
   .seq (
   .ops [
  ⟨some 6, .mv (.c (.slice none 0 true 0)), none⟩,
  ⟨some 7, .mv (.c (.int .i64 0)), none⟩,
  ⟨some 8, .mv (.c (.int .i64 4)), none⟩]) (
   .ret)) (
   .skip))) (
  .seq (
  .draw [
  (⟨some 48, .fad 0 (.t 12), none⟩, .calm),
  (⟨some 49, .ld1 (.t 48), none⟩, .reads 0 0),
  (⟨some 50, .fad 1 (.t 12), none⟩, .calm),
  (⟨some 51, .ld1 (.t 50), none⟩, .reads 0 0),
  (⟨some 6, .mv (.t 49), none⟩, .calm),
  (⟨some 7, .mv (.t 51), none⟩, .calm),
  (⟨some 8, .mv (.c (.int .i64 0)), none⟩, .calm)]) (
  .ret)))))))), [.tmp 6, .tmp 7, .tmp 8]⟩
/-- paravane/paravanelaw04.places -/
def xq15 : XF := ⟨26, .seq (
  .ops [
  ⟨some 4, .mv (.c (.bool false)), none⟩]) (
  .seq (
  .seq (
  .ops [
  ⟨some 6, .mv (.t 0), none⟩,
  ⟨some 7, .len .sl (.t 6), none⟩,
  ⟨some 8, .mv (.t 1), none⟩,
  ⟨some 9, .len .sl (.t 8), none⟩,
  ⟨some 10, .bin .neq (.t 7) (.t 9), none⟩]) (
  .cond (.t 10) (
   .seq (
   .ops [
  ⟨some 4, .mv (.c (.bool false)), none⟩]) (
   .ret)) (
   .skip))) (
  .seq (
  .seq (
  .ops [
  ⟨some 5, .mv (.c (.int .i64 0)), none⟩]) (
  .block 0 (
   .loop (
    .seq (
    .seq (
    .ops [
  ⟨some 11, .mv (.t 5), none⟩,
  ⟨some 12, .mv (.t 0), none⟩,
  ⟨some 13, .len .sl (.t 12), none⟩,
  ⟨some 14, .bin .lss (.t 11) (.t 13), none⟩]) (
    .cond (.t 14) (
     .skip) (
     .exit 0))) (
    .seq (
    .block 1 (
     .seq (
     .draw [
  (⟨some 17, .mv (.t 0), none⟩, .calm),
  (⟨some 18, .mv (.t 5), none⟩, .calm),
  (⟨some 19, .iad none 2 (.t 17) (.t 18), none⟩, .calm),
  (⟨some 20, .ldN 2 (.t 19), none⟩, .reads 0 0),
  (⟨some 21, .mv (.t 1), none⟩, .calm),
  (⟨some 22, .mv (.t 5), none⟩, .calm),
  (⟨some 23, .iad none 2 (.t 21) (.t 22), none⟩, .calm),
  (⟨some 24, .ldN 2 (.t 23), none⟩, .reads 0 0),
  (⟨some 25, .eqs true 2 [0, 1] (.t 20) (.t 24), none⟩, .calm)]) (
     .cond (.t 25) (
      .seq (
      .ops [
  ⟨some 4, .mv (.c (.bool false)), none⟩]) (
      .ret)) (
      .skip)))) (
    .ops [
  ⟨some 15, .mv (.t 5), none⟩,
  ⟨some 16, .bin .add (.t 15) (.c (.int .i64 1)), none⟩,
  ⟨some 5, .mv (.t 16), none⟩])))))) (
  .seq (
  .ops [
  ⟨some 4, .mv (.c (.bool true)), none⟩]) (
  .ret)))), [.tmp 4]⟩
/-- paravane/paravaneref00.Between -/
def xq30 : XF := ⟨15, .seq (
  .ops [
  ⟨some 6, .mv (.c (.bool false)), none⟩]) (
  .seq (
  .ops [
  ⟨some 7, .mv (.t 0), none⟩,
  ⟨some 8, .mv (.t 1), none⟩,
  ⟨some 9, .bin .geq (.t 7) (.t 8), none⟩,
  ⟨some 10, .mv (.t 9), none⟩,
  ⟨some 11, .mv (.t 0), some (10, true)⟩,
  ⟨some 12, .mv (.t 2), some (10, true)⟩,
  ⟨some 13, .bin .leq (.t 11) (.t 12), some (10, true)⟩,
  ⟨some 14, .pick (.t 10) (.t 13) (.c (.bool false)), none⟩,
  ⟨some 6, .mv (.t 14), none⟩]) (
  .ret)), [.tmp 6]⟩
/-- paravane/course.chartOf -/
def xq41 : XF := ⟨14, .seq (
  .ops [
  ⟨some 1, .box 35 (.t 0), none⟩,
  ⟨some 2, .mv (.c (.ptr none)), none⟩,
  ⟨some 3, .mv (.c (.int .i64 0)), none⟩]) (
  .seq (
  .seq (
  .ops [
  ⟨some 5, .ldN 17 (.t 1), none⟩,
  ⟨some 6, .call (.c (.func (.func 94) [] [])) [(.t 5)], none⟩,
  ⟨some 4, .mv (.t 6), none⟩]) (
  .seq (
  .ops [
  ⟨some 7, .mv (.t 4), none⟩,
  ⟨some 8, .bin .neq (.t 7) (.c (.int .i64 0)), none⟩]) (
  .cond (.t 8) (
   .seq (
   .ops [
  ⟨some 9, .mv (.t 4), none⟩,
  ⟨some 2, .mv (.c (.ptr none)), none⟩,
  ⟨some 3, .mv (.t 9), none⟩]) (
   .ret)) (
   .skip)))) (
  .seq (
  .ops [
  ⟨some 10, .ldN 17 (.t 1), none⟩,
  ⟨some 11, .mkmap, none⟩,
  ⟨some 12, .build [(.slice none 0 true 0), (.slice none 0 true 0), (.slice none 0 true 0), (.int .i64 0), (.int .i64 0), (.int .i64 0), (.int .i64 0), (.int .i64 0), (.int .i64 0), (.int .i64 0), (.int .i64 0), (.int .i64 0), (.int .i64 0), (.int .i64 0), (.int .i64 0), (.int .i64 0), (.slice none 0 true 0), (.map none)] [(0, 17, (.t 10)), (17, 1, (.t 11))], none⟩,
  ⟨some 13, .box 128 (.t 12), none⟩,
  ⟨some 2, .mv (.t 13), none⟩,
  ⟨some 3, .mv (.c (.int .i64 0)), none⟩]) (
  .ret))), [.tmp 2, .tmp 3]⟩
/-- (paravane/course.pose).valid -/
def xq42 : XF := ⟨12, .seq (
  .ops [
  ⟨some 1, .box 90 (.t 0), none⟩,
  ⟨some 2, .mv (.c (.bool false)), none⟩]) (
  .seq (
  .ops [
  ⟨some 3, .fad 0 (.t 1), none⟩,
  ⟨some 4, .ldN 2 (.t 3), none⟩,
  ⟨some 5, .call (.c (.func (.func 87) [] [])) [(.t 4)], none⟩,
  ⟨some 6, .bin .eql (.t 5) (.c (.int .i64 0)), none⟩,
  ⟨some 7, .mv (.t 6), none⟩,
  ⟨some 8, .fad 2 (.t 1), some (7, true)⟩,
  ⟨some 9, .ld1 (.t 8), some (7, true)⟩,
  ⟨some 10, .call (.c (.func (.func 72) [] [])) [(.t 9), (.c (.int .i64 0)), (.c (.int .i64 7))], some (7, true)⟩,
  ⟨some 11, .pick (.t 7) (.t 10) (.c (.bool false)), none⟩,
  ⟨some 2, .mv (.t 11), none⟩]) (
  .ret)), [.tmp 2]⟩
/-- (*paravane/course.chart).best -/
def xq43 : XF := ⟨15, .seq (
  .ops [
  ⟨some 4, .box 90 (.t 1), none⟩,
  ⟨some 5, .box 90 (.t 2), none⟩,
  ⟨some 6, .new 92 [(.slice none 0 true 0), (.int .i64 0)], none⟩,
  ⟨some 7, .mv (.c (.bool false)), none⟩]) (
  .seq (
  .ops [
  ⟨some 8, .mv (.t 0), none⟩,
  ⟨some 9, .ldN 3 (.t 4), none⟩,
  ⟨some 10, .ldN 3 (.t 5), none⟩,
  ⟨some 11, .call (.c (.func (.func 96) [] [])) [(.t 8), (.t 9), (.t 10)], none⟩,
  ⟨some 12, .call (.c (.func (.func 95) [] [])) [(.t 11), (.c (.func (.func 97) [] []))], none⟩,
  ⟨some 13, .ext 0 (.t 12), none⟩,
  ⟨some 14, .ext 1 (.t 12), none⟩,
  ⟨none, .st 2 (.t 6) (.t 13), none⟩,
  ⟨some 7, .mv (.t 14), none⟩]) (
  .ret)), [.cellN 6 2, .tmp 7]⟩
/-- paravane/paravaneref04.CheckCruise -/
def xq44 : XF := ⟨158, .seq (
  .ops [
  ⟨some 1, .box 35 (.t 0), none⟩,
  ⟨some 2, .mv (.c (.int .i64 0)), none⟩]) (
  .seq (
  .ops [
  ⟨some 11, .fad 0 (.t 1), none⟩,
  ⟨some 12, .ld1 (.t 11), none⟩,
  ⟨some 13, .len .sl (.t 12), none⟩,
  ⟨some 14, .call (.c (.func (.func 30) [] [])) [(.t 13), (.c (.int .i64 1)), (.c (.int .i64 5))], none⟩,
  ⟨some 15, .mv (.t 14), none⟩,
  ⟨some 16, .fad 1 (.t 1), some (15, true)⟩,
  ⟨some 17, .ld1 (.t 16), some (15, true)⟩,
  ⟨some 18, .len .sl (.t 17), some (15, true)⟩,
  ⟨some 19, .bin .leq (.t 18) (.c (.int .i64 4)), some (15, true)⟩,
  ⟨some 20, .pick (.t 15) (.t 19) (.c (.bool false)), none⟩,
  ⟨some 21, .mv (.t 20), none⟩,
  ⟨some 22, .fad 2 (.t 1), some (21, true)⟩,
  ⟨some 23, .ld1 (.t 22), some (21, true)⟩,
  ⟨some 24, .len .sl (.t 23), some (21, true)⟩,
  ⟨some 25, .bin .leq (.t 24) (.c (.int .i64 4)), some (21, true)⟩,
  ⟨some 26, .pick (.t 21) (.t 25) (.c (.bool false)), none⟩,
  ⟨some 27, .mv (.t 26), none⟩,
  ⟨some 28, .fad 16 (.t 1), some (27, true)⟩,
  ⟨some 29, .ld1 (.t 28), some (27, true)⟩,
  ⟨some 30, .len .sl (.t 29), some (27, true)⟩,
  ⟨some 31, .fad 0 (.t 1), some (27, true)⟩,
  ⟨some 32, .ld1 (.t 31), some (27, true)⟩,
  ⟨some 33, .len .sl (.t 32), some (27, true)⟩,
  ⟨some 34, .bin .eql (.t 30) (.t 33), some (27, true)⟩,
  ⟨some 35, .pick (.t 27) (.t 34) (.c (.bool false)), none⟩,
  ⟨some 36, .mv (.t 35), none⟩,
  ⟨some 37, .fad 11 (.t 1), some (36, true)⟩,
  ⟨some 38, .ldN 3 (.t 37), some (36, true)⟩,
  ⟨some 39, .call (.c (.func (.func 45) [] [])) [(.t 38)], some (36, true)⟩,
  ⟨some 40, .pick (.t 36) (.t 39) (.c (.bool false)), none⟩,
  ⟨some 41, .mv (.t 40), none⟩,
  ⟨some 42, .fad 14 (.t 1), some (41, true)⟩,
  ⟨some 43, .ld1 (.t 42), some (41, true)⟩,
  ⟨some 44, .call (.c (.func (.func 30) [] [])) [(.t 43), (.c (.int .i64 1)), (.c (.int .i64 1000))], some (41, true)⟩,
  ⟨some 45, .pick (.t 41) (.t 44) (.c (.bool false)), none⟩,
  ⟨some 46, .mv (.t 45), none⟩,
  ⟨some 47, .fad 15 (.t 1), some (46, true)⟩,
  ⟨some 48, .ld1 (.t 47), some (46, true)⟩,
  ⟨some 49, .call (.c (.func (.func 30) [] [])) [(.t 48), (.c (.int .i64 0)), (.c (.int .i64 1000))], some (46, true)⟩,
  ⟨some 50, .pick (.t 46) (.t 49) (.c (.bool false)), none⟩,
  ⟨some 3, .mv (.t 50), none⟩]) (
  .seq (
  .seq (
  .ops [
  ⟨some 4, .mv (.c (.int .i64 0)), none⟩]) (
  .block 0 (
   .loop (
    .seq (
    .seq (
    .ops [
  ⟨some 51, .mv (.t 3), none⟩,
  ⟨some 52, .mv (.t 51), none⟩,
  ⟨some 53, .mv (.t 4), some (52, true)⟩,
  ⟨some 54, .fad 0 (.t 1), some (52, true)⟩,
  ⟨some 55, .ld1 (.t 54), some (52, true)⟩,
  ⟨some 56, .len .sl (.t 55), some (52, true)⟩,
  ⟨some 57, .bin .lss (.t 53) (.t 56), some (52, true)⟩,
  ⟨some 58, .pick (.t 52) (.t 57) (.c (.bool false)), none⟩]) (
    .cond (.t 58) (
     .skip) (
     .exit 0))) (
    .seq (
    .block 1 (
     .seq (
     .ops [
  ⟨some 61, .fad 0 (.t 1), none⟩,
  ⟨some 62, .ld1 (.t 61), none⟩,
  ⟨some 63, .mv (.t 4), none⟩,
  ⟨some 64, .iad none 4 (.t 62) (.t 63), none⟩,
  ⟨some 65, .ldN 4 (.t 64), none⟩,
  ⟨some 5, .new 72 [(.int .i64 0), (.int .i64 0), (.int .i64 0), (.int .i64 0)], none⟩,
  ⟨none, .st 4 (.t 5) (.t 65), none⟩]) (
     .ops [
  ⟨some 66, .fad 0 (.t 5), none⟩,
  ⟨some 67, .ldN 2 (.t 66), none⟩,
  ⟨some 68, .call (.c (.func (.func 98) [] [])) [(.t 67)], none⟩,
  ⟨some 69, .mv (.t 68), none⟩,
  ⟨some 70, .fad 2 (.t 5), some (69, true)⟩,
  ⟨some 71, .ldN 2 (.t 70), some (69, true)⟩,
  ⟨some 72, .call (.c (.func (.func 98) [] [])) [(.t 71)], some (69, true)⟩,
  ⟨some 73, .pick (.t 69) (.t 72) (.c (.bool false)), none⟩,
  ⟨some 74, .mv (.t 73), none⟩,
  ⟨some 75, .fad 0 (.t 5), some (74, true)⟩,
  ⟨some 76, .ldN 2 (.t 75), some (74, true)⟩,
  ⟨some 77, .fad 2 (.t 5), some (74, true)⟩,
  ⟨some 78, .ldN 2 (.t 77), some (74, true)⟩,
  ⟨some 79, .eqs true 2 [0, 1] (.t 76) (.t 78), some (74, true)⟩,
  ⟨some 80, .pick (.t 74) (.t 79) (.c (.bool false)), none⟩,
  ⟨some 81, .mv (.t 80), none⟩,
  ⟨some 82, .fad 16 (.t 1), some (81, true)⟩,
  ⟨some 83, .ld1 (.t 82), some (81, true)⟩,
  ⟨some 84, .mv (.t 4), some (81, true)⟩,
  ⟨some 85, .iad none 1 (.t 83) (.t 84), some (81, true)⟩,
  ⟨some 86, .ld1 (.t 85), some (81, true)⟩,
  ⟨some 87, .call (.c (.func (.func 99) [] [])) [(.t 86)], some (81, true)⟩,
  ⟨some 88, .pick (.t 81) (.t 87) (.c (.bool false)), none⟩,
  ⟨some 3, .mv (.t 88), none⟩]))) (
    .ops [
  ⟨some 59, .mv (.t 4), none⟩,
  ⟨some 60, .bin .add (.t 59) (.c (.int .i64 1)), none⟩,
  ⟨some 4, .mv (.t 60), none⟩])))))) (
  .seq (
  .seq (
  .ops [
  ⟨some 6, .mv (.c (.int .i64 0)), none⟩]) (
  .block 2 (
   .loop (
    .seq (
    .seq (
    .ops [
  ⟨some 89, .mv (.t 3), none⟩,
  ⟨some 90, .mv (.t 89), none⟩,
  ⟨some 91, .mv (.t 6), some (90, true)⟩,
  ⟨some 92, .fad 1 (.t 1), some (90, true)⟩,
  ⟨some 93, .ld1 (.t 92), some (90, true)⟩,
  ⟨some 94, .len .sl (.t 93), some (90, true)⟩,
  ⟨some 95, .bin .lss (.t 91) (.t 94), some (90, true)⟩,
  ⟨some 96, .pick (.t 90) (.t 95) (.c (.bool false)), none⟩]) (
    .cond (.t 96) (
     .skip) (
     .exit 2))) (
    .seq (
    .block 3 (
     .ops [
  ⟨some 99, .fad 1 (.t 1), none⟩,
  ⟨some 100, .ld1 (.t 99), none⟩,
  ⟨some 101, .mv (.t 6), none⟩,
  ⟨some 102, .iad none 1 (.t 100) (.t 101), none⟩,
  ⟨some 103, .ld1 (.t 102), none⟩,
  ⟨some 104, .call (.c (.func (.func 100) [] [])) [(.t 103)], none⟩,
  ⟨some 105, .bin .eql (.t 104) (.c (.int .i64 0)), none⟩,
  ⟨some 3, .mv (.t 105), none⟩])) (
    .ops [
  ⟨some 97, .mv (.t 6), none⟩,
  ⟨some 98, .bin .add (.t 97) (.c (.int .i64 1)), none⟩,
  ⟨some 6, .mv (.t 98), none⟩])))))) (
  .seq (
  .seq (
  .ops [
  ⟨some 7, .mv (.c (.int .i64 0)), none⟩]) (
  .block 4 (
   .loop (
    .seq (
    .seq (
    .ops [
  ⟨some 106, .mv (.t 3), none⟩,
  ⟨some 107, .mv (.t 106), none⟩,
  ⟨some 108, .mv (.t 7), some (107, true)⟩,
  ⟨some 109, .fad 2 (.t 1), some (107, true)⟩,
  ⟨some 110, .ld1 (.t 109), some (107, true)⟩,
  ⟨some 111, .len .sl (.t 110), some (107, true)⟩,
  ⟨some 112, .bin .lss (.t 108) (.t 111), some (107, true)⟩,
  ⟨some 113, .pick (.t 107) (.t 112) (.c (.bool false)), none⟩]) (
    .cond (.t 113) (
     .skip) (
     .exit 4))) (
    .seq (
    .block 5 (
     .ops [
  ⟨some 116, .fad 2 (.t 1), none⟩,
  ⟨some 117, .ld1 (.t 116), none⟩,
  ⟨some 118, .mv (.t 7), none⟩,
  ⟨some 119, .iad none 2 (.t 117) (.t 118), none⟩,
  ⟨some 120, .ldN 2 (.t 119), none⟩,
  ⟨some 121, .call (.c (.func (.func 98) [] [])) [(.t 120)], none⟩,
  ⟨some 3, .mv (.t 121), none⟩])) (
    .ops [
  ⟨some 114, .mv (.t 7), none⟩,
  ⟨some 115, .bin .add (.t 114) (.c (.int .i64 1)), none⟩,
  ⟨some 7, .mv (.t 115), none⟩])))))) (
  .seq (
  .ops [
  ⟨some 122, .fad 3 (.t 1), none⟩,
  ⟨some 123, .ldN 8 (.t 122), none⟩,
  ⟨some 8, .new 28 [(.int .i64 0), (.int .i64 0), (.int .i64 0), (.int .i64 0), (.int .i64 0), (.int .i64 0), (.int .i64 0), (.int .i64 0)], none⟩,
  ⟨none, .st 8 (.t 8) (.t 123), none⟩]) (
  .seq (
  .seq (
  .ops [
  ⟨some 124, .mv (.t 3), none⟩,
  ⟨some 125, .un .not (.t 124), none⟩,
  ⟨some 126, .mv (.t 125), none⟩,
  ⟨some 127, .ldN 8 (.t 8), some (126, false)⟩,
  ⟨some 128, .call (.c (.func (.func 101) [] [])) [(.t 127)], some (126, false)⟩,
  ⟨some 129, .bin .neq (.t 128) (.c (.int .i64 0)), some (126, false)⟩,
  ⟨some 130, .pick (.t 126) (.c (.bool true)) (.t 129), none⟩,
  ⟨some 131, .mv (.t 130), none⟩,
  ⟨some 132, .fad 0 (.t 8), some (131, false)⟩,
  ⟨some 133, .fad 1 (.t 132), some (131, false)⟩,
  ⟨some 134, .ld1 (.t 133), some (131, false)⟩,
  ⟨some 135, .fad 0 (.t 8), some (131, false)⟩,
  ⟨some 136, .fad 0 (.t 135), some (131, false)⟩,
  ⟨some 137, .ld1 (.t 136), some (131, false)⟩,
  ⟨some 138, .bin .sub (.t 134) (.t 137), some (131, false)⟩,
  ⟨some 139, .bin .gtr (.t 138) (.c (.int .i64 256)), some (131, false)⟩,
  ⟨some 140, .pick (.t 131) (.c (.bool true)) (.t 139), none⟩,
  ⟨some 141, .mv (.t 140), none⟩,
  ⟨some 142, .fad 2 (.t 8), some (141, false)⟩,
  ⟨some 143, .fad 1 (.t 142), some (141, false)⟩,
  ⟨some 144, .ld1 (.t 143), some (141, false)⟩,
  ⟨some 145, .fad 2 (.t 8), some (141, false)⟩,
  ⟨some 146, .fad 0 (.t 145), some (141, false)⟩,
  ⟨some 147, .ld1 (.t 146), some (141, false)⟩,
  ⟨some 148, .bin .sub (.t 144) (.t 147), some (141, false)⟩,
  ⟨some 149, .bin .gtr (.t 148) (.c (.int .i64 256)), some (141, false)⟩,
  ⟨some 150, .pick (.t 141) (.c (.bool true)) (.t 149), none⟩]) (
  .cond (.t 150) (
   .seq (
   .ops [
  ⟨some 2, .mv (.c (.int .i64 40)), none⟩]) (
   .ret)) (
   .skip))) (
  .seq (
  .seq (
  .ops [
  ⟨some 152, .ldN 8 (.t 8), none⟩,
  ⟨some 153, .call (.c (.func (.func 102) [] [])) [(.t 152)], none⟩,
  ⟨some 151, .mv (.t 153), none⟩,
  ⟨some 154, .ext 0 (.t 151), none⟩,
  ⟨some 155, .ext 1 (.t 151), none⟩,
  ⟨some 9, .new 28 [(.int .i64 0), (.int .i64 0), (.int .i64 0), (.int .i64 0), (.int .i64 0), (.int .i64 0), (.int .i64 0), (.int .i64 0)], none⟩,
  ⟨none, .st 8 (.t 9) (.t 154), none⟩,
  ⟨some 10, .mv (.t 155), none⟩]) (
  .seq (
  .ops [
  ⟨some 156, .mv (.t 10), none⟩,
  ⟨some 157, .bin .neq (.t 156) (.c (.int .i64 0)), none⟩]) (
  .cond (.t 157) (
   .seq (
   .ops [
  ⟨some 2, .mv (.c (.int .i64 40)), none⟩]) (
   .ret)) (
   .skip)))) (
  .seq (
  .ops [
  ⟨some 2, .mv (.c (.int .i64 0)), none⟩]) (
  .ret))))))))), [.tmp 2]⟩
/-- paravane/paravaneref04.pose -/
def xq45 : XF := ⟨11, .seq (
  .ops [
  ⟨some 1, .box 32 (.t 0), none⟩,
  ⟨some 2, .mv (.c (.bool false)), none⟩]) (
  .seq (
  .ops [
  ⟨some 3, .fad 0 (.t 1), none⟩,
  ⟨some 4, .ldN 2 (.t 3), none⟩,
  ⟨some 5, .call (.c (.func (.func 98) [] [])) [(.t 4)], none⟩,
  ⟨some 6, .mv (.t 5), none⟩,
  ⟨some 7, .fad 2 (.t 1), some (6, true)⟩,
  ⟨some 8, .ld1 (.t 7), some (6, true)⟩,
  ⟨some 9, .call (.c (.func (.func 30) [] [])) [(.t 8), (.c (.int .i64 0)), (.c (.int .i64 7))], some (6, true)⟩,
  ⟨some 10, .pick (.t 6) (.t 9) (.c (.bool false)), none⟩,
  ⟨some 2, .mv (.t 10), none⟩]) (
  .ret)), [.tmp 2]⟩
/-- paravane/paravaneref04.mapped -/
def xq46 : XF := ⟨68, .seq (
  .ops [
  ⟨some 2, .box 35 (.t 0), none⟩,
  ⟨some 4, .new 99 [(.slice none 0 true 0), (.slice none 0 true 0), (.slice none 0 true 0), (.int .i64 0), (.int .i64 0), (.int .i64 0), (.int .i64 0), (.int .i64 0), (.int .i64 0), (.int .i64 0), (.int .i64 0), (.int .i64 0), (.int .i64 0), (.int .i64 0), (.int .i64 0), (.int .i64 0), (.slice none 0 true 0), (.slice none 0 true 0), (.slice none 0 true 0)], none⟩]) (
  .seq (
  .ops [
  ⟨some 9, .ldN 17 (.t 2), none⟩,
  ⟨some 10, .build [(.slice none 0 true 0), (.slice none 0 true 0), (.slice none 0 true 0), (.int .i64 0), (.int .i64 0), (.int .i64 0), (.int .i64 0), (.int .i64 0), (.int .i64 0), (.int .i64 0), (.int .i64 0), (.int .i64 0), (.int .i64 0), (.int .i64 0), (.int .i64 0), (.int .i64 0), (.slice none 0 true 0), (.slice none 0 true 0), (.slice none 0 true 0)] [(0, 17, (.t 9))], none⟩,
  ⟨some 5, .new 99 [(.slice none 0 true 0), (.slice none 0 true 0), (.slice none 0 true 0), (.int .i64 0), (.int .i64 0), (.int .i64 0), (.int .i64 0), (.int .i64 0), (.int .i64 0), (.int .i64 0), (.int .i64 0), (.int .i64 0), (.int .i64 0), (.int .i64 0), (.int .i64 0), (.int .i64 0), (.slice none 0 true 0), (.slice none 0 true 0), (.slice none 0 true 0)], none⟩,
  ⟨none, .st 19 (.t 5) (.t 10), none⟩]) (
  .seq (
  .ops [
  ⟨some 11, .fad 17 (.t 5), none⟩,
  ⟨some 12, .ld1 (.t 11), none⟩,
  ⟨some 13, .fad 2 (.t 2), none⟩,
  ⟨some 14, .ld1 (.t 13), none⟩,
  ⟨some 15, .app 30 2 16 [(.int .i64 0), (.int .i64 0)] (.t 12) (.t 14), none⟩,
  ⟨some 16, .mv (.t 1), none⟩,
  ⟨some 17, .app 30 2 16 [(.int .i64 0), (.int .i64 0)] (.t 15) (.t 16), none⟩,
  ⟨some 18, .fad 17 (.t 5), none⟩,
  ⟨none, .st 1 (.t 18) (.t 17), none⟩]) (
  .seq (
  .seq (
  .ops [
  ⟨some 6, .mv (.c (.int .i64 0)), none⟩]) (
  .block 0 (
   .loop (
    .seq (
    .seq (
    .ops [
  ⟨some 19, .mv (.t 6), none⟩,
  ⟨some 20, .fad 17 (.t 5), none⟩,
  ⟨some 21, .ld1 (.t 20), none⟩,
  ⟨some 22, .len .sl (.t 21), none⟩,
  ⟨some 23, .bin .lss (.t 19) (.t 22), none⟩]) (
    .cond (.t 23) (
     .skip) (
     .exit 0))) (
    .seq (
    .block 1 (
     .seq (
     .ops [
  ⟨some 7, .mv (.c (.slice none 0 true 0)), none⟩]) (
     .seq (
     .seq (
     .ops [
  ⟨some 8, .mv (.c (.int .i64 0)), none⟩]) (
     .block 2 (
      .loop (
       .seq (
       .seq (
       .ops [
  ⟨some 26, .mv (.t 8), none⟩,
  ⟨some 27, .fad 17 (.t 5), none⟩,
  ⟨some 28, .ld1 (.t 27), none⟩,
  ⟨some 29, .len .sl (.t 28), none⟩,
  ⟨some 30, .bin .lss (.t 26) (.t 29), none⟩]) (
       .cond (.t 30) (
        .skip) (
        .exit 2))) (
       .seq (
       .block 3 (
        .draw [
  (⟨some 33, .mv (.t 7), none⟩, .calm),
  (⟨some 34, .fad 17 (.t 5), none⟩, .calm),
  (⟨some 35, .ld1 (.t 34), none⟩, .reads 0 0),
  (⟨some 36, .mv (.t 6), none⟩, .calm),
  (⟨some 37, .iad none 2 (.t 35) (.t 36), none⟩, .calm),
  (⟨some 38, .ldN 2 (.t 37), none⟩, .reads 0 0),
  (⟨some 39, .fad 17 (.t 5), none⟩, .calm),
  (⟨some 40, .ld1 (.t 39), none⟩, .reads 0 0),
  (⟨some 41, .mv (.t 8), none⟩, .calm),
  (⟨some 42, .iad none 2 (.t 40) (.t 41), none⟩, .calm),
  (⟨some 43, .ldN 2 (.t 42), none⟩, .reads 0 0),
  (⟨some 44, .eqs true 2 [0, 1] (.t 38) (.t 43), none⟩, .calm),
  (⟨some 45, .mv (.t 44), none⟩, .calm),
  (⟨some 46, .ldN 17 (.t 2), some (45, true)⟩, .reads 0 0),
  (⟨some 47, .fad 17 (.t 5), some (45, true)⟩, .calm),
  (⟨some 48, .ld1 (.t 47), some (45, true)⟩, .reads 0 0),
  (⟨some 49, .mv (.t 6), some (45, true)⟩, .calm),
  (⟨some 50, .iad none 2 (.t 48) (.t 49), some (45, true)⟩, .calm),
  (⟨some 51, .ldN 2 (.t 50), some (45, true)⟩, .reads 0 0),
  (⟨some 52, .fad 17 (.t 5), some (45, true)⟩, .calm),
  (⟨some 53, .ld1 (.t 52), some (45, true)⟩, .reads 0 0),
  (⟨some 54, .mv (.t 8), some (45, true)⟩, .calm),
  (⟨some 55, .iad none 2 (.t 53) (.t 54), some (45, true)⟩, .calm),
  (⟨some 56, .ldN 2 (.t 55), some (45, true)⟩, .reads 0 0),
  (⟨some 57, .call (.c (.func (.func 103) [] [])) [(.t 46), (.t 51), (.t 56)], some (45, true)⟩, .anchor),
  (⟨some 58, .pick (.t 45) (.t 57) (.c (.bool false)), none⟩, .calm),
  (⟨some 59, .bsl 4 1 1 [(.bool false)] [(0, 1, (.t 58))], none⟩, .new),
  (⟨some 60, .app 4 1 1 [(.bool false)] (.t 33) (.t 59), none⟩, .anchor),
  (⟨some 7, .mv (.t 60), none⟩, .calm)])) (
       .ops [
  ⟨some 31, .mv (.t 8), none⟩,
  ⟨some 32, .bin .add (.t 31) (.c (.int .i64 1)), none⟩,
  ⟨some 8, .mv (.t 32), none⟩])))))) (
     .ops [
  ⟨some 61, .fad 18 (.t 5), none⟩,
  ⟨some 62, .ld1 (.t 61), none⟩,
  ⟨some 63, .mv (.t 7), none⟩,
  ⟨some 64, .bsl 178 1 1 [(.slice none 0 true 0)] [(0, 1, (.t 63))], none⟩,
  ⟨some 65, .app 178 1 24 [(.slice none 0 true 0)] (.t 62) (.t 64), none⟩,
  ⟨some 66, .fad 18 (.t 5), none⟩,
  ⟨none, .st 1 (.t 66) (.t 65), none⟩])))) (
    .ops [
  ⟨some 24, .mv (.t 6), none⟩,
  ⟨some 25, .bin .add (.t 24) (.c (.int .i64 1)), none⟩,
  ⟨some 6, .mv (.t 25), none⟩])))))) (
  .seq (
  .ops [
  ⟨some 67, .ldN 19 (.t 5), none⟩,
  ⟨none, .st 19 (.t 4) (.t 67), none⟩]) (
  .ret))))), [.cellN 4 19]⟩
/-- (paravane/paravaneref04.Map).passage -/
def xq47 : XF := ⟨61, .seq (
  .ops [
  ⟨some 5, .box 99 (.t 0), none⟩,
  ⟨some 10, .new 102 [(.slice none 0 true 0), (.int .i64 0), (.bool false)], none⟩]) (
  .seq (
  .draw [
  (⟨some 13, .ldN 19 (.t 5), none⟩, .reads 0 0),
  (⟨some 14, .mv (.t 1), none⟩, .calm),
  (⟨some 15, .mv (.t 2), none⟩, .calm),
  (⟨some 16, .fad 0 (.t 5), none⟩, .calm),
  (⟨some 17, .fad 2 (.t 16), none⟩, .calm),
  (⟨some 18, .ld1 (.t 17), none⟩, .reads 0 0),
  (⟨some 19, .len .sl (.t 18), none⟩, .calm),
  (⟨some 20, .mksl 4 1 1 [(.bool false)] (.t 19) (.t 19), none⟩, .new),
  (⟨some 21, .mv (.t 3), none⟩, .calm),
  (⟨some 22, .mv (.t 4), none⟩, .calm),
  (⟨some 23, .fad 17 (.t 5), none⟩, .calm),
  (⟨some 24, .ld1 (.t 23), none⟩, .reads 0 0),
  (⟨some 25, .mv (.t 1), none⟩, .calm),
  (⟨some 26, .iad none 2 (.t 24) (.t 25), none⟩, .calm),
  (⟨some 27, .ldN 2 (.t 26), none⟩, .reads 0 0),
  (⟨some 28, .bsl 30 2 1 [(.int .i64 0), (.int .i64 0)] [(0, 2, (.t 27))], none⟩, .new),
  (⟨some 29, .build [(.slice none 0 true 0), (.int .i64 0), (.bool false)] [(0, 1, (.t 28))], none⟩, .calm),
  (⟨some 30, .call (.c (.func (.func 104) [] [])) [(.t 13), (.t 14), (.t 15), (.t 20), (.t 21), (.t 22), (.t 29)], none⟩, .anchor),
  (⟨some 11, .new 102 [(.slice none 0 true 0), (.int .i64 0), (.bool false)], none⟩, .new),
    (⟨none, .st 3 (.t 11) (.t 30), none⟩, .anchor)]) (
  .seq (
  .seq (
  .draw [
  (⟨some 31, .fad 17 (.t 5), none⟩, .calm),
  (⟨some 32, .ld1 (.t 31), none⟩, .reads 0 0),
  (⟨some 33, .mv (.t 1), none⟩, .calm),
  (⟨some 34, .iad none 2 (.t 32) (.t 33), none⟩, .calm),
  (⟨some 35, .ldN 2 (.t 34), none⟩, .reads 0 0),
  (⟨some 36, .fad 17 (.t 5), none⟩, .calm),
  (⟨some 37, .ld1 (.t 36), none⟩, .reads 0 0),
  (⟨some 38, .mv (.t 3), none⟩, .calm),
  (⟨some 39, .iad none 2 (.t 37) (.t 38), none⟩, .calm),
  (⟨some 40, .ldN 2 (.t 39), none⟩, .reads 0 0),
  (⟨some 41, .eqs false 2 [0, 1] (.t 35) (.t 40), none⟩, .calm)]) (
  .cond (.t 41) (
   .seq (
   .draw [
  (⟨some 42, .fad 17 (.t 5), none⟩, .calm),
  (⟨some 43, .ld1 (.t 42), none⟩, .reads 0 0),
  (⟨some 44, .mv (.t 1), none⟩, .calm),
  (⟨some 45, .iad none 2 (.t 43) (.t 44), none⟩, .calm),
  (⟨some 46, .ldN 2 (.t 45), none⟩, .reads 0 0),
  (⟨some 47, .bsl 30 2 1 [(.int .i64 0), (.int .i64 0)] [(0, 2, (.t 46))], none⟩, .new),
  (⟨some 48, .fad 0 (.t 5), none⟩, .calm),
  (⟨some 49, .fad 15 (.t 48), none⟩, .calm),
  (⟨some 50, .ld1 (.t 49), none⟩, .reads 0 0),
  (⟨some 51, .mv (.t 2), none⟩, .calm),
  (⟨some 52, .mv (.t 4), none⟩, .calm),
  (⟨some 53, .call (.c (.func (.func 105) [] [])) [(.t 51), (.t 52)], none⟩, .new),
  (⟨some 54, .bin .mul (.t 50) (.t 53), none⟩, .calm),
  (⟨some 55, .build [(.slice none 0 true 0), (.int .i64 0), (.bool false)] [(0, 1, (.t 47)), (1, 1, (.t 54)), (2, 1, (.c (.bool true)))], none⟩, .calm),
  (⟨some 12, .new 102 [(.slice none 0 true 0), (.int .i64 0), (.bool false)], none⟩, .new),
     (⟨none, .st 3 (.t 12) (.t 55), none⟩, .anchor)]) (
   .seq (
   .ops [
  ⟨some 56, .ldN 3 (.t 12), none⟩,
  ⟨some 57, .ldN 3 (.t 11), none⟩,
  ⟨some 58, .call (.c (.func (.func 106) [] [])) [(.t 56), (.t 57)], none⟩]) (
   .cond (.t 58) (
    .ops [
  ⟨some 59, .ldN 3 (.t 12), none⟩,
  ⟨none, .st 3 (.t 11) (.t 59), none⟩]) (
    .skip)))) (
   .skip))) (
  .seq (
  .ops [
  ⟨some 60, .ldN 3 (.t 11), none⟩,
  ⟨none, .st 3 (.t 10) (.t 60), none⟩]) (
  .ret)))), [.cellN 10 3]⟩
/-- paravane/course.Octant -/
def xq50 : XF := ⟨84, .seq (
  .ops [
  ⟨some 1, .box 30 (.t 0), none⟩,
  ⟨some 2, .mv (.c (.int .i64 0)), none⟩]) (
  .seq (
  .seq (
  .ops [
  ⟨some 7, .fad 0 (.t 1), none⟩,
  ⟨some 8, .ld1 (.t 7), none⟩,
  ⟨some 9, .call (.c (.func (.func 72) [] [])) [(.t 8), (.c (.int .i64 (-131072))), (.c (.int .i64 131072))], none⟩,
  ⟨some 10, .un .not (.t 9), none⟩,
  ⟨some 11, .mv (.t 10), none⟩,
  ⟨some 12, .fad 1 (.t 1), some (11, false)⟩,
  ⟨some 13, .ld1 (.t 12), some (11, false)⟩,
  ⟨some 14, .call (.c (.func (.func 72) [] [])) [(.t 13), (.c (.int .i64 (-131072))), (.c (.int .i64 131072))], some (11, false)⟩,
  ⟨some 15, .un .not (.t 14), some (11, false)⟩,
  ⟨some 16, .pick (.t 11) (.c (.bool true)) (.t 15), none⟩]) (
  .cond (.t 16) (
   .seq (
   .ops [
  ⟨some 2, .mv (.c (.int .i64 0)), none⟩]) (
   .ret)) (
   .skip))) (
  .seq (
  .draw [
  (⟨some 17, .fad 0 (.t 1), none⟩, .calm),
  (⟨some 18, .ld1 (.t 17), none⟩, .reads 0 0),
  (⟨some 19, .fad 1 (.t 1), none⟩, .calm),
  (⟨some 20, .ld1 (.t 19), none⟩, .reads 0 0),
  (⟨some 21, .bin .add (.t 18) (.t 20), none⟩, .calm),
  (⟨some 22, .fad 0 (.t 1), none⟩, .calm),
  (⟨some 23, .ld1 (.t 22), none⟩, .reads 0 0),
  (⟨some 24, .fad 1 (.t 1), none⟩, .calm),
  (⟨some 25, .ld1 (.t 24), none⟩, .reads 0 0),
  (⟨some 26, .bin .sub (.t 23) (.t 25), none⟩, .calm),
  (⟨some 3, .mv (.t 21), none⟩, .calm),
  (⟨some 4, .mv (.t 26), none⟩, .calm)]) (
  .seq (
  .seq (
  .ops [
  ⟨some 27, .fad 1 (.t 1), none⟩,
  ⟨some 28, .ld1 (.t 27), none⟩,
  ⟨some 29, .bin .geq (.t 28) (.c (.int .i64 0)), none⟩,
  ⟨some 30, .mv (.t 29), none⟩,
  ⟨some 31, .mv (.t 4), some (30, true)⟩,
  ⟨some 32, .bin .geq (.t 31) (.c (.int .i64 0)), some (30, true)⟩,
  ⟨some 33, .pick (.t 30) (.t 32) (.c (.bool false)), none⟩,
  ⟨some 34, .fad 0 (.t 1), none⟩,
  ⟨some 35, .ld1 (.t 34), none⟩,
  ⟨some 36, .bin .geq (.t 35) (.c (.int .i64 0)), none⟩,
  ⟨some 37, .mv (.t 36), none⟩,
  ⟨some 38, .mv (.t 4), some (37, true)⟩,
  ⟨some 39, .bin .leq (.t 38) (.c (.int .i64 0)), some (37, true)⟩,
  ⟨some 40, .pick (.t 37) (.t 39) (.c (.bool false)), none⟩,
  ⟨some 41, .fad 0 (.t 1), none⟩,
  ⟨some 42, .ld1 (.t 41), none⟩,
  ⟨some 43, .bin .leq (.t 42) (.c (.int .i64 0)), none⟩,
  ⟨some 44, .mv (.t 43), none⟩,
  ⟨some 45, .mv (.t 3), some (44, true)⟩,
  ⟨some 46, .bin .geq (.t 45) (.c (.int .i64 0)), some (44, true)⟩,
  ⟨some 47, .pick (.t 44) (.t 46) (.c (.bool false)), none⟩,
  ⟨some 48, .fad 1 (.t 1), none⟩,
  ⟨some 49, .ld1 (.t 48), none⟩,
  ⟨some 50, .bin .geq (.t 49) (.c (.int .i64 0)), none⟩,
  ⟨some 51, .mv (.t 50), none⟩,
  ⟨some 52, .mv (.t 3), some (51, true)⟩,
  ⟨some 53, .bin .leq (.t 52) (.c (.int .i64 0)), some (51, true)⟩,
  ⟨some 54, .pick (.t 51) (.t 53) (.c (.bool false)), none⟩,
  ⟨some 55, .fad 1 (.t 1), none⟩,
  ⟨some 56, .ld1 (.t 55), none⟩,
  ⟨some 57, .bin .leq (.t 56) (.c (.int .i64 0)), none⟩,
  ⟨some 58, .mv (.t 57), none⟩,
  ⟨some 59, .mv (.t 4), some (58, true)⟩,
  ⟨some 60, .bin .leq (.t 59) (.c (.int .i64 0)), some (58, true)⟩,
  ⟨some 61, .pick (.t 58) (.t 60) (.c (.bool false)), none⟩,
  ⟨some 62, .fad 0 (.t 1), none⟩,
  ⟨some 63, .ld1 (.t 62), none⟩,
  ⟨some 64, .bin .leq (.t 63) (.c (.int .i64 0)), none⟩,
  ⟨some 65, .mv (.t 64), none⟩,
  ⟨some 66, .mv (.t 4), some (65, true)⟩,
  ⟨some 67, .bin .geq (.t 66) (.c (.int .i64 0)), some (65, true)⟩,
  ⟨some 68, .pick (.t 65) (.t 67) (.c (.bool false)), none⟩,
  ⟨some 69, .fad 0 (.t 1), none⟩,
  ⟨some 70, .ld1 (.t 69), none⟩,
  ⟨some 71, .bin .geq (.t 70) (.c (.int .i64 0)), none⟩,
  ⟨some 72, .mv (.t 71), none⟩,
  ⟨some 73, .mv (.t 3), some (72, true)⟩,
  ⟨some 74, .bin .leq (.t 73) (.c (.int .i64 0)), some (72, true)⟩,
  ⟨some 75, .pick (.t 72) (.t 74) (.c (.bool false)), none⟩,
  ⟨some 76, .build [(.bool false), (.bool false), (.bool false), (.bool false), (.bool false), (.bool false), (.bool false)] [(0, 1, (.t 33)), (1, 1, (.t 40)), (2, 1, (.t 47)), (3, 1, (.t 54)), (4, 1, (.t 61)), (5, 1, (.t 68)), (6, 1, (.t 75))], none⟩,
  ⟨some 77, .mv (.c (.int .i64 0)), none⟩]) (
  .block 0 (
   .loop (
    .seq (
    .ops [
  ⟨some 78, .bin .lss (.t 77) (.c (.int .i64 7)), none⟩]) (
    .seq (
    .cond (.t 78) (
     .skip) (
     .exit 0)) (
    .seq (
    .block 1 (
     .seq (
     .ops [
  ⟨some 79, .mv (.t 77), none⟩,
  ⟨some 80, .idx 7 1 false (.t 76) (.t 77), none⟩,
  ⟨some 5, .mv (.t 79), none⟩,
  ⟨some 6, .mv (.t 80), none⟩]) (
     .seq (
     .ops [
  ⟨some 81, .mv (.t 6), none⟩]) (
     .cond (.t 81) (
      .seq (
      .ops [
  ⟨some 82, .mv (.t 5), none⟩,
  ⟨some 2, .mv (.t 82), none⟩]) (
      .ret)) (
      .skip))))) (
    .ops [
  ⟨some 83, .bin .add (.t 77) (.c (.int .i64 1)), none⟩,
  ⟨some 77, .mv (.t 83), none⟩]))))))) (
  .seq (
  .ops [
  ⟨some 2, .mv (.c (.int .i64 7)), none⟩]) (
  .ret))))), [.tmp 2]⟩
/-- paravane/paravaneref04.steps -/
def xq61 : XF := ⟨45, .seq (
  .ops [
  ⟨some 3, .box 35 (.t 0), none⟩,
  ⟨some 4, .box 30 (.t 1), none⟩,
  ⟨some 5, .box 30 (.t 2), none⟩,
  ⟨some 6, .mv (.c (.int .i64 0)), none⟩]) (
  .seq (
  .draw [
  (⟨some 12, .fad 0 (.t 5), none⟩, .calm),
  (⟨some 13, .ld1 (.t 12), none⟩, .reads 0 0),
  (⟨some 14, .fad 0 (.t 4), none⟩, .calm),
  (⟨some 15, .ld1 (.t 14), none⟩, .reads 0 0),
  (⟨some 16, .bin .sub (.t 13) (.t 15), none⟩, .calm),
  (⟨some 17, .fad 1 (.t 5), none⟩, .calm),
  (⟨some 18, .ld1 (.t 17), none⟩, .reads 0 0),
  (⟨some 19, .fad 1 (.t 4), none⟩, .calm),
  (⟨some 20, .ld1 (.t 19), none⟩, .reads 0 0),
  (⟨some 21, .bin .sub (.t 18) (.t 20), none⟩, .calm),
  (⟨some 7, .mv (.t 16), none⟩, .calm),
  (⟨some 8, .mv (.t 21), none⟩, .calm)]) (
  .seq (
  .ops [
  ⟨some 22, .mv (.t 7), none⟩,
  ⟨some 23, .mv (.t 7), none⟩,
  ⟨some 24, .bin .mul (.t 22) (.t 23), none⟩,
  ⟨some 25, .mv (.t 8), none⟩,
  ⟨some 26, .mv (.t 8), none⟩,
  ⟨some 27, .bin .mul (.t 25) (.t 26), none⟩,
  ⟨some 28, .bin .add (.t 24) (.t 27), none⟩,
  ⟨some 9, .mv (.t 28), none⟩]) (
  .seq (
  .ops [
  ⟨some 30, .mv (.t 9), none⟩,
  ⟨some 31, .call (.c (.func (.func 112) [] [])) [(.t 30)], none⟩,
  ⟨some 29, .mv (.t 31), none⟩,
  ⟨some 32, .ext 0 (.t 29), none⟩,
  ⟨some 33, .ext 1 (.t 29), none⟩,
  ⟨some 10, .mv (.t 32), none⟩,
  ⟨some 11, .mv (.t 33), none⟩]) (
  .seq (
  .seq (
  .ops [
  ⟨some 34, .mv (.t 10), none⟩,
  ⟨some 35, .mv (.t 10), none⟩,
  ⟨some 36, .bin .mul (.t 34) (.t 35), none⟩,
  ⟨some 37, .mv (.t 9), none⟩,
  ⟨some 38, .bin .lss (.t 36) (.t 37), none⟩]) (
  .cond (.t 38) (
   .ops [
  ⟨some 39, .mv (.t 10), none⟩,
  ⟨some 40, .bin .add (.t 39) (.c (.int .i64 1)), none⟩,
  ⟨some 10, .mv (.t 40), none⟩]) (
   .skip))) (
  .seq (
  .ops [
  ⟨some 41, .mv (.t 10), none⟩,
  ⟨some 42, .fad 14 (.t 3), none⟩,
  ⟨some 43, .ld1 (.t 42), none⟩,
  ⟨some 44, .call (.c (.func (.func 113) [] [])) [(.t 41), (.t 43)], none⟩,
  ⟨some 6, .mv (.t 44), none⟩]) (
  .ret)))))), [.tmp 6]⟩
/-- paravane/course.within -/
def xq72 : XF := ⟨15, .seq (
  .ops [
  ⟨some 6, .mv (.c (.bool false)), none⟩]) (
  .seq (
  .ops [
  ⟨some 7, .mv (.t 0), none⟩,
  ⟨some 8, .mv (.t 1), none⟩,
  ⟨some 9, .bin .geq (.t 7) (.t 8), none⟩,
  ⟨some 10, .mv (.t 9), none⟩,
  ⟨some 11, .mv (.t 0), some (10, true)⟩,
  ⟨some 12, .mv (.t 2), some (10, true)⟩,
  ⟨some 13, .bin .leq (.t 11) (.t 12), some (10, true)⟩,
  ⟨some 14, .pick (.t 10) (.t 13) (.c (.bool false)), none⟩,
  ⟨some 6, .mv (.t 14), none⟩]) (
  .ret)), [.tmp 6]⟩
/-- (*paravane/course.chart).steps -/
def xq78 : XF := ⟨61, .seq (
  .ops [
  ⟨some 3, .box 147 (.t 1), none⟩,
  ⟨some 4, .mv (.c (.int .i64 0)), none⟩]) (
  .seq (
  .draw [
  (⟨some 9, .fad 2 (.t 3), none⟩, .calm),
  (⟨some 10, .fad 0 (.t 9), none⟩, .calm),
  (⟨some 11, .ld1 (.t 10), none⟩, .reads 0 0),
  (⟨some 12, .fad 0 (.t 3), none⟩, .calm),
  (⟨some 13, .fad 0 (.t 12), none⟩, .calm),
  (⟨some 14, .ld1 (.t 13), none⟩, .reads 0 0),
  (⟨some 15, .bin .sub (.t 11) (.t 14), none⟩, .calm),
  (⟨some 16, .fad 2 (.t 3), none⟩, .calm),
  (⟨some 17, .fad 1 (.t 16), none⟩, .calm),
  (⟨some 18, .ld1 (.t 17), none⟩, .reads 0 0),
  (⟨some 19, .fad 0 (.t 3), none⟩, .calm),
  (⟨some 20, .fad 1 (.t 19), none⟩, .calm),
  (⟨some 21, .ld1 (.t 20), none⟩, .reads 0 0),
  (⟨some 22, .bin .sub (.t 18) (.t 21), none⟩, .calm),
  (⟨some 5, .mv (.t 15), none⟩, .calm),
  (⟨some 6, .mv (.t 22), none⟩, .calm)]) (
  .seq (
  .ops [
  ⟨some 24, .mv (.t 5), none⟩,
  ⟨some 25, .mv (.t 5), none⟩,
  ⟨some 26, .bin .mul (.t 24) (.t 25), none⟩,
  ⟨some 27, .mv (.t 6), none⟩,
  ⟨some 28, .mv (.t 6), none⟩,
  ⟨some 29, .bin .mul (.t 27) (.t 28), none⟩,
  ⟨some 30, .bin .add (.t 26) (.t 29), none⟩,
  ⟨some 31, .call (.c (.func (.func 118) [] [])) [(.t 30)], none⟩,
  ⟨some 23, .mv (.t 31), none⟩,
  ⟨some 32, .ext 0 (.t 23), none⟩,
  ⟨some 33, .ext 1 (.t 23), none⟩,
  ⟨some 7, .mv (.t 32), none⟩,
  ⟨some 8, .mv (.t 33), none⟩]) (
  .seq (
  .seq (
  .ops [
  ⟨some 34, .mv (.t 7), none⟩,
  ⟨some 35, .mv (.t 7), none⟩,
  ⟨some 36, .bin .mul (.t 34) (.t 35), none⟩,
  ⟨some 37, .mv (.t 5), none⟩,
  ⟨some 38, .mv (.t 5), none⟩,
  ⟨some 39, .bin .mul (.t 37) (.t 38), none⟩,
  ⟨some 40, .mv (.t 6), none⟩,
  ⟨some 41, .mv (.t 6), none⟩,
  ⟨some 42, .bin .mul (.t 40) (.t 41), none⟩,
  ⟨some 43, .bin .add (.t 39) (.t 42), none⟩,
  ⟨some 44, .bin .lss (.t 36) (.t 43), none⟩]) (
  .cond (.t 44) (
   .ops [
  ⟨some 45, .mv (.t 7), none⟩,
  ⟨some 46, .bin .add (.t 45) (.c (.int .i64 1)), none⟩,
  ⟨some 7, .mv (.t 46), none⟩]) (
   .skip))) (
  .seq (
  .draw [
  (⟨some 47, .mv (.t 7), none⟩, .calm),
  (⟨some 48, .mv (.t 0), none⟩, .calm),
  (⟨some 49, .nilc (.t 48), none⟩, .calm),
  (⟨some 50, .fad 0 (.t 49), none⟩, .calm),
  (⟨some 51, .fad 14 (.t 50), none⟩, .calm),
  (⟨some 52, .ld1 (.t 51), none⟩, .reads 0 0),
  (⟨some 53, .bin .add (.t 47) (.t 52), none⟩, .calm),
  (⟨some 54, .bin .sub (.t 53) (.c (.int .i64 1)), none⟩, .calm),
  (⟨some 55, .mv (.t 0), none⟩, .calm),
  (⟨some 56, .nilc (.t 55), none⟩, .calm),
  (⟨some 57, .fad 0 (.t 56), none⟩, .calm),
  (⟨some 58, .fad 14 (.t 57), none⟩, .calm),
  (⟨some 59, .ld1 (.t 58), none⟩, .reads 0 0),
  (⟨some 60, .bin .quo (.t 54) (.t 59), none⟩, .calm),
  (⟨some 4, .mv (.t 60), none⟩, .calm)]) (
  .ret))))), [.tmp 4]⟩
/-- (*paravane/course.chart).clear -/
def xq83 : XF := ⟨52, .seq (
  .ops [
  ⟨some 3, .box 147 (.t 1), none⟩,
  ⟨some 4, .mv (.c (.bool false)), none⟩]) (
  .seq (
  .draw [
  (⟨some 10, .mv (.t 0), none⟩, .calm),
  (⟨some 11, .nilc (.t 10), none⟩, .calm),
  (⟨some 12, .fad 17 (.t 11), none⟩, .calm),
  (⟨some 13, .ld1 (.t 12), none⟩, .reads 0 0),
  (⟨some 14, .ldN 4 (.t 3), none⟩, .reads 0 0),
  (⟨some 15, .lkp 147 (.bool false) true (.t 13) (.t 14), none⟩, .reads 0 0),
  (⟨some 9, .mv (.t 15), none⟩, .calm),
  (⟨some 16, .ext 0 (.t 9), none⟩, .calm),
  (⟨some 17, .ext 1 (.t 9), none⟩, .calm),
  (⟨some 5, .mv (.t 16), none⟩, .calm),
  (⟨some 6, .mv (.t 17), none⟩, .calm)]) (
  .seq (
  .seq (
  .ops [
  ⟨some 18, .mv (.t 6), none⟩,
  ⟨some 19, .un .not (.t 18), none⟩]) (
  .cond (.t 19) (
   .seq (
   .draw [
  (⟨some 21, .mv (.t 0), none⟩, .calm),
  (⟨some 22, .nilc (.t 21), none⟩, .calm),
  (⟨some 23, .fad 0 (.t 22), none⟩, .calm),
  (⟨some 24, .fad 3 (.t 23), none⟩, .calm),
  (⟨some 25, .ldN 8 (.t 24), none⟩, .reads 0 0),
  (⟨some 26, .fad 0 (.t 3), none⟩, .calm),
  (⟨some 27, .ldN 2 (.t 26), none⟩, .reads 0 0),
  (⟨some 28, .fad 2 (.t 3), none⟩, .calm),
  (⟨some 29, .ldN 2 (.t 28), none⟩, .reads 0 0),
  (⟨some 30, .call (.c (.func (.func 120) [] [])) [(.t 25), (.t 27), (.t 29)], none⟩, .anchor),
  (⟨some 20, .mv (.t 30), none⟩, .calm),
  (⟨some 31, .ext 0 (.t 20), none⟩, .calm),
  (⟨some 32, .ext 1 (.t 20), none⟩, .calm),
  (⟨some 7, .new 28 [(.int .i64 0), (.int .i64 0), (.int .i64 0), (.int .i64 0), (.int .i64 0), (.int .i64 0), (.int .i64 0), (.int .i64 0)], none⟩, .new),
     (⟨none, .st 8 (.t 7) (.t 31), none⟩, .anchor),
  (⟨some 8, .mv (.t 32), none⟩, .calm)]) (
   .seq (
   .ops [
  ⟨some 33, .mv (.t 8), none⟩,
  ⟨some 34, .bin .eql (.t 33) (.c (.int .i64 0)), none⟩,
  ⟨some 35, .mv (.t 34), none⟩,
  ⟨some 36, .mv (.t 0), some (35, true)⟩,
  ⟨some 37, .nilc (.t 36), some (35, true)⟩,
  ⟨some 38, .fad 0 (.t 37), some (35, true)⟩,
  ⟨some 39, .fad 1 (.t 38), some (35, true)⟩,
  ⟨some 40, .ld1 (.t 39), some (35, true)⟩,
  ⟨some 41, .mkf 122 [] [(.t 7)], some (35, true)⟩,
  ⟨some 42, .call (.c (.func (.func 121) [] [])) [(.t 40), (.t 41)], some (35, true)⟩,
  ⟨some 43, .un .not (.t 42), some (35, true)⟩,
  ⟨some 44, .pick (.t 35) (.t 43) (.c (.bool false)), none⟩,
  ⟨some 5, .mv (.t 44), none⟩]) (
   .draw [
  (⟨some 45, .mv (.t 0), none⟩, .calm),
  (⟨some 46, .nilc (.t 45), none⟩, .calm),
  (⟨some 47, .fad 17 (.t 46), none⟩, .calm),
  (⟨some 48, .ld1 (.t 47), none⟩, .reads 0 0),
  (⟨some 49, .ldN 4 (.t 3), none⟩, .reads 0 0),
  (⟨some 50, .mv (.t 5), none⟩, .calm),
     (⟨none, .mset 147 (.t 48) (.t 49) (.t 50), none⟩, .anchor)]))) (
   .skip))) (
  .seq (
  .ops [
  ⟨some 51, .mv (.t 5), none⟩,
  ⟨some 4, .mv (.t 51), none⟩]) (
  .ret)))), [.tmp 4]⟩
/-- paravane/paravaneref00.Magnitude -/
def xq84 : XF := ⟨7, .seq (
  .ops [
  ⟨some 2, .mv (.c (.int .i64 0)), none⟩]) (
  .seq (
  .ops [
  ⟨some 3, .mv (.t 0), none⟩,
  ⟨some 4, .mv (.t 0), none⟩,
  ⟨some 5, .un .neg (.t 4), none⟩,
  ⟨some 6, .max [(.t 3), (.t 5)], none⟩,
  ⟨some 2, .mv (.t 6), none⟩]) (
  .ret)), [.tmp 2]⟩
/-- paravane/region.first -/
def xq85 : XF := ⟨15, .seq (
  .ops [
  ⟨some 2, .mv (.c (.int .i64 0)), none⟩]) (
  .seq (
  .seq (
  .ops [
  ⟨some 5, .mv (.t 0), none⟩,
  ⟨some 6, .len .sl (.t 5), none⟩,
  ⟨some 7, .mv (.c (.int .i64 0)), none⟩]) (
  .block 0 (
   .loop (
    .seq (
    .ops [
  ⟨some 8, .bin .lss (.t 7) (.t 6), none⟩]) (
    .seq (
    .cond (.t 8) (
     .skip) (
     .exit 0)) (
    .seq (
    .block 1 (
     .seq (
     .ops [
  ⟨some 9, .iad none 1 (.t 5) (.t 7), none⟩,
  ⟨some 10, .ld1 (.t 9), none⟩,
  ⟨some 4, .mv (.t 10), none⟩]) (
     .seq (
     .ops [
  ⟨some 11, .mv (.t 4), none⟩,
  ⟨some 12, .bin .neq (.t 11) (.c (.int .i64 0)), none⟩]) (
     .cond (.t 12) (
      .seq (
      .ops [
  ⟨some 13, .mv (.t 4), none⟩,
  ⟨some 2, .mv (.t 13), none⟩]) (
      .ret)) (
      .skip))))) (
    .ops [
  ⟨some 14, .bin .add (.t 7) (.c (.int .i64 1)), none⟩,
  ⟨some 7, .mv (.t 14), none⟩]))))))) (
  .seq (
  .ops [
  ⟨some 2, .mv (.c (.int .i64 0)), none⟩]) (
  .ret))), [.tmp 2]⟩
/-- paravane/region.Check -/
def xq86 : XF := ⟨24, .seq (
  .ops [
  ⟨some 1, .box 28 (.t 0), none⟩,
  ⟨some 2, .mv (.c (.int .i64 0)), none⟩]) (
  .seq (
  .ops [
  ⟨some 6, .mkf 124 [(.c (.int .i64 32768))] [], none⟩,
  ⟨some 7, .mkf 124 [(.c (.int .i64 32768))] [], none⟩,
  ⟨some 8, .mkf 124 [(.c (.int .i64 65536))] [], none⟩,
  ⟨some 9, .mkf 124 [(.c (.int .i64 65536))] [], none⟩,
  ⟨some 10, .build [.nilFunc, .nilFunc, .nilFunc, .nilFunc] [(0, 1, (.t 6)), (1, 1, (.t 7)), (2, 1, (.t 8)), (3, 1, (.t 9))], none⟩,
  ⟨some 3, .new 202 [.nilFunc, .nilFunc, .nilFunc, .nilFunc], none⟩,
  ⟨none, .st 4 (.t 3) (.t 10), none⟩]) (
  .seq (
  .seq (
  .ops [
  ⟨some 11, .ldN 8 (.t 1), none⟩,
  ⟨some 12, .call (.c (.func (.func 88) [] [])) [(.t 11)], none⟩,
  ⟨some 13, .mv (.c (.int .i64 0)), none⟩]) (
  .block 0 (
   .loop (
    .seq (
    .ops [
  ⟨some 14, .bin .lss (.t 13) (.c (.int .i64 4)), none⟩]) (
    .seq (
    .cond (.t 14) (
     .skip) (
     .exit 0)) (
    .seq (
    .block 1 (
     .seq (
     .ops [
  ⟨some 15, .mv (.t 13), none⟩,
  ⟨some 16, .idx 4 2 true (.t 12) (.t 13), none⟩,
  ⟨some 5, .new 26 [(.int .i64 0), (.int .i64 0)], none⟩,
  ⟨some 4, .mv (.t 15), none⟩,
  ⟨none, .st 2 (.t 5) (.t 16), none⟩]) (
     .seq (
     .draw [
  (⟨some 17, .mv (.t 4), none⟩, .calm),
  (⟨some 18, .iad (some 4) 1 (.t 3) (.t 17), none⟩, .calm),
  (⟨some 19, .ld1 (.t 18), none⟩, .reads 0 0),
  (⟨some 20, .ldN 2 (.t 5), none⟩, .reads 0 0),
  (⟨some 21, .call (.t 19) [(.t 20)], none⟩, .anchor),
  (⟨some 22, .un .not (.t 21), none⟩, .calm)]) (
     .cond (.t 22) (
      .seq (
      .ops [
  ⟨some 2, .mv (.c (.int .i64 11)), none⟩]) (
      .ret)) (
      .skip))))) (
    .ops [
  ⟨some 23, .bin .add (.t 13) (.c (.int .i64 1)), none⟩,
  ⟨some 13, .mv (.t 23), none⟩]))))))) (
  .seq (
  .ops [
  ⟨some 2, .mv (.c (.int .i64 0)), none⟩]) (
  .ret)))), [.tmp 2]⟩
/-- paravane/region.CheckPoint -/
def xq87 : XF := ⟨18, .seq (
  .ops [
  ⟨some 1, .box 30 (.t 0), none⟩,
  ⟨some 2, .mv (.c (.int .i64 0)), none⟩]) (
  .seq (
  .seq (
  .ops [
  ⟨some 5, .fad 0 (.t 1), none⟩,
  ⟨some 6, .ld1 (.t 5), none⟩,
  ⟨some 7, .fad 1 (.t 1), none⟩,
  ⟨some 8, .ld1 (.t 7), none⟩,
  ⟨some 9, .build [(.int .i64 0), (.int .i64 0)] [(0, 1, (.t 6)), (1, 1, (.t 8))], none⟩,
  ⟨some 10, .mv (.c (.int .i64 0)), none⟩]) (
  .block 0 (
   .loop (
    .seq (
    .ops [
  ⟨some 11, .bin .lss (.t 10) (.c (.int .i64 2)), none⟩]) (
    .seq (
    .cond (.t 11) (
     .skip) (
     .exit 0)) (
    .seq (
    .block 1 (
     .seq (
     .ops [
  ⟨some 12, .idx 2 1 false (.t 9) (.t 10), none⟩,
  ⟨some 4, .mv (.t 12), none⟩]) (
     .seq (
     .ops [
  ⟨some 13, .mv (.t 4), none⟩,
  ⟨some 14, .call (.c (.func (.func 125) [] [])) [(.c (.int .i64 32768)), (.t 13)], none⟩,
  ⟨some 15, .mv (.t 4), none⟩,
  ⟨some 16, .bin .neq (.t 14) (.t 15), none⟩]) (
     .cond (.t 16) (
      .seq (
      .ops [
  ⟨some 2, .mv (.c (.int .i64 10)), none⟩]) (
      .ret)) (
      .skip))))) (
    .ops [
  ⟨some 17, .bin .add (.t 10) (.c (.int .i64 1)), none⟩,
  ⟨some 10, .mv (.t 17), none⟩]))))))) (
  .seq (
  .ops [
  ⟨some 2, .mv (.c (.int .i64 0)), none⟩]) (
  .ret))), [.tmp 2]⟩
/-- paravane/region.bounds -/
def xq88 : XF := ⟨12, .seq (
  .ops [
  ⟨some 1, .box 28 (.t 0), none⟩,
  ⟨some 2, .new 163 [(.int .i64 0), (.int .i64 0), (.int .i64 0), (.int .i64 0), (.int .i64 0), (.int .i64 0), (.int .i64 0), (.int .i64 0)], none⟩]) (
  .seq (
  .ops [
  ⟨some 3, .fad 0 (.t 1), none⟩,
  ⟨some 4, .ldN 2 (.t 3), none⟩,
  ⟨some 5, .fad 2 (.t 1), none⟩,
  ⟨some 6, .ldN 2 (.t 5), none⟩,
  ⟨some 7, .fad 4 (.t 1), none⟩,
  ⟨some 8, .ldN 2 (.t 7), none⟩,
  ⟨some 9, .fad 6 (.t 1), none⟩,
  ⟨some 10, .ldN 2 (.t 9), none⟩,
  ⟨some 11, .build [(.int .i64 0), (.int .i64 0), (.int .i64 0), (.int .i64 0), (.int .i64 0), (.int .i64 0), (.int .i64 0), (.int .i64 0)] [(0, 2, (.t 4)), (2, 2, (.t 6)), (4, 2, (.t 8)), (6, 2, (.t 10))], none⟩,
  ⟨none, .st 8 (.t 2) (.t 11), none⟩]) (
  .ret)), [.cellN 2 8]⟩
/-- (paravane/region.four).combined -/
def xq89 : XF := ⟨23, .seq (
  .ops [
  ⟨some 3, .box 163 (.t 0), none⟩,
  ⟨some 4, .box 163 (.t 1), none⟩,
  ⟨some 6, .new 163 [(.int .i64 0), (.int .i64 0), (.int .i64 0), (.int .i64 0), (.int .i64 0), (.int .i64 0), (.int .i64 0), (.int .i64 0)], none⟩]) (
  .seq (
  .seq (
  .ops [
  ⟨some 8, .mv (.c (.int .i64 0)), none⟩]) (
  .block 0 (
   .loop (
    .seq (
    .ops [
  ⟨some 9, .bin .lss (.t 8) (.c (.int .i64 4)), none⟩]) (
    .seq (
    .cond (.t 9) (
     .skip) (
     .exit 0)) (
    .seq (
    .block 1 (
     .seq (
     .ops [
  ⟨some 10, .mv (.t 8), none⟩,
  ⟨some 7, .mv (.t 10), none⟩]) (
     .draw [
  (⟨some 11, .mv (.t 7), none⟩, .calm),
  (⟨some 12, .mv (.t 2), none⟩, .calm),
  (⟨some 13, .mv (.t 7), none⟩, .calm),
  (⟨some 14, .iad (some 4) 2 (.t 3) (.t 13), none⟩, .calm),
  (⟨some 15, .ldN 2 (.t 14), none⟩, .reads 0 0),
  (⟨some 16, .mv (.t 7), none⟩, .calm),
  (⟨some 17, .iad (some 4) 2 (.t 4) (.t 16), none⟩, .calm),
  (⟨some 18, .ldN 2 (.t 17), none⟩, .reads 0 0),
  (⟨some 19, .call (.t 12) [(.t 15), (.t 18)], none⟩, .anchor),
  (⟨some 20, .iad (some 4) 2 (.t 3) (.t 11), none⟩, .calm),
       (⟨none, .st 2 (.t 20) (.t 19), none⟩, .anchor)]))) (
    .ops [
  ⟨some 21, .bin .add (.t 8) (.c (.int .i64 1)), none⟩,
  ⟨some 8, .mv (.t 21), none⟩]))))))) (
  .seq (
  .ops [
  ⟨some 22, .ldN 8 (.t 3), none⟩,
  ⟨none, .st 8 (.t 6) (.t 22), none⟩]) (
  .ret))), [.cellN 6 8]⟩
/-- paravane/region.of -/
def xq90 : XF := ⟨32, .seq (
  .ops [
  ⟨some 1, .box 30 (.t 0), none⟩,
  ⟨some 2, .new 163 [(.int .i64 0), (.int .i64 0), (.int .i64 0), (.int .i64 0), (.int .i64 0), (.int .i64 0), (.int .i64 0), (.int .i64 0)], none⟩]) (
  .seq (
  .ops [
  ⟨some 3, .new 163 [(.int .i64 0), (.int .i64 0), (.int .i64 0), (.int .i64 0), (.int .i64 0), (.int .i64 0), (.int .i64 0), (.int .i64 0)], none⟩]) (
  .seq (
  .seq (
  .ops [
  ⟨some 6, .fad 0 (.t 1), none⟩,
  ⟨some 7, .ld1 (.t 6), none⟩,
  ⟨some 8, .fad 1 (.t 1), none⟩,
  ⟨some 9, .ld1 (.t 8), none⟩,
  ⟨some 10, .fad 0 (.t 1), none⟩,
  ⟨some 11, .ld1 (.t 10), none⟩,
  ⟨some 12, .fad 1 (.t 1), none⟩,
  ⟨some 13, .ld1 (.t 12), none⟩,
  ⟨some 14, .bin .add (.t 11) (.t 13), none⟩,
  ⟨some 15, .fad 0 (.t 1), none⟩,
  ⟨some 16, .ld1 (.t 15), none⟩,
  ⟨some 17, .fad 1 (.t 1), none⟩,
  ⟨some 18, .ld1 (.t 17), none⟩,
  ⟨some 19, .bin .sub (.t 16) (.t 18), none⟩,
  ⟨some 20, .build [(.int .i64 0), (.int .i64 0), (.int .i64 0), (.int .i64 0)] [(0, 1, (.t 7)), (1, 1, (.t 9)), (2, 1, (.t 14)), (3, 1, (.t 19))], none⟩,
  ⟨some 21, .mv (.c (.int .i64 0)), none⟩]) (
  .block 0 (
   .loop (
    .seq (
    .ops [
  ⟨some 22, .bin .lss (.t 21) (.c (.int .i64 4)), none⟩]) (
    .seq (
    .cond (.t 22) (
     .skip) (
     .exit 0)) (
    .seq (
    .block 1 (
     .seq (
     .ops [
  ⟨some 23, .mv (.t 21), none⟩,
  ⟨some 24, .idx 4 1 false (.t 20) (.t 21), none⟩,
  ⟨some 4, .mv (.t 23), none⟩,
  ⟨some 5, .mv (.t 24), none⟩]) (
     .ops [
  ⟨some 25, .mv (.t 4), none⟩,
  ⟨some 26, .mv (.t 5), none⟩,
  ⟨some 27, .mv (.t 5), none⟩,
  ⟨some 28, .build [(.int .i64 0), (.int .i64 0)] [(0, 1, (.t 26)), (1, 1, (.t 27))], none⟩,
  ⟨some 29, .iad (some 4) 2 (.t 3) (.t 25), none⟩,
  ⟨none, .st 2 (.t 29) (.t 28), none⟩]))) (
    .ops [
  ⟨some 30, .bin .add (.t 21) (.c (.int .i64 1)), none⟩,
  ⟨some 21, .mv (.t 30), none⟩]))))))) (
  .seq (
  .ops [
  ⟨some 31, .ldN 8 (.t 3), none⟩,
  ⟨none, .st 8 (.t 2) (.t 31), none⟩]) (
  .ret)))), [.cellN 2 8]⟩
/-- paravane/region.CheckField -/
def xq92 : XF := ⟨63, .seq (
  .ops [
  ⟨some 2, .mv (.c (.int .i64 0)), none⟩]) (
  .seq (
  .seq (
  .ops [
  ⟨some 10, .mv (.t 0), none⟩,
  ⟨some 11, .len .sl (.t 10), none⟩,
  ⟨some 12, .call (.c (.func (.func 126) [] [])) [(.t 11), (.c (.int .i64 3)), (.c (.int .i64 8))], none⟩,
  ⟨some 13, .un .not (.t 12), none⟩]) (
  .cond (.t 13) (
   .seq (
   .ops [
  ⟨some 2, .mv (.c (.int .i64 12)), none⟩]) (
   .ret)) (
   .skip))) (
  .seq (
  .seq (
  .ops [
  ⟨some 14, .mv (.t 0), none⟩,
  ⟨some 15, .len .sl (.t 14), none⟩,
  ⟨some 16, .mv (.c (.int .i64 0)), none⟩]) (
  .block 0 (
   .loop (
    .seq (
    .ops [
  ⟨some 17, .bin .lss (.t 16) (.t 15), none⟩]) (
    .seq (
    .cond (.t 17) (
     .skip) (
     .exit 0)) (
    .seq (
    .block 1 (
     .seq (
     .ops [
  ⟨some 18, .iad none 2 (.t 14) (.t 16), none⟩,
  ⟨some 19, .ldN 2 (.t 18), none⟩,
  ⟨some 4, .new 30 [(.int .i64 0), (.int .i64 0)], none⟩,
  ⟨none, .st 2 (.t 4) (.t 19), none⟩]) (
     .seq (
     .ops [
  ⟨some 20, .ldN 2 (.t 4), none⟩,
  ⟨some 21, .call (.c (.func (.func 87) [] [])) [(.t 20)], none⟩,
  ⟨some 22, .bin .neq (.t 21) (.c (.int .i64 0)), none⟩]) (
     .cond (.t 22) (
      .seq (
      .ops [
  ⟨some 2, .mv (.c (.int .i64 12)), none⟩]) (
      .ret)) (
      .skip))))) (
    .ops [
  ⟨some 23, .bin .add (.t 16) (.c (.int .i64 1)), none⟩,
  ⟨some 16, .mv (.t 23), none⟩]))))))) (
  .seq (
  .seq (
  .ops [
  ⟨some 24, .mv (.t 0), none⟩,
  ⟨some 25, .len .sl (.t 24), none⟩,
  ⟨some 26, .mv (.c (.int .i64 0)), none⟩]) (
  .block 2 (
   .loop (
    .seq (
    .ops [
  ⟨some 27, .bin .lss (.t 26) (.t 25), none⟩]) (
    .seq (
    .cond (.t 27) (
     .skip) (
     .exit 2)) (
    .seq (
    .block 3 (
     .seq (
     .ops [
  ⟨some 28, .mv (.t 26), none⟩,
  ⟨some 29, .iad none 2 (.t 24) (.t 26), none⟩,
  ⟨some 30, .ldN 2 (.t 29), none⟩,
  ⟨some 6, .new 30 [(.int .i64 0), (.int .i64 0)], none⟩,
  ⟨some 5, .mv (.t 28), none⟩,
  ⟨none, .st 2 (.t 6) (.t 30), none⟩]) (
     .seq (
     .ops [
  ⟨some 31, .mv (.t 5), none⟩,
  ⟨some 32, .bin .add (.t 31) (.c (.int .i64 1)), none⟩,
  ⟨some 33, .mv (.t 0), none⟩,
  ⟨some 34, .len .sl (.t 33), none⟩,
  ⟨some 35, .bin .rem (.t 32) (.t 34), none⟩,
  ⟨some 7, .mv (.t 35), none⟩]) (
     .seq (
     .ops [
  ⟨some 36, .mv (.t 0), none⟩,
  ⟨some 37, .len .sl (.t 36), none⟩,
  ⟨some 38, .mv (.c (.int .i64 0)), none⟩]) (
     .block 4 (
      .loop (
       .seq (
       .ops [
  ⟨some 39, .bin .lss (.t 38) (.t 37), none⟩]) (
       .seq (
       .cond (.t 39) (
        .skip) (
        .exit 4)) (
       .seq (
       .block 5 (
        .seq (
        .ops [
  ⟨some 40, .mv (.t 38), none⟩,
  ⟨some 41, .iad none 2 (.t 36) (.t 38), none⟩,
  ⟨some 42, .ldN 2 (.t 41), none⟩,
  ⟨some 9, .new 30 [(.int .i64 0), (.int .i64 0)], none⟩,
  ⟨some 8, .mv (.t 40), none⟩,
  ⟨none, .st 2 (.t 9) (.t 42), none⟩]) (
        .seq (
        .draw [
  (⟨some 43, .mv (.t 8), none⟩, .calm),
  (⟨some 44, .mv (.t 5), none⟩, .calm),
  (⟨some 45, .bin .neq (.t 43) (.t 44), none⟩, .calm),
  (⟨some 46, .mv (.t 45), none⟩, .calm),
  (⟨some 47, .mv (.t 8), some (46, true)⟩, .calm),
  (⟨some 48, .mv (.t 7), some (46, true)⟩, .calm),
  (⟨some 49, .bin .neq (.t 47) (.t 48), some (46, true)⟩, .calm),
  (⟨some 50, .pick (.t 46) (.t 49) (.c (.bool false)), none⟩, .calm),
  (⟨some 51, .mv (.t 50), none⟩, .calm),
  (⟨some 52, .ldN 2 (.t 6), some (51, true)⟩, .reads 0 0),
  (⟨some 53, .mv (.t 0), some (51, true)⟩, .calm),
  (⟨some 54, .mv (.t 7), some (51, true)⟩, .calm),
  (⟨some 55, .iad none 2 (.t 53) (.t 54), some (51, true)⟩, .calm),
  (⟨some 56, .ldN 2 (.t 55), some (51, true)⟩, .reads 0 0),
  (⟨some 57, .ldN 2 (.t 9), some (51, true)⟩, .reads 0 0),
  (⟨some 58, .call (.c (.func (.func 127) [] [])) [(.t 52), (.t 56), (.t 57)], some (51, true)⟩, .anchor),
  (⟨some 59, .bin .leq (.t 58) (.c (.int .i64 0)), some (51, true)⟩, .calm),
  (⟨some 60, .pick (.t 51) (.t 59) (.c (.bool false)), none⟩, .calm)]) (
        .cond (.t 60) (
         .seq (
         .ops [
  ⟨some 2, .mv (.c (.int .i64 12)), none⟩]) (
         .ret)) (
         .skip))))) (
       .ops [
  ⟨some 61, .bin .add (.t 38) (.c (.int .i64 1)), none⟩,
  ⟨some 38, .mv (.t 61), none⟩])))))))))) (
    .ops [
  ⟨some 62, .bin .add (.t 26) (.c (.int .i64 1)), none⟩,
  ⟨some 26, .mv (.t 62), none⟩]))))))) (
  .seq (
  .ops [
  ⟨some 2, .mv (.c (.int .i64 0)), none⟩]) (
  .ret))))), [.tmp 2]⟩
/-- paravane/course.CheckCruise -/
def xq94 : XF := ⟨6, .seq (
  .ops [
  ⟨some 1, .box 35 (.t 0), none⟩,
  ⟨some 2, .mv (.c (.int .i64 0)), none⟩]) (
  .seq (
  .seq (
  .ops [
  ⟨some 3, .ldN 17 (.t 1), none⟩,
  ⟨some 4, .call (.c (.func (.func 129) [] [])) [(.t 3)], none⟩,
  ⟨some 5, .un .not (.t 4), none⟩]) (
  .cond (.t 5) (
   .seq (
   .ops [
  ⟨some 2, .mv (.c (.int .i64 40)), none⟩]) (
   .ret)) (
   .skip))) (
  .seq (
  .ops [
  ⟨some 2, .mv (.c (.int .i64 0)), none⟩]) (
  .ret))), [.tmp 2]⟩
/-- paravane/course.first[paravane/course.passage] -/
def xq95 : XF := ⟨20, .seq (
  .ops [
  ⟨some 3, .box 173 (.t 1), none⟩,
  ⟨some 4, .new 92 [(.slice none 0 true 0), (.int .i64 0)], none⟩,
  ⟨some 5, .new 4 [(.bool false)], none⟩]) (
  .seq (
  .seq (
  .ops [
  ⟨some 7, .mv (.t 0), none⟩]) (
  .block 0 (
   .rfun (.t 7) [8] (
    .ops [
  ⟨some 6, .new 92 [(.slice none 0 true 0), (.int .i64 0)], none⟩,
  ⟨none, .st 2 (.t 6) (.t 8), none⟩]) (
    .block 1 (
     .seq (
     .ops [
  ⟨some 9, .ld1 (.t 5), none⟩,
  ⟨some 10, .un .not (.t 9), none⟩,
  ⟨some 11, .mv (.t 10), none⟩,
  ⟨some 12, .ld1 (.t 3), some (11, false)⟩,
  ⟨some 13, .ldN 2 (.t 6), some (11, false)⟩,
  ⟨some 14, .ldN 2 (.t 4), some (11, false)⟩,
  ⟨some 15, .call (.t 12) [(.t 13), (.t 14)], some (11, false)⟩,
  ⟨some 16, .pick (.t 11) (.c (.bool true)) (.t 15), none⟩]) (
     .cond (.t 16) (
      .ops [
  ⟨some 17, .ldN 2 (.t 6), none⟩,
  ⟨none, .st 2 (.t 4) (.t 17), none⟩,
  ⟨none, .st 1 (.t 5) (.c (.bool true)), none⟩]) (
      .skip))))))) (
  .seq (
  .draw [
  (⟨some 18, .ldN 2 (.t 4), none⟩, .reads 0 0),
  (⟨some 19, .ld1 (.t 5), none⟩, .reads 0 1),
    (⟨none, .st 2 (.t 4) (.t 18), none⟩, .anchor),
    (⟨none, .st 1 (.t 5) (.t 19), none⟩, .anchor)]) (
  .ret))), [.cellN 4 2, .cell1 5]⟩
/-- (*paravane/course.chart).passages -/
def xq96 : XF := ⟨8, .seq (
  .ops [
  ⟨some 3, .box 87 (.t 0), none⟩,
  ⟨some 4, .box 90 (.t 1), none⟩,
  ⟨some 5, .box 90 (.t 2), none⟩,
  ⟨some 6, .mv (.c .nilFunc), none⟩]) (
  .seq (
  .ops [
  ⟨some 7, .mkf 130 [] [(.t 3), (.t 4), (.t 5)], none⟩,
  ⟨some 6, .mv (.t 7), none⟩]) (
  .ret)), [.tmp 6]⟩
/-- (paravane/course.passage).less -/
def xq97 : XF := ⟨37, .seq (
  .ops [
  ⟨some 2, .box 92 (.t 0), none⟩,
  ⟨some 3, .box 92 (.t 1), none⟩,
  ⟨some 4, .mv (.c (.bool false)), none⟩]) (
  .seq (
  .block 0 (
   .seq (
   .ops [
  ⟨some 6, .fad 1 (.t 2), none⟩,
  ⟨some 7, .ld1 (.t 6), none⟩,
  ⟨some 8, .fad 1 (.t 3), none⟩,
  ⟨some 9, .ld1 (.t 8), none⟩,
  ⟨some 10, .bin .neq (.t 7) (.t 9), none⟩,
  ⟨some 5, .mv (.t 10), none⟩]) (
   .cond (.t 5) (
    .seq (
    .ops [
  ⟨some 11, .fad 1 (.t 2), none⟩,
  ⟨some 12, .ld1 (.t 11), none⟩,
  ⟨some 13, .fad 1 (.t 3), none⟩,
  ⟨some 14, .ld1 (.t 13), none⟩,
  ⟨some 15, .bin .lss (.t 12) (.t 14), none⟩,
  ⟨some 4, .mv (.t 15), none⟩]) (
    .ret)) (
    .seq (
    .ops [
  ⟨some 17, .fad 0 (.t 2), none⟩,
  ⟨some 18, .ld1 (.t 17), none⟩,
  ⟨some 19, .len .sl (.t 18), none⟩,
  ⟨some 20, .fad 0 (.t 3), none⟩,
  ⟨some 21, .ld1 (.t 20), none⟩,
  ⟨some 22, .len .sl (.t 21), none⟩,
  ⟨some 23, .bin .neq (.t 19) (.t 22), none⟩,
  ⟨some 16, .mv (.t 23), none⟩]) (
    .cond (.t 16) (
     .seq (
     .ops [
  ⟨some 24, .fad 0 (.t 2), none⟩,
  ⟨some 25, .ld1 (.t 24), none⟩,
  ⟨some 26, .len .sl (.t 25), none⟩,
  ⟨some 27, .fad 0 (.t 3), none⟩,
  ⟨some 28, .ld1 (.t 27), none⟩,
  ⟨some 29, .len .sl (.t 28), none⟩,
  ⟨some 30, .bin .lss (.t 26) (.t 29), none⟩,
  ⟨some 4, .mv (.t 30), none⟩]) (
     .ret)) (
     .skip)))))) (
  .seq (
  .ops [
  ⟨some 31, .fad 0 (.t 2), none⟩,
  ⟨some 32, .ld1 (.t 31), none⟩,
  ⟨some 33, .fad 0 (.t 3), none⟩,
  ⟨some 34, .ld1 (.t 33), none⟩,
  ⟨some 35, .call (.c (.func (.func 135) [] [])) [(.t 32), (.t 34), (.c (.func (.func 136) [] []))], none⟩,
  ⟨some 36, .bin .lss (.t 35) (.c (.int .i64 0)), none⟩,
  ⟨some 4, .mv (.t 36), none⟩]) (
  .ret))), [.tmp 4]⟩
/-- paravane/paravaneref04.place -/
def xq98 : XF := ⟨6, .seq (
  .ops [
  ⟨some 1, .box 30 (.t 0), none⟩,
  ⟨some 2, .mv (.c (.bool false)), none⟩]) (
  .seq (
  .ops [
  ⟨some 3, .ldN 2 (.t 1), none⟩,
  ⟨some 4, .call (.c (.func (.func 137) [] [])) [(.t 3)], none⟩,
  ⟨some 5, .bin .eql (.t 4) (.c (.int .i64 0)), none⟩,
  ⟨some 2, .mv (.t 5), none⟩]) (
  .ret)), [.tmp 2]⟩
/-- paravane/paravaneref04.windows -/
def xq99 : XF := ⟨63, .seq (
  .ops [
  ⟨some 2, .mv (.c (.bool false)), none⟩]) (
  .seq (
  .ops [
  ⟨some 5, .mv (.t 0), none⟩,
  ⟨some 6, .len .sl (.t 5), none⟩,
  ⟨some 7, .bin .leq (.t 6) (.c (.int .i64 4)), none⟩,
  ⟨some 3, .mv (.t 7), none⟩]) (
  .seq (
  .seq (
  .ops [
  ⟨some 4, .mv (.c (.int .i64 0)), none⟩]) (
  .block 0 (
   .loop (
    .seq (
    .seq (
    .ops [
  ⟨some 8, .mv (.t 4), none⟩,
  ⟨some 9, .mv (.t 0), none⟩,
  ⟨some 10, .len .sl (.t 9), none⟩,
  ⟨some 11, .bin .lss (.t 8) (.t 10), none⟩]) (
    .cond (.t 11) (
     .skip) (
     .exit 0))) (
    .seq (
    .block 1 (
     .draw [
  (⟨some 14, .mv (.t 3), none⟩, .calm),
  (⟨some 15, .mv (.t 14), none⟩, .calm),
  (⟨some 16, .mv (.t 0), some (15, true)⟩, .calm),
  (⟨some 17, .mv (.t 4), some (15, true)⟩, .calm),
  (⟨some 18, .iad none 2 (.t 16) (.t 17), some (15, true)⟩, .calm),
  (⟨some 19, .fad 0 (.t 18), some (15, true)⟩, .calm),
  (⟨some 20, .ld1 (.t 19), some (15, true)⟩, .reads 0 0),
  (⟨some 21, .bin .geq (.t 20) (.c (.int .i64 0)), some (15, true)⟩, .calm),
  (⟨some 22, .pick (.t 15) (.t 21) (.c (.bool false)), none⟩, .calm),
  (⟨some 23, .mv (.t 22), none⟩, .calm),
  (⟨some 24, .mv (.t 0), some (23, true)⟩, .calm),
  (⟨some 25, .mv (.t 4), some (23, true)⟩, .calm),
  (⟨some 26, .iad none 2 (.t 24) (.t 25), some (23, true)⟩, .calm),
  (⟨some 27, .fad 0 (.t 26), some (23, true)⟩, .calm),
  (⟨some 28, .ld1 (.t 27), some (23, true)⟩, .reads 0 0),
  (⟨some 29, .mv (.t 0), some (23, true)⟩, .calm),
  (⟨some 30, .mv (.t 4), some (23, true)⟩, .calm),
  (⟨some 31, .iad none 2 (.t 29) (.t 30), some (23, true)⟩, .calm),
  (⟨some 32, .fad 1 (.t 31), some (23, true)⟩, .calm),
  (⟨some 33, .ld1 (.t 32), some (23, true)⟩, .reads 0 0),
  (⟨some 34, .bin .leq (.t 28) (.t 33), some (23, true)⟩, .calm),
  (⟨some 35, .pick (.t 23) (.t 34) (.c (.bool false)), none⟩, .calm),
  (⟨some 36, .mv (.t 35), none⟩, .calm),
  (⟨some 37, .mv (.t 0), some (36, true)⟩, .calm),
  (⟨some 38, .mv (.t 4), some (36, true)⟩, .calm),
  (⟨some 39, .iad none 2 (.t 37) (.t 38), some (36, true)⟩, .calm),
  (⟨some 40, .fad 1 (.t 39), some (36, true)⟩, .calm),
  (⟨some 41, .ld1 (.t 40), some (36, true)⟩, .reads 0 0),
  (⟨some 42, .bin .leq (.t 41) (.c (.int .i64 1048576)), some (36, true)⟩, .calm),
  (⟨some 43, .pick (.t 36) (.t 42) (.c (.bool false)), none⟩, .calm),
  (⟨some 44, .mv (.t 43), none⟩, .calm),
  (⟨some 45, .mv (.t 4), some (44, true)⟩, .calm),
  (⟨some 46, .bin .eql (.t 45) (.c (.int .i64 0)), some (44, true)⟩, .calm),
  (⟨some 47, .mv (.t 46), some (44, true)⟩, .calm),
  (⟨some 48, .mv (.t 0), some (47, false)⟩, .calm),
  (⟨some 49, .mv (.t 4), some (47, false)⟩, .calm),
  (⟨some 50, .bin .sub (.t 49) (.c (.int .i64 1)), some (47, false)⟩, .calm),
  (⟨some 51, .iad none 2 (.t 48) (.t 50), some (47, false)⟩, .calm),
  (⟨some 52, .fad 1 (.t 51), some (47, false)⟩, .calm),
  (⟨some 53, .ld1 (.t 52), some (47, false)⟩, .reads 0 0),
  (⟨some 54, .mv (.t 0), some (47, false)⟩, .calm),
  (⟨some 55, .mv (.t 4), some (47, false)⟩, .calm),
  (⟨some 56, .iad none 2 (.t 54) (.t 55), some (47, false)⟩, .calm),
  (⟨some 57, .fad 0 (.t 56), some (47, false)⟩, .calm),
  (⟨some 58, .ld1 (.t 57), some (47, false)⟩, .reads 0 0),
  (⟨some 59, .bin .lss (.t 53) (.t 58), some (47, false)⟩, .calm),
  (⟨some 60, .pick (.t 47) (.c (.bool true)) (.t 59), some (44, true)⟩, .calm),
  (⟨some 61, .pick (.t 44) (.t 60) (.c (.bool false)), none⟩, .calm),
  (⟨some 3, .mv (.t 61), none⟩, .calm)])) (
    .ops [
  ⟨some 12, .mv (.t 4), none⟩,
  ⟨some 13, .bin .add (.t 12) (.c (.int .i64 1)), none⟩,
  ⟨some 4, .mv (.t 13), none⟩])))))) (
  .seq (
  .ops [
  ⟨some 62, .mv (.t 3), none⟩,
  ⟨some 2, .mv (.t 62), none⟩]) (
  .ret)))), [.tmp 2]⟩
/-- paravane/paravaneref01.CheckField -/
def xq100 : XF := ⟨64, .seq (
  .ops [
  ⟨some 2, .mv (.c (.int .i64 0)), none⟩]) (
  .seq (
  .seq (
  .ops [
  ⟨some 7, .mv (.t 0), none⟩,
  ⟨some 8, .len .sl (.t 7), none⟩,
  ⟨some 9, .call (.c (.func (.func 30) [] [])) [(.t 8), (.c (.int .i64 3)), (.c (.int .i64 8))], none⟩,
  ⟨some 10, .un .not (.t 9), none⟩]) (
  .cond (.t 10) (
   .seq (
   .ops [
  ⟨some 2, .mv (.c (.int .i64 12)), none⟩]) (
   .ret)) (
   .skip))) (
  .seq (
  .seq (
  .ops [
  ⟨some 3, .mv (.c (.int .i64 0)), none⟩]) (
  .block 0 (
   .loop (
    .seq (
    .seq (
    .ops [
  ⟨some 11, .mv (.t 3), none⟩,
  ⟨some 12, .mv (.t 0), none⟩,
  ⟨some 13, .len .sl (.t 12), none⟩,
  ⟨some 14, .bin .lss (.t 11) (.t 13), none⟩]) (
    .cond (.t 14) (
     .skip) (
     .exit 0))) (
    .seq (
    .block 1 (
     .seq (
     .ops [
  ⟨some 17, .mv (.t 0), none⟩,
  ⟨some 18, .mv (.t 3), none⟩,
  ⟨some 19, .iad none 2 (.t 17) (.t 18), none⟩,
  ⟨some 20, .ldN 2 (.t 19), none⟩,
  ⟨some 21, .call (.c (.func (.func 138) [] [])) [(.t 20)], none⟩,
  ⟨some 22, .un .not (.t 21), none⟩]) (
     .cond (.t 22) (
      .seq (
      .ops [
  ⟨some 2, .mv (.c (.int .i64 12)), none⟩]) (
      .ret)) (
      .skip)))) (
    .ops [
  ⟨some 15, .mv (.t 3), none⟩,
  ⟨some 16, .bin .add (.t 15) (.c (.int .i64 1)), none⟩,
  ⟨some 3, .mv (.t 16), none⟩])))))) (
  .seq (
  .seq (
  .ops [
  ⟨some 4, .mv (.c (.int .i64 0)), none⟩]) (
  .block 2 (
   .loop (
    .seq (
    .seq (
    .ops [
  ⟨some 23, .mv (.t 4), none⟩,
  ⟨some 24, .mv (.t 0), none⟩,
  ⟨some 25, .len .sl (.t 24), none⟩,
  ⟨some 26, .bin .lss (.t 23) (.t 25), none⟩]) (
    .cond (.t 26) (
     .skip) (
     .exit 2))) (
    .seq (
    .block 3 (
     .seq (
     .ops [
  ⟨some 29, .mv (.t 4), none⟩,
  ⟨some 30, .bin .add (.t 29) (.c (.int .i64 1)), none⟩,
  ⟨some 31, .mv (.t 0), none⟩,
  ⟨some 32, .len .sl (.t 31), none⟩,
  ⟨some 33, .bin .rem (.t 30) (.t 32), none⟩,
  ⟨some 5, .mv (.t 33), none⟩]) (
     .seq (
     .ops [
  ⟨some 6, .mv (.c (.int .i64 0)), none⟩]) (
     .block 4 (
      .loop (
       .seq (
       .seq (
       .ops [
  ⟨some 34, .mv (.t 6), none⟩,
  ⟨some 35, .mv (.t 0), none⟩,
  ⟨some 36, .len .sl (.t 35), none⟩,
  ⟨some 37, .bin .lss (.t 34) (.t 36), none⟩]) (
       .cond (.t 37) (
        .skip) (
        .exit 4))) (
       .seq (
       .block 5 (
        .seq (
        .draw [
  (⟨some 40, .mv (.t 6), none⟩, .calm),
  (⟨some 41, .mv (.t 4), none⟩, .calm),
  (⟨some 42, .bin .neq (.t 40) (.t 41), none⟩, .calm),
  (⟨some 43, .mv (.t 42), none⟩, .calm),
  (⟨some 44, .mv (.t 6), some (43, true)⟩, .calm),
  (⟨some 45, .mv (.t 5), some (43, true)⟩, .calm),
  (⟨some 46, .bin .neq (.t 44) (.t 45), some (43, true)⟩, .calm),
  (⟨some 47, .pick (.t 43) (.t 46) (.c (.bool false)), none⟩, .calm),
  (⟨some 48, .mv (.t 47), none⟩, .calm),
  (⟨some 49, .mv (.t 0), some (48, true)⟩, .calm),
  (⟨some 50, .mv (.t 4), some (48, true)⟩, .calm),
  (⟨some 51, .iad none 2 (.t 49) (.t 50), some (48, true)⟩, .calm),
  (⟨some 52, .ldN 2 (.t 51), some (48, true)⟩, .reads 0 0),
  (⟨some 53, .mv (.t 0), some (48, true)⟩, .calm),
  (⟨some 54, .mv (.t 5), some (48, true)⟩, .calm),
  (⟨some 55, .iad none 2 (.t 53) (.t 54), some (48, true)⟩, .calm),
  (⟨some 56, .ldN 2 (.t 55), some (48, true)⟩, .reads 0 0),
  (⟨some 57, .mv (.t 0), some (48, true)⟩, .calm),
  (⟨some 58, .mv (.t 6), some (48, true)⟩, .calm),
  (⟨some 59, .iad none 2 (.t 57) (.t 58), some (48, true)⟩, .calm),
  (⟨some 60, .ldN 2 (.t 59), some (48, true)⟩, .reads 0 0),
  (⟨some 61, .call (.c (.func (.func 139) [] [])) [(.t 52), (.t 56), (.t 60)], some (48, true)⟩, .anchor),
  (⟨some 62, .bin .leq (.t 61) (.c (.int .i64 0)), some (48, true)⟩, .calm),
  (⟨some 63, .pick (.t 48) (.t 62) (.c (.bool false)), none⟩, .calm)]) (
        .cond (.t 63) (
         .seq (
         .ops [
  ⟨some 2, .mv (.c (.int .i64 12)), none⟩]) (
         .ret)) (
         .skip)))) (
       .ops [
  ⟨some 38, .mv (.t 6), none⟩,
  ⟨some 39, .bin .add (.t 38) (.c (.int .i64 1)), none⟩,
  ⟨some 6, .mv (.t 39), none⟩])))))))) (
    .ops [
  ⟨some 27, .mv (.t 4), none⟩,
  ⟨some 28, .bin .add (.t 27) (.c (.int .i64 1)), none⟩,
  ⟨some 4, .mv (.t 28), none⟩])))))) (
  .seq (
  .ops [
  ⟨some 2, .mv (.c (.int .i64 0)), none⟩]) (
  .ret))))), [.tmp 2]⟩
/-- paravane/paravaneref01.Check -/
def xq101 : XF := ⟨25, .seq (
  .ops [
  ⟨some 1, .box 28 (.t 0), none⟩,
  ⟨some 2, .mv (.c (.int .i64 0)), none⟩]) (
  .seq (
  .seq (
  .ops [
  ⟨some 3, .fad 0 (.t 1), none⟩,
  ⟨some 4, .ldN 2 (.t 3), none⟩,
  ⟨some 5, .call (.c (.func (.func 140) [] [])) [(.t 4), (.c (.int .i64 32768))], none⟩,
  ⟨some 6, .un .not (.t 5), none⟩,
  ⟨some 7, .mv (.t 6), none⟩,
  ⟨some 8, .fad 2 (.t 1), some (7, false)⟩,
  ⟨some 9, .ldN 2 (.t 8), some (7, false)⟩,
  ⟨some 10, .call (.c (.func (.func 140) [] [])) [(.t 9), (.c (.int .i64 32768))], some (7, false)⟩,
  ⟨some 11, .un .not (.t 10), some (7, false)⟩,
  ⟨some 12, .pick (.t 7) (.c (.bool true)) (.t 11), none⟩,
  ⟨some 13, .mv (.t 12), none⟩,
  ⟨some 14, .fad 4 (.t 1), some (13, false)⟩,
  ⟨some 15, .ldN 2 (.t 14), some (13, false)⟩,
  ⟨some 16, .call (.c (.func (.func 140) [] [])) [(.t 15), (.c (.int .i64 65536))], some (13, false)⟩,
  ⟨some 17, .un .not (.t 16), some (13, false)⟩,
  ⟨some 18, .pick (.t 13) (.c (.bool true)) (.t 17), none⟩,
  ⟨some 19, .mv (.t 18), none⟩,
  ⟨some 20, .fad 6 (.t 1), some (19, false)⟩,
  ⟨some 21, .ldN 2 (.t 20), some (19, false)⟩,
  ⟨some 22, .call (.c (.func (.func 140) [] [])) [(.t 21), (.c (.int .i64 65536))], some (19, false)⟩,
  ⟨some 23, .un .not (.t 22), some (19, false)⟩,
  ⟨some 24, .pick (.t 19) (.c (.bool true)) (.t 23), none⟩]) (
  .cond (.t 24) (
   .seq (
   .ops [
  ⟨some 2, .mv (.c (.int .i64 11)), none⟩]) (
   .ret)) (
   .skip))) (
  .seq (
  .ops [
  ⟨some 2, .mv (.c (.int .i64 0)), none⟩]) (
  .ret))), [.tmp 2]⟩
/-- paravane/paravaneref01.Tight -/
def xq102 : XF := ⟨16, .seq (
  .ops [
  ⟨some 1, .box 28 (.t 0), none⟩,
  ⟨some 2, .new 28 [(.int .i64 0), (.int .i64 0), (.int .i64 0), (.int .i64 0), (.int .i64 0), (.int .i64 0), (.int .i64 0), (.int .i64 0)], none⟩,
  ⟨some 3, .mv (.c (.int .i64 0)), none⟩]) (
  .seq (
  .seq (
  .ops [
  ⟨some 5, .ldN 8 (.t 1), none⟩,
  ⟨some 6, .call (.c (.func (.func 101) [] [])) [(.t 5)], none⟩,
  ⟨some 4, .mv (.t 6), none⟩]) (
  .seq (
  .ops [
  ⟨some 7, .mv (.t 4), none⟩,
  ⟨some 8, .bin .neq (.t 7) (.c (.int .i64 0)), none⟩]) (
  .cond (.t 8) (
   .seq (
   .ops [
  ⟨some 9, .build [(.int .i64 0), (.int .i64 0), (.int .i64 0), (.int .i64 0), (.int .i64 0), (.int .i64 0), (.int .i64 0), (.int .i64 0)] [], none⟩,
  ⟨some 10, .mv (.t 4), none⟩,
  ⟨none, .st 8 (.t 2) (.t 9), none⟩,
  ⟨some 3, .mv (.t 10), none⟩]) (
   .ret)) (
   .skip)))) (
  .seq (
  .ops [
  ⟨some 11, .ldN 8 (.t 1), none⟩,
  ⟨some 12, .bsl 28 8 1 [(.int .i64 0), (.int .i64 0), (.int .i64 0), (.int .i64 0), (.int .i64 0), (.int .i64 0), (.int .i64 0), (.int .i64 0)] [(0, 8, (.t 11))], none⟩,
  ⟨some 13, .call (.c (.func (.func 141) [] [])) [(.t 12)], none⟩,
  ⟨some 14, .ext 0 (.t 13), none⟩,
  ⟨some 15, .ext 1 (.t 13), none⟩,
  ⟨none, .st 8 (.t 2) (.t 14), none⟩,
  ⟨some 3, .mv (.t 15), none⟩]) (
  .ret))), [.cellN 2 8, .tmp 3]⟩
/-- paravane/paravaneref04.free -/
def xq103 : XF := ⟨41, .seq (
  .ops [
  ⟨some 3, .box 35 (.t 0), none⟩,
  ⟨some 4, .box 30 (.t 1), none⟩,
  ⟨some 5, .box 30 (.t 2), none⟩,
  ⟨some 6, .mv (.c (.bool false)), none⟩]) (
  .seq (
  .ops [
  ⟨some 13, .fad 3 (.t 3), none⟩,
  ⟨some 14, .ldN 8 (.t 13), none⟩,
  ⟨some 15, .ldN 2 (.t 4), none⟩,
  ⟨some 16, .ldN 2 (.t 5), none⟩,
  ⟨some 17, .call (.c (.func (.func 142) [] [])) [(.t 14), (.t 15), (.t 16)], none⟩,
  ⟨some 12, .mv (.t 17), none⟩,
  ⟨some 18, .ext 0 (.t 12), none⟩,
  ⟨some 19, .ext 1 (.t 12), none⟩,
  ⟨some 7, .new 28 [(.int .i64 0), (.int .i64 0), (.int .i64 0), (.int .i64 0), (.int .i64 0), (.int .i64 0), (.int .i64 0), (.int .i64 0)], none⟩,
  ⟨none, .st 8 (.t 7) (.t 18), none⟩,
  ⟨some 8, .mv (.t 19), none⟩]) (
  .seq (
  .seq (
  .ops [
  ⟨some 20, .mv (.t 8), none⟩,
  ⟨some 21, .bin .neq (.t 20) (.c (.int .i64 0)), none⟩]) (
  .cond (.t 21) (
   .seq (
   .ops [
  ⟨some 6, .mv (.c (.bool false)), none⟩]) (
   .ret)) (
   .skip))) (
  .seq (
  .seq (
  .ops [
  ⟨some 9, .mv (.c (.int .i64 0)), none⟩]) (
  .block 0 (
   .loop (
    .seq (
    .seq (
    .ops [
  ⟨some 22, .mv (.t 9), none⟩,
  ⟨some 23, .fad 1 (.t 3), none⟩,
  ⟨some 24, .ld1 (.t 23), none⟩,
  ⟨some 25, .len .sl (.t 24), none⟩,
  ⟨some 26, .bin .lss (.t 22) (.t 25), none⟩]) (
    .cond (.t 26) (
     .skip) (
     .exit 0))) (
    .seq (
    .block 1 (
     .seq (
     .draw [
  (⟨some 30, .fad 1 (.t 3), none⟩, .calm),
  (⟨some 31, .ld1 (.t 30), none⟩, .reads 0 0),
  (⟨some 32, .mv (.t 9), none⟩, .calm),
  (⟨some 33, .iad none 1 (.t 31) (.t 32), none⟩, .calm),
  (⟨some 34, .ld1 (.t 33), none⟩, .reads 0 0),
  (⟨some 35, .ldN 8 (.t 7), none⟩, .reads 0 0),
  (⟨some 36, .call (.c (.func (.func 143) [] [])) [(.t 34), (.t 35)], none⟩, .anchor),
  (⟨some 29, .mv (.t 36), none⟩, .calm),
  (⟨some 37, .ext 0 (.t 29), none⟩, .calm),
  (⟨some 38, .ext 1 (.t 29), none⟩, .calm),
  (⟨some 10, .new 30 [(.int .i64 0), (.int .i64 0)], none⟩, .new),
       (⟨none, .st 2 (.t 10) (.t 37), none⟩, .anchor),
  (⟨some 11, .mv (.t 38), none⟩, .calm)]) (
     .seq (
     .ops [
  ⟨some 39, .mv (.t 11), none⟩,
  ⟨some 40, .bin .neq (.t 39) (.c (.int .i64 4)), none⟩]) (
     .cond (.t 40) (
      .seq (
      .ops [
  ⟨some 6, .mv (.c (.bool false)), none⟩]) (
      .ret)) (
      .skip))))) (
    .ops [
  ⟨some 27, .mv (.t 9), none⟩,
  ⟨some 28, .bin .add (.t 27) (.c (.int .i64 1)), none⟩,
  ⟨some 9, .mv (.t 28), none⟩])))))) (
  .seq (
  .ops [
  ⟨some 6, .mv (.c (.bool true)), none⟩]) (
  .ret))))), [.tmp 6]⟩
/-- (paravane/paravaneref04.Map).go1 -/
def xq104 : XF := ⟨159, .seq (
  .ops [
  ⟨some 7, .box 99 (.t 0), none⟩,
  ⟨some 13, .box 102 (.t 6), none⟩,
  ⟨some 14, .new 102 [(.slice none 0 true 0), (.int .i64 0), (.bool false)], none⟩]) (
  .seq (
  .ops [
  ⟨some 15, .new 102 [(.slice none 0 true 0), (.int .i64 0), (.bool false)], none⟩]) (
  .seq (
  .seq (
  .ops [
  ⟨some 16, .mv (.c (.int .i64 0)), none⟩]) (
  .block 0 (
   .loop (
    .seq (
    .seq (
    .ops [
  ⟨some 21, .mv (.t 16), none⟩,
  ⟨some 22, .fad 17 (.t 7), none⟩,
  ⟨some 23, .ld1 (.t 22), none⟩,
  ⟨some 24, .len .sl (.t 23), none⟩,
  ⟨some 25, .bin .lss (.t 21) (.t 24), none⟩]) (
    .cond (.t 25) (
     .skip) (
     .exit 0))) (
    .seq (
    .block 1 (
     .seq (
     .ops [
  ⟨some 28, .mv (.t 16), none⟩,
  ⟨some 29, .fad 0 (.t 7), none⟩,
  ⟨some 30, .fad 2 (.t 29), none⟩,
  ⟨some 31, .ld1 (.t 30), none⟩,
  ⟨some 32, .len .sl (.t 31), none⟩,
  ⟨some 33, .bin .lss (.t 28) (.t 32), none⟩,
  ⟨some 17, .mv (.t 33), none⟩]) (
     .seq (
     .seq (
     .ops [
  ⟨some 34, .fad 18 (.t 7), none⟩,
  ⟨some 35, .ld1 (.t 34), none⟩,
  ⟨some 36, .mv (.t 1), none⟩,
  ⟨some 37, .iad none 1 (.t 35) (.t 36), none⟩,
  ⟨some 38, .ld1 (.t 37), none⟩,
  ⟨some 39, .mv (.t 16), none⟩,
  ⟨some 40, .iad none 1 (.t 38) (.t 39), none⟩,
  ⟨some 41, .ld1 (.t 40), none⟩,
  ⟨some 42, .un .not (.t 41), none⟩,
  ⟨some 43, .mv (.t 42), none⟩,
  ⟨some 44, .mv (.t 16), some (43, false)⟩,
  ⟨some 45, .mv (.t 4), some (43, false)⟩,
  ⟨some 46, .bin .neq (.t 44) (.t 45), some (43, false)⟩,
  ⟨some 47, .mv (.t 46), some (43, false)⟩,
  ⟨some 48, .mv (.t 17), some (47, true)⟩,
  ⟨some 49, .un .not (.t 48), some (47, true)⟩,
  ⟨some 50, .pick (.t 47) (.t 49) (.c (.bool false)), some (43, false)⟩,
  ⟨some 51, .pick (.t 43) (.c (.bool true)) (.t 50), none⟩,
  ⟨some 52, .mv (.t 51), none⟩,
  ⟨some 53, .mv (.t 17), some (52, false)⟩,
  ⟨some 54, .mv (.t 53), some (52, false)⟩,
  ⟨some 55, .mv (.t 3), some (54, true)⟩,
  ⟨some 56, .mv (.t 16), some (54, true)⟩,
  ⟨some 57, .iad none 1 (.t 55) (.t 56), some (54, true)⟩,
  ⟨some 58, .ld1 (.t 57), some (54, true)⟩,
  ⟨some 59, .pick (.t 54) (.t 58) (.c (.bool false)), some (52, false)⟩,
  ⟨some 60, .pick (.t 52) (.c (.bool true)) (.t 59), none⟩]) (
     .cond (.t 60) (
      .exit 1) (
      .skip))) (
     .seq (
     .draw [
  (⟨some 61, .fad 17 (.t 7), none⟩, .calm),
  (⟨some 62, .ld1 (.t 61), none⟩, .reads 0 0),
  (⟨some 63, .mv (.t 16), none⟩, .calm),
  (⟨some 64, .iad none 2 (.t 62) (.t 63), none⟩, .calm),
  (⟨some 65, .fad 0 (.t 64), none⟩, .calm),
  (⟨some 66, .ld1 (.t 65), none⟩, .reads 0 0),
  (⟨some 67, .fad 17 (.t 7), none⟩, .calm),
  (⟨some 68, .ld1 (.t 67), none⟩, .reads 0 0),
  (⟨some 69, .mv (.t 1), none⟩, .calm),
  (⟨some 70, .iad none 2 (.t 68) (.t 69), none⟩, .calm),
  (⟨some 71, .fad 0 (.t 70), none⟩, .calm),
  (⟨some 72, .ld1 (.t 71), none⟩, .reads 0 0),
  (⟨some 73, .bin .sub (.t 66) (.t 72), none⟩, .calm),
  (⟨some 74, .fad 17 (.t 7), none⟩, .calm),
  (⟨some 75, .ld1 (.t 74), none⟩, .reads 0 0),
  (⟨some 76, .mv (.t 16), none⟩, .calm),
  (⟨some 77, .iad none 2 (.t 75) (.t 76), none⟩, .calm),
  (⟨some 78, .fad 1 (.t 77), none⟩, .calm),
  (⟨some 79, .ld1 (.t 78), none⟩, .reads 0 0),
  (⟨some 80, .fad 17 (.t 7), none⟩, .calm),
  (⟨some 81, .ld1 (.t 80), none⟩, .reads 0 0),
  (⟨some 82, .mv (.t 1), none⟩, .calm),
  (⟨some 83, .iad none 2 (.t 81) (.t 82), none⟩, .calm),
  (⟨some 84, .fad 1 (.t 83), none⟩, .calm),
  (⟨some 85, .ld1 (.t 84), none⟩, .reads 0 0),
  (⟨some 86, .bin .sub (.t 79) (.t 85), none⟩, .calm),
  (⟨some 87, .call (.c (.func (.func 111) [] [])) [(.t 73), (.t 86)], none⟩, .new),
  (⟨some 18, .mv (.t 87), none⟩, .calm)]) (
     .seq (
     .draw [
  (⟨some 88, .fad 1 (.t 13), none⟩, .calm),
  (⟨some 89, .ld1 (.t 88), none⟩, .reads 0 1),
  (⟨some 90, .fad 0 (.t 7), none⟩, .calm),
  (⟨some 91, .ldN 17 (.t 90), none⟩, .reads 0 0),
  (⟨some 92, .fad 17 (.t 7), none⟩, .calm),
  (⟨some 93, .ld1 (.t 92), none⟩, .reads 0 0),
  (⟨some 94, .mv (.t 1), none⟩, .calm),
  (⟨some 95, .iad none 2 (.t 93) (.t 94), none⟩, .calm),
  (⟨some 96, .ldN 2 (.t 95), none⟩, .reads 0 0),
  (⟨some 97, .fad 17 (.t 7), none⟩, .calm),
  (⟨some 98, .ld1 (.t 97), none⟩, .reads 0 0),
  (⟨some 99, .mv (.t 16), none⟩, .calm),
  (⟨some 100, .iad none 2 (.t 98) (.t 99), none⟩, .calm),
  (⟨some 101, .ldN 2 (.t 100), none⟩, .reads 0 0),
  (⟨some 102, .call (.c (.func (.func 61) [] [])) [(.t 91), (.t 96), (.t 101)], none⟩, .anchor),
  (⟨some 103, .bin .add (.t 89) (.t 102), none⟩, .calm),
  (⟨some 104, .fad 0 (.t 7), none⟩, .calm),
  (⟨some 105, .fad 15 (.t 104), none⟩, .calm),
  (⟨some 106, .ld1 (.t 105), none⟩, .reads 0 1),
  (⟨some 107, .mv (.t 2), none⟩, .calm),
  (⟨some 108, .mv (.t 18), none⟩, .calm),
  (⟨some 109, .call (.c (.func (.func 105) [] [])) [(.t 107), (.t 108)], none⟩, .new),
  (⟨some 110, .bin .mul (.t 106) (.t 109), none⟩, .calm),
  (⟨some 111, .bin .add (.t 103) (.t 110), none⟩, .calm),
  (⟨some 112, .build [(.slice none 0 true 0), (.int .i64 0), (.bool false)] [(1, 1, (.t 111)), (2, 1, (.c (.bool true)))], none⟩, .calm),
  (⟨some 19, .new 102 [(.slice none 0 true 0), (.int .i64 0), (.bool false)], none⟩, .new),
       (⟨none, .st 3 (.t 19) (.t 112), none⟩, .anchor)]) (
     .seq (
     .draw [
  (⟨some 113, .fad 0 (.t 19), none⟩, .calm),
  (⟨some 114, .ld1 (.t 113), none⟩, .reads 0 0),
  (⟨some 115, .fad 0 (.t 13), none⟩, .calm),
  (⟨some 116, .ld1 (.t 115), none⟩, .reads 0 0),
  (⟨some 117, .app 30 2 16 [(.int .i64 0), (.int .i64 0)] (.t 114) (.t 116), none⟩, .anchor),
  (⟨some 118, .fad 17 (.t 7), none⟩, .calm),
  (⟨some 119, .ld1 (.t 118), none⟩, .reads 0 1),
  (⟨some 120, .mv (.t 16), none⟩, .calm),
  (⟨some 121, .iad none 2 (.t 119) (.t 120), none⟩, .calm),
  (⟨some 122, .ldN 2 (.t 121), none⟩, .reads 0 1),
  (⟨some 123, .bsl 30 2 1 [(.int .i64 0), (.int .i64 0)] [(0, 2, (.t 122))], none⟩, .new),
  (⟨some 124, .app 30 2 16 [(.int .i64 0), (.int .i64 0)] (.t 117) (.t 123), none⟩, .anchor),
  (⟨some 125, .fad 0 (.t 19), none⟩, .calm),
       (⟨none, .st 1 (.t 125) (.t 124), none⟩, .anchor)]) (
     .seq (
     .seq (
     .ops [
  ⟨some 126, .mv (.t 16), none⟩,
  ⟨some 127, .mv (.t 4), none⟩,
  ⟨some 128, .bin .eql (.t 126) (.t 127), none⟩]) (
     .cond (.t 128) (
      .draw [
  (⟨some 129, .fad 1 (.t 19), none⟩, .calm),
  (⟨some 130, .ld1 (.t 129), none⟩, .reads 0 0),
  (⟨some 131, .fad 0 (.t 7), none⟩, .calm),
  (⟨some 132, .fad 15 (.t 131), none⟩, .calm),
  (⟨some 133, .ld1 (.t 132), none⟩, .reads 0 0),
  (⟨some 134, .mv (.t 18), none⟩, .calm),
  (⟨some 135, .mv (.t 5), none⟩, .calm),
  (⟨some 136, .call (.c (.func (.func 105) [] [])) [(.t 134), (.t 135)], none⟩, .new),
  (⟨some 137, .bin .mul (.t 133) (.t 136), none⟩, .calm),
  (⟨some 138, .bin .add (.t 130) (.t 137), none⟩, .calm),
  (⟨some 139, .fad 1 (.t 19), none⟩, .calm),
        (⟨none, .st 1 (.t 139) (.t 138), none⟩, .anchor)]) (
      .seq (
      .ops [
  ⟨some 140, .bsl 4 1 0 [(.bool false)] [], none⟩,
  ⟨some 141, .mv (.t 3), none⟩,
  ⟨some 142, .app 4 1 1 [(.bool false)] (.t 140) (.t 141), none⟩,
  ⟨some 20, .mv (.t 142), none⟩]) (
      .seq (
      .ops [
  ⟨some 143, .mv (.t 20), none⟩,
  ⟨some 144, .mv (.t 16), none⟩,
  ⟨some 145, .iad none 1 (.t 143) (.t 144), none⟩,
  ⟨none, .st 1 (.t 145) (.c (.bool true)), none⟩]) (
      .ops [
  ⟨some 146, .ldN 19 (.t 7), none⟩,
  ⟨some 147, .mv (.t 16), none⟩,
  ⟨some 148, .mv (.t 18), none⟩,
  ⟨some 149, .mv (.t 20), none⟩,
  ⟨some 150, .mv (.t 4), none⟩,
  ⟨some 151, .mv (.t 5), none⟩,
  ⟨some 152, .ldN 3 (.t 19), none⟩,
  ⟨some 153, .call (.c (.func (.func 104) [] [])) [(.t 146), (.t 147), (.t 148), (.t 149), (.t 150), (.t 151), (.t 152)], none⟩,
  ⟨none, .st 3 (.t 19) (.t 153), none⟩]))))) (
     .seq (
     .ops [
  ⟨some 154, .ldN 3 (.t 19), none⟩,
  ⟨some 155, .ldN 3 (.t 15), none⟩,
  ⟨some 156, .call (.c (.func (.func 106) [] [])) [(.t 154), (.t 155)], none⟩]) (
     .cond (.t 156) (
      .ops [
  ⟨some 157, .ldN 3 (.t 19), none⟩,
  ⟨none, .st 3 (.t 15) (.t 157), none⟩]) (
      .skip)))))))))) (
    .ops [
  ⟨some 26, .mv (.t 16), none⟩,
  ⟨some 27, .bin .add (.t 26) (.c (.int .i64 1)), none⟩,
  ⟨some 16, .mv (.t 27), none⟩])))))) (
  .seq (
  .ops [
  ⟨some 158, .ldN 3 (.t 15), none⟩,
  ⟨none, .st 3 (.t 14) (.t 158), none⟩]) (
  .ret)))), [.cellN 14 3]⟩
/-- paravane/paravaneref04.turned -/
def xq105 : XF := ⟨14, .seq (
  .ops [
  ⟨some 4, .mv (.c (.int .i64 0)), none⟩]) (
  .seq (
  .ops [
  ⟨some 6, .mv (.t 0), none⟩,
  ⟨some 7, .mv (.t 1), none⟩,
  ⟨some 8, .bin .sub (.t 6) (.t 7), none⟩,
  ⟨some 9, .call (.c (.func (.func 84) [] [])) [(.t 8)], none⟩,
  ⟨some 5, .mv (.t 9), none⟩]) (
  .seq (
  .ops [
  ⟨some 10, .mv (.t 5), none⟩,
  ⟨some 11, .mv (.t 5), none⟩,
  ⟨some 12, .bin .sub (.c (.int .i64 8)) (.t 11), none⟩,
  ⟨some 13, .min [(.t 10), (.t 12)], none⟩,
  ⟨some 4, .mv (.t 13), none⟩]) (
  .ret))), [.tmp 4]⟩
/-- paravane/paravaneref04.better -/
def xq106 : XF := ⟨44, .seq (
  .ops [
  ⟨some 2, .box 102 (.t 0), none⟩,
  ⟨some 3, .box 102 (.t 1), none⟩,
  ⟨some 4, .mv (.c (.bool false)), none⟩]) (
  .seq (
  .seq (
  .ops [
  ⟨some 5, .fad 2 (.t 2), none⟩,
  ⟨some 6, .ld1 (.t 5), none⟩,
  ⟨some 7, .un .not (.t 6), none⟩,
  ⟨some 8, .mv (.t 7), none⟩,
  ⟨some 9, .fad 2 (.t 3), some (8, false)⟩,
  ⟨some 10, .ld1 (.t 9), some (8, false)⟩,
  ⟨some 11, .un .not (.t 10), some (8, false)⟩,
  ⟨some 12, .pick (.t 8) (.c (.bool true)) (.t 11), none⟩]) (
  .cond (.t 12) (
   .seq (
   .ops [
  ⟨some 13, .fad 2 (.t 2), none⟩,
  ⟨some 14, .ld1 (.t 13), none⟩,
  ⟨some 4, .mv (.t 14), none⟩]) (
   .ret)) (
   .skip))) (
  .seq (
  .seq (
  .ops [
  ⟨some 15, .fad 1 (.t 2), none⟩,
  ⟨some 16, .ld1 (.t 15), none⟩,
  ⟨some 17, .fad 1 (.t 3), none⟩,
  ⟨some 18, .ld1 (.t 17), none⟩,
  ⟨some 19, .bin .neq (.t 16) (.t 18), none⟩]) (
  .cond (.t 19) (
   .seq (
   .ops [
  ⟨some 20, .fad 1 (.t 2), none⟩,
  ⟨some 21, .ld1 (.t 20), none⟩,
  ⟨some 22, .fad 1 (.t 3), none⟩,
  ⟨some 23, .ld1 (.t 22), none⟩,
  ⟨some 24, .bin .lss (.t 21) (.t 23), none⟩,
  ⟨some 4, .mv (.t 24), none⟩]) (
   .ret)) (
   .skip))) (
  .seq (
  .seq (
  .ops [
  ⟨some 25, .fad 0 (.t 2), none⟩,
  ⟨some 26, .ld1 (.t 25), none⟩,
  ⟨some 27, .len .sl (.t 26), none⟩,
  ⟨some 28, .fad 0 (.t 3), none⟩,
  ⟨some 29, .ld1 (.t 28), none⟩,
  ⟨some 30, .len .sl (.t 29), none⟩,
  ⟨some 31, .bin .neq (.t 27) (.t 30), none⟩]) (
  .cond (.t 31) (
   .seq (
   .ops [
  ⟨some 32, .fad 0 (.t 2), none⟩,
  ⟨some 33, .ld1 (.t 32), none⟩,
  ⟨some 34, .len .sl (.t 33), none⟩,
  ⟨some 35, .fad 0 (.t 3), none⟩,
  ⟨some 36, .ld1 (.t 35), none⟩,
  ⟨some 37, .len .sl (.t 36), none⟩,
  ⟨some 38, .bin .lss (.t 34) (.t 37), none⟩,
  ⟨some 4, .mv (.t 38), none⟩]) (
   .ret)) (
   .skip))) (
  .seq (
  .ops [
  ⟨some 39, .fad 0 (.t 2), none⟩,
  ⟨some 40, .ld1 (.t 39), none⟩,
  ⟨some 41, .fad 0 (.t 3), none⟩,
  ⟨some 42, .ld1 (.t 41), none⟩,
  ⟨some 43, .call (.c (.func (.func 144) [] [])) [(.t 40), (.t 42)], none⟩,
  ⟨some 4, .mv (.t 43), none⟩]) (
  .ret))))), [.tmp 4]⟩
/-- paravane/course.turned -/
def xq107 : XF := ⟨15, .seq (
  .ops [
  ⟨some 4, .mv (.c (.int .i64 0)), none⟩]) (
  .seq (
  .ops [
  ⟨some 6, .mv (.t 1), none⟩,
  ⟨some 7, .mv (.t 0), none⟩,
  ⟨some 8, .bin .sub (.t 6) (.t 7), none⟩,
  ⟨some 9, .bin .add (.t 8) (.c (.int .i64 8)), none⟩,
  ⟨some 10, .bin .rem (.t 9) (.c (.int .i64 8)), none⟩,
  ⟨some 5, .mv (.t 10), none⟩]) (
  .seq (
  .ops [
  ⟨some 11, .mv (.t 5), none⟩,
  ⟨some 12, .mv (.t 5), none⟩,
  ⟨some 13, .bin .sub (.c (.int .i64 8)) (.t 12), none⟩,
  ⟨some 14, .min [(.t 11), (.t 13)], none⟩,
  ⟨some 4, .mv (.t 14), none⟩]) (
  .ret))), [.tmp 4]⟩
/-- paravane/paravaneref04.octant -/
def xq111 : XF := ⟨68, .seq (
  .ops [
  ⟨some 4, .mv (.c (.int .i64 0)), none⟩]) (
  .block 0 (
   .seq (
   .ops [
  ⟨some 6, .mv (.t 1), none⟩,
  ⟨some 7, .bin .geq (.t 6) (.c (.int .i64 0)), none⟩,
  ⟨some 8, .mv (.t 7), none⟩,
  ⟨some 9, .mv (.t 0), some (8, true)⟩,
  ⟨some 10, .mv (.t 1), some (8, true)⟩,
  ⟨some 11, .bin .sub (.t 9) (.t 10), some (8, true)⟩,
  ⟨some 12, .bin .geq (.t 11) (.c (.int .i64 0)), some (8, true)⟩,
  ⟨some 13, .pick (.t 8) (.t 12) (.c (.bool false)), none⟩,
  ⟨some 5, .mv (.t 13), none⟩]) (
   .cond (.t 5) (
    .seq (
    .ops [
  ⟨some 4, .mv (.c (.int .i64 0)), none⟩]) (
    .ret)) (
    .seq (
    .ops [
  ⟨some 15, .mv (.t 0), none⟩,
  ⟨some 16, .bin .geq (.t 15) (.c (.int .i64 0)), none⟩,
  ⟨some 17, .mv (.t 16), none⟩,
  ⟨some 18, .mv (.t 0), some (17, true)⟩,
  ⟨some 19, .mv (.t 1), some (17, true)⟩,
  ⟨some 20, .bin .sub (.t 18) (.t 19), some (17, true)⟩,
  ⟨some 21, .bin .leq (.t 20) (.c (.int .i64 0)), some (17, true)⟩,
  ⟨some 22, .pick (.t 17) (.t 21) (.c (.bool false)), none⟩,
  ⟨some 14, .mv (.t 22), none⟩]) (
    .cond (.t 14) (
     .seq (
     .ops [
  ⟨some 4, .mv (.c (.int .i64 1)), none⟩]) (
     .ret)) (
     .seq (
     .ops [
  ⟨some 24, .mv (.t 0), none⟩,
  ⟨some 25, .bin .leq (.t 24) (.c (.int .i64 0)), none⟩,
  ⟨some 26, .mv (.t 25), none⟩,
  ⟨some 27, .mv (.t 0), some (26, true)⟩,
  ⟨some 28, .mv (.t 1), some (26, true)⟩,
  ⟨some 29, .bin .add (.t 27) (.t 28), some (26, true)⟩,
  ⟨some 30, .bin .geq (.t 29) (.c (.int .i64 0)), some (26, true)⟩,
  ⟨some 31, .pick (.t 26) (.t 30) (.c (.bool false)), none⟩,
  ⟨some 23, .mv (.t 31), none⟩]) (
     .cond (.t 23) (
      .seq (
      .ops [
  ⟨some 4, .mv (.c (.int .i64 2)), none⟩]) (
      .ret)) (
      .seq (
      .ops [
  ⟨some 33, .mv (.t 1), none⟩,
  ⟨some 34, .bin .geq (.t 33) (.c (.int .i64 0)), none⟩,
  ⟨some 35, .mv (.t 34), none⟩,
  ⟨some 36, .mv (.t 0), some (35, true)⟩,
  ⟨some 37, .mv (.t 1), some (35, true)⟩,
  ⟨some 38, .bin .add (.t 36) (.t 37), some (35, true)⟩,
  ⟨some 39, .bin .leq (.t 38) (.c (.int .i64 0)), some (35, true)⟩,
  ⟨some 40, .pick (.t 35) (.t 39) (.c (.bool false)), none⟩,
  ⟨some 32, .mv (.t 40), none⟩]) (
      .cond (.t 32) (
       .seq (
       .ops [
  ⟨some 4, .mv (.c (.int .i64 3)), none⟩]) (
       .ret)) (
       .seq (
       .ops [
  ⟨some 42, .mv (.t 1), none⟩,
  ⟨some 43, .bin .leq (.t 42) (.c (.int .i64 0)), none⟩,
  ⟨some 44, .mv (.t 43), none⟩,
  ⟨some 45, .mv (.t 0), some (44, true)⟩,
  ⟨some 46, .mv (.t 1), some (44, true)⟩,
  ⟨some 47, .bin .sub (.t 45) (.t 46), some (44, true)⟩,
  ⟨some 48, .bin .leq (.t 47) (.c (.int .i64 0)), some (44, true)⟩,
  ⟨some 49, .pick (.t 44) (.t 48) (.c (.bool false)), none⟩,
  ⟨some 41, .mv (.t 49), none⟩]) (
       .cond (.t 41) (
        .seq (
        .ops [
  ⟨some 4, .mv (.c (.int .i64 4)), none⟩]) (
        .ret)) (
        .seq (
        .ops [
  ⟨some 51, .mv (.t 0), none⟩,
  ⟨some 52, .bin .leq (.t 51) (.c (.int .i64 0)), none⟩,
  ⟨some 53, .mv (.t 52), none⟩,
  ⟨some 54, .mv (.t 0), some (53, true)⟩,
  ⟨some 55, .mv (.t 1), some (53, true)⟩,
  ⟨some 56, .bin .sub (.t 54) (.t 55), some (53, true)⟩,
  ⟨some 57, .bin .geq (.t 56) (.c (.int .i64 0)), some (53, true)⟩,
  ⟨some 58, .pick (.t 53) (.t 57) (.c (.bool false)), none⟩,
  ⟨some 50, .mv (.t 58), none⟩]) (
        .cond (.t 50) (
         .seq (
         .ops [
  ⟨some 4, .mv (.c (.int .i64 5)), none⟩]) (
         .ret)) (
         .seq (
         .ops [
  ⟨some 60, .mv (.t 0), none⟩,
  ⟨some 61, .bin .geq (.t 60) (.c (.int .i64 0)), none⟩,
  ⟨some 62, .mv (.t 61), none⟩,
  ⟨some 63, .mv (.t 0), some (62, true)⟩,
  ⟨some 64, .mv (.t 1), some (62, true)⟩,
  ⟨some 65, .bin .add (.t 63) (.t 64), some (62, true)⟩,
  ⟨some 66, .bin .leq (.t 65) (.c (.int .i64 0)), some (62, true)⟩,
  ⟨some 67, .pick (.t 62) (.t 66) (.c (.bool false)), none⟩,
  ⟨some 59, .mv (.t 67), none⟩]) (
         .cond (.t 59) (
          .seq (
          .ops [
  ⟨some 4, .mv (.c (.int .i64 6)), none⟩]) (
          .ret)) (
          .seq (
          .ops [
  ⟨some 4, .mv (.c (.int .i64 7)), none⟩]) (
          .ret))))))))))))))))), [.tmp 4]⟩
/-- paravane/paravaneref01.Root -/
def xq112 : XF := ⟨26, .seq (
  .ops [
  ⟨some 2, .mv (.c (.int .i64 0)), none⟩,
  ⟨some 3, .mv (.c (.int .i64 0)), none⟩]) (
  .seq (
  .seq (
  .ops [
  ⟨some 7, .mv (.t 0), none⟩,
  ⟨some 8, .call (.c (.func (.func 30) [] [])) [(.t 7), (.c (.int .i64 0)), (.c (.int .i64 1099511627776))], none⟩,
  ⟨some 9, .un .not (.t 8), none⟩]) (
  .cond (.t 9) (
   .seq (
   .ops [
  ⟨some 2, .mv (.c (.int .i64 0)), none⟩,
  ⟨some 3, .mv (.c (.int .i64 7)), none⟩]) (
   .ret)) (
   .skip))) (
  .seq (
  .ops [
  ⟨some 4, .mv (.c (.int .i64 0)), none⟩,
  ⟨some 5, .mv (.c (.int .i64 2097152)), none⟩]) (
  .seq (
  .block 0 (
   .loop (
    .seq (
    .seq (
    .ops [
  ⟨some 10, .mv (.t 5), none⟩,
  ⟨some 11, .mv (.t 4), none⟩,
  ⟨some 12, .bin .sub (.t 10) (.t 11), none⟩,
  ⟨some 13, .bin .gtr (.t 12) (.c (.int .i64 1)), none⟩]) (
    .cond (.t 13) (
     .skip) (
     .exit 0))) (
    .block 1 (
     .seq (
     .ops [
  ⟨some 14, .mv (.t 4), none⟩,
  ⟨some 15, .mv (.t 5), none⟩,
  ⟨some 16, .bin .add (.t 14) (.t 15), none⟩,
  ⟨some 17, .bin .quo (.t 16) (.c (.int .i64 2)), none⟩,
  ⟨some 6, .mv (.t 17), none⟩]) (
     .seq (
     .ops [
  ⟨some 18, .mv (.t 6), none⟩,
  ⟨some 19, .mv (.t 6), none⟩,
  ⟨some 20, .bin .mul (.t 18) (.t 19), none⟩,
  ⟨some 21, .mv (.t 0), none⟩,
  ⟨some 22, .bin .leq (.t 20) (.t 21), none⟩]) (
     .cond (.t 22) (
      .ops [
  ⟨some 23, .mv (.t 6), none⟩,
  ⟨some 4, .mv (.t 23), none⟩]) (
      .ops [
  ⟨some 24, .mv (.t 6), none⟩,
  ⟨some 5, .mv (.t 24), none⟩])))))))) (
  .seq (
  .ops [
  ⟨some 25, .mv (.t 4), none⟩,
  ⟨some 2, .mv (.t 25), none⟩,
  ⟨some 3, .mv (.c (.int .i64 0)), none⟩]) (
  .ret))))), [.tmp 2, .tmp 3]⟩
/-- paravane/paravaneref00.Up -/
def xq113 : XF := ⟨10, .seq (
  .ops [
  ⟨some 4, .mv (.c (.int .i64 0)), none⟩]) (
  .seq (
  .ops [
  ⟨some 5, .mv (.t 0), none⟩,
  ⟨some 6, .un .neg (.t 5), none⟩,
  ⟨some 7, .mv (.t 1), none⟩,
  ⟨some 8, .call (.c (.func (.func 145) [] [])) [(.t 6), (.t 7)], none⟩,
  ⟨some 9, .un .neg (.t 8), none⟩,
  ⟨some 4, .mv (.t 9), none⟩]) (
  .ret)), [.tmp 4]⟩
/-- paravane/region.Root -/
def xq118 : XF := ⟨9, .seq (
  .ops [
  ⟨some 2, .mv (.c (.int .i64 0)), none⟩,
  ⟨some 3, .mv (.c (.int .i64 0)), none⟩]) (
  .seq (
  .seq (
  .ops [
  ⟨some 4, .mv (.t 0), none⟩,
  ⟨some 5, .call (.c (.func (.func 126) [] [])) [(.t 4), (.c (.int .i64 0)), (.c (.int .i64 1099511627776))], none⟩,
  ⟨some 6, .un .not (.t 5), none⟩]) (
  .cond (.t 6) (
   .seq (
   .ops [
  ⟨some 2, .mv (.c (.int .i64 0)), none⟩,
  ⟨some 3, .mv (.c (.int .i64 7)), none⟩]) (
   .ret)) (
   .skip))) (
  .seq (
  .ops [
  ⟨some 7, .mv (.t 0), none⟩,
  ⟨some 8, .call (.c (.func (.func 147) [] [])) [(.t 7)], none⟩,
  ⟨some 2, .mv (.t 8), none⟩,
  ⟨some 3, .mv (.c (.int .i64 0)), none⟩]) (
  .ret))), [.tmp 2, .tmp 3]⟩
/-- paravane/region.Swept -/
def xq120 : XF := ⟨36, .seq (
  .ops [
  ⟨some 3, .box 28 (.t 0), none⟩,
  ⟨some 4, .box 30 (.t 1), none⟩,
  ⟨some 5, .box 30 (.t 2), none⟩,
  ⟨some 6, .new 28 [(.int .i64 0), (.int .i64 0), (.int .i64 0), (.int .i64 0), (.int .i64 0), (.int .i64 0), (.int .i64 0), (.int .i64 0)], none⟩,
  ⟨some 7, .mv (.c (.int .i64 0)), none⟩]) (
  .seq (
  .ops [
  ⟨some 12, .ldN 8 (.t 3), none⟩,
  ⟨some 13, .ldN 2 (.t 4), none⟩,
  ⟨some 14, .call (.c (.func (.func 148) [] [])) [(.t 12), (.t 13)], none⟩,
  ⟨some 11, .mv (.t 14), none⟩,
  ⟨some 15, .ext 0 (.t 11), none⟩,
  ⟨some 16, .ext 1 (.t 11), none⟩,
  ⟨some 8, .new 28 [(.int .i64 0), (.int .i64 0), (.int .i64 0), (.int .i64 0), (.int .i64 0), (.int .i64 0), (.int .i64 0), (.int .i64 0)], none⟩,
  ⟨none, .st 8 (.t 8) (.t 15), none⟩,
  ⟨some 9, .mv (.t 16), none⟩]) (
  .seq (
  .seq (
  .ops [
  ⟨some 17, .mv (.t 9), none⟩,
  ⟨some 18, .bin .neq (.t 17) (.c (.int .i64 0)), none⟩]) (
  .cond (.t 18) (
   .seq (
   .ops [
  ⟨some 19, .build [(.int .i64 0), (.int .i64 0), (.int .i64 0), (.int .i64 0), (.int .i64 0), (.int .i64 0), (.int .i64 0), (.int .i64 0)] [], none⟩,
  ⟨some 20, .mv (.t 9), none⟩,
  ⟨none, .st 8 (.t 6) (.t 19), none⟩,
  ⟨some 7, .mv (.t 20), none⟩]) (
   .ret)) (
   .skip))) (
  .seq (
  .ops [
  ⟨some 22, .ldN 8 (.t 3), none⟩,
  ⟨some 23, .ldN 2 (.t 5), none⟩,
  ⟨some 24, .call (.c (.func (.func 148) [] [])) [(.t 22), (.t 23)], none⟩,
  ⟨some 21, .mv (.t 24), none⟩,
  ⟨some 25, .ext 0 (.t 21), none⟩,
  ⟨some 26, .ext 1 (.t 21), none⟩,
  ⟨some 10, .new 28 [(.int .i64 0), (.int .i64 0), (.int .i64 0), (.int .i64 0), (.int .i64 0), (.int .i64 0), (.int .i64 0), (.int .i64 0)], none⟩,
  ⟨none, .st 8 (.t 10) (.t 25), none⟩,
  ⟨some 9, .mv (.t 26), none⟩]) (
  .seq (
  .seq (
  .ops [
  ⟨some 27, .mv (.t 9), none⟩,
  ⟨some 28, .bin .neq (.t 27) (.c (.int .i64 0)), none⟩]) (
  .cond (.t 28) (
   .seq (
   .ops [
  ⟨some 29, .build [(.int .i64 0), (.int .i64 0), (.int .i64 0), (.int .i64 0), (.int .i64 0), (.int .i64 0), (.int .i64 0), (.int .i64 0)] [], none⟩,
  ⟨some 30, .mv (.t 9), none⟩,
  ⟨none, .st 8 (.t 6) (.t 29), none⟩,
  ⟨some 7, .mv (.t 30), none⟩]) (
   .ret)) (
   .skip))) (
  .seq (
  .ops [
  ⟨some 31, .ldN 8 (.t 8), none⟩,
  ⟨some 32, .ldN 8 (.t 10), none⟩,
  ⟨some 33, .call (.c (.func (.func 149) [] [])) [(.t 31), (.t 32)], none⟩,
  ⟨some 34, .ext 0 (.t 33), none⟩,
  ⟨some 35, .ext 1 (.t 33), none⟩,
  ⟨none, .st 8 (.t 6) (.t 34), none⟩,
  ⟨some 7, .mv (.t 35), none⟩]) (
  .ret)))))), [.cellN 6 8, .tmp 7]⟩
/-- slices.ContainsFunc[[][]paravane/api.Point,[]paravane/api.Point] -/
def xq121 : XF := ⟨9, .seq (
  .ops [
  ⟨some 4, .mv (.c (.bool false)), none⟩]) (
  .seq (
  .ops [
  ⟨some 5, .mv (.t 0), none⟩,
  ⟨some 6, .mv (.t 1), none⟩,
  ⟨some 7, .call (.c (.func (.func 150) [] [])) [(.t 5), (.t 6)], none⟩,
  ⟨some 8, .bin .geq (.t 7) (.c (.int .i64 0)), none⟩,
  ⟨some 4, .mv (.t 8), none⟩]) (
  .ret)), [.tmp 4]⟩
/-- (*paravane/course.chart).clear$1 -/
def xq122 : XF := ⟨14, .seq (
  .ops [
  ⟨some 3, .mv (.c (.bool false)), none⟩]) (
  .seq (
  .ops [
  ⟨some 7, .mv (.t 0), none⟩,
  ⟨some 8, .ldN 8 (.t 1), none⟩,
  ⟨some 9, .call (.c (.func (.func 123) [] [])) [(.t 7), (.t 8)], none⟩,
  ⟨some 6, .mv (.t 9), none⟩,
  ⟨some 10, .ext 0 (.t 6), none⟩,
  ⟨some 11, .ext 1 (.t 6), none⟩,
  ⟨some 4, .new 30 [(.int .i64 0), (.int .i64 0)], none⟩,
  ⟨none, .st 2 (.t 4) (.t 10), none⟩,
  ⟨some 5, .mv (.t 11), none⟩]) (
  .seq (
  .ops [
  ⟨some 12, .mv (.t 5), none⟩,
  ⟨some 13, .bin .eql (.t 12) (.c (.int .i64 0)), none⟩,
  ⟨some 3, .mv (.t 13), none⟩]) (
  .ret))), [.tmp 3]⟩
/-- paravane/region.Hits -/
def xq123 : XF := ⟨87, .seq (
  .ops [
  ⟨some 2, .box 24 (.t 0), none⟩,
  ⟨some 3, .box 28 (.t 1), none⟩,
  ⟨some 4, .new 30 [(.int .i64 0), (.int .i64 0)], none⟩,
  ⟨some 5, .new 36 [(.int .i64 0)], none⟩]) (
  .scope (
   .seq (
   .seq (
   .draw [
  (⟨some 12, .ld1 (.t 2), none⟩, .reads 0 0),
  (⟨some 13, .call (.c (.func (.func 92) [] [])) [(.t 12)], none⟩, .anchor),
  (⟨some 14, .ldN 8 (.t 3), none⟩, .reads 0 1),
  (⟨some 15, .call (.c (.func (.func 86) [] [])) [(.t 14)], none⟩, .anchor),
  (⟨some 16, .bsl 36 1 2 [(.int .i64 0)] [(0, 1, (.t 13)), (1, 1, (.t 15))], none⟩, .new),
  (⟨some 17, .call (.c (.func (.func 85) [] [])) [(.t 16)], none⟩, .anchor),
  (⟨some 6, .mv (.t 17), none⟩, .calm)]) (
   .seq (
   .ops [
  ⟨some 18, .mv (.t 6), none⟩,
  ⟨some 19, .bin .neq (.t 18) (.c (.int .i64 0)), none⟩]) (
   .cond (.t 19) (
    .seq (
    .ops [
  ⟨some 20, .build [(.int .i64 0), (.int .i64 0)] [], none⟩,
  ⟨some 21, .mv (.t 6), none⟩,
  ⟨none, .st 2 (.t 4) (.t 20), none⟩,
  ⟨none, .st 1 (.t 5) (.t 21), none⟩]) (
    .ret)) (
    .skip)))) (
   .seq (
   .skip) (
   .seq (
   .seq (
   .ops [
  ⟨some 22, .ldN 8 (.t 3), none⟩,
  ⟨some 23, .call (.c (.func (.func 88) [] [])) [(.t 22)], none⟩,
  ⟨some 24, .call (.c (.func (.func 151) [] [])) [(.t 23)], none⟩]) (
   .block 0 (
    .rfun (.t 24) [25] (
     .ops [
  ⟨some 7, .new 221 [(.int .i64 0), (.int .i64 0), (.int .i64 0)], none⟩,
  ⟨none, .st 3 (.t 7) (.t 25), none⟩]) (
     .block 1 (
      .seq (
      .seq (
      .ops [
  ⟨some 26, .ld1 (.t 2), none⟩,
  ⟨some 27, .call (.c (.func (.func 128) [] [])) [(.t 26)], none⟩]) (
      .block 2 (
       .rfun (.t 27) [28, 29] (
        .seq (
        .ops [
  ⟨some 8, .new 30 [(.int .i64 0), (.int .i64 0)], none⟩,
  ⟨none, .st 2 (.t 8) (.t 28), none⟩]) (
        .ops [
  ⟨some 9, .new 30 [(.int .i64 0), (.int .i64 0)], none⟩,
  ⟨none, .st 2 (.t 9) (.t 29), none⟩])) (
        .block 3 (
         .seq (
         .ops [
  ⟨some 30, .fad 0 (.t 9), none⟩,
  ⟨some 31, .ld1 (.t 30), none⟩,
  ⟨some 32, .fad 0 (.t 8), none⟩,
  ⟨some 33, .ld1 (.t 32), none⟩,
  ⟨some 34, .bin .sub (.t 31) (.t 33), none⟩,
  ⟨some 10, .mv (.t 34), none⟩]) (
         .seq (
         .ops [
  ⟨some 35, .mv (.t 10), none⟩,
  ⟨some 36, .fad 1 (.t 8), none⟩,
  ⟨some 37, .ld1 (.t 36), none⟩,
  ⟨some 38, .bin .mul (.t 35) (.t 37), none⟩,
  ⟨some 39, .fad 1 (.t 9), none⟩,
  ⟨some 40, .ld1 (.t 39), none⟩,
  ⟨some 41, .fad 1 (.t 8), none⟩,
  ⟨some 42, .ld1 (.t 41), none⟩,
  ⟨some 43, .bin .sub (.t 40) (.t 42), none⟩,
  ⟨some 44, .fad 0 (.t 7), none⟩,
  ⟨some 45, .ld1 (.t 44), none⟩,
  ⟨some 46, .fad 0 (.t 8), none⟩,
  ⟨some 47, .ld1 (.t 46), none⟩,
  ⟨some 48, .bin .sub (.t 45) (.t 47), none⟩,
  ⟨some 49, .bin .mul (.t 43) (.t 48), none⟩,
  ⟨some 50, .bin .add (.t 38) (.t 49), none⟩,
  ⟨some 11, .mv (.t 50), none⟩]) (
         .block 4 (
          .seq (
          .ops [
  ⟨some 52, .mv (.t 10), none⟩,
  ⟨some 53, .bin .gtr (.t 52) (.c (.int .i64 0)), none⟩,
  ⟨some 51, .mv (.t 53), none⟩]) (
          .cond (.t 51) (
           .draw [
  (⟨some 54, .fad 1 (.t 7), none⟩, .calm),
  (⟨some 55, .ld1 (.t 54), none⟩, .reads 0 0),
  (⟨some 56, .mv (.t 11), none⟩, .calm),
  (⟨some 57, .mv (.t 10), none⟩, .calm),
  (⟨some 58, .call (.c (.func (.func 152) [] [])) [(.t 56), (.t 57)], none⟩, .new),
  (⟨some 59, .max [(.t 55), (.t 58)], none⟩, .calm),
  (⟨some 60, .fad 1 (.t 7), none⟩, .calm),
             (⟨none, .st 1 (.t 60) (.t 59), none⟩, .anchor)]) (
           .seq (
           .ops [
  ⟨some 62, .mv (.t 10), none⟩,
  ⟨some 63, .bin .lss (.t 62) (.c (.int .i64 0)), none⟩,
  ⟨some 61, .mv (.t 63), none⟩]) (
           .cond (.t 61) (
            .draw [
  (⟨some 64, .fad 2 (.t 7), none⟩, .calm),
  (⟨some 65, .ld1 (.t 64), none⟩, .reads 0 0),
  (⟨some 66, .mv (.t 11), none⟩, .calm),
  (⟨some 67, .un .neg (.t 66), none⟩, .calm),
  (⟨some 68, .mv (.t 10), none⟩, .calm),
  (⟨some 69, .un .neg (.t 68), none⟩, .calm),
  (⟨some 70, .call (.c (.func (.func 153) [] [])) [(.t 67), (.t 69)], none⟩, .new),
  (⟨some 71, .min [(.t 65), (.t 70)], none⟩, .calm),
  (⟨some 72, .fad 2 (.t 7), none⟩, .calm),
              (⟨none, .st 1 (.t 72) (.t 71), none⟩, .anchor)]) (
            .seq (
            .ops [
  ⟨some 74, .mv (.t 11), none⟩,
  ⟨some 75, .bin .gtr (.t 74) (.c (.int .i64 0)), none⟩,
  ⟨some 73, .mv (.t 75), none⟩]) (
            .cond (.t 73) (
             .exit 1) (
             .skip)))))))))))))) (
      .seq (
      .ops [
  ⟨some 76, .fad 1 (.t 7), none⟩,
  ⟨some 77, .ld1 (.t 76), none⟩,
  ⟨some 78, .fad 2 (.t 7), none⟩,
  ⟨some 79, .ld1 (.t 78), none⟩,
  ⟨some 80, .bin .leq (.t 77) (.t 79), none⟩]) (
      .cond (.t 80) (
       .seq (
       .ops [
  ⟨some 81, .fad 0 (.t 7), none⟩,
  ⟨some 82, .ld1 (.t 81), none⟩,
  ⟨some 83, .fad 1 (.t 7), none⟩,
  ⟨some 84, .ld1 (.t 83), none⟩,
  ⟨some 85, .build [(.int .i64 0), (.int .i64 0)] [(0, 1, (.t 82)), (1, 1, (.t 84))], none⟩,
  ⟨none, .st 2 (.t 4) (.t 85), none⟩,
  ⟨none, .st 1 (.t 5) (.c (.int .i64 0)), none⟩]) (
       .ret)) (
       .skip)))))))) (
   .seq (
   .ops [
  ⟨some 86, .build [(.int .i64 0), (.int .i64 0)] [], none⟩,
  ⟨none, .st 2 (.t 4) (.t 86), none⟩,
  ⟨none, .st 1 (.t 5) (.c (.int .i64 4)), none⟩]) (
   .ret)))))), [.cellN 4 2, .cell1 5]⟩
/-- (paravane/region.limit).fits -/
def xq124 : XF := ⟨23, .seq (
  .ops [
  ⟨some 3, .box 26 (.t 1), none⟩,
  ⟨some 4, .mv (.c (.bool false)), none⟩]) (
  .seq (
  .ops [
  ⟨some 5, .fad 0 (.t 3), none⟩,
  ⟨some 6, .ld1 (.t 5), none⟩,
  ⟨some 7, .mv (.t 0), none⟩,
  ⟨some 8, .un .neg (.t 7), none⟩,
  ⟨some 9, .bin .geq (.t 6) (.t 8), none⟩,
  ⟨some 10, .mv (.t 9), none⟩,
  ⟨some 11, .fad 0 (.t 3), some (10, true)⟩,
  ⟨some 12, .ld1 (.t 11), some (10, true)⟩,
  ⟨some 13, .fad 1 (.t 3), some (10, true)⟩,
  ⟨some 14, .ld1 (.t 13), some (10, true)⟩,
  ⟨some 15, .bin .leq (.t 12) (.t 14), some (10, true)⟩,
  ⟨some 16, .pick (.t 10) (.t 15) (.c (.bool false)), none⟩,
  ⟨some 17, .mv (.t 16), none⟩,
  ⟨some 18, .fad 1 (.t 3), some (17, true)⟩,
  ⟨some 19, .ld1 (.t 18), some (17, true)⟩,
  ⟨some 20, .mv (.t 0), some (17, true)⟩,
  ⟨some 21, .bin .leq (.t 19) (.t 20), some (17, true)⟩,
  ⟨some 22, .pick (.t 17) (.t 21) (.c (.bool false)), none⟩,
  ⟨some 4, .mv (.t 22), none⟩]) (
  .ret)), [.tmp 4]⟩
/-- (paravane/region.limit).into -/
def xq125 : XF := ⟨11, .seq (
  .ops [
  ⟨some 4, .mv (.c (.int .i64 0)), none⟩]) (
  .seq (
  .ops [
  ⟨some 5, .mv (.t 0), none⟩,
  ⟨some 6, .un .neg (.t 5), none⟩,
  ⟨some 7, .mv (.t 1), none⟩,
  ⟨some 8, .mv (.t 0), none⟩,
  ⟨some 9, .min [(.t 7), (.t 8)], none⟩,
  ⟨some 10, .max [(.t 6), (.t 9)], none⟩,
  ⟨some 4, .mv (.t 10), none⟩]) (
  .ret)), [.tmp 4]⟩
/-- paravane/region.within -/
def xq126 : XF := ⟨15, .seq (
  .ops [
  ⟨some 6, .mv (.c (.bool false)), none⟩]) (
  .seq (
  .ops [
  ⟨some 7, .mv (.t 0), none⟩,
  ⟨some 8, .mv (.t 1), none⟩,
  ⟨some 9, .bin .geq (.t 7) (.t 8), none⟩,
  ⟨some 10, .mv (.t 9), none⟩,
  ⟨some 11, .mv (.t 0), some (10, true)⟩,
  ⟨some 12, .mv (.t 2), some (10, true)⟩,
  ⟨some 13, .bin .leq (.t 11) (.t 12), some (10, true)⟩,
  ⟨some 14, .pick (.t 10) (.t 13) (.c (.bool false)), none⟩,
  ⟨some 6, .mv (.t 14), none⟩]) (
  .ret)), [.tmp 6]⟩
/-- paravane/region.left -/
def xq127 : XF := ⟨30, .seq (
  .ops [
  ⟨some 3, .box 30 (.t 0), none⟩,
  ⟨some 4, .box 30 (.t 1), none⟩,
  ⟨some 5, .box 30 (.t 2), none⟩,
  ⟨some 6, .mv (.c (.int .i64 0)), none⟩]) (
  .seq (
  .ops [
  ⟨some 7, .fad 0 (.t 4), none⟩,
  ⟨some 8, .ld1 (.t 7), none⟩,
  ⟨some 9, .fad 0 (.t 3), none⟩,
  ⟨some 10, .ld1 (.t 9), none⟩,
  ⟨some 11, .bin .sub (.t 8) (.t 10), none⟩,
  ⟨some 12, .fad 1 (.t 5), none⟩,
  ⟨some 13, .ld1 (.t 12), none⟩,
  ⟨some 14, .fad 1 (.t 3), none⟩,
  ⟨some 15, .ld1 (.t 14), none⟩,
  ⟨some 16, .bin .sub (.t 13) (.t 15), none⟩,
  ⟨some 17, .bin .mul (.t 11) (.t 16), none⟩,
  ⟨some 18, .fad 1 (.t 4), none⟩,
  ⟨some 19, .ld1 (.t 18), none⟩,
  ⟨some 20, .fad 1 (.t 3), none⟩,
  ⟨some 21, .ld1 (.t 20), none⟩,
  ⟨some 22, .bin .sub (.t 19) (.t 21), none⟩,
  ⟨some 23, .fad 0 (.t 5), none⟩,
  ⟨some 24, .ld1 (.t 23), none⟩,
  ⟨some 25, .fad 0 (.t 3), none⟩,
  ⟨some 26, .ld1 (.t 25), none⟩,
  ⟨some 27, .bin .sub (.t 24) (.t 26), none⟩,
  ⟨some 28, .bin .mul (.t 22) (.t 27), none⟩,
  ⟨some 29, .bin .sub (.t 17) (.t 28), none⟩,
  ⟨some 6, .mv (.t 29), none⟩]) (
  .ret)), [.tmp 6]⟩
/-- paravane/region.sides -/
def xq128 : XF := ⟨4, .seq (
  .ops [
  ⟨some 1, .box 24 (.t 0), none⟩,
  ⟨some 2, .mv (.c .nilFunc), none⟩]) (
  .seq (
  .ops [
  ⟨some 3, .mkf 154 [] [(.t 1)], none⟩,
  ⟨some 2, .mv (.t 3), none⟩]) (
  .ret)), [.tmp 2]⟩
/-- paravane/course.cruise -/
def xq129 : XF := ⟨121, .seq (
  .ops [
  ⟨some 1, .box 35 (.t 0), none⟩,
  ⟨some 2, .mv (.c (.bool false)), none⟩]) (
  .seq (
  .seq (
  .ops [
  ⟨some 7, .fad 0 (.t 1), none⟩,
  ⟨some 8, .ld1 (.t 7), none⟩,
  ⟨some 9, .len .sl (.t 8), none⟩,
  ⟨some 10, .call (.c (.func (.func 72) [] [])) [(.t 9), (.c (.int .i64 1)), (.c (.int .i64 5))], none⟩,
  ⟨some 11, .un .not (.t 10), none⟩,
  ⟨some 12, .mv (.t 11), none⟩,
  ⟨some 13, .fad 1 (.t 1), some (12, false)⟩,
  ⟨some 14, .ld1 (.t 13), some (12, false)⟩,
  ⟨some 15, .len .sl (.t 14), some (12, false)⟩,
  ⟨some 16, .bin .gtr (.t 15) (.c (.int .i64 4)), some (12, false)⟩,
  ⟨some 17, .pick (.t 12) (.c (.bool true)) (.t 16), none⟩,
  ⟨some 18, .mv (.t 17), none⟩,
  ⟨some 19, .fad 2 (.t 1), some (18, false)⟩,
  ⟨some 20, .ld1 (.t 19), some (18, false)⟩,
  ⟨some 21, .len .sl (.t 20), some (18, false)⟩,
  ⟨some 22, .bin .gtr (.t 21) (.c (.int .i64 4)), some (18, false)⟩,
  ⟨some 23, .pick (.t 18) (.c (.bool true)) (.t 22), none⟩,
  ⟨some 24, .mv (.t 23), none⟩,
  ⟨some 25, .fad 16 (.t 1), some (24, false)⟩,
  ⟨some 26, .ld1 (.t 25), some (24, false)⟩,
  ⟨some 27, .len .sl (.t 26), some (24, false)⟩,
  ⟨some 28, .fad 0 (.t 1), some (24, false)⟩,
  ⟨some 29, .ld1 (.t 28), some (24, false)⟩,
  ⟨some 30, .len .sl (.t 29), some (24, false)⟩,
  ⟨some 31, .bin .neq (.t 27) (.t 30), some (24, false)⟩,
  ⟨some 32, .pick (.t 24) (.c (.bool true)) (.t 31), none⟩]) (
  .cond (.t 32) (
   .seq (
   .ops [
  ⟨some 2, .mv (.c (.bool false)), none⟩]) (
   .ret)) (
   .skip))) (
  .seq (
  .seq (
  .ops [
  ⟨some 33, .fad 0 (.t 1), none⟩,
  ⟨some 34, .ld1 (.t 33), none⟩,
  ⟨some 35, .len .sl (.t 34), none⟩,
  ⟨some 36, .mv (.c (.int .i64 0)), none⟩]) (
  .block 0 (
   .loop (
    .seq (
    .ops [
  ⟨some 37, .bin .lss (.t 36) (.t 35), none⟩]) (
    .seq (
    .cond (.t 37) (
     .skip) (
     .exit 0)) (
    .seq (
    .block 1 (
     .seq (
     .ops [
  ⟨some 38, .mv (.t 36), none⟩,
  ⟨some 39, .iad none 4 (.t 34) (.t 36), none⟩,
  ⟨some 40, .ldN 4 (.t 39), none⟩,
  ⟨some 4, .new 72 [(.int .i64 0), (.int .i64 0), (.int .i64 0), (.int .i64 0)], none⟩,
  ⟨some 3, .mv (.t 38), none⟩,
  ⟨none, .st 4 (.t 4) (.t 40), none⟩]) (
     .seq (
     .ops [
  ⟨some 41, .fad 0 (.t 4), none⟩,
  ⟨some 42, .ldN 2 (.t 41), none⟩,
  ⟨some 43, .call (.c (.func (.func 87) [] [])) [(.t 42)], none⟩,
  ⟨some 44, .bin .neq (.t 43) (.c (.int .i64 0)), none⟩,
  ⟨some 45, .mv (.t 44), none⟩,
  ⟨some 46, .fad 2 (.t 4), some (45, false)⟩,
  ⟨some 47, .ldN 2 (.t 46), some (45, false)⟩,
  ⟨some 48, .call (.c (.func (.func 87) [] [])) [(.t 47)], some (45, false)⟩,
  ⟨some 49, .bin .neq (.t 48) (.c (.int .i64 0)), some (45, false)⟩,
  ⟨some 50, .pick (.t 45) (.c (.bool true)) (.t 49), none⟩,
  ⟨some 51, .mv (.t 50), none⟩,
  ⟨some 52, .fad 0 (.t 4), some (51, false)⟩,
  ⟨some 53, .ldN 2 (.t 52), some (51, false)⟩,
  ⟨some 54, .fad 2 (.t 4), some (51, false)⟩,
  ⟨some 55, .ldN 2 (.t 54), some (51, false)⟩,
  ⟨some 56, .eqs false 2 [0, 1] (.t 53) (.t 55), some (51, false)⟩,
  ⟨some 57, .pick (.t 51) (.c (.bool true)) (.t 56), none⟩,
  ⟨some 58, .mv (.t 57), none⟩,
  ⟨some 59, .fad 16 (.t 1), some (58, false)⟩,
  ⟨some 60, .ld1 (.t 59), some (58, false)⟩,
  ⟨some 61, .mv (.t 3), some (58, false)⟩,
  ⟨some 62, .iad none 1 (.t 60) (.t 61), some (58, false)⟩,
  ⟨some 63, .ld1 (.t 62), some (58, false)⟩,
  ⟨some 64, .call (.c (.func (.func 155) [] [])) [(.t 63)], some (58, false)⟩,
  ⟨some 65, .un .not (.t 64), some (58, false)⟩,
  ⟨some 66, .pick (.t 58) (.c (.bool true)) (.t 65), none⟩]) (
     .cond (.t 66) (
      .seq (
      .ops [
  ⟨some 2, .mv (.c (.bool false)), none⟩]) (
      .ret)) (
      .skip))))) (
    .ops [
  ⟨some 67, .bin .add (.t 36) (.c (.int .i64 1)), none⟩,
  ⟨some 36, .mv (.t 67), none⟩]))))))) (
  .seq (
  .seq (
  .ops [
  ⟨some 68, .fad 1 (.t 1), none⟩,
  ⟨some 69, .ld1 (.t 68), none⟩,
  ⟨some 70, .call (.c (.func (.func 121) [] [])) [(.t 69), (.c (.func (.func 156) [] []))], none⟩,
  ⟨some 71, .mv (.t 70), none⟩,
  ⟨some 72, .fad 2 (.t 1), some (71, false)⟩,
  ⟨some 73, .ld1 (.t 72), some (71, false)⟩,
  ⟨some 74, .call (.c (.func (.func 157) [] [])) [(.t 73), (.c (.func (.func 158) [] []))], some (71, false)⟩,
  ⟨some 75, .pick (.t 71) (.c (.bool true)) (.t 74), none⟩]) (
  .cond (.t 75) (
   .seq (
   .ops [
  ⟨some 2, .mv (.c (.bool false)), none⟩]) (
   .ret)) (
   .skip))) (
  .seq (
  .seq (
  .ops [
  ⟨some 77, .fad 3 (.t 1), none⟩,
  ⟨some 78, .ldN 8 (.t 77), none⟩,
  ⟨some 79, .call (.c (.func (.func 159) [] [])) [(.t 78)], none⟩,
  ⟨some 76, .mv (.t 79), none⟩,
  ⟨some 80, .ext 0 (.t 76), none⟩,
  ⟨some 81, .ext 1 (.t 76), none⟩,
  ⟨some 5, .new 28 [(.int .i64 0), (.int .i64 0), (.int .i64 0), (.int .i64 0), (.int .i64 0), (.int .i64 0), (.int .i64 0), (.int .i64 0)], none⟩,
  ⟨none, .st 8 (.t 5) (.t 80), none⟩,
  ⟨some 6, .mv (.t 81), none⟩]) (
  .seq (
  .ops [
  ⟨some 82, .mv (.t 6), none⟩,
  ⟨some 83, .bin .neq (.t 82) (.c (.int .i64 0)), none⟩,
  ⟨some 84, .mv (.t 83), none⟩,
  ⟨some 85, .fad 3 (.t 1), some (84, false)⟩,
  ⟨some 86, .fad 0 (.t 85), some (84, false)⟩,
  ⟨some 87, .fad 1 (.t 86), some (84, false)⟩,
  ⟨some 88, .ld1 (.t 87), some (84, false)⟩,
  ⟨some 89, .fad 3 (.t 1), some (84, false)⟩,
  ⟨some 90, .fad 0 (.t 89), some (84, false)⟩,
  ⟨some 91, .fad 0 (.t 90), some (84, false)⟩,
  ⟨some 92, .ld1 (.t 91), some (84, false)⟩,
  ⟨some 93, .bin .sub (.t 88) (.t 92), some (84, false)⟩,
  ⟨some 94, .bin .gtr (.t 93) (.c (.int .i64 256)), some (84, false)⟩,
  ⟨some 95, .pick (.t 84) (.c (.bool true)) (.t 94), none⟩,
  ⟨some 96, .mv (.t 95), none⟩,
  ⟨some 97, .fad 3 (.t 1), some (96, false)⟩,
  ⟨some 98, .fad 2 (.t 97), some (96, false)⟩,
  ⟨some 99, .fad 1 (.t 98), some (96, false)⟩,
  ⟨some 100, .ld1 (.t 99), some (96, false)⟩,
  ⟨some 101, .fad 3 (.t 1), some (96, false)⟩,
  ⟨some 102, .fad 2 (.t 101), some (96, false)⟩,
  ⟨some 103, .fad 0 (.t 102), some (96, false)⟩,
  ⟨some 104, .ld1 (.t 103), some (96, false)⟩,
  ⟨some 105, .bin .sub (.t 100) (.t 104), some (96, false)⟩,
  ⟨some 106, .bin .gtr (.t 105) (.c (.int .i64 256)), some (96, false)⟩,
  ⟨some 107, .pick (.t 96) (.c (.bool true)) (.t 106), none⟩]) (
  .cond (.t 107) (
   .seq (
   .ops [
  ⟨some 2, .mv (.c (.bool false)), none⟩]) (
   .ret)) (
   .skip)))) (
  .seq (
  .ops [
  ⟨some 108, .fad 11 (.t 1), none⟩,
  ⟨some 109, .ldN 3 (.t 108), none⟩,
  ⟨some 110, .call (.c (.func (.func 42) [] [])) [(.t 109)], none⟩,
  ⟨some 111, .mv (.t 110), none⟩,
  ⟨some 112, .fad 14 (.t 1), some (111, true)⟩,
  ⟨some 113, .ld1 (.t 112), some (111, true)⟩,
  ⟨some 114, .call (.c (.func (.func 72) [] [])) [(.t 113), (.c (.int .i64 1)), (.c (.int .i64 1000))], some (111, true)⟩,
  ⟨some 115, .pick (.t 111) (.t 114) (.c (.bool false)), none⟩,
  ⟨some 116, .mv (.t 115), none⟩,
  ⟨some 117, .fad 15 (.t 1), some (116, true)⟩,
  ⟨some 118, .ld1 (.t 117), some (116, true)⟩,
  ⟨some 119, .call (.c (.func (.func 72) [] [])) [(.t 118), (.c (.int .i64 0)), (.c (.int .i64 1000))], some (116, true)⟩,
  ⟨some 120, .pick (.t 116) (.t 119) (.c (.bool false)), none⟩,
  ⟨some 2, .mv (.t 120), none⟩]) (
  .ret)))))), [.tmp 2]⟩
/-- (*paravane/course.chart).passages$1 -/
def xq130 : XF := ⟨27, .seq (
  .ops [
  ⟨some 4, .box 174 (.t 0), none⟩]) (
  .seq (
  .ops [
  ⟨some 7, .mkf 131 [] [(.t 1), (.t 2), (.t 3), (.t 4)], none⟩,
  ⟨some 5, .new 198 [.nilFunc], none⟩,
  ⟨none, .st 1 (.t 5) (.t 7), none⟩]) (
  .seq (
  .seq (
  .ops [
  ⟨some 8, .fad 0 (.t 2), none⟩,
  ⟨some 9, .ldN 2 (.t 8), none⟩,
  ⟨some 10, .fad 0 (.t 3), none⟩,
  ⟨some 11, .ldN 2 (.t 10), none⟩,
  ⟨some 12, .eqs false 2 [0, 1] (.t 9) (.t 11), none⟩,
  ⟨some 13, .mv (.t 12), none⟩,
  ⟨some 14, .ld1 (.t 5), some (13, true)⟩,
  ⟨some 15, .fad 0 (.t 2), some (13, true)⟩,
  ⟨some 16, .ldN 2 (.t 15), some (13, true)⟩,
  ⟨some 17, .bsl 30 2 1 [(.int .i64 0), (.int .i64 0)] [(0, 2, (.t 16))], some (13, true)⟩,
  ⟨some 18, .call (.t 14) [(.t 17)], some (13, true)⟩,
  ⟨some 19, .un .not (.t 18), some (13, true)⟩,
  ⟨some 20, .pick (.t 13) (.t 19) (.c (.bool false)), none⟩]) (
  .cond (.t 20) (
   .ret) (
   .skip))) (
  .seq (
  .ops [
  ⟨some 6, .new 210 [.nilFunc], none⟩]) (
  .seq (
  .ops [
  ⟨some 21, .mkf 134 [] [(.t 5), (.t 3), (.t 1), (.t 6)], none⟩,
  ⟨none, .st 1 (.t 6) (.t 21), none⟩]) (
  .ops [
  ⟨some 22, .ld1 (.t 6), none⟩,
  ⟨some 23, .fad 0 (.t 2), none⟩,
  ⟨some 24, .ldN 2 (.t 23), none⟩,
  ⟨some 25, .bsl 30 2 1 [(.int .i64 0), (.int .i64 0)] [(0, 2, (.t 24))], none⟩,
  ⟨some 26, .call (.t 22) [(.t 25), (.c (.int .i64 0))], none⟩]))))), []⟩
/-- (*paravane/course.chart).passages$1$1 -/
def xq131 : XF := ⟨29, .seq (
  .ops [
  ⟨some 6, .mv (.c (.bool false)), none⟩]) (
  .seq (
  .ops [
  ⟨some 10, .ld1 (.t 1), none⟩,
  ⟨some 11, .mv (.t 0), none⟩,
  ⟨some 12, .fad 2 (.t 2), none⟩,
  ⟨some 13, .ld1 (.t 12), none⟩,
  ⟨some 14, .fad 2 (.t 3), none⟩,
  ⟨some 15, .ld1 (.t 14), none⟩,
  ⟨some 16, .call (.c (.func (.func 132) [] [])) [(.t 10), (.t 11), (.t 13), (.t 15)], none⟩,
  ⟨some 9, .mv (.t 16), none⟩,
  ⟨some 17, .ext 0 (.t 9), none⟩,
  ⟨some 18, .ext 1 (.t 9), none⟩,
  ⟨some 7, .mv (.t 17), none⟩,
  ⟨some 8, .mv (.t 18), none⟩]) (
  .seq (
  .draw [
  (⟨some 19, .mv (.t 8), none⟩, .calm),
  (⟨some 20, .un .not (.t 19), none⟩, .calm),
  (⟨some 21, .mv (.t 20), none⟩, .calm),
  (⟨some 22, .ld1 (.t 4), some (21, false)⟩, .reads 0 1),
  (⟨some 23, .mv (.t 0), some (21, false)⟩, .calm),
  (⟨some 24, .call (.c (.func (.func 133) [] [])) [(.t 23)], some (21, false)⟩, .anchor),
  (⟨some 25, .mv (.t 7), some (21, false)⟩, .calm),
  (⟨some 26, .build [(.slice none 0 true 0), (.int .i64 0)] [(0, 1, (.t 24)), (1, 1, (.t 25))], some (21, false)⟩, .calm),
  (⟨some 27, .call (.t 22) [(.t 26)], some (21, false)⟩, .anchor),
  (⟨some 28, .pick (.t 21) (.c (.bool true)) (.t 27), none⟩, .calm),
  (⟨some 6, .mv (.t 28), none⟩, .calm)]) (
  .ret))), [.tmp 6]⟩
/-- (*paravane/course.chart).cost -/
def xq132 : XF := ⟨84, .seq (
  .ops [
  ⟨some 8, .mv (.c (.int .i64 0)), none⟩,
  ⟨some 9, .mv (.c (.bool false)), none⟩]) (
  .seq (
  .ops [
  ⟨some 10, .mv (.c (.int .i64 0)), none⟩]) (
  .seq (
  .seq (
  .ops [
  ⟨some 11, .mv (.c (.int .i64 1)), none⟩]) (
  .block 0 (
   .loop (
    .seq (
    .seq (
    .ops [
  ⟨some 14, .mv (.t 11), none⟩,
  ⟨some 15, .mv (.t 1), none⟩,
  ⟨some 16, .len .sl (.t 15), none⟩,
  ⟨some 17, .bin .lss (.t 14) (.t 16), none⟩]) (
    .cond (.t 17) (
     .skip) (
     .exit 0))) (
    .seq (
    .block 1 (
     .seq (
     .draw [
  (⟨some 20, .mv (.t 1), none⟩, .calm),
  (⟨some 21, .mv (.t 11), none⟩, .calm),
  (⟨some 22, .bin .sub (.t 21) (.c (.int .i64 1)), none⟩, .calm),
  (⟨some 23, .iad none 2 (.t 20) (.t 22), none⟩, .calm),
  (⟨some 24, .ldN 2 (.t 23), none⟩, .reads 0 0),
  (⟨some 25, .mv (.t 1), none⟩, .calm),
  (⟨some 26, .mv (.t 11), none⟩, .calm),
  (⟨some 27, .iad none 2 (.t 25) (.t 26), none⟩, .calm),
  (⟨some 28, .ldN 2 (.t 27), none⟩, .reads 0 0),
  (⟨some 29, .build [(.int .i64 0), (.int .i64 0), (.int .i64 0), (.int .i64 0)] [(0, 2, (.t 24)), (2, 2, (.t 28))], none⟩, .calm),
  (⟨some 12, .new 147 [(.int .i64 0), (.int .i64 0), (.int .i64 0), (.int .i64 0)], none⟩, .new),
       (⟨none, .st 4 (.t 12) (.t 29), none⟩, .anchor)]) (
     .seq (
     .seq (
     .ops [
  ⟨some 30, .fad 0 (.t 12), none⟩,
  ⟨some 31, .ldN 2 (.t 30), none⟩,
  ⟨some 32, .fad 2 (.t 12), none⟩,
  ⟨some 33, .ldN 2 (.t 32), none⟩,
  ⟨some 34, .eqs false 2 [0, 1] (.t 31) (.t 33), none⟩,
  ⟨some 35, .mv (.t 34), none⟩,
  ⟨some 36, .mv (.t 0), some (35, false)⟩,
  ⟨some 37, .ldN 4 (.t 12), some (35, false)⟩,
  ⟨some 38, .call (.c (.func (.func 83) [] [])) [(.t 36), (.t 37)], some (35, false)⟩,
  ⟨some 39, .un .not (.t 38), some (35, false)⟩,
  ⟨some 40, .pick (.t 35) (.c (.bool true)) (.t 39), none⟩]) (
     .cond (.t 40) (
      .seq (
      .ops [
  ⟨some 8, .mv (.c (.int .i64 0)), none⟩,
  ⟨some 9, .mv (.c (.bool false)), none⟩]) (
      .ret)) (
      .skip))) (
     .seq (
     .ops [
  ⟨some 41, .fad 2 (.t 12), none⟩,
  ⟨some 42, .fad 0 (.t 41), none⟩,
  ⟨some 43, .ld1 (.t 42), none⟩,
  ⟨some 44, .fad 0 (.t 12), none⟩,
  ⟨some 45, .fad 0 (.t 44), none⟩,
  ⟨some 46, .ld1 (.t 45), none⟩,
  ⟨some 47, .bin .sub (.t 43) (.t 46), none⟩,
  ⟨some 48, .fad 2 (.t 12), none⟩,
  ⟨some 49, .fad 1 (.t 48), none⟩,
  ⟨some 50, .ld1 (.t 49), none⟩,
  ⟨some 51, .fad 0 (.t 12), none⟩,
  ⟨some 52, .fad 1 (.t 51), none⟩,
  ⟨some 53, .ld1 (.t 52), none⟩,
  ⟨some 54, .bin .sub (.t 50) (.t 53), none⟩,
  ⟨some 55, .build [(.int .i64 0), (.int .i64 0)] [(0, 1, (.t 47)), (1, 1, (.t 54))], none⟩,
  ⟨some 56, .call (.c (.func (.func 50) [] [])) [(.t 55)], none⟩,
  ⟨some 13, .mv (.t 56), none⟩]) (
     .seq (
     .draw [
  (⟨some 57, .mv (.t 10), none⟩, .calm),
  (⟨some 58, .mv (.t 0), none⟩, .calm),
  (⟨some 59, .ldN 4 (.t 12), none⟩, .reads 0 0),
  (⟨some 60, .call (.c (.func (.func 78) [] [])) [(.t 58), (.t 59)], none⟩, .anchor),
  (⟨some 61, .mv (.t 0), none⟩, .calm),
  (⟨some 62, .nilc (.t 61), none⟩, .calm),
  (⟨some 63, .fad 0 (.t 62), none⟩, .calm),
  (⟨some 64, .fad 15 (.t 63), none⟩, .calm),
  (⟨some 65, .ld1 (.t 64), none⟩, .reads 0 1),
  (⟨some 66, .mv (.t 2), none⟩, .calm),
  (⟨some 67, .mv (.t 13), none⟩, .calm),
  (⟨some 68, .call (.c (.func (.func 107) [] [])) [(.t 66), (.t 67)], none⟩, .new),
  (⟨some 69, .bin .mul (.t 65) (.t 68), none⟩, .calm),
  (⟨some 70, .bin .add (.t 60) (.t 69), none⟩, .calm),
  (⟨some 71, .bin .add (.t 57) (.t 70), none⟩, .calm),
  (⟨some 10, .mv (.t 71), none⟩, .calm)]) (
     .ops [
  ⟨some 72, .mv (.t 13), none⟩,
  ⟨some 2, .mv (.t 72), none⟩])))))) (
    .ops [
  ⟨some 18, .mv (.t 11), none⟩,
  ⟨some 19, .bin .add (.t 18) (.c (.int .i64 1)), none⟩,
  ⟨some 11, .mv (.t 19), none⟩])))))) (
  .seq (
  .draw [
  (⟨some 73, .mv (.t 10), none⟩, .calm),
  (⟨some 74, .mv (.t 0), none⟩, .calm),
  (⟨some 75, .nilc (.t 74), none⟩, .calm),
  (⟨some 76, .fad 0 (.t 75), none⟩, .calm),
  (⟨some 77, .fad 15 (.t 76), none⟩, .calm),
  (⟨some 78, .ld1 (.t 77), none⟩, .reads 0 0),
  (⟨some 79, .mv (.t 2), none⟩, .calm),
  (⟨some 80, .mv (.t 3), none⟩, .calm),
  (⟨some 81, .call (.c (.func (.func 107) [] [])) [(.t 79), (.t 80)], none⟩, .new),
  (⟨some 82, .bin .mul (.t 78) (.t 81), none⟩, .calm),
  (⟨some 83, .bin .add (.t 73) (.t 82), none⟩, .calm),
  (⟨some 8, .mv (.t 83), none⟩, .calm),
  (⟨some 9, .mv (.c (.bool true)), none⟩, .calm)]) (
  .ret)))), [.tmp 8, .tmp 9]⟩
/-- slices.Clone[[]paravane/api.Point,paravane/api.Point] -/
def xq133 : XF := ⟨8, .seq (
  .ops [
  ⟨some 2, .mv (.c (.slice none 0 true 0)), none⟩]) (
  .seq (
  .seq (
  .ops [
  ⟨some 3, .mv (.t 0), none⟩,
  ⟨some 4, .eqg false 24 (.t 3) (.c (.slice none 0 true 0)), none⟩]) (
  .cond (.t 4) (
   .seq (
   .ops [
  ⟨some 2, .mv (.c (.slice none 0 true 0)), none⟩]) (
   .ret)) (
   .skip))) (
  .seq (
  .ops [
  ⟨some 5, .bsl 30 2 0 [(.int .i64 0), (.int .i64 0)] [], none⟩,
  ⟨some 6, .mv (.t 0), none⟩,
  ⟨some 7, .app 30 2 16 [(.int .i64 0), (.int .i64 0)] (.t 5) (.t 6), none⟩,
  ⟨some 2, .mv (.t 7), none⟩]) (
  .ret))), [.tmp 2]⟩
/-- (*paravane/course.chart).passages$1$2 -/
def xq134 : XF := ⟨51, .seq (
  .ops [
  ⟨some 8, .mv (.c (.bool false)), none⟩]) (
  .seq (
  .seq (
  .draw [
  (⟨some 11, .ld1 (.t 2), none⟩, .reads 0 2),
  (⟨some 12, .mv (.t 0), none⟩, .calm),
  (⟨some 13, .call (.c (.func (.func 133) [] [])) [(.t 12)], none⟩, .anchor),
  (⟨some 14, .fad 0 (.t 3), none⟩, .calm),
  (⟨some 15, .ldN 2 (.t 14), none⟩, .reads 0 1),
  (⟨some 16, .bsl 30 2 1 [(.int .i64 0), (.int .i64 0)] [(0, 2, (.t 15))], none⟩, .new),
  (⟨some 17, .app 30 2 16 [(.int .i64 0), (.int .i64 0)] (.t 13) (.t 16), none⟩, .anchor),
  (⟨some 18, .call (.t 11) [(.t 17)], none⟩, .anchor),
  (⟨some 19, .un .not (.t 18), none⟩, .calm)]) (
  .cond (.t 19) (
   .seq (
   .ops [
  ⟨some 8, .mv (.c (.bool false)), none⟩]) (
   .ret)) (
   .skip))) (
  .seq (
  .seq (
  .ops [
  ⟨some 20, .ld1 (.t 4), none⟩,
  ⟨some 21, .nilc (.t 20), none⟩,
  ⟨some 22, .fad 0 (.t 21), none⟩,
  ⟨some 23, .fad 2 (.t 22), none⟩,
  ⟨some 24, .ld1 (.t 23), none⟩,
  ⟨some 25, .len .sl (.t 24), none⟩,
  ⟨some 26, .mv (.c (.int .i64 0)), none⟩]) (
  .block 0 (
   .loop (
    .seq (
    .ops [
  ⟨some 27, .bin .lss (.t 26) (.t 25), none⟩]) (
    .seq (
    .cond (.t 27) (
     .skip) (
     .exit 0)) (
    .seq (
    .block 1 (
     .seq (
     .ops [
  ⟨some 28, .mv (.t 26), none⟩,
  ⟨some 29, .iad none 2 (.t 24) (.t 26), none⟩,
  ⟨some 30, .ldN 2 (.t 29), none⟩,
  ⟨some 10, .new 30 [(.int .i64 0), (.int .i64 0)], none⟩,
  ⟨some 9, .mv (.t 28), none⟩,
  ⟨none, .st 2 (.t 10) (.t 30), none⟩]) (
     .seq (
     .draw [
  (⟨some 31, .mv (.t 1), none⟩, .calm),
  (⟨some 32, .mv (.t 9), none⟩, .calm),
  (⟨some 33, .bin .shl (.c (.int .i64 1)) (.t 32), none⟩, .calm),
  (⟨some 34, .bin .and (.t 31) (.t 33), none⟩, .calm),
  (⟨some 35, .bin .eql (.t 34) (.c (.int .i64 0)), none⟩, .calm),
  (⟨some 36, .mv (.t 35), none⟩, .calm),
  (⟨some 37, .ld1 (.t 5), some (36, true)⟩, .reads 0 2),
  (⟨some 38, .mv (.t 0), some (36, true)⟩, .calm),
  (⟨some 39, .call (.c (.func (.func 133) [] [])) [(.t 38)], some (36, true)⟩, .anchor),
  (⟨some 40, .ldN 2 (.t 10), some (36, true)⟩, .reads 0 1),
  (⟨some 41, .bsl 30 2 1 [(.int .i64 0), (.int .i64 0)] [(0, 2, (.t 40))], some (36, true)⟩, .new),
  (⟨some 42, .app 30 2 16 [(.int .i64 0), (.int .i64 0)] (.t 39) (.t 41), some (36, true)⟩, .anchor),
  (⟨some 43, .mv (.t 1), some (36, true)⟩, .calm),
  (⟨some 44, .mv (.t 9), some (36, true)⟩, .calm),
  (⟨some 45, .bin .shl (.c (.int .i64 1)) (.t 44), some (36, true)⟩, .calm),
  (⟨some 46, .bin .or (.t 43) (.t 45), some (36, true)⟩, .calm),
  (⟨some 47, .call (.t 37) [(.t 42), (.t 46)], some (36, true)⟩, .anchor),
  (⟨some 48, .un .not (.t 47), some (36, true)⟩, .calm),
  (⟨some 49, .pick (.t 36) (.t 48) (.c (.bool false)), none⟩, .calm)]) (
     .cond (.t 49) (
      .seq (
      .ops [
  ⟨some 8, .mv (.c (.bool false)), none⟩]) (
      .ret)) (
      .skip))))) (
    .ops [
  ⟨some 50, .bin .add (.t 26) (.c (.int .i64 1)), none⟩,
  ⟨some 26, .mv (.t 50), none⟩]))))))) (
  .seq (
  .ops [
  ⟨some 8, .mv (.c (.bool true)), none⟩]) (
  .ret)))), [.tmp 8]⟩
/-- slices.CompareFunc[[]paravane/api.Point,[]paravane/api.Point,paravane/api.Point,paravane/api.Point] -/
def xq135 : XF := ⟨39, .seq (
  .ops [
  ⟨some 6, .mv (.c (.int .i64 0)), none⟩]) (
  .seq (
  .seq (
  .ops [
  ⟨some 11, .mv (.t 0), none⟩,
  ⟨some 12, .len .sl (.t 11), none⟩,
  ⟨some 13, .mv (.c (.int .i64 0)), none⟩]) (
  .block 0 (
   .loop (
    .seq (
    .ops [
  ⟨some 14, .bin .lss (.t 13) (.t 12), none⟩]) (
    .seq (
    .cond (.t 14) (
     .skip) (
     .exit 0)) (
    .seq (
    .block 1 (
     .seq (
     .ops [
  ⟨some 15, .mv (.t 13), none⟩,
  ⟨some 16, .iad none 2 (.t 11) (.t 13), none⟩,
  ⟨some 17, .ldN 2 (.t 16), none⟩,
  ⟨some 8, .new 30 [(.int .i64 0), (.int .i64 0)], none⟩,
  ⟨some 7, .mv (.t 15), none⟩,
  ⟨none, .st 2 (.t 8) (.t 17), none⟩]) (
     .seq (
     .seq (
     .ops [
  ⟨some 18, .mv (.t 7), none⟩,
  ⟨some 19, .mv (.t 1), none⟩,
  ⟨some 20, .len .sl (.t 19), none⟩,
  ⟨some 21, .bin .geq (.t 18) (.t 20), none⟩]) (
     .cond (.t 21) (
      .seq (
      .ops [
  ⟨some 6, .mv (.c (.int .i64 1)), none⟩]) (
      .ret)) (
      .skip))) (
     .seq (
     .ops [
  ⟨some 22, .mv (.t 1), none⟩,
  ⟨some 23, .mv (.t 7), none⟩,
  ⟨some 24, .iad none 2 (.t 22) (.t 23), none⟩,
  ⟨some 25, .ldN 2 (.t 24), none⟩,
  ⟨some 9, .new 30 [(.int .i64 0), (.int .i64 0)], none⟩,
  ⟨none, .st 2 (.t 9) (.t 25), none⟩]) (
     .seq (
     .ops [
  ⟨some 26, .mv (.t 2), none⟩,
  ⟨some 27, .ldN 2 (.t 8), none⟩,
  ⟨some 28, .ldN 2 (.t 9), none⟩,
  ⟨some 29, .call (.t 26) [(.t 27), (.t 28)], none⟩,
  ⟨some 10, .mv (.t 29), none⟩]) (
     .seq (
     .ops [
  ⟨some 30, .mv (.t 10), none⟩,
  ⟨some 31, .bin .neq (.t 30) (.c (.int .i64 0)), none⟩]) (
     .cond (.t 31) (
      .seq (
      .ops [
  ⟨some 32, .mv (.t 10), none⟩,
  ⟨some 6, .mv (.t 32), none⟩]) (
      .ret)) (
      .skip)))))))) (
    .ops [
  ⟨some 33, .bin .add (.t 13) (.c (.int .i64 1)), none⟩,
  ⟨some 13, .mv (.t 33), none⟩]))))))) (
  .seq (
  .seq (
  .ops [
  ⟨some 34, .mv (.t 0), none⟩,
  ⟨some 35, .len .sl (.t 34), none⟩,
  ⟨some 36, .mv (.t 1), none⟩,
  ⟨some 37, .len .sl (.t 36), none⟩,
  ⟨some 38, .bin .lss (.t 35) (.t 37), none⟩]) (
  .cond (.t 38) (
   .seq (
   .ops [
  ⟨some 6, .mv (.c (.int .i64 (-1))), none⟩]) (
   .ret)) (
   .skip))) (
  .seq (
  .ops [
  ⟨some 6, .mv (.c (.int .i64 0)), none⟩]) (
  .ret)))), [.tmp 6]⟩
/-- paravane/course.before -/
def xq136 : XF := ⟨20, .seq (
  .ops [
  ⟨some 2, .box 30 (.t 0), none⟩,
  ⟨some 3, .box 30 (.t 1), none⟩,
  ⟨some 4, .mv (.c (.int .i64 0)), none⟩]) (
  .seq (
  .seq (
  .ops [
  ⟨some 5, .fad 0 (.t 2), none⟩,
  ⟨some 6, .ld1 (.t 5), none⟩,
  ⟨some 7, .fad 0 (.t 3), none⟩,
  ⟨some 8, .ld1 (.t 7), none⟩,
  ⟨some 9, .bin .neq (.t 6) (.t 8), none⟩]) (
  .cond (.t 9) (
   .seq (
   .ops [
  ⟨some 10, .fad 0 (.t 2), none⟩,
  ⟨some 11, .ld1 (.t 10), none⟩,
  ⟨some 12, .fad 0 (.t 3), none⟩,
  ⟨some 13, .ld1 (.t 12), none⟩,
  ⟨some 14, .bin .sub (.t 11) (.t 13), none⟩,
  ⟨some 4, .mv (.t 14), none⟩]) (
   .ret)) (
   .skip))) (
  .seq (
  .ops [
  ⟨some 15, .fad 1 (.t 2), none⟩,
  ⟨some 16, .ld1 (.t 15), none⟩,
  ⟨some 17, .fad 1 (.t 3), none⟩,
  ⟨some 18, .ld1 (.t 17), none⟩,
  ⟨some 19, .bin .sub (.t 16) (.t 18), none⟩,
  ⟨some 4, .mv (.t 19), none⟩]) (
  .ret))), [.tmp 4]⟩
/-- paravane/paravaneref01.CheckPoint -/
def xq137 : XF := ⟨6, .seq (
  .ops [
  ⟨some 1, .box 30 (.t 0), none⟩,
  ⟨some 2, .mv (.c (.int .i64 0)), none⟩]) (
  .seq (
  .seq (
  .ops [
  ⟨some 3, .ldN 2 (.t 1), none⟩,
  ⟨some 4, .call (.c (.func (.func 138) [] [])) [(.t 3)], none⟩,
  ⟨some 5, .un .not (.t 4), none⟩]) (
  .cond (.t 5) (
   .seq (
   .ops [
  ⟨some 2, .mv (.c (.int .i64 10)), none⟩]) (
   .ret)) (
   .skip))) (
  .seq (
  .ops [
  ⟨some 2, .mv (.c (.int .i64 0)), none⟩]) (
  .ret))), [.tmp 2]⟩
/-- paravane/paravaneref01.place -/
def xq138 : XF := ⟨11, .seq (
  .ops [
  ⟨some 1, .box 30 (.t 0), none⟩,
  ⟨some 2, .mv (.c (.bool false)), none⟩]) (
  .seq (
  .ops [
  ⟨some 3, .fad 0 (.t 1), none⟩,
  ⟨some 4, .ld1 (.t 3), none⟩,
  ⟨some 5, .call (.c (.func (.func 30) [] [])) [(.t 4), (.c (.int .i64 (-32768))), (.c (.int .i64 32768))], none⟩,
  ⟨some 6, .mv (.t 5), none⟩,
  ⟨some 7, .fad 1 (.t 1), some (6, true)⟩,
  ⟨some 8, .ld1 (.t 7), some (6, true)⟩,
  ⟨some 9, .call (.c (.func (.func 30) [] [])) [(.t 8), (.c (.int .i64 (-32768))), (.c (.int .i64 32768))], some (6, true)⟩,
  ⟨some 10, .pick (.t 6) (.t 9) (.c (.bool false)), none⟩,
  ⟨some 2, .mv (.t 10), none⟩]) (
  .ret)), [.tmp 2]⟩
/-- paravane/paravaneref01.turn -/
def xq139 : XF := ⟨30, .seq (
  .ops [
  ⟨some 3, .box 30 (.t 0), none⟩,
  ⟨some 4, .box 30 (.t 1), none⟩,
  ⟨some 5, .box 30 (.t 2), none⟩,
  ⟨some 6, .mv (.c (.int .i64 0)), none⟩]) (
  .seq (
  .ops [
  ⟨some 7, .fad 0 (.t 4), none⟩,
  ⟨some 8, .ld1 (.t 7), none⟩,
  ⟨some 9, .fad 0 (.t 3), none⟩,
  ⟨some 10, .ld1 (.t 9), none⟩,
  ⟨some 11, .bin .sub (.t 8) (.t 10), none⟩,
  ⟨some 12, .fad 1 (.t 5), none⟩,
  ⟨some 13, .ld1 (.t 12), none⟩,
  ⟨some 14, .fad 1 (.t 3), none⟩,
  ⟨some 15, .ld1 (.t 14), none⟩,
  ⟨some 16, .bin .sub (.t 13) (.t 15), none⟩,
  ⟨some 17, .bin .mul (.t 11) (.t 16), none⟩,
  ⟨some 18, .fad 1 (.t 4), none⟩,
  ⟨some 19, .ld1 (.t 18), none⟩,
  ⟨some 20, .fad 1 (.t 3), none⟩,
  ⟨some 21, .ld1 (.t 20), none⟩,
  ⟨some 22, .bin .sub (.t 19) (.t 21), none⟩,
  ⟨some 23, .fad 0 (.t 5), none⟩,
  ⟨some 24, .ld1 (.t 23), none⟩,
  ⟨some 25, .fad 0 (.t 3), none⟩,
  ⟨some 26, .ld1 (.t 25), none⟩,
  ⟨some 27, .bin .sub (.t 24) (.t 26), none⟩,
  ⟨some 28, .bin .mul (.t 22) (.t 27), none⟩,
  ⟨some 29, .bin .sub (.t 17) (.t 28), none⟩,
  ⟨some 6, .mv (.t 29), none⟩]) (
  .ret)), [.tmp 6]⟩
/-- paravane/paravaneref01.ends -/
def xq140 : XF := ⟨23, .seq (
  .ops [
  ⟨some 2, .box 26 (.t 0), none⟩,
  ⟨some 4, .mv (.c (.bool false)), none⟩]) (
  .seq (
  .ops [
  ⟨some 5, .fad 0 (.t 2), none⟩,
  ⟨some 6, .ld1 (.t 5), none⟩,
  ⟨some 7, .mv (.t 1), none⟩,
  ⟨some 8, .un .neg (.t 7), none⟩,
  ⟨some 9, .bin .geq (.t 6) (.t 8), none⟩,
  ⟨some 10, .mv (.t 9), none⟩,
  ⟨some 11, .fad 0 (.t 2), some (10, true)⟩,
  ⟨some 12, .ld1 (.t 11), some (10, true)⟩,
  ⟨some 13, .fad 1 (.t 2), some (10, true)⟩,
  ⟨some 14, .ld1 (.t 13), some (10, true)⟩,
  ⟨some 15, .bin .leq (.t 12) (.t 14), some (10, true)⟩,
  ⟨some 16, .pick (.t 10) (.t 15) (.c (.bool false)), none⟩,
  ⟨some 17, .mv (.t 16), none⟩,
  ⟨some 18, .fad 1 (.t 2), some (17, true)⟩,
  ⟨some 19, .ld1 (.t 18), some (17, true)⟩,
  ⟨some 20, .mv (.t 1), some (17, true)⟩,
  ⟨some 21, .bin .leq (.t 19) (.t 20), some (17, true)⟩,
  ⟨some 22, .pick (.t 17) (.t 21) (.c (.bool false)), none⟩,
  ⟨some 4, .mv (.t 22), none⟩]) (
  .ret)), [.tmp 4]⟩
/-- paravane/paravaneref01.hulls -/
def xq141 : XF := ⟨30, .seq (
  .ops [
  ⟨some 2, .new 28 [(.int .i64 0), (.int .i64 0), (.int .i64 0), (.int .i64 0), (.int .i64 0), (.int .i64 0), (.int .i64 0), (.int .i64 0)], none⟩,
  ⟨some 3, .mv (.c (.int .i64 0)), none⟩]) (
  .seq (
  .ops [
  ⟨some 6, .build [(.int .i64 0), (.int .i64 0), (.int .i64 0), (.int .i64 0), (.int .i64 0), (.int .i64 0), (.int .i64 0), (.int .i64 0), (.bool false)] [], none⟩,
  ⟨some 7, .box 227 (.t 6), none⟩,
  ⟨some 4, .mv (.t 7), none⟩]) (
  .seq (
  .seq (
  .ops [
  ⟨some 5, .mv (.c (.int .i64 0)), none⟩]) (
  .block 0 (
   .loop (
    .seq (
    .seq (
    .ops [
  ⟨some 8, .mv (.t 5), none⟩,
  ⟨some 9, .mv (.t 0), none⟩,
  ⟨some 10, .len .sl (.t 9), none⟩,
  ⟨some 11, .bin .lss (.t 8) (.t 10), none⟩]) (
    .cond (.t 11) (
     .skip) (
     .exit 0))) (
    .seq (
    .block 1 (
     .ops [
  ⟨some 14, .mv (.t 4), none⟩,
  ⟨some 15, .mv (.t 0), none⟩,
  ⟨some 16, .mv (.t 5), none⟩,
  ⟨some 17, .iad none 8 (.t 15) (.t 16), none⟩,
  ⟨some 18, .ldN 8 (.t 17), none⟩,
  ⟨some 19, .call (.c (.func (.func 160) [] [])) [(.t 14), (.t 18)], none⟩])) (
    .ops [
  ⟨some 12, .mv (.t 5), none⟩,
  ⟨some 13, .bin .add (.t 12) (.c (.int .i64 1)), none⟩,
  ⟨some 5, .mv (.t 13), none⟩])))))) (
  .seq (
  .seq (
  .ops [
  ⟨some 20, .mv (.t 4), none⟩,
  ⟨some 21, .nilc (.t 20), none⟩,
  ⟨some 22, .fad 8 (.t 21), none⟩,
  ⟨some 23, .ld1 (.t 22), none⟩,
  ⟨some 24, .un .not (.t 23), none⟩]) (
  .cond (.t 24) (
   .seq (
   .ops [
  ⟨some 25, .build [(.int .i64 0), (.int .i64 0), (.int .i64 0), (.int .i64 0), (.int .i64 0), (.int .i64 0), (.int .i64 0), (.int .i64 0)] [], none⟩,
  ⟨none, .st 8 (.t 2) (.t 25), none⟩,
  ⟨some 3, .mv (.c (.int .i64 4)), none⟩]) (
   .ret)) (
   .skip))) (
  .seq (
  .ops [
  ⟨some 26, .mv (.t 4), none⟩,
  ⟨some 27, .nilc (.t 26), none⟩,
  ⟨some 28, .fad 0 (.t 27), none⟩,
  ⟨some 29, .ldN 8 (.t 28), none⟩,
  ⟨none, .st 8 (.t 2) (.t 29), none⟩,
  ⟨some 3, .mv (.c (.int .i64 0)), none⟩]) (
  .ret))))), [.cellN 2 8, .tmp 3]⟩
/-- paravane/paravaneref01.Swept -/
def xq142 : XF := ⟨36, .seq (
  .ops [
  ⟨some 3, .box 28 (.t 0), none⟩,
  ⟨some 4, .box 30 (.t 1), none⟩,
  ⟨some 5, .box 30 (.t 2), none⟩,
  ⟨some 6, .new 28 [(.int .i64 0), (.int .i64 0), (.int .i64 0), (.int .i64 0), (.int .i64 0), (.int .i64 0), (.int .i64 0), (.int .i64 0)], none⟩,
  ⟨some 7, .mv (.c (.int .i64 0)), none⟩]) (
  .seq (
  .ops [
  ⟨some 12, .ldN 8 (.t 3), none⟩,
  ⟨some 13, .ldN 2 (.t 4), none⟩,
  ⟨some 14, .call (.c (.func (.func 161) [] [])) [(.t 12), (.t 13)], none⟩,
  ⟨some 11, .mv (.t 14), none⟩,
  ⟨some 15, .ext 0 (.t 11), none⟩,
  ⟨some 16, .ext 1 (.t 11), none⟩,
  ⟨some 8, .new 28 [(.int .i64 0), (.int .i64 0), (.int .i64 0), (.int .i64 0), (.int .i64 0), (.int .i64 0), (.int .i64 0), (.int .i64 0)], none⟩,
  ⟨none, .st 8 (.t 8) (.t 15), none⟩,
  ⟨some 9, .mv (.t 16), none⟩]) (
  .seq (
  .seq (
  .ops [
  ⟨some 17, .mv (.t 9), none⟩,
  ⟨some 18, .bin .neq (.t 17) (.c (.int .i64 0)), none⟩]) (
  .cond (.t 18) (
   .seq (
   .ops [
  ⟨some 19, .build [(.int .i64 0), (.int .i64 0), (.int .i64 0), (.int .i64 0), (.int .i64 0), (.int .i64 0), (.int .i64 0), (.int .i64 0)] [], none⟩,
  ⟨some 20, .mv (.t 9), none⟩,
  ⟨none, .st 8 (.t 6) (.t 19), none⟩,
  ⟨some 7, .mv (.t 20), none⟩]) (
   .ret)) (
   .skip))) (
  .seq (
  .ops [
  ⟨some 22, .ldN 8 (.t 3), none⟩,
  ⟨some 23, .ldN 2 (.t 5), none⟩,
  ⟨some 24, .call (.c (.func (.func 161) [] [])) [(.t 22), (.t 23)], none⟩,
  ⟨some 21, .mv (.t 24), none⟩,
  ⟨some 25, .ext 0 (.t 21), none⟩,
  ⟨some 26, .ext 1 (.t 21), none⟩,
  ⟨some 10, .new 28 [(.int .i64 0), (.int .i64 0), (.int .i64 0), (.int .i64 0), (.int .i64 0), (.int .i64 0), (.int .i64 0), (.int .i64 0)], none⟩,
  ⟨none, .st 8 (.t 10) (.t 25), none⟩,
  ⟨some 9, .mv (.t 26), none⟩]) (
  .seq (
  .seq (
  .ops [
  ⟨some 27, .mv (.t 9), none⟩,
  ⟨some 28, .bin .neq (.t 27) (.c (.int .i64 0)), none⟩]) (
  .cond (.t 28) (
   .seq (
   .ops [
  ⟨some 29, .build [(.int .i64 0), (.int .i64 0), (.int .i64 0), (.int .i64 0), (.int .i64 0), (.int .i64 0), (.int .i64 0), (.int .i64 0)] [], none⟩,
  ⟨some 30, .mv (.t 9), none⟩,
  ⟨none, .st 8 (.t 6) (.t 29), none⟩,
  ⟨some 7, .mv (.t 30), none⟩]) (
   .ret)) (
   .skip))) (
  .seq (
  .ops [
  ⟨some 31, .ldN 8 (.t 8), none⟩,
  ⟨some 32, .ldN 8 (.t 10), none⟩,
  ⟨some 33, .call (.c (.func (.func 162) [] [])) [(.t 31), (.t 32)], none⟩,
  ⟨some 34, .ext 0 (.t 33), none⟩,
  ⟨some 35, .ext 1 (.t 33), none⟩,
  ⟨none, .st 8 (.t 6) (.t 34), none⟩,
  ⟨some 7, .mv (.t 35), none⟩]) (
  .ret)))))), [.cellN 6 8, .tmp 7]⟩
/-- paravane/paravaneref01.Hits -/
def xq143 : XF := ⟨60, .seq (
  .ops [
  ⟨some 3, .box 28 (.t 1), none⟩,
  ⟨some 4, .new 30 [(.int .i64 0), (.int .i64 0)], none⟩,
  ⟨some 5, .mv (.c (.int .i64 0)), none⟩]) (
  .seq (
  .seq (
  .ops [
  ⟨some 10, .mv (.t 0), none⟩,
  ⟨some 11, .ldN 8 (.t 3), none⟩,
  ⟨some 12, .call (.c (.func (.func 163) [] [])) [(.t 10), (.t 11)], none⟩,
  ⟨some 6, .mv (.t 12), none⟩]) (
  .seq (
  .ops [
  ⟨some 13, .mv (.t 6), none⟩,
  ⟨some 14, .bin .neq (.t 13) (.c (.int .i64 0)), none⟩]) (
  .cond (.t 14) (
   .seq (
   .ops [
  ⟨some 15, .build [(.int .i64 0), (.int .i64 0)] [], none⟩,
  ⟨some 16, .mv (.t 6), none⟩,
  ⟨none, .st 2 (.t 4) (.t 15), none⟩,
  ⟨some 5, .mv (.t 16), none⟩]) (
   .ret)) (
   .skip)))) (
  .seq (
  .seq (
  .ops [
  ⟨some 17, .fad 0 (.t 3), none⟩,
  ⟨some 18, .fad 0 (.t 17), none⟩,
  ⟨some 19, .ld1 (.t 18), none⟩,
  ⟨some 7, .mv (.t 19), none⟩]) (
  .block 0 (
   .loop (
    .seq (
    .seq (
    .ops [
  ⟨some 20, .mv (.t 7), none⟩,
  ⟨some 21, .fad 0 (.t 3), none⟩,
  ⟨some 22, .fad 1 (.t 21), none⟩,
  ⟨some 23, .ld1 (.t 22), none⟩,
  ⟨some 24, .bin .leq (.t 20) (.t 23), none⟩]) (
    .cond (.t 24) (
     .skip) (
     .exit 0))) (
    .seq (
    .block 1 (
     .seq (
     .ops [
  ⟨some 27, .ldN 8 (.t 3), none⟩,
  ⟨some 28, .mv (.t 7), none⟩,
  ⟨some 29, .call (.c (.func (.func 164) [] [])) [(.t 27), (.t 28)], none⟩,
  ⟨some 8, .new 231 [(.int .i64 0), (.int .i64 0), (.int .i64 0)], none⟩,
  ⟨none, .st 3 (.t 8) (.t 29), none⟩]) (
     .seq (
     .seq (
     .ops [
  ⟨some 9, .mv (.c (.int .i64 0)), none⟩]) (
     .block 2 (
      .loop (
       .seq (
       .seq (
       .ops [
  ⟨some 30, .mv (.t 9), none⟩,
  ⟨some 31, .mv (.t 0), none⟩,
  ⟨some 32, .len .sl (.t 31), none⟩,
  ⟨some 33, .bin .lss (.t 30) (.t 32), none⟩]) (
       .cond (.t 33) (
        .skip) (
        .exit 2))) (
       .seq (
       .block 3 (
        .draw [
  (⟨some 36, .ldN 3 (.t 8), none⟩, .reads 0 0),
  (⟨some 37, .mv (.t 0), none⟩, .calm),
  (⟨some 38, .mv (.t 9), none⟩, .calm),
  (⟨some 39, .iad none 2 (.t 37) (.t 38), none⟩, .calm),
  (⟨some 40, .ldN 2 (.t 39), none⟩, .reads 0 0),
  (⟨some 41, .mv (.t 0), none⟩, .calm),
  (⟨some 42, .mv (.t 9), none⟩, .calm),
  (⟨some 43, .bin .add (.t 42) (.c (.int .i64 1)), none⟩, .calm),
  (⟨some 44, .mv (.t 0), none⟩, .calm),
  (⟨some 45, .len .sl (.t 44), none⟩, .calm),
  (⟨some 46, .bin .rem (.t 43) (.t 45), none⟩, .calm),
  (⟨some 47, .iad none 2 (.t 41) (.t 46), none⟩, .calm),
  (⟨some 48, .ldN 2 (.t 47), none⟩, .reads 0 0),
  (⟨some 49, .call (.c (.func (.func 165) [] [])) [(.t 36), (.t 40), (.t 48)], none⟩, .anchor),
          (⟨none, .st 3 (.t 8) (.t 49), none⟩, .anchor)])) (
       .ops [
  ⟨some 34, .mv (.t 9), none⟩,
  ⟨some 35, .bin .add (.t 34) (.c (.int .i64 1)), none⟩,
  ⟨some 9, .mv (.t 35), none⟩])))))) (
     .seq (
     .ops [
  ⟨some 50, .fad 1 (.t 8), none⟩,
  ⟨some 51, .ld1 (.t 50), none⟩,
  ⟨some 52, .fad 2 (.t 8), none⟩,
  ⟨some 53, .ld1 (.t 52), none⟩,
  ⟨some 54, .bin .leq (.t 51) (.t 53), none⟩]) (
     .cond (.t 54) (
      .seq (
      .ops [
  ⟨some 55, .mv (.t 7), none⟩,
  ⟨some 56, .fad 1 (.t 8), none⟩,
  ⟨some 57, .ld1 (.t 56), none⟩,
  ⟨some 58, .build [(.int .i64 0), (.int .i64 0)] [(0, 1, (.t 55)), (1, 1, (.t 57))], none⟩,
  ⟨none, .st 2 (.t 4) (.t 58), none⟩,
  ⟨some 5, .mv (.c (.int .i64 0)), none⟩]) (
      .ret)) (
      .skip)))))) (
    .ops [
  ⟨some 25, .mv (.t 7), none⟩,
  ⟨some 26, .bin .add (.t 25) (.c (.int .i64 1)), none⟩,
  ⟨some 7, .mv (.t 26), none⟩])))))) (
  .seq (
  .ops [
  ⟨some 59, .build [(.int .i64 0), (.int .i64 0)] [], none⟩,
  ⟨none, .st 2 (.t 4) (.t 59), none⟩,
  ⟨some 5, .mv (.c (.int .i64 4)), none⟩]) (
  .ret)))), [.cellN 4 2, .tmp 5]⟩
/-- paravane/paravaneref04.before -/
def xq144 : XF := ⟨58, .seq (
  .ops [
  ⟨some 4, .mv (.c (.bool false)), none⟩]) (
  .seq (
  .seq (
  .ops [
  ⟨some 5, .mv (.c (.int .i64 0)), none⟩]) (
  .block 0 (
   .loop (
    .seq (
    .seq (
    .ops [
  ⟨some 6, .mv (.t 5), none⟩,
  ⟨some 7, .mv (.t 0), none⟩,
  ⟨some 8, .len .sl (.t 7), none⟩,
  ⟨some 9, .bin .lss (.t 6) (.t 8), none⟩]) (
    .cond (.t 9) (
     .skip) (
     .exit 0))) (
    .seq (
    .block 1 (
     .seq (
     .draw [
  (⟨some 12, .mv (.t 0), none⟩, .calm),
  (⟨some 13, .mv (.t 5), none⟩, .calm),
  (⟨some 14, .iad none 2 (.t 12) (.t 13), none⟩, .calm),
  (⟨some 15, .ldN 2 (.t 14), none⟩, .reads 0 0),
  (⟨some 16, .mv (.t 1), none⟩, .calm),
  (⟨some 17, .mv (.t 5), none⟩, .calm),
  (⟨some 18, .iad none 2 (.t 16) (.t 17), none⟩, .calm),
  (⟨some 19, .ldN 2 (.t 18), none⟩, .reads 0 0),
  (⟨some 20, .eqs true 2 [0, 1] (.t 15) (.t 19), none⟩, .calm)]) (
     .cond (.t 20) (
      .seq (
      .draw [
  (⟨some 21, .mv (.t 0), none⟩, .calm),
  (⟨some 22, .mv (.t 5), none⟩, .calm),
  (⟨some 23, .iad none 2 (.t 21) (.t 22), none⟩, .calm),
  (⟨some 24, .fad 0 (.t 23), none⟩, .calm),
  (⟨some 25, .ld1 (.t 24), none⟩, .reads 0 0),
  (⟨some 26, .mv (.t 1), none⟩, .calm),
  (⟨some 27, .mv (.t 5), none⟩, .calm),
  (⟨some 28, .iad none 2 (.t 26) (.t 27), none⟩, .calm),
  (⟨some 29, .fad 0 (.t 28), none⟩, .calm),
  (⟨some 30, .ld1 (.t 29), none⟩, .reads 0 0),
  (⟨some 31, .bin .lss (.t 25) (.t 30), none⟩, .calm),
  (⟨some 32, .mv (.t 31), none⟩, .calm),
  (⟨some 33, .mv (.t 0), some (32, false)⟩, .calm),
  (⟨some 34, .mv (.t 5), some (32, false)⟩, .calm),
  (⟨some 35, .iad none 2 (.t 33) (.t 34), some (32, false)⟩, .calm),
  (⟨some 36, .fad 0 (.t 35), some (32, false)⟩, .calm),
  (⟨some 37, .ld1 (.t 36), some (32, false)⟩, .reads 0 0),
  (⟨some 38, .mv (.t 1), some (32, false)⟩, .calm),
  (⟨some 39, .mv (.t 5), some (32, false)⟩, .calm),
  (⟨some 40, .iad none 2 (.t 38) (.t 39), some (32, false)⟩, .calm),
  (⟨some 41, .fad 0 (.t 40), some (32, false)⟩, .calm),
  (⟨some 42, .ld1 (.t 41), some (32, false)⟩, .reads 0 0),
  (⟨some 43, .bin .eql (.t 37) (.t 42), some (32, false)⟩, .calm),
  (⟨some 44, .mv (.t 43), some (32, false)⟩, .calm),
  (⟨some 45, .mv (.t 0), some (44, true)⟩, .calm),
  (⟨some 46, .mv (.t 5), some (44, true)⟩, .calm),
  (⟨some 47, .iad none 2 (.t 45) (.t 46), some (44, true)⟩, .calm),
  (⟨some 48, .fad 1 (.t 47), some (44, true)⟩, .calm),
  (⟨some 49, .ld1 (.t 48), some (44, true)⟩, .reads 0 0),
  (⟨some 50, .mv (.t 1), some (44, true)⟩, .calm),
  (⟨some 51, .mv (.t 5), some (44, true)⟩, .calm),
  (⟨some 52, .iad none 2 (.t 50) (.t 51), some (44, true)⟩, .calm),
  (⟨some 53, .fad 1 (.t 52), some (44, true)⟩, .calm),
  (⟨some 54, .ld1 (.t 53), some (44, true)⟩, .reads 0 0),
  (⟨some 55, .bin .lss (.t 49) (.t 54), some (44, true)⟩, .calm),
  (⟨some 56, .pick (.t 44) (.t 55) (.c (.bool false)), some (32, false)⟩, .calm),
  (⟨some 57, .pick (.t 32) (.c (.bool true)) (.t 56), none⟩, .calm),
  (⟨some 4, .mv (.t 57), none⟩, .calm)]) (
      .ret)) (
      .skip)))) (
    .ops [
  ⟨some 10, .mv (.t 5), none⟩,
  ⟨some 11, .bin .add (.t 10) (.c (.int .i64 1)), none⟩,
  ⟨some 5, .mv (.t 11), none⟩])))))) (
  .seq (
  .ops [
  ⟨some 4, .mv (.c (.bool false)), none⟩]) (
  .ret))), [.tmp 4]⟩
/-- paravane/paravaneref00.Down -/
def xq145 : XF := ⟨23, .seq (
  .ops [
  ⟨some 4, .mv (.c (.int .i64 0)), none⟩]) (
  .seq (
  .ops [
  ⟨some 6, .mv (.t 0), none⟩,
  ⟨some 7, .mv (.t 1), none⟩,
  ⟨some 8, .bin .quo (.t 6) (.t 7), none⟩,
  ⟨some 5, .mv (.t 8), none⟩]) (
  .seq (
  .seq (
  .ops [
  ⟨some 9, .mv (.t 0), none⟩,
  ⟨some 10, .mv (.t 1), none⟩,
  ⟨some 11, .bin .rem (.t 9) (.t 10), none⟩,
  ⟨some 12, .bin .neq (.t 11) (.c (.int .i64 0)), none⟩,
  ⟨some 13, .mv (.t 12), none⟩,
  ⟨some 14, .mv (.t 0), some (13, true)⟩,
  ⟨some 15, .bin .lss (.t 14) (.c (.int .i64 0)), some (13, true)⟩,
  ⟨some 16, .mv (.t 1), some (13, true)⟩,
  ⟨some 17, .bin .lss (.t 16) (.c (.int .i64 0)), some (13, true)⟩,
  ⟨some 18, .eqg true 4 (.t 15) (.t 17), some (13, true)⟩,
  ⟨some 19, .pick (.t 13) (.t 18) (.c (.bool false)), none⟩]) (
  .cond (.t 19) (
   .ops [
  ⟨some 20, .mv (.t 5), none⟩,
  ⟨some 21, .bin .sub (.t 20) (.c (.int .i64 1)), none⟩,
  ⟨some 5, .mv (.t 21), none⟩]) (
   .skip))) (
  .seq (
  .ops [
  ⟨some 22, .mv (.t 5), none⟩,
  ⟨some 4, .mv (.t 22), none⟩]) (
  .ret)))), [.tmp 4]⟩
/-- paravane/region.root -/
def xq147 : XF := ⟨22, .seq (
  .ops [
  ⟨some 2, .mv (.c (.int .i64 0)), none⟩]) (
  .seq (
  .ops [
  ⟨some 3, .mv (.c (.int .i64 0)), none⟩]) (
  .seq (
  .seq (
  .ops [
  ⟨some 4, .mv (.c (.int .i64 1048576)), none⟩]) (
  .block 0 (
   .loop (
    .seq (
    .seq (
    .ops [
  ⟨some 5, .mv (.t 4), none⟩,
  ⟨some 6, .bin .gtr (.t 5) (.c (.int .i64 0)), none⟩]) (
    .cond (.t 6) (
     .skip) (
     .exit 0))) (
    .seq (
    .block 1 (
     .seq (
     .ops [
  ⟨some 9, .mv (.t 3), none⟩,
  ⟨some 10, .mv (.t 4), none⟩,
  ⟨some 11, .bin .add (.t 9) (.t 10), none⟩,
  ⟨some 12, .mv (.t 3), none⟩,
  ⟨some 13, .mv (.t 4), none⟩,
  ⟨some 14, .bin .add (.t 12) (.t 13), none⟩,
  ⟨some 15, .bin .mul (.t 11) (.t 14), none⟩,
  ⟨some 16, .mv (.t 0), none⟩,
  ⟨some 17, .bin .leq (.t 15) (.t 16), none⟩]) (
     .cond (.t 17) (
      .ops [
  ⟨some 18, .mv (.t 3), none⟩,
  ⟨some 19, .mv (.t 4), none⟩,
  ⟨some 20, .bin .add (.t 18) (.t 19), none⟩,
  ⟨some 3, .mv (.t 20), none⟩]) (
      .skip)))) (
    .ops [
  ⟨some 7, .mv (.t 4), none⟩,
  ⟨some 8, .bin .quo (.t 7) (.c (.int .i64 2)), none⟩,
  ⟨some 4, .mv (.t 8), none⟩])))))) (
  .seq (
  .ops [
  ⟨some 21, .mv (.t 3), none⟩,
  ⟨some 2, .mv (.t 21), none⟩]) (
  .ret)))), [.tmp 2]⟩
/-- paravane/region.Move -/
def xq148 : XF := ⟨47, .seq (
  .ops [
  ⟨some 2, .box 28 (.t 0), none⟩,
  ⟨some 3, .box 30 (.t 1), none⟩,
  ⟨some 4, .new 28 [(.int .i64 0), (.int .i64 0), (.int .i64 0), (.int .i64 0), (.int .i64 0), (.int .i64 0), (.int .i64 0), (.int .i64 0)], none⟩,
  ⟨some 5, .mv (.c (.int .i64 0)), none⟩]) (
  .seq (
  .seq (
  .ops [
  ⟨some 9, .ldN 8 (.t 2), none⟩,
  ⟨some 10, .call (.c (.func (.func 86) [] [])) [(.t 9)], none⟩,
  ⟨some 6, .mv (.t 10), none⟩]) (
  .seq (
  .ops [
  ⟨some 11, .mv (.t 6), none⟩,
  ⟨some 12, .bin .neq (.t 11) (.c (.int .i64 0)), none⟩]) (
  .cond (.t 12) (
   .seq (
   .ops [
  ⟨some 13, .build [(.int .i64 0), (.int .i64 0), (.int .i64 0), (.int .i64 0), (.int .i64 0), (.int .i64 0), (.int .i64 0), (.int .i64 0)] [], none⟩,
  ⟨some 14, .mv (.t 6), none⟩,
  ⟨none, .st 8 (.t 4) (.t 13), none⟩,
  ⟨some 5, .mv (.t 14), none⟩]) (
   .ret)) (
   .skip)))) (
  .seq (
  .seq (
  .draw [
  (⟨some 15, .fad 0 (.t 3), none⟩, .calm),
  (⟨some 16, .ld1 (.t 15), none⟩, .reads 0 0),
  (⟨some 17, .call (.c (.func (.func 125) [] [])) [(.c (.int .i64 65536)), (.t 16)], none⟩, .new),
  (⟨some 18, .fad 0 (.t 3), none⟩, .calm),
  (⟨some 19, .ld1 (.t 18), none⟩, .reads 0 0),
  (⟨some 20, .bin .neq (.t 17) (.t 19), none⟩, .calm),
  (⟨some 21, .mv (.t 20), none⟩, .calm),
  (⟨some 22, .fad 1 (.t 3), some (21, false)⟩, .calm),
  (⟨some 23, .ld1 (.t 22), some (21, false)⟩, .reads 0 0),
  (⟨some 24, .call (.c (.func (.func 125) [] [])) [(.c (.int .i64 65536)), (.t 23)], some (21, false)⟩, .new),
  (⟨some 25, .fad 1 (.t 3), some (21, false)⟩, .calm),
  (⟨some 26, .ld1 (.t 25), some (21, false)⟩, .reads 0 0),
  (⟨some 27, .bin .neq (.t 24) (.t 26), some (21, false)⟩, .calm),
  (⟨some 28, .pick (.t 21) (.c (.bool true)) (.t 27), none⟩, .calm)]) (
  .cond (.t 28) (
   .seq (
   .ops [
  ⟨some 29, .build [(.int .i64 0), (.int .i64 0), (.int .i64 0), (.int .i64 0), (.int .i64 0), (.int .i64 0), (.int .i64 0), (.int .i64 0)] [], none⟩,
  ⟨none, .st 8 (.t 4) (.t 29), none⟩,
  ⟨some 5, .mv (.c (.int .i64 7)), none⟩]) (
   .ret)) (
   .skip))) (
  .seq (
  .ops [
  ⟨some 31, .ldN 8 (.t 2), none⟩,
  ⟨some 32, .call (.c (.func (.func 88) [] [])) [(.t 31)], none⟩,
  ⟨some 33, .call (.c (.func (.func 166) [] [])) [(.t 32)], none⟩,
  ⟨some 30, .mv (.t 33), none⟩,
  ⟨some 34, .ext 0 (.t 30), none⟩,
  ⟨some 35, .ext 1 (.t 30), none⟩,
  ⟨some 7, .new 163 [(.int .i64 0), (.int .i64 0), (.int .i64 0), (.int .i64 0), (.int .i64 0), (.int .i64 0), (.int .i64 0), (.int .i64 0)], none⟩,
  ⟨none, .st 8 (.t 7) (.t 34), none⟩,
  ⟨some 8, .mv (.t 35), none⟩]) (
  .seq (
  .seq (
  .ops [
  ⟨some 36, .mv (.t 8), none⟩,
  ⟨some 37, .bin .neq (.t 36) (.c (.int .i64 0)), none⟩]) (
  .cond (.t 37) (
   .seq (
   .ops [
  ⟨some 38, .build [(.int .i64 0), (.int .i64 0), (.int .i64 0), (.int .i64 0), (.int .i64 0), (.int .i64 0), (.int .i64 0), (.int .i64 0)] [], none⟩,
  ⟨some 39, .mv (.t 8), none⟩,
  ⟨none, .st 8 (.t 4) (.t 38), none⟩,
  ⟨some 5, .mv (.t 39), none⟩]) (
   .ret)) (
   .skip))) (
  .seq (
  .draw [
  (⟨some 40, .ldN 8 (.t 7), none⟩, .reads 0 1),
  (⟨some 41, .ldN 2 (.t 3), none⟩, .reads 0 0),
  (⟨some 42, .call (.c (.func (.func 90) [] [])) [(.t 41)], none⟩, .anchor),
  (⟨some 43, .call (.c (.func (.func 89) [] [])) [(.t 40), (.t 42), (.c (.func (.func 168) [] []))], none⟩, .anchor),
  (⟨some 44, .call (.c (.func (.func 167) [] [])) [(.t 43)], none⟩, .anchor),
  (⟨some 45, .ext 0 (.t 44), none⟩, .calm),
  (⟨some 46, .ext 1 (.t 44), none⟩, .calm),
    (⟨none, .st 8 (.t 4) (.t 45), none⟩, .anchor),
  (⟨some 5, .mv (.t 46), none⟩, .calm)]) (
  .ret)))))), [.cellN 4 8, .tmp 5]⟩
/-- paravane/region.Join -/
def xq149 : XF := ⟨35, .seq (
  .ops [
  ⟨some 2, .box 28 (.t 0), none⟩,
  ⟨some 3, .box 28 (.t 1), none⟩,
  ⟨some 4, .new 28 [(.int .i64 0), (.int .i64 0), (.int .i64 0), (.int .i64 0), (.int .i64 0), (.int .i64 0), (.int .i64 0), (.int .i64 0)], none⟩,
  ⟨some 5, .mv (.c (.int .i64 0)), none⟩]) (
  .seq (
  .seq (
  .draw [
  (⟨some 9, .ldN 8 (.t 2), none⟩, .reads 0 0),
  (⟨some 10, .call (.c (.func (.func 86) [] [])) [(.t 9)], none⟩, .anchor),
  (⟨some 11, .ldN 8 (.t 3), none⟩, .reads 0 1),
  (⟨some 12, .call (.c (.func (.func 86) [] [])) [(.t 11)], none⟩, .anchor),
  (⟨some 13, .bsl 36 1 2 [(.int .i64 0)] [(0, 1, (.t 10)), (1, 1, (.t 12))], none⟩, .new),
  (⟨some 14, .call (.c (.func (.func 85) [] [])) [(.t 13)], none⟩, .anchor),
  (⟨some 6, .mv (.t 14), none⟩, .calm)]) (
  .seq (
  .ops [
  ⟨some 15, .mv (.t 6), none⟩,
  ⟨some 16, .bin .neq (.t 15) (.c (.int .i64 0)), none⟩]) (
  .cond (.t 16) (
   .seq (
   .ops [
  ⟨some 17, .build [(.int .i64 0), (.int .i64 0), (.int .i64 0), (.int .i64 0), (.int .i64 0), (.int .i64 0), (.int .i64 0), (.int .i64 0)] [], none⟩,
  ⟨some 18, .mv (.t 6), none⟩,
  ⟨none, .st 8 (.t 4) (.t 17), none⟩,
  ⟨some 5, .mv (.t 18), none⟩]) (
   .ret)) (
   .skip)))) (
  .seq (
  .draw [
  (⟨some 20, .ldN 8 (.t 2), none⟩, .reads 0 0),
  (⟨some 21, .call (.c (.func (.func 88) [] [])) [(.t 20)], none⟩, .anchor),
  (⟨some 22, .call (.c (.func (.func 170) [] [])) [(.t 21)], none⟩, .anchor),
  (⟨some 23, .ldN 8 (.t 3), none⟩, .reads 0 2),
  (⟨some 24, .call (.c (.func (.func 88) [] [])) [(.t 23)], none⟩, .anchor),
  (⟨some 25, .call (.c (.func (.func 170) [] [])) [(.t 24)], none⟩, .anchor),
  (⟨some 26, .bsl 239 1 2 [.nilFunc] [(0, 1, (.t 22)), (1, 1, (.t 25))], none⟩, .new),
  (⟨some 27, .call (.c (.func (.func 169) [] [])) [(.t 26)], none⟩, .anchor),
  (⟨some 19, .mv (.t 27), none⟩, .calm),
  (⟨some 28, .ext 0 (.t 19), none⟩, .calm),
  (⟨some 29, .ext 1 (.t 19), none⟩, .calm),
  (⟨some 7, .new 163 [(.int .i64 0), (.int .i64 0), (.int .i64 0), (.int .i64 0), (.int .i64 0), (.int .i64 0), (.int .i64 0), (.int .i64 0)], none⟩, .new),
    (⟨none, .st 8 (.t 7) (.t 28), none⟩, .anchor),
  (⟨some 8, .mv (.t 29), none⟩, .calm)]) (
  .seq (
  .seq (
  .ops [
  ⟨some 30, .mv (.t 8), none⟩,
  ⟨some 31, .un .not (.t 30), none⟩]) (
  .cond (.t 31) (
   .seq (
   .ops [
  ⟨some 32, .build [(.int .i64 0), (.int .i64 0), (.int .i64 0), (.int .i64 0), (.int .i64 0), (.int .i64 0), (.int .i64 0), (.int .i64 0)] [], none⟩,
  ⟨none, .st 8 (.t 4) (.t 32), none⟩,
  ⟨some 5, .mv (.c (.int .i64 4)), none⟩]) (
   .ret)) (
   .skip))) (
  .seq (
  .ops [
  ⟨some 33, .ldN 8 (.t 7), none⟩,
  ⟨some 34, .call (.c (.func (.func 171) [] [])) [(.t 33)], none⟩,
  ⟨none, .st 8 (.t 4) (.t 34), none⟩,
  ⟨some 5, .mv (.c (.int .i64 0)), none⟩]) (
  .ret))))), [.cellN 4 8, .tmp 5]⟩
/-- slices.IndexFunc[[][]paravane/api.Point,[]paravane/api.Point] -/
def xq150 : XF := ⟨19, .seq (
  .ops [
  ⟨some 4, .mv (.c (.int .i64 0)), none⟩]) (
  .seq (
  .seq (
  .ops [
  ⟨some 6, .mv (.t 0), none⟩,
  ⟨some 7, .len .sl (.t 6), none⟩,
  ⟨some 8, .mv (.c (.int .i64 0)), none⟩]) (
  .block 0 (
   .loop (
    .seq (
    .ops [
  ⟨some 9, .bin .lss (.t 8) (.t 7), none⟩]) (
    .seq (
    .cond (.t 9) (
     .skip) (
     .exit 0)) (
    .seq (
    .block 1 (
     .seq (
     .ops [
  ⟨some 10, .mv (.t 8), none⟩,
  ⟨some 5, .mv (.t 10), none⟩]) (
     .seq (
     .ops [
  ⟨some 11, .mv (.t 1), none⟩,
  ⟨some 12, .mv (.t 0), none⟩,
  ⟨some 13, .mv (.t 5), none⟩,
  ⟨some 14, .iad none 1 (.t 12) (.t 13), none⟩,
  ⟨some 15, .ld1 (.t 14), none⟩,
  ⟨some 16, .call (.t 11) [(.t 15)], none⟩]) (
     .cond (.t 16) (
      .seq (
      .ops [
  ⟨some 17, .mv (.t 5), none⟩,
  ⟨some 4, .mv (.t 17), none⟩]) (
      .ret)) (
      .skip))))) (
    .ops [
  ⟨some 18, .bin .add (.t 8) (.c (.int .i64 1)), none⟩,
  ⟨some 8, .mv (.t 18), none⟩]))))))) (
  .seq (
  .ops [
  ⟨some 4, .mv (.c (.int .i64 (-1))), none⟩]) (
  .ret))), [.tmp 4]⟩
/-- (paravane/region.four).rows -/
def xq151 : XF := ⟨4, .seq (
  .ops [
  ⟨some 1, .box 163 (.t 0), none⟩,
  ⟨some 2, .mv (.c .nilFunc), none⟩]) (
  .seq (
  .ops [
  ⟨some 3, .mkf 172 [] [(.t 1)], none⟩,
  ⟨some 2, .mv (.t 3), none⟩]) (
  .ret)), [.tmp 2]⟩
/-- paravane/region.up -/
def xq152 : XF := ⟨10, .seq (
  .ops [
  ⟨some 4, .mv (.c (.int .i64 0)), none⟩]) (
  .seq (
  .ops [
  ⟨some 5, .mv (.t 0), none⟩,
  ⟨some 6, .un .neg (.t 5), none⟩,
  ⟨some 7, .mv (.t 1), none⟩,
  ⟨some 8, .call (.c (.func (.func 153) [] [])) [(.t 6), (.t 7)], none⟩,
  ⟨some 9, .un .neg (.t 8), none⟩,
  ⟨some 4, .mv (.t 9), none⟩]) (
  .ret)), [.tmp 4]⟩
/-- paravane/region.down -/
def xq153 : XF := ⟨16, .seq (
  .ops [
  ⟨some 4, .mv (.c (.int .i64 0)), none⟩]) (
  .seq (
  .ops [
  ⟨some 6, .mv (.t 0), none⟩,
  ⟨some 7, .mv (.t 1), none⟩,
  ⟨some 8, .bin .quo (.t 6) (.t 7), none⟩,
  ⟨some 5, .mv (.t 8), none⟩]) (
  .seq (
  .seq (
  .ops [
  ⟨some 9, .mv (.t 0), none⟩,
  ⟨some 10, .mv (.t 1), none⟩,
  ⟨some 11, .bin .rem (.t 9) (.t 10), none⟩,
  ⟨some 12, .bin .lss (.t 11) (.c (.int .i64 0)), none⟩]) (
  .cond (.t 12) (
   .ops [
  ⟨some 13, .mv (.t 5), none⟩,
  ⟨some 14, .bin .sub (.t 13) (.c (.int .i64 1)), none⟩,
  ⟨some 5, .mv (.t 14), none⟩]) (
   .skip))) (
  .seq (
  .ops [
  ⟨some 15, .mv (.t 5), none⟩,
  ⟨some 4, .mv (.t 15), none⟩]) (
  .ret)))), [.tmp 4]⟩
/-- paravane/region.sides$1 -/
def xq154 : XF := ⟨25, .seq (
  .ops [
  ⟨some 5, .ld1 (.t 1), none⟩,
  ⟨some 6, .len .sl (.t 5), none⟩,
  ⟨some 7, .mv (.c (.int .i64 0)), none⟩]) (
  .block 0 (
   .loop (
    .seq (
    .ops [
  ⟨some 8, .bin .lss (.t 7) (.t 6), none⟩]) (
    .seq (
    .cond (.t 8) (
     .skip) (
     .exit 0)) (
    .seq (
    .block 1 (
     .seq (
     .ops [
  ⟨some 9, .mv (.t 7), none⟩,
  ⟨some 10, .iad none 2 (.t 5) (.t 7), none⟩,
  ⟨some 11, .ldN 2 (.t 10), none⟩,
  ⟨some 4, .new 30 [(.int .i64 0), (.int .i64 0)], none⟩,
  ⟨some 3, .mv (.t 9), none⟩,
  ⟨none, .st 2 (.t 4) (.t 11), none⟩]) (
     .seq (
     .draw [
  (⟨some 12, .mv (.t 0), none⟩, .calm),
  (⟨some 13, .ldN 2 (.t 4), none⟩, .reads 0 0),
  (⟨some 14, .ld1 (.t 1), none⟩, .reads 0 0),
  (⟨some 15, .mv (.t 3), none⟩, .calm),
  (⟨some 16, .bin .add (.t 15) (.c (.int .i64 1)), none⟩, .calm),
  (⟨some 17, .ld1 (.t 1), none⟩, .reads 0 0),
  (⟨some 18, .len .sl (.t 17), none⟩, .calm),
  (⟨some 19, .bin .rem (.t 16) (.t 18), none⟩, .calm),
  (⟨some 20, .iad none 2 (.t 14) (.t 19), none⟩, .calm),
  (⟨some 21, .ldN 2 (.t 20), none⟩, .reads 0 0),
  (⟨some 22, .call (.t 12) [(.t 13), (.t 21)], none⟩, .anchor),
  (⟨some 23, .un .not (.t 22), none⟩, .calm)]) (
     .cond (.t 23) (
      .ret) (
      .skip))))) (
    .ops [
  ⟨some 24, .bin .add (.t 7) (.c (.int .i64 1)), none⟩,
  ⟨some 7, .mv (.t 24), none⟩])))))), []⟩
/-- paravane/course.windows -/
def xq155 : XF := ⟨42, .seq (
  .ops [
  ⟨some 2, .mv (.c (.bool false)), none⟩]) (
  .seq (
  .seq (
  .ops [
  ⟨some 5, .mv (.t 0), none⟩,
  ⟨some 6, .len .sl (.t 5), none⟩,
  ⟨some 7, .mv (.c (.int .i64 0)), none⟩]) (
  .block 0 (
   .loop (
    .seq (
    .ops [
  ⟨some 8, .bin .lss (.t 7) (.t 6), none⟩]) (
    .seq (
    .cond (.t 8) (
     .skip) (
     .exit 0)) (
    .seq (
    .block 1 (
     .seq (
     .ops [
  ⟨some 9, .mv (.t 7), none⟩,
  ⟨some 10, .iad none 2 (.t 5) (.t 7), none⟩,
  ⟨some 11, .ldN 2 (.t 10), none⟩,
  ⟨some 4, .new 26 [(.int .i64 0), (.int .i64 0)], none⟩,
  ⟨some 3, .mv (.t 9), none⟩,
  ⟨none, .st 2 (.t 4) (.t 11), none⟩]) (
     .seq (
     .draw [
  (⟨some 12, .fad 0 (.t 4), none⟩, .calm),
  (⟨some 13, .ld1 (.t 12), none⟩, .reads 0 0),
  (⟨some 14, .bin .lss (.t 13) (.c (.int .i64 0)), none⟩, .calm),
  (⟨some 15, .mv (.t 14), none⟩, .calm),
  (⟨some 16, .fad 1 (.t 4), some (15, false)⟩, .calm),
  (⟨some 17, .ld1 (.t 16), some (15, false)⟩, .reads 0 0),
  (⟨some 18, .fad 0 (.t 4), some (15, false)⟩, .calm),
  (⟨some 19, .ld1 (.t 18), some (15, false)⟩, .reads 0 0),
  (⟨some 20, .call (.c (.func (.func 72) [] [])) [(.t 17), (.t 19), (.c (.int .i64 1048576))], some (15, false)⟩, .new),
  (⟨some 21, .un .not (.t 20), some (15, false)⟩, .calm),
  (⟨some 22, .pick (.t 15) (.c (.bool true)) (.t 21), none⟩, .calm),
  (⟨some 23, .mv (.t 22), none⟩, .calm),
  (⟨some 24, .mv (.t 3), some (23, false)⟩, .calm),
  (⟨some 25, .bin .gtr (.t 24) (.c (.int .i64 0)), some (23, false)⟩, .calm),
  (⟨some 26, .mv (.t 25), some (23, false)⟩, .calm),
  (⟨some 27, .fad 0 (.t 4), some (26, true)⟩, .calm),
  (⟨some 28, .ld1 (.t 27), some (26, true)⟩, .reads 0 0),
  (⟨some 29, .mv (.t 0), some (26, true)⟩, .calm),
  (⟨some 30, .mv (.t 3), some (26, true)⟩, .calm),
  (⟨some 31, .bin .sub (.t 30) (.c (.int .i64 1)), some (26, true)⟩, .calm),
  (⟨some 32, .iad none 2 (.t 29) (.t 31), some (26, true)⟩, .calm),
  (⟨some 33, .fad 1 (.t 32), some (26, true)⟩, .calm),
  (⟨some 34, .ld1 (.t 33), some (26, true)⟩, .reads 0 0),
  (⟨some 35, .bin .leq (.t 28) (.t 34), some (26, true)⟩, .calm),
  (⟨some 36, .pick (.t 26) (.t 35) (.c (.bool false)), some (23, false)⟩, .calm),
  (⟨some 37, .pick (.t 23) (.c (.bool true)) (.t 36), none⟩, .calm)]) (
     .cond (.t 37) (
      .seq (
      .ops [
  ⟨some 2, .mv (.c (.bool false)), none⟩]) (
      .ret)) (
      .skip))))) (
    .ops [
  ⟨some 38, .bin .add (.t 7) (.c (.int .i64 1)), none⟩,
  ⟨some 7, .mv (.t 38), none⟩]))))))) (
  .seq (
  .ops [
  ⟨some 39, .mv (.t 0), none⟩,
  ⟨some 40, .len .sl (.t 39), none⟩,
  ⟨some 41, .bin .leq (.t 40) (.c (.int .i64 4)), none⟩,
  ⟨some 2, .mv (.t 41), none⟩]) (
  .ret))), [.tmp 2]⟩
/-- paravane/course.cruise$1 -/
def xq156 : XF := ⟨6, .seq (
  .ops [
  ⟨some 2, .mv (.c (.bool false)), none⟩]) (
  .seq (
  .ops [
  ⟨some 3, .mv (.t 0), none⟩,
  ⟨some 4, .call (.c (.func (.func 92) [] [])) [(.t 3)], none⟩,
  ⟨some 5, .bin .neq (.t 4) (.c (.int .i64 0)), none⟩,
  ⟨some 2, .mv (.t 5), none⟩]) (
  .ret)), [.tmp 2]⟩
/-- slices.ContainsFunc[[]paravane/api.Point,paravane/api.Point] -/
def xq157 : XF := ⟨9, .seq (
  .ops [
  ⟨some 4, .mv (.c (.bool false)), none⟩]) (
  .seq (
  .ops [
  ⟨some 5, .mv (.t 0), none⟩,
  ⟨some 6, .mv (.t 1), none⟩,
  ⟨some 7, .call (.c (.func (.func 173) [] [])) [(.t 5), (.t 6)], none⟩,
  ⟨some 8, .bin .geq (.t 7) (.c (.int .i64 0)), none⟩,
  ⟨some 4, .mv (.t 8), none⟩]) (
  .ret)), [.tmp 4]⟩
/-- paravane/course.cruise$2 -/
def xq158 : XF := ⟨6, .seq (
  .ops [
  ⟨some 1, .box 30 (.t 0), none⟩,
  ⟨some 2, .mv (.c (.bool false)), none⟩]) (
  .seq (
  .ops [
  ⟨some 3, .ldN 2 (.t 1), none⟩,
  ⟨some 4, .call (.c (.func (.func 87) [] [])) [(.t 3)], none⟩,
  ⟨some 5, .bin .neq (.t 4) (.c (.int .i64 0)), none⟩,
  ⟨some 2, .mv (.t 5), none⟩]) (
  .ret)), [.tmp 2]⟩
/-- paravane/region.Tight -/
def xq159 : XF := ⟨19, .seq (
  .ops [
  ⟨some 1, .box 28 (.t 0), none⟩,
  ⟨some 2, .new 28 [(.int .i64 0), (.int .i64 0), (.int .i64 0), (.int .i64 0), (.int .i64 0), (.int .i64 0), (.int .i64 0), (.int .i64 0)], none⟩,
  ⟨some 3, .mv (.c (.int .i64 0)), none⟩]) (
  .seq (
  .seq (
  .ops [
  ⟨some 5, .ldN 8 (.t 1), none⟩,
  ⟨some 6, .call (.c (.func (.func 86) [] [])) [(.t 5)], none⟩,
  ⟨some 4, .mv (.t 6), none⟩]) (
  .seq (
  .ops [
  ⟨some 7, .mv (.t 4), none⟩,
  ⟨some 8, .bin .neq (.t 7) (.c (.int .i64 0)), none⟩]) (
  .cond (.t 8) (
   .seq (
   .ops [
  ⟨some 9, .build [(.int .i64 0), (.int .i64 0), (.int .i64 0), (.int .i64 0), (.int .i64 0), (.int .i64 0), (.int .i64 0), (.int .i64 0)] [], none⟩,
  ⟨some 10, .mv (.t 4), none⟩,
  ⟨none, .st 8 (.t 2) (.t 9), none⟩,
  ⟨some 3, .mv (.t 10), none⟩]) (
   .ret)) (
   .skip)))) (
  .seq (
  .ops [
  ⟨some 11, .ldN 8 (.t 1), none⟩,
  ⟨some 12, .call (.c (.func (.func 88) [] [])) [(.t 11)], none⟩,
  ⟨some 13, .call (.c (.func (.func 166) [] [])) [(.t 12)], none⟩,
  ⟨some 14, .ext 0 (.t 13), none⟩,
  ⟨some 15, .ext 1 (.t 13), none⟩,
  ⟨some 16, .call (.c (.func (.func 174) [] [])) [(.t 14), (.t 15)], none⟩,
  ⟨some 17, .ext 0 (.t 16), none⟩,
  ⟨some 18, .ext 1 (.t 16), none⟩,
  ⟨none, .st 8 (.t 2) (.t 17), none⟩,
  ⟨some 3, .mv (.t 18), none⟩]) (
  .ret))), [.cellN 2 8, .tmp 3]⟩
/-- (*paravane/paravaneref01.Hull).fill -/
def xq160 : XF := ⟨36, .seq (
  .ops [
  ⟨some 3, .box 28 (.t 1), none⟩]) (
  .seq (
  .ops [
  ⟨some 6, .fad 0 (.t 3), none⟩,
  ⟨some 7, .fad 0 (.t 6), none⟩,
  ⟨some 8, .ld1 (.t 7), none⟩,
  ⟨some 4, .mv (.t 8), none⟩]) (
  .block 0 (
   .loop (
    .seq (
    .seq (
    .ops [
  ⟨some 9, .mv (.t 4), none⟩,
  ⟨some 10, .fad 0 (.t 3), none⟩,
  ⟨some 11, .fad 1 (.t 10), none⟩,
  ⟨some 12, .ld1 (.t 11), none⟩,
  ⟨some 13, .bin .leq (.t 9) (.t 12), none⟩]) (
    .cond (.t 13) (
     .skip) (
     .exit 0))) (
    .seq (
    .block 1 (
     .seq (
     .ops [
  ⟨some 16, .ldN 8 (.t 3), none⟩,
  ⟨some 17, .mv (.t 4), none⟩,
  ⟨some 18, .call (.c (.func (.func 164) [] [])) [(.t 16), (.t 17)], none⟩,
  ⟨some 5, .new 231 [(.int .i64 0), (.int .i64 0), (.int .i64 0)], none⟩,
  ⟨none, .st 3 (.t 5) (.t 18), none⟩]) (
     .seq (
     .ops [
  ⟨some 19, .fad 1 (.t 5), none⟩,
  ⟨some 20, .ld1 (.t 19), none⟩,
  ⟨some 21, .fad 2 (.t 5), none⟩,
  ⟨some 22, .ld1 (.t 21), none⟩,
  ⟨some 23, .bin .leq (.t 20) (.t 22), none⟩]) (
     .cond (.t 23) (
      .seq (
      .ops [
  ⟨some 24, .mv (.t 0), none⟩,
  ⟨some 25, .mv (.t 4), none⟩,
  ⟨some 26, .fad 1 (.t 5), none⟩,
  ⟨some 27, .ld1 (.t 26), none⟩,
  ⟨some 28, .build [(.int .i64 0), (.int .i64 0)] [(0, 1, (.t 25)), (1, 1, (.t 27))], none⟩,
  ⟨some 29, .call (.c (.func (.func 175) [] [])) [(.t 24), (.t 28)], none⟩]) (
      .ops [
  ⟨some 30, .mv (.t 0), none⟩,
  ⟨some 31, .mv (.t 4), none⟩,
  ⟨some 32, .fad 2 (.t 5), none⟩,
  ⟨some 33, .ld1 (.t 32), none⟩,
  ⟨some 34, .build [(.int .i64 0), (.int .i64 0)] [(0, 1, (.t 31)), (1, 1, (.t 33))], none⟩,
  ⟨some 35, .call (.c (.func (.func 175) [] [])) [(.t 30), (.t 34)], none⟩])) (
      .skip))))) (
    .ops [
  ⟨some 14, .mv (.t 4), none⟩,
  ⟨some 15, .bin .add (.t 14) (.c (.int .i64 1)), none⟩,
  ⟨some 4, .mv (.t 15), none⟩])))))), []⟩
/-- paravane/paravaneref01.Move -/
def xq161 : XF := ⟨43, .seq (
  .ops [
  ⟨some 2, .box 28 (.t 0), none⟩,
  ⟨some 3, .box 30 (.t 1), none⟩,
  ⟨some 4, .new 28 [(.int .i64 0), (.int .i64 0), (.int .i64 0), (.int .i64 0), (.int .i64 0), (.int .i64 0), (.int .i64 0), (.int .i64 0)], none⟩,
  ⟨some 5, .mv (.c (.int .i64 0)), none⟩]) (
  .seq (
  .seq (
  .ops [
  ⟨some 9, .ldN 8 (.t 2), none⟩,
  ⟨some 10, .call (.c (.func (.func 101) [] [])) [(.t 9)], none⟩,
  ⟨some 6, .mv (.t 10), none⟩]) (
  .seq (
  .ops [
  ⟨some 11, .mv (.t 6), none⟩,
  ⟨some 12, .bin .neq (.t 11) (.c (.int .i64 0)), none⟩]) (
  .cond (.t 12) (
   .seq (
   .ops [
  ⟨some 13, .build [(.int .i64 0), (.int .i64 0), (.int .i64 0), (.int .i64 0), (.int .i64 0), (.int .i64 0), (.int .i64 0), (.int .i64 0)] [], none⟩,
  ⟨some 14, .mv (.t 6), none⟩,
  ⟨none, .st 8 (.t 4) (.t 13), none⟩,
  ⟨some 5, .mv (.t 14), none⟩]) (
   .ret)) (
   .skip)))) (
  .seq (
  .seq (
  .ops [
  ⟨some 15, .fad 0 (.t 3), none⟩,
  ⟨some 16, .ld1 (.t 15), none⟩,
  ⟨some 17, .call (.c (.func (.func 30) [] [])) [(.t 16), (.c (.int .i64 (-65536))), (.c (.int .i64 65536))], none⟩,
  ⟨some 18, .un .not (.t 17), none⟩,
  ⟨some 19, .mv (.t 18), none⟩,
  ⟨some 20, .fad 1 (.t 3), some (19, false)⟩,
  ⟨some 21, .ld1 (.t 20), some (19, false)⟩,
  ⟨some 22, .call (.c (.func (.func 30) [] [])) [(.t 21), (.c (.int .i64 (-65536))), (.c (.int .i64 65536))], some (19, false)⟩,
  ⟨some 23, .un .not (.t 22), some (19, false)⟩,
  ⟨some 24, .pick (.t 19) (.c (.bool true)) (.t 23), none⟩]) (
  .cond (.t 24) (
   .seq (
   .ops [
  ⟨some 25, .build [(.int .i64 0), (.int .i64 0), (.int .i64 0), (.int .i64 0), (.int .i64 0), (.int .i64 0), (.int .i64 0), (.int .i64 0)] [], none⟩,
  ⟨none, .st 8 (.t 4) (.t 25), none⟩,
  ⟨some 5, .mv (.c (.int .i64 7)), none⟩]) (
   .ret)) (
   .skip))) (
  .seq (
  .ops [
  ⟨some 27, .ldN 8 (.t 2), none⟩,
  ⟨some 28, .bsl 28 8 1 [(.int .i64 0), (.int .i64 0), (.int .i64 0), (.int .i64 0), (.int .i64 0), (.int .i64 0), (.int .i64 0), (.int .i64 0)] [(0, 8, (.t 27))], none⟩,
  ⟨some 29, .call (.c (.func (.func 141) [] [])) [(.t 28)], none⟩,
  ⟨some 26, .mv (.t 29), none⟩,
  ⟨some 30, .ext 0 (.t 26), none⟩,
  ⟨some 31, .ext 1 (.t 26), none⟩,
  ⟨some 7, .new 28 [(.int .i64 0), (.int .i64 0), (.int .i64 0), (.int .i64 0), (.int .i64 0), (.int .i64 0), (.int .i64 0), (.int .i64 0)], none⟩,
  ⟨none, .st 8 (.t 7) (.t 30), none⟩,
  ⟨some 8, .mv (.t 31), none⟩]) (
  .seq (
  .seq (
  .ops [
  ⟨some 32, .mv (.t 8), none⟩,
  ⟨some 33, .bin .neq (.t 32) (.c (.int .i64 0)), none⟩]) (
  .cond (.t 33) (
   .seq (
   .ops [
  ⟨some 34, .build [(.int .i64 0), (.int .i64 0), (.int .i64 0), (.int .i64 0), (.int .i64 0), (.int .i64 0), (.int .i64 0), (.int .i64 0)] [], none⟩,
  ⟨some 35, .mv (.t 8), none⟩,
  ⟨none, .st 8 (.t 4) (.t 34), none⟩,
  ⟨some 5, .mv (.t 35), none⟩]) (
   .ret)) (
   .skip))) (
  .seq (
  .draw [
  (⟨some 36, .ldN 8 (.t 7), none⟩, .reads 0 1),
  (⟨some 37, .ldN 2 (.t 3), none⟩, .reads 0 0),
  (⟨some 38, .call (.c (.func (.func 178) [] [])) [(.t 37)], none⟩, .anchor),
  (⟨some 39, .call (.c (.func (.func 177) [] [])) [(.t 36), (.t 38)], none⟩, .anchor),
  (⟨some 40, .call (.c (.func (.func 176) [] [])) [(.t 39)], none⟩, .anchor),
  (⟨some 41, .ext 0 (.t 40), none⟩, .calm),
  (⟨some 42, .ext 1 (.t 40), none⟩, .calm),
    (⟨none, .st 8 (.t 4) (.t 41), none⟩, .anchor),
  (⟨some 5, .mv (.t 42), none⟩, .calm)]) (
  .ret)))))), [.cellN 4 8, .tmp 5]⟩
/-- paravane/paravaneref01.Join -/
def xq162 : XF := ⟨20, .seq (
  .ops [
  ⟨some 2, .box 28 (.t 0), none⟩,
  ⟨some 3, .box 28 (.t 1), none⟩,
  ⟨some 4, .new 28 [(.int .i64 0), (.int .i64 0), (.int .i64 0), (.int .i64 0), (.int .i64 0), (.int .i64 0), (.int .i64 0), (.int .i64 0)], none⟩,
  ⟨some 5, .mv (.c (.int .i64 0)), none⟩]) (
  .seq (
  .seq (
  .ops [
  ⟨some 7, .ldN 8 (.t 2), none⟩,
  ⟨some 8, .ldN 8 (.t 3), none⟩,
  ⟨some 9, .call (.c (.func (.func 179) [] [])) [(.t 7), (.t 8)], none⟩,
  ⟨some 6, .mv (.t 9), none⟩]) (
  .seq (
  .ops [
  ⟨some 10, .mv (.t 6), none⟩,
  ⟨some 11, .bin .neq (.t 10) (.c (.int .i64 0)), none⟩]) (
  .cond (.t 11) (
   .seq (
   .ops [
  ⟨some 12, .build [(.int .i64 0), (.int .i64 0), (.int .i64 0), (.int .i64 0), (.int .i64 0), (.int .i64 0), (.int .i64 0), (.int .i64 0)] [], none⟩,
  ⟨some 13, .mv (.t 6), none⟩,
  ⟨none, .st 8 (.t 4) (.t 12), none⟩,
  ⟨some 5, .mv (.t 13), none⟩]) (
   .ret)) (
   .skip)))) (
  .seq (
  .ops [
  ⟨some 14, .ldN 8 (.t 2), none⟩,
  ⟨some 15, .ldN 8 (.t 3), none⟩,
  ⟨some 16, .bsl 28 8 2 [(.int .i64 0), (.int .i64 0), (.int .i64 0), (.int .i64 0), (.int .i64 0), (.int .i64 0), (.int .i64 0), (.int .i64 0)] [(0, 8, (.t 14)), (8, 8, (.t 15))], none⟩,
  ⟨some 17, .call (.c (.func (.func 141) [] [])) [(.t 16)], none⟩,
  ⟨some 18, .ext 0 (.t 17), none⟩,
  ⟨some 19, .ext 1 (.t 17), none⟩,
  ⟨none, .st 8 (.t 4) (.t 18), none⟩,
  ⟨some 5, .mv (.t 19), none⟩]) (
  .ret))), [.cellN 4 8, .tmp 5]⟩
/-- paravane/paravaneref01.both -/
def xq163 : XF := ⟨13, .seq (
  .ops [
  ⟨some 3, .box 28 (.t 1), none⟩,
  ⟨some 4, .mv (.c (.int .i64 0)), none⟩]) (
  .seq (
  .seq (
  .ops [
  ⟨some 6, .mv (.t 0), none⟩,
  ⟨some 7, .call (.c (.func (.func 100) [] [])) [(.t 6)], none⟩,
  ⟨some 5, .mv (.t 7), none⟩]) (
  .seq (
  .ops [
  ⟨some 8, .mv (.t 5), none⟩,
  ⟨some 9, .bin .neq (.t 8) (.c (.int .i64 0)), none⟩]) (
  .cond (.t 9) (
   .seq (
   .ops [
  ⟨some 10, .mv (.t 5), none⟩,
  ⟨some 4, .mv (.t 10), none⟩]) (
   .ret)) (
   .skip)))) (
  .seq (
  .ops [
  ⟨some 11, .ldN 8 (.t 3), none⟩,
  ⟨some 12, .call (.c (.func (.func 101) [] [])) [(.t 11)], none⟩,
  ⟨some 4, .mv (.t 12), none⟩]) (
  .ret))), [.tmp 4]⟩
/-- paravane/paravaneref01.row -/
def xq164 : XF := ⟨35, .seq (
  .ops [
  ⟨some 2, .box 28 (.t 0), none⟩,
  ⟨some 4, .new 231 [(.int .i64 0), (.int .i64 0), (.int .i64 0)], none⟩]) (
  .seq (
  .ops [
  ⟨some 5, .mv (.t 1), none⟩,
  ⟨some 6, .fad 2 (.t 2), none⟩,
  ⟨some 7, .fad 0 (.t 6), none⟩,
  ⟨some 8, .ld1 (.t 7), none⟩,
  ⟨some 9, .fad 4 (.t 2), none⟩,
  ⟨some 10, .fad 0 (.t 9), none⟩,
  ⟨some 11, .ld1 (.t 10), none⟩,
  ⟨some 12, .mv (.t 1), none⟩,
  ⟨some 13, .bin .sub (.t 11) (.t 12), none⟩,
  ⟨some 14, .mv (.t 1), none⟩,
  ⟨some 15, .fad 6 (.t 2), none⟩,
  ⟨some 16, .fad 1 (.t 15), none⟩,
  ⟨some 17, .ld1 (.t 16), none⟩,
  ⟨some 18, .bin .sub (.t 14) (.t 17), none⟩,
  ⟨some 19, .max [(.t 8), (.t 13), (.t 18)], none⟩,
  ⟨some 20, .fad 2 (.t 2), none⟩,
  ⟨some 21, .fad 1 (.t 20), none⟩,
  ⟨some 22, .ld1 (.t 21), none⟩,
  ⟨some 23, .fad 4 (.t 2), none⟩,
  ⟨some 24, .fad 1 (.t 23), none⟩,
  ⟨some 25, .ld1 (.t 24), none⟩,
  ⟨some 26, .mv (.t 1), none⟩,
  ⟨some 27, .bin .sub (.t 25) (.t 26), none⟩,
  ⟨some 28, .mv (.t 1), none⟩,
  ⟨some 29, .fad 6 (.t 2), none⟩,
  ⟨some 30, .fad 0 (.t 29), none⟩,
  ⟨some 31, .ld1 (.t 30), none⟩,
  ⟨some 32, .bin .sub (.t 28) (.t 31), none⟩,
  ⟨some 33, .min [(.t 22), (.t 27), (.t 32)], none⟩,
  ⟨some 34, .build [(.int .i64 0), (.int .i64 0), (.int .i64 0)] [(0, 1, (.t 5)), (1, 1, (.t 19)), (2, 1, (.t 33))], none⟩,
  ⟨none, .st 3 (.t 4) (.t 34), none⟩]) (
  .ret)), [.cellN 4 3]⟩
/-- paravane/paravaneref01.left -/
def xq165 : XF := ⟨62, .seq (
  .ops [
  ⟨some 3, .box 231 (.t 0), none⟩,
  ⟨some 4, .box 30 (.t 1), none⟩,
  ⟨some 5, .box 30 (.t 2), none⟩,
  ⟨some 6, .new 231 [(.int .i64 0), (.int .i64 0), (.int .i64 0)], none⟩]) (
  .seq (
  .ops [
  ⟨some 9, .fad 0 (.t 5), none⟩,
  ⟨some 10, .ld1 (.t 9), none⟩,
  ⟨some 11, .fad 0 (.t 4), none⟩,
  ⟨some 12, .ld1 (.t 11), none⟩,
  ⟨some 13, .bin .sub (.t 10) (.t 12), none⟩,
  ⟨some 14, .fad 1 (.t 4), none⟩,
  ⟨some 15, .ld1 (.t 14), none⟩,
  ⟨some 16, .bin .mul (.t 13) (.t 15), none⟩,
  ⟨some 17, .fad 1 (.t 5), none⟩,
  ⟨some 18, .ld1 (.t 17), none⟩,
  ⟨some 19, .fad 1 (.t 4), none⟩,
  ⟨some 20, .ld1 (.t 19), none⟩,
  ⟨some 21, .bin .sub (.t 18) (.t 20), none⟩,
  ⟨some 22, .fad 0 (.t 3), none⟩,
  ⟨some 23, .ld1 (.t 22), none⟩,
  ⟨some 24, .fad 0 (.t 4), none⟩,
  ⟨some 25, .ld1 (.t 24), none⟩,
  ⟨some 26, .bin .sub (.t 23) (.t 25), none⟩,
  ⟨some 27, .bin .mul (.t 21) (.t 26), none⟩,
  ⟨some 28, .bin .add (.t 16) (.t 27), none⟩,
  ⟨some 7, .mv (.t 28), none⟩]) (
  .seq (
  .ops [
  ⟨some 29, .fad 0 (.t 5), none⟩,
  ⟨some 30, .ld1 (.t 29), none⟩,
  ⟨some 31, .fad 0 (.t 4), none⟩,
  ⟨some 32, .ld1 (.t 31), none⟩,
  ⟨some 33, .bin .sub (.t 30) (.t 32), none⟩,
  ⟨some 8, .mv (.t 33), none⟩]) (
  .seq (
  .block 0 (
   .seq (
   .ops [
  ⟨some 35, .mv (.t 8), none⟩,
  ⟨some 36, .bin .gtr (.t 35) (.c (.int .i64 0)), none⟩,
  ⟨some 34, .mv (.t 36), none⟩]) (
   .cond (.t 34) (
    .draw [
  (⟨some 37, .fad 1 (.t 3), none⟩, .calm),
  (⟨some 38, .ld1 (.t 37), none⟩, .reads 0 0),
  (⟨some 39, .mv (.t 7), none⟩, .calm),
  (⟨some 40, .mv (.t 8), none⟩, .calm),
  (⟨some 41, .call (.c (.func (.func 113) [] [])) [(.t 39), (.t 40)], none⟩, .new),
  (⟨some 42, .max [(.t 38), (.t 41)], none⟩, .calm),
  (⟨some 43, .fad 1 (.t 3), none⟩, .calm),
      (⟨none, .st 1 (.t 43) (.t 42), none⟩, .anchor)]) (
    .seq (
    .ops [
  ⟨some 45, .mv (.t 8), none⟩,
  ⟨some 46, .bin .lss (.t 45) (.c (.int .i64 0)), none⟩,
  ⟨some 44, .mv (.t 46), none⟩]) (
    .cond (.t 44) (
     .draw [
  (⟨some 47, .fad 2 (.t 3), none⟩, .calm),
  (⟨some 48, .ld1 (.t 47), none⟩, .reads 0 0),
  (⟨some 49, .mv (.t 7), none⟩, .calm),
  (⟨some 50, .mv (.t 8), none⟩, .calm),
  (⟨some 51, .call (.c (.func (.func 145) [] [])) [(.t 49), (.t 50)], none⟩, .new),
  (⟨some 52, .min [(.t 48), (.t 51)], none⟩, .calm),
  (⟨some 53, .fad 2 (.t 3), none⟩, .calm),
       (⟨none, .st 1 (.t 53) (.t 52), none⟩, .anchor)]) (
     .seq (
     .ops [
  ⟨some 55, .mv (.t 7), none⟩,
  ⟨some 56, .bin .gtr (.t 55) (.c (.int .i64 0)), none⟩,
  ⟨some 54, .mv (.t 56), none⟩]) (
     .cond (.t 54) (
      .ops [
  ⟨some 57, .fad 1 (.t 3), none⟩,
  ⟨some 58, .ld1 (.t 57), none⟩,
  ⟨some 59, .bin .sub (.t 58) (.c (.int .i64 1)), none⟩,
  ⟨some 60, .fad 2 (.t 3), none⟩,
  ⟨none, .st 1 (.t 60) (.t 59), none⟩]) (
      .skip)))))))) (
  .seq (
  .ops [
  ⟨some 61, .ldN 3 (.t 3), none⟩,
  ⟨none, .st 3 (.t 6) (.t 61), none⟩]) (
  .ret))))), [.cellN 6 3]⟩
/-- (paravane/region.four).tight -/
def xq166 : XF := ⟨17, .seq (
  .ops [
  ⟨some 1, .box 163 (.t 0), none⟩,
  ⟨some 2, .new 163 [(.int .i64 0), (.int .i64 0), (.int .i64 0), (.int .i64 0), (.int .i64 0), (.int .i64 0), (.int .i64 0), (.int .i64 0)], none⟩,
  ⟨some 3, .mv (.c (.int .i64 0)), none⟩]) (
  .seq (
  .ops [
  ⟨some 7, .ldN 8 (.t 1), none⟩,
  ⟨some 8, .call (.c (.func (.func 170) [] [])) [(.t 7)], none⟩,
  ⟨some 9, .bsl 239 1 1 [.nilFunc] [(0, 1, (.t 8))], none⟩,
  ⟨some 10, .call (.c (.func (.func 169) [] [])) [(.t 9)], none⟩,
  ⟨some 6, .mv (.t 10), none⟩,
  ⟨some 11, .ext 0 (.t 6), none⟩,
  ⟨some 12, .ext 1 (.t 6), none⟩,
  ⟨some 4, .new 163 [(.int .i64 0), (.int .i64 0), (.int .i64 0), (.int .i64 0), (.int .i64 0), (.int .i64 0), (.int .i64 0), (.int .i64 0)], none⟩,
  ⟨none, .st 8 (.t 4) (.t 11), none⟩,
  ⟨some 5, .mv (.t 12), none⟩]) (
  .seq (
  .seq (
  .ops [
  ⟨some 13, .mv (.t 5), none⟩,
  ⟨some 14, .un .not (.t 13), none⟩]) (
  .cond (.t 14) (
   .seq (
   .ops [
  ⟨some 15, .build [(.int .i64 0), (.int .i64 0), (.int .i64 0), (.int .i64 0), (.int .i64 0), (.int .i64 0), (.int .i64 0), (.int .i64 0)] [], none⟩,
  ⟨none, .st 8 (.t 2) (.t 15), none⟩,
  ⟨some 3, .mv (.c (.int .i64 4)), none⟩]) (
   .ret)) (
   .skip))) (
  .seq (
  .ops [
  ⟨some 16, .ldN 8 (.t 4), none⟩,
  ⟨none, .st 8 (.t 2) (.t 16), none⟩,
  ⟨some 3, .mv (.c (.int .i64 0)), none⟩]) (
  .ret)))), [.cellN 2 8, .tmp 3]⟩
/-- paravane/region.inside -/
def xq167 : XF := ⟨17, .seq (
  .ops [
  ⟨some 1, .box 163 (.t 0), none⟩,
  ⟨some 2, .new 28 [(.int .i64 0), (.int .i64 0), (.int .i64 0), (.int .i64 0), (.int .i64 0), (.int .i64 0), (.int .i64 0), (.int .i64 0)], none⟩,
  ⟨some 3, .mv (.c (.int .i64 0)), none⟩]) (
  .seq (
  .seq (
  .ops [
  ⟨some 4, .iad (some 4) 2 (.t 1) (.c (.int .i64 0)), none⟩,
  ⟨some 5, .ldN 2 (.t 4), none⟩,
  ⟨some 6, .call (.c (.func (.func 124) [] [])) [(.c (.int .i64 32768)), (.t 5)], none⟩,
  ⟨some 7, .un .not (.t 6), none⟩,
  ⟨some 8, .mv (.t 7), none⟩,
  ⟨some 9, .iad (some 4) 2 (.t 1) (.c (.int .i64 1)), some (8, false)⟩,
  ⟨some 10, .ldN 2 (.t 9), some (8, false)⟩,
  ⟨some 11, .call (.c (.func (.func 124) [] [])) [(.c (.int .i64 32768)), (.t 10)], some (8, false)⟩,
  ⟨some 12, .un .not (.t 11), some (8, false)⟩,
  ⟨some 13, .pick (.t 8) (.c (.bool true)) (.t 12), none⟩]) (
  .cond (.t 13) (
   .seq (
   .ops [
  ⟨some 14, .build [(.int .i64 0), (.int .i64 0), (.int .i64 0), (.int .i64 0), (.int .i64 0), (.int .i64 0), (.int .i64 0), (.int .i64 0)] [], none⟩,
  ⟨none, .st 8 (.t 2) (.t 14), none⟩,
  ⟨some 3, .mv (.c (.int .i64 7)), none⟩]) (
   .ret)) (
   .skip))) (
  .seq (
  .ops [
  ⟨some 15, .ldN 8 (.t 1), none⟩,
  ⟨some 16, .call (.c (.func (.func 171) [] [])) [(.t 15)], none⟩,
  ⟨none, .st 8 (.t 2) (.t 16), none⟩,
  ⟨some 3, .mv (.c (.int .i64 0)), none⟩]) (
  .ret))), [.cellN 2 8, .tmp 3]⟩
/-- paravane/region.plus -/
def xq168 : XF := ⟨16, .seq (
  .ops [
  ⟨some 2, .box 26 (.t 0), none⟩,
  ⟨some 3, .box 26 (.t 1), none⟩,
  ⟨some 4, .new 26 [(.int .i64 0), (.int .i64 0)], none⟩]) (
  .seq (
  .ops [
  ⟨some 5, .fad 0 (.t 2), none⟩,
  ⟨some 6, .ld1 (.t 5), none⟩,
  ⟨some 7, .fad 0 (.t 3), none⟩,
  ⟨some 8, .ld1 (.t 7), none⟩,
  ⟨some 9, .bin .add (.t 6) (.t 8), none⟩,
  ⟨some 10, .fad 1 (.t 2), none⟩,
  ⟨some 11, .ld1 (.t 10), none⟩,
  ⟨some 12, .fad 1 (.t 3), none⟩,
  ⟨some 13, .ld1 (.t 12), none⟩,
  ⟨some 14, .bin .add (.t 11) (.t 13), none⟩,
  ⟨some 15, .build [(.int .i64 0), (.int .i64 0)] [(0, 1, (.t 9)), (1, 1, (.t 14))], none⟩,
  ⟨none, .st 2 (.t 4) (.t 15), none⟩]) (
  .ret)), [.cellN 4 2]⟩
/-- paravane/region.hull -/
def xq169 : XF := ⟨26, .seq (
  .ops [
  ⟨some 2, .new 163 [(.int .i64 0), (.int .i64 0), (.int .i64 0), (.int .i64 0), (.int .i64 0), (.int .i64 0), (.int .i64 0), (.int .i64 0)], none⟩,
  ⟨some 3, .new 4 [(.bool false)], none⟩]) (
  .seq (
  .seq (
  .ops [
  ⟨some 7, .mv (.t 0), none⟩,
  ⟨some 8, .len .sl (.t 7), none⟩,
  ⟨some 9, .mv (.c (.int .i64 0)), none⟩]) (
  .block 0 (
   .loop (
    .seq (
    .ops [
  ⟨some 10, .bin .lss (.t 9) (.t 8), none⟩]) (
    .seq (
    .cond (.t 10) (
     .skip) (
     .exit 0)) (
    .seq (
    .block 1 (
     .seq (
     .ops [
  ⟨some 11, .iad none 1 (.t 7) (.t 9), none⟩,
  ⟨some 12, .ld1 (.t 11), none⟩,
  ⟨some 5, .mv (.t 12), none⟩]) (
     .seq (
     .ops [
  ⟨some 13, .mv (.t 5), none⟩]) (
     .block 2 (
      .rfun (.t 13) [14] (
       .ops [
  ⟨some 6, .new 30 [(.int .i64 0), (.int .i64 0)], none⟩,
  ⟨none, .st 2 (.t 6) (.t 14), none⟩]) (
       .block 3 (
        .seq (
        .seq (
        .ops [
  ⟨some 15, .ld1 (.t 3), none⟩,
  ⟨some 16, .un .not (.t 15), none⟩]) (
        .cond (.t 16) (
         .ops [
  ⟨some 17, .ldN 2 (.t 6), none⟩,
  ⟨some 18, .call (.c (.func (.func 90) [] [])) [(.t 17)], none⟩,
  ⟨none, .st 8 (.t 2) (.t 18), none⟩,
  ⟨none, .st 1 (.t 3) (.c (.bool true)), none⟩]) (
         .skip))) (
        .draw [
  (⟨some 19, .ldN 8 (.t 2), none⟩, .reads 0 1),
  (⟨some 20, .ldN 2 (.t 6), none⟩, .reads 0 0),
  (⟨some 21, .call (.c (.func (.func 90) [] [])) [(.t 20)], none⟩, .anchor),
  (⟨some 22, .call (.c (.func (.func 89) [] [])) [(.t 19), (.t 21), (.c (.func (.func 180) [] []))], none⟩, .anchor),
          (⟨none, .st 8 (.t 2) (.t 22), none⟩, .anchor)])))))))) (
    .ops [
  ⟨some 23, .bin .add (.t 9) (.c (.int .i64 1)), none⟩,
  ⟨some 9, .mv (.t 23), none⟩]))))))) (
  .seq (
  .draw [
  (⟨some 24, .ldN 8 (.t 2), none⟩, .reads 0 0),
  (⟨some 25, .ld1 (.t 3), none⟩, .reads 0 1),
    (⟨none, .st 8 (.t 2) (.t 24), none⟩, .anchor),
    (⟨none, .st 1 (.t 3) (.t 25), none⟩, .anchor)]) (
  .ret))), [.cellN 2 8, .cell1 3]⟩
/-- (paravane/region.four).ends -/
def xq170 : XF := ⟨4, .seq (
  .ops [
  ⟨some 1, .box 163 (.t 0), none⟩,
  ⟨some 2, .mv (.c .nilFunc), none⟩]) (
  .seq (
  .ops [
  ⟨some 3, .mkf 181 [] [(.t 1)], none⟩,
  ⟨some 2, .mv (.t 3), none⟩]) (
  .ret)), [.tmp 2]⟩
/-- (paravane/region.four).region -/
def xq171 : XF := ⟨12, .seq (
  .ops [
  ⟨some 1, .box 163 (.t 0), none⟩,
  ⟨some 2, .new 28 [(.int .i64 0), (.int .i64 0), (.int .i64 0), (.int .i64 0), (.int .i64 0), (.int .i64 0), (.int .i64 0), (.int .i64 0)], none⟩]) (
  .seq (
  .ops [
  ⟨some 3, .iad (some 4) 2 (.t 1) (.c (.int .i64 0)), none⟩,
  ⟨some 4, .ldN 2 (.t 3), none⟩,
  ⟨some 5, .iad (some 4) 2 (.t 1) (.c (.int .i64 1)), none⟩,
  ⟨some 6, .ldN 2 (.t 5), none⟩,
  ⟨some 7, .iad (some 4) 2 (.t 1) (.c (.int .i64 2)), none⟩,
  ⟨some 8, .ldN 2 (.t 7), none⟩,
  ⟨some 9, .iad (some 4) 2 (.t 1) (.c (.int .i64 3)), none⟩,
  ⟨some 10, .ldN 2 (.t 9), none⟩,
  ⟨some 11, .build [(.int .i64 0), (.int .i64 0), (.int .i64 0), (.int .i64 0), (.int .i64 0), (.int .i64 0), (.int .i64 0), (.int .i64 0)] [(0, 2, (.t 4)), (2, 2, (.t 6)), (4, 2, (.t 8)), (6, 2, (.t 10))], none⟩,
  ⟨none, .st 8 (.t 2) (.t 11), none⟩]) (
  .ret)), [.cellN 2 8]⟩
/-- (paravane/region.four).rows$1 -/
def xq172 : XF := ⟨56, .seq (
  .ops [
  ⟨some 5, .iad (some 4) 2 (.t 1) (.c (.int .i64 0)), none⟩,
  ⟨some 6, .fad 0 (.t 5), none⟩,
  ⟨some 7, .ld1 (.t 6), none⟩,
  ⟨some 3, .mv (.t 7), none⟩]) (
  .block 0 (
   .loop (
    .seq (
    .seq (
    .ops [
  ⟨some 8, .mv (.t 3), none⟩,
  ⟨some 9, .iad (some 4) 2 (.t 1) (.c (.int .i64 0)), none⟩,
  ⟨some 10, .fad 1 (.t 9), none⟩,
  ⟨some 11, .ld1 (.t 10), none⟩,
  ⟨some 12, .bin .leq (.t 8) (.t 11), none⟩]) (
    .cond (.t 12) (
     .skip) (
     .exit 0))) (
    .seq (
    .block 1 (
     .seq (
     .ops [
  ⟨some 15, .mv (.t 3), none⟩,
  ⟨some 16, .iad (some 4) 2 (.t 1) (.c (.int .i64 1)), none⟩,
  ⟨some 17, .fad 0 (.t 16), none⟩,
  ⟨some 18, .ld1 (.t 17), none⟩,
  ⟨some 19, .iad (some 4) 2 (.t 1) (.c (.int .i64 2)), none⟩,
  ⟨some 20, .fad 0 (.t 19), none⟩,
  ⟨some 21, .ld1 (.t 20), none⟩,
  ⟨some 22, .mv (.t 3), none⟩,
  ⟨some 23, .bin .sub (.t 21) (.t 22), none⟩,
  ⟨some 24, .mv (.t 3), none⟩,
  ⟨some 25, .iad (some 4) 2 (.t 1) (.c (.int .i64 3)), none⟩,
  ⟨some 26, .fad 1 (.t 25), none⟩,
  ⟨some 27, .ld1 (.t 26), none⟩,
  ⟨some 28, .bin .sub (.t 24) (.t 27), none⟩,
  ⟨some 29, .max [(.t 18), (.t 23), (.t 28)], none⟩,
  ⟨some 30, .iad (some 4) 2 (.t 1) (.c (.int .i64 1)), none⟩,
  ⟨some 31, .fad 1 (.t 30), none⟩,
  ⟨some 32, .ld1 (.t 31), none⟩,
  ⟨some 33, .iad (some 4) 2 (.t 1) (.c (.int .i64 2)), none⟩,
  ⟨some 34, .fad 1 (.t 33), none⟩,
  ⟨some 35, .ld1 (.t 34), none⟩,
  ⟨some 36, .mv (.t 3), none⟩,
  ⟨some 37, .bin .sub (.t 35) (.t 36), none⟩,
  ⟨some 38, .mv (.t 3), none⟩,
  ⟨some 39, .iad (some 4) 2 (.t 1) (.c (.int .i64 3)), none⟩,
  ⟨some 40, .fad 0 (.t 39), none⟩,
  ⟨some 41, .ld1 (.t 40), none⟩,
  ⟨some 42, .bin .sub (.t 38) (.t 41), none⟩,
  ⟨some 43, .min [(.t 32), (.t 37), (.t 42)], none⟩,
  ⟨some 44, .build [(.int .i64 0), (.int .i64 0), (.int .i64 0)] [(0, 1, (.t 15)), (1, 1, (.t 29)), (2, 1, (.t 43))], none⟩,
  ⟨some 4, .new 221 [(.int .i64 0), (.int .i64 0), (.int .i64 0)], none⟩,
  ⟨none, .st 3 (.t 4) (.t 44), none⟩]) (
     .seq (
     .ops [
  ⟨some 45, .fad 1 (.t 4), none⟩,
  ⟨some 46, .ld1 (.t 45), none⟩,
  ⟨some 47, .fad 2 (.t 4), none⟩,
  ⟨some 48, .ld1 (.t 47), none⟩,
  ⟨some 49, .bin .leq (.t 46) (.t 48), none⟩,
  ⟨some 50, .mv (.t 49), none⟩,
  ⟨some 51, .mv (.t 0), some (50, true)⟩,
  ⟨some 52, .ldN 3 (.t 4), some (50, true)⟩,
  ⟨some 53, .call (.t 51) [(.t 52)], some (50, true)⟩,
  ⟨some 54, .un .not (.t 53), some (50, true)⟩,
  ⟨some 55, .pick (.t 50) (.t 54) (.c (.bool false)), none⟩]) (
     .cond (.t 55) (
      .ret) (
      .skip))))) (
    .ops [
  ⟨some 13, .mv (.t 3), none⟩,
  ⟨some 14, .bin .add (.t 13) (.c (.int .i64 1)), none⟩,
  ⟨some 3, .mv (.t 14), none⟩]))))), []⟩
/-- slices.IndexFunc[[]paravane/api.Point,paravane/api.Point] -/
def xq173 : XF := ⟨19, .seq (
  .ops [
  ⟨some 4, .mv (.c (.int .i64 0)), none⟩]) (
  .seq (
  .seq (
  .ops [
  ⟨some 6, .mv (.t 0), none⟩,
  ⟨some 7, .len .sl (.t 6), none⟩,
  ⟨some 8, .mv (.c (.int .i64 0)), none⟩]) (
  .block 0 (
   .loop (
    .seq (
    .ops [
  ⟨some 9, .bin .lss (.t 8) (.t 7), none⟩]) (
    .seq (
    .cond (.t 9) (
     .skip) (
     .exit 0)) (
    .seq (
    .block 1 (
     .seq (
     .ops [
  ⟨some 10, .mv (.t 8), none⟩,
  ⟨some 5, .mv (.t 10), none⟩]) (
     .seq (
     .ops [
  ⟨some 11, .mv (.t 1), none⟩,
  ⟨some 12, .mv (.t 0), none⟩,
  ⟨some 13, .mv (.t 5), none⟩,
  ⟨some 14, .iad none 2 (.t 12) (.t 13), none⟩,
  ⟨some 15, .ldN 2 (.t 14), none⟩,
  ⟨some 16, .call (.t 11) [(.t 15)], none⟩]) (
     .cond (.t 16) (
      .seq (
      .ops [
  ⟨some 17, .mv (.t 5), none⟩,
  ⟨some 4, .mv (.t 17), none⟩]) (
      .ret)) (
      .skip))))) (
    .ops [
  ⟨some 18, .bin .add (.t 8) (.c (.int .i64 1)), none⟩,
  ⟨some 8, .mv (.t 18), none⟩]))))))) (
  .seq (
  .ops [
  ⟨some 4, .mv (.c (.int .i64 (-1))), none⟩]) (
  .ret))), [.tmp 4]⟩
/-- paravane/region.done -/
def xq174 : XF := ⟨12, .seq (
  .ops [
  ⟨some 2, .box 163 (.t 0), none⟩,
  ⟨some 4, .new 28 [(.int .i64 0), (.int .i64 0), (.int .i64 0), (.int .i64 0), (.int .i64 0), (.int .i64 0), (.int .i64 0), (.int .i64 0)], none⟩,
  ⟨some 5, .mv (.c (.int .i64 0)), none⟩]) (
  .seq (
  .seq (
  .ops [
  ⟨some 6, .mv (.t 1), none⟩,
  ⟨some 7, .bin .neq (.t 6) (.c (.int .i64 0)), none⟩]) (
  .cond (.t 7) (
   .seq (
   .ops [
  ⟨some 8, .build [(.int .i64 0), (.int .i64 0), (.int .i64 0), (.int .i64 0), (.int .i64 0), (.int .i64 0), (.int .i64 0), (.int .i64 0)] [], none⟩,
  ⟨some 9, .mv (.t 1), none⟩,
  ⟨none, .st 8 (.t 4) (.t 8), none⟩,
  ⟨some 5, .mv (.t 9), none⟩]) (
   .ret)) (
   .skip))) (
  .seq (
  .ops [
  ⟨some 10, .ldN 8 (.t 2), none⟩,
  ⟨some 11, .call (.c (.func (.func 171) [] [])) [(.t 10)], none⟩,
  ⟨none, .st 8 (.t 4) (.t 11), none⟩,
  ⟨some 5, .mv (.c (.int .i64 0)), none⟩]) (
  .ret))), [.cellN 4 8, .tmp 5]⟩
/-- (*paravane/paravaneref01.Hull).add -/
def xq175 : XF := ⟨78, .seq (
  .ops [
  ⟨some 3, .box 30 (.t 1), none⟩]) (
  .seq (
  .draw [
  (⟨some 6, .fad 0 (.t 3), none⟩, .calm),
  (⟨some 7, .ld1 (.t 6), none⟩, .reads 0 0),
  (⟨some 8, .fad 1 (.t 3), none⟩, .calm),
  (⟨some 9, .ld1 (.t 8), none⟩, .reads 0 0),
  (⟨some 10, .bin .add (.t 7) (.t 9), none⟩, .calm),
  (⟨some 11, .fad 0 (.t 3), none⟩, .calm),
  (⟨some 12, .ld1 (.t 11), none⟩, .reads 0 0),
  (⟨some 13, .fad 1 (.t 3), none⟩, .calm),
  (⟨some 14, .ld1 (.t 13), none⟩, .reads 0 0),
  (⟨some 15, .bin .sub (.t 12) (.t 14), none⟩, .calm),
  (⟨some 4, .mv (.t 10), none⟩, .calm),
  (⟨some 5, .mv (.t 15), none⟩, .calm)]) (
  .seq (
  .seq (
  .ops [
  ⟨some 16, .mv (.t 0), none⟩,
  ⟨some 17, .nilc (.t 16), none⟩,
  ⟨some 18, .fad 8 (.t 17), none⟩,
  ⟨some 19, .ld1 (.t 18), none⟩,
  ⟨some 20, .un .not (.t 19), none⟩]) (
  .cond (.t 20) (
   .ops [
  ⟨some 21, .mv (.t 0), none⟩,
  ⟨some 22, .mv (.t 0), none⟩,
  ⟨some 23, .fad 0 (.t 3), none⟩,
  ⟨some 24, .ld1 (.t 23), none⟩,
  ⟨some 25, .fad 0 (.t 3), none⟩,
  ⟨some 26, .ld1 (.t 25), none⟩,
  ⟨some 27, .build [(.int .i64 0), (.int .i64 0)] [(0, 1, (.t 24)), (1, 1, (.t 26))], none⟩,
  ⟨some 28, .fad 1 (.t 3), none⟩,
  ⟨some 29, .ld1 (.t 28), none⟩,
  ⟨some 30, .fad 1 (.t 3), none⟩,
  ⟨some 31, .ld1 (.t 30), none⟩,
  ⟨some 32, .build [(.int .i64 0), (.int .i64 0)] [(0, 1, (.t 29)), (1, 1, (.t 31))], none⟩,
  ⟨some 33, .mv (.t 4), none⟩,
  ⟨some 34, .mv (.t 4), none⟩,
  ⟨some 35, .build [(.int .i64 0), (.int .i64 0)] [(0, 1, (.t 33)), (1, 1, (.t 34))], none⟩,
  ⟨some 36, .mv (.t 5), none⟩,
  ⟨some 37, .mv (.t 5), none⟩,
  ⟨some 38, .build [(.int .i64 0), (.int .i64 0)] [(0, 1, (.t 36)), (1, 1, (.t 37))], none⟩,
  ⟨some 39, .build [(.int .i64 0), (.int .i64 0), (.int .i64 0), (.int .i64 0), (.int .i64 0), (.int .i64 0), (.int .i64 0), (.int .i64 0)] [(0, 2, (.t 27)), (2, 2, (.t 32)), (4, 2, (.t 35)), (6, 2, (.t 38))], none⟩,
  ⟨some 40, .nilc (.t 21), none⟩,
  ⟨some 41, .fad 0 (.t 40), none⟩,
  ⟨none, .st 8 (.t 41) (.t 39), none⟩,
  ⟨some 42, .nilc (.t 22), none⟩,
  ⟨some 43, .fad 8 (.t 42), none⟩,
  ⟨none, .st 1 (.t 43) (.c (.bool true)), none⟩]) (
   .skip))) (
  .draw [
  (⟨some 44, .mv (.t 0), none⟩, .calm),
  (⟨some 45, .mv (.t 0), none⟩, .calm),
  (⟨some 46, .nilc (.t 45), none⟩, .calm),
  (⟨some 47, .fad 0 (.t 46), none⟩, .calm),
  (⟨some 48, .fad 0 (.t 47), none⟩, .calm),
  (⟨some 49, .ldN 2 (.t 48), none⟩, .reads 0 0),
  (⟨some 50, .fad 0 (.t 3), none⟩, .calm),
  (⟨some 51, .ld1 (.t 50), none⟩, .reads 0 0),
  (⟨some 52, .call (.c (.func (.func 182) [] [])) [(.t 49), (.t 51)], none⟩, .anchor),
  (⟨some 53, .mv (.t 0), none⟩, .calm),
  (⟨some 54, .nilc (.t 53), none⟩, .calm),
  (⟨some 55, .fad 0 (.t 54), none⟩, .calm),
  (⟨some 56, .fad 2 (.t 55), none⟩, .calm),
  (⟨some 57, .ldN 2 (.t 56), none⟩, .reads 0 1),
  (⟨some 58, .fad 1 (.t 3), none⟩, .calm),
  (⟨some 59, .ld1 (.t 58), none⟩, .reads 0 1),
  (⟨some 60, .call (.c (.func (.func 182) [] [])) [(.t 57), (.t 59)], none⟩, .anchor),
  (⟨some 61, .mv (.t 0), none⟩, .calm),
  (⟨some 62, .nilc (.t 61), none⟩, .calm),
  (⟨some 63, .fad 0 (.t 62), none⟩, .calm),
  (⟨some 64, .fad 4 (.t 63), none⟩, .calm),
  (⟨some 65, .ldN 2 (.t 64), none⟩, .reads 0 2),
  (⟨some 66, .mv (.t 4), none⟩, .calm),
  (⟨some 67, .call (.c (.func (.func 182) [] [])) [(.t 65), (.t 66)], none⟩, .anchor),
  (⟨some 68, .mv (.t 0), none⟩, .calm),
  (⟨some 69, .nilc (.t 68), none⟩, .calm),
  (⟨some 70, .fad 0 (.t 69), none⟩, .calm),
  (⟨some 71, .fad 6 (.t 70), none⟩, .calm),
  (⟨some 72, .ldN 2 (.t 71), none⟩, .reads 0 3),
  (⟨some 73, .mv (.t 5), none⟩, .calm),
  (⟨some 74, .call (.c (.func (.func 182) [] [])) [(.t 72), (.t 73)], none⟩, .anchor),
  (⟨some 75, .build [(.int .i64 0), (.int .i64 0), (.int .i64 0), (.int .i64 0), (.int .i64 0), (.int .i64 0), (.int .i64 0), (.int .i64 0)] [(0, 2, (.t 52)), (2, 2, (.t 60)), (4, 2, (.t 67)), (6, 2, (.t 74))], none⟩, .calm),
  (⟨some 76, .nilc (.t 44), none⟩, .calm),
  (⟨some 77, .fad 0 (.t 76), none⟩, .calm),
    (⟨none, .st 8 (.t 77) (.t 75), none⟩, .anchor)]))), []⟩
/-- paravane/paravaneref01.plane -/
def xq176 : XF := ⟨16, .seq (
  .ops [
  ⟨some 1, .box 28 (.t 0), none⟩,
  ⟨some 2, .new 28 [(.int .i64 0), (.int .i64 0), (.int .i64 0), (.int .i64 0), (.int .i64 0), (.int .i64 0), (.int .i64 0), (.int .i64 0)], none⟩,
  ⟨some 3, .mv (.c (.int .i64 0)), none⟩]) (
  .seq (
  .seq (
  .ops [
  ⟨some 4, .fad 0 (.t 1), none⟩,
  ⟨some 5, .ldN 2 (.t 4), none⟩,
  ⟨some 6, .call (.c (.func (.func 140) [] [])) [(.t 5), (.c (.int .i64 32768))], none⟩,
  ⟨some 7, .un .not (.t 6), none⟩,
  ⟨some 8, .mv (.t 7), none⟩,
  ⟨some 9, .fad 2 (.t 1), some (8, false)⟩,
  ⟨some 10, .ldN 2 (.t 9), some (8, false)⟩,
  ⟨some 11, .call (.c (.func (.func 140) [] [])) [(.t 10), (.c (.int .i64 32768))], some (8, false)⟩,
  ⟨some 12, .un .not (.t 11), some (8, false)⟩,
  ⟨some 13, .pick (.t 8) (.c (.bool true)) (.t 12), none⟩]) (
  .cond (.t 13) (
   .seq (
   .ops [
  ⟨some 14, .build [(.int .i64 0), (.int .i64 0), (.int .i64 0), (.int .i64 0), (.int .i64 0), (.int .i64 0), (.int .i64 0), (.int .i64 0)] [], none⟩,
  ⟨none, .st 8 (.t 2) (.t 14), none⟩,
  ⟨some 3, .mv (.c (.int .i64 7)), none⟩]) (
   .ret)) (
   .skip))) (
  .seq (
  .ops [
  ⟨some 15, .ldN 8 (.t 1), none⟩,
  ⟨none, .st 8 (.t 2) (.t 15), none⟩,
  ⟨some 3, .mv (.c (.int .i64 0)), none⟩]) (
  .ret))), [.cellN 2 8, .tmp 3]⟩
/-- paravane/paravaneref01.added -/
def xq177 : XF := ⟨26, .seq (
  .ops [
  ⟨some 2, .box 28 (.t 0), none⟩,
  ⟨some 3, .box 28 (.t 1), none⟩,
  ⟨some 4, .new 28 [(.int .i64 0), (.int .i64 0), (.int .i64 0), (.int .i64 0), (.int .i64 0), (.int .i64 0), (.int .i64 0), (.int .i64 0)], none⟩]) (
  .seq (
  .draw [
  (⟨some 5, .fad 0 (.t 2), none⟩, .calm),
  (⟨some 6, .ldN 2 (.t 5), none⟩, .reads 0 0),
  (⟨some 7, .fad 0 (.t 3), none⟩, .calm),
  (⟨some 8, .ldN 2 (.t 7), none⟩, .reads 0 0),
  (⟨some 9, .call (.c (.func (.func 183) [] [])) [(.t 6), (.t 8)], none⟩, .anchor),
  (⟨some 10, .fad 2 (.t 2), none⟩, .calm),
  (⟨some 11, .ldN 2 (.t 10), none⟩, .reads 0 1),
  (⟨some 12, .fad 2 (.t 3), none⟩, .calm),
  (⟨some 13, .ldN 2 (.t 12), none⟩, .reads 0 1),
  (⟨some 14, .call (.c (.func (.func 183) [] [])) [(.t 11), (.t 13)], none⟩, .anchor),
  (⟨some 15, .fad 4 (.t 2), none⟩, .calm),
  (⟨some 16, .ldN 2 (.t 15), none⟩, .reads 0 2),
  (⟨some 17, .fad 4 (.t 3), none⟩, .calm),
  (⟨some 18, .ldN 2 (.t 17), none⟩, .reads 0 2),
  (⟨some 19, .call (.c (.func (.func 183) [] [])) [(.t 16), (.t 18)], none⟩, .anchor),
  (⟨some 20, .fad 6 (.t 2), none⟩, .calm),
  (⟨some 21, .ldN 2 (.t 20), none⟩, .reads 0 3),
  (⟨some 22, .fad 6 (.t 3), none⟩, .calm),
  (⟨some 23, .ldN 2 (.t 22), none⟩, .reads 0 3),
  (⟨some 24, .call (.c (.func (.func 183) [] [])) [(.t 21), (.t 23)], none⟩, .anchor),
  (⟨some 25, .build [(.int .i64 0), (.int .i64 0), (.int .i64 0), (.int .i64 0), (.int .i64 0), (.int .i64 0), (.int .i64 0), (.int .i64 0)] [(0, 2, (.t 9)), (2, 2, (.t 14)), (4, 2, (.t 19)), (6, 2, (.t 24))], none⟩, .calm),
    (⟨none, .st 8 (.t 4) (.t 25), none⟩, .anchor)]) (
  .ret)), [.cellN 4 8]⟩
/-- paravane/paravaneref01.single -/
def xq178 : XF := ⟨13, .seq (
  .ops [
  ⟨some 1, .box 30 (.t 0), none⟩,
  ⟨some 2, .new 28 [(.int .i64 0), (.int .i64 0), (.int .i64 0), (.int .i64 0), (.int .i64 0), (.int .i64 0), (.int .i64 0), (.int .i64 0)], none⟩]) (
  .seq (
  .ops [
  ⟨some 4, .build [(.int .i64 0), (.int .i64 0), (.int .i64 0), (.int .i64 0), (.int .i64 0), (.int .i64 0), (.int .i64 0), (.int .i64 0), (.bool false)] [], none⟩,
  ⟨some 5, .box 227 (.t 4), none⟩,
  ⟨some 3, .mv (.t 5), none⟩]) (
  .seq (
  .ops [
  ⟨some 6, .mv (.t 3), none⟩,
  ⟨some 7, .ldN 2 (.t 1), none⟩,
  ⟨some 8, .call (.c (.func (.func 175) [] [])) [(.t 6), (.t 7)], none⟩]) (
  .seq (
  .ops [
  ⟨some 9, .mv (.t 3), none⟩,
  ⟨some 10, .nilc (.t 9), none⟩,
  ⟨some 11, .fad 0 (.t 10), none⟩,
  ⟨some 12, .ldN 8 (.t 11), none⟩,
  ⟨none, .st 8 (.t 2) (.t 12), none⟩]) (
  .ret)))), [.cellN 2 8]⟩
/-- paravane/paravaneref01.two -/
def xq179 : XF := ⟨13, .seq (
  .ops [
  ⟨some 2, .box 28 (.t 0), none⟩,
  ⟨some 3, .box 28 (.t 1), none⟩,
  ⟨some 4, .mv (.c (.int .i64 0)), none⟩]) (
  .seq (
  .seq (
  .ops [
  ⟨some 6, .ldN 8 (.t 2), none⟩,
  ⟨some 7, .call (.c (.func (.func 101) [] [])) [(.t 6)], none⟩,
  ⟨some 5, .mv (.t 7), none⟩]) (
  .seq (
  .ops [
  ⟨some 8, .mv (.t 5), none⟩,
  ⟨some 9, .bin .neq (.t 8) (.c (.int .i64 0)), none⟩]) (
  .cond (.t 9) (
   .seq (
   .ops [
  ⟨some 10, .mv (.t 5), none⟩,
  ⟨some 4, .mv (.t 10), none⟩]) (
   .ret)) (
   .skip)))) (
  .seq (
  .ops [
  ⟨some 11, .ldN 8 (.t 3), none⟩,
  ⟨some 12, .call (.c (.func (.func 101) [] [])) [(.t 11)], none⟩,
  ⟨some 4, .mv (.t 12), none⟩]) (
  .ret))), [.tmp 4]⟩
/-- paravane/region.span -/
def xq180 : XF := ⟨16, .seq (
  .ops [
  ⟨some 2, .box 26 (.t 0), none⟩,
  ⟨some 3, .box 26 (.t 1), none⟩,
  ⟨some 4, .new 26 [(.int .i64 0), (.int .i64 0)], none⟩]) (
  .seq (
  .ops [
  ⟨some 5, .fad 0 (.t 2), none⟩,
  ⟨some 6, .ld1 (.t 5), none⟩,
  ⟨some 7, .fad 0 (.t 3), none⟩,
  ⟨some 8, .ld1 (.t 7), none⟩,
  ⟨some 9, .min [(.t 6), (.t 8)], none⟩,
  ⟨some 10, .fad 1 (.t 2), none⟩,
  ⟨some 11, .ld1 (.t 10), none⟩,
  ⟨some 12, .fad 1 (.t 3), none⟩,
  ⟨some 13, .ld1 (.t 12), none⟩,
  ⟨some 14, .max [(.t 11), (.t 13)], none⟩,
  ⟨some 15, .build [(.int .i64 0), (.int .i64 0)] [(0, 1, (.t 9)), (1, 1, (.t 14))], none⟩,
  ⟨none, .st 2 (.t 4) (.t 15), none⟩]) (
  .ret)), [.cellN 4 2]⟩
/-- (paravane/region.four).ends$1 -/
def xq181 : XF := ⟨34, .seq (
  .ops [
  ⟨some 2, .box 156 (.t 0), none⟩]) (
  .seq (
  .ops [
  ⟨some 6, .ldN 8 (.t 1), none⟩,
  ⟨some 7, .call (.c (.func (.func 151) [] [])) [(.t 6)], none⟩]) (
  .block 0 (
   .rfun (.t 7) [8] (
    .ops [
  ⟨some 3, .new 221 [(.int .i64 0), (.int .i64 0), (.int .i64 0)], none⟩,
  ⟨none, .st 3 (.t 3) (.t 8), none⟩]) (
    .block 1 (
     .seq (
     .draw [
  (⟨some 9, .fad 0 (.t 3), none⟩, .calm),
  (⟨some 10, .ld1 (.t 9), none⟩, .reads 0 0),
  (⟨some 11, .fad 1 (.t 3), none⟩, .calm),
  (⟨some 12, .ld1 (.t 11), none⟩, .reads 0 0),
  (⟨some 13, .build [(.int .i64 0), (.int .i64 0)] [(0, 1, (.t 10)), (1, 1, (.t 12))], none⟩, .calm),
  (⟨some 14, .fad 0 (.t 3), none⟩, .calm),
  (⟨some 15, .ld1 (.t 14), none⟩, .reads 0 1),
  (⟨some 16, .fad 2 (.t 3), none⟩, .calm),
  (⟨some 17, .ld1 (.t 16), none⟩, .reads 0 1),
  (⟨some 18, .build [(.int .i64 0), (.int .i64 0)] [(0, 1, (.t 15)), (1, 1, (.t 17))], none⟩, .calm),
  (⟨some 4, .new 30 [(.int .i64 0), (.int .i64 0)], none⟩, .new),
  (⟨some 5, .new 30 [(.int .i64 0), (.int .i64 0)], none⟩, .new),
       (⟨none, .st 2 (.t 4) (.t 13), none⟩, .anchor),
       (⟨none, .st 2 (.t 5) (.t 18), none⟩, .anchor)]) (
     .seq (
     .ops [
  ⟨some 19, .ld1 (.t 2), none⟩,
  ⟨some 20, .ldN 2 (.t 4), none⟩,
  ⟨some 21, .call (.t 19) [(.t 20)], none⟩,
  ⟨some 22, .un .not (.t 21), none⟩,
  ⟨some 23, .mv (.t 22), none⟩,
  ⟨some 24, .ldN 2 (.t 4), some (23, false)⟩,
  ⟨some 25, .ldN 2 (.t 5), some (23, false)⟩,
  ⟨some 26, .eqs true 2 [0, 1] (.t 24) (.t 25), some (23, false)⟩,
  ⟨some 27, .mv (.t 26), some (23, false)⟩,
  ⟨some 28, .ld1 (.t 2), some (27, true)⟩,
  ⟨some 29, .ldN 2 (.t 5), some (27, true)⟩,
  ⟨some 30, .call (.t 28) [(.t 29)], some (27, true)⟩,
  ⟨some 31, .un .not (.t 30), some (27, true)⟩,
  ⟨some 32, .pick (.t 27) (.t 31) (.c (.bool false)), some (23, false)⟩,
  ⟨some 33, .pick (.t 23) (.c (.bool true)) (.t 32), none⟩]) (
     .cond (.t 33) (
      .ret) (
      .skip)))))))), []⟩
/-- paravane/paravaneref01.with -/
def xq182 : XF := ⟨14, .seq (
  .ops [
  ⟨some 2, .box 26 (.t 0), none⟩,
  ⟨some 4, .new 26 [(.int .i64 0), (.int .i64 0)], none⟩]) (
  .seq (
  .ops [
  ⟨some 5, .fad 0 (.t 2), none⟩,
  ⟨some 6, .ld1 (.t 5), none⟩,
  ⟨some 7, .mv (.t 1), none⟩,
  ⟨some 8, .min [(.t 6), (.t 7)], none⟩,
  ⟨some 9, .fad 1 (.t 2), none⟩,
  ⟨some 10, .ld1 (.t 9), none⟩,
  ⟨some 11, .mv (.t 1), none⟩,
  ⟨some 12, .max [(.t 10), (.t 11)], none⟩,
  ⟨some 13, .build [(.int .i64 0), (.int .i64 0)] [(0, 1, (.t 8)), (1, 1, (.t 12))], none⟩,
  ⟨none, .st 2 (.t 4) (.t 13), none⟩]) (
  .ret)), [.cellN 4 2]⟩
/-- paravane/paravaneref01.plus -/
def xq183 : XF := ⟨16, .seq (
  .ops [
  ⟨some 2, .box 26 (.t 0), none⟩,
  ⟨some 3, .box 26 (.t 1), none⟩,
  ⟨some 4, .new 26 [(.int .i64 0), (.int .i64 0)], none⟩]) (
  .seq (
  .ops [
  ⟨some 5, .fad 0 (.t 2), none⟩,
  ⟨some 6, .ld1 (.t 5), none⟩,
  ⟨some 7, .fad 0 (.t 3), none⟩,
  ⟨some 8, .ld1 (.t 7), none⟩,
  ⟨some 9, .bin .add (.t 6) (.t 8), none⟩,
  ⟨some 10, .fad 1 (.t 2), none⟩,
  ⟨some 11, .ld1 (.t 10), none⟩,
  ⟨some 12, .fad 1 (.t 3), none⟩,
  ⟨some 13, .ld1 (.t 12), none⟩,
  ⟨some 14, .bin .add (.t 11) (.t 13), none⟩,
  ⟨some 15, .build [(.int .i64 0), (.int .i64 0)] [(0, 1, (.t 9)), (1, 1, (.t 14))], none⟩,
  ⟨none, .st 2 (.t 4) (.t 15), none⟩]) (
  .ret)), [.cellN 4 2]⟩
theorem kq3 : cFn Tryz.prog 3 = some xq3 := by kernel_rfl
theorem kq13 : cFn Tryz.prog 13 = some xq13 := by kernel_rfl
theorem kq14 : cFn Tryz.prog 14 = some xq14 := by kernel_rfl
theorem kq15 : cFn Tryz.prog 15 = some xq15 := by kernel_rfl
theorem kq30 : cFn Tryz.prog 30 = some xq30 := by kernel_rfl
theorem kq41 : cFn Tryz.prog 41 = some xq41 := by kernel_rfl
theorem kq42 : cFn Tryz.prog 42 = some xq42 := by kernel_rfl
theorem kq43 : cFn Tryz.prog 43 = some xq43 := by kernel_rfl
theorem kq44 : cFn Tryz.prog 44 = some xq44 := by kernel_rfl
theorem kq45 : cFn Tryz.prog 45 = some xq45 := by kernel_rfl
theorem kq46 : cFn Tryz.prog 46 = some xq46 := by kernel_rfl
theorem kq47 : cFn Tryz.prog 47 = some xq47 := by kernel_rfl
theorem kq50 : cFn Tryz.prog 50 = some xq50 := by kernel_rfl
theorem kq61 : cFn Tryz.prog 61 = some xq61 := by kernel_rfl
theorem kq72 : cFn Tryz.prog 72 = some xq72 := by kernel_rfl
theorem kq78 : cFn Tryz.prog 78 = some xq78 := by kernel_rfl
theorem kq83 : cFn Tryz.prog 83 = some xq83 := by kernel_rfl
theorem kq84 : cFn Tryz.prog 84 = some xq84 := by kernel_rfl
theorem kq85 : cFn Tryz.prog 85 = some xq85 := by kernel_rfl
theorem kq86 : cFn Tryz.prog 86 = some xq86 := by kernel_rfl
theorem kq87 : cFn Tryz.prog 87 = some xq87 := by kernel_rfl
theorem kq88 : cFn Tryz.prog 88 = some xq88 := by kernel_rfl
theorem kq89 : cFn Tryz.prog 89 = some xq89 := by kernel_rfl
theorem kq90 : cFn Tryz.prog 90 = some xq90 := by kernel_rfl
theorem kq92 : cFn Tryz.prog 92 = some xq92 := by kernel_rfl
theorem kq94 : cFn Tryz.prog 94 = some xq94 := by kernel_rfl
theorem kq95 : cFn Tryz.prog 95 = some xq95 := by kernel_rfl
theorem kq96 : cFn Tryz.prog 96 = some xq96 := by kernel_rfl
theorem kq97 : cFn Tryz.prog 97 = some xq97 := by kernel_rfl
theorem kq98 : cFn Tryz.prog 98 = some xq98 := by kernel_rfl
theorem kq99 : cFn Tryz.prog 99 = some xq99 := by kernel_rfl
theorem kq100 : cFn Tryz.prog 100 = some xq100 := by kernel_rfl
theorem kq101 : cFn Tryz.prog 101 = some xq101 := by kernel_rfl
theorem kq102 : cFn Tryz.prog 102 = some xq102 := by kernel_rfl
theorem kq103 : cFn Tryz.prog 103 = some xq103 := by kernel_rfl
theorem kq104 : cFn Tryz.prog 104 = some xq104 := by kernel_rfl
theorem kq105 : cFn Tryz.prog 105 = some xq105 := by kernel_rfl
theorem kq106 : cFn Tryz.prog 106 = some xq106 := by kernel_rfl
theorem kq107 : cFn Tryz.prog 107 = some xq107 := by kernel_rfl
theorem kq111 : cFn Tryz.prog 111 = some xq111 := by kernel_rfl
theorem kq112 : cFn Tryz.prog 112 = some xq112 := by kernel_rfl
theorem kq113 : cFn Tryz.prog 113 = some xq113 := by kernel_rfl
theorem kq118 : cFn Tryz.prog 118 = some xq118 := by kernel_rfl
theorem kq120 : cFn Tryz.prog 120 = some xq120 := by kernel_rfl
theorem kq121 : cFn Tryz.prog 121 = some xq121 := by kernel_rfl
theorem kq122 : cFn Tryz.prog 122 = some xq122 := by kernel_rfl
theorem kq123 : cFn Tryz.prog 123 = some xq123 := by kernel_rfl
theorem kq124 : cFn Tryz.prog 124 = some xq124 := by kernel_rfl
theorem kq125 : cFn Tryz.prog 125 = some xq125 := by kernel_rfl
theorem kq126 : cFn Tryz.prog 126 = some xq126 := by kernel_rfl
theorem kq127 : cFn Tryz.prog 127 = some xq127 := by kernel_rfl
theorem kq128 : cFn Tryz.prog 128 = some xq128 := by kernel_rfl
theorem kq129 : cFn Tryz.prog 129 = some xq129 := by kernel_rfl
theorem kq130 : cFn Tryz.prog 130 = some xq130 := by kernel_rfl
theorem kq131 : cFn Tryz.prog 131 = some xq131 := by kernel_rfl
theorem kq132 : cFn Tryz.prog 132 = some xq132 := by kernel_rfl
theorem kq133 : cFn Tryz.prog 133 = some xq133 := by kernel_rfl
theorem kq134 : cFn Tryz.prog 134 = some xq134 := by kernel_rfl
theorem kq135 : cFn Tryz.prog 135 = some xq135 := by kernel_rfl
theorem kq136 : cFn Tryz.prog 136 = some xq136 := by kernel_rfl
theorem kq137 : cFn Tryz.prog 137 = some xq137 := by kernel_rfl
theorem kq138 : cFn Tryz.prog 138 = some xq138 := by kernel_rfl
theorem kq139 : cFn Tryz.prog 139 = some xq139 := by kernel_rfl
theorem kq140 : cFn Tryz.prog 140 = some xq140 := by kernel_rfl
theorem kq141 : cFn Tryz.prog 141 = some xq141 := by kernel_rfl
theorem kq142 : cFn Tryz.prog 142 = some xq142 := by kernel_rfl
theorem kq143 : cFn Tryz.prog 143 = some xq143 := by kernel_rfl
theorem kq144 : cFn Tryz.prog 144 = some xq144 := by kernel_rfl
theorem kq145 : cFn Tryz.prog 145 = some xq145 := by kernel_rfl
theorem kq147 : cFn Tryz.prog 147 = some xq147 := by kernel_rfl
theorem kq148 : cFn Tryz.prog 148 = some xq148 := by kernel_rfl
theorem kq149 : cFn Tryz.prog 149 = some xq149 := by kernel_rfl
theorem kq150 : cFn Tryz.prog 150 = some xq150 := by kernel_rfl
theorem kq151 : cFn Tryz.prog 151 = some xq151 := by kernel_rfl
theorem kq152 : cFn Tryz.prog 152 = some xq152 := by kernel_rfl
theorem kq153 : cFn Tryz.prog 153 = some xq153 := by kernel_rfl
theorem kq154 : cFn Tryz.prog 154 = some xq154 := by kernel_rfl
theorem kq155 : cFn Tryz.prog 155 = some xq155 := by kernel_rfl
theorem kq156 : cFn Tryz.prog 156 = some xq156 := by kernel_rfl
theorem kq157 : cFn Tryz.prog 157 = some xq157 := by kernel_rfl
theorem kq158 : cFn Tryz.prog 158 = some xq158 := by kernel_rfl
theorem kq159 : cFn Tryz.prog 159 = some xq159 := by kernel_rfl
theorem kq160 : cFn Tryz.prog 160 = some xq160 := by kernel_rfl
theorem kq161 : cFn Tryz.prog 161 = some xq161 := by kernel_rfl
theorem kq162 : cFn Tryz.prog 162 = some xq162 := by kernel_rfl
theorem kq163 : cFn Tryz.prog 163 = some xq163 := by kernel_rfl
theorem kq164 : cFn Tryz.prog 164 = some xq164 := by kernel_rfl
theorem kq165 : cFn Tryz.prog 165 = some xq165 := by kernel_rfl
theorem kq166 : cFn Tryz.prog 166 = some xq166 := by kernel_rfl
theorem kq167 : cFn Tryz.prog 167 = some xq167 := by kernel_rfl
theorem kq168 : cFn Tryz.prog 168 = some xq168 := by kernel_rfl
theorem kq169 : cFn Tryz.prog 169 = some xq169 := by kernel_rfl
theorem kq170 : cFn Tryz.prog 170 = some xq170 := by kernel_rfl
theorem kq171 : cFn Tryz.prog 171 = some xq171 := by kernel_rfl
theorem kq172 : cFn Tryz.prog 172 = some xq172 := by kernel_rfl
theorem kq173 : cFn Tryz.prog 173 = some xq173 := by kernel_rfl
theorem kq174 : cFn Tryz.prog 174 = some xq174 := by kernel_rfl
theorem kq175 : cFn Tryz.prog 175 = some xq175 := by kernel_rfl
theorem kq176 : cFn Tryz.prog 176 = some xq176 := by kernel_rfl
theorem kq177 : cFn Tryz.prog 177 = some xq177 := by kernel_rfl
theorem kq178 : cFn Tryz.prog 178 = some xq178 := by kernel_rfl
theorem kq179 : cFn Tryz.prog 179 = some xq179 := by kernel_rfl
theorem kq180 : cFn Tryz.prog 180 = some xq180 := by kernel_rfl
theorem kq181 : cFn Tryz.prog 181 = some xq181 := by kernel_rfl
theorem kq182 : cFn Tryz.prog 182 = some xq182 := by kernel_rfl
theorem kq183 : cFn Tryz.prog 183 = some xq183 := by kernel_rfl
end Go.Proofs.YtpccafeedfpbaaaGreat.C
