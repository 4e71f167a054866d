/-
 Part of the proof of TapeChecked: what functions of the program and of the statement come to, walked by the rules. No condition beyond those in each theorem.
-/
import Derived.Test.YtlfkmgpngkbhpaaGreatDoorTA
import Derived.Test.YtlfkmgpngkbhpaaGreatDoorPvF
section
open Go PvL Go.Proofs
set_option linter.unusedVariables false
namespace Go.Proofs.YtlfkmgpngkbhpaaGreatDoor.C
def x8 : XF := ⟨24, .seq (
 .ops [
  ⟨(some 2), .mv (.c (.bool false)), none⟩]) (
 .seq (
 .ops [
  ⟨(some 4), .mv (.t 0), none⟩,
  ⟨(some 5), .call (.c (.func (.func 35) [] [])) [(.t 4)], none⟩,
  ⟨(some 3), .mv (.t 5), none⟩]) (
 .seq (
 .seq (
 .ops [
  ⟨(some 6), .mv (.t 3), none⟩,
  ⟨(some 7), .call (.c (.func (.func 45) [] [])) [(.t 6), (.c (.int .i64 0)), (.c (.int .i64 65535))], none⟩,
  ⟨(some 8), .un .not (.t 7), none⟩]) (
 .cond (.t 8) (
  .seq (
  .ops [
   ⟨(some 2), .mv (.c (.bool false)), none⟩]) (
  .ret)) (
  .skip))) (
 .seq (
 .ops [
  ⟨(some 9), .mv (.t 0), none⟩,
  ⟨(some 10), .mv (.t 3), none⟩,
  ⟨(some 11), .bin .quo (.t 10) (.c (.int .i64 256)), none⟩,
  ⟨(some 12), .conv .u8 (.t 11), none⟩,
  ⟨(some 13), .mv (.t 3), none⟩,
  ⟨(some 14), .bin .rem (.t 13) (.c (.int .i64 256)), none⟩,
  ⟨(some 15), .conv .u8 (.t 14), none⟩,
  ⟨(some 16), .bsl 5 1 2 [(.int .u8 0)] [(0, 1, (.t 12)), (1, 1, (.t 15))], none⟩,
  ⟨(some 17), .bstr (.t 16), none⟩,
  ⟨(some 18), .bin .add (.t 9) (.t 17), none⟩,
  ⟨(some 19), .call (.c (.func (.func 35) [] [])) [(.t 18)], none⟩,
  ⟨(some 20), .bin .eql (.t 19) (.c (.int .i64 0)), none⟩,
  ⟨(some 21), .mv (.t 20), none⟩,
  ⟨(some 22), .call (.c (.func (.func 32) [] [])) [], some (21, true)⟩,
  ⟨(some 23), .pick (.t 21) (.t 22) (.c (.bool false)), none⟩,
  ⟨(some 2), .mv (.t 23), none⟩]) (
 .ret)))), [.tmp 2]⟩
def x35 : XF := ⟨29, .seq (
 .ops [
  ⟨(some 2), .mv (.c (.int .i64 0)), none⟩]) (
 .seq (
 .ops [
  ⟨(some 3), .mv (.c (.int .i64 65535)), none⟩]) (
 .seq (
 .seq (
 .ops [
  ⟨(some 5), .mv (.t 0), none⟩,
  ⟨(some 6), .len .str (.t 5), none⟩,
  ⟨(some 7), .mv (.c (.int .i64 0)), none⟩]) (
 .block 0 (
  .loop (
   .seq (
   .ops [
    ⟨(some 8), .bin .lss (.t 7) (.t 6), none⟩]) (
   .seq (
   .cond (.t 8) (
    .skip) (
    .exit 0)) (
   .seq (
   .block 1 (
    .seq (
    .ops [
     ⟨(some 9), .mv (.t 7), none⟩,
     ⟨(some 4), .mv (.t 9), none⟩]) (
    .seq (
    .ops [
     ⟨(some 10), .mv (.t 3), none⟩,
     ⟨(some 11), .mv (.t 0), none⟩,
     ⟨(some 12), .mv (.t 4), none⟩,
     ⟨(some 13), .idxS (.t 11) (.t 12), none⟩,
     ⟨(some 14), .conv .i64 (.t 13), none⟩,
     ⟨(some 15), .bin .shl (.t 14) (.c (.int .u64 8)), none⟩,
     ⟨(some 16), .bin .xor (.t 10) (.t 15), none⟩,
     ⟨(some 3), .mv (.t 16), none⟩]) (
    .seq (
    .ops [
     ⟨(some 17), .mv (.c (.int .i64 0)), none⟩]) (
    .block 2 (
     .loop (
      .seq (
      .ops [
       ⟨(some 18), .bin .lss (.t 17) (.c (.int .i64 8)), none⟩]) (
      .seq (
      .cond (.t 18) (
       .skip) (
       .exit 2)) (
      .seq (
      .block 3 (
       .seq (
       .ops [
        ⟨(some 19), .mv (.t 3), none⟩,
        ⟨(some 20), .bin .shl (.t 19) (.c (.int .u64 1)), none⟩,
        ⟨(some 3), .mv (.t 20), none⟩]) (
       .seq (
       .ops [
        ⟨(some 21), .mv (.t 3), none⟩,
        ⟨(some 22), .bin .gtr (.t 21) (.c (.int .i64 65535)), none⟩]) (
       .cond (.t 22) (
        .ops [
         ⟨(some 23), .mv (.t 3), none⟩,
         ⟨(some 24), .bin .and (.t 23) (.c (.int .i64 65535)), none⟩,
         ⟨(some 25), .bin .xor (.t 24) (.c (.int .i64 4129)), none⟩,
         ⟨(some 3), .mv (.t 25), none⟩]) (
        .skip))))) (
      .ops [
       ⟨(some 26), .bin .add (.t 17) (.c (.int .i64 1)), none⟩,
       ⟨(some 17), .mv (.t 26), none⟩])))))))))) (
   .ops [
    ⟨(some 27), .bin .add (.t 7) (.c (.int .i64 1)), none⟩,
    ⟨(some 7), .mv (.t 27), none⟩]))))))) (
 .seq (
 .ops [
  ⟨(some 28), .mv (.t 3), none⟩,
  ⟨(some 2), .mv (.t 28), none⟩]) (
 .ret)))), [.tmp 2]⟩
def x45 : XF := ⟨15, .seq (
 .ops [
  ⟨(some 6), .mv (.c (.bool false)), none⟩]) (
 .seq (
 .ops [
  ⟨(some 7), .mv (.t 0), none⟩,
  ⟨(some 8), .mv (.t 1), none⟩,
  ⟨(some 9), .bin .geq (.t 7) (.t 8), none⟩,
  ⟨(some 10), .mv (.t 9), none⟩,
  ⟨(some 11), .mv (.t 0), some (10, true)⟩,
  ⟨(some 12), .mv (.t 2), some (10, true)⟩,
  ⟨(some 13), .bin .leq (.t 11) (.t 12), some (10, true)⟩,
  ⟨(some 14), .pick (.t 10) (.t 13) (.c (.bool false)), none⟩,
  ⟨(some 6), .mv (.t 14), none⟩]) (
 .ret)), [.tmp 6]⟩
theorem k8 : cFn Tryz.prog 8 = some x8 := by kernel_rfl
theorem k35 : cFn Tryz.prog 35 = some x35 := by kernel_rfl
theorem k45 : cFn Tryz.prog 45 = some x45 := by kernel_rfl
end Go.Proofs.YtlfkmgpngkbhpaaGreatDoor.C
end
