/-
 Part of the proof of TapeRicher: what functions of the program and of the statement come to,walked by the rules. No condition beyond those in each theorem.
-/
import Derived.Test.YtbfnnllgdioccaaGreatDoorTA
import Derived.Test.YtbfnnllgdioccaaGreatDoorPvF
section
open Go PvL Go.Proofs
set_option linter.unusedVariables false
namespace Go.Proofs.YtbfnnllgdioccaaGreatDoor.C
def x3:XF:=⟨55,.seq (
 .ops [
  ⟨(some 3),.box 24 (.t 0),none⟩,
  ⟨(some 5),.box 26 (.t 2),none⟩,
  ⟨(some 6),.mv (.c (.bool false)),none⟩]) (
 .seq (
 .ops [
  ⟨(some 12),.ldN 2 (.t 3),none⟩,
  ⟨(some 13),.mv (.t 1),none⟩,
  ⟨(some 14),.call (.c (.func (.func 14) [] [])) [(.t 12),(.t 13)],none⟩,
  ⟨(some 11),.mv (.t 14),none⟩,
  ⟨(some 15),.ext 0 (.t 11),none⟩,
  ⟨(some 16),.ext 1 (.t 11),none⟩,
  ⟨(some 7),.mv (.t 15),none⟩,
  ⟨(some 8),.mv (.t 16),none⟩]) (
 .seq (
 .ops [
  ⟨(some 18),.ldN 2 (.t 3),none⟩,
  ⟨(some 19),.mv (.t 1),none⟩,
  ⟨(some 20),.call (.c (.func (.func 15) [] [])) [(.t 18),(.t 19)],none⟩,
  ⟨(some 17),.mv (.t 20),none⟩,
  ⟨(some 21),.ext 0 (.t 17),none⟩,
  ⟨(some 22),.ext 1 (.t 17),none⟩,
  ⟨(some 9),.mv (.t 21),none⟩,
  ⟨(some 10),.mv (.t 22),none⟩]) (
 .seq (
 .seq (
 .ops [
  ⟨(some 23),.mv (.t 7),none⟩,
  ⟨(some 24),.mv (.t 9),none⟩,
  ⟨(some 25),.call (.c (.func (.func 16) [] [])) [(.t 23),(.t 24)],none⟩,
  ⟨(some 26),.un .not (.t 25),none⟩,
  ⟨(some 27),.mv (.t 26),none⟩,
  ⟨(some 28),.mv (.t 8),some (27,false)⟩,
  ⟨(some 29),.mv (.t 10),some (27,false)⟩,
  ⟨(some 30),.bin .neq (.t 28) (.t 29),some (27,false)⟩,
  ⟨(some 31),.pick (.t 27) (.c (.bool true)) (.t 30),none⟩]) (
 .cond (.t 31) (
  .seq (
  .ops [
   ⟨(some 6),.mv (.c (.bool false)),none⟩]) (
  .ret)) (
  .skip))) (
 .seq (
 .ops [
  ⟨(some 33),.ldN 2 (.t 3),none⟩,
  ⟨(some 34),.ldN 5 (.t 5),none⟩,
  ⟨(some 35),.call (.c (.func (.func 17) [] [])) [(.t 33),(.t 34)],none⟩,
  ⟨(some 32),.mv (.t 35),none⟩,
  ⟨(some 36),.ext 0 (.t 32),none⟩,
  ⟨(some 37),.ext 1 (.t 32),none⟩,
  ⟨(some 7),.mv (.t 36),none⟩,
  ⟨(some 8),.mv (.t 37),none⟩]) (
 .seq (
 .ops [
  ⟨(some 39),.ldN 2 (.t 3),none⟩,
  ⟨(some 40),.ldN 5 (.t 5),none⟩,
  ⟨(some 41),.call (.c (.func (.func 18) [] [])) [(.t 39),(.t 40)],none⟩,
  ⟨(some 38),.mv (.t 41),none⟩,
  ⟨(some 42),.ext 0 (.t 38),none⟩,
  ⟨(some 43),.ext 1 (.t 38),none⟩,
  ⟨(some 9),.mv (.t 42),none⟩,
  ⟨(some 10),.mv (.t 43),none⟩]) (
 .seq (
 .ops [
  ⟨(some 44),.mv (.t 7),none⟩,
  ⟨(some 45),.mv (.t 9),none⟩,
  ⟨(some 46),.call (.c (.func (.func 16) [] [])) [(.t 44),(.t 45)],none⟩,
  ⟨(some 47),.mv (.t 46),none⟩,
  ⟨(some 48),.mv (.t 8),some (47,true)⟩,
  ⟨(some 49),.mv (.t 10),some (47,true)⟩,
  ⟨(some 50),.bin .eql (.t 48) (.t 49),some (47,true)⟩,
  ⟨(some 51),.pick (.t 47) (.t 50) (.c (.bool false)),none⟩,
  ⟨(some 52),.mv (.t 51),none⟩,
  ⟨(some 53),.call (.c (.func (.func 19) [] [])) [],some (52,true)⟩,
  ⟨(some 54),.pick (.t 52) (.t 53) (.c (.bool false)),none⟩,
  ⟨(some 6),.mv (.t 54),none⟩]) (
 .ret))))))),[.tmp 6]⟩
def x4:XF:=⟨68,.seq (
 .ops [
  ⟨(some 4),.mv (.c (.bool false)),none⟩]) (
 .seq (
 .ops [
  ⟨(some 11),.mv (.t 0),none⟩,
  ⟨(some 12),.call (.c (.func (.func 20) [] [])) [(.t 11)],none⟩,
  ⟨(some 10),.mv (.t 12),none⟩,
  ⟨(some 13),.ext 0 (.t 10),none⟩,
  ⟨(some 14),.ext 1 (.t 10),none⟩,
  ⟨(some 5),.mv (.t 13),none⟩,
  ⟨(some 6),.mv (.t 14),none⟩]) (
 .seq (
 .seq (
 .ops [
  ⟨(some 15),.mv (.t 6),none⟩,
  ⟨(some 16),.bin .eql (.t 15) (.c (.int .i64 0)),none⟩]) (
 .cond (.t 16) (
  .seq (
  .ops [
   ⟨(some 18),.mv (.t 5),none⟩,
   ⟨(some 19),.call (.c (.func (.func 21) [] [])) [(.t 18)],none⟩,
   ⟨(some 17),.mv (.t 19),none⟩,
   ⟨(some 20),.ext 0 (.t 17),none⟩,
   ⟨(some 21),.ext 1 (.t 17),none⟩,
   ⟨(some 7),.mv (.t 20),none⟩,
   ⟨(some 8),.mv (.t 21),none⟩]) (
  .seq (
  .ops [
   ⟨(some 22),.mv (.t 8),none⟩,
   ⟨(some 23),.bin .neq (.t 22) (.c (.int .i64 0)),none⟩,
   ⟨(some 24),.mv (.t 23),none⟩,
   ⟨(some 25),.mv (.t 7),some (24,false)⟩,
   ⟨(some 26),.mv (.t 0),some (24,false)⟩,
   ⟨(some 27),.call (.c (.func (.func 22) [] [])) [(.t 25),(.t 26)],some (24,false)⟩,
   ⟨(some 28),.un .not (.t 27),some (24,false)⟩,
   ⟨(some 29),.pick (.t 24) (.c (.bool true)) (.t 28),none⟩,
   ⟨(some 30),.mv (.t 29),none⟩,
   ⟨(some 31),.mv (.t 5),some (30,false)⟩,
   ⟨(some 32),.len .str (.t 31),some (30,false)⟩,
   ⟨(some 33),.mv (.t 0),some (30,false)⟩,
   ⟨(some 34),.len .sl (.t 33),some (30,false)⟩,
   ⟨(some 35),.bin .mul (.c (.int .i64 29)) (.t 34),some (30,false)⟩,
   ⟨(some 36),.bin .neq (.t 32) (.t 35),some (30,false)⟩,
   ⟨(some 37),.pick (.t 30) (.c (.bool true)) (.t 36),none⟩]) (
  .cond (.t 37) (
   .seq (
   .ops [
    ⟨(some 4),.mv (.c (.bool false)),none⟩]) (
   .ret)) (
   .skip)))) (
  .seq (
  .ops [
   ⟨(some 38),.mv (.t 5),none⟩,
   ⟨(some 39),.bin .neq (.t 38) (.c (.str ⟨#[]⟩)),none⟩]) (
  .cond (.t 39) (
   .seq (
   .ops [
    ⟨(some 4),.mv (.c (.bool false)),none⟩]) (
   .ret)) (
   .skip))))) (
 .seq (
 .ops [
  ⟨(some 41),.mv (.t 1),none⟩,
  ⟨(some 42),.call (.c (.func (.func 21) [] [])) [(.t 41)],none⟩,
  ⟨(some 40),.mv (.t 42),none⟩,
  ⟨(some 43),.ext 0 (.t 40),none⟩,
  ⟨(some 44),.ext 1 (.t 40),none⟩,
  ⟨(some 9),.mv (.t 43),none⟩,
  ⟨(some 6),.mv (.t 44),none⟩]) (
 .seq (
 .seq (
 .ops [
  ⟨(some 45),.mv (.t 6),none⟩,
  ⟨(some 46),.bin .neq (.t 45) (.c (.int .i64 0)),none⟩]) (
 .cond (.t 46) (
  .seq (
  .ops [
   ⟨(some 47),.mv (.t 9),none⟩,
   ⟨(some 48),.len .sl (.t 47),none⟩,
   ⟨(some 49),.bin .eql (.t 48) (.c (.int .i64 0)),none⟩,
   ⟨(some 50),.mv (.t 49),none⟩,
   ⟨(some 51),.call (.c (.func (.func 19) [] [])) [],some (50,true)⟩,
   ⟨(some 52),.pick (.t 50) (.t 51) (.c (.bool false)),none⟩,
   ⟨(some 4),.mv (.t 52),none⟩]) (
  .ret)) (
  .skip))) (
 .seq (
 .ops [
  ⟨(some 54),.mv (.t 9),none⟩,
  ⟨(some 55),.call (.c (.func (.func 20) [] [])) [(.t 54)],none⟩,
  ⟨(some 53),.mv (.t 55),none⟩,
  ⟨(some 56),.ext 0 (.t 53),none⟩,
  ⟨(some 57),.ext 1 (.t 53),none⟩,
  ⟨(some 5),.mv (.t 56),none⟩,
  ⟨(some 6),.mv (.t 57),none⟩]) (
 .seq (
 .ops [
  ⟨(some 58),.mv (.t 6),none⟩,
  ⟨(some 59),.bin .eql (.t 58) (.c (.int .i64 0)),none⟩,
  ⟨(some 60),.mv (.t 59),none⟩,
  ⟨(some 61),.mv (.t 5),some (60,true)⟩,
  ⟨(some 62),.mv (.t 1),some (60,true)⟩,
  ⟨(some 63),.bin .eql (.t 61) (.t 62),some (60,true)⟩,
  ⟨(some 64),.pick (.t 60) (.t 63) (.c (.bool false)),none⟩,
  ⟨(some 65),.mv (.t 64),none⟩,
  ⟨(some 66),.call (.c (.func (.func 19) [] [])) [],some (65,true)⟩,
  ⟨(some 67),.pick (.t 65) (.t 66) (.c (.bool false)),none⟩,
  ⟨(some 4),.mv (.t 67),none⟩]) (
 .ret))))))),[.tmp 4]⟩
def x5:XF:=⟨32,.seq (
 .ops [
  ⟨(some 2),.box 24 (.t 0),none⟩,
  ⟨(some 3),.box 24 (.t 1),none⟩,
  ⟨(some 4),.mv (.c (.bool false)),none⟩]) (
 .seq (
 .ops [
  ⟨(some 10),.ldN 2 (.t 2),none⟩,
  ⟨(some 11),.ldN 2 (.t 3),none⟩,
  ⟨(some 12),.call (.c (.func (.func 23) [] [])) [(.t 10),(.t 11)],none⟩,
  ⟨(some 9),.mv (.t 12),none⟩,
  ⟨(some 13),.ext 0 (.t 9),none⟩,
  ⟨(some 14),.ext 1 (.t 9),none⟩,
  ⟨(some 5),.new 24 [(.str ⟨#[]⟩),(.slice none 0 true 0)],none⟩,
  ⟨none,.st 2 (.t 5) (.t 13),none⟩,
  ⟨(some 6),.mv (.t 14),none⟩]) (
 .seq (
 .ops [
  ⟨(some 16),.ldN 2 (.t 2),none⟩,
  ⟨(some 17),.ldN 2 (.t 3),none⟩,
  ⟨(some 18),.call (.c (.func (.func 24) [] [])) [(.t 16),(.t 17)],none⟩,
  ⟨(some 15),.mv (.t 18),none⟩,
  ⟨(some 19),.ext 0 (.t 15),none⟩,
  ⟨(some 20),.ext 1 (.t 15),none⟩,
  ⟨(some 7),.new 24 [(.str ⟨#[]⟩),(.slice none 0 true 0)],none⟩,
  ⟨none,.st 2 (.t 7) (.t 19),none⟩,
  ⟨(some 8),.mv (.t 20),none⟩]) (
 .seq (
 .ops [
  ⟨(some 21),.ldN 2 (.t 5),none⟩,
  ⟨(some 22),.ldN 2 (.t 7),none⟩,
  ⟨(some 23),.call (.c (.func (.func 25) [] [])) [(.t 21),(.t 22)],none⟩,
  ⟨(some 24),.mv (.t 23),none⟩,
  ⟨(some 25),.mv (.t 6),some (24,true)⟩,
  ⟨(some 26),.mv (.t 8),some (24,true)⟩,
  ⟨(some 27),.bin .eql (.t 25) (.t 26),some (24,true)⟩,
  ⟨(some 28),.pick (.t 24) (.t 27) (.c (.bool false)),none⟩,
  ⟨(some 29),.mv (.t 28),none⟩,
  ⟨(some 30),.call (.c (.func (.func 19) [] [])) [],some (29,true)⟩,
  ⟨(some 31),.pick (.t 29) (.t 30) (.c (.bool false)),none⟩,
  ⟨(some 4),.mv (.t 31),none⟩]) (
 .ret)))),[.tmp 4]⟩
def x6:XF:=⟨119,.seq (
 .ops [
  ⟨(some 3),.box 24 (.t 0),none⟩,
  ⟨(some 4),.box 24 (.t 1),none⟩,
  ⟨(some 5),.box 24 (.t 2),none⟩,
  ⟨(some 6),.mv (.c (.bool false)),none⟩]) (
 .seq (
 .ops [
  ⟨(some 18),.ldN 2 (.t 3),none⟩,
  ⟨(some 19),.ldN 2 (.t 4),none⟩,
  ⟨(some 20),.call (.c (.func (.func 23) [] [])) [(.t 18),(.t 19)],none⟩,
  ⟨(some 17),.mv (.t 20),none⟩,
  ⟨(some 21),.ext 0 (.t 17),none⟩,
  ⟨(some 22),.ext 1 (.t 17),none⟩,
  ⟨(some 7),.new 24 [(.str ⟨#[]⟩),(.slice none 0 true 0)],none⟩,
  ⟨none,.st 2 (.t 7) (.t 21),none⟩,
  ⟨(some 8),.mv (.t 22),none⟩]) (
 .seq (
 .ops [
  ⟨(some 24),.ldN 2 (.t 4),none⟩,
  ⟨(some 25),.ldN 2 (.t 3),none⟩,
  ⟨(some 26),.call (.c (.func (.func 23) [] [])) [(.t 24),(.t 25)],none⟩,
  ⟨(some 23),.mv (.t 26),none⟩,
  ⟨(some 27),.ext 0 (.t 23),none⟩,
  ⟨(some 28),.ext 1 (.t 23),none⟩,
  ⟨(some 9),.new 24 [(.str ⟨#[]⟩),(.slice none 0 true 0)],none⟩,
  ⟨none,.st 2 (.t 9) (.t 27),none⟩,
  ⟨(some 10),.mv (.t 28),none⟩]) (
 .seq (
 .seq (
 .ops [
  ⟨(some 29),.mv (.t 8),none⟩,
  ⟨(some 30),.bin .neq (.t 29) (.c (.int .i64 0)),none⟩,
  ⟨(some 31),.mv (.t 30),none⟩,
  ⟨(some 32),.mv (.t 10),some (31,false)⟩,
  ⟨(some 33),.bin .neq (.t 32) (.c (.int .i64 0)),some (31,false)⟩,
  ⟨(some 34),.pick (.t 31) (.c (.bool true)) (.t 33),none⟩]) (
 .cond (.t 34) (
  .seq (
  .ops [
   ⟨(some 35),.mv (.t 8),none⟩,
   ⟨(some 36),.bin .eql (.t 35) (.c (.int .i64 0)),none⟩,
   ⟨(some 37),.mv (.t 10),none⟩,
   ⟨(some 38),.bin .eql (.t 37) (.c (.int .i64 0)),none⟩,
   ⟨(some 39),.eqg false 4 (.t 36) (.t 38),none⟩,
   ⟨(some 40),.mv (.t 39),none⟩,
   ⟨(some 41),.call (.c (.func (.func 19) [] [])) [],some (40,true)⟩,
   ⟨(some 42),.pick (.t 40) (.t 41) (.c (.bool false)),none⟩,
   ⟨(some 6),.mv (.t 42),none⟩]) (
  .ret)) (
  .skip))) (
 .seq (
 .ops [
  ⟨(some 44),.ldN 2 (.t 3),none⟩,
  ⟨(some 45),.ldN 2 (.t 3),none⟩,
  ⟨(some 46),.call (.c (.func (.func 23) [] [])) [(.t 44),(.t 45)],none⟩,
  ⟨(some 43),.mv (.t 46),none⟩,
  ⟨(some 47),.ext 0 (.t 43),none⟩,
  ⟨(some 48),.ext 1 (.t 43),none⟩,
  ⟨(some 11),.new 24 [(.str ⟨#[]⟩),(.slice none 0 true 0)],none⟩,
  ⟨none,.st 2 (.t 11) (.t 47),none⟩,
  ⟨(some 12),.mv (.t 48),none⟩]) (
 .seq (
 .seq (
 .ops [
  ⟨(some 49),.mv (.t 12),none⟩,
  ⟨(some 50),.bin .neq (.t 49) (.c (.int .i64 0)),none⟩,
  ⟨(some 51),.mv (.t 50),none⟩,
  ⟨(some 52),.ldN 2 (.t 11),some (51,false)⟩,
  ⟨(some 53),.ldN 2 (.t 3),some (51,false)⟩,
  ⟨(some 54),.call (.c (.func (.func 25) [] [])) [(.t 52),(.t 53)],some (51,false)⟩,
  ⟨(some 55),.un .not (.t 54),some (51,false)⟩,
  ⟨(some 56),.pick (.t 51) (.c (.bool true)) (.t 55),none⟩,
  ⟨(some 57),.mv (.t 56),none⟩,
  ⟨(some 58),.ldN 2 (.t 7),some (57,false)⟩,
  ⟨(some 59),.ldN 2 (.t 9),some (57,false)⟩,
  ⟨(some 60),.call (.c (.func (.func 25) [] [])) [(.t 58),(.t 59)],some (57,false)⟩,
  ⟨(some 61),.un .not (.t 60),some (57,false)⟩,
  ⟨(some 62),.pick (.t 57) (.c (.bool true)) (.t 61),none⟩,
  ⟨(some 63),.mv (.t 62),none⟩,
  ⟨(some 64),.ldN 2 (.t 7),some (63,false)⟩,
  ⟨(some 65),.call (.c (.func (.func 26) [] [])) [(.t 64)],some (63,false)⟩,
  ⟨(some 66),.bin .neq (.t 65) (.c (.int .i64 0)),some (63,false)⟩,
  ⟨(some 67),.pick (.t 63) (.c (.bool true)) (.t 66),none⟩]) (
 .cond (.t 67) (
  .seq (
  .ops [
   ⟨(some 6),.mv (.c (.bool false)),none⟩]) (
  .ret)) (
  .skip))) (
 .seq (
 .seq (
 .ops [
  ⟨(some 13),.mv (.c (.int .i64 0)),none⟩]) (
 .block 0 (
  .loop (
   .seq (
   .seq (
   .ops [
    ⟨(some 68),.mv (.t 13),none⟩,
    ⟨(some 69),.fad 1 (.t 3),none⟩,
    ⟨(some 70),.ld1 (.t 69),none⟩,
    ⟨(some 71),.len .sl (.t 70),none⟩,
    ⟨(some 72),.bin .lss (.t 68) (.t 71),none⟩]) (
   .cond (.t 72) (
    .skip) (
    .exit 0))) (
   .seq (
   .block 1 (
    .seq (
    .draw [
     (⟨(some 75),.fad 1 (.t 7),none⟩,.calm),
     (⟨(some 76),.ld1 (.t 75),none⟩,.reads 0 0),
     (⟨(some 77),.fad 1 (.t 3),none⟩,.calm),
     (⟨(some 78),.ld1 (.t 77),none⟩,.reads 0 0),
     (⟨(some 79),.mv (.t 13),none⟩,.calm),
     (⟨(some 80),.iad none 3 (.t 78) (.t 79),none⟩,.calm),
     (⟨(some 81),.ldN 3 (.t 80),none⟩,.reads 0 0),
     (⟨(some 82),.call (.c (.func (.func 27) [] [])) [(.t 76),(.t 81)],none⟩,.anchor),
     (⟨(some 83),.un .not (.t 82),none⟩,.calm)]) (
    .cond (.t 83) (
     .seq (
     .ops [
      ⟨(some 6),.mv (.c (.bool false)),none⟩]) (
     .ret)) (
     .skip)))) (
   .ops [
    ⟨(some 73),.mv (.t 13),none⟩,
    ⟨(some 74),.bin .add (.t 73) (.c (.int .i64 1)),none⟩,
    ⟨(some 13),.mv (.t 74),none⟩])))))) (
 .seq (
 .ops [
  ⟨(some 85),.ldN 2 (.t 7),none⟩,
  ⟨(some 86),.ldN 2 (.t 5),none⟩,
  ⟨(some 87),.call (.c (.func (.func 23) [] [])) [(.t 85),(.t 86)],none⟩,
  ⟨(some 84),.mv (.t 87),none⟩,
  ⟨(some 88),.ext 0 (.t 84),none⟩,
  ⟨(some 89),.ext 1 (.t 84),none⟩,
  ⟨(some 14),.new 24 [(.str ⟨#[]⟩),(.slice none 0 true 0)],none⟩,
  ⟨none,.st 2 (.t 14) (.t 88),none⟩,
  ⟨(some 8),.mv (.t 89),none⟩]) (
 .seq (
 .ops [
  ⟨(some 91),.ldN 2 (.t 4),none⟩,
  ⟨(some 92),.ldN 2 (.t 5),none⟩,
  ⟨(some 93),.call (.c (.func (.func 23) [] [])) [(.t 91),(.t 92)],none⟩,
  ⟨(some 90),.mv (.t 93),none⟩,
  ⟨(some 94),.ext 0 (.t 90),none⟩,
  ⟨(some 95),.ext 1 (.t 90),none⟩,
  ⟨(some 15),.new 24 [(.str ⟨#[]⟩),(.slice none 0 true 0)],none⟩,
  ⟨none,.st 2 (.t 15) (.t 94),none⟩,
  ⟨(some 10),.mv (.t 95),none⟩]) (
 .seq (
 .seq (
 .ops [
  ⟨(some 96),.mv (.t 8),none⟩,
  ⟨(some 97),.bin .neq (.t 96) (.c (.int .i64 0)),none⟩,
  ⟨(some 98),.mv (.t 97),none⟩,
  ⟨(some 99),.mv (.t 10),some (98,false)⟩,
  ⟨(some 100),.bin .neq (.t 99) (.c (.int .i64 0)),some (98,false)⟩,
  ⟨(some 101),.pick (.t 98) (.c (.bool true)) (.t 100),none⟩]) (
 .cond (.t 101) (
  .seq (
  .ops [
   ⟨(some 102),.call (.c (.func (.func 19) [] [])) [],none⟩,
   ⟨(some 6),.mv (.t 102),none⟩]) (
  .ret)) (
  .skip))) (
 .seq (
 .ops [
  ⟨(some 104),.ldN 2 (.t 3),none⟩,
  ⟨(some 105),.ldN 2 (.t 15),none⟩,
  ⟨(some 106),.call (.c (.func (.func 23) [] [])) [(.t 104),(.t 105)],none⟩,
  ⟨(some 103),.mv (.t 106),none⟩,
  ⟨(some 107),.ext 0 (.t 103),none⟩,
  ⟨(some 108),.ext 1 (.t 103),none⟩,
  ⟨(some 16),.new 24 [(.str ⟨#[]⟩),(.slice none 0 true 0)],none⟩,
  ⟨none,.st 2 (.t 16) (.t 107),none⟩,
  ⟨(some 10),.mv (.t 108),none⟩]) (
 .seq (
 .ops [
  ⟨(some 109),.mv (.t 10),none⟩,
  ⟨(some 110),.bin .eql (.t 109) (.c (.int .i64 0)),none⟩,
  ⟨(some 111),.mv (.t 110),none⟩,
  ⟨(some 112),.ldN 2 (.t 14),some (111,true)⟩,
  ⟨(some 113),.ldN 2 (.t 16),some (111,true)⟩,
  ⟨(some 114),.call (.c (.func (.func 25) [] [])) [(.t 112),(.t 113)],some (111,true)⟩,
  ⟨(some 115),.pick (.t 111) (.t 114) (.c (.bool false)),none⟩,
  ⟨(some 116),.mv (.t 115),none⟩,
  ⟨(some 117),.call (.c (.func (.func 19) [] [])) [],some (116,true)⟩,
  ⟨(some 118),.pick (.t 116) (.t 117) (.c (.bool false)),none⟩,
  ⟨(some 6),.mv (.t 118),none⟩]) (
 .ret)))))))))))),[.tmp 6]⟩
def x7:XF:=⟨71,.seq (
 .ops [
  ⟨(some 3),.box 24 (.t 0),none⟩,
  ⟨(some 4),.box 24 (.t 1),none⟩,
  ⟨(some 5),.box 26 (.t 2),none⟩,
  ⟨(some 6),.mv (.c (.bool false)),none⟩]) (
 .seq (
 .ops [
  ⟨(some 15),.ldN 2 (.t 3),none⟩,
  ⟨(some 16),.ldN 2 (.t 4),none⟩,
  ⟨(some 17),.call (.c (.func (.func 23) [] [])) [(.t 15),(.t 16)],none⟩,
  ⟨(some 14),.mv (.t 17),none⟩,
  ⟨(some 18),.ext 0 (.t 14),none⟩,
  ⟨(some 19),.ext 1 (.t 14),none⟩,
  ⟨(some 7),.new 24 [(.str ⟨#[]⟩),(.slice none 0 true 0)],none⟩,
  ⟨none,.st 2 (.t 7) (.t 18),none⟩,
  ⟨(some 8),.mv (.t 19),none⟩]) (
 .seq (
 .ops [
  ⟨(some 21),.ldN 2 (.t 3),none⟩,
  ⟨(some 22),.ldN 5 (.t 5),none⟩,
  ⟨(some 23),.call (.c (.func (.func 17) [] [])) [(.t 21),(.t 22)],none⟩,
  ⟨(some 20),.mv (.t 23),none⟩,
  ⟨(some 24),.ext 0 (.t 20),none⟩,
  ⟨(some 25),.ext 1 (.t 20),none⟩,
  ⟨(some 9),.mv (.t 24),none⟩,
  ⟨(some 10),.mv (.t 25),none⟩]) (
 .seq (
 .seq (
 .ops [
  ⟨(some 26),.mv (.t 8),none⟩,
  ⟨(some 27),.bin .neq (.t 26) (.c (.int .i64 0)),none⟩,
  ⟨(some 28),.mv (.t 27),none⟩,
  ⟨(some 29),.mv (.t 10),some (28,false)⟩,
  ⟨(some 30),.bin .neq (.t 29) (.c (.int .i64 0)),some (28,false)⟩,
  ⟨(some 31),.pick (.t 28) (.c (.bool true)) (.t 30),none⟩]) (
 .cond (.t 31) (
  .seq (
  .ops [
   ⟨(some 32),.call (.c (.func (.func 19) [] [])) [],none⟩,
   ⟨(some 6),.mv (.t 32),none⟩]) (
  .ret)) (
  .skip))) (
 .seq (
 .seq (
 .ops [
  ⟨(some 11),.mv (.c (.int .i64 0)),none⟩]) (
 .block 0 (
  .loop (
   .seq (
   .seq (
   .ops [
    ⟨(some 33),.mv (.t 11),none⟩,
    ⟨(some 34),.fad 1 (.t 7),none⟩,
    ⟨(some 35),.ld1 (.t 34),none⟩,
    ⟨(some 36),.len .sl (.t 35),none⟩,
    ⟨(some 37),.bin .lss (.t 33) (.t 36),none⟩]) (
   .cond (.t 37) (
    .skip) (
    .exit 0))) (
   .seq (
   .block 1 (
    .seq (
    .ops [
     ⟨(some 40),.fad 1 (.t 7),none⟩,
     ⟨(some 41),.ld1 (.t 40),none⟩,
     ⟨(some 42),.mv (.t 11),none⟩,
     ⟨(some 43),.iad none 3 (.t 41) (.t 42),none⟩,
     ⟨(some 44),.fad 2 (.t 43),none⟩,
     ⟨(some 45),.ld1 (.t 44),none⟩,
     ⟨(some 46),.call (.c (.func (.func 28) [] [])) [(.t 45),(.c (.int .i64 40001))],none⟩,
     ⟨(some 47),.bin .geq (.t 46) (.c (.int .i64 0)),none⟩]) (
    .cond (.t 47) (
     .seq (
     .ops [
      ⟨(some 48),.call (.c (.func (.func 19) [] [])) [],none⟩,
      ⟨(some 6),.mv (.t 48),none⟩]) (
     .ret)) (
     .skip)))) (
   .ops [
    ⟨(some 38),.mv (.t 11),none⟩,
    ⟨(some 39),.bin .add (.t 38) (.c (.int .i64 1)),none⟩,
    ⟨(some 11),.mv (.t 39),none⟩])))))) (
 .seq (
 .ops [
  ⟨(some 50),.ldN 2 (.t 7),none⟩,
  ⟨(some 51),.ldN 5 (.t 5),none⟩,
  ⟨(some 52),.call (.c (.func (.func 17) [] [])) [(.t 50),(.t 51)],none⟩,
  ⟨(some 49),.mv (.t 52),none⟩,
  ⟨(some 53),.ext 0 (.t 49),none⟩,
  ⟨(some 54),.ext 1 (.t 49),none⟩,
  ⟨(some 12),.mv (.t 53),none⟩,
  ⟨(some 8),.mv (.t 54),none⟩]) (
 .seq (
 .seq (
 .ops [
  ⟨(some 55),.mv (.t 8),none⟩,
  ⟨(some 56),.bin .neq (.t 55) (.c (.int .i64 0)),none⟩]) (
 .cond (.t 56) (
  .seq (
  .ops [
   ⟨(some 6),.mv (.c (.bool false)),none⟩]) (
  .ret)) (
  .skip))) (
 .seq (
 .seq (
 .ops [
  ⟨(some 13),.mv (.c (.int .i64 0)),none⟩]) (
 .block 2 (
  .loop (
   .seq (
   .seq (
   .ops [
    ⟨(some 57),.mv (.t 13),none⟩,
    ⟨(some 58),.mv (.t 12),none⟩,
    ⟨(some 59),.len .sl (.t 58),none⟩,
    ⟨(some 60),.bin .lss (.t 57) (.t 59),none⟩]) (
   .cond (.t 60) (
    .skip) (
    .exit 2))) (
   .seq (
   .block 3 (
    .seq (
    .ops [
     ⟨(some 63),.mv (.t 9),none⟩,
     ⟨(some 64),.mv (.t 12),none⟩,
     ⟨(some 65),.mv (.t 13),none⟩,
     ⟨(some 66),.iad none 1 (.t 64) (.t 65),none⟩,
     ⟨(some 67),.ld1 (.t 66),none⟩,
     ⟨(some 68),.call (.c (.func (.func 28) [] [])) [(.t 63),(.t 67)],none⟩,
     ⟨(some 69),.bin .lss (.t 68) (.c (.int .i64 0)),none⟩]) (
    .cond (.t 69) (
     .seq (
     .ops [
      ⟨(some 6),.mv (.c (.bool false)),none⟩]) (
     .ret)) (
     .skip)))) (
   .ops [
    ⟨(some 61),.mv (.t 13),none⟩,
    ⟨(some 62),.bin .add (.t 61) (.c (.int .i64 1)),none⟩,
    ⟨(some 13),.mv (.t 62),none⟩])))))) (
 .seq (
 .ops [
  ⟨(some 70),.call (.c (.func (.func 19) [] [])) [],none⟩,
  ⟨(some 6),.mv (.t 70),none⟩]) (
 .ret))))))))),[.tmp 6]⟩
def x9:XF:=⟨83,.seq (
 .ops [
  ⟨(some 2),.box 24 (.t 0),none⟩,
  ⟨(some 4),.mv (.c (.bool false)),none⟩]) (
 .seq (
 .ops [
  ⟨(some 11),.ldN 2 (.t 2),none⟩,
  ⟨(some 12),.call (.c (.func (.func 35) [] [])) [(.t 11)],none⟩,
  ⟨(some 10),.mv (.t 12),none⟩,
  ⟨(some 13),.ext 0 (.t 10),none⟩,
  ⟨(some 14),.ext 1 (.t 10),none⟩,
  ⟨(some 5),.mv (.t 13),none⟩,
  ⟨(some 6),.mv (.t 14),none⟩]) (
 .seq (
 .seq (
 .ops [
  ⟨(some 15),.mv (.t 6),none⟩,
  ⟨(some 16),.bin .eql (.t 15) (.c (.int .i64 0)),none⟩]) (
 .cond (.t 16) (
  .seq (
  .ops [
   ⟨(some 18),.mv (.t 5),none⟩,
   ⟨(some 19),.call (.c (.func (.func 29) [] [])) [(.t 18)],none⟩,
   ⟨(some 17),.mv (.t 19),none⟩,
   ⟨(some 20),.ext 0 (.t 17),none⟩,
   ⟨(some 21),.ext 1 (.t 17),none⟩,
   ⟨(some 7),.new 24 [(.str ⟨#[]⟩),(.slice none 0 true 0)],none⟩,
   ⟨none,.st 2 (.t 7) (.t 20),none⟩,
   ⟨(some 8),.mv (.t 21),none⟩]) (
  .seq (
  .ops [
   ⟨(some 22),.mv (.t 5),none⟩,
   ⟨(some 23),.len .str (.t 22),none⟩,
   ⟨(some 24),.bin .leq (.t 23) (.c (.int .i64 65536)),none⟩,
   ⟨(some 25),.mv (.t 24),none⟩,
   ⟨(some 26),.mv (.t 8),some (25,true)⟩,
   ⟨(some 27),.bin .neq (.t 26) (.c (.int .i64 0)),some (25,true)⟩,
   ⟨(some 28),.mv (.t 27),some (25,true)⟩,
   ⟨(some 29),.ldN 2 (.t 7),some (28,false)⟩,
   ⟨(some 30),.ldN 2 (.t 2),some (28,false)⟩,
   ⟨(some 31),.call (.c (.func (.func 25) [] [])) [(.t 29),(.t 30)],some (28,false)⟩,
   ⟨(some 32),.un .not (.t 31),some (28,false)⟩,
   ⟨(some 33),.pick (.t 28) (.c (.bool true)) (.t 32),some (25,true)⟩,
   ⟨(some 34),.pick (.t 25) (.t 33) (.c (.bool false)),none⟩,
   ⟨(some 35),.mv (.t 34),none⟩,
   ⟨(some 36),.mv (.t 5),some (35,false)⟩,
   ⟨(some 37),.len .str (.t 36),some (35,false)⟩,
   ⟨(some 38),.bin .gtr (.t 37) (.c (.int .i64 65536)),some (35,false)⟩,
   ⟨(some 39),.mv (.t 38),some (35,false)⟩,
   ⟨(some 40),.mv (.t 8),some (39,true)⟩,
   ⟨(some 41),.bin .neq (.t 40) (.c (.int .i64 3)),some (39,true)⟩,
   ⟨(some 42),.pick (.t 39) (.t 41) (.c (.bool false)),some (35,false)⟩,
   ⟨(some 43),.pick (.t 35) (.c (.bool true)) (.t 42),none⟩]) (
  .cond (.t 43) (
   .seq (
   .ops [
    ⟨(some 4),.mv (.c (.bool false)),none⟩]) (
   .ret)) (
   .skip)))) (
  .seq (
  .ops [
   ⟨(some 44),.mv (.t 5),none⟩,
   ⟨(some 45),.bin .neq (.t 44) (.c (.str ⟨#[]⟩)),none⟩]) (
  .cond (.t 45) (
   .seq (
   .ops [
    ⟨(some 4),.mv (.c (.bool false)),none⟩]) (
   .ret)) (
   .skip))))) (
 .seq (
 .ops [
  ⟨(some 47),.mv (.t 1),none⟩,
  ⟨(some 48),.call (.c (.func (.func 29) [] [])) [(.t 47)],none⟩,
  ⟨(some 46),.mv (.t 48),none⟩,
  ⟨(some 49),.ext 0 (.t 46),none⟩,
  ⟨(some 50),.ext 1 (.t 46),none⟩,
  ⟨(some 9),.new 24 [(.str ⟨#[]⟩),(.slice none 0 true 0)],none⟩,
  ⟨none,.st 2 (.t 9) (.t 49),none⟩,
  ⟨(some 6),.mv (.t 50),none⟩]) (
 .seq (
 .seq (
 .ops [
  ⟨(some 51),.mv (.t 6),none⟩,
  ⟨(some 52),.bin .neq (.t 51) (.c (.int .i64 0)),none⟩]) (
 .cond (.t 52) (
  .seq (
  .ops [
   ⟨(some 53),.mv (.t 6),none⟩,
   ⟨(some 54),.bin .eql (.t 53) (.c (.int .i64 5)),none⟩,
   ⟨(some 55),.mv (.t 54),none⟩,
   ⟨(some 56),.mv (.t 6),some (55,false)⟩,
   ⟨(some 57),.bin .eql (.t 56) (.c (.int .i64 3)),some (55,false)⟩,
   ⟨(some 58),.pick (.t 55) (.c (.bool true)) (.t 57),none⟩,
   ⟨(some 59),.mv (.t 58),none⟩,
   ⟨(some 60),.fad 1 (.t 9),some (59,true)⟩,
   ⟨(some 61),.ld1 (.t 60),some (59,true)⟩,
   ⟨(some 62),.len .sl (.t 61),some (59,true)⟩,
   ⟨(some 63),.bin .eql (.t 62) (.c (.int .i64 0)),some (59,true)⟩,
   ⟨(some 64),.pick (.t 59) (.t 63) (.c (.bool false)),none⟩,
   ⟨(some 65),.mv (.t 64),none⟩,
   ⟨(some 66),.call (.c (.func (.func 19) [] [])) [],some (65,true)⟩,
   ⟨(some 67),.pick (.t 65) (.t 66) (.c (.bool false)),none⟩,
   ⟨(some 4),.mv (.t 67),none⟩]) (
  .ret)) (
  .skip))) (
 .seq (
 .ops [
  ⟨(some 69),.ldN 2 (.t 9),none⟩,
  ⟨(some 70),.call (.c (.func (.func 35) [] [])) [(.t 69)],none⟩,
  ⟨(some 68),.mv (.t 70),none⟩,
  ⟨(some 71),.ext 0 (.t 68),none⟩,
  ⟨(some 72),.ext 1 (.t 68),none⟩,
  ⟨(some 5),.mv (.t 71),none⟩,
  ⟨(some 6),.mv (.t 72),none⟩]) (
 .seq (
 .ops [
  ⟨(some 73),.mv (.t 6),none⟩,
  ⟨(some 74),.bin .eql (.t 73) (.c (.int .i64 0)),none⟩,
  ⟨(some 75),.mv (.t 74),none⟩,
  ⟨(some 76),.mv (.t 5),some (75,true)⟩,
  ⟨(some 77),.mv (.t 1),some (75,true)⟩,
  ⟨(some 78),.bin .eql (.t 76) (.t 77),some (75,true)⟩,
  ⟨(some 79),.pick (.t 75) (.t 78) (.c (.bool false)),none⟩,
  ⟨(some 80),.mv (.t 79),none⟩,
  ⟨(some 81),.call (.c (.func (.func 19) [] [])) [],some (80,true)⟩,
  ⟨(some 82),.pick (.t 80) (.t 81) (.c (.bool false)),none⟩,
  ⟨(some 4),.mv (.t 82),none⟩]) (
 .ret))))))),[.tmp 4]⟩
def x16:XF:=⟨26,.seq (
 .ops [
  ⟨(some 4),.mv (.c (.bool false)),none⟩]) (
 .seq (
 .seq (
 .ops [
  ⟨(some 6),.mv (.t 0),none⟩,
  ⟨(some 7),.len .sl (.t 6),none⟩,
  ⟨(some 8),.mv (.t 1),none⟩,
  ⟨(some 9),.len .sl (.t 8),none⟩,
  ⟨(some 10),.bin .neq (.t 7) (.t 9),none⟩]) (
 .cond (.t 10) (
  .seq (
  .ops [
   ⟨(some 4),.mv (.c (.bool false)),none⟩]) (
  .ret)) (
  .skip))) (
 .seq (
 .seq (
 .ops [
  ⟨(some 5),.mv (.c (.int .i64 0)),none⟩]) (
 .block 0 (
  .loop (
   .seq (
   .seq (
   .ops [
    ⟨(some 11),.mv (.t 5),none⟩,
    ⟨(some 12),.mv (.t 0),none⟩,
    ⟨(some 13),.len .sl (.t 12),none⟩,
    ⟨(some 14),.bin .lss (.t 11) (.t 13),none⟩]) (
   .cond (.t 14) (
    .skip) (
    .exit 0))) (
   .seq (
   .block 1 (
    .seq (
    .draw [
     (⟨(some 17),.mv (.t 0),none⟩,.calm),
     (⟨(some 18),.mv (.t 5),none⟩,.calm),
     (⟨(some 19),.iad none 1 (.t 17) (.t 18),none⟩,.calm),
     (⟨(some 20),.ld1 (.t 19),none⟩,.reads 0 0),
     (⟨(some 21),.mv (.t 1),none⟩,.calm),
     (⟨(some 22),.mv (.t 5),none⟩,.calm),
     (⟨(some 23),.iad none 1 (.t 21) (.t 22),none⟩,.calm),
     (⟨(some 24),.ld1 (.t 23),none⟩,.reads 0 0),
     (⟨(some 25),.bin .neq (.t 20) (.t 24),none⟩,.calm)]) (
    .cond (.t 25) (
     .seq (
     .ops [
      ⟨(some 4),.mv (.c (.bool false)),none⟩]) (
     .ret)) (
     .skip)))) (
   .ops [
    ⟨(some 15),.mv (.t 5),none⟩,
    ⟨(some 16),.bin .add (.t 15) (.c (.int .i64 1)),none⟩,
    ⟨(some 5),.mv (.t 16),none⟩])))))) (
 .seq (
 .ops [
  ⟨(some 4),.mv (.c (.bool true)),none⟩]) (
 .ret)))),[.tmp 4]⟩
def x17:XF:=⟨113,.seq (
 .ops [
  ⟨(some 2),.box 24 (.t 0),none⟩,
  ⟨(some 3),.box 26 (.t 1),none⟩,
  ⟨(some 4),.mv (.c (.slice none 0 true 0)),none⟩,
  ⟨(some 5),.mv (.c (.int .i64 0)),none⟩]) (
 .seq (
 .seq (
 .ops [
  ⟨(some 12),.ldN 2 (.t 2),none⟩,
  ⟨(some 13),.call (.c (.func (.func 26) [] [])) [(.t 12)],none⟩,
  ⟨(some 6),.mv (.t 13),none⟩]) (
 .seq (
 .ops [
  ⟨(some 14),.mv (.t 6),none⟩,
  ⟨(some 15),.bin .neq (.t 14) (.c (.int .i64 0)),none⟩]) (
 .cond (.t 15) (
  .seq (
  .ops [
   ⟨(some 16),.mv (.t 6),none⟩,
   ⟨(some 4),.mv (.c (.slice none 0 true 0)),none⟩,
   ⟨(some 5),.mv (.t 16),none⟩]) (
  .ret)) (
  .skip)))) (
 .seq (
 .seq (
 .ops [
  ⟨(some 17),.fad 0 (.t 3),none⟩,
  ⟨(some 18),.ld1 (.t 17),none⟩,
  ⟨(some 19),.fad 1 (.t 3),none⟩,
  ⟨(some 20),.ld1 (.t 19),none⟩,
  ⟨(some 21),.call (.c (.func (.func 44) [] [])) [(.t 18),(.c (.int .i64 0)),(.t 20)],none⟩,
  ⟨(some 22),.un .not (.t 21),none⟩,
  ⟨(some 23),.mv (.t 22),none⟩,
  ⟨(some 24),.fad 1 (.t 3),some (23,false)⟩,
  ⟨(some 25),.ld1 (.t 24),some (23,false)⟩,
  ⟨(some 26),.call (.c (.func (.func 44) [] [])) [(.t 25),(.c (.int .i64 0)),(.c (.int .i64 60000))],some (23,false)⟩,
  ⟨(some 27),.un .not (.t 26),some (23,false)⟩,
  ⟨(some 28),.pick (.t 23) (.c (.bool true)) (.t 27),none⟩,
  ⟨(some 29),.mv (.t 28),none⟩,
  ⟨(some 30),.fad 1 (.t 3),some (29,false)⟩,
  ⟨(some 31),.ld1 (.t 30),some (29,false)⟩,
  ⟨(some 32),.fad 0 (.t 3),some (29,false)⟩,
  ⟨(some 33),.ld1 (.t 32),some (29,false)⟩,
  ⟨(some 34),.bin .sub (.t 31) (.t 33),some (29,false)⟩,
  ⟨(some 35),.bin .geq (.t 34) (.c (.int .i64 1000)),some (29,false)⟩,
  ⟨(some 36),.pick (.t 29) (.c (.bool true)) (.t 35),none⟩,
  ⟨(some 37),.mv (.t 36),none⟩,
  ⟨(some 38),.fad 2 (.t 3),some (37,false)⟩,
  ⟨(some 39),.ld1 (.t 38),some (37,false)⟩,
  ⟨(some 40),.call (.c (.func (.func 44) [] [])) [(.t 39),(.c (.int .i64 1)),(.c (.int .i64 24))],some (37,false)⟩,
  ⟨(some 41),.un .not (.t 40),some (37,false)⟩,
  ⟨(some 42),.pick (.t 37) (.c (.bool true)) (.t 41),none⟩,
  ⟨(some 43),.mv (.t 42),none⟩,
  ⟨(some 44),.fad 3 (.t 3),some (43,false)⟩,
  ⟨(some 45),.ld1 (.t 44),some (43,false)⟩,
  ⟨(some 46),.call (.c (.func (.func 44) [] [])) [(.t 45),(.c (.int .i64 1)),(.c (.int .i64 64))],some (43,false)⟩,
  ⟨(some 47),.un .not (.t 46),some (43,false)⟩,
  ⟨(some 48),.pick (.t 43) (.c (.bool true)) (.t 47),none⟩,
  ⟨(some 49),.mv (.t 48),none⟩,
  ⟨(some 50),.fad 4 (.t 3),some (49,false)⟩,
  ⟨(some 51),.ld1 (.t 50),some (49,false)⟩,
  ⟨(some 52),.call (.c (.func (.func 44) [] [])) [(.t 51),(.c (.int .i64 0)),(.c (.int .i64 24))],some (49,false)⟩,
  ⟨(some 53),.un .not (.t 52),some (49,false)⟩,
  ⟨(some 54),.pick (.t 49) (.c (.bool true)) (.t 53),none⟩]) (
 .cond (.t 54) (
  .seq (
  .ops [
   ⟨(some 4),.mv (.c (.slice none 0 true 0)),none⟩,
   ⟨(some 5),.mv (.c (.int .i64 84)),none⟩]) (
  .ret)) (
  .skip))) (
 .seq (
 .ops [
  ⟨(some 55),.mkmap,none⟩,
  ⟨(some 7),.mv (.t 55),none⟩]) (
 .seq (
 .seq (
 .ops [
  ⟨(some 56),.fad 1 (.t 2),none⟩,
  ⟨(some 57),.ld1 (.t 56),none⟩,
  ⟨(some 58),.len .sl (.t 57),none⟩,
  ⟨(some 59),.mv (.c (.int .i64 0)),none⟩]) (
 .block 0 (
  .loop (
   .seq (
   .ops [
    ⟨(some 60),.bin .lss (.t 59) (.t 58),none⟩]) (
   .seq (
   .cond (.t 60) (
    .skip) (
    .exit 0)) (
   .seq (
   .block 1 (
    .seq (
    .ops [
     ⟨(some 61),.iad none 3 (.t 57) (.t 59),none⟩,
     ⟨(some 62),.ldN 3 (.t 61),none⟩,
     ⟨(some 9),.new 48 [(.int .i64 0),(.int .i64 0),(.slice none 0 true 0)],none⟩,
     ⟨none,.st 3 (.t 9) (.t 62),none⟩]) (
    .seq (
    .ops [
     ⟨(some 63),.fad 1 (.t 9),none⟩,
     ⟨(some 64),.ld1 (.t 63),none⟩,
     ⟨(some 65),.fad 2 (.t 3),none⟩,
     ⟨(some 66),.ld1 (.t 65),none⟩,
     ⟨(some 67),.bin .lss (.t 64) (.t 66),none⟩,
     ⟨(some 68),.mv (.t 67),none⟩,
     ⟨(some 69),.fad 2 (.t 9),some (68,true)⟩,
     ⟨(some 70),.ld1 (.t 69),some (68,true)⟩,
     ⟨(some 71),.len .sl (.t 70),some (68,true)⟩,
     ⟨(some 72),.fad 3 (.t 3),some (68,true)⟩,
     ⟨(some 73),.ld1 (.t 72),some (68,true)⟩,
     ⟨(some 74),.bin .geq (.t 71) (.t 73),some (68,true)⟩,
     ⟨(some 75),.pick (.t 68) (.t 74) (.c (.bool false)),none⟩,
     ⟨(some 76),.mv (.t 75),none⟩,
     ⟨(some 77),.fad 2 (.t 9),some (76,true)⟩,
     ⟨(some 78),.ld1 (.t 77),some (76,true)⟩,
     ⟨(some 79),.fad 3 (.t 3),some (76,true)⟩,
     ⟨(some 80),.ld1 (.t 79),some (76,true)⟩,
     ⟨(some 81),.slc 1 (.t 78) none (some (.t 80)) none,some (76,true)⟩,
     ⟨(some 82),.call (.c (.func (.func 45) [] [])) [(.t 81),(.c (.func (.func 52) [] []))],some (76,true)⟩,
     ⟨(some 83),.un .not (.t 82),some (76,true)⟩,
     ⟨(some 84),.pick (.t 76) (.t 83) (.c (.bool false)),none⟩]) (
    .cond (.t 84) (
     .ops [
      ⟨(some 85),.mv (.t 7),none⟩,
      ⟨(some 86),.fad 0 (.t 9),none⟩,
      ⟨(some 87),.ld1 (.t 86),none⟩,
      ⟨(some 88),.lkp 3 (.int .i64 0) false (.t 85) (.t 87),none⟩,
      ⟨(some 89),.bin .add (.t 88) (.c (.int .i64 1)),none⟩,
      ⟨none,.mset 3 (.t 85) (.t 87) (.t 89),none⟩]) (
     .skip))))) (
   .ops [
    ⟨(some 90),.bin .add (.t 59) (.c (.int .i64 1)),none⟩,
    ⟨(some 59),.mv (.t 90),none⟩]))))))) (
 .seq (
 .ops [
  ⟨(some 10),.mv (.c (.slice none 0 true 0)),none⟩]) (
 .seq (
 .seq (
 .ops [
  ⟨(some 91),.fad 0 (.t 3),none⟩,
  ⟨(some 92),.ld1 (.t 91),none⟩,
  ⟨(some 11),.mv (.t 92),none⟩]) (
 .block 2 (
  .loop (
   .seq (
   .seq (
   .ops [
    ⟨(some 93),.mv (.t 11),none⟩,
    ⟨(some 94),.fad 1 (.t 3),none⟩,
    ⟨(some 95),.ld1 (.t 94),none⟩,
    ⟨(some 96),.bin .leq (.t 93) (.t 95),none⟩]) (
   .cond (.t 96) (
    .skip) (
    .exit 2))) (
   .seq (
   .block 3 (
    .seq (
    .ops [
     ⟨(some 99),.fad 2 (.t 3),none⟩,
     ⟨(some 100),.ld1 (.t 99),none⟩,
     ⟨(some 101),.mv (.t 7),none⟩,
     ⟨(some 102),.mv (.t 11),none⟩,
     ⟨(some 103),.lkp 3 (.int .i64 0) false (.t 101) (.t 102),none⟩,
     ⟨(some 104),.bin .sub (.t 100) (.t 103),none⟩,
     ⟨(some 105),.fad 4 (.t 3),none⟩,
     ⟨(some 106),.ld1 (.t 105),none⟩,
     ⟨(some 107),.bin .gtr (.t 104) (.t 106),none⟩]) (
    .cond (.t 107) (
     .ops [
      ⟨(some 108),.mv (.t 10),none⟩,
      ⟨(some 109),.mv (.t 11),none⟩,
      ⟨(some 110),.bsl 3 1 1 [(.int .i64 0)] [(0,1,(.t 109))],none⟩,
      ⟨(some 111),.app 3 1 8 [(.int .i64 0)] (.t 108) (.t 110),none⟩,
      ⟨(some 10),.mv (.t 111),none⟩]) (
     .skip)))) (
   .ops [
    ⟨(some 97),.mv (.t 11),none⟩,
    ⟨(some 98),.bin .add (.t 97) (.c (.int .i64 1)),none⟩,
    ⟨(some 11),.mv (.t 98),none⟩])))))) (
 .seq (
 .ops [
  ⟨(some 112),.mv (.t 10),none⟩,
  ⟨(some 4),.mv (.t 112),none⟩,
  ⟨(some 5),.mv (.c (.int .i64 0)),none⟩]) (
 .ret)))))))),[.tmp 4,.tmp 5]⟩
def x23:XF:=⟨52,.seq (
 .ops [
  ⟨(some 2),.box 24 (.t 0),none⟩,
  ⟨(some 3),.box 24 (.t 1),none⟩,
  ⟨(some 4),.new 24 [(.str ⟨#[]⟩),(.slice none 0 true 0)],none⟩,
  ⟨(some 5),.mv (.c (.int .i64 0)),none⟩]) (
 .seq (
 .seq (
 .ops [
  ⟨(some 12),.ldN 2 (.t 2),none⟩,
  ⟨(some 13),.ldN 2 (.t 3),none⟩,
  ⟨(some 14),.build [(.str ⟨#[]⟩),(.slice none 0 true 0),(.str ⟨#[]⟩),(.slice none 0 true 0)] [(0,2,(.t 12)),(2,2,(.t 13))],none⟩,
  ⟨(some 15),.mv (.c (.int .i64 0)),none⟩]) (
 .block 0 (
  .loop (
   .seq (
   .ops [
    ⟨(some 16),.bin .lss (.t 15) (.c (.int .i64 2)),none⟩]) (
   .seq (
   .cond (.t 16) (
    .skip) (
    .exit 0)) (
   .seq (
   .block 1 (
    .seq (
    .ops [
     ⟨(some 17),.idx 2 2 true (.t 14) (.t 15),none⟩,
     ⟨(some 7),.new 24 [(.str ⟨#[]⟩),(.slice none 0 true 0)],none⟩,
     ⟨none,.st 2 (.t 7) (.t 17),none⟩]) (
    .seq (
    .ops [
     ⟨(some 18),.ldN 2 (.t 7),none⟩,
     ⟨(some 19),.call (.c (.func (.func 26) [] [])) [(.t 18)],none⟩,
     ⟨(some 8),.mv (.t 19),none⟩]) (
    .seq (
    .ops [
     ⟨(some 20),.mv (.t 8),none⟩,
     ⟨(some 21),.bin .neq (.t 20) (.c (.int .i64 0)),none⟩]) (
    .cond (.t 21) (
     .seq (
     .ops [
      ⟨(some 22),.build [(.str ⟨#[]⟩),(.slice none 0 true 0)] [],none⟩,
      ⟨(some 23),.mv (.t 8),none⟩,
      ⟨none,.st 2 (.t 4) (.t 22),none⟩,
      ⟨(some 5),.mv (.t 23),none⟩]) (
     .ret)) (
     .skip)))))) (
   .ops [
    ⟨(some 24),.bin .add (.t 15) (.c (.int .i64 1)),none⟩,
    ⟨(some 15),.mv (.t 24),none⟩]))))))) (
 .seq (
 .seq (
 .ops [
  ⟨(some 25),.fad 0 (.t 2),none⟩,
  ⟨(some 26),.ld1 (.t 25),none⟩,
  ⟨(some 27),.fad 0 (.t 3),none⟩,
  ⟨(some 28),.ld1 (.t 27),none⟩,
  ⟨(some 29),.bin .neq (.t 26) (.t 28),none⟩]) (
 .cond (.t 29) (
  .seq (
  .ops [
   ⟨(some 30),.build [(.str ⟨#[]⟩),(.slice none 0 true 0)] [],none⟩,
   ⟨none,.st 2 (.t 4) (.t 30),none⟩,
   ⟨(some 5),.mv (.c (.int .i64 2)),none⟩]) (
  .ret)) (
  .skip))) (
 .seq (
 .ops [
  ⟨(some 31),.mkmap,none⟩,
  ⟨(some 9),.mv (.t 31),none⟩]) (
 .seq (
 .ops [
  ⟨(some 32),.mv (.t 9),none⟩,
  ⟨(some 33),.fad 1 (.t 2),none⟩,
  ⟨(some 34),.ld1 (.t 33),none⟩,
  ⟨(some 35),.call (.c (.func (.func 63) [] [])) [(.t 32),(.t 34)],none⟩]) (
 .seq (
 .ops [
  ⟨(some 36),.mv (.t 9),none⟩,
  ⟨(some 37),.fad 1 (.t 3),none⟩,
  ⟨(some 38),.ld1 (.t 37),none⟩,
  ⟨(some 39),.call (.c (.func (.func 63) [] [])) [(.t 36),(.t 38)],none⟩]) (
 .seq (
 .ops [
  ⟨(some 41),.mv (.t 9),none⟩,
  ⟨(some 42),.call (.c (.func (.func 64) [] [])) [(.t 41)],none⟩,
  ⟨(some 40),.mv (.t 42),none⟩,
  ⟨(some 43),.ext 0 (.t 40),none⟩,
  ⟨(some 44),.ext 1 (.t 40),none⟩,
  ⟨(some 10),.mv (.t 43),none⟩,
  ⟨(some 11),.mv (.t 44),none⟩]) (
 .seq (
 .seq (
 .ops [
  ⟨(some 45),.mv (.t 11),none⟩,
  ⟨(some 46),.un .not (.t 45),none⟩]) (
 .cond (.t 46) (
  .seq (
  .ops [
   ⟨(some 47),.build [(.str ⟨#[]⟩),(.slice none 0 true 0)] [],none⟩,
   ⟨none,.st 2 (.t 4) (.t 47),none⟩,
   ⟨(some 5),.mv (.c (.int .i64 6)),none⟩]) (
  .ret)) (
  .skip))) (
 .seq (
 .ops [
  ⟨(some 48),.fad 0 (.t 2),none⟩,
  ⟨(some 49),.ld1 (.t 48),none⟩,
  ⟨(some 50),.mv (.t 10),none⟩,
  ⟨(some 51),.build [(.str ⟨#[]⟩),(.slice none 0 true 0)] [(0,1,(.t 49)),(1,1,(.t 50))],none⟩,
  ⟨none,.st 2 (.t 4) (.t 51),none⟩,
  ⟨(some 5),.mv (.c (.int .i64 0)),none⟩]) (
 .ret))))))))),[.cellN 4 2,.tmp 5]⟩
def x25:XF:=⟨17,.seq (
 .ops [
  ⟨(some 2),.box 24 (.t 0),none⟩,
  ⟨(some 3),.box 24 (.t 1),none⟩,
  ⟨(some 4),.mv (.c (.bool false)),none⟩]) (
 .seq (
 .ops [
  ⟨(some 5),.fad 0 (.t 2),none⟩,
  ⟨(some 6),.ld1 (.t 5),none⟩,
  ⟨(some 7),.fad 0 (.t 3),none⟩,
  ⟨(some 8),.ld1 (.t 7),none⟩,
  ⟨(some 9),.bin .eql (.t 6) (.t 8),none⟩,
  ⟨(some 10),.mv (.t 9),none⟩,
  ⟨(some 11),.fad 1 (.t 2),some (10,true)⟩,
  ⟨(some 12),.ld1 (.t 11),some (10,true)⟩,
  ⟨(some 13),.fad 1 (.t 3),some (10,true)⟩,
  ⟨(some 14),.ld1 (.t 13),some (10,true)⟩,
  ⟨(some 15),.call (.c (.func (.func 33) [] [])) [(.t 12),(.t 14)],some (10,true)⟩,
  ⟨(some 16),.pick (.t 10) (.t 15) (.c (.bool false)),none⟩,
  ⟨(some 4),.mv (.t 16),none⟩]) (
 .ret)),[.tmp 4]⟩
def x26:XF:=⟨44,.seq (
 .ops [
  ⟨(some 1),.box 24 (.t 0),none⟩,
  ⟨(some 2),.mv (.c (.int .i64 0)),none⟩]) (
 .seq (
 .seq (
 .ops [
  ⟨(some 5),.fad 0 (.t 1),none⟩,
  ⟨(some 6),.ld1 (.t 5),none⟩,
  ⟨(some 7),.call (.c (.func (.func 66) [] [])) [(.t 6)],none⟩,
  ⟨(some 8),.un .not (.t 7),none⟩,
  ⟨(some 9),.mv (.t 8),none⟩,
  ⟨(some 10),.fad 1 (.t 1),some (9,false)⟩,
  ⟨(some 11),.ld1 (.t 10),some (9,false)⟩,
  ⟨(some 12),.len .sl (.t 11),some (9,false)⟩,
  ⟨(some 13),.bin .gtr (.t 12) (.c (.int .i64 128)),some (9,false)⟩,
  ⟨(some 14),.pick (.t 9) (.c (.bool true)) (.t 13),none⟩]) (
 .cond (.t 14) (
  .seq (
  .ops [
   ⟨(some 2),.mv (.c (.int .i64 81)),none⟩]) (
  .ret)) (
  .skip))) (
 .seq (
 .seq (
 .ops [
  ⟨(some 15),.fad 1 (.t 1),none⟩,
  ⟨(some 16),.ld1 (.t 15),none⟩,
  ⟨(some 17),.len .sl (.t 16),none⟩,
  ⟨(some 18),.mv (.c (.int .i64 0)),none⟩]) (
 .block 0 (
  .loop (
   .seq (
   .ops [
    ⟨(some 19),.bin .lss (.t 18) (.t 17),none⟩]) (
   .seq (
   .cond (.t 19) (
    .skip) (
    .exit 0)) (
   .seq (
   .block 1 (
    .seq (
    .ops [
     ⟨(some 20),.mv (.t 18),none⟩,
     ⟨(some 21),.iad none 3 (.t 16) (.t 18),none⟩,
     ⟨(some 22),.ldN 3 (.t 21),none⟩,
     ⟨(some 4),.new 48 [(.int .i64 0),(.int .i64 0),(.slice none 0 true 0)],none⟩,
     ⟨(some 3),.mv (.t 20),none⟩,
     ⟨none,.st 3 (.t 4) (.t 22),none⟩]) (
    .seq (
    .draw [
     (⟨(some 23),.ldN 3 (.t 4),none⟩,.reads 0 0),
     (⟨(some 24),.call (.c (.func (.func 67) [] [])) [(.t 23)],none⟩,.anchor),
     (⟨(some 25),.bin .neq (.t 24) (.c (.int .i64 0)),none⟩,.calm),
     (⟨(some 26),.mv (.t 25),none⟩,.calm),
     (⟨(some 27),.mv (.t 3),some (26,false)⟩,.calm),
     (⟨(some 28),.bin .gtr (.t 27) (.c (.int .i64 0)),some (26,false)⟩,.calm),
     (⟨(some 29),.mv (.t 28),some (26,false)⟩,.calm),
     (⟨(some 30),.fad 1 (.t 1),some (29,true)⟩,.calm),
     (⟨(some 31),.ld1 (.t 30),some (29,true)⟩,.reads 1 1),
     (⟨(some 32),.mv (.t 3),some (29,true)⟩,.calm),
     (⟨(some 33),.bin .sub (.t 32) (.c (.int .i64 1)),some (29,true)⟩,.calm),
     (⟨(some 34),.iad none 3 (.t 31) (.t 33),some (29,true)⟩,.calm),
     (⟨(some 35),.ldN 3 (.t 34),some (29,true)⟩,.reads 1 1),
     (⟨(some 36),.call (.c (.func (.func 69) [] [])) [(.t 35)],some (29,true)⟩,.anchor),
     (⟨(some 37),.ldN 3 (.t 4),some (29,true)⟩,.reads 1 2),
     (⟨(some 38),.call (.c (.func (.func 69) [] [])) [(.t 37)],some (29,true)⟩,.anchor),
     (⟨(some 39),.call (.c (.func (.func 68) [] [])) [(.t 36),(.t 38)],some (29,true)⟩,.anchor),
     (⟨(some 40),.bin .geq (.t 39) (.c (.int .i64 0)),some (29,true)⟩,.calm),
     (⟨(some 41),.pick (.t 29) (.t 40) (.c (.bool false)),some (26,false)⟩,.calm),
     (⟨(some 42),.pick (.t 26) (.c (.bool true)) (.t 41),none⟩,.calm)]) (
    .cond (.t 42) (
     .seq (
     .ops [
      ⟨(some 2),.mv (.c (.int .i64 81)),none⟩]) (
     .ret)) (
     .skip))))) (
   .ops [
    ⟨(some 43),.bin .add (.t 18) (.c (.int .i64 1)),none⟩,
    ⟨(some 18),.mv (.t 43),none⟩]))))))) (
 .seq (
 .ops [
  ⟨(some 2),.mv (.c (.int .i64 0)),none⟩]) (
 .ret)))),[.tmp 2]⟩
def x28:XF:=⟨19,.seq (
 .ops [
  ⟨(some 4),.mv (.c (.int .i64 0)),none⟩]) (
 .seq (
 .seq (
 .ops [
  ⟨(some 5),.mv (.c (.int .i64 0)),none⟩]) (
 .block 0 (
  .loop (
   .seq (
   .seq (
   .ops [
    ⟨(some 6),.mv (.t 5),none⟩,
    ⟨(some 7),.mv (.t 0),none⟩,
    ⟨(some 8),.len .sl (.t 7),none⟩,
    ⟨(some 9),.bin .lss (.t 6) (.t 8),none⟩]) (
   .cond (.t 9) (
    .skip) (
    .exit 0))) (
   .seq (
   .block 1 (
    .seq (
    .ops [
     ⟨(some 12),.mv (.t 0),none⟩,
     ⟨(some 13),.mv (.t 5),none⟩,
     ⟨(some 14),.iad none 1 (.t 12) (.t 13),none⟩,
     ⟨(some 15),.ld1 (.t 14),none⟩,
     ⟨(some 16),.mv (.t 1),none⟩,
     ⟨(some 17),.bin .eql (.t 15) (.t 16),none⟩]) (
    .cond (.t 17) (
     .seq (
     .ops [
      ⟨(some 18),.mv (.t 5),none⟩,
      ⟨(some 4),.mv (.t 18),none⟩]) (
     .ret)) (
     .skip)))) (
   .ops [
    ⟨(some 10),.mv (.t 5),none⟩,
    ⟨(some 11),.bin .add (.t 10) (.c (.int .i64 1)),none⟩,
    ⟨(some 5),.mv (.t 11),none⟩])))))) (
 .seq (
 .ops [
  ⟨(some 4),.mv (.c (.int .i64 (-1))),none⟩]) (
 .ret))),[.tmp 4]⟩
def x33:XF:=⟨27,.seq (
 .ops [
  ⟨(some 4),.mv (.c (.bool false)),none⟩]) (
 .seq (
 .seq (
 .ops [
  ⟨(some 6),.mv (.t 0),none⟩,
  ⟨(some 7),.len .sl (.t 6),none⟩,
  ⟨(some 8),.mv (.t 1),none⟩,
  ⟨(some 9),.len .sl (.t 8),none⟩,
  ⟨(some 10),.bin .neq (.t 7) (.t 9),none⟩]) (
 .cond (.t 10) (
  .seq (
  .ops [
   ⟨(some 4),.mv (.c (.bool false)),none⟩]) (
  .ret)) (
  .skip))) (
 .seq (
 .seq (
 .ops [
  ⟨(some 5),.mv (.c (.int .i64 0)),none⟩]) (
 .block 0 (
  .loop (
   .seq (
   .seq (
   .ops [
    ⟨(some 11),.mv (.t 5),none⟩,
    ⟨(some 12),.mv (.t 0),none⟩,
    ⟨(some 13),.len .sl (.t 12),none⟩,
    ⟨(some 14),.bin .lss (.t 11) (.t 13),none⟩]) (
   .cond (.t 14) (
    .skip) (
    .exit 0))) (
   .seq (
   .block 1 (
    .seq (
    .draw [
     (⟨(some 17),.mv (.t 0),none⟩,.calm),
     (⟨(some 18),.mv (.t 5),none⟩,.calm),
     (⟨(some 19),.iad none 3 (.t 17) (.t 18),none⟩,.calm),
     (⟨(some 20),.ldN 3 (.t 19),none⟩,.reads 0 0),
     (⟨(some 21),.mv (.t 1),none⟩,.calm),
     (⟨(some 22),.mv (.t 5),none⟩,.calm),
     (⟨(some 23),.iad none 3 (.t 21) (.t 22),none⟩,.calm),
     (⟨(some 24),.ldN 3 (.t 23),none⟩,.reads 0 0),
     (⟨(some 25),.call (.c (.func (.func 70) [] [])) [(.t 20),(.t 24)],none⟩,.anchor),
     (⟨(some 26),.un .not (.t 25),none⟩,.calm)]) (
    .cond (.t 26) (
     .seq (
     .ops [
      ⟨(some 4),.mv (.c (.bool false)),none⟩]) (
     .ret)) (
     .skip)))) (
   .ops [
    ⟨(some 15),.mv (.t 5),none⟩,
    ⟨(some 16),.bin .add (.t 15) (.c (.int .i64 1)),none⟩,
    ⟨(some 5),.mv (.t 16),none⟩])))))) (
 .seq (
 .ops [
  ⟨(some 4),.mv (.c (.bool true)),none⟩]) (
 .ret)))),[.tmp 4]⟩
def x44:XF:=⟨15,.seq (
 .ops [
  ⟨(some 6),.mv (.c (.bool false)),none⟩]) (
 .seq (
 .ops [
  ⟨(some 7),.mv (.t 0),none⟩,
  ⟨(some 8),.mv (.t 1),none⟩,
  ⟨(some 9),.bin .geq (.t 7) (.t 8),none⟩,
  ⟨(some 10),.mv (.t 9),none⟩,
  ⟨(some 11),.mv (.t 0),some (10,true)⟩,
  ⟨(some 12),.mv (.t 2),some (10,true)⟩,
  ⟨(some 13),.bin .leq (.t 11) (.t 12),some (10,true)⟩,
  ⟨(some 14),.pick (.t 10) (.t 13) (.c (.bool false)),none⟩,
  ⟨(some 6),.mv (.t 14),none⟩]) (
 .ret)),[.tmp 6]⟩
def x45:XF:=⟨9,.seq (
 .ops [
  ⟨(some 4),.mv (.c (.bool false)),none⟩]) (
 .seq (
 .ops [
  ⟨(some 5),.mv (.t 0),none⟩,
  ⟨(some 6),.mv (.t 1),none⟩,
  ⟨(some 7),.call (.c (.func (.func 98) [] [])) [(.t 5),(.t 6)],none⟩,
  ⟨(some 8),.bin .geq (.t 7) (.c (.int .i64 0)),none⟩,
  ⟨(some 4),.mv (.t 8),none⟩]) (
 .ret)),[.tmp 4]⟩
def x47:XF:=⟨5,.seq (
 .ops [
  ⟨(some 2),.mv (.c (.bool false)),none⟩]) (
 .seq (
 .ops [
  ⟨(some 3),.mv (.t 0),none⟩,
  ⟨(some 4),.call (.c (.func (.func 44) [] [])) [(.t 3),(.c (.int .i64 (-32767))),(.c (.int .i64 32767))],none⟩,
  ⟨(some 2),.mv (.t 4),none⟩]) (
 .ret)),[.tmp 2]⟩
def x52:XF:=⟨6,.seq (
 .ops [
  ⟨(some 2),.mv (.c (.bool false)),none⟩]) (
 .seq (
 .ops [
  ⟨(some 3),.mv (.t 0),none⟩,
  ⟨(some 4),.call (.c (.func (.func 47) [] [])) [(.t 3)],none⟩,
  ⟨(some 5),.un .not (.t 4),none⟩,
  ⟨(some 2),.mv (.t 5),none⟩]) (
 .ret)),[.tmp 2]⟩
def x63:XF:=⟨23,.seq (
 .ops [
  ⟨(some 6),.mv (.t 1),none⟩,
  ⟨(some 7),.len .sl (.t 6),none⟩,
  ⟨(some 8),.mv (.c (.int .i64 0)),none⟩]) (
 .block 0 (
  .loop (
   .seq (
   .ops [
    ⟨(some 9),.bin .lss (.t 8) (.t 7),none⟩]) (
   .seq (
   .cond (.t 9) (
    .skip) (
    .exit 0)) (
   .seq (
   .block 1 (
    .seq (
    .ops [
     ⟨(some 10),.iad none 3 (.t 6) (.t 8),none⟩,
     ⟨(some 11),.ldN 3 (.t 10),none⟩,
     ⟨(some 5),.new 48 [(.int .i64 0),(.int .i64 0),(.slice none 0 true 0)],none⟩,
     ⟨none,.st 3 (.t 5) (.t 11),none⟩]) (
    .draw [
     (⟨(some 12),.mv (.t 0),none⟩,.calm),
     (⟨(some 13),.ldN 3 (.t 5),none⟩,.reads 0 0),
     (⟨(some 14),.call (.c (.func (.func 69) [] [])) [(.t 13)],none⟩,.anchor),
     (⟨(some 15),.mv (.t 0),none⟩,.calm),
     (⟨(some 16),.ldN 3 (.t 5),none⟩,.reads 0 1),
     (⟨(some 17),.call (.c (.func (.func 69) [] [])) [(.t 16)],none⟩,.anchor),
     (⟨(some 18),.lkp 114 (.slice none 0 true 0) false (.t 15) (.t 17),none⟩,.reads 2 2),
     (⟨(some 19),.fad 2 (.t 5),none⟩,.calm),
     (⟨(some 20),.ld1 (.t 19),none⟩,.reads 0 2),
     (⟨(some 21),.call (.c (.func (.func 102) [] [])) [(.t 18),(.t 20)],none⟩,.anchor),
     (⟨none,.mset 114 (.t 12) (.t 14) (.t 21),none⟩,.anchor)]))) (
   .ops [
    ⟨(some 22),.bin .add (.t 8) (.c (.int .i64 1)),none⟩,
    ⟨(some 8),.mv (.t 22),none⟩])))))),[]⟩
def x64:XF:=⟨31,.seq (
 .ops [
  ⟨(some 2),.mv (.c (.slice none 0 true 0)),none⟩,
  ⟨(some 3),.mv (.c (.bool false)),none⟩]) (
 .seq (
 .seq (
 .ops [
  ⟨(some 7),.mv (.t 0),none⟩,
  ⟨(some 8),.len .map (.t 7),none⟩,
  ⟨(some 9),.bin .gtr (.t 8) (.c (.int .i64 128)),none⟩]) (
 .cond (.t 9) (
  .seq (
  .ops [
   ⟨(some 2),.mv (.c (.slice none 0 true 0)),none⟩,
   ⟨(some 3),.mv (.c (.bool false)),none⟩]) (
  .ret)) (
  .skip))) (
 .seq (
 .ops [
  ⟨(some 4),.mv (.c (.slice none 0 true 0)),none⟩]) (
 .seq (
 .seq (
 .ops [
  ⟨(some 10),.mv (.t 0),none⟩,
  ⟨(some 11),.call (.c (.func (.func 113) [] [])) [(.t 10)],none⟩,
  ⟨(some 12),.call (.c (.func (.func 112) [] [])) [(.t 11),(.c (.func (.func 68) [] []))],none⟩,
  ⟨(some 13),.len .sl (.t 12),none⟩,
  ⟨(some 14),.mv (.c (.int .i64 0)),none⟩]) (
 .block 0 (
  .loop (
   .seq (
   .ops [
    ⟨(some 15),.bin .lss (.t 14) (.t 13),none⟩]) (
   .seq (
   .cond (.t 15) (
    .skip) (
    .exit 0)) (
   .seq (
   .block 1 (
    .seq (
    .ops [
     ⟨(some 16),.iad none 2 (.t 12) (.t 14),none⟩,
     ⟨(some 17),.ldN 2 (.t 16),none⟩,
     ⟨(some 6),.new 114 [(.int .i64 0),(.int .i64 0)],none⟩,
     ⟨none,.st 2 (.t 6) (.t 17),none⟩]) (
    .draw [
     (⟨(some 18),.mv (.t 4),none⟩,.calm),
     (⟨(some 19),.iad (some 2) 1 (.t 6) (.c (.int .i64 0)),none⟩,.calm),
     (⟨(some 20),.ld1 (.t 19),none⟩,.reads 0 0),
     (⟨(some 21),.iad (some 2) 1 (.t 6) (.c (.int .i64 1)),none⟩,.calm),
     (⟨(some 22),.ld1 (.t 21),none⟩,.reads 0 0),
     (⟨(some 23),.mv (.t 0),none⟩,.calm),
     (⟨(some 24),.ldN 2 (.t 6),none⟩,.reads 0 0),
     (⟨(some 25),.lkp 114 (.slice none 0 true 0) false (.t 23) (.t 24),none⟩,.reads 0 0),
     (⟨(some 26),.build [(.int .i64 0),(.int .i64 0),(.slice none 0 true 0)] [(0,1,(.t 20)),(1,1,(.t 22)),(2,1,(.t 25))],none⟩,.calm),
     (⟨(some 27),.bsl 48 3 1 [(.int .i64 0),(.int .i64 0),(.slice none 0 true 0)] [(0,3,(.t 26))],none⟩,.new),
     (⟨(some 28),.app 48 3 40 [(.int .i64 0),(.int .i64 0),(.slice none 0 true 0)] (.t 18) (.t 27),none⟩,.anchor),
     (⟨(some 4),.mv (.t 28),none⟩,.calm)]))) (
   .ops [
    ⟨(some 29),.bin .add (.t 14) (.c (.int .i64 1)),none⟩,
    ⟨(some 14),.mv (.t 29),none⟩]))))))) (
 .seq (
 .ops [
  ⟨(some 30),.mv (.t 4),none⟩,
  ⟨(some 2),.mv (.t 30),none⟩,
  ⟨(some 3),.mv (.c (.bool true)),none⟩]) (
 .ret))))),[.tmp 2,.tmp 3]⟩
def x66:XF:=⟨42,.seq (
 .ops [
  ⟨(some 2),.mv (.c (.bool false)),none⟩]) (
 .seq (
 .seq (
 .ops [
  ⟨(some 6),.mv (.t 0),none⟩,
  ⟨(some 7),.len .str (.t 6),none⟩,
  ⟨(some 8),.mv (.c (.int .i64 0)),none⟩]) (
 .block 0 (
  .loop (
   .seq (
   .ops [
    ⟨(some 9),.bin .lss (.t 8) (.t 7),none⟩]) (
   .seq (
   .cond (.t 9) (
    .skip) (
    .exit 0)) (
   .seq (
   .block 1 (
    .seq (
    .ops [
     ⟨(some 10),.mv (.t 8),none⟩,
     ⟨(some 3),.mv (.t 10),none⟩]) (
    .seq (
    .ops [
     ⟨(some 11),.mv (.t 0),none⟩,
     ⟨(some 12),.mv (.t 3),none⟩,
     ⟨(some 13),.idxS (.t 11) (.t 12),none⟩,
     ⟨(some 4),.mv (.t 13),none⟩]) (
    .seq (
    .ops [
     ⟨(some 14),.mv (.t 4),none⟩,
     ⟨(some 15),.bin .geq (.t 14) (.c (.int .u8 97)),none⟩,
     ⟨(some 16),.mv (.t 15),none⟩,
     ⟨(some 17),.mv (.t 4),some (16,true)⟩,
     ⟨(some 18),.bin .leq (.t 17) (.c (.int .u8 122)),some (16,true)⟩,
     ⟨(some 19),.pick (.t 16) (.t 18) (.c (.bool false)),none⟩,
     ⟨(some 5),.mv (.t 19),none⟩]) (
    .seq (
    .ops [
     ⟨(some 20),.mv (.t 5),none⟩,
     ⟨(some 21),.un .not (.t 20),none⟩,
     ⟨(some 22),.mv (.t 21),none⟩,
     ⟨(some 23),.mv (.t 3),some (22,true)⟩,
     ⟨(some 24),.bin .eql (.t 23) (.c (.int .i64 0)),some (22,true)⟩,
     ⟨(some 25),.mv (.t 24),some (22,true)⟩,
     ⟨(some 26),.mv (.t 4),some (25,false)⟩,
     ⟨(some 27),.bin .neq (.t 26) (.c (.int .u8 95)),some (25,false)⟩,
     ⟨(some 28),.mv (.t 27),some (25,false)⟩,
     ⟨(some 29),.mv (.t 4),some (28,true)⟩,
     ⟨(some 30),.bin .lss (.t 29) (.c (.int .u8 48)),some (28,true)⟩,
     ⟨(some 31),.mv (.t 30),some (28,true)⟩,
     ⟨(some 32),.mv (.t 4),some (31,false)⟩,
     ⟨(some 33),.bin .gtr (.t 32) (.c (.int .u8 57)),some (31,false)⟩,
     ⟨(some 34),.pick (.t 31) (.c (.bool true)) (.t 33),some (28,true)⟩,
     ⟨(some 35),.pick (.t 28) (.t 34) (.c (.bool false)),some (25,false)⟩,
     ⟨(some 36),.pick (.t 25) (.c (.bool true)) (.t 35),some (22,true)⟩,
     ⟨(some 37),.pick (.t 22) (.t 36) (.c (.bool false)),none⟩]) (
    .cond (.t 37) (
     .seq (
     .ops [
      ⟨(some 2),.mv (.c (.bool false)),none⟩]) (
     .ret)) (
     .skip))))))) (
   .ops [
    ⟨(some 38),.bin .add (.t 8) (.c (.int .i64 1)),none⟩,
    ⟨(some 8),.mv (.t 38),none⟩]))))))) (
 .seq (
 .ops [
  ⟨(some 39),.mv (.t 0),none⟩,
  ⟨(some 40),.len .str (.t 39),none⟩,
  ⟨(some 41),.call (.c (.func (.func 115) [] [])) [(.t 40),(.c (.int .i64 1)),(.c (.int .i64 16))],none⟩,
  ⟨(some 2),.mv (.t 41),none⟩]) (
 .ret))),[.tmp 2]⟩
def x67:XF:=⟨25,.seq (
 .ops [
  ⟨(some 1),.box 48 (.t 0),none⟩,
  ⟨(some 2),.mv (.c (.int .i64 0)),none⟩]) (
 .seq (
 .seq (
 .ops [
  ⟨(some 3),.fad 0 (.t 1),none⟩,
  ⟨(some 4),.ld1 (.t 3),none⟩,
  ⟨(some 5),.call (.c (.func (.func 44) [] [])) [(.t 4),(.c (.int .i64 0)),(.c (.int .i64 60000))],none⟩,
  ⟨(some 6),.un .not (.t 5),none⟩,
  ⟨(some 7),.mv (.t 6),none⟩,
  ⟨(some 8),.fad 1 (.t 1),some (7,false)⟩,
  ⟨(some 9),.ld1 (.t 8),some (7,false)⟩,
  ⟨(some 10),.call (.c (.func (.func 44) [] [])) [(.t 9),(.c (.int .i64 0)),(.c (.int .i64 23))],some (7,false)⟩,
  ⟨(some 11),.un .not (.t 10),some (7,false)⟩,
  ⟨(some 12),.pick (.t 7) (.c (.bool true)) (.t 11),none⟩,
  ⟨(some 13),.mv (.t 12),none⟩,
  ⟨(some 14),.fad 2 (.t 1),some (13,false)⟩,
  ⟨(some 15),.ld1 (.t 14),some (13,false)⟩,
  ⟨(some 16),.len .sl (.t 15),some (13,false)⟩,
  ⟨(some 17),.call (.c (.func (.func 44) [] [])) [(.t 16),(.c (.int .i64 1)),(.c (.int .i64 64))],some (13,false)⟩,
  ⟨(some 18),.un .not (.t 17),some (13,false)⟩,
  ⟨(some 19),.pick (.t 13) (.c (.bool true)) (.t 18),none⟩,
  ⟨(some 20),.mv (.t 19),none⟩,
  ⟨(some 21),.fad 2 (.t 1),some (20,false)⟩,
  ⟨(some 22),.ld1 (.t 21),some (20,false)⟩,
  ⟨(some 23),.call (.c (.func (.func 45) [] [])) [(.t 22),(.c (.func (.func 116) [] []))],some (20,false)⟩,
  ⟨(some 24),.pick (.t 20) (.c (.bool true)) (.t 23),none⟩]) (
 .cond (.t 24) (
  .seq (
  .ops [
   ⟨(some 2),.mv (.c (.int .i64 80)),none⟩]) (
  .ret)) (
  .skip))) (
 .seq (
 .ops [
  ⟨(some 2),.mv (.c (.int .i64 0)),none⟩]) (
 .ret))),[.tmp 2]⟩
def x68:XF:=⟨8,.seq (
 .ops [
  ⟨(some 2),.box 114 (.t 0),none⟩,
  ⟨(some 3),.box 114 (.t 1),none⟩,
  ⟨(some 4),.mv (.c (.int .i64 0)),none⟩]) (
 .seq (
 .draw [
  (⟨(some 5),.slA 2 1 (.t 2) none none none,none⟩,.reads 0 0),
  (⟨(some 6),.slA 2 1 (.t 3) none none none,none⟩,.reads 0 0),
  (⟨(some 7),.call (.c (.func (.func 118) [] [])) [(.t 5),(.t 6)],none⟩,.anchor),
  (⟨(some 4),.mv (.t 7),none⟩,.calm)]) (
 .ret)),[.tmp 4]⟩
def x69:XF:=⟨8,.seq (
 .ops [
  ⟨(some 1),.box 48 (.t 0),none⟩,
  ⟨(some 2),.new 114 [(.int .i64 0),(.int .i64 0)],none⟩]) (
 .seq (
 .ops [
  ⟨(some 3),.fad 0 (.t 1),none⟩,
  ⟨(some 4),.ld1 (.t 3),none⟩,
  ⟨(some 5),.fad 1 (.t 1),none⟩,
  ⟨(some 6),.ld1 (.t 5),none⟩,
  ⟨(some 7),.build [(.int .i64 0),(.int .i64 0)] [(0,1,(.t 4)),(1,1,(.t 6))],none⟩,
  ⟨none,.st 2 (.t 2) (.t 7),none⟩]) (
 .ret)),[.cellN 2 2]⟩
def x70:XF:=⟨24,.seq (
 .ops [
  ⟨(some 2),.box 48 (.t 0),none⟩,
  ⟨(some 3),.box 48 (.t 1),none⟩,
  ⟨(some 4),.mv (.c (.bool false)),none⟩]) (
 .seq (
 .ops [
  ⟨(some 5),.fad 0 (.t 2),none⟩,
  ⟨(some 6),.ld1 (.t 5),none⟩,
  ⟨(some 7),.fad 0 (.t 3),none⟩,
  ⟨(some 8),.ld1 (.t 7),none⟩,
  ⟨(some 9),.bin .eql (.t 6) (.t 8),none⟩,
  ⟨(some 10),.mv (.t 9),none⟩,
  ⟨(some 11),.fad 1 (.t 2),some (10,true)⟩,
  ⟨(some 12),.ld1 (.t 11),some (10,true)⟩,
  ⟨(some 13),.fad 1 (.t 3),some (10,true)⟩,
  ⟨(some 14),.ld1 (.t 13),some (10,true)⟩,
  ⟨(some 15),.bin .eql (.t 12) (.t 14),some (10,true)⟩,
  ⟨(some 16),.pick (.t 10) (.t 15) (.c (.bool false)),none⟩,
  ⟨(some 17),.mv (.t 16),none⟩,
  ⟨(some 18),.fad 2 (.t 2),some (17,true)⟩,
  ⟨(some 19),.ld1 (.t 18),some (17,true)⟩,
  ⟨(some 20),.fad 2 (.t 3),some (17,true)⟩,
  ⟨(some 21),.ld1 (.t 20),some (17,true)⟩,
  ⟨(some 22),.call (.c (.func (.func 16) [] [])) [(.t 19),(.t 21)],some (17,true)⟩,
  ⟨(some 23),.pick (.t 17) (.t 22) (.c (.bool false)),none⟩,
  ⟨(some 4),.mv (.t 23),none⟩]) (
 .ret)),[.tmp 4]⟩
def x98:XF:=⟨19,.seq (
 .ops [
  ⟨(some 4),.mv (.c (.int .i64 0)),none⟩]) (
 .seq (
 .seq (
 .ops [
  ⟨(some 6),.mv (.t 0),none⟩,
  ⟨(some 7),.len .sl (.t 6),none⟩,
  ⟨(some 8),.mv (.c (.int .i64 0)),none⟩]) (
 .block 0 (
  .loop (
   .seq (
   .ops [
    ⟨(some 9),.bin .lss (.t 8) (.t 7),none⟩]) (
   .seq (
   .cond (.t 9) (
    .skip) (
    .exit 0)) (
   .seq (
   .block 1 (
    .seq (
    .ops [
     ⟨(some 10),.mv (.t 8),none⟩,
     ⟨(some 5),.mv (.t 10),none⟩]) (
    .seq (
    .ops [
     ⟨(some 11),.mv (.t 1),none⟩,
     ⟨(some 12),.mv (.t 0),none⟩,
     ⟨(some 13),.mv (.t 5),none⟩,
     ⟨(some 14),.iad none 1 (.t 12) (.t 13),none⟩,
     ⟨(some 15),.ld1 (.t 14),none⟩,
     ⟨(some 16),.call (.t 11) [(.t 15)],none⟩]) (
    .cond (.t 16) (
     .seq (
     .ops [
      ⟨(some 17),.mv (.t 5),none⟩,
      ⟨(some 4),.mv (.t 17),none⟩]) (
     .ret)) (
     .skip))))) (
   .ops [
    ⟨(some 18),.bin .add (.t 8) (.c (.int .i64 1)),none⟩,
    ⟨(some 8),.mv (.t 18),none⟩]))))))) (
 .seq (
 .ops [
  ⟨(some 4),.mv (.c (.int .i64 (-1))),none⟩]) (
 .ret))),[.tmp 4]⟩
def x102:XF:=⟨30,.seq (
 .ops [
  ⟨(some 4),.mv (.c (.slice none 0 true 0)),none⟩]) (
 .seq (
 .ops [
  ⟨(some 5),.mv (.c (.func (.func 135) [] [])),none⟩]) (
 .seq (
 .ops [
  ⟨(some 6),.mv (.c (.slice none 0 true 0)),none⟩]) (
 .seq (
 .seq (
 .ops [
  ⟨(some 8),.mv (.t 0),none⟩,
  ⟨(some 9),.len .sl (.t 8),none⟩,
  ⟨(some 10),.mv (.t 1),none⟩,
  ⟨(some 11),.len .sl (.t 10),none⟩,
  ⟨(some 12),.max [(.t 9),(.t 11)],none⟩,
  ⟨(some 13),.mv (.c (.int .i64 0)),none⟩]) (
 .block 0 (
  .loop (
   .seq (
   .ops [
    ⟨(some 14),.bin .lss (.t 13) (.t 12),none⟩]) (
   .seq (
   .cond (.t 14) (
    .skip) (
    .exit 0)) (
   .seq (
   .block 1 (
    .seq (
    .ops [
     ⟨(some 15),.mv (.t 13),none⟩,
     ⟨(some 7),.mv (.t 15),none⟩]) (
    .ops [
     ⟨(some 16),.mv (.t 6),none⟩,
     ⟨(some 17),.mv (.t 5),none⟩,
     ⟨(some 18),.mv (.t 0),none⟩,
     ⟨(some 19),.mv (.t 7),none⟩,
     ⟨(some 20),.call (.t 17) [(.t 18),(.t 19)],none⟩,
     ⟨(some 21),.mv (.t 5),none⟩,
     ⟨(some 22),.mv (.t 1),none⟩,
     ⟨(some 23),.mv (.t 7),none⟩,
     ⟨(some 24),.call (.t 21) [(.t 22),(.t 23)],none⟩,
     ⟨(some 25),.call (.c (.func (.func 136) [] [])) [(.t 20),(.t 24),(.c (.int .i64 40000)),(.c (.int .i64 40001))],none⟩,
     ⟨(some 26),.bsl 3 1 1 [(.int .i64 0)] [(0,1,(.t 25))],none⟩,
     ⟨(some 27),.app 3 1 8 [(.int .i64 0)] (.t 16) (.t 26),none⟩,
     ⟨(some 6),.mv (.t 27),none⟩]))) (
   .ops [
    ⟨(some 28),.bin .add (.t 13) (.c (.int .i64 1)),none⟩,
    ⟨(some 13),.mv (.t 28),none⟩]))))))) (
 .seq (
 .ops [
  ⟨(some 29),.mv (.t 6),none⟩,
  ⟨(some 4),.mv (.t 29),none⟩]) (
 .ret))))),[.tmp 4]⟩
def x112:XF:=⟨12,.seq (
 .ops [
  ⟨(some 4),.mv (.c (.slice none 0 true 0)),none⟩]) (
 .seq (
 .ops [
  ⟨(some 6),.mv (.t 0),none⟩,
  ⟨(some 7),.call (.c (.func (.func 142) [] [])) [(.t 6)],none⟩,
  ⟨(some 5),.mv (.t 7),none⟩]) (
 .seq (
 .ops [
  ⟨(some 8),.mv (.t 5),none⟩,
  ⟨(some 9),.mv (.t 1),none⟩,
  ⟨(some 10),.call (.c (.func (.func 143) [] [])) [(.t 8),(.t 9)],none⟩]) (
 .seq (
 .ops [
  ⟨(some 11),.mv (.t 5),none⟩,
  ⟨(some 4),.mv (.t 11),none⟩]) (
 .ret)))),[.tmp 4]⟩
def x113:XF:=⟨4,.seq (
 .ops [
  ⟨(some 1),.box 107 (.t 0),none⟩,
  ⟨(some 2),.mv (.c .nilFunc),none⟩]) (
 .seq (
 .ops [
  ⟨(some 3),.mkf 144 [] [(.t 1)],none⟩,
  ⟨(some 2),.mv (.t 3),none⟩]) (
 .ret)),[.tmp 2]⟩
def x115:XF:=⟨15,.seq (
 .ops [
  ⟨(some 6),.mv (.c (.bool false)),none⟩]) (
 .seq (
 .ops [
  ⟨(some 7),.mv (.t 0),none⟩,
  ⟨(some 8),.mv (.t 1),none⟩,
  ⟨(some 9),.bin .geq (.t 7) (.t 8),none⟩,
  ⟨(some 10),.mv (.t 9),none⟩,
  ⟨(some 11),.mv (.t 0),some (10,true)⟩,
  ⟨(some 12),.mv (.t 2),some (10,true)⟩,
  ⟨(some 13),.bin .leq (.t 11) (.t 12),some (10,true)⟩,
  ⟨(some 14),.pick (.t 10) (.t 13) (.c (.bool false)),none⟩,
  ⟨(some 6),.mv (.t 14),none⟩]) (
 .ret)),[.tmp 6]⟩
def x116:XF:=⟨6,.seq (
 .ops [
  ⟨(some 2),.mv (.c (.bool false)),none⟩]) (
 .seq (
 .ops [
  ⟨(some 3),.mv (.t 0),none⟩,
  ⟨(some 4),.call (.c (.func (.func 117) [] [])) [(.t 3)],none⟩,
  ⟨(some 5),.un .not (.t 4),none⟩,
  ⟨(some 2),.mv (.t 5),none⟩]) (
 .ret)),[.tmp 2]⟩
def x117:XF:=⟨13,.seq (
 .ops [
  ⟨(some 2),.mv (.c (.bool false)),none⟩]) (
 .seq (
 .ops [
  ⟨(some 3),.mv (.t 0),none⟩,
  ⟨(some 4),.call (.c (.func (.func 47) [] [])) [(.t 3)],none⟩,
  ⟨(some 5),.mv (.t 4),none⟩,
  ⟨(some 6),.mv (.t 0),some (5,false)⟩,
  ⟨(some 7),.bin .eql (.t 6) (.c (.int .i64 40000)),some (5,false)⟩,
  ⟨(some 8),.pick (.t 5) (.c (.bool true)) (.t 7),none⟩,
  ⟨(some 9),.mv (.t 8),none⟩,
  ⟨(some 10),.mv (.t 0),some (9,false)⟩,
  ⟨(some 11),.bin .eql (.t 10) (.c (.int .i64 40001)),some (9,false)⟩,
  ⟨(some 12),.pick (.t 9) (.c (.bool true)) (.t 11),none⟩,
  ⟨(some 2),.mv (.t 12),none⟩]) (
 .ret)),[.tmp 2]⟩
def x118:XF:=⟨36,.seq (
 .ops [
  ⟨(some 4),.mv (.c (.int .i64 0)),none⟩]) (
 .seq (
 .seq (
 .ops [
  ⟨(some 9),.mv (.t 0),none⟩,
  ⟨(some 10),.len .sl (.t 9),none⟩,
  ⟨(some 11),.mv (.c (.int .i64 0)),none⟩]) (
 .block 0 (
  .loop (
   .seq (
   .ops [
    ⟨(some 12),.bin .lss (.t 11) (.t 10),none⟩]) (
   .seq (
   .cond (.t 12) (
    .skip) (
    .exit 0)) (
   .seq (
   .block 1 (
    .seq (
    .ops [
     ⟨(some 13),.mv (.t 11),none⟩,
     ⟨(some 14),.iad none 1 (.t 9) (.t 11),none⟩,
     ⟨(some 15),.ld1 (.t 14),none⟩,
     ⟨(some 5),.mv (.t 13),none⟩,
     ⟨(some 6),.mv (.t 15),none⟩]) (
    .seq (
    .seq (
    .ops [
     ⟨(some 16),.mv (.t 5),none⟩,
     ⟨(some 17),.mv (.t 1),none⟩,
     ⟨(some 18),.len .sl (.t 17),none⟩,
     ⟨(some 19),.bin .geq (.t 16) (.t 18),none⟩]) (
    .cond (.t 19) (
     .seq (
     .ops [
      ⟨(some 4),.mv (.c (.int .i64 1)),none⟩]) (
     .ret)) (
     .skip))) (
    .seq (
    .ops [
     ⟨(some 20),.mv (.t 1),none⟩,
     ⟨(some 21),.mv (.t 5),none⟩,
     ⟨(some 22),.iad none 1 (.t 20) (.t 21),none⟩,
     ⟨(some 23),.ld1 (.t 22),none⟩,
     ⟨(some 7),.mv (.t 23),none⟩]) (
    .seq (
    .ops [
     ⟨(some 24),.mv (.t 6),none⟩,
     ⟨(some 25),.mv (.t 7),none⟩,
     ⟨(some 26),.call (.c (.func (.func 146) [] [])) [(.t 24),(.t 25)],none⟩,
     ⟨(some 8),.mv (.t 26),none⟩]) (
    .seq (
    .ops [
     ⟨(some 27),.mv (.t 8),none⟩,
     ⟨(some 28),.bin .neq (.t 27) (.c (.int .i64 0)),none⟩]) (
    .cond (.t 28) (
     .seq (
     .ops [
      ⟨(some 29),.mv (.t 8),none⟩,
      ⟨(some 4),.mv (.t 29),none⟩]) (
     .ret)) (
     .skip)))))))) (
   .ops [
    ⟨(some 30),.bin .add (.t 11) (.c (.int .i64 1)),none⟩,
    ⟨(some 11),.mv (.t 30),none⟩]))))))) (
 .seq (
 .seq (
 .ops [
  ⟨(some 31),.mv (.t 0),none⟩,
  ⟨(some 32),.len .sl (.t 31),none⟩,
  ⟨(some 33),.mv (.t 1),none⟩,
  ⟨(some 34),.len .sl (.t 33),none⟩,
  ⟨(some 35),.bin .lss (.t 32) (.t 34),none⟩]) (
 .cond (.t 35) (
  .seq (
  .ops [
   ⟨(some 4),.mv (.c (.int .i64 (-1))),none⟩]) (
  .ret)) (
  .skip))) (
 .seq (
 .ops [
  ⟨(some 4),.mv (.c (.int .i64 0)),none⟩]) (
 .ret)))),[.tmp 4]⟩
def x135:XF:=⟨13,.seq (
 .ops [
  ⟨(some 4),.mv (.c (.int .i64 0)),none⟩]) (
 .seq (
 .seq (
 .ops [
  ⟨(some 5),.mv (.t 1),none⟩,
  ⟨(some 6),.mv (.t 0),none⟩,
  ⟨(some 7),.len .sl (.t 6),none⟩,
  ⟨(some 8),.bin .lss (.t 5) (.t 7),none⟩]) (
 .cond (.t 8) (
  .seq (
  .ops [
   ⟨(some 9),.mv (.t 0),none⟩,
   ⟨(some 10),.mv (.t 1),none⟩,
   ⟨(some 11),.iad none 1 (.t 9) (.t 10),none⟩,
   ⟨(some 12),.ld1 (.t 11),none⟩,
   ⟨(some 4),.mv (.t 12),none⟩]) (
  .ret)) (
  .skip))) (
 .seq (
 .ops [
  ⟨(some 4),.mv (.c (.int .i64 40000)),none⟩]) (
 .ret))),[.tmp 4]⟩
def x136:XF:=⟨23,.seq (
 .ops [
  ⟨(some 8),.mv (.c (.int .i64 0)),none⟩]) (
 .seq (
 .block 0 (
  .seq (
  .seq (
  .ops [
   ⟨(some 10),.mv (.t 0),none⟩,
   ⟨(some 11),.mv (.t 1),none⟩,
   ⟨(some 12),.bin .eql (.t 10) (.t 11),none⟩,
   ⟨(some 9),.mv (.t 12),none⟩]) (
  .cond (.t 9) (
   .skip) (
   .ops [
    ⟨(some 13),.mv (.t 1),none⟩,
    ⟨(some 14),.mv (.t 2),none⟩,
    ⟨(some 15),.bin .eql (.t 13) (.t 14),none⟩,
    ⟨(some 9),.mv (.t 15),none⟩]))) (
  .cond (.t 9) (
   .seq (
   .ops [
    ⟨(some 16),.mv (.t 0),none⟩,
    ⟨(some 8),.mv (.t 16),none⟩]) (
   .ret)) (
   .seq (
   .ops [
    ⟨(some 18),.mv (.t 0),none⟩,
    ⟨(some 19),.mv (.t 2),none⟩,
    ⟨(some 20),.bin .eql (.t 18) (.t 19),none⟩,
    ⟨(some 17),.mv (.t 20),none⟩]) (
   .cond (.t 17) (
    .seq (
    .ops [
     ⟨(some 21),.mv (.t 1),none⟩,
     ⟨(some 8),.mv (.t 21),none⟩]) (
    .ret)) (
    .skip)))))) (
 .seq (
 .ops [
  ⟨(some 22),.mv (.t 3),none⟩,
  ⟨(some 8),.mv (.t 22),none⟩]) (
 .ret))),[.tmp 8]⟩
def x142:XF:=⟨5,.seq (
 .ops [
  ⟨(some 2),.mv (.c (.slice none 0 true 0)),none⟩]) (
 .seq (
 .ops [
  ⟨(some 3),.mv (.t 0),none⟩,
  ⟨(some 4),.call (.c (.func (.func 167) [] [])) [(.c (.slice none 0 true 0)),(.t 3)],none⟩,
  ⟨(some 2),.mv (.t 4),none⟩]) (
 .ret)),[.tmp 2]⟩
def x143:XF:=⟨14,.seq (
 .ops [
  ⟨(some 5),.mv (.t 0),none⟩,
  ⟨(some 6),.len .sl (.t 5),none⟩,
  ⟨(some 4),.mv (.t 6),none⟩]) (
 .ops [
  ⟨(some 7),.mv (.t 0),none⟩,
  ⟨(some 8),.mv (.t 4),none⟩,
  ⟨(some 9),.mv (.t 4),none⟩,
  ⟨(some 10),.conv .u64 (.t 9),none⟩,
  ⟨(some 11),.call (.c (.func (.func 169) [] [])) [(.t 10)],none⟩,
  ⟨(some 12),.mv (.t 1),none⟩,
  ⟨(some 13),.call (.c (.func (.func 168) [] [])) [(.t 7),(.c (.int .i64 0)),(.t 8),(.t 11),(.t 12)],none⟩]),[]⟩
def x144:XF:=⟨14,.seq (
 .ops [
  ⟨(some 4),.ld1 (.t 1),none⟩,
  ⟨(some 5),.rng (.t 4),none⟩]) (
 .block 0 (
  .loop (
   .seq (
   .ops [
    ⟨(some 6),.nxt (.t 5),none⟩,
    ⟨(some 7),.ext 0 (.t 6),none⟩]) (
   .seq (
   .cond (.t 7) (
    .skip) (
    .exit 0)) (
   .block 1 (
    .seq (
    .ops [
     ⟨(some 8),.ent (.t 5),none⟩,
     ⟨(some 9),.ext 0 (.t 8),none⟩,
     ⟨(some 3),.new 114 [(.int .i64 0),(.int .i64 0)],none⟩,
     ⟨none,.st 2 (.t 3) (.t 9),none⟩]) (
    .seq (
    .ops [
     ⟨(some 10),.mv (.t 0),none⟩,
     ⟨(some 11),.ldN 2 (.t 3),none⟩,
     ⟨(some 12),.call (.t 10) [(.t 11)],none⟩,
     ⟨(some 13),.un .not (.t 12),none⟩]) (
    .cond (.t 13) (
     .ret) (
     .skip))))))))),[]⟩
def x146:XF:=⟨20,.seq (
 .ops [
  ⟨(some 4),.mv (.c (.int .i64 0)),none⟩]) (
 .seq (
 .ops [
  ⟨(some 7),.mv (.t 0),none⟩,
  ⟨(some 8),.call (.c (.func (.func 171) [] [])) [(.t 7)],none⟩,
  ⟨(some 5),.mv (.t 8),none⟩]) (
 .seq (
 .ops [
  ⟨(some 9),.mv (.t 1),none⟩,
  ⟨(some 10),.call (.c (.func (.func 171) [] [])) [(.t 9)],none⟩,
  ⟨(some 6),.mv (.t 10),none⟩]) (
 .seq (
 .seq (
 .ops [
  ⟨(some 11),.mv (.t 5),none⟩]) (
 .cond (.t 11) (
  .seq (
  .seq (
  .ops [
   ⟨(some 12),.mv (.t 6),none⟩]) (
  .cond (.t 12) (
   .seq (
   .ops [
    ⟨(some 4),.mv (.c (.int .i64 0)),none⟩]) (
   .ret)) (
   .skip))) (
  .seq (
  .ops [
   ⟨(some 4),.mv (.c (.int .i64 (-1))),none⟩]) (
  .ret))) (
  .skip))) (
 .seq (
 .seq (
 .ops [
  ⟨(some 13),.mv (.t 6),none⟩]) (
 .cond (.t 13) (
  .seq (
  .ops [
   ⟨(some 4),.mv (.c (.int .i64 1)),none⟩]) (
  .ret)) (
  .skip))) (
 .seq (
 .seq (
 .ops [
  ⟨(some 14),.mv (.t 0),none⟩,
  ⟨(some 15),.mv (.t 1),none⟩,
  ⟨(some 16),.bin .lss (.t 14) (.t 15),none⟩]) (
 .cond (.t 16) (
  .seq (
  .ops [
   ⟨(some 4),.mv (.c (.int .i64 (-1))),none⟩]) (
  .ret)) (
  .skip))) (
 .seq (
 .seq (
 .ops [
  ⟨(some 17),.mv (.t 0),none⟩,
  ⟨(some 18),.mv (.t 1),none⟩,
  ⟨(some 19),.bin .gtr (.t 17) (.t 18),none⟩]) (
 .cond (.t 19) (
  .seq (
  .ops [
   ⟨(some 4),.mv (.c (.int .i64 1)),none⟩]) (
  .ret)) (
  .skip))) (
 .seq (
 .ops [
  ⟨(some 4),.mv (.c (.int .i64 0)),none⟩]) (
 .ret)))))))),[.tmp 4]⟩
def x167:XF:=⟨13,.seq (
 .ops [
  ⟨(some 2),.box 177 (.t 0),none⟩,
  ⟨(some 4),.mv (.c (.slice none 0 true 0)),none⟩]) (
 .seq (
 .seq (
 .ops [
  ⟨(some 6),.mv (.t 1),none⟩]) (
 .block 0 (
  .rfun (.t 6) [7] (
   .ops [
    ⟨(some 5),.new 114 [(.int .i64 0),(.int .i64 0)],none⟩,
    ⟨none,.st 2 (.t 5) (.t 7),none⟩]) (
   .block 1 (
    .ops [
     ⟨(some 8),.ld1 (.t 2),none⟩,
     ⟨(some 9),.ldN 2 (.t 5),none⟩,
     ⟨(some 10),.bsl 114 2 1 [(.int .i64 0),(.int .i64 0)] [(0,2,(.t 9))],none⟩,
     ⟨(some 11),.app 114 2 16 [(.int .i64 0),(.int .i64 0)] (.t 8) (.t 10),none⟩,
     ⟨none,.st 1 (.t 2) (.t 11),none⟩]))))) (
 .seq (
 .ops [
  ⟨(some 12),.ld1 (.t 2),none⟩,
  ⟨(some 4),.mv (.t 12),none⟩]) (
 .ret))),[.tmp 4]⟩
def x168:XF:=⟨148,.seq (
 .ops [
  ⟨(some 10),.mv (.c (.bool true)),none⟩]) (
 .seq (
 .ops [
  ⟨(some 11),.mv (.c (.bool true)),none⟩]) (
 .block 0 (
  .loop (
   .block 1 (
    .seq (
    .ops [
     ⟨(some 21),.mv (.t 2),none⟩,
     ⟨(some 22),.mv (.t 1),none⟩,
     ⟨(some 23),.bin .sub (.t 21) (.t 22),none⟩,
     ⟨(some 12),.mv (.t 23),none⟩]) (
    .seq (
    .seq (
    .ops [
     ⟨(some 24),.mv (.t 12),none⟩,
     ⟨(some 25),.bin .leq (.t 24) (.c (.int .i64 12)),none⟩]) (
    .cond (.t 25) (
     .seq (
     .ops [
      ⟨(some 26),.mv (.t 0),none⟩,
      ⟨(some 27),.mv (.t 1),none⟩,
      ⟨(some 28),.mv (.t 2),none⟩,
      ⟨(some 29),.mv (.t 4),none⟩,
      ⟨(some 30),.call (.c (.func (.func 186) [] [])) [(.t 26),(.t 27),(.t 28),(.t 29)],none⟩]) (
     .ret)) (
     .skip))) (
    .seq (
    .seq (
    .ops [
     ⟨(some 31),.mv (.t 3),none⟩,
     ⟨(some 32),.bin .eql (.t 31) (.c (.int .i64 0)),none⟩]) (
    .cond (.t 32) (
     .seq (
     .ops [
      ⟨(some 33),.mv (.t 0),none⟩,
      ⟨(some 34),.mv (.t 1),none⟩,
      ⟨(some 35),.mv (.t 2),none⟩,
      ⟨(some 36),.mv (.t 4),none⟩,
      ⟨(some 37),.call (.c (.func (.func 187) [] [])) [(.t 33),(.t 34),(.t 35),(.t 36)],none⟩]) (
     .ret)) (
     .skip))) (
    .seq (
    .seq (
    .ops [
     ⟨(some 38),.mv (.t 10),none⟩,
     ⟨(some 39),.un .not (.t 38),none⟩]) (
    .cond (.t 39) (
     .seq (
     .ops [
      ⟨(some 40),.mv (.t 0),none⟩,
      ⟨(some 41),.mv (.t 1),none⟩,
      ⟨(some 42),.mv (.t 2),none⟩,
      ⟨(some 43),.mv (.t 4),none⟩,
      ⟨(some 44),.call (.c (.func (.func 188) [] [])) [(.t 40),(.t 41),(.t 42),(.t 43)],none⟩]) (
     .ops [
      ⟨(some 45),.mv (.t 3),none⟩,
      ⟨(some 46),.bin .sub (.t 45) (.c (.int .i64 1)),none⟩,
      ⟨(some 3),.mv (.t 46),none⟩])) (
     .skip))) (
    .seq (
    .ops [
     ⟨(some 48),.mv (.t 0),none⟩,
     ⟨(some 49),.mv (.t 1),none⟩,
     ⟨(some 50),.mv (.t 2),none⟩,
     ⟨(some 51),.mv (.t 4),none⟩,
     ⟨(some 52),.call (.c (.func (.func 189) [] [])) [(.t 48),(.t 49),(.t 50),(.t 51)],none⟩,
     ⟨(some 47),.mv (.t 52),none⟩,
     ⟨(some 53),.ext 0 (.t 47),none⟩,
     ⟨(some 54),.ext 1 (.t 47),none⟩,
     ⟨(some 13),.mv (.t 53),none⟩,
     ⟨(some 14),.mv (.t 54),none⟩]) (
    .seq (
    .seq (
    .ops [
     ⟨(some 55),.mv (.t 14),none⟩,
     ⟨(some 56),.bin .eql (.t 55) (.c (.int .i64 2)),none⟩]) (
    .cond (.t 56) (
     .seq (
     .ops [
      ⟨(some 57),.mv (.t 0),none⟩,
      ⟨(some 58),.mv (.t 1),none⟩,
      ⟨(some 59),.mv (.t 2),none⟩,
      ⟨(some 60),.mv (.t 4),none⟩,
      ⟨(some 61),.call (.c (.func (.func 190) [] [])) [(.t 57),(.t 58),(.t 59),(.t 60)],none⟩]) (
     .seq (
     .ops [
      ⟨(some 62),.mv (.t 2),none⟩,
      ⟨(some 63),.bin .sub (.t 62) (.c (.int .i64 1)),none⟩,
      ⟨(some 64),.mv (.t 13),none⟩,
      ⟨(some 65),.mv (.t 1),none⟩,
      ⟨(some 66),.bin .sub (.t 64) (.t 65),none⟩,
      ⟨(some 67),.bin .sub (.t 63) (.t 66),none⟩,
      ⟨(some 13),.mv (.t 67),none⟩]) (
     .ops [
      ⟨(some 14),.mv (.c (.int .i64 1)),none⟩]))) (
     .skip))) (
    .seq (
    .seq (
    .ops [
     ⟨(some 68),.mv (.t 10),none⟩,
     ⟨(some 69),.mv (.t 68),none⟩,
     ⟨(some 70),.mv (.t 11),some (69,true)⟩,
     ⟨(some 71),.pick (.t 69) (.t 70) (.c (.bool false)),none⟩,
     ⟨(some 72),.mv (.t 71),none⟩,
     ⟨(some 73),.mv (.t 14),some (72,true)⟩,
     ⟨(some 74),.bin .eql (.t 73) (.c (.int .i64 1)),some (72,true)⟩,
     ⟨(some 75),.pick (.t 72) (.t 74) (.c (.bool false)),none⟩]) (
    .cond (.t 75) (
     .seq (
     .ops [
      ⟨(some 76),.mv (.t 0),none⟩,
      ⟨(some 77),.mv (.t 1),none⟩,
      ⟨(some 78),.mv (.t 2),none⟩,
      ⟨(some 79),.mv (.t 4),none⟩,
      ⟨(some 80),.call (.c (.func (.func 191) [] [])) [(.t 76),(.t 77),(.t 78),(.t 79)],none⟩]) (
     .cond (.t 80) (
      .ret) (
      .skip))) (
     .skip))) (
    .seq (
    .seq (
    .draw [
     (⟨(some 81),.mv (.t 1),none⟩,.calm),
     (⟨(some 82),.bin .gtr (.t 81) (.c (.int .i64 0)),none⟩,.calm),
     (⟨(some 83),.mv (.t 82),none⟩,.calm),
     (⟨(some 84),.mv (.t 4),some (83,true)⟩,.calm),
     (⟨(some 85),.mv (.t 0),some (83,true)⟩,.calm),
     (⟨(some 86),.mv (.t 1),some (83,true)⟩,.calm),
     (⟨(some 87),.bin .sub (.t 86) (.c (.int .i64 1)),some (83,true)⟩,.calm),
     (⟨(some 88),.iad none 2 (.t 85) (.t 87),some (83,true)⟩,.calm),
     (⟨(some 89),.ldN 2 (.t 88),some (83,true)⟩,.reads 0 0),
     (⟨(some 90),.mv (.t 0),some (83,true)⟩,.calm),
     (⟨(some 91),.mv (.t 13),some (83,true)⟩,.calm),
     (⟨(some 92),.iad none 2 (.t 90) (.t 91),some (83,true)⟩,.calm),
     (⟨(some 93),.ldN 2 (.t 92),some (83,true)⟩,.reads 0 0),
     (⟨(some 94),.call (.t 84) [(.t 89),(.t 93)],some (83,true)⟩,.anchor),
     (⟨(some 95),.bin .lss (.t 94) (.c (.int .i64 0)),some (83,true)⟩,.calm),
     (⟨(some 96),.un .not (.t 95),some (83,true)⟩,.calm),
     (⟨(some 97),.pick (.t 83) (.t 96) (.c (.bool false)),none⟩,.calm)]) (
    .cond (.t 97) (
     .seq (
     .ops [
      ⟨(some 98),.mv (.t 0),none⟩,
      ⟨(some 99),.mv (.t 1),none⟩,
      ⟨(some 100),.mv (.t 2),none⟩,
      ⟨(some 101),.mv (.t 13),none⟩,
      ⟨(some 102),.mv (.t 4),none⟩,
      ⟨(some 103),.call (.c (.func (.func 192) [] [])) [(.t 98),(.t 99),(.t 100),(.t 101),(.t 102)],none⟩,
      ⟨(some 15),.mv (.t 103),none⟩]) (
     .seq (
     .ops [
      ⟨(some 104),.mv (.t 15),none⟩,
      ⟨(some 1),.mv (.t 104),none⟩]) (
     .exit 1))) (
     .skip))) (
    .seq (
    .ops [
     ⟨(some 106),.mv (.t 0),none⟩,
     ⟨(some 107),.mv (.t 1),none⟩,
     ⟨(some 108),.mv (.t 2),none⟩,
     ⟨(some 109),.mv (.t 13),none⟩,
     ⟨(some 110),.mv (.t 4),none⟩,
     ⟨(some 111),.call (.c (.func (.func 193) [] [])) [(.t 106),(.t 107),(.t 108),(.t 109),(.t 110)],none⟩,
     ⟨(some 105),.mv (.t 111),none⟩,
     ⟨(some 112),.ext 0 (.t 105),none⟩,
     ⟨(some 113),.ext 1 (.t 105),none⟩,
     ⟨(some 16),.mv (.t 112),none⟩,
     ⟨(some 17),.mv (.t 113),none⟩]) (
    .seq (
    .ops [
     ⟨(some 114),.mv (.t 17),none⟩,
     ⟨(some 11),.mv (.t 114),none⟩]) (
    .seq (
    .ops [
     ⟨(some 115),.mv (.t 16),none⟩,
     ⟨(some 116),.mv (.t 1),none⟩,
     ⟨(some 117),.bin .sub (.t 115) (.t 116),none⟩,
     ⟨(some 118),.mv (.t 2),none⟩,
     ⟨(some 119),.mv (.t 16),none⟩,
     ⟨(some 120),.bin .sub (.t 118) (.t 119),none⟩,
     ⟨(some 18),.mv (.t 117),none⟩,
     ⟨(some 19),.mv (.t 120),none⟩]) (
    .seq (
    .ops [
     ⟨(some 121),.mv (.t 12),none⟩,
     ⟨(some 122),.bin .quo (.t 121) (.c (.int .i64 8)),none⟩,
     ⟨(some 20),.mv (.t 122),none⟩]) (
    .seq (
    .ops [
     ⟨(some 123),.mv (.t 18),none⟩,
     ⟨(some 124),.mv (.t 19),none⟩,
     ⟨(some 125),.bin .lss (.t 123) (.t 124),none⟩]) (
    .cond (.t 125) (
     .seq (
     .ops [
      ⟨(some 126),.mv (.t 18),none⟩,
      ⟨(some 127),.mv (.t 20),none⟩,
      ⟨(some 128),.bin .geq (.t 126) (.t 127),none⟩,
      ⟨(some 10),.mv (.t 128),none⟩]) (
     .seq (
     .ops [
      ⟨(some 129),.mv (.t 0),none⟩,
      ⟨(some 130),.mv (.t 1),none⟩,
      ⟨(some 131),.mv (.t 16),none⟩,
      ⟨(some 132),.mv (.t 3),none⟩,
      ⟨(some 133),.mv (.t 4),none⟩,
      ⟨(some 134),.call (.c (.func (.func 168) [] [])) [(.t 129),(.t 130),(.t 131),(.t 132),(.t 133)],none⟩]) (
     .ops [
      ⟨(some 135),.mv (.t 16),none⟩,
      ⟨(some 136),.bin .add (.t 135) (.c (.int .i64 1)),none⟩,
      ⟨(some 1),.mv (.t 136),none⟩]))) (
     .seq (
     .ops [
      ⟨(some 137),.mv (.t 19),none⟩,
      ⟨(some 138),.mv (.t 20),none⟩,
      ⟨(some 139),.bin .geq (.t 137) (.t 138),none⟩,
      ⟨(some 10),.mv (.t 139),none⟩]) (
     .seq (
     .ops [
      ⟨(some 140),.mv (.t 0),none⟩,
      ⟨(some 141),.mv (.t 16),none⟩,
      ⟨(some 142),.bin .add (.t 141) (.c (.int .i64 1)),none⟩,
      ⟨(some 143),.mv (.t 2),none⟩,
      ⟨(some 144),.mv (.t 3),none⟩,
      ⟨(some 145),.mv (.t 4),none⟩,
      ⟨(some 146),.call (.c (.func (.func 168) [] [])) [(.t 140),(.t 142),(.t 143),(.t 144),(.t 145)],none⟩]) (
     .ops [
      ⟨(some 147),.mv (.t 16),none⟩,
      ⟨(some 2),.mv (.t 147),none⟩]))))))))))))))))))))),[]⟩
def x169:XF:=⟨8,.seq (
 .ops [
  ⟨(some 2),.mv (.c (.int .i64 0)),none⟩]) (
 .seq (
 .cond (.c (.bool false)) (
  .seq (
  .ops [
   ⟨(some 3),.mv (.t 0),none⟩,
   ⟨(some 4),.conv .u32 (.t 3),none⟩,
   ⟨(some 5),.call (.c (.func (.func 194) [] [])) [(.t 4)],none⟩,
   ⟨(some 2),.mv (.t 5),none⟩]) (
  .ret)) (
  .skip)) (
 .seq (
 .ops [
  ⟨(some 6),.mv (.t 0),none⟩,
  ⟨(some 7),.call (.c (.func (.func 195) [] [])) [(.t 6)],none⟩,
  ⟨(some 2),.mv (.t 7),none⟩]) (
 .ret))),[.tmp 2]⟩
def x171:XF:=⟨6,.seq (
 .ops [
  ⟨(some 2),.mv (.c (.bool false)),none⟩]) (
 .seq (
 .ops [
  ⟨(some 3),.mv (.t 0),none⟩,
  ⟨(some 4),.mv (.t 0),none⟩,
  ⟨(some 5),.bin .neq (.t 3) (.t 4),none⟩,
  ⟨(some 2),.mv (.t 5),none⟩]) (
 .ret)),[.tmp 2]⟩
def x186:XF:=⟨53,.seq (
 .ops [
  ⟨(some 10),.mv (.t 1),none⟩,
  ⟨(some 11),.bin .add (.t 10) (.c (.int .i64 1)),none⟩,
  ⟨(some 8),.mv (.t 11),none⟩]) (
 .block 0 (
  .loop (
   .seq (
   .seq (
   .ops [
    ⟨(some 12),.mv (.t 8),none⟩,
    ⟨(some 13),.mv (.t 2),none⟩,
    ⟨(some 14),.bin .lss (.t 12) (.t 13),none⟩]) (
   .cond (.t 14) (
    .skip) (
    .exit 0))) (
   .seq (
   .block 1 (
    .seq (
    .ops [
     ⟨(some 17),.mv (.t 8),none⟩,
     ⟨(some 9),.mv (.t 17),none⟩]) (
    .block 2 (
     .loop (
      .seq (
      .seq (
      .draw [
       (⟨(some 18),.mv (.t 9),none⟩,.calm),
       (⟨(some 19),.mv (.t 1),none⟩,.calm),
       (⟨(some 20),.bin .gtr (.t 18) (.t 19),none⟩,.calm),
       (⟨(some 21),.mv (.t 20),none⟩,.calm),
       (⟨(some 22),.mv (.t 3),some (21,true)⟩,.calm),
       (⟨(some 23),.mv (.t 0),some (21,true)⟩,.calm),
       (⟨(some 24),.mv (.t 9),some (21,true)⟩,.calm),
       (⟨(some 25),.iad none 2 (.t 23) (.t 24),some (21,true)⟩,.calm),
       (⟨(some 26),.ldN 2 (.t 25),some (21,true)⟩,.reads 0 0),
       (⟨(some 27),.mv (.t 0),some (21,true)⟩,.calm),
       (⟨(some 28),.mv (.t 9),some (21,true)⟩,.calm),
       (⟨(some 29),.bin .sub (.t 28) (.c (.int .i64 1)),some (21,true)⟩,.calm),
       (⟨(some 30),.iad none 2 (.t 27) (.t 29),some (21,true)⟩,.calm),
       (⟨(some 31),.ldN 2 (.t 30),some (21,true)⟩,.reads 0 0),
       (⟨(some 32),.call (.t 22) [(.t 26),(.t 31)],some (21,true)⟩,.anchor),
       (⟨(some 33),.bin .lss (.t 32) (.c (.int .i64 0)),some (21,true)⟩,.calm),
       (⟨(some 34),.pick (.t 21) (.t 33) (.c (.bool false)),none⟩,.calm)]) (
      .cond (.t 34) (
       .skip) (
       .exit 2))) (
      .seq (
      .block 3 (
       .draw [
        (⟨(some 37),.mv (.t 0),none⟩,.calm),
        (⟨(some 38),.mv (.t 9),none⟩,.calm),
        (⟨(some 39),.mv (.t 0),none⟩,.calm),
        (⟨(some 40),.mv (.t 9),none⟩,.calm),
        (⟨(some 41),.bin .sub (.t 40) (.c (.int .i64 1)),none⟩,.calm),
        (⟨(some 42),.mv (.t 0),none⟩,.calm),
        (⟨(some 43),.mv (.t 9),none⟩,.calm),
        (⟨(some 44),.bin .sub (.t 43) (.c (.int .i64 1)),none⟩,.calm),
        (⟨(some 45),.iad none 2 (.t 42) (.t 44),none⟩,.calm),
        (⟨(some 46),.ldN 2 (.t 45),none⟩,.reads 0 0),
        (⟨(some 47),.mv (.t 0),none⟩,.calm),
        (⟨(some 48),.mv (.t 9),none⟩,.calm),
        (⟨(some 49),.iad none 2 (.t 47) (.t 48),none⟩,.calm),
        (⟨(some 50),.ldN 2 (.t 49),none⟩,.reads 0 0),
        (⟨(some 51),.iad none 2 (.t 37) (.t 38),none⟩,.calm),
        (⟨none,.st 2 (.t 51) (.t 46),none⟩,.anchor),
        (⟨(some 52),.iad none 2 (.t 39) (.t 41),none⟩,.calm),
        (⟨none,.st 2 (.t 52) (.t 50),none⟩,.anchor)])) (
      .ops [
       ⟨(some 35),.mv (.t 9),none⟩,
       ⟨(some 36),.bin .sub (.t 35) (.c (.int .i64 1)),none⟩,
       ⟨(some 9),.mv (.t 36),none⟩]))))))) (
   .ops [
    ⟨(some 15),.mv (.t 8),none⟩,
    ⟨(some 16),.bin .add (.t 15) (.c (.int .i64 1)),none⟩,
    ⟨(some 8),.mv (.t 16),none⟩]))))),[]⟩
def x187:XF:=⟨60,.seq (
 .ops [
  ⟨(some 13),.mv (.t 1),none⟩,
  ⟨(some 8),.mv (.t 13),none⟩]) (
 .seq (
 .ops [
  ⟨(some 9),.mv (.c (.int .i64 0)),none⟩]) (
 .seq (
 .ops [
  ⟨(some 14),.mv (.t 2),none⟩,
  ⟨(some 15),.mv (.t 1),none⟩,
  ⟨(some 16),.bin .sub (.t 14) (.t 15),none⟩,
  ⟨(some 10),.mv (.t 16),none⟩]) (
 .seq (
 .seq (
 .ops [
  ⟨(some 17),.mv (.t 10),none⟩,
  ⟨(some 18),.bin .sub (.t 17) (.c (.int .i64 1)),none⟩,
  ⟨(some 19),.bin .quo (.t 18) (.c (.int .i64 2)),none⟩,
  ⟨(some 11),.mv (.t 19),none⟩]) (
 .block 0 (
  .loop (
   .seq (
   .seq (
   .ops [
    ⟨(some 20),.mv (.t 11),none⟩,
    ⟨(some 21),.bin .geq (.t 20) (.c (.int .i64 0)),none⟩]) (
   .cond (.t 21) (
    .skip) (
    .exit 0))) (
   .seq (
   .block 1 (
    .ops [
     ⟨(some 24),.mv (.t 0),none⟩,
     ⟨(some 25),.mv (.t 11),none⟩,
     ⟨(some 26),.mv (.t 10),none⟩,
     ⟨(some 27),.mv (.t 8),none⟩,
     ⟨(some 28),.mv (.t 3),none⟩,
     ⟨(some 29),.call (.c (.func (.func 204) [] [])) [(.t 24),(.t 25),(.t 26),(.t 27),(.t 28)],none⟩])) (
   .ops [
    ⟨(some 22),.mv (.t 11),none⟩,
    ⟨(some 23),.bin .sub (.t 22) (.c (.int .i64 1)),none⟩,
    ⟨(some 11),.mv (.t 23),none⟩])))))) (
 .seq (
 .ops [
  ⟨(some 30),.mv (.t 10),none⟩,
  ⟨(some 31),.bin .sub (.t 30) (.c (.int .i64 1)),none⟩,
  ⟨(some 12),.mv (.t 31),none⟩]) (
 .block 2 (
  .loop (
   .seq (
   .seq (
   .ops [
    ⟨(some 32),.mv (.t 12),none⟩,
    ⟨(some 33),.bin .geq (.t 32) (.c (.int .i64 0)),none⟩]) (
   .cond (.t 33) (
    .skip) (
    .exit 2))) (
   .seq (
   .block 3 (
    .seq (
    .draw [
     (⟨(some 36),.mv (.t 0),none⟩,.calm),
     (⟨(some 37),.mv (.t 8),none⟩,.calm),
     (⟨(some 38),.mv (.t 0),none⟩,.calm),
     (⟨(some 39),.mv (.t 8),none⟩,.calm),
     (⟨(some 40),.mv (.t 12),none⟩,.calm),
     (⟨(some 41),.bin .add (.t 39) (.t 40),none⟩,.calm),
     (⟨(some 42),.mv (.t 0),none⟩,.calm),
     (⟨(some 43),.mv (.t 8),none⟩,.calm),
     (⟨(some 44),.mv (.t 12),none⟩,.calm),
     (⟨(some 45),.bin .add (.t 43) (.t 44),none⟩,.calm),
     (⟨(some 46),.iad none 2 (.t 42) (.t 45),none⟩,.calm),
     (⟨(some 47),.ldN 2 (.t 46),none⟩,.reads 0 0),
     (⟨(some 48),.mv (.t 0),none⟩,.calm),
     (⟨(some 49),.mv (.t 8),none⟩,.calm),
     (⟨(some 50),.iad none 2 (.t 48) (.t 49),none⟩,.calm),
     (⟨(some 51),.ldN 2 (.t 50),none⟩,.reads 0 0),
     (⟨(some 52),.iad none 2 (.t 36) (.t 37),none⟩,.calm),
     (⟨none,.st 2 (.t 52) (.t 47),none⟩,.anchor),
     (⟨(some 53),.iad none 2 (.t 38) (.t 41),none⟩,.calm),
     (⟨none,.st 2 (.t 53) (.t 51),none⟩,.anchor)]) (
    .ops [
     ⟨(some 54),.mv (.t 0),none⟩,
     ⟨(some 55),.mv (.t 9),none⟩,
     ⟨(some 56),.mv (.t 12),none⟩,
     ⟨(some 57),.mv (.t 8),none⟩,
     ⟨(some 58),.mv (.t 3),none⟩,
     ⟨(some 59),.call (.c (.func (.func 204) [] [])) [(.t 54),(.t 55),(.t 56),(.t 57),(.t 58)],none⟩]))) (
   .ops [
    ⟨(some 34),.mv (.t 12),none⟩,
    ⟨(some 35),.bin .sub (.t 34) (.c (.int .i64 1)),none⟩,
    ⟨(some 12),.mv (.t 35),none⟩]))))))))),[]⟩
def x188:XF:=⟨67,.seq (
 .ops [
  ⟨(some 13),.mv (.t 2),none⟩,
  ⟨(some 14),.mv (.t 1),none⟩,
  ⟨(some 15),.bin .sub (.t 13) (.t 14),none⟩,
  ⟨(some 8),.mv (.t 15),none⟩]) (
 .seq (
 .ops [
  ⟨(some 16),.mv (.t 8),none⟩,
  ⟨(some 17),.bin .geq (.t 16) (.c (.int .i64 8)),none⟩]) (
 .cond (.t 17) (
  .seq (
  .ops [
   ⟨(some 18),.mv (.t 8),none⟩,
   ⟨(some 19),.conv .u64 (.t 18),none⟩,
   ⟨(some 9),.new 263 [(.int .u64 0)],none⟩,
   ⟨none,.st 1 (.t 9) (.t 19),none⟩]) (
  .seq (
  .ops [
   ⟨(some 20),.mv (.t 8),none⟩,
   ⟨(some 21),.call (.c (.func (.func 205) [] [])) [(.t 20)],none⟩,
   ⟨(some 10),.mv (.t 21),none⟩]) (
  .seq (
  .ops [
   ⟨(some 22),.mv (.t 1),none⟩,
   ⟨(some 23),.mv (.t 8),none⟩,
   ⟨(some 24),.bin .quo (.t 23) (.c (.int .i64 4)),none⟩,
   ⟨(some 25),.bin .mul (.t 24) (.c (.int .i64 2)),none⟩,
   ⟨(some 26),.bin .add (.t 22) (.t 25),none⟩,
   ⟨(some 27),.bin .sub (.t 26) (.c (.int .i64 1)),none⟩,
   ⟨(some 11),.mv (.t 27),none⟩]) (
  .block 0 (
   .loop (
    .seq (
    .seq (
    .ops [
     ⟨(some 28),.mv (.t 11),none⟩,
     ⟨(some 29),.mv (.t 1),none⟩,
     ⟨(some 30),.mv (.t 8),none⟩,
     ⟨(some 31),.bin .quo (.t 30) (.c (.int .i64 4)),none⟩,
     ⟨(some 32),.bin .mul (.t 31) (.c (.int .i64 2)),none⟩,
     ⟨(some 33),.bin .add (.t 29) (.t 32),none⟩,
     ⟨(some 34),.bin .add (.t 33) (.c (.int .i64 1)),none⟩,
     ⟨(some 35),.bin .leq (.t 28) (.t 34),none⟩]) (
    .cond (.t 35) (
     .skip) (
     .exit 0))) (
    .seq (
    .block 1 (
     .seq (
     .ops [
      ⟨(some 38),.call (.c (.func (.func 206) [] [])) [(.t 9)],none⟩,
      ⟨(some 39),.mv (.t 10),none⟩,
      ⟨(some 40),.bin .sub (.t 39) (.c (.int .u64 1)),none⟩,
      ⟨(some 41),.bin .and (.t 38) (.t 40),none⟩,
      ⟨(some 42),.conv .i64 (.t 41),none⟩,
      ⟨(some 12),.mv (.t 42),none⟩]) (
     .seq (
     .seq (
     .ops [
      ⟨(some 43),.mv (.t 12),none⟩,
      ⟨(some 44),.mv (.t 8),none⟩,
      ⟨(some 45),.bin .geq (.t 43) (.t 44),none⟩]) (
     .cond (.t 45) (
      .ops [
       ⟨(some 46),.mv (.t 12),none⟩,
       ⟨(some 47),.mv (.t 8),none⟩,
       ⟨(some 48),.bin .sub (.t 46) (.t 47),none⟩,
       ⟨(some 12),.mv (.t 48),none⟩]) (
      .skip))) (
     .draw [
      (⟨(some 49),.mv (.t 0),none⟩,.calm),
      (⟨(some 50),.mv (.t 11),none⟩,.calm),
      (⟨(some 51),.mv (.t 0),none⟩,.calm),
      (⟨(some 52),.mv (.t 1),none⟩,.calm),
      (⟨(some 53),.mv (.t 12),none⟩,.calm),
      (⟨(some 54),.bin .add (.t 52) (.t 53),none⟩,.calm),
      (⟨(some 55),.mv (.t 0),none⟩,.calm),
      (⟨(some 56),.mv (.t 1),none⟩,.calm),
      (⟨(some 57),.mv (.t 12),none⟩,.calm),
      (⟨(some 58),.bin .add (.t 56) (.t 57),none⟩,.calm),
      (⟨(some 59),.iad none 2 (.t 55) (.t 58),none⟩,.calm),
      (⟨(some 60),.ldN 2 (.t 59),none⟩,.reads 0 0),
      (⟨(some 61),.mv (.t 0),none⟩,.calm),
      (⟨(some 62),.mv (.t 11),none⟩,.calm),
      (⟨(some 63),.iad none 2 (.t 61) (.t 62),none⟩,.calm),
      (⟨(some 64),.ldN 2 (.t 63),none⟩,.reads 0 0),
      (⟨(some 65),.iad none 2 (.t 49) (.t 50),none⟩,.calm),
      (⟨none,.st 2 (.t 65) (.t 60),none⟩,.anchor),
      (⟨(some 66),.iad none 2 (.t 51) (.t 54),none⟩,.calm),
      (⟨none,.st 2 (.t 66) (.t 64),none⟩,.anchor)])))) (
    .ops [
     ⟨(some 36),.mv (.t 11),none⟩,
     ⟨(some 37),.bin .add (.t 36) (.c (.int .i64 1)),none⟩,
     ⟨(some 11),.mv (.t 37),none⟩])))))))) (
  .skip))),[]⟩
def x189:XF:=⟨63,.seq (
 .ops [
  ⟨(some 8),.mv (.c (.int .i64 0)),none⟩,
  ⟨(some 9),.mv (.c (.int .i64 0)),none⟩]) (
 .seq (
 .ops [
  ⟨(some 15),.mv (.t 2),none⟩,
  ⟨(some 16),.mv (.t 1),none⟩,
  ⟨(some 17),.bin .sub (.t 15) (.t 16),none⟩,
  ⟨(some 10),.mv (.t 17),none⟩]) (
 .seq (
 .ops [
  ⟨(some 11),.new 3 [(.int .i64 0)],none⟩]) (
 .seq (
 .ops [
  ⟨(some 18),.mv (.t 1),none⟩,
  ⟨(some 19),.mv (.t 10),none⟩,
  ⟨(some 20),.bin .quo (.t 19) (.c (.int .i64 4)),none⟩,
  ⟨(some 21),.bin .mul (.t 20) (.c (.int .i64 1)),none⟩,
  ⟨(some 22),.bin .add (.t 18) (.t 21),none⟩,
  ⟨(some 12),.mv (.t 22),none⟩]) (
 .seq (
 .ops [
  ⟨(some 23),.mv (.t 1),none⟩,
  ⟨(some 24),.mv (.t 10),none⟩,
  ⟨(some 25),.bin .quo (.t 24) (.c (.int .i64 4)),none⟩,
  ⟨(some 26),.bin .mul (.t 25) (.c (.int .i64 2)),none⟩,
  ⟨(some 27),.bin .add (.t 23) (.t 26),none⟩,
  ⟨(some 13),.mv (.t 27),none⟩]) (
 .seq (
 .ops [
  ⟨(some 28),.mv (.t 1),none⟩,
  ⟨(some 29),.mv (.t 10),none⟩,
  ⟨(some 30),.bin .quo (.t 29) (.c (.int .i64 4)),none⟩,
  ⟨(some 31),.bin .mul (.t 30) (.c (.int .i64 3)),none⟩,
  ⟨(some 32),.bin .add (.t 28) (.t 31),none⟩,
  ⟨(some 14),.mv (.t 32),none⟩]) (
 .seq (
 .seq (
 .ops [
  ⟨(some 33),.mv (.t 10),none⟩,
  ⟨(some 34),.bin .geq (.t 33) (.c (.int .i64 8)),none⟩]) (
 .cond (.t 34) (
  .seq (
  .seq (
  .ops [
   ⟨(some 35),.mv (.t 10),none⟩,
   ⟨(some 36),.bin .geq (.t 35) (.c (.int .i64 50)),none⟩]) (
  .cond (.t 36) (
   .seq (
   .ops [
    ⟨(some 37),.mv (.t 0),none⟩,
    ⟨(some 38),.mv (.t 12),none⟩,
    ⟨(some 39),.mv (.t 3),none⟩,
    ⟨(some 40),.call (.c (.func (.func 207) [] [])) [(.t 37),(.t 38),(.t 11),(.t 39)],none⟩,
    ⟨(some 12),.mv (.t 40),none⟩]) (
   .seq (
   .ops [
    ⟨(some 41),.mv (.t 0),none⟩,
    ⟨(some 42),.mv (.t 13),none⟩,
    ⟨(some 43),.mv (.t 3),none⟩,
    ⟨(some 44),.call (.c (.func (.func 207) [] [])) [(.t 41),(.t 42),(.t 11),(.t 43)],none⟩,
    ⟨(some 13),.mv (.t 44),none⟩]) (
   .ops [
    ⟨(some 45),.mv (.t 0),none⟩,
    ⟨(some 46),.mv (.t 14),none⟩,
    ⟨(some 47),.mv (.t 3),none⟩,
    ⟨(some 48),.call (.c (.func (.func 207) [] [])) [(.t 45),(.t 46),(.t 11),(.t 47)],none⟩,
    ⟨(some 14),.mv (.t 48),none⟩]))) (
   .skip))) (
  .ops [
   ⟨(some 49),.mv (.t 0),none⟩,
   ⟨(some 50),.mv (.t 12),none⟩,
   ⟨(some 51),.mv (.t 13),none⟩,
   ⟨(some 52),.mv (.t 14),none⟩,
   ⟨(some 53),.mv (.t 3),none⟩,
   ⟨(some 54),.call (.c (.func (.func 208) [] [])) [(.t 49),(.t 50),(.t 51),(.t 52),(.t 11),(.t 53)],none⟩,
   ⟨(some 13),.mv (.t 54),none⟩])) (
  .skip))) (
 .seq (
 .ops [
  ⟨(some 55),.ld1 (.t 11),none⟩]) (
 .block 0 (
  .seq (
  .ops [
   ⟨(some 58),.bin .eql (.t 55) (.c (.int .i64 0)),none⟩,
   ⟨(some 57),.mv (.t 58),none⟩]) (
  .cond (.t 57) (
   .seq (
   .ops [
    ⟨(some 59),.mv (.t 13),none⟩,
    ⟨(some 8),.mv (.t 59),none⟩,
    ⟨(some 9),.mv (.c (.int .i64 1)),none⟩]) (
   .ret)) (
   .seq (
   .ops [
    ⟨(some 61),.bin .eql (.t 55) (.c (.int .i64 12)),none⟩,
    ⟨(some 60),.mv (.t 61),none⟩]) (
   .cond (.t 60) (
    .seq (
    .ops [
     ⟨(some 62),.mv (.t 13),none⟩,
     ⟨(some 8),.mv (.t 62),none⟩,
     ⟨(some 9),.mv (.c (.int .i64 2)),none⟩]) (
    .ret)) (
    .seq (
    .ops [
     ⟨(some 56),.mv (.t 13),none⟩,
     ⟨(some 8),.mv (.t 56),none⟩,
     ⟨(some 9),.mv (.c (.int .i64 0)),none⟩]) (
    .ret)))))))))))))),[.tmp 8,.tmp 9]⟩
def x190:XF:=⟨34,.seq (
 .ops [
  ⟨(some 10),.mv (.t 1),none⟩,
  ⟨(some 8),.mv (.t 10),none⟩]) (
 .seq (
 .ops [
  ⟨(some 11),.mv (.t 2),none⟩,
  ⟨(some 12),.bin .sub (.t 11) (.c (.int .i64 1)),none⟩,
  ⟨(some 9),.mv (.t 12),none⟩]) (
 .block 0 (
  .loop (
   .seq (
   .seq (
   .ops [
    ⟨(some 13),.mv (.t 8),none⟩,
    ⟨(some 14),.mv (.t 9),none⟩,
    ⟨(some 15),.bin .lss (.t 13) (.t 14),none⟩]) (
   .cond (.t 15) (
    .skip) (
    .exit 0))) (
   .block 1 (
    .seq (
    .draw [
     (⟨(some 16),.mv (.t 0),none⟩,.calm),
     (⟨(some 17),.mv (.t 8),none⟩,.calm),
     (⟨(some 18),.mv (.t 0),none⟩,.calm),
     (⟨(some 19),.mv (.t 9),none⟩,.calm),
     (⟨(some 20),.mv (.t 0),none⟩,.calm),
     (⟨(some 21),.mv (.t 9),none⟩,.calm),
     (⟨(some 22),.iad none 2 (.t 20) (.t 21),none⟩,.calm),
     (⟨(some 23),.ldN 2 (.t 22),none⟩,.reads 0 0),
     (⟨(some 24),.mv (.t 0),none⟩,.calm),
     (⟨(some 25),.mv (.t 8),none⟩,.calm),
     (⟨(some 26),.iad none 2 (.t 24) (.t 25),none⟩,.calm),
     (⟨(some 27),.ldN 2 (.t 26),none⟩,.reads 0 0),
     (⟨(some 28),.iad none 2 (.t 16) (.t 17),none⟩,.calm),
     (⟨none,.st 2 (.t 28) (.t 23),none⟩,.anchor),
     (⟨(some 29),.iad none 2 (.t 18) (.t 19),none⟩,.calm),
     (⟨none,.st 2 (.t 29) (.t 27),none⟩,.anchor)]) (
    .seq (
    .ops [
     ⟨(some 30),.mv (.t 8),none⟩,
     ⟨(some 31),.bin .add (.t 30) (.c (.int .i64 1)),none⟩,
     ⟨(some 8),.mv (.t 31),none⟩]) (
    .ops [
     ⟨(some 32),.mv (.t 9),none⟩,
     ⟨(some 33),.bin .sub (.t 32) (.c (.int .i64 1)),none⟩,
     ⟨(some 9),.mv (.t 33),none⟩])))))))),[]⟩
def x191:XF:=⟨141,.seq (
 .ops [
  ⟨(some 8),.mv (.c (.bool false)),none⟩]) (
 .seq (
 .ops [
  ⟨(some 13),.mv (.t 1),none⟩,
  ⟨(some 14),.bin .add (.t 13) (.c (.int .i64 1)),none⟩,
  ⟨(some 9),.mv (.t 14),none⟩]) (
 .seq (
 .seq (
 .ops [
  ⟨(some 10),.mv (.c (.int .i64 0)),none⟩]) (
 .block 0 (
  .loop (
   .seq (
   .seq (
   .ops [
    ⟨(some 15),.mv (.t 10),none⟩,
    ⟨(some 16),.bin .lss (.t 15) (.c (.int .i64 5)),none⟩]) (
   .cond (.t 16) (
    .skip) (
    .exit 0))) (
   .seq (
   .block 1 (
    .seq (
    .block 2 (
     .loop (
      .seq (
      .seq (
      .draw [
       (⟨(some 19),.mv (.t 9),none⟩,.calm),
       (⟨(some 20),.mv (.t 2),none⟩,.calm),
       (⟨(some 21),.bin .lss (.t 19) (.t 20),none⟩,.calm),
       (⟨(some 22),.mv (.t 21),none⟩,.calm),
       (⟨(some 23),.mv (.t 3),some (22,true)⟩,.calm),
       (⟨(some 24),.mv (.t 0),some (22,true)⟩,.calm),
       (⟨(some 25),.mv (.t 9),some (22,true)⟩,.calm),
       (⟨(some 26),.iad none 2 (.t 24) (.t 25),some (22,true)⟩,.calm),
       (⟨(some 27),.ldN 2 (.t 26),some (22,true)⟩,.reads 0 0),
       (⟨(some 28),.mv (.t 0),some (22,true)⟩,.calm),
       (⟨(some 29),.mv (.t 9),some (22,true)⟩,.calm),
       (⟨(some 30),.bin .sub (.t 29) (.c (.int .i64 1)),some (22,true)⟩,.calm),
       (⟨(some 31),.iad none 2 (.t 28) (.t 30),some (22,true)⟩,.calm),
       (⟨(some 32),.ldN 2 (.t 31),some (22,true)⟩,.reads 0 0),
       (⟨(some 33),.call (.t 23) [(.t 27),(.t 32)],some (22,true)⟩,.anchor),
       (⟨(some 34),.bin .lss (.t 33) (.c (.int .i64 0)),some (22,true)⟩,.calm),
       (⟨(some 35),.un .not (.t 34),some (22,true)⟩,.calm),
       (⟨(some 36),.pick (.t 22) (.t 35) (.c (.bool false)),none⟩,.calm)]) (
      .cond (.t 36) (
       .skip) (
       .exit 2))) (
      .block 3 (
       .ops [
        ⟨(some 37),.mv (.t 9),none⟩,
        ⟨(some 38),.bin .add (.t 37) (.c (.int .i64 1)),none⟩,
        ⟨(some 9),.mv (.t 38),none⟩]))))) (
    .seq (
    .seq (
    .ops [
     ⟨(some 39),.mv (.t 9),none⟩,
     ⟨(some 40),.mv (.t 2),none⟩,
     ⟨(some 41),.bin .eql (.t 39) (.t 40),none⟩]) (
    .cond (.t 41) (
     .seq (
     .ops [
      ⟨(some 8),.mv (.c (.bool true)),none⟩]) (
     .ret)) (
     .skip))) (
    .seq (
    .seq (
    .ops [
     ⟨(some 42),.mv (.t 2),none⟩,
     ⟨(some 43),.mv (.t 1),none⟩,
     ⟨(some 44),.bin .sub (.t 42) (.t 43),none⟩,
     ⟨(some 45),.bin .lss (.t 44) (.c (.int .i64 50)),none⟩]) (
    .cond (.t 45) (
     .seq (
     .ops [
      ⟨(some 8),.mv (.c (.bool false)),none⟩]) (
     .ret)) (
     .skip))) (
    .seq (
    .draw [
     (⟨(some 46),.mv (.t 0),none⟩,.calm),
     (⟨(some 47),.mv (.t 9),none⟩,.calm),
     (⟨(some 48),.mv (.t 0),none⟩,.calm),
     (⟨(some 49),.mv (.t 9),none⟩,.calm),
     (⟨(some 50),.bin .sub (.t 49) (.c (.int .i64 1)),none⟩,.calm),
     (⟨(some 51),.mv (.t 0),none⟩,.calm),
     (⟨(some 52),.mv (.t 9),none⟩,.calm),
     (⟨(some 53),.bin .sub (.t 52) (.c (.int .i64 1)),none⟩,.calm),
     (⟨(some 54),.iad none 2 (.t 51) (.t 53),none⟩,.calm),
     (⟨(some 55),.ldN 2 (.t 54),none⟩,.reads 0 0),
     (⟨(some 56),.mv (.t 0),none⟩,.calm),
     (⟨(some 57),.mv (.t 9),none⟩,.calm),
     (⟨(some 58),.iad none 2 (.t 56) (.t 57),none⟩,.calm),
     (⟨(some 59),.ldN 2 (.t 58),none⟩,.reads 0 0),
     (⟨(some 60),.iad none 2 (.t 46) (.t 47),none⟩,.calm),
     (⟨none,.st 2 (.t 60) (.t 55),none⟩,.anchor),
     (⟨(some 61),.iad none 2 (.t 48) (.t 50),none⟩,.calm),
     (⟨none,.st 2 (.t 61) (.t 59),none⟩,.anchor)]) (
    .seq (
    .seq (
    .ops [
     ⟨(some 62),.mv (.t 9),none⟩,
     ⟨(some 63),.mv (.t 1),none⟩,
     ⟨(some 64),.bin .sub (.t 62) (.t 63),none⟩,
     ⟨(some 65),.bin .geq (.t 64) (.c (.int .i64 2)),none⟩]) (
    .cond (.t 65) (
     .seq (
     .ops [
      ⟨(some 66),.mv (.t 9),none⟩,
      ⟨(some 67),.bin .sub (.t 66) (.c (.int .i64 1)),none⟩,
      ⟨(some 11),.mv (.t 67),none⟩]) (
     .block 4 (
      .loop (
       .seq (
       .seq (
       .ops [
        ⟨(some 68),.mv (.t 11),none⟩,
        ⟨(some 69),.bin .geq (.t 68) (.c (.int .i64 1)),none⟩]) (
       .cond (.t 69) (
        .skip) (
        .exit 4))) (
       .seq (
       .block 5 (
        .seq (
        .seq (
        .draw [
         (⟨(some 72),.mv (.t 3),none⟩,.calm),
         (⟨(some 73),.mv (.t 0),none⟩,.calm),
         (⟨(some 74),.mv (.t 11),none⟩,.calm),
         (⟨(some 75),.iad none 2 (.t 73) (.t 74),none⟩,.calm),
         (⟨(some 76),.ldN 2 (.t 75),none⟩,.reads 0 0),
         (⟨(some 77),.mv (.t 0),none⟩,.calm),
         (⟨(some 78),.mv (.t 11),none⟩,.calm),
         (⟨(some 79),.bin .sub (.t 78) (.c (.int .i64 1)),none⟩,.calm),
         (⟨(some 80),.iad none 2 (.t 77) (.t 79),none⟩,.calm),
         (⟨(some 81),.ldN 2 (.t 80),none⟩,.reads 0 0),
         (⟨(some 82),.call (.t 72) [(.t 76),(.t 81)],none⟩,.anchor),
         (⟨(some 83),.bin .lss (.t 82) (.c (.int .i64 0)),none⟩,.calm),
         (⟨(some 84),.un .not (.t 83),none⟩,.calm)]) (
        .cond (.t 84) (
         .exit 4) (
         .skip))) (
        .draw [
         (⟨(some 85),.mv (.t 0),none⟩,.calm),
         (⟨(some 86),.mv (.t 11),none⟩,.calm),
         (⟨(some 87),.mv (.t 0),none⟩,.calm),
         (⟨(some 88),.mv (.t 11),none⟩,.calm),
         (⟨(some 89),.bin .sub (.t 88) (.c (.int .i64 1)),none⟩,.calm),
         (⟨(some 90),.mv (.t 0),none⟩,.calm),
         (⟨(some 91),.mv (.t 11),none⟩,.calm),
         (⟨(some 92),.bin .sub (.t 91) (.c (.int .i64 1)),none⟩,.calm),
         (⟨(some 93),.iad none 2 (.t 90) (.t 92),none⟩,.calm),
         (⟨(some 94),.ldN 2 (.t 93),none⟩,.reads 0 0),
         (⟨(some 95),.mv (.t 0),none⟩,.calm),
         (⟨(some 96),.mv (.t 11),none⟩,.calm),
         (⟨(some 97),.iad none 2 (.t 95) (.t 96),none⟩,.calm),
         (⟨(some 98),.ldN 2 (.t 97),none⟩,.reads 0 0),
         (⟨(some 99),.iad none 2 (.t 85) (.t 86),none⟩,.calm),
         (⟨none,.st 2 (.t 99) (.t 94),none⟩,.anchor),
         (⟨(some 100),.iad none 2 (.t 87) (.t 89),none⟩,.calm),
         (⟨none,.st 2 (.t 100) (.t 98),none⟩,.anchor)]))) (
       .ops [
        ⟨(some 70),.mv (.t 11),none⟩,
        ⟨(some 71),.bin .sub (.t 70) (.c (.int .i64 1)),none⟩,
        ⟨(some 11),.mv (.t 71),none⟩])))))) (
     .skip))) (
    .seq (
    .ops [
     ⟨(some 101),.mv (.t 2),none⟩,
     ⟨(some 102),.mv (.t 9),none⟩,
     ⟨(some 103),.bin .sub (.t 101) (.t 102),none⟩,
     ⟨(some 104),.bin .geq (.t 103) (.c (.int .i64 2)),none⟩]) (
    .cond (.t 104) (
     .seq (
     .ops [
      ⟨(some 105),.mv (.t 9),none⟩,
      ⟨(some 106),.bin .add (.t 105) (.c (.int .i64 1)),none⟩,
      ⟨(some 12),.mv (.t 106),none⟩]) (
     .block 6 (
      .loop (
       .seq (
       .seq (
       .ops [
        ⟨(some 107),.mv (.t 12),none⟩,
        ⟨(some 108),.mv (.t 2),none⟩,
        ⟨(some 109),.bin .lss (.t 107) (.t 108),none⟩]) (
       .cond (.t 109) (
        .skip) (
        .exit 6))) (
       .seq (
       .block 7 (
        .seq (
        .seq (
        .draw [
         (⟨(some 112),.mv (.t 3),none⟩,.calm),
         (⟨(some 113),.mv (.t 0),none⟩,.calm),
         (⟨(some 114),.mv (.t 12),none⟩,.calm),
         (⟨(some 115),.iad none 2 (.t 113) (.t 114),none⟩,.calm),
         (⟨(some 116),.ldN 2 (.t 115),none⟩,.reads 0 0),
         (⟨(some 117),.mv (.t 0),none⟩,.calm),
         (⟨(some 118),.mv (.t 12),none⟩,.calm),
         (⟨(some 119),.bin .sub (.t 118) (.c (.int .i64 1)),none⟩,.calm),
         (⟨(some 120),.iad none 2 (.t 117) (.t 119),none⟩,.calm),
         (⟨(some 121),.ldN 2 (.t 120),none⟩,.reads 0 0),
         (⟨(some 122),.call (.t 112) [(.t 116),(.t 121)],none⟩,.anchor),
         (⟨(some 123),.bin .lss (.t 122) (.c (.int .i64 0)),none⟩,.calm),
         (⟨(some 124),.un .not (.t 123),none⟩,.calm)]) (
        .cond (.t 124) (
         .exit 6) (
         .skip))) (
        .draw [
         (⟨(some 125),.mv (.t 0),none⟩,.calm),
         (⟨(some 126),.mv (.t 12),none⟩,.calm),
         (⟨(some 127),.mv (.t 0),none⟩,.calm),
         (⟨(some 128),.mv (.t 12),none⟩,.calm),
         (⟨(some 129),.bin .sub (.t 128) (.c (.int .i64 1)),none⟩,.calm),
         (⟨(some 130),.mv (.t 0),none⟩,.calm),
         (⟨(some 131),.mv (.t 12),none⟩,.calm),
         (⟨(some 132),.bin .sub (.t 131) (.c (.int .i64 1)),none⟩,.calm),
         (⟨(some 133),.iad none 2 (.t 130) (.t 132),none⟩,.calm),
         (⟨(some 134),.ldN 2 (.t 133),none⟩,.reads 0 0),
         (⟨(some 135),.mv (.t 0),none⟩,.calm),
         (⟨(some 136),.mv (.t 12),none⟩,.calm),
         (⟨(some 137),.iad none 2 (.t 135) (.t 136),none⟩,.calm),
         (⟨(some 138),.ldN 2 (.t 137),none⟩,.reads 0 0),
         (⟨(some 139),.iad none 2 (.t 125) (.t 126),none⟩,.calm),
         (⟨none,.st 2 (.t 139) (.t 134),none⟩,.anchor),
         (⟨(some 140),.iad none 2 (.t 127) (.t 129),none⟩,.calm),
         (⟨none,.st 2 (.t 140) (.t 138),none⟩,.anchor)]))) (
       .ops [
        ⟨(some 110),.mv (.t 12),none⟩,
        ⟨(some 111),.bin .add (.t 110) (.c (.int .i64 1)),none⟩,
        ⟨(some 12),.mv (.t 111),none⟩])))))) (
     .skip))))))))) (
   .ops [
    ⟨(some 17),.mv (.t 10),none⟩,
    ⟨(some 18),.bin .add (.t 17) (.c (.int .i64 1)),none⟩,
    ⟨(some 10),.mv (.t 18),none⟩])))))) (
 .seq (
 .ops [
  ⟨(some 8),.mv (.c (.bool false)),none⟩]) (
 .ret)))),[.tmp 8]⟩
def x193:XF:=⟨178,.seq (
 .ops [
  ⟨(some 10),.mv (.c (.int .i64 0)),none⟩,
  ⟨(some 11),.mv (.c (.bool false)),none⟩]) (
 .seq (
 .draw [
  (⟨(some 14),.mv (.t 0),none⟩,.calm),
  (⟨(some 15),.mv (.t 1),none⟩,.calm),
  (⟨(some 16),.mv (.t 0),none⟩,.calm),
  (⟨(some 17),.mv (.t 3),none⟩,.calm),
  (⟨(some 18),.mv (.t 0),none⟩,.calm),
  (⟨(some 19),.mv (.t 3),none⟩,.calm),
  (⟨(some 20),.iad none 2 (.t 18) (.t 19),none⟩,.calm),
  (⟨(some 21),.ldN 2 (.t 20),none⟩,.reads 0 0),
  (⟨(some 22),.mv (.t 0),none⟩,.calm),
  (⟨(some 23),.mv (.t 1),none⟩,.calm),
  (⟨(some 24),.iad none 2 (.t 22) (.t 23),none⟩,.calm),
  (⟨(some 25),.ldN 2 (.t 24),none⟩,.reads 0 0),
  (⟨(some 26),.iad none 2 (.t 14) (.t 15),none⟩,.calm),
  (⟨none,.st 2 (.t 26) (.t 21),none⟩,.anchor),
  (⟨(some 27),.iad none 2 (.t 16) (.t 17),none⟩,.calm),
  (⟨none,.st 2 (.t 27) (.t 25),none⟩,.anchor)]) (
 .seq (
 .ops [
  ⟨(some 28),.mv (.t 1),none⟩,
  ⟨(some 29),.bin .add (.t 28) (.c (.int .i64 1)),none⟩,
  ⟨(some 30),.mv (.t 2),none⟩,
  ⟨(some 31),.bin .sub (.t 30) (.c (.int .i64 1)),none⟩,
  ⟨(some 12),.mv (.t 29),none⟩,
  ⟨(some 13),.mv (.t 31),none⟩]) (
 .seq (
 .block 0 (
  .loop (
   .seq (
   .seq (
   .draw [
    (⟨(some 32),.mv (.t 12),none⟩,.calm),
    (⟨(some 33),.mv (.t 13),none⟩,.calm),
    (⟨(some 34),.bin .leq (.t 32) (.t 33),none⟩,.calm),
    (⟨(some 35),.mv (.t 34),none⟩,.calm),
    (⟨(some 36),.mv (.t 4),some (35,true)⟩,.calm),
    (⟨(some 37),.mv (.t 0),some (35,true)⟩,.calm),
    (⟨(some 38),.mv (.t 12),some (35,true)⟩,.calm),
    (⟨(some 39),.iad none 2 (.t 37) (.t 38),some (35,true)⟩,.calm),
    (⟨(some 40),.ldN 2 (.t 39),some (35,true)⟩,.reads 0 0),
    (⟨(some 41),.mv (.t 0),some (35,true)⟩,.calm),
    (⟨(some 42),.mv (.t 1),some (35,true)⟩,.calm),
    (⟨(some 43),.iad none 2 (.t 41) (.t 42),some (35,true)⟩,.calm),
    (⟨(some 44),.ldN 2 (.t 43),some (35,true)⟩,.reads 0 0),
    (⟨(some 45),.call (.t 36) [(.t 40),(.t 44)],some (35,true)⟩,.anchor),
    (⟨(some 46),.bin .lss (.t 45) (.c (.int .i64 0)),some (35,true)⟩,.calm),
    (⟨(some 47),.pick (.t 35) (.t 46) (.c (.bool false)),none⟩,.calm)]) (
   .cond (.t 47) (
    .skip) (
    .exit 0))) (
   .block 1 (
    .ops [
     ⟨(some 48),.mv (.t 12),none⟩,
     ⟨(some 49),.bin .add (.t 48) (.c (.int .i64 1)),none⟩,
     ⟨(some 12),.mv (.t 49),none⟩]))))) (
 .seq (
 .block 2 (
  .loop (
   .seq (
   .seq (
   .draw [
    (⟨(some 50),.mv (.t 12),none⟩,.calm),
    (⟨(some 51),.mv (.t 13),none⟩,.calm),
    (⟨(some 52),.bin .leq (.t 50) (.t 51),none⟩,.calm),
    (⟨(some 53),.mv (.t 52),none⟩,.calm),
    (⟨(some 54),.mv (.t 4),some (53,true)⟩,.calm),
    (⟨(some 55),.mv (.t 0),some (53,true)⟩,.calm),
    (⟨(some 56),.mv (.t 13),some (53,true)⟩,.calm),
    (⟨(some 57),.iad none 2 (.t 55) (.t 56),some (53,true)⟩,.calm),
    (⟨(some 58),.ldN 2 (.t 57),some (53,true)⟩,.reads 0 0),
    (⟨(some 59),.mv (.t 0),some (53,true)⟩,.calm),
    (⟨(some 60),.mv (.t 1),some (53,true)⟩,.calm),
    (⟨(some 61),.iad none 2 (.t 59) (.t 60),some (53,true)⟩,.calm),
    (⟨(some 62),.ldN 2 (.t 61),some (53,true)⟩,.reads 0 0),
    (⟨(some 63),.call (.t 54) [(.t 58),(.t 62)],some (53,true)⟩,.anchor),
    (⟨(some 64),.bin .lss (.t 63) (.c (.int .i64 0)),some (53,true)⟩,.calm),
    (⟨(some 65),.un .not (.t 64),some (53,true)⟩,.calm),
    (⟨(some 66),.pick (.t 53) (.t 65) (.c (.bool false)),none⟩,.calm)]) (
   .cond (.t 66) (
    .skip) (
    .exit 2))) (
   .block 3 (
    .ops [
     ⟨(some 67),.mv (.t 13),none⟩,
     ⟨(some 68),.bin .sub (.t 67) (.c (.int .i64 1)),none⟩,
     ⟨(some 13),.mv (.t 68),none⟩]))))) (
 .seq (
 .seq (
 .ops [
  ⟨(some 69),.mv (.t 12),none⟩,
  ⟨(some 70),.mv (.t 13),none⟩,
  ⟨(some 71),.bin .gtr (.t 69) (.t 70),none⟩]) (
 .cond (.t 71) (
  .seq (
  .draw [
   (⟨(some 72),.mv (.t 0),none⟩,.calm),
   (⟨(some 73),.mv (.t 13),none⟩,.calm),
   (⟨(some 74),.mv (.t 0),none⟩,.calm),
   (⟨(some 75),.mv (.t 1),none⟩,.calm),
   (⟨(some 76),.mv (.t 0),none⟩,.calm),
   (⟨(some 77),.mv (.t 1),none⟩,.calm),
   (⟨(some 78),.iad none 2 (.t 76) (.t 77),none⟩,.calm),
   (⟨(some 79),.ldN 2 (.t 78),none⟩,.reads 0 0),
   (⟨(some 80),.mv (.t 0),none⟩,.calm),
   (⟨(some 81),.mv (.t 13),none⟩,.calm),
   (⟨(some 82),.iad none 2 (.t 80) (.t 81),none⟩,.calm),
   (⟨(some 83),.ldN 2 (.t 82),none⟩,.reads 0 0),
   (⟨(some 84),.iad none 2 (.t 72) (.t 73),none⟩,.calm),
   (⟨none,.st 2 (.t 84) (.t 79),none⟩,.anchor),
   (⟨(some 85),.iad none 2 (.t 74) (.t 75),none⟩,.calm),
   (⟨none,.st 2 (.t 85) (.t 83),none⟩,.anchor)]) (
  .seq (
  .ops [
   ⟨(some 86),.mv (.t 13),none⟩,
   ⟨(some 10),.mv (.t 86),none⟩,
   ⟨(some 11),.mv (.c (.bool true)),none⟩]) (
  .ret))) (
  .skip))) (
 .seq (
 .draw [
  (⟨(some 87),.mv (.t 0),none⟩,.calm),
  (⟨(some 88),.mv (.t 12),none⟩,.calm),
  (⟨(some 89),.mv (.t 0),none⟩,.calm),
  (⟨(some 90),.mv (.t 13),none⟩,.calm),
  (⟨(some 91),.mv (.t 0),none⟩,.calm),
  (⟨(some 92),.mv (.t 13),none⟩,.calm),
  (⟨(some 93),.iad none 2 (.t 91) (.t 92),none⟩,.calm),
  (⟨(some 94),.ldN 2 (.t 93),none⟩,.reads 0 0),
  (⟨(some 95),.mv (.t 0),none⟩,.calm),
  (⟨(some 96),.mv (.t 12),none⟩,.calm),
  (⟨(some 97),.iad none 2 (.t 95) (.t 96),none⟩,.calm),
  (⟨(some 98),.ldN 2 (.t 97),none⟩,.reads 0 0),
  (⟨(some 99),.iad none 2 (.t 87) (.t 88),none⟩,.calm),
  (⟨none,.st 2 (.t 99) (.t 94),none⟩,.anchor),
  (⟨(some 100),.iad none 2 (.t 89) (.t 90),none⟩,.calm),
  (⟨none,.st 2 (.t 100) (.t 98),none⟩,.anchor)]) (
 .seq (
 .ops [
  ⟨(some 101),.mv (.t 12),none⟩,
  ⟨(some 102),.bin .add (.t 101) (.c (.int .i64 1)),none⟩,
  ⟨(some 12),.mv (.t 102),none⟩]) (
 .seq (
 .ops [
  ⟨(some 103),.mv (.t 13),none⟩,
  ⟨(some 104),.bin .sub (.t 103) (.c (.int .i64 1)),none⟩,
  ⟨(some 13),.mv (.t 104),none⟩]) (
 .seq (
 .block 4 (
  .loop (
   .block 5 (
    .seq (
    .block 6 (
     .loop (
      .seq (
      .seq (
      .draw [
       (⟨(some 105),.mv (.t 12),none⟩,.calm),
       (⟨(some 106),.mv (.t 13),none⟩,.calm),
       (⟨(some 107),.bin .leq (.t 105) (.t 106),none⟩,.calm),
       (⟨(some 108),.mv (.t 107),none⟩,.calm),
       (⟨(some 109),.mv (.t 4),some (108,true)⟩,.calm),
       (⟨(some 110),.mv (.t 0),some (108,true)⟩,.calm),
       (⟨(some 111),.mv (.t 12),some (108,true)⟩,.calm),
       (⟨(some 112),.iad none 2 (.t 110) (.t 111),some (108,true)⟩,.calm),
       (⟨(some 113),.ldN 2 (.t 112),some (108,true)⟩,.reads 0 0),
       (⟨(some 114),.mv (.t 0),some (108,true)⟩,.calm),
       (⟨(some 115),.mv (.t 1),some (108,true)⟩,.calm),
       (⟨(some 116),.iad none 2 (.t 114) (.t 115),some (108,true)⟩,.calm),
       (⟨(some 117),.ldN 2 (.t 116),some (108,true)⟩,.reads 0 0),
       (⟨(some 118),.call (.t 109) [(.t 113),(.t 117)],some (108,true)⟩,.anchor),
       (⟨(some 119),.bin .lss (.t 118) (.c (.int .i64 0)),some (108,true)⟩,.calm),
       (⟨(some 120),.pick (.t 108) (.t 119) (.c (.bool false)),none⟩,.calm)]) (
      .cond (.t 120) (
       .skip) (
       .exit 6))) (
      .block 7 (
       .ops [
        ⟨(some 121),.mv (.t 12),none⟩,
        ⟨(some 122),.bin .add (.t 121) (.c (.int .i64 1)),none⟩,
        ⟨(some 12),.mv (.t 122),none⟩]))))) (
    .seq (
    .block 8 (
     .loop (
      .seq (
      .seq (
      .draw [
       (⟨(some 123),.mv (.t 12),none⟩,.calm),
       (⟨(some 124),.mv (.t 13),none⟩,.calm),
       (⟨(some 125),.bin .leq (.t 123) (.t 124),none⟩,.calm),
       (⟨(some 126),.mv (.t 125),none⟩,.calm),
       (⟨(some 127),.mv (.t 4),some (126,true)⟩,.calm),
       (⟨(some 128),.mv (.t 0),some (126,true)⟩,.calm),
       (⟨(some 129),.mv (.t 13),some (126,true)⟩,.calm),
       (⟨(some 130),.iad none 2 (.t 128) (.t 129),some (126,true)⟩,.calm),
       (⟨(some 131),.ldN 2 (.t 130),some (126,true)⟩,.reads 0 0),
       (⟨(some 132),.mv (.t 0),some (126,true)⟩,.calm),
       (⟨(some 133),.mv (.t 1),some (126,true)⟩,.calm),
       (⟨(some 134),.iad none 2 (.t 132) (.t 133),some (126,true)⟩,.calm),
       (⟨(some 135),.ldN 2 (.t 134),some (126,true)⟩,.reads 0 0),
       (⟨(some 136),.call (.t 127) [(.t 131),(.t 135)],some (126,true)⟩,.anchor),
       (⟨(some 137),.bin .lss (.t 136) (.c (.int .i64 0)),some (126,true)⟩,.calm),
       (⟨(some 138),.un .not (.t 137),some (126,true)⟩,.calm),
       (⟨(some 139),.pick (.t 126) (.t 138) (.c (.bool false)),none⟩,.calm)]) (
      .cond (.t 139) (
       .skip) (
       .exit 8))) (
      .block 9 (
       .ops [
        ⟨(some 140),.mv (.t 13),none⟩,
        ⟨(some 141),.bin .sub (.t 140) (.c (.int .i64 1)),none⟩,
        ⟨(some 13),.mv (.t 141),none⟩]))))) (
    .seq (
    .seq (
    .ops [
     ⟨(some 142),.mv (.t 12),none⟩,
     ⟨(some 143),.mv (.t 13),none⟩,
     ⟨(some 144),.bin .gtr (.t 142) (.t 143),none⟩]) (
    .cond (.t 144) (
     .exit 4) (
     .skip))) (
    .seq (
    .draw [
     (⟨(some 145),.mv (.t 0),none⟩,.calm),
     (⟨(some 146),.mv (.t 12),none⟩,.calm),
     (⟨(some 147),.mv (.t 0),none⟩,.calm),
     (⟨(some 148),.mv (.t 13),none⟩,.calm),
     (⟨(some 149),.mv (.t 0),none⟩,.calm),
     (⟨(some 150),.mv (.t 13),none⟩,.calm),
     (⟨(some 151),.iad none 2 (.t 149) (.t 150),none⟩,.calm),
     (⟨(some 152),.ldN 2 (.t 151),none⟩,.reads 0 0),
     (⟨(some 153),.mv (.t 0),none⟩,.calm),
     (⟨(some 154),.mv (.t 12),none⟩,.calm),
     (⟨(some 155),.iad none 2 (.t 153) (.t 154),none⟩,.calm),
     (⟨(some 156),.ldN 2 (.t 155),none⟩,.reads 0 0),
     (⟨(some 157),.iad none 2 (.t 145) (.t 146),none⟩,.calm),
     (⟨none,.st 2 (.t 157) (.t 152),none⟩,.anchor),
     (⟨(some 158),.iad none 2 (.t 147) (.t 148),none⟩,.calm),
     (⟨none,.st 2 (.t 158) (.t 156),none⟩,.anchor)]) (
    .seq (
    .ops [
     ⟨(some 159),.mv (.t 12),none⟩,
     ⟨(some 160),.bin .add (.t 159) (.c (.int .i64 1)),none⟩,
     ⟨(some 12),.mv (.t 160),none⟩]) (
    .ops [
     ⟨(some 161),.mv (.t 13),none⟩,
     ⟨(some 162),.bin .sub (.t 161) (.c (.int .i64 1)),none⟩,
     ⟨(some 13),.mv (.t 162),none⟩]))))))))) (
 .seq (
 .draw [
  (⟨(some 163),.mv (.t 0),none⟩,.calm),
  (⟨(some 164),.mv (.t 13),none⟩,.calm),
  (⟨(some 165),.mv (.t 0),none⟩,.calm),
  (⟨(some 166),.mv (.t 1),none⟩,.calm),
  (⟨(some 167),.mv (.t 0),none⟩,.calm),
  (⟨(some 168),.mv (.t 1),none⟩,.calm),
  (⟨(some 169),.iad none 2 (.t 167) (.t 168),none⟩,.calm),
  (⟨(some 170),.ldN 2 (.t 169),none⟩,.reads 0 0),
  (⟨(some 171),.mv (.t 0),none⟩,.calm),
  (⟨(some 172),.mv (.t 13),none⟩,.calm),
  (⟨(some 173),.iad none 2 (.t 171) (.t 172),none⟩,.calm),
  (⟨(some 174),.ldN 2 (.t 173),none⟩,.reads 0 0),
  (⟨(some 175),.iad none 2 (.t 163) (.t 164),none⟩,.calm),
  (⟨none,.st 2 (.t 175) (.t 170),none⟩,.anchor),
  (⟨(some 176),.iad none 2 (.t 165) (.t 166),none⟩,.calm),
  (⟨none,.st 2 (.t 176) (.t 174),none⟩,.anchor)]) (
 .seq (
 .ops [
  ⟨(some 177),.mv (.t 13),none⟩,
  ⟨(some 10),.mv (.t 177),none⟩,
  ⟨(some 11),.mv (.c (.bool false)),none⟩]) (
 .ret)))))))))))),[.tmp 10,.tmp 11]⟩
def x195:XF:=⟨25,.seq (
 .ops [
  ⟨(some 2),.mv (.c (.int .i64 0)),none⟩]) (
 .seq (
 .seq (
 .ops [
  ⟨(some 3),.mv (.t 0),none⟩,
  ⟨(some 4),.bin .geq (.t 3) (.c (.int .u64 4294967296)),none⟩]) (
 .cond (.t 4) (
  .seq (
  .ops [
   ⟨(some 5),.mv (.t 0),none⟩,
   ⟨(some 6),.bin .shr (.t 5) (.c (.int .u64 32)),none⟩,
   ⟨(some 0),.mv (.t 6),none⟩]) (
  .ops [
   ⟨(some 2),.mv (.c (.int .i64 32)),none⟩])) (
  .skip))) (
 .seq (
 .seq (
 .ops [
  ⟨(some 7),.mv (.t 0),none⟩,
  ⟨(some 8),.bin .geq (.t 7) (.c (.int .u64 65536)),none⟩]) (
 .cond (.t 8) (
  .seq (
  .ops [
   ⟨(some 9),.mv (.t 0),none⟩,
   ⟨(some 10),.bin .shr (.t 9) (.c (.int .u64 16)),none⟩,
   ⟨(some 0),.mv (.t 10),none⟩]) (
  .ops [
   ⟨(some 11),.mv (.t 2),none⟩,
   ⟨(some 12),.bin .add (.t 11) (.c (.int .i64 16)),none⟩,
   ⟨(some 2),.mv (.t 12),none⟩])) (
  .skip))) (
 .seq (
 .seq (
 .ops [
  ⟨(some 13),.mv (.t 0),none⟩,
  ⟨(some 14),.bin .geq (.t 13) (.c (.int .u64 256)),none⟩]) (
 .cond (.t 14) (
  .seq (
  .ops [
   ⟨(some 15),.mv (.t 0),none⟩,
   ⟨(some 16),.bin .shr (.t 15) (.c (.int .u64 8)),none⟩,
   ⟨(some 0),.mv (.t 16),none⟩]) (
  .ops [
   ⟨(some 17),.mv (.t 2),none⟩,
   ⟨(some 18),.bin .add (.t 17) (.c (.int .i64 8)),none⟩,
   ⟨(some 2),.mv (.t 18),none⟩])) (
  .skip))) (
 .seq (
 .ops [
  ⟨(some 19),.mv (.t 2),none⟩,
  ⟨(some 20),.mv (.t 0),none⟩,
  ⟨(some 21),.conv .u8 (.t 20),none⟩,
  ⟨(some 22),.idxS (.c (.str ⟨#[0,1,2,2,3,3,3,3,4,4,4,4,4,4,4,4,5,5,5,5,5,5,5,5,5,5,5,5,5,5,5,5,6,6,6,6,6,6,6,6,6,6,6,6,6,6,6,6,6,6,6,6,6,6,6,6,6,6,6,6,6,6,6,6,7,7,7,7,7,7,7,7,7,7,7,7,7,7,7,7,7,7,7,7,7,7,7,7,7,7,7,7,7,7,7,7,7,7,7,7,7,7,7,7,7,7,7,7,7,7,7,7,7,7,7,7,7,7,7,7,7,7,7,7,7,7,7,7,8,8,8,8,8,8,8,8,8,8,8,8,8,8,8,8,8,8,8,8,8,8,8,8,8,8,8,8,8,8,8,8,8,8,8,8,8,8,8,8,8,8,8,8,8,8,8,8,8,8,8,8,8,8,8,8,8,8,8,8,8,8,8,8,8,8,8,8,8,8,8,8,8,8,8,8,8,8,8,8,8,8,8,8,8,8,8,8,8,8,8,8,8,8,8,8,8,8,8,8,8,8,8,8,8,8,8,8,8,8,8,8,8,8,8,8,8,8,8,8,8,8,8,8,8,8,8,8]⟩)) (.t 21),none⟩,
  ⟨(some 23),.conv .i64 (.t 22),none⟩,
  ⟨(some 24),.bin .add (.t 19) (.t 23),none⟩,
  ⟨(some 2),.mv (.t 24),none⟩]) (
 .ret))))),[.tmp 2]⟩
def x204:XF:=⟨82,.seq (
 .ops [
  ⟨(some 12),.mv (.t 1),none⟩,
  ⟨(some 10),.mv (.t 12),none⟩]) (
 .block 0 (
  .loop (
   .block 1 (
    .seq (
    .ops [
     ⟨(some 13),.mv (.t 10),none⟩,
     ⟨(some 14),.bin .mul (.c (.int .i64 2)) (.t 13),none⟩,
     ⟨(some 15),.bin .add (.t 14) (.c (.int .i64 1)),none⟩,
     ⟨(some 11),.mv (.t 15),none⟩]) (
    .seq (
    .seq (
    .ops [
     ⟨(some 16),.mv (.t 11),none⟩,
     ⟨(some 17),.mv (.t 2),none⟩,
     ⟨(some 18),.bin .geq (.t 16) (.t 17),none⟩]) (
    .cond (.t 18) (
     .exit 0) (
     .skip))) (
    .seq (
    .seq (
    .draw [
     (⟨(some 19),.mv (.t 11),none⟩,.calm),
     (⟨(some 20),.bin .add (.t 19) (.c (.int .i64 1)),none⟩,.calm),
     (⟨(some 21),.mv (.t 2),none⟩,.calm),
     (⟨(some 22),.bin .lss (.t 20) (.t 21),none⟩,.calm),
     (⟨(some 23),.mv (.t 22),none⟩,.calm),
     (⟨(some 24),.mv (.t 4),some (23,true)⟩,.calm),
     (⟨(some 25),.mv (.t 0),some (23,true)⟩,.calm),
     (⟨(some 26),.mv (.t 3),some (23,true)⟩,.calm),
     (⟨(some 27),.mv (.t 11),some (23,true)⟩,.calm),
     (⟨(some 28),.bin .add (.t 26) (.t 27),some (23,true)⟩,.calm),
     (⟨(some 29),.iad none 2 (.t 25) (.t 28),some (23,true)⟩,.calm),
     (⟨(some 30),.ldN 2 (.t 29),some (23,true)⟩,.reads 0 0),
     (⟨(some 31),.mv (.t 0),some (23,true)⟩,.calm),
     (⟨(some 32),.mv (.t 3),some (23,true)⟩,.calm),
     (⟨(some 33),.mv (.t 11),some (23,true)⟩,.calm),
     (⟨(some 34),.bin .add (.t 32) (.t 33),some (23,true)⟩,.calm),
     (⟨(some 35),.bin .add (.t 34) (.c (.int .i64 1)),some (23,true)⟩,.calm),
     (⟨(some 36),.iad none 2 (.t 31) (.t 35),some (23,true)⟩,.calm),
     (⟨(some 37),.ldN 2 (.t 36),some (23,true)⟩,.reads 0 0),
     (⟨(some 38),.call (.t 24) [(.t 30),(.t 37)],some (23,true)⟩,.anchor),
     (⟨(some 39),.bin .lss (.t 38) (.c (.int .i64 0)),some (23,true)⟩,.calm),
     (⟨(some 40),.pick (.t 23) (.t 39) (.c (.bool false)),none⟩,.calm)]) (
    .cond (.t 40) (
     .ops [
      ⟨(some 41),.mv (.t 11),none⟩,
      ⟨(some 42),.bin .add (.t 41) (.c (.int .i64 1)),none⟩,
      ⟨(some 11),.mv (.t 42),none⟩]) (
     .skip))) (
    .seq (
    .seq (
    .draw [
     (⟨(some 43),.mv (.t 4),none⟩,.calm),
     (⟨(some 44),.mv (.t 0),none⟩,.calm),
     (⟨(some 45),.mv (.t 3),none⟩,.calm),
     (⟨(some 46),.mv (.t 10),none⟩,.calm),
     (⟨(some 47),.bin .add (.t 45) (.t 46),none⟩,.calm),
     (⟨(some 48),.iad none 2 (.t 44) (.t 47),none⟩,.calm),
     (⟨(some 49),.ldN 2 (.t 48),none⟩,.reads 0 0),
     (⟨(some 50),.mv (.t 0),none⟩,.calm),
     (⟨(some 51),.mv (.t 3),none⟩,.calm),
     (⟨(some 52),.mv (.t 11),none⟩,.calm),
     (⟨(some 53),.bin .add (.t 51) (.t 52),none⟩,.calm),
     (⟨(some 54),.iad none 2 (.t 50) (.t 53),none⟩,.calm),
     (⟨(some 55),.ldN 2 (.t 54),none⟩,.reads 0 0),
     (⟨(some 56),.call (.t 43) [(.t 49),(.t 55)],none⟩,.anchor),
     (⟨(some 57),.bin .lss (.t 56) (.c (.int .i64 0)),none⟩,.calm),
     (⟨(some 58),.un .not (.t 57),none⟩,.calm)]) (
    .cond (.t 58) (
     .ret) (
     .skip))) (
    .seq (
    .draw [
     (⟨(some 59),.mv (.t 0),none⟩,.calm),
     (⟨(some 60),.mv (.t 3),none⟩,.calm),
     (⟨(some 61),.mv (.t 10),none⟩,.calm),
     (⟨(some 62),.bin .add (.t 60) (.t 61),none⟩,.calm),
     (⟨(some 63),.mv (.t 0),none⟩,.calm),
     (⟨(some 64),.mv (.t 3),none⟩,.calm),
     (⟨(some 65),.mv (.t 11),none⟩,.calm),
     (⟨(some 66),.bin .add (.t 64) (.t 65),none⟩,.calm),
     (⟨(some 67),.mv (.t 0),none⟩,.calm),
     (⟨(some 68),.mv (.t 3),none⟩,.calm),
     (⟨(some 69),.mv (.t 11),none⟩,.calm),
     (⟨(some 70),.bin .add (.t 68) (.t 69),none⟩,.calm),
     (⟨(some 71),.iad none 2 (.t 67) (.t 70),none⟩,.calm),
     (⟨(some 72),.ldN 2 (.t 71),none⟩,.reads 0 0),
     (⟨(some 73),.mv (.t 0),none⟩,.calm),
     (⟨(some 74),.mv (.t 3),none⟩,.calm),
     (⟨(some 75),.mv (.t 10),none⟩,.calm),
     (⟨(some 76),.bin .add (.t 74) (.t 75),none⟩,.calm),
     (⟨(some 77),.iad none 2 (.t 73) (.t 76),none⟩,.calm),
     (⟨(some 78),.ldN 2 (.t 77),none⟩,.reads 0 0),
     (⟨(some 79),.iad none 2 (.t 59) (.t 62),none⟩,.calm),
     (⟨none,.st 2 (.t 79) (.t 72),none⟩,.anchor),
     (⟨(some 80),.iad none 2 (.t 63) (.t 66),none⟩,.calm),
     (⟨none,.st 2 (.t 80) (.t 78),none⟩,.anchor)]) (
    .ops [
     ⟨(some 81),.mv (.t 11),none⟩,
     ⟨(some 10),.mv (.t 81),none⟩]))))))))),[]⟩
def x205:XF:=⟨7,.seq (
 .ops [
  ⟨(some 2),.mv (.c (.int .u64 0)),none⟩]) (
 .seq (
 .ops [
  ⟨(some 3),.mv (.t 0),none⟩,
  ⟨(some 4),.conv .u64 (.t 3),none⟩,
  ⟨(some 5),.call (.c (.func (.func 169) [] [])) [(.t 4)],none⟩,
  ⟨(some 6),.bin .shl (.c (.int .u64 1)) (.t 5),none⟩,
  ⟨(some 2),.mv (.t 6),none⟩]) (
 .ret)),[.tmp 2]⟩
def x206:XF:=⟨33,.seq (
 .ops [
  ⟨(some 2),.mv (.c (.int .u64 0)),none⟩]) (
 .seq (
 .draw [
  (⟨(some 3),.mv (.t 0),none⟩,.calm),
  (⟨(some 4),.nilc (.t 3),none⟩,.calm),
  (⟨(some 5),.ld1 (.t 4),none⟩,.reads 0 0),
  (⟨(some 6),.mv (.t 0),none⟩,.calm),
  (⟨(some 7),.nilc (.t 6),none⟩,.calm),
  (⟨(some 8),.ld1 (.t 7),none⟩,.reads 0 0),
  (⟨(some 9),.bin .shl (.t 8) (.c (.int .u64 13)),none⟩,.calm),
  (⟨(some 10),.bin .xor (.t 5) (.t 9),none⟩,.calm),
  (⟨(some 11),.nilc (.t 3),none⟩,.calm),
  (⟨none,.st 1 (.t 11) (.t 10),none⟩,.anchor)]) (
 .seq (
 .draw [
  (⟨(some 12),.mv (.t 0),none⟩,.calm),
  (⟨(some 13),.nilc (.t 12),none⟩,.calm),
  (⟨(some 14),.ld1 (.t 13),none⟩,.reads 0 0),
  (⟨(some 15),.mv (.t 0),none⟩,.calm),
  (⟨(some 16),.nilc (.t 15),none⟩,.calm),
  (⟨(some 17),.ld1 (.t 16),none⟩,.reads 0 0),
  (⟨(some 18),.bin .shr (.t 17) (.c (.int .u64 7)),none⟩,.calm),
  (⟨(some 19),.bin .xor (.t 14) (.t 18),none⟩,.calm),
  (⟨(some 20),.nilc (.t 12),none⟩,.calm),
  (⟨none,.st 1 (.t 20) (.t 19),none⟩,.anchor)]) (
 .seq (
 .draw [
  (⟨(some 21),.mv (.t 0),none⟩,.calm),
  (⟨(some 22),.nilc (.t 21),none⟩,.calm),
  (⟨(some 23),.ld1 (.t 22),none⟩,.reads 0 0),
  (⟨(some 24),.mv (.t 0),none⟩,.calm),
  (⟨(some 25),.nilc (.t 24),none⟩,.calm),
  (⟨(some 26),.ld1 (.t 25),none⟩,.reads 0 0),
  (⟨(some 27),.bin .shl (.t 26) (.c (.int .u64 17)),none⟩,.calm),
  (⟨(some 28),.bin .xor (.t 23) (.t 27),none⟩,.calm),
  (⟨(some 29),.nilc (.t 21),none⟩,.calm),
  (⟨none,.st 1 (.t 29) (.t 28),none⟩,.anchor)]) (
 .seq (
 .ops [
  ⟨(some 30),.mv (.t 0),none⟩,
  ⟨(some 31),.nilc (.t 30),none⟩,
  ⟨(some 32),.ld1 (.t 31),none⟩,
  ⟨(some 2),.mv (.t 32),none⟩]) (
 .ret))))),[.tmp 2]⟩
def x207:XF:=⟨18,.seq (
 .ops [
  ⟨(some 8),.mv (.c (.int .i64 0)),none⟩]) (
 .seq (
 .ops [
  ⟨(some 9),.mv (.t 0),none⟩,
  ⟨(some 10),.mv (.t 1),none⟩,
  ⟨(some 11),.bin .sub (.t 10) (.c (.int .i64 1)),none⟩,
  ⟨(some 12),.mv (.t 1),none⟩,
  ⟨(some 13),.mv (.t 1),none⟩,
  ⟨(some 14),.bin .add (.t 13) (.c (.int .i64 1)),none⟩,
  ⟨(some 15),.mv (.t 2),none⟩,
  ⟨(some 16),.mv (.t 3),none⟩,
  ⟨(some 17),.call (.c (.func (.func 208) [] [])) [(.t 9),(.t 11),(.t 12),(.t 14),(.t 15),(.t 16)],none⟩,
  ⟨(some 8),.mv (.t 17),none⟩]) (
 .ret)),[.tmp 8]⟩
def x208:XF:=⟨41,.seq (
 .ops [
  ⟨(some 12),.mv (.c (.int .i64 0)),none⟩]) (
 .seq (
 .ops [
  ⟨(some 14),.mv (.t 0),none⟩,
  ⟨(some 15),.mv (.t 1),none⟩,
  ⟨(some 16),.mv (.t 2),none⟩,
  ⟨(some 17),.mv (.t 4),none⟩,
  ⟨(some 18),.mv (.t 5),none⟩,
  ⟨(some 19),.call (.c (.func (.func 211) [] [])) [(.t 14),(.t 15),(.t 16),(.t 17),(.t 18)],none⟩,
  ⟨(some 13),.mv (.t 19),none⟩,
  ⟨(some 20),.ext 0 (.t 13),none⟩,
  ⟨(some 21),.ext 1 (.t 13),none⟩,
  ⟨(some 1),.mv (.t 20),none⟩,
  ⟨(some 2),.mv (.t 21),none⟩]) (
 .seq (
 .ops [
  ⟨(some 23),.mv (.t 0),none⟩,
  ⟨(some 24),.mv (.t 2),none⟩,
  ⟨(some 25),.mv (.t 3),none⟩,
  ⟨(some 26),.mv (.t 4),none⟩,
  ⟨(some 27),.mv (.t 5),none⟩,
  ⟨(some 28),.call (.c (.func (.func 211) [] [])) [(.t 23),(.t 24),(.t 25),(.t 26),(.t 27)],none⟩,
  ⟨(some 22),.mv (.t 28),none⟩,
  ⟨(some 29),.ext 0 (.t 22),none⟩,
  ⟨(some 30),.ext 1 (.t 22),none⟩,
  ⟨(some 2),.mv (.t 29),none⟩,
  ⟨(some 3),.mv (.t 30),none⟩]) (
 .seq (
 .ops [
  ⟨(some 32),.mv (.t 0),none⟩,
  ⟨(some 33),.mv (.t 1),none⟩,
  ⟨(some 34),.mv (.t 2),none⟩,
  ⟨(some 35),.mv (.t 4),none⟩,
  ⟨(some 36),.mv (.t 5),none⟩,
  ⟨(some 37),.call (.c (.func (.func 211) [] [])) [(.t 32),(.t 33),(.t 34),(.t 35),(.t 36)],none⟩,
  ⟨(some 31),.mv (.t 37),none⟩,
  ⟨(some 38),.ext 0 (.t 31),none⟩,
  ⟨(some 39),.ext 1 (.t 31),none⟩,
  ⟨(some 1),.mv (.t 38),none⟩,
  ⟨(some 2),.mv (.t 39),none⟩]) (
 .seq (
 .ops [
  ⟨(some 40),.mv (.t 2),none⟩,
  ⟨(some 12),.mv (.t 40),none⟩]) (
 .ret))))),[.tmp 12]⟩
def x211:XF:=⟨32,.seq (
 .ops [
  ⟨(some 10),.mv (.c (.int .i64 0)),none⟩,
  ⟨(some 11),.mv (.c (.int .i64 0)),none⟩]) (
 .seq (
 .seq (
 .draw [
  (⟨(some 12),.mv (.t 4),none⟩,.calm),
  (⟨(some 13),.mv (.t 0),none⟩,.calm),
  (⟨(some 14),.mv (.t 2),none⟩,.calm),
  (⟨(some 15),.iad none 2 (.t 13) (.t 14),none⟩,.calm),
  (⟨(some 16),.ldN 2 (.t 15),none⟩,.reads 0 0),
  (⟨(some 17),.mv (.t 0),none⟩,.calm),
  (⟨(some 18),.mv (.t 1),none⟩,.calm),
  (⟨(some 19),.iad none 2 (.t 17) (.t 18),none⟩,.calm),
  (⟨(some 20),.ldN 2 (.t 19),none⟩,.reads 0 0),
  (⟨(some 21),.call (.t 12) [(.t 16),(.t 20)],none⟩,.anchor),
  (⟨(some 22),.bin .lss (.t 21) (.c (.int .i64 0)),none⟩,.calm)]) (
 .cond (.t 22) (
  .seq (
  .ops [
   ⟨(some 23),.mv (.t 3),none⟩,
   ⟨(some 24),.nilc (.t 23),none⟩,
   ⟨(some 25),.ld1 (.t 24),none⟩,
   ⟨(some 26),.bin .add (.t 25) (.c (.int .i64 1)),none⟩,
   ⟨(some 27),.nilc (.t 23),none⟩,
   ⟨none,.st 1 (.t 27) (.t 26),none⟩]) (
  .seq (
  .ops [
   ⟨(some 28),.mv (.t 2),none⟩,
   ⟨(some 29),.mv (.t 1),none⟩,
   ⟨(some 10),.mv (.t 28),none⟩,
   ⟨(some 11),.mv (.t 29),none⟩]) (
  .ret))) (
  .skip))) (
 .seq (
 .ops [
  ⟨(some 30),.mv (.t 1),none⟩,
  ⟨(some 31),.mv (.t 2),none⟩,
  ⟨(some 10),.mv (.t 30),none⟩,
  ⟨(some 11),.mv (.t 31),none⟩]) (
 .ret))),[.tmp 10,.tmp 11]⟩
theorem k3:cFn Tryz.prog 3=some x3:=by kernel_rfl
theorem k4:cFn Tryz.prog 4=some x4:=by kernel_rfl
theorem k5:cFn Tryz.prog 5=some x5:=by kernel_rfl
theorem k6:cFn Tryz.prog 6=some x6:=by kernel_rfl
theorem k7:cFn Tryz.prog 7=some x7:=by kernel_rfl
theorem k16:cFn Tryz.prog 16=some x16:=by kernel_rfl
theorem k17:cFn Tryz.prog 17=some x17:=by kernel_rfl
theorem k23:cFn Tryz.prog 23=some x23:=by kernel_rfl
theorem k25:cFn Tryz.prog 25=some x25:=by kernel_rfl
theorem k26:cFn Tryz.prog 26=some x26:=by kernel_rfl
theorem k28:cFn Tryz.prog 28=some x28:=by kernel_rfl
theorem k33:cFn Tryz.prog 33=some x33:=by kernel_rfl
theorem k44:cFn Tryz.prog 44=some x44:=by kernel_rfl
theorem k45:cFn Tryz.prog 45=some x45:=by kernel_rfl
theorem k47:cFn Tryz.prog 47=some x47:=by kernel_rfl
theorem k52:cFn Tryz.prog 52=some x52:=by kernel_rfl
theorem k63:cFn Tryz.prog 63=some x63:=by kernel_rfl
theorem k64:cFn Tryz.prog 64=some x64:=by kernel_rfl
theorem k66:cFn Tryz.prog 66=some x66:=by kernel_rfl
theorem k67:cFn Tryz.prog 67=some x67:=by kernel_rfl
theorem k68:cFn Tryz.prog 68=some x68:=by kernel_rfl
theorem k69:cFn Tryz.prog 69=some x69:=by kernel_rfl
theorem k70:cFn Tryz.prog 70=some x70:=by kernel_rfl
theorem k98:cFn Tryz.prog 98=some x98:=by kernel_rfl
theorem k102:cFn Tryz.prog 102=some x102:=by kernel_rfl
theorem k112:cFn Tryz.prog 112=some x112:=by kernel_rfl
theorem k113:cFn Tryz.prog 113=some x113:=by kernel_rfl
theorem k115:cFn Tryz.prog 115=some x115:=by kernel_rfl
theorem k116:cFn Tryz.prog 116=some x116:=by kernel_rfl
theorem k117:cFn Tryz.prog 117=some x117:=by kernel_rfl
theorem k118:cFn Tryz.prog 118=some x118:=by kernel_rfl
theorem k135:cFn Tryz.prog 135=some x135:=by kernel_rfl
theorem k136:cFn Tryz.prog 136=some x136:=by kernel_rfl
theorem k142:cFn Tryz.prog 142=some x142:=by kernel_rfl
theorem k143:cFn Tryz.prog 143=some x143:=by kernel_rfl
theorem k144:cFn Tryz.prog 144=some x144:=by kernel_rfl
theorem k146:cFn Tryz.prog 146=some x146:=by kernel_rfl
theorem k167:cFn Tryz.prog 167=some x167:=by kernel_rfl
theorem k168:cFn Tryz.prog 168=some x168:=by kernel_rfl
theorem k169:cFn Tryz.prog 169=some x169:=by kernel_rfl
theorem k171:cFn Tryz.prog 171=some x171:=by kernel_rfl
theorem k186:cFn Tryz.prog 186=some x186:=by kernel_rfl
theorem k187:cFn Tryz.prog 187=some x187:=by kernel_rfl
theorem k188:cFn Tryz.prog 188=some x188:=by kernel_rfl
theorem k189:cFn Tryz.prog 189=some x189:=by kernel_rfl
theorem k190:cFn Tryz.prog 190=some x190:=by kernel_rfl
theorem k191:cFn Tryz.prog 191=some x191:=by kernel_rfl
theorem k193:cFn Tryz.prog 193=some x193:=by kernel_rfl
theorem k195:cFn Tryz.prog 195=some x195:=by kernel_rfl
theorem k204:cFn Tryz.prog 204=some x204:=by kernel_rfl
theorem k205:cFn Tryz.prog 205=some x205:=by kernel_rfl
theorem k206:cFn Tryz.prog 206=some x206:=by kernel_rfl
theorem k207:cFn Tryz.prog 207=some x207:=by kernel_rfl
theorem k208:cFn Tryz.prog 208=some x208:=by kernel_rfl
theorem k211:cFn Tryz.prog 211=some x211:=by kernel_rfl
end Go.Proofs.YtbfnnllgdioccaaGreatDoor.C
end
section

end
section

end
section

end
section

end
