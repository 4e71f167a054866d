/-
  Part of the proof of CourseMovedUpto: what functions of the program and of the statement come to, walked by the rules. No condition beyond those in each theorem.
-/
import Derived.Test.YtifcpjfpjkoicaaGreatProg
import Derived.KernelRfl
import Derived.Test.YtifcpjfpjkoicaaGreatPvD
section
open Go PvL Go.Proofs
set_option linter.unusedVariables false
namespace Go.Proofs.YtifcpjfpjkoicaaGreat.C
@[reducible] def qm (d s : Nat) : XG := ⟨some d, .mv (.t s), none⟩
@[reducible] def qf (d k s : Nat) : XG := ⟨some d, .fad k (.t s), none⟩
@[reducible] def ql (d s : Nat) : XG := ⟨some d, .ld1 (.t s), none⟩
@[reducible] def qL (d n s : Nat) : XG := ⟨some d, .ldN n (.t s), none⟩
@[reducible] def qi (d : Nat) (k : Int) : XG := ⟨some d, .mv (.c (.int .i64 k)), none⟩
@[reducible] def qb (d k s : Nat) : XG := ⟨some d, .box k (.t s), none⟩
@[reducible] def qe (d k s : Nat) : XG := ⟨some d, .ext k (.t s), none⟩
@[reducible] def qc (d f : Nat) (l : List XO) : XG := ⟨some d, .call (.c (.func (.func f) [] [])) l, none⟩
@[reducible] def qa (d n a b : Nat) : XG := ⟨some d, .iad none n (.t a) (.t b), none⟩
@[reducible] def qn (d s : Nat) : XG := ⟨some d, .len .sl (.t s), none⟩
@[reducible] def qB (d : Nat) (o : BinOp) (a b : Nat) : XG := ⟨some d, .bin o (.t a) (.t b), none⟩
@[reducible] def qC (d : Nat) (o : BinOp) (a : Nat) (k : Int) : XG := ⟨some d, .bin o (.t a) (.c (.int .i64 k)), none⟩
@[reducible] def qg (d : Nat) (i : XI) (t : Nat) (b : Bool) : XG := ⟨some d, i, some (t, b)⟩
@[reducible] def qS (n a b : Nat) : XG := ⟨none, .st n (.t a) (.t b), none⟩
@[reducible] def qo (d : Nat) (i : XI) : XG := ⟨some d, i, none⟩
@[reducible] def qk (g : XG) : XG × XK := (g, .calm)
@[reducible] def qK (g : XG) (n : Nat) : XG × XK := (g, .reads 0 n)
@[reducible] def qq (l : List XG) (c : XC) : XC := .seq (.ops l) c
@[reducible] def qZ : LV := .int .i64 0
@[reducible] def qN : LV := .slice none 0 true 0
def xq3 : XF := ⟨96,qq [qb 2 35 0,qb 3 30 1,qo 4 (.mv (.c (.bool false)))] (.seq (.draw [qK (qL 17 17 2) 0,qk (qf 18 0 3),qK (ql 19 18) 0,(qc 20 5 [.t 19,(.c (.int .i64 6001))],.new),qk (qC 21 .sub 20 3000),qk (qf 22 1 3),qK (ql 23 22) 0,(qc 24 5 [.t 23,(.c (.int .i64 6001))],.new),qk (qC 25 .sub 24 3000),qk (
  qo 26 (.build [qZ,qZ] [(0,1,(.t 21)),(1,1,(.t 25))])),(qc 27 4 [.t 17,.t 26],.anchor),qk (qm 16 27),qk (qe 28 0 16),qk (qe 29 1 16),(qo 5 (.new 35 [qN,qN,qN,qZ,qZ,qZ,qZ,qZ,qZ,qZ,qZ,qZ,qZ,qZ,qZ,qZ,qN]),.new),(qS 17 5 28,.anchor),qk (qm 6 29)]) (.seq (qq [qm 30 6,qo 31 (.un .not (.t 30))] (.cond (
  .t 31) (qq [qc 32 6 [],qm 4 32] (.ret)) (.skip))) (qq [qL 34 17 2,qc 35 7 [.t 34],qm 33 35,qe 36 0 33,qe 37 1 33,qe 38 2 33,qm 7 36,qm 8 37,qm 9 38] (qq [qL 40 17 5,qc 41 7 [.t 40],qm 39 41,qe 42 0 39,qe 43 1 39,qe 44 2 39,qm 10 42,qm 11 43,qm 12 44] (.seq (qq [qm 45 8,qm 46 11,qB 47 .neq 45 46,
  qm 48 47,qg 49 (.mv (.t 9)) 48 false,qg 50 (.mv (.t 12)) 48 false,qg 51 (.bin .neq (.t 49) (.t 50)) 48 false,qo 52 (.pick (.t 48) (.c (.bool true)) (.t 51)),qm 53 52,qg 54 (.mv (.t 7)) 53 false,qg 55 (.len .sl (.t 54)) 53 false,qg 56 (.mv (.t 10)) 53 false,qg 57 (.len .sl (.t 56)) 53 false,qg 58 (
  .bin .neq (.t 55) (.t 57)) 53 false,qo 59 (.pick (.t 53) (.c (.bool true)) (.t 58))] (.cond (.t 59) (qq [qo 4 (.mv (.c (.bool false)))] (.ret)) (.skip))) (.seq (qq [qi 13 0] (.block 0 (.loop (.seq (qq [qm 60 13,qm 61 7,qn 62 61,qB 63 .lss 60 62] (.cond (.t 63) (.skip) (.exit 0))) (.seq (.block 1 (
  .seq (.draw [qk (qm 66 7),qk (qm 67 13),qk (qa 68 2 66 67),qK (qL 69 2 68) 0,qk (qm 70 10),qk (qm 71 13),qk (qa 72 2 70 71),qK (qL 73 2 72) 0,qk (qo 74 (.eqs true 2 [0,1] (.t 69) (.t 73)))]) (.cond (.t 74) (qq [qo 4 (.mv (.c (.bool false)))] (.ret)) (.skip)))) (.ops [qm 64 13,qC 65 .add 64 1,
  qm 13 65])))))) (qq [qL 76 17 2,qc 77 8 [.t 76],qm 75 77,qe 78 0 75,qe 79 1 75,qm 14 78,qm 9 79] (qq [qL 81 17 5,qc 82 8 [.t 81],qm 80 82,qe 83 0 80,qe 84 1 80,qm 15 83,qm 12 84] (qq [qm 85 14,qm 86 15,qc 87 9 [.t 85,.t 86],qm 88 87,qg 89 (.mv (.t 9)) 88 true,qg 90 (.mv (.t 12)) 88 true,qg 91 (
  .bin .eql (.t 89) (.t 90)) 88 true,qo 92 (.pick (.t 88) (.t 91) (.c (.bool false))),qm 93 92,qg 94 (.call (.c (.func (.func 6) [] [])) []) 93 true,qo 95 (.pick (.t 93) (.t 94) (.c (.bool false))),qm 4 95] (.ret)))))))))),[.tmp 4]⟩
def xq4 : XF := ⟨177,qq [qb 2 35 0,qb 3 30 1,qo 4 (.new 35 [qN,qN,qN,qZ,qZ,qZ,qZ,qZ,qZ,qZ,qZ,qZ,qZ,qZ,qZ,qZ,qN]),qo 5 (.mv (.c (.bool false)))] (qq [qf 14 3 2,qL 15 8 14,qf 16 14 2,ql 17 16,qf 18 15 2,ql 19 18,qf 20 16 2,ql 21 20,qo 22 (.build [qN,qN,qN,qZ,qZ,qZ,qZ,qZ,qZ,qZ,qZ,qZ,qZ,qZ,qZ,qZ,qN] [(3,8,(.t 15)),(14,
  1,(.t 17)),(15,1,(.t 19)),(16,1,(.t 21))]),qo 6 (.new 35 [qN,qN,qN,qZ,qZ,qZ,qZ,qZ,qZ,qZ,qZ,qZ,qZ,qZ,qZ,qZ,qN]),qS 17 6 22] (qq [qf 23 3 2,qf 24 0 23,qL 25 2 24,qc 26 10 [.t 25,(.c (.int .i64 5000))],qm 27 26,qg 28 (.fad 3 (.t 2)) 27 true,qg 29 (.fad 2 (.t 28)) 27 true,qg 30 (.ldN 2 (.t 29)) 27 true,
  qg 31 (.call (.c (.func (.func 10) [] [])) [.t 30,(.c (.int .i64 5000))]) 27 true,qo 32 (.pick (.t 27) (.t 31) (.c (.bool false))),qm 7 32] (qq [qL 33 2 3,qo 34 (.build [qZ,qZ] [(0,2,(.t 33))]),qo 8 (.new 53 [qZ,qZ]),qS 2 8 34] (.seq (qq [qi 9 0] (.block 0 (.loop (.seq (qq [qm 35 9,qf 36 0 2,
  ql 37 36,qn 38 37,qB 39 .lss 35 38] (.cond (.t 39) (.skip) (.exit 0))) (.seq (.block 1 (.seq (.draw [qk (qf 42 0 6),qK (ql 43 42) 2,qK (qL 44 2 8) 0,qk (qf 45 0 2),qK (ql 46 45) 0,qk (qm 47 9),qk (qa 48 4 46 47),qk (qf 49 0 48),qK (qL 50 2 49) 0,(qc 51 11 [.t 44,.t 50],.anchor),qK (qL 52 2 8) 1,qk (
  qf 53 0 2),qK (ql 54 53) 1,qk (qm 55 9),qk (qa 56 4 54 55),qk (qf 57 2 56),qK (qL 58 2 57) 1,(qc 59 11 [.t 52,.t 58],.anchor),qk (qo 60 (.build [qZ,qZ,qZ,qZ] [(0,2,(.t 51)),(2,2,(.t 59))])),(qo 61 (.bsl 56 4 1 [qZ,qZ,qZ,qZ] [(0,4,(.t 60))]),.new),(qo 62 (.app 56 4 32 [qZ,qZ,qZ,qZ] (.t 43) (.t 61)),
  .anchor),qk (qf 63 0 6),(qS 1 63 62,.anchor)]) (.ops [qm 64 7,qm 65 64,qg 66 (.fad 0 (.t 2)) 65 true,qg 67 (.ld1 (.t 66)) 65 true,qg 68 (.mv (.t 9)) 65 true,qg 69 (.iad none 4 (.t 67) (.t 68)) 65 true,qg 70 (.fad 0 (.t 69)) 65 true,qg 71 (.ldN 2 (.t 70)) 65 true,qg 72 (.call (.c (.func (
  .func 12) [] [])) [.t 71]) 65 true,qo 73 (.pick (.t 65) (.t 72) (.c (.bool false))),qm 74 73,qg 75 (.fad 0 (.t 2)) 74 true,qg 76 (.ld1 (.t 75)) 74 true,qg 77 (.mv (.t 9)) 74 true,qg 78 (.iad none 4 (.t 76) (.t 77)) 74 true,qg 79 (.fad 2 (.t 78)) 74 true,qg 80 (.ldN 2 (.t 79)) 74 true,qg 81 (.call (
  .c (.func (.func 12) [] [])) [.t 80]) 74 true,qo 82 (.pick (.t 74) (.t 81) (.c (.bool false))),qm 7 82]))) (.ops [qm 40 9,qC 41 .add 40 1,qm 9 41])))))) (.seq (qq [qi 10 0] (.block 2 (.loop (.seq (qq [qm 83 10,qf 84 1 2,ql 85 84,qn 86 85,qB 87 .lss 83 86] (.cond (.t 87) (.skip) (.exit 2))) (.seq (
  .block 3 (qq [qo 11 (.mv (.c qN))] (.seq (qq [qi 12 0] (.block 4 (.loop (.seq (qq [qm 90 12,qf 91 1 2,ql 92 91,qm 93 10,qa 94 1 92 93,ql 95 94,qn 96 95,qB 97 .lss 90 96] (.cond (.t 97) (.skip) (.exit 4))) (.seq (.block 5 (.seq (.draw [qk (qm 100 11),qK (qL 101 2 8) 0,qk (qf 102 1 2),qK (
  ql 103 102) 0,qk (qm 104 10),qk (qa 105 1 103 104),qK (ql 106 105) 0,qk (qm 107 12),qk (qa 108 2 106 107),qK (qL 109 2 108) 0,(qc 110 11 [.t 101,.t 109],.anchor),(qo 111 (.bsl 30 2 1 [qZ,qZ] [(0,2,(.t 110))]),.new),(qo 112 (.app 30 2 16 [qZ,qZ] (.t 100) (.t 111)),.anchor),qk (qm 11 112)]) (
  .ops [qm 113 7,qm 114 113,qg 115 (.fad 1 (.t 2)) 114 true,qg 116 (.ld1 (.t 115)) 114 true,qg 117 (.mv (.t 10)) 114 true,qg 118 (.iad none 1 (.t 116) (.t 117)) 114 true,qg 119 (.ld1 (.t 118)) 114 true,qg 120 (.mv (.t 12)) 114 true,qg 121 (.iad none 2 (.t 119) (.t 120)) 114 true,qg 122 (.ldN 2 (
  .t 121)) 114 true,qg 123 (.call (.c (.func (.func 12) [] [])) [.t 122]) 114 true,qo 124 (.pick (.t 114) (.t 123) (.c (.bool false))),qm 7 124]))) (.ops [qm 98 12,qC 99 .add 98 1,qm 12 99])))))) (.ops [qf 125 1 6,ql 126 125,qm 127 11,qo 128 (.bsl 24 1 1 [qN] [(0,1,(.t 127))]),qo 129 (
  .app 24 1 24 [qN] (.t 126) (.t 128)),qf 130 1 6,qS 1 130 129])))) (.ops [qm 88 10,qC 89 .add 88 1,qm 10 89])))))) (.seq (qq [qi 13 0] (.block 6 (.loop (.seq (qq [qm 131 13,qf 132 2 2,ql 133 132,qn 134 133,qB 135 .lss 131 134] (.cond (.t 135) (.skip) (.exit 6))) (.seq (.block 7 (.seq (.draw [qk (
  qf 138 2 6),qK (ql 139 138) 1,qK (qL 140 2 8) 0,qk (qf 141 2 2),qK (ql 142 141) 0,qk (qm 143 13),qk (qa 144 2 142 143),qK (qL 145 2 144) 0,(qc 146 11 [.t 140,.t 145],.anchor),(qo 147 (.bsl 30 2 1 [qZ,qZ] [(0,2,(.t 146))]),.new),(qo 148 (.app 30 2 16 [qZ,qZ] (.t 139) (.t 147)),.anchor),qk (
  qf 149 2 6),(qS 1 149 148,.anchor)]) (.ops [qm 150 7,qm 151 150,qg 152 (.fad 2 (.t 2)) 151 true,qg 153 (.ld1 (.t 152)) 151 true,qg 154 (.mv (.t 13)) 151 true,qg 155 (.iad none 2 (.t 153) (.t 154)) 151 true,qg 156 (.ldN 2 (.t 155)) 151 true,qg 157 (.call (.c (.func (
  .func 12) [] [])) [.t 156]) 151 true,qo 158 (.pick (.t 151) (.t 157) (.c (.bool false))),qm 7 158]))) (.ops [qm 136 13,qC 137 .add 136 1,qm 13 137])))))) (.seq (.draw [qK (qL 159 2 8) 0,qk (qf 160 11 2),qk (qf 161 0 160),qK (qL 162 2 161) 0,(qc 163 11 [.t 159,.t 162],.anchor),qk (qf 164 11 2),qk (
  qf 165 2 164),qK (ql 166 165) 1,qk (qo 167 (.build [qZ,qZ,qZ] [(0,2,(.t 163)),(2,1,(.t 166))])),qk (qf 168 11 6),(qS 3 168 167,.anchor)]) (.seq (.draw [qK (qL 169 17 6) 1,qk (qm 170 7),qk (qm 171 170),qk (qg 172 (.fad 11 (.t 2)) 171 true),qk (qg 173 (.fad 0 (.t 172)) 171 true),qK (qg 174 (.ldN 2 (
  .t 173)) 171 true) 0,(qg 175 (.call (.c (.func (.func 12) [] [])) [.t 174]) 171 true,.anchor),qk (qo 176 (.pick (.t 171) (.t 175) (.c (.bool false)))),(qS 17 4 169,.anchor),qk (qm 5 176)]) (.ret))))))))),[.cellN 4 17,.tmp 5]⟩
def xq5 : XF := ⟨16,qq [qi 4 0] (.seq (qq [qm 5 1,qC 6 .lss 5 1] (.cond (.t 6) (qq [qi 4 0] (.ret)) (.skip))) (qq [qm 7 0,qm 8 1,qB 9 .rem 7 8,qm 0 9] (.seq (qq [qm 10 0,qC 11 .lss 10 0] (.cond (.t 11) (.ops [qm 12 0,qm 13 1,qB 14 .add 12 13,qm 0 14]) (.skip))) (qq [qm 15 0,qm 4 15] (.ret))))),[.tmp 4]⟩
def xq7 : XF := ⟨64,qq [qb 1 35 0,qo 2 (.mv (.c qN)),qo 3 (.new 3 [qZ]),qi 4 0] (qq [qL 13 17 1,qc 14 24 [.t 13],qm 12 14,qe 15 0 12,qe 16 1 12,qo 5 (.new 77 [(.ptr none),(.map none)]),qS 2 5 15,qm 4 16] (.seq (qq [qm 17 4,qC 18 .neq 17 0] (.cond (.t 18) (qq [qm 19 4,qo 2 (.mv (.c qN)),⟨none,.st 1 (.t 3) (.c qZ),
  none⟩,qm 4 19] (.ret)) (.skip))) (qq [qf 20 0 5,ql 21 20,qo 22 (.nilc (.t 21)),qf 23 0 22,qf 24 0 23,ql 25 24,qn 26 25,qo 27 (.bin .shl (.c (.int .i64 1)) (.t 26)),qC 28 .sub 27 1,qo 6 (.new 3 [qZ]),qS 1 6 28] (qq [qL 29 2 5,qc 30 25 [.t 29],qo 7 (.new 46 [qN]),qS 1 7 30] (qq [⟨none,.st 1 (.t 3) (
  .c (.int .i64 (-1))),none⟩] (.seq (qq [qL 31 2 5,ql 32 6,qc 33 26 [.t 31,.t 32]] (.block 0 (.rfun (.t 33) [34] (.ops [qo 8 (.new 45 [qZ,qZ]),qS 2 8 34]) (.block 1 (.seq (.draw [qK (ql 35 7) 1,qK (qL 36 2 5) 0,qK (ql 37 6) 0,qK (qL 38 2 8) 0,(qc 39 27 [.t 36,.t 37,.t 38],.anchor),qk (qa 40 1 35 39),(
  ql 41 40,.reads 1 1),qk (qm 9 41)]) (qq [qm 42 9,qC 43 .geq 42 0,qm 44 43,qg 45 (.ld1 (.t 3)) 44 true,qg 46 (.bin .lss (.t 45) (.c qZ)) 44 true,qg 47 (.mv (.t 46)) 44 true,qg 48 (.mv (.t 9)) 47 false,qg 49 (.ld1 (.t 3)) 47 false,qg 50 (.bin .lss (.t 48) (.t 49)) 47 false,qg 51 (.pick (.t 47) (.c (
  .bool true)) (.t 50)) 44 true,qo 52 (.pick (.t 44) (.t 51) (.c (.bool false)))] (.cond (.t 52) (.ops [qm 53 9,qS 1 3 53]) (.skip)))))))) (.seq (qq [ql 54 3,qC 55 .lss 54 0] (.cond (.t 55) (qq [qo 2 (.mv (.c qN)),⟨none,.st 1 (.t 3) (.c qZ),none⟩,qi 4 4] (.ret)) (.skip))) (qq [qo 10 (.new 40 [qN])] (
  qq [qo 11 (.new 87 [.nilFunc])] (qq [qo 56 (.mkf 28 [] [.t 10,.t 3,.t 5,.t 11]),qS 1 11 56] (.seq (.draw [qK (ql 57 11) 1,qK (qL 58 2 5) 0,(qc 59 32 [.t 58],.anchor),qK (ql 60 6) 1,(qo 61 (.call (.t 57) [(.c qN),.t 59,.t 60]),.anchor)]) (.seq (.draw [qK (ql 62 10) 0,qK (ql 63 3) 0,qk (qm 2 62),(
  qS 1 3 63,.anchor),qk (qi 4 0)]) (.ret))))))))))))),[.tmp 2,.cell1 3,.tmp 4]⟩
def xq8 : XF := ⟨16,qq [qb 1 35 0,qo 2 (.mv (.c qN)),qi 3 0] (qq [qL 7 17 1,qc 8 24 [.t 7],qm 6 8,qe 9 0 6,qe 10 1 6,qo 4 (.new 77 [(.ptr none),(.map none)]),qS 2 4 9,qm 5 10] (.seq (qq [qm 11 5,qC 12 .neq 11 0] (.cond (.t 12) (qq [qm 13 5,qo 2 (.mv (.c qN)),qm 3 13] (.ret)) (.skip))) (qq [qL 14 2 4,
  qc 15 25 [.t 14],qm 2 15,qi 3 0] (.ret)))),[.tmp 2,.tmp 3]⟩
def xq9 : XF := ⟨26,qq [qo 4 (.mv (.c (.bool false)))] (.seq (qq [qm 6 0,qn 7 6,qm 8 1,qn 9 8,qB 10 .neq 7 9] (.cond (.t 10) (qq [qo 4 (.mv (.c (.bool false)))] (.ret)) (.skip))) (.seq (qq [qi 5 0] (.block 0 (.loop (.seq (qq [qm 11 5,qm 12 0,qn 13 12,qB 14 .lss 11 13] (.cond (.t 14) (.skip) (.exit 0))) (.seq (
  .block 1 (.seq (.draw [qk (qm 17 0),qk (qm 18 5),qk (qa 19 1 17 18),qK (ql 20 19) 0,qk (qm 21 1),qk (qm 22 5),qk (qa 23 1 21 22),qK (ql 24 23) 0,qk (qB 25 .neq 20 24)]) (.cond (.t 25) (qq [qo 4 (.mv (.c (.bool false)))] (.ret)) (.skip)))) (.ops [qm 15 5,qC 16 .add 15 1,qm 5 16])))))) (qq [qo 4 (
  .mv (.c (.bool true)))] (.ret)))),[.tmp 4]⟩
def xq10 : XF := ⟨16,qq [qb 2 26 0,qo 4 (.mv (.c (.bool false)))] (qq [qf 5 0 2,ql 6 5,qm 7 1,qo 8 (.un .neg (.t 7)),qB 9 .geq 6 8,qm 10 9,qg 11 (.fad 1 (.t 2)) 10 true,qg 12 (.ld1 (.t 11)) 10 true,qg 13 (.mv (.t 1)) 10 true,qg 14 (.bin .leq (.t 12) (.t 13)) 10 true,qo 15 (.pick (.t 10) (.t 14) (.c (.bool false))),
  qm 4 15] (.ret)),[.tmp 4]⟩
def xq11 : XF := ⟨18,qq [qb 2 53 0,qb 3 30 1,qo 4 (.new 30 [qZ,qZ])] (qq [qf 5 0 3,ql 6 5,qf 7 0 2,qf 8 0 7,ql 9 8,qB 10 .add 6 9,qf 11 1 3,ql 12 11,qf 13 0 2,qf 14 1 13,ql 15 14,qB 16 .add 12 15,qo 17 (.build [qZ,qZ] [(0,1,(.t 10)),(1,1,(.t 16))]),qS 2 4 17] (.ret)),[.cellN 4 2]⟩
def xq12 : XF := ⟨11,qq [qb 1 30 0,qo 2 (.mv (.c (.bool false)))] (qq [qf 3 0 1,ql 4 3,qc 5 33 [.t 4,(.c (.int .i64 (-20000))),(.c (.int .i64 20000))],qm 6 5,qg 7 (.fad 1 (.t 1)) 6 true,qg 8 (.ld1 (.t 7)) 6 true,qg 9 (.call (.c (.func (.func 33) [] [])) [.t 8,(.c (.int .i64 (-20000))),(.c (
  .int .i64 20000))]) 6 true,qo 10 (.pick (.t 6) (.t 9) (.c (.bool false))),qm 2 10] (.ret)),[.tmp 2]⟩
def xq18 : XF := ⟨84,qq [qb 1 30 0,qi 2 0] (.seq (qq [qf 7 0 1,ql 8 7,qc 9 36 [.t 8,(.c (.int .i64 (-131072))),(.c (.int .i64 131072))],qo 10 (.un .not (.t 9)),qm 11 10,qg 12 (.fad 1 (.t 1)) 11 false,qg 13 (.ld1 (.t 12)) 11 false,qg 14 (.call (.c (.func (.func 36) [] [])) [.t 13,(.c (.int .i64 (-131072))),(.c (
  .int .i64 131072))]) 11 false,qg 15 (.un .not (.t 14)) 11 false,qo 16 (.pick (.t 11) (.c (.bool true)) (.t 15))] (.cond (.t 16) (qq [qi 2 0] (.ret)) (.skip))) (.seq (.draw [qk (qf 17 0 1),qK (ql 18 17) 0,qk (qf 19 1 1),qK (ql 20 19) 0,qk (qB 21 .add 18 20),qk (qf 22 0 1),qK (ql 23 22) 0,qk (
  qf 24 1 1),qK (ql 25 24) 0,qk (qB 26 .sub 23 25),qk (qm 3 21),qk (qm 4 26)]) (.seq (qq [qf 27 1 1,ql 28 27,qC 29 .geq 28 0,qm 30 29,qg 31 (.mv (.t 4)) 30 true,qg 32 (.bin .geq (.t 31) (.c qZ)) 30 true,qo 33 (.pick (.t 30) (.t 32) (.c (.bool false))),qf 34 0 1,ql 35 34,qC 36 .geq 35 0,qm 37 36,
  qg 38 (.mv (.t 4)) 37 true,qg 39 (.bin .leq (.t 38) (.c qZ)) 37 true,qo 40 (.pick (.t 37) (.t 39) (.c (.bool false))),qf 41 0 1,ql 42 41,qC 43 .leq 42 0,qm 44 43,qg 45 (.mv (.t 3)) 44 true,qg 46 (.bin .geq (.t 45) (.c qZ)) 44 true,qo 47 (.pick (.t 44) (.t 46) (.c (.bool false))),qf 48 1 1,ql 49 48,
  qC 50 .geq 49 0,qm 51 50,qg 52 (.mv (.t 3)) 51 true,qg 53 (.bin .leq (.t 52) (.c qZ)) 51 true,qo 54 (.pick (.t 51) (.t 53) (.c (.bool false))),qf 55 1 1,ql 56 55,qC 57 .leq 56 0,qm 58 57,qg 59 (.mv (.t 4)) 58 true,qg 60 (.bin .leq (.t 59) (.c qZ)) 58 true,qo 61 (.pick (.t 58) (.t 60) (.c (
  .bool false))),qf 62 0 1,ql 63 62,qC 64 .leq 63 0,qm 65 64,qg 66 (.mv (.t 4)) 65 true,qg 67 (.bin .geq (.t 66) (.c qZ)) 65 true,qo 68 (.pick (.t 65) (.t 67) (.c (.bool false))),qf 69 0 1,ql 70 69,qC 71 .geq 70 0,qm 72 71,qg 73 (.mv (.t 3)) 72 true,qg 74 (.bin .leq (.t 73) (.c qZ)) 72 true,qo 75 (
  .pick (.t 72) (.t 74) (.c (.bool false))),qo 76 (.build [(.bool false),(.bool false),(.bool false),(.bool false),(.bool false),(.bool false),(.bool false)] [(0,1,(.t 33)),(1,1,(.t 40)),(2,1,(.t 47)),(3,1,(.t 54)),(4,1,(.t 61)),(5,1,(.t 68)),(6,1,(.t 75))]),qi 77 0] (.block 0 (.loop (
  qq [qC 78 .lss 77 7] (.seq (.cond (.t 78) (.skip) (.exit 0)) (.seq (.block 1 (qq [qm 79 77,qo 80 (.idx 7 1 false (.t 76) (.t 77)),qm 5 79,qm 6 80] (qq [qm 81 6] (.cond (.t 81) (qq [qm 82 5,qm 2 82] (.ret)) (.skip))))) (.ops [qC 83 .add 77 1,qm 77 83]))))))) (qq [qi 2 7] (.ret))))),[.tmp 2]⟩
def xq24 : XF := ⟨15,qq [qb 1 35 0,qo 2 (.new 77 [(.ptr none),(.map none)]),qi 3 0] (qq [qL 7 17 1,qc 8 38 [.t 7],qm 6 8,qe 9 0 6,qe 10 1 6,qm 4 9,qm 5 10] (qq [qm 11 4,qo 12 (.mkmap),qo 13 (.build [(.ptr none),(.map none)] [(0,1,(.t 11)),(1,1,(.t 12))]),qm 14 5,qS 2 2 13,qm 3 14] (.ret))),[.cellN 2 2,.tmp 3]⟩
def xq25 : XF := ⟨59,qq [qb 1 77 0,qo 2 (.mv (.c qN))] (qq [qf 10 0 1,ql 11 10,qo 12 (.nilc (.t 11)),qf 13 0 12,qf 14 0 13,ql 15 14,qn 16 15,qm 3 16] (qq [qm 17 3,qo 18 (.bin .mul (.c (.int .i64 2)) (.t 17)),qm 19 3,qB 20 .shl 18 19,qo 21 (.mksl 3 1 8 [qZ] (.t 20) (.t 20)),qo 4 (.new 46 [qN]),qS 1 4 21] (.seq (
  qq [ql 22 4,qn 23 22,qi 24 0] (.block 0 (.loop (qq [qB 25 .lss 24 23] (.seq (.cond (.t 25) (.skip) (.exit 0)) (.seq (.block 1 (qq [qm 26 24,qm 5 26] (.ops [ql 27 4,qm 28 5,qa 29 1 27 28,⟨none,.st 1 (.t 29) (.c (.int .i64 (-1))),none⟩]))) (.ops [qC 30 .add 24 1,qm 24 30]))))))) (.seq (qq [qm 31 3,
  qo 32 (.bin .shl (.c (.int .i64 1)) (.t 31)),qi 33 0] (.block 2 (.loop (qq [qB 34 .lss 33 32] (.seq (.cond (.t 34) (.skip) (.exit 2)) (.seq (.block 3 (qq [qm 35 33,qo 6 (.new 3 [qZ]),qS 1 6 35] (qq [qL 36 2 1,ql 37 6,qc 38 26 [.t 36,.t 37]] (.block 4 (.rfun (.t 38) [39] (.ops [qo 7 (.new 45 [qZ,
  qZ]),qS 2 7 39]) (.block 5 (qq [qL 41 2 1,ql 42 4,ql 43 6,qL 44 2 7,qc 45 46 [.t 41,.t 42,.t 43,.t 44],qo 46 (.call (.c (.func (.func 45) [] [])) [.t 45,(.c (.func (.func 47) [] []))]),qm 40 46,qe 47 0 40,qe 48 1 40,qm 8 47,qm 9 48] (qq [qm 49 9] (.cond (.t 49) (.draw [qK (ql 50 4) 1,qK (
  qL 51 2 1) 0,qK (ql 52 6) 0,qK (qL 53 2 7) 0,(qc 54 27 [.t 51,.t 52,.t 53],.anchor),qk (qm 55 8),qk (qa 56 1 50 54),(qS 1 56 55,.anchor)]) (.skip)))))))))) (.ops [qC 57 .add 33 1,qm 33 57]))))))) (qq [ql 58 4,qm 2 58] (.ret)))))),[.tmp 2]⟩
def xq26 : XF := ⟨6,qq [qb 2 77 0,qb 3 3 1,qo 4 (.mv (.c .nilFunc))] (qq [qo 5 (.mkf 50 [] [.t 2,.t 3]),qm 4 5] (.ret)),[.tmp 4]⟩
def xq27 : XF := ⟨24,qq [qb 3 77 0,qb 5 45 2,qi 6 0] (.seq (.draw [qk (qf 7 0 3),qK (ql 8 7) 0,qk (qo 9 (.nilc (.t 8))),qk (qf 10 0 9),qk (qf 11 0 10),qK (ql 12 11) 0,qk (qn 13 12),qk (qo 14 (.bin .mul (.c (.int .i64 2)) (.t 13))),qk (qm 15 1),qk (qB 16 .mul 14 15),qk (qf 17 0 5),qK (ql 18 17) 0,qk (qo 19 (
  .bin .mul (.c (.int .i64 2)) (.t 18))),qk (qB 20 .add 16 19),qk (qf 21 1 5),qK (ql 22 21) 0,qk (qB 23 .add 20 22),qk (qm 6 23)]) (.ret)),[.tmp 6]⟩
def xq28 : XF := ⟨57,qq [qb 7 40 0,qb 8 90 1,qb 9 3 2,qo 10 (.new 4 [(.bool false)])] (.scope (.seq (qq [ql 14 9,qC 15 .eql 14 0] (.cond (.t 15) (qq [ql 16 7,qS 1 3 16] (qq [qf 17 3 8,ql 18 17,ql 19 4,qB 20 .eql 18 19,qS 1 10 20] (.ret))) (.skip))) (.seq (.skip) (.seq (qq [qL 21 2 5,ql 22 9,qc 23 26 [.t 21,.t 22]] (
  .block 0 (.rfun (.t 23) [24] (.ops [qo 11 (.new 45 [qZ,qZ]),qS 2 11 24]) (.block 1 (qq [qL 26 2 5,qL 27 4 8,qL 28 2 11,qc 29 29 [.t 26,.t 27,.t 28],qm 25 29,qe 30 0 25,qe 31 1 25,qo 12 (.new 26 [qZ,qZ]),qS 2 12 30,qm 13 31] (.seq (qq [qm 32 13,qo 33 (.un .not (.t 32)),qm 34 33,qg 35 (.fad 1 (
  .t 12)) 34 false,qg 36 (.ld1 (.t 35)) 34 false,qg 37 (.ld1 (.t 4)) 34 false,qg 38 (.bin .gtr (.t 36) (.t 37)) 34 false,qo 39 (.pick (.t 34) (.c (.bool true)) (.t 38))] (.cond (.t 39) (.exit 1) (.skip))) (.seq (.draw [qK (ql 40 6) 3,qK (ql 41 7) 0,(qc 42 30 [.t 41],.anchor),qK (qL 43 2 11) 1,(qo 44 (
  .bsl 45 2 1 [qZ,qZ] [(0,2,(.t 43))]),.new),(qo 45 (.app 45 2 16 [qZ,qZ] (.t 42) (.t 44)),.anchor),qK (qL 46 2 5) 2,qK (qL 47 2 11) 2,qk (qf 48 1 12),qK (ql 49 48) 2,(qc 50 31 [.t 46,.t 47,.t 49],.anchor),qK (ql 51 9) 3,qk (qf 52 0 11),qK (ql 53 52) 3,qk (qo 54 (.bin .shl (.c (.int .i64 1)) (
  .t 53))),qk (qB 55 .andNot 51 54),(qo 56 (.call (.t 40) [.t 45,.t 50,.t 55]),.anchor)]) (.cond (.t 56) (qq [⟨none,.st 1 (.t 10) (.c (.bool true)),none⟩] (.ret)) (.skip))))))))) (qq [⟨none,.st 1 (.t 10) (.c (.bool false)),none⟩] (.ret)))))),[.cell1 10]⟩
def xq29 : XF := ⟨67,qq [qb 3 77 0,qb 4 90 1,qb 5 45 2,qo 6 (.new 26 [qZ,qZ]),qo 7 (.mv (.c (.bool false)))] (qq [qf 16 0 3,ql 17 16,qL 18 2 5,qc 19 51 [.t 17,.t 18],qm 15 19,qe 20 0 15,qe 21 1 15,qo 8 (.new 88 [qZ,qZ,qZ]),qo 9 (.new 88 [qZ,qZ,qZ]),qS 3 8 20,qS 3 9 21] (qq [qf 22 0 4,qL 23 3 22,qL 24 3 8,qo 25 (
  .build [qZ,qZ,qZ,qZ,qZ,qZ] [(0,3,(.t 23)),(3,3,(.t 24))]),qo 10 (.new 121 [qZ,qZ,qZ,qZ,qZ,qZ]),qS 6 10 25] (qq [qf 27 1 3,ql 28 27,qL 29 6 10,qo 30 (.lkp 121 qZ true (.t 28) (.t 29)),qm 26 30,qe 31 0 26,qe 32 1 26,qm 11 31,qm 12 32] (.seq (qq [qm 33 12,qo 34 (.un .not (.t 33))] (.cond (.t 34) (
  qq [qi 11 (-1)] (.seq (qq [qf 35 0 4,qL 36 3 35,qc 37 39 [.t 36]] (.cond (.t 37) (qq [qf 39 0 3,ql 40 39,qf 41 0 4,qL 42 3 41,qL 43 3 8,qc 44 40 [.t 40,.t 42,.t 43],qm 38 44,qe 45 0 38,qe 46 1 38,qo 13 (.new 105 [qN,qZ]),qS 2 13 45,qm 14 46] (qq [qm 47 14] (.cond (.t 47) (.ops [qf 48 1 13,ql 49 48,
  qm 11 49]) (.skip)))) (.skip))) (.ops [qf 50 1 3,ql 51 50,qL 52 6 10,qm 53 11,⟨none,.mset 121 (.t 51) (.t 52) (.t 53),none⟩]))) (.skip))) (.seq (qq [qm 54 11,qC 55 .lss 54 0] (.cond (.t 55) (qq [qo 56 (.build [qZ,qZ] []),qS 2 6 56,qo 7 (.mv (.c (.bool false)))] (.ret)) (.skip))) (qq [qf 57 0 3,
  ql 58 57,qL 59 2 5,qf 60 3 4,ql 61 60,qm 62 11,qB 63 .add 61 62,qc 64 42 [.t 58,.t 59,.t 63],qe 65 0 64,qe 66 1 64,qS 2 6 65,qm 7 66] (.ret))))))),[.cellN 6 2,.tmp 7]⟩
def xq30 : XF := ⟨8,qq [qo 2 (.mv (.c qN))] (.seq (qq [qm 3 0,qo 4 (.eqg false 40 (.t 3) (.c qN))] (.cond (.t 4) (qq [qo 2 (.mv (.c qN))] (.ret)) (.skip))) (qq [qo 5 (.bsl 45 2 0 [qZ,qZ] []),qm 6 0,qo 7 (.app 45 2 16 [qZ,qZ] (.t 5) (.t 6)),qm 2 7] (.ret))),[.tmp 2]⟩
def xq31 : XF := ⟨19,qq [qb 3 77 0,qb 4 45 1,qo 6 (.new 90 [qZ,qZ,qZ,qZ])] (qq [qf 10 0 3,ql 11 10,qL 12 2 4,qc 13 51 [.t 11,.t 12],qm 9 13,qe 14 0 9,qe 15 1 9,qo 7 (.new 88 [qZ,qZ,qZ]),qo 8 (.new 88 [qZ,qZ,qZ]),qS 3 7 14,qS 3 8 15] (qq [qL 16 3 8,qm 17 2,qo 18 (.build [qZ,qZ,qZ,qZ] [(0,3,(.t 16)),(3,1,(.t 17))]),
  qS 4 6 18] (.ret))),[.cellN 6 4]⟩
def xq32 : XF := ⟨10,qq [qb 1 77 0,qo 2 (.new 90 [qZ,qZ,qZ,qZ])] (qq [qf 3 0 1,ql 4 3,qo 5 (.nilc (.t 4)),qf 6 0 5,qf 7 11 6,qL 8 3 7,qo 9 (.build [qZ,qZ,qZ,qZ] [(0,3,(.t 8)),(3,1,(.c qZ))]),qS 4 2 9] (.ret)),[.cellN 2 4]⟩
def xq33 : XF := ⟨15,qq [qo 6 (.mv (.c (.bool false)))] (qq [qm 7 0,qm 8 1,qB 9 .geq 7 8,qm 10 9,qg 11 (.mv (.t 0)) 10 true,qg 12 (.mv (.t 2)) 10 true,qg 13 (.bin .leq (.t 11) (.t 12)) 10 true,qo 14 (.pick (.t 10) (.t 13) (.c (.bool false))),qm 6 14] (.ret)),[.tmp 6]⟩
def xq35 : XF := ⟨61,qq [qb 3 98 1,qi 4 0] (.seq (.draw [qk (qf 9 2 3),qk (qf 10 0 9),qK (ql 11 10) 0,qk (qf 12 0 3),qk (qf 13 0 12),qK (ql 14 13) 0,qk (qB 15 .sub 11 14),qk (qf 16 2 3),qk (qf 17 1 16),qK (ql 18 17) 0,qk (qf 19 0 3),qk (qf 20 1 19),qK (ql 21 20) 0,qk (qB 22 .sub 18 21),qk (qm 5 15),qk (qm 6 22)]) (
  qq [qm 24 5,qm 25 5,qB 26 .mul 24 25,qm 27 6,qm 28 6,qB 29 .mul 27 28,qB 30 .add 26 29,qc 31 53 [.t 30],qm 23 31,qe 32 0 23,qe 33 1 23,qm 7 32,qm 8 33] (.seq (qq [qm 34 7,qm 35 7,qB 36 .mul 34 35,qm 37 5,qm 38 5,qB 39 .mul 37 38,qm 40 6,qm 41 6,qB 42 .mul 40 41,qB 43 .add 39 42,qB 44 .lss 36 43] (
  .cond (.t 44) (.ops [qm 45 7,qC 46 .add 45 1,qm 7 46]) (.skip))) (.seq (.draw [qk (qm 47 7),qk (qm 48 0),qk (qo 49 (.nilc (.t 48))),qk (qf 50 0 49),qk (qf 51 14 50),qK (ql 52 51) 0,qk (qB 53 .add 47 52),qk (qC 54 .sub 53 1),qk (qm 55 0),qk (qo 56 (.nilc (.t 55))),qk (qf 57 0 56),qk (qf 58 14 57),
  qK (ql 59 58) 0,qk (qB 60 .quo 54 59),qk (qm 4 60)]) (.ret))))),[.tmp 4]⟩
def xq36 : XF := ⟨15,qq [qo 6 (.mv (.c (.bool false)))] (qq [qm 7 0,qm 8 1,qB 9 .geq 7 8,qm 10 9,qg 11 (.mv (.t 0)) 10 true,qg 12 (.mv (.t 2)) 10 true,qg 13 (.bin .leq (.t 11) (.t 12)) 10 true,qo 14 (.pick (.t 10) (.t 13) (.c (.bool false))),qm 6 14] (.ret)),[.tmp 6]⟩
def xq37 : XF := ⟨15,qq [qi 4 0] (qq [qm 6 1,qm 7 0,qB 8 .sub 6 7,qC 9 .add 8 8,qC 10 .rem 9 8,qm 5 10] (qq [qm 11 5,qm 12 5,qo 13 (.bin .sub (.c (.int .i64 8)) (.t 12)),qo 14 (.min [.t 11,.t 13]),qm 4 14] (.ret))),[.tmp 4]⟩
def xq38 : XF := ⟨14,qq [qb 1 35 0,qo 2 (.mv (.c (.ptr none))),qi 3 0] (.seq (qq [qL 5 17 1,qc 6 54 [.t 5],qm 4 6] (qq [qm 7 4,qC 8 .neq 7 0] (.cond (.t 8) (qq [qm 9 4,qo 2 (.mv (.c (.ptr none))),qm 3 9] (.ret)) (.skip)))) (qq [qL 10 17 1,qo 11 (.mkmap),qo 12 (.build [qN,qN,qN,qZ,qZ,qZ,qZ,qZ,qZ,qZ,qZ,qZ,qZ,qZ,qZ,qZ,
  qN,(.map none)] [(0,17,(.t 10)),(17,1,(.t 11))]),qb 13 82 12,qm 2 13,qi 3 0] (.ret))),[.tmp 2,.tmp 3]⟩
def xq39 : XF := ⟨12,qq [qb 1 88 0,qo 2 (.mv (.c (.bool false)))] (qq [qf 3 0 1,qL 4 2 3,qc 5 52 [.t 4],qC 6 .eql 5 0,qm 7 6,qg 8 (.fad 2 (.t 1)) 7 true,qg 9 (.ld1 (.t 8)) 7 true,qg 10 (.call (.c (.func (.func 36) [] [])) [.t 9,(.c qZ),(.c (.int .i64 7))]) 7 true,qo 11 (.pick (.t 7) (.t 10) (.c (.bool false))),
  qm 2 11] (.ret)),[.tmp 2]⟩
def xq40 : XF := ⟨15,qq [qb 4 88 1,qb 5 88 2,qo 6 (.new 105 [qN,qZ]),qo 7 (.mv (.c (.bool false)))] (qq [qm 8 0,qL 9 3 4,qL 10 3 5,qc 11 56 [.t 8,.t 9,.t 10],qo 12 (.call (.c (.func (.func 55) [] [])) [.t 11,(.c (.func (.func 57) [] []))]),qe 13 0 12,qe 14 1 12,qS 2 6 13,qm 7 14] (.ret)),[.cellN 6 2,.tmp 7]⟩
def xq42 : XF := ⟨55,qq [qb 4 45 1,qo 6 (.new 26 [qZ,qZ]),qo 7 (.mv (.c (.bool false)))] (qq [qm 13 0,qL 14 2 4,qc 15 58 [.t 13,.t 14],qo 8 (.new 98 [qZ,qZ,qZ,qZ]),qS 4 8 15] (.seq (qq [qm 16 0,qL 17 4 8,qc 18 49 [.t 16,.t 17],qo 19 (.un .not (.t 18))] (.cond (.t 19) (qq [qo 20 (.build [qZ,qZ] []),qS 2 6 20,qo 7 (
  .mv (.c (.bool false)))] (.ret)) (.skip))) (qq [qm 21 0,qL 22 4 8,qc 23 35 [.t 21,.t 22],qm 9 23] (.seq (.seq (.draw [qk (qm 24 0),qk (qo 25 (.nilc (.t 24))),qk (qf 26 0 25),qk (qf 27 16 26),qK (ql 28 27) 0,qk (qf 29 0 4),qK (ql 30 29) 0,qk (qa 31 1 28 30),qK (ql 32 31) 0,qk (qn 33 32),qk (
  qi 34 0)]) (.block 0 (.loop (qq [qB 35 .lss 34 33] (.seq (.cond (.t 35) (.skip) (.exit 0)) (.seq (.block 1 (qq [qa 36 2 32 34,qL 37 2 36,qo 11 (.new 26 [qZ,qZ]),qS 2 11 37] (qq [qm 38 2,qf 39 0 11,ql 40 39,qo 41 (.max [.t 38,.t 40]),qm 12 41] (qq [qm 42 12,qm 43 9,qB 44 .add 42 43,qf 45 1 11,
  ql 46 45,qB 47 .leq 44 46] (.cond (.t 47) (qq [qm 48 12,qm 49 12,qm 50 9,qB 51 .add 49 50,qo 52 (.build [qZ,qZ] [(0,1,(.t 48)),(1,1,(.t 51))]),qS 2 6 52,qo 7 (.mv (.c (.bool true)))] (.ret)) (.skip)))))) (.ops [qC 53 .add 34 1,qm 34 53]))))))) (qq [qo 54 (.build [qZ,qZ] []),qS 2 6 54,qo 7 (.mv (.c (
  .bool false)))] (.ret)))))),[.cellN 6 2,.tmp 7]⟩
def xq45 : XF := ⟨20,qq [qb 3 117 1,qo 4 (.new 3 [qZ]),qo 5 (.new 4 [(.bool false)])] (.seq (qq [qm 7 0] (.block 0 (.rfun (.t 7) [8] (.ops [qm 6 8]) (.block 1 (qq [ql 9 5,qo 10 (.un .not (.t 9)),qm 11 10,qg 12 (.ld1 (.t 3)) 11 false,qg 13 (.mv (.t 6)) 11 false,qg 14 (.ld1 (.t 4)) 11 false,qg 15 (.call (
  .t 12) [.t 13,.t 14]) 11 false,qo 16 (.pick (.t 11) (.c (.bool true)) (.t 15))] (.cond (.t 16) (.ops [qm 17 6,qS 1 4 17,⟨none,.st 1 (.t 5) (.c (.bool true)),none⟩]) (.skip))))))) (.seq (.draw [qK (ql 18 4) 0,qK (ql 19 5) 1,(qS 1 4 18,.anchor),(qS 1 5 19,.anchor)]) (.ret))),[.cell1 4,.cell1 5]⟩
def xq46 : XF := ⟨10,qq [qb 4 77 0,qb 5 46 1,qb 6 3 2,qb 7 45 3,qo 8 (.mv (.c .nilFunc))] (qq [qo 9 (.mkf 60 [] [.t 4,.t 5,.t 6,.t 7]),qm 8 9] (.ret)),[.tmp 8]⟩
def xq47 : XF := ⟨8,qq [qo 4 (.mv (.c (.bool false)))] (qq [qm 5 0,qm 6 1,qB 7 .lss 5 6,qm 4 7] (.ret)),[.tmp 4]⟩
def xq49 : XF := ⟨52,qq [qb 3 98 1,qo 4 (.mv (.c (.bool false)))] (.seq (.draw [qk (qm 10 0),qk (qo 11 (.nilc (.t 10))),qk (qf 12 17 11),qK (ql 13 12) 0,qK (qL 14 4 3) 0,qK (qo 15 (.lkp 98 (.bool false) true (.t 13) (.t 14))) 0,qk (qm 9 15),qk (qe 16 0 9),qk (qe 17 1 9),qk (qm 5 16),qk (qm 6 17)]) (.seq (
  qq [qm 18 6,qo 19 (.un .not (.t 18))] (.cond (.t 19) (.seq (.draw [qk (qm 21 0),qk (qo 22 (.nilc (.t 21))),qk (qf 23 0 22),qk (qf 24 3 23),qK (qL 25 8 24) 0,qk (qf 26 0 3),qK (qL 27 2 26) 0,qk (qf 28 2 3),qK (qL 29 2 28) 0,(qc 30 62 [.t 25,.t 27,.t 29],.anchor),qk (qm 20 30),qk (qe 31 0 20),qk (
  qe 32 1 20),(qo 7 (.new 28 [qZ,qZ,qZ,qZ,qZ,qZ,qZ,qZ]),.new),(qS 8 7 31,.anchor),qk (qm 8 32)]) (qq [qm 33 8,qC 34 .eql 33 0,qm 35 34,qg 36 (.mv (.t 0)) 35 true,qg 37 (.nilc (.t 36)) 35 true,qg 38 (.fad 0 (.t 37)) 35 true,qg 39 (.fad 1 (.t 38)) 35 true,qg 40 (.ld1 (.t 39)) 35 true,qg 41 (
  .mkf 64 [] [.t 7]) 35 true,qg 42 (.call (.c (.func (.func 63) [] [])) [.t 40,.t 41]) 35 true,qg 43 (.un .not (.t 42)) 35 true,qo 44 (.pick (.t 35) (.t 43) (.c (.bool false))),qm 5 44] (.draw [qk (qm 45 0),qk (qo 46 (.nilc (.t 45))),qk (qf 47 17 46),qK (ql 48 47) 0,qK (qL 49 4 3) 0,qk (qm 50 5),(
  ⟨none,.mset 98 (.t 48) (.t 49) (.t 50),none⟩,.anchor)]))) (.skip))) (qq [qm 51 5,qm 4 51] (.ret)))),[.tmp 4]⟩
def xq50 : XF := ⟨34,qq [qf 6 0 1,ql 7 6,qo 8 (.nilc (.t 7)),qf 9 0 8,qf 10 0 9,ql 11 10,qn 12 11,qi 13 0] (.block 0 (.loop (qq [qB 14 .lss 13 12] (.seq (.cond (.t 14) (.skip) (.exit 0)) (.seq (.block 1 (qq [qm 15 13,qm 4 15] (qq [qi 16 0] (.block 2 (.loop (qq [qC 17 .lss 16 2] (.seq (.cond (.t 17) (.skip) (
  .exit 2)) (.seq (.block 3 (qq [qm 18 16,qm 5 18] (.seq (.draw [qK (ql 19 2) 0,qk (qm 20 4),qk (qo 21 (.bin .shl (.c (.int .i64 1)) (.t 20))),qk (qB 22 .and 19 21),qk (qC 23 .neq 22 0),qk (qm 24 23),qk (qg 25 (.mv (.t 0)) 24 true),qk (qg 26 (.mv (.t 4)) 24 true),qk (qg 27 (.mv (.t 5)) 24 true),qk (
  qg 28 (.build [qZ,qZ] [(0,1,(.t 26)),(1,1,(.t 27))]) 24 true),(qg 29 (.call (.t 25) [.t 28]) 24 true,.anchor),qk (qg 30 (.un .not (.t 29)) 24 true),qk (qo 31 (.pick (.t 24) (.t 30) (.c (.bool false))))]) (.cond (.t 31) (.ret) (.skip))))) (.ops [qC 32 .add 16 1,qm 16 32]))))))))) (
  .ops [qC 33 .add 13 1,qm 13 33])))))),[]⟩
def xq51 : XF := ⟨35,qq [qb 3 45 1,qo 4 (.new 88 [qZ,qZ,qZ]),qo 5 (.new 88 [qZ,qZ,qZ])] (qq [qm 8 0,qL 9 2 3,qc 10 58 [.t 8,.t 9],qo 6 (.new 98 [qZ,qZ,qZ,qZ]),qS 4 6 10] (qq [qf 11 2 6,qf 12 0 11,ql 13 12,qf 14 0 6,qf 15 0 14,ql 16 15,qB 17 .sub 13 16,qf 18 2 6,qf 19 1 18,ql 20 19,qf 21 0 6,qf 22 1 21,ql 23 22,
  qB 24 .sub 20 23,qo 25 (.build [qZ,qZ] [(0,1,(.t 17)),(1,1,(.t 24))]),qc 26 18 [.t 25],qm 7 26] (.seq (.draw [qk (qf 27 0 6),qK (qL 28 2 27) 0,qk (qm 29 7),qk (qo 30 (.build [qZ,qZ,qZ] [(0,2,(.t 28)),(2,1,(.t 29))])),qk (qf 31 2 6),qK (qL 32 2 31) 1,qk (qm 33 7),qk (qo 34 (.build [qZ,qZ,qZ] [(0,2,(
  .t 32)),(2,1,(.t 33))])),(qS 3 4 30,.anchor),(qS 3 5 34,.anchor)]) (.ret)))),[.cellN 4 3,.cellN 5 3]⟩
def xq52 : XF := ⟨18,qq [qb 1 30 0,qi 2 0] (.seq (qq [qf 5 0 1,ql 6 5,qf 7 1 1,ql 8 7,qo 9 (.build [qZ,qZ] [(0,1,(.t 6)),(1,1,(.t 8))]),qi 10 0] (.block 0 (.loop (qq [qC 11 .lss 10 2] (.seq (.cond (.t 11) (.skip) (.exit 0)) (.seq (.block 1 (qq [qo 12 (.idx 2 1 false (.t 9) (.t 10)),qm 4 12] (qq [qm 13 4,qc 14 66 [(
  .c (.int .i64 32768)),.t 13],qm 15 4,qB 16 .neq 14 15] (.cond (.t 16) (qq [qi 2 10] (.ret)) (.skip))))) (.ops [qC 17 .add 10 1,qm 10 17]))))))) (qq [qi 2 0] (.ret))),[.tmp 2]⟩
def xq53 : XF := ⟨9,qq [qi 2 0,qi 3 0] (.seq (qq [qm 4 0,qc 5 67 [.t 4,(.c qZ),(.c (.int .i64 1099511627776))],qo 6 (.un .not (.t 5))] (.cond (.t 6) (qq [qi 2 0,qi 3 7] (.ret)) (.skip))) (qq [qm 7 0,qc 8 68 [.t 7],qm 2 8,qi 3 0] (.ret))),[.tmp 2,.tmp 3]⟩
def xq54 : XF := ⟨6,qq [qb 1 35 0,qi 2 0] (.seq (qq [qL 3 17 1,qc 4 69 [.t 3],qo 5 (.un .not (.t 4))] (.cond (.t 5) (qq [qi 2 40] (.ret)) (.skip))) (qq [qi 2 0] (.ret))),[.tmp 2]⟩
def xq55 : XF := ⟨20,qq [qb 3 128 1,qo 4 (.new 105 [qN,qZ]),qo 5 (.new 4 [(.bool false)])] (.seq (qq [qm 7 0] (.block 0 (.rfun (.t 7) [8] (.ops [qo 6 (.new 105 [qN,qZ]),qS 2 6 8]) (.block 1 (qq [ql 9 5,qo 10 (.un .not (.t 9)),qm 11 10,qg 12 (.ld1 (.t 3)) 11 false,qg 13 (.ldN 2 (.t 6)) 11 false,qg 14 (.ldN 2 (
  .t 4)) 11 false,qg 15 (.call (.t 12) [.t 13,.t 14]) 11 false,qo 16 (.pick (.t 11) (.c (.bool true)) (.t 15))] (.cond (.t 16) (.ops [qL 17 2 6,qS 2 4 17,⟨none,.st 1 (.t 5) (.c (.bool true)),none⟩]) (.skip))))))) (.seq (.draw [qK (qL 18 2 4) 0,qK (ql 19 5) 1,(qS 2 4 18,.anchor),(qS 1 5 19,.anchor)]) (
  .ret))),[.cellN 4 2,.cell1 5]⟩
def xq56 : XF := ⟨8,qq [qb 3 74 0,qb 4 88 1,qb 5 88 2,qo 6 (.mv (.c .nilFunc))] (qq [qo 7 (.mkf 70 [] [.t 3,.t 4,.t 5]),qm 6 7] (.ret)),[.tmp 6]⟩
def xq57 : XF := ⟨37,qq [qb 2 105 0,qb 3 105 1,qo 4 (.mv (.c (.bool false)))] (.seq (.block 0 (qq [qf 6 1 2,ql 7 6,qf 8 1 3,ql 9 8,qB 10 .neq 7 9,qm 5 10] (.cond (.t 5) (qq [qf 11 1 2,ql 12 11,qf 13 1 3,ql 14 13,qB 15 .lss 12 14,qm 4 15] (.ret)) (qq [qf 17 0 2,ql 18 17,qn 19 18,qf 20 0 3,ql 21 20,qn 22 21,
  qB 23 .neq 19 22,qm 16 23] (.cond (.t 16) (qq [qf 24 0 2,ql 25 24,qn 26 25,qf 27 0 3,ql 28 27,qn 29 28,qB 30 .lss 26 29,qm 4 30] (.ret)) (.skip)))))) (qq [qf 31 0 2,ql 32 31,qf 33 0 3,ql 34 33,qo 35 (.call (.c (.func (.func 75) [] [])) [.t 32,.t 34,(.c (.func (.func 76) [] []))]),qC 36 .lss 35 0,
  qm 4 36] (.ret))),[.tmp 4]⟩
def xq58 : XF := ⟨28,qq [qb 3 45 1,qo 4 (.new 98 [qZ,qZ,qZ,qZ])] (.seq (.draw [qk (qm 6 0),qk (qo 7 (.nilc (.t 6))),qk (qf 8 0 7),qk (qf 9 0 8),qK (ql 10 9) 0,qk (qf 11 0 3),qK (ql 12 11) 0,qk (qa 13 4 10 12),qK (qL 14 4 13) 0,(qo 5 (.new 56 [qZ,qZ,qZ,qZ]),.new),(qS 4 5 14,.anchor)]) (.seq (qq [qf 15 1 3,ql 16 15,
  qC 17 .eql 16 1] (.cond (.t 17) (qq [qf 18 2 5,qL 19 2 18,qf 20 0 5,qL 21 2 20,qo 22 (.build [qZ,qZ,qZ,qZ] [(0,2,(.t 19)),(2,2,(.t 21))]),qS 4 4 22] (.ret)) (.skip))) (qq [qf 23 0 5,qL 24 2 23,qf 25 2 5,qL 26 2 25,qo 27 (.build [qZ,qZ,qZ,qZ] [(0,2,(.t 24)),(2,2,(.t 26))]),qS 4 4 27] (.ret)))),
  [.cellN 4 4]⟩
def xq60 : XF := ⟨30,qq [qb 5 112 0] (qq [qL 9 2 1,ql 10 2,ql 11 3,qL 12 2 4,qc 13 61 [.t 9,.t 10,.t 11,.t 12]] (.block 0 (.rfun (.t 13) [14] (.ops [qo 6 (.new 90 [qZ,qZ,qZ,qZ]),qS 4 6 14]) (.block 1 (qq [qL 16 2 1,qL 17 4 6,qL 18 2 4,qc 19 29 [.t 16,.t 17,.t 18],qm 15 19,qe 20 0 15,qe 21 1 15,qo 7 (.new 26 [qZ,
  qZ]),qS 2 7 20,qm 8 21] (qq [qm 22 8,qm 23 22,qg 24 (.ld1 (.t 5)) 23 true,qg 25 (.fad 1 (.t 7)) 23 true,qg 26 (.ld1 (.t 25)) 23 true,qg 27 (.call (.t 24) [.t 26]) 23 true,qg 28 (.un .not (.t 27)) 23 true,qo 29 (.pick (.t 23) (.t 28) (.c (.bool false)))] (.cond (.t 29) (.ret) (.skip)))))))),[]⟩
def xq61 : XF := ⟨10,qq [qb 4 77 0,qb 5 46 1,qb 6 3 2,qb 7 45 3,qo 8 (.mv (.c .nilFunc))] (qq [qo 9 (.mkf 77 [] [.t 6,.t 7,.t 4,.t 5]),qm 8 9] (.ret)),[.tmp 8]⟩
def xq62 : XF := ⟨36,qq [qb 3 28 0,qb 4 30 1,qb 5 30 2,qo 6 (.new 28 [qZ,qZ,qZ,qZ,qZ,qZ,qZ,qZ]),qi 7 0] (qq [qL 12 8 3,qL 13 2 4,qc 14 78 [.t 12,.t 13],qm 11 14,qe 15 0 11,qe 16 1 11,qo 8 (.new 28 [qZ,qZ,qZ,qZ,qZ,qZ,qZ,qZ]),qS 8 8 15,qm 9 16] (.seq (qq [qm 17 9,qC 18 .neq 17 0] (.cond (.t 18) (qq [qo 19 (.build [qZ,
  qZ,qZ,qZ,qZ,qZ,qZ,qZ] []),qm 20 9,qS 8 6 19,qm 7 20] (.ret)) (.skip))) (qq [qL 22 8 3,qL 23 2 5,qc 24 78 [.t 22,.t 23],qm 21 24,qe 25 0 21,qe 26 1 21,qo 10 (.new 28 [qZ,qZ,qZ,qZ,qZ,qZ,qZ,qZ]),qS 8 10 25,qm 9 26] (.seq (qq [qm 27 9,qC 28 .neq 27 0] (.cond (.t 28) (qq [qo 29 (.build [qZ,qZ,qZ,qZ,qZ,
  qZ,qZ,qZ] []),qm 30 9,qS 8 6 29,qm 7 30] (.ret)) (.skip))) (qq [qL 31 8 8,qL 32 8 10,qc 33 79 [.t 31,.t 32],qe 34 0 33,qe 35 1 33,qS 8 6 34,qm 7 35] (.ret)))))),[.cellN 6 8,.tmp 7]⟩
def xq63 : XF := ⟨9,qq [qo 4 (.mv (.c (.bool false)))] (qq [qm 5 0,qm 6 1,qc 7 80 [.t 5,.t 6],qC 8 .geq 7 0,qm 4 8] (.ret)),[.tmp 4]⟩
def xq64 : XF := ⟨14,qq [qo 3 (.mv (.c (.bool false)))] (qq [qm 7 0,qL 8 8 1,qc 9 65 [.t 7,.t 8],qm 6 9,qe 10 0 6,qe 11 1 6,qo 4 (.new 30 [qZ,qZ]),qS 2 4 10,qm 5 11] (qq [qm 12 5,qC 13 .eql 12 0,qm 3 13] (.ret))),[.tmp 3]⟩
def xq65 : XF := ⟨87,qq [qb 2 24 0,qb 3 28 1,qo 4 (.new 30 [qZ,qZ]),qo 5 (.new 41 [qZ])] (.scope (.seq (.seq (.draw [qK (ql 12 2) 0,(qc 13 82 [.t 12],.anchor),qK (qL 14 8 3) 1,(qc 15 83 [.t 14],.anchor),(qo 16 (.bsl 41 1 2 [qZ] [(0,1,(.t 13)),(1,1,(.t 15))]),.new),(qc 17 81 [.t 16],.anchor),qk (qm 6 17)]) (
  qq [qm 18 6,qC 19 .neq 18 0] (.cond (.t 19) (qq [qo 20 (.build [qZ,qZ] []),qm 21 6,qS 2 4 20,qS 1 5 21] (.ret)) (.skip)))) (.seq (.skip) (.seq (qq [qL 22 8 3,qc 23 84 [.t 22],qc 24 85 [.t 23]] (.block 0 (.rfun (.t 24) [25] (.ops [qo 7 (.new 163 [qZ,qZ,qZ]),qS 3 7 25]) (.block 1 (.seq (qq [ql 26 2,
  qc 27 86 [.t 26]] (.block 2 (.rfun (.t 27) [28,29] (qq [qo 8 (.new 30 [qZ,qZ]),qS 2 8 28] (.ops [qo 9 (.new 30 [qZ,qZ]),qS 2 9 29])) (.block 3 (qq [qf 30 0 9,ql 31 30,qf 32 0 8,ql 33 32,qB 34 .sub 31 33,qm 10 34] (qq [qm 35 10,qf 36 1 8,ql 37 36,qB 38 .mul 35 37,qf 39 1 9,ql 40 39,qf 41 1 8,
  ql 42 41,qB 43 .sub 40 42,qf 44 0 7,ql 45 44,qf 46 0 8,ql 47 46,qB 48 .sub 45 47,qB 49 .mul 43 48,qB 50 .add 38 49,qm 11 50] (.block 4 (qq [qm 52 10,qC 53 .gtr 52 0,qm 51 53] (.cond (.t 51) (.draw [qk (qf 54 1 7),qK (ql 55 54) 0,qk (qm 56 11),qk (qm 57 10),(qc 58 87 [.t 56,.t 57],.new),qk (qo 59 (
  .max [.t 55,.t 58])),qk (qf 60 1 7),(qS 1 60 59,.anchor)]) (qq [qm 62 10,qC 63 .lss 62 0,qm 61 63] (.cond (.t 61) (.draw [qk (qf 64 2 7),qK (ql 65 64) 0,qk (qm 66 11),qk (qo 67 (.un .neg (.t 66))),qk (qm 68 10),qk (qo 69 (.un .neg (.t 68))),(qc 70 88 [.t 67,.t 69],.new),qk (qo 71 (.min [.t 65,
  .t 70])),qk (qf 72 2 7),(qS 1 72 71,.anchor)]) (qq [qm 74 11,qC 75 .gtr 74 0,qm 73 75] (.cond (.t 73) (.exit 1) (.skip)))))))))))))) (qq [qf 76 1 7,ql 77 76,qf 78 2 7,ql 79 78,qB 80 .leq 77 79] (.cond (.t 80) (qq [qf 81 0 7,ql 82 81,qf 83 1 7,ql 84 83,qo 85 (.build [qZ,qZ] [(0,1,(.t 82)),(1,1,(
  .t 84))]),qS 2 4 85,⟨none,.st 1 (.t 5) (.c qZ),none⟩] (.ret)) (.skip)))))))) (qq [qo 86 (.build [qZ,qZ] []),qS 2 4 86,⟨none,.st 1 (.t 5) (.c (.int .i64 4)),none⟩] (.ret)))))),[.cellN 4 2,.cell1 5]⟩
def xq66 : XF := ⟨11,qq [qi 4 0] (qq [qm 5 0,qo 6 (.un .neg (.t 5)),qm 7 1,qm 8 0,qo 9 (.min [.t 7,.t 8]),qo 10 (.max [.t 6,.t 9]),qm 4 10] (.ret)),[.tmp 4]⟩
def xq67 : XF := ⟨15,qq [qo 6 (.mv (.c (.bool false)))] (qq [qm 7 0,qm 8 1,qB 9 .geq 7 8,qm 10 9,qg 11 (.mv (.t 0)) 10 true,qg 12 (.mv (.t 2)) 10 true,qg 13 (.bin .leq (.t 11) (.t 12)) 10 true,qo 14 (.pick (.t 10) (.t 13) (.c (.bool false))),qm 6 14] (.ret)),[.tmp 6]⟩
def xq68 : XF := ⟨22,qq [qi 2 0] (qq [qi 3 0] (.seq (qq [qi 4 1048576] (.block 0 (.loop (.seq (qq [qm 5 4,qC 6 .gtr 5 0] (.cond (.t 6) (.skip) (.exit 0))) (.seq (.block 1 (qq [qm 9 3,qm 10 4,qB 11 .add 9 10,qm 12 3,qm 13 4,qB 14 .add 12 13,qB 15 .mul 11 14,qm 16 0,qB 17 .leq 15 16] (.cond (.t 17) (.ops [qm 18 3,
  qm 19 4,qB 20 .add 18 19,qm 3 20]) (.skip)))) (.ops [qm 7 4,qC 8 .quo 7 2,qm 4 8])))))) (qq [qm 21 3,qm 2 21] (.ret)))),[.tmp 2]⟩
def xq69 : XF := ⟨121,qq [qb 1 35 0,qo 2 (.mv (.c (.bool false)))] (.seq (qq [qf 7 0 1,ql 8 7,qn 9 8,qc 10 36 [.t 9,(.c (.int .i64 1)),(.c (.int .i64 5))],qo 11 (.un .not (.t 10)),qm 12 11,qg 13 (.fad 1 (.t 1)) 12 false,qg 14 (.ld1 (.t 13)) 12 false,qg 15 (.len .sl (.t 14)) 12 false,qg 16 (.bin .gtr (.t 15) (.c (
  .int .i64 4))) 12 false,qo 17 (.pick (.t 12) (.c (.bool true)) (.t 16)),qm 18 17,qg 19 (.fad 2 (.t 1)) 18 false,qg 20 (.ld1 (.t 19)) 18 false,qg 21 (.len .sl (.t 20)) 18 false,qg 22 (.bin .gtr (.t 21) (.c (.int .i64 4))) 18 false,qo 23 (.pick (.t 18) (.c (.bool true)) (.t 22)),qm 24 23,qg 25 (
  .fad 16 (.t 1)) 24 false,qg 26 (.ld1 (.t 25)) 24 false,qg 27 (.len .sl (.t 26)) 24 false,qg 28 (.fad 0 (.t 1)) 24 false,qg 29 (.ld1 (.t 28)) 24 false,qg 30 (.len .sl (.t 29)) 24 false,qg 31 (.bin .neq (.t 27) (.t 30)) 24 false,qo 32 (.pick (.t 24) (.c (.bool true)) (.t 31))] (.cond (.t 32) (
  qq [qo 2 (.mv (.c (.bool false)))] (.ret)) (.skip))) (.seq (qq [qf 33 0 1,ql 34 33,qn 35 34,qi 36 0] (.block 0 (.loop (qq [qB 37 .lss 36 35] (.seq (.cond (.t 37) (.skip) (.exit 0)) (.seq (.block 1 (qq [qm 38 36,qa 39 4 34 36,qL 40 4 39,qo 4 (.new 56 [qZ,qZ,qZ,qZ]),qm 3 38,qS 4 4 40] (qq [qf 41 0 4,
  qL 42 2 41,qc 43 52 [.t 42],qC 44 .neq 43 0,qm 45 44,qg 46 (.fad 2 (.t 4)) 45 false,qg 47 (.ldN 2 (.t 46)) 45 false,qg 48 (.call (.c (.func (.func 52) [] [])) [.t 47]) 45 false,qg 49 (.bin .neq (.t 48) (.c qZ)) 45 false,qo 50 (.pick (.t 45) (.c (.bool true)) (.t 49)),qm 51 50,qg 52 (.fad 0 (
  .t 4)) 51 false,qg 53 (.ldN 2 (.t 52)) 51 false,qg 54 (.fad 2 (.t 4)) 51 false,qg 55 (.ldN 2 (.t 54)) 51 false,qg 56 (.eqs false 2 [0,1] (.t 53) (.t 55)) 51 false,qo 57 (.pick (.t 51) (.c (.bool true)) (.t 56)),qm 58 57,qg 59 (.fad 16 (.t 1)) 58 false,qg 60 (.ld1 (.t 59)) 58 false,qg 61 (.mv (
  .t 3)) 58 false,qg 62 (.iad none 1 (.t 60) (.t 61)) 58 false,qg 63 (.ld1 (.t 62)) 58 false,qg 64 (.call (.c (.func (.func 89) [] [])) [.t 63]) 58 false,qg 65 (.un .not (.t 64)) 58 false,qo 66 (.pick (.t 58) (.c (.bool true)) (.t 65))] (.cond (.t 66) (qq [qo 2 (.mv (.c (.bool false)))] (.ret)) (
  .skip))))) (.ops [qC 67 .add 36 1,qm 36 67]))))))) (.seq (qq [qf 68 1 1,ql 69 68,qo 70 (.call (.c (.func (.func 63) [] [])) [.t 69,(.c (.func (.func 90) [] []))]),qm 71 70,qg 72 (.fad 2 (.t 1)) 71 false,qg 73 (.ld1 (.t 72)) 71 false,qg 74 (.call (.c (.func (.func 91) [] [])) [.t 73,(.c (.func (
  .func 92) [] []))]) 71 false,qo 75 (.pick (.t 71) (.c (.bool true)) (.t 74))] (.cond (.t 75) (qq [qo 2 (.mv (.c (.bool false)))] (.ret)) (.skip))) (.seq (qq [qf 77 3 1,qL 78 8 77,qc 79 93 [.t 78],qm 76 79,qe 80 0 76,qe 81 1 76,qo 5 (.new 28 [qZ,qZ,qZ,qZ,qZ,qZ,qZ,qZ]),qS 8 5 80,qm 6 81] (qq [qm 82 6,
  qC 83 .neq 82 0,qm 84 83,qg 85 (.fad 3 (.t 1)) 84 false,qg 86 (.fad 0 (.t 85)) 84 false,qg 87 (.fad 1 (.t 86)) 84 false,qg 88 (.ld1 (.t 87)) 84 false,qg 89 (.fad 3 (.t 1)) 84 false,qg 90 (.fad 0 (.t 89)) 84 false,qg 91 (.fad 0 (.t 90)) 84 false,qg 92 (.ld1 (.t 91)) 84 false,qg 93 (.bin .sub (
  .t 88) (.t 92)) 84 false,qg 94 (.bin .gtr (.t 93) (.c (.int .i64 256))) 84 false,qo 95 (.pick (.t 84) (.c (.bool true)) (.t 94)),qm 96 95,qg 97 (.fad 3 (.t 1)) 96 false,qg 98 (.fad 2 (.t 97)) 96 false,qg 99 (.fad 1 (.t 98)) 96 false,qg 100 (.ld1 (.t 99)) 96 false,qg 101 (.fad 3 (.t 1)) 96 false,
  qg 102 (.fad 2 (.t 101)) 96 false,qg 103 (.fad 0 (.t 102)) 96 false,qg 104 (.ld1 (.t 103)) 96 false,qg 105 (.bin .sub (.t 100) (.t 104)) 96 false,qg 106 (.bin .gtr (.t 105) (.c (.int .i64 256))) 96 false,qo 107 (.pick (.t 96) (.c (.bool true)) (.t 106))] (.cond (.t 107) (qq [qo 2 (.mv (.c (
  .bool false)))] (.ret)) (.skip)))) (qq [qf 108 11 1,qL 109 3 108,qc 110 39 [.t 109],qm 111 110,qg 112 (.fad 14 (.t 1)) 111 true,qg 113 (.ld1 (.t 112)) 111 true,qg 114 (.call (.c (.func (.func 36) [] [])) [.t 113,(.c (.int .i64 1)),(.c (.int .i64 1000))]) 111 true,qo 115 (.pick (.t 111) (.t 114) (
  .c (.bool false))),qm 116 115,qg 117 (.fad 15 (.t 1)) 116 true,qg 118 (.ld1 (.t 117)) 116 true,qg 119 (.call (.c (.func (.func 36) [] [])) [.t 118,(.c qZ),(.c (.int .i64 1000))]) 116 true,qo 120 (.pick (.t 116) (.t 119) (.c (.bool false))),qm 2 120] (.ret)))))),[.tmp 2]⟩
def xq70 : XF := ⟨27,qq [qb 4 129 0] (qq [qo 7 (.mkf 71 [] [.t 1,.t 2,.t 3,.t 4]),qo 5 (.new 140 [.nilFunc]),qS 1 5 7] (.seq (qq [qf 8 0 2,qL 9 2 8,qf 10 0 3,qL 11 2 10,qo 12 (.eqs false 2 [0,1] (.t 9) (.t 11)),qm 13 12,qg 14 (.ld1 (.t 5)) 13 true,qg 15 (.fad 0 (.t 2)) 13 true,qg 16 (.ldN 2 (.t 15)) 13 true,qg 17 (
  .bsl 30 2 1 [qZ,qZ] [(0,2,(.t 16))]) 13 true,qg 18 (.call (.t 14) [.t 17]) 13 true,qg 19 (.un .not (.t 18)) 13 true,qo 20 (.pick (.t 13) (.t 19) (.c (.bool false)))] (.cond (.t 20) (.ret) (.skip))) (qq [qo 6 (.new 147 [.nilFunc])] (qq [qo 21 (.mkf 74 [] [.t 5,.t 3,.t 1,.t 6]),qS 1 6 21] (
  .ops [ql 22 6,qf 23 0 2,qL 24 2 23,qo 25 (.bsl 30 2 1 [qZ,qZ] [(0,2,(.t 24))]),qo 26 (.call (.t 22) [.t 25,(.c qZ)])]))))),[]⟩
def xq71 : XF := ⟨29,qq [qo 6 (.mv (.c (.bool false)))] (qq [ql 10 1,qm 11 0,qf 12 2 2,ql 13 12,qf 14 2 3,ql 15 14,qc 16 72 [.t 10,.t 11,.t 13,.t 15],qm 9 16,qe 17 0 9,qe 18 1 9,qm 7 17,qm 8 18] (.seq (.draw [qk (qm 19 8),qk (qo 20 (.un .not (.t 19))),qk (qm 21 20),qK (qg 22 (.ld1 (.t 4)) 21 false) 1,qk (qg 23 (
  .mv (.t 0)) 21 false),(qg 24 (.call (.c (.func (.func 73) [] [])) [.t 23]) 21 false,.anchor),qk (qg 25 (.mv (.t 7)) 21 false),qk (qg 26 (.build [qN,qZ] [(0,1,(.t 24)),(1,1,(.t 25))]) 21 false),(qg 27 (.call (.t 22) [.t 26]) 21 false,.anchor),qk (qo 28 (.pick (.t 21) (.c (.bool true)) (.t 27))),qk (
  qm 6 28)]) (.ret))),[.tmp 6]⟩
def xq72 : XF := ⟨84,qq [qi 8 0,qo 9 (.mv (.c (.bool false)))] (qq [qi 10 0] (.seq (qq [qi 11 1] (.block 0 (.loop (.seq (qq [qm 14 11,qm 15 1,qn 16 15,qB 17 .lss 14 16] (.cond (.t 17) (.skip) (.exit 0))) (.seq (.block 1 (.seq (.draw [qk (qm 20 1),qk (qm 21 11),qk (qC 22 .sub 21 1),qk (qa 23 2 20 22),qK (
  qL 24 2 23) 0,qk (qm 25 1),qk (qm 26 11),qk (qa 27 2 25 26),qK (qL 28 2 27) 0,qk (qo 29 (.build [qZ,qZ,qZ,qZ] [(0,2,(.t 24)),(2,2,(.t 28))])),(qo 12 (.new 98 [qZ,qZ,qZ,qZ]),.new),(qS 4 12 29,.anchor)]) (.seq (qq [qf 30 0 12,qL 31 2 30,qf 32 2 12,qL 33 2 32,qo 34 (.eqs false 2 [0,1] (.t 31) (.t 33)),
  qm 35 34,qg 36 (.mv (.t 0)) 35 false,qg 37 (.ldN 4 (.t 12)) 35 false,qg 38 (.call (.c (.func (.func 49) [] [])) [.t 36,.t 37]) 35 false,qg 39 (.un .not (.t 38)) 35 false,qo 40 (.pick (.t 35) (.c (.bool true)) (.t 39))] (.cond (.t 40) (qq [qi 8 0,qo 9 (.mv (.c (.bool false)))] (.ret)) (.skip))) (
  qq [qf 41 2 12,qf 42 0 41,ql 43 42,qf 44 0 12,qf 45 0 44,ql 46 45,qB 47 .sub 43 46,qf 48 2 12,qf 49 1 48,ql 50 49,qf 51 0 12,qf 52 1 51,ql 53 52,qB 54 .sub 50 53,qo 55 (.build [qZ,qZ] [(0,1,(.t 47)),(1,1,(.t 54))]),qc 56 18 [.t 55],qm 13 56] (.seq (.draw [qk (qm 57 10),qk (qm 58 0),qK (
  qL 59 4 12) 0,(qc 60 35 [.t 58,.t 59],.anchor),qk (qm 61 0),qk (qo 62 (.nilc (.t 61))),qk (qf 63 0 62),qk (qf 64 15 63),qK (ql 65 64) 1,qk (qm 66 2),qk (qm 67 13),(qc 68 37 [.t 66,.t 67],.new),qk (qB 69 .mul 65 68),qk (qB 70 .add 60 69),qk (qB 71 .add 57 70),qk (qm 10 71)]) (.ops [qm 72 13,
  qm 2 72])))))) (.ops [qm 18 11,qC 19 .add 18 1,qm 11 19])))))) (.seq (.draw [qk (qm 73 10),qk (qm 74 0),qk (qo 75 (.nilc (.t 74))),qk (qf 76 0 75),qk (qf 77 15 76),qK (ql 78 77) 0,qk (qm 79 2),qk (qm 80 3),(qc 81 37 [.t 79,.t 80],.new),qk (qB 82 .mul 78 81),qk (qB 83 .add 73 82),qk (qm 8 83),qk (
  qo 9 (.mv (.c (.bool true))))]) (.ret)))),[.tmp 8,.tmp 9]⟩
def xq73 : XF := ⟨8,qq [qo 2 (.mv (.c qN))] (.seq (qq [qm 3 0,qo 4 (.eqg false 24 (.t 3) (.c qN))] (.cond (.t 4) (qq [qo 2 (.mv (.c qN))] (.ret)) (.skip))) (qq [qo 5 (.bsl 30 2 0 [qZ,qZ] []),qm 6 0,qo 7 (.app 30 2 16 [qZ,qZ] (.t 5) (.t 6)),qm 2 7] (.ret))),[.tmp 2]⟩
def xq74 : XF := ⟨51,qq [qo 8 (.mv (.c (.bool false)))] (.seq (.seq (.draw [qK (ql 11 2) 2,qk (qm 12 0),(qc 13 73 [.t 12],.anchor),qk (qf 14 0 3),qK (qL 15 2 14) 1,(qo 16 (.bsl 30 2 1 [qZ,qZ] [(0,2,(.t 15))]),.new),(qo 17 (.app 30 2 16 [qZ,qZ] (.t 13) (.t 16)),.anchor),(qo 18 (.call (.t 11) [.t 17]),.anchor),qk (
  qo 19 (.un .not (.t 18)))]) (.cond (.t 19) (qq [qo 8 (.mv (.c (.bool false)))] (.ret)) (.skip))) (.seq (qq [ql 20 4,qo 21 (.nilc (.t 20)),qf 22 0 21,qf 23 2 22,ql 24 23,qn 25 24,qi 26 0] (.block 0 (.loop (qq [qB 27 .lss 26 25] (.seq (.cond (.t 27) (.skip) (.exit 0)) (.seq (.block 1 (qq [qm 28 26,
  qa 29 2 24 26,qL 30 2 29,qo 10 (.new 30 [qZ,qZ]),qm 9 28,qS 2 10 30] (.seq (.draw [qk (qm 31 1),qk (qm 32 9),qk (qo 33 (.bin .shl (.c (.int .i64 1)) (.t 32))),qk (qB 34 .and 31 33),qk (qC 35 .eql 34 0),qk (qm 36 35),qK (qg 37 (.ld1 (.t 5)) 36 true) 2,qk (qg 38 (.mv (.t 0)) 36 true),(qg 39 (.call (
  .c (.func (.func 73) [] [])) [.t 38]) 36 true,.anchor),qK (qg 40 (.ldN 2 (.t 10)) 36 true) 1,(qg 41 (.bsl 30 2 1 [qZ,qZ] [(0,2,(.t 40))]) 36 true,.new),(qg 42 (.app 30 2 16 [qZ,qZ] (.t 39) (.t 41)) 36 true,.anchor),qk (qg 43 (.mv (.t 1)) 36 true),qk (qg 44 (.mv (.t 9)) 36 true),qk (qg 45 (
  .bin .shl (.c (.int .i64 1)) (.t 44)) 36 true),qk (qg 46 (.bin .or (.t 43) (.t 45)) 36 true),(qg 47 (.call (.t 37) [.t 42,.t 46]) 36 true,.anchor),qk (qg 48 (.un .not (.t 47)) 36 true),qk (qo 49 (.pick (.t 36) (.t 48) (.c (.bool false))))]) (.cond (.t 49) (qq [qo 8 (.mv (.c (.bool false)))] (
  .ret)) (.skip))))) (.ops [qC 50 .add 26 1,qm 26 50]))))))) (qq [qo 8 (.mv (.c (.bool true)))] (.ret)))),[.tmp 8]⟩
def xq75 : XF := ⟨39,qq [qi 6 0] (.seq (qq [qm 11 0,qn 12 11,qi 13 0] (.block 0 (.loop (qq [qB 14 .lss 13 12] (.seq (.cond (.t 14) (.skip) (.exit 0)) (.seq (.block 1 (qq [qm 15 13,qa 16 2 11 13,qL 17 2 16,qo 8 (.new 30 [qZ,qZ]),qm 7 15,qS 2 8 17] (.seq (qq [qm 18 7,qm 19 1,qn 20 19,qB 21 .geq 18 20] (.cond (.t 21) (
  qq [qi 6 1] (.ret)) (.skip))) (qq [qm 22 1,qm 23 7,qa 24 2 22 23,qL 25 2 24,qo 9 (.new 30 [qZ,qZ]),qS 2 9 25] (qq [qm 26 2,qL 27 2 8,qL 28 2 9,qo 29 (.call (.t 26) [.t 27,.t 28]),qm 10 29] (qq [qm 30 10,qC 31 .neq 30 0] (.cond (.t 31) (qq [qm 32 10,qm 6 32] (.ret)) (.skip)))))))) (
  .ops [qC 33 .add 13 1,qm 13 33]))))))) (.seq (qq [qm 34 0,qn 35 34,qm 36 1,qn 37 36,qB 38 .lss 35 37] (.cond (.t 38) (qq [qi 6 (-1)] (.ret)) (.skip))) (qq [qi 6 0] (.ret)))),[.tmp 6]⟩
def xq76 : XF := ⟨20,qq [qb 2 30 0,qb 3 30 1,qi 4 0] (.seq (qq [qf 5 0 2,ql 6 5,qf 7 0 3,ql 8 7,qB 9 .neq 6 8] (.cond (.t 9) (qq [qf 10 0 2,ql 11 10,qf 12 0 3,ql 13 12,qB 14 .sub 11 13,qm 4 14] (.ret)) (.skip))) (qq [qf 15 1 2,ql 16 15,qf 17 1 3,ql 18 17,qB 19 .sub 16 18,qm 4 19] (.ret))),[.tmp 4]⟩
def xq77 : XF := ⟨50,qq [qb 5 150 0] (.seq (.draw [qK (ql 9 1) 0,qk (qf 10 0 2),qK (ql 11 10) 0,qk (qo 12 (.bin .shl (.c (.int .i64 1)) (.t 11))),qk (qB 13 .andNot 9 12),(qo 6 (.new 3 [qZ]),.new),(qS 1 6 13,.anchor)]) (.seq (qq [ql 14 6,qC 15 .eql 14 0] (.cond (.t 15) (.seq (.draw [qK (ql 16 5) 1,qK (qL 17 2 3) 0,(
  qc 18 32 [.t 17],.anchor),(qo 19 (.call (.t 16) [.t 18]),.anchor)]) (.ret)) (.skip))) (.seq (.draw [qK (qL 20 2 3) 0,qk (qf 21 0 3),qK (ql 22 21) 0,qk (qo 23 (.nilc (.t 22))),qk (qf 24 0 23),qk (qf 25 0 24),qK (ql 26 25) 0,qk (qn 27 26),qk (qo 28 (.bin .shl (.c (.int .i64 1)) (.t 27))),qk (
  qC 29 .sub 28 1),(qc 30 26 [.t 20,.t 29],.anchor)]) (.block 0 (.rfun (.t 30) [31] (.ops [qo 7 (.new 45 [qZ,qZ]),qS 2 7 31]) (.block 1 (.seq (.draw [qK (ql 32 4) 1,qK (qL 33 2 3) 0,qK (ql 34 6) 0,qK (qL 35 2 7) 0,(qc 36 27 [.t 33,.t 34,.t 35],.anchor),qk (qa 37 1 32 36),(ql 38 37,.reads 1 1),qk (
  qm 8 38)]) (.seq (.draw [qk (qm 39 8),qk (qC 40 .neq 39 (-1)),qk (qm 41 40),qK (qg 42 (.ld1 (.t 5)) 41 true) 1,qK (qg 43 (.ldN 2 (.t 3)) 41 true) 0,qK (qg 44 (.ldN 2 (.t 7)) 41 true) 0,qk (qg 45 (.mv (.t 8)) 41 true),(qg 46 (.call (.c (.func (.func 31) [] [])) [.t 43,.t 44,.t 45]) 41 true,.anchor),(
  qg 47 (.call (.t 42) [.t 46]) 41 true,.anchor),qk (qg 48 (.un .not (.t 47)) 41 true),qk (qo 49 (.pick (.t 41) (.t 48) (.c (.bool false))))]) (.cond (.t 49) (.ret) (.skip)))))))))),[]⟩
def xq78 : XF := ⟨47,qq [qb 2 28 0,qb 3 30 1,qo 4 (.new 28 [qZ,qZ,qZ,qZ,qZ,qZ,qZ,qZ]),qi 5 0] (.seq (qq [qL 9 8 2,qc 10 83 [.t 9],qm 6 10] (qq [qm 11 6,qC 12 .neq 11 0] (.cond (.t 12) (qq [qo 13 (.build [qZ,qZ,qZ,qZ,qZ,qZ,qZ,qZ] []),qm 14 6,qS 8 4 13,qm 5 14] (.ret)) (.skip)))) (.seq (.seq (.draw [qk (qf 15 0 3),
  qK (ql 16 15) 0,(qc 17 66 [(.c (.int .i64 65536)),.t 16],.new),qk (qf 18 0 3),qK (ql 19 18) 0,qk (qB 20 .neq 17 19),qk (qm 21 20),qk (qg 22 (.fad 1 (.t 3)) 21 false),qK (qg 23 (.ld1 (.t 22)) 21 false) 0,(qg 24 (.call (.c (.func (.func 66) [] [])) [(.c (.int .i64 65536)),.t 23]) 21 false,.new),qk (
  qg 25 (.fad 1 (.t 3)) 21 false),qK (qg 26 (.ld1 (.t 25)) 21 false) 0,qk (qg 27 (.bin .neq (.t 24) (.t 26)) 21 false),qk (qo 28 (.pick (.t 21) (.c (.bool true)) (.t 27)))]) (.cond (.t 28) (qq [qo 29 (.build [qZ,qZ,qZ,qZ,qZ,qZ,qZ,qZ] []),qS 8 4 29,qi 5 7] (.ret)) (.skip))) (qq [qL 31 8 2,
  qc 32 84 [.t 31],qc 33 94 [.t 32],qm 30 33,qe 34 0 30,qe 35 1 30,qo 7 (.new 159 [qZ,qZ,qZ,qZ,qZ,qZ,qZ,qZ]),qS 8 7 34,qm 8 35] (.seq (qq [qm 36 8,qC 37 .neq 36 0] (.cond (.t 37) (qq [qo 38 (.build [qZ,qZ,qZ,qZ,qZ,qZ,qZ,qZ] []),qm 39 8,qS 8 4 38,qm 5 39] (.ret)) (.skip))) (.seq (.draw [qK (
  qL 40 8 7) 1,qK (qL 41 2 3) 0,(qc 42 97 [.t 41],.anchor),(qo 43 (.call (.c (.func (.func 96) [] [])) [.t 40,.t 42,(.c (.func (.func 98) [] []))]),.anchor),(qc 44 95 [.t 43],.anchor),qk (qe 45 0 44),qk (qe 46 1 44),(qS 8 4 45,.anchor),qk (qm 5 46)]) (.ret)))))),[.cellN 4 8,.tmp 5]⟩
def xq79 : XF := ⟨35,qq [qb 2 28 0,qb 3 28 1,qo 4 (.new 28 [qZ,qZ,qZ,qZ,qZ,qZ,qZ,qZ]),qi 5 0] (.seq (.seq (.draw [qK (qL 9 8 2) 0,(qc 10 83 [.t 9],.anchor),qK (qL 11 8 3) 1,(qc 12 83 [.t 11],.anchor),(qo 13 (.bsl 41 1 2 [qZ] [(0,1,(.t 10)),(1,1,(.t 12))]),.new),(qc 14 81 [.t 13],.anchor),qk (qm 6 14)]) (qq [qm 15 6,
  qC 16 .neq 15 0] (.cond (.t 16) (qq [qo 17 (.build [qZ,qZ,qZ,qZ,qZ,qZ,qZ,qZ] []),qm 18 6,qS 8 4 17,qm 5 18] (.ret)) (.skip)))) (.seq (.draw [qK (qL 20 8 2) 0,(qc 21 84 [.t 20],.anchor),(qc 22 100 [.t 21],.anchor),qK (qL 23 8 3) 2,(qc 24 84 [.t 23],.anchor),(qc 25 100 [.t 24],.anchor),(qo 26 (
  .bsl 177 1 2 [.nilFunc] [(0,1,(.t 22)),(1,1,(.t 25))]),.new),(qc 27 99 [.t 26],.anchor),qk (qm 19 27),qk (qe 28 0 19),qk (qe 29 1 19),(qo 7 (.new 159 [qZ,qZ,qZ,qZ,qZ,qZ,qZ,qZ]),.new),(qS 8 7 28,.anchor),qk (qm 8 29)]) (.seq (qq [qm 30 8,qo 31 (.un .not (.t 30))] (.cond (.t 31) (qq [qo 32 (
  .build [qZ,qZ,qZ,qZ,qZ,qZ,qZ,qZ] []),qS 8 4 32,qi 5 4] (.ret)) (.skip))) (qq [qL 33 8 7,qc 34 101 [.t 33],qS 8 4 34,qi 5 0] (.ret))))),[.cellN 4 8,.tmp 5]⟩
def xq80 : XF := ⟨19,qq [qi 4 0] (.seq (qq [qm 6 0,qn 7 6,qi 8 0] (.block 0 (.loop (qq [qB 9 .lss 8 7] (.seq (.cond (.t 9) (.skip) (.exit 0)) (.seq (.block 1 (qq [qm 10 8,qm 5 10] (qq [qm 11 1,qm 12 0,qm 13 5,qa 14 1 12 13,ql 15 14,qo 16 (.call (.t 11) [.t 15])] (.cond (.t 16) (qq [qm 17 5,qm 4 17] (.ret)) (
  .skip))))) (.ops [qC 18 .add 8 1,qm 8 18]))))))) (qq [qi 4 (-1)] (.ret))),[.tmp 4]⟩
def xq81 : XF := ⟨15,qq [qi 2 0] (.seq (qq [qm 5 0,qn 6 5,qi 7 0] (.block 0 (.loop (qq [qB 8 .lss 7 6] (.seq (.cond (.t 8) (.skip) (.exit 0)) (.seq (.block 1 (qq [qa 9 1 5 7,ql 10 9,qm 4 10] (qq [qm 11 4,qC 12 .neq 11 0] (.cond (.t 12) (qq [qm 13 4,qm 2 13] (.ret)) (.skip))))) (.ops [qC 14 .add 7 1,qm 7 14]))))))) (
  qq [qi 2 0] (.ret))),[.tmp 2]⟩
def xq82 : XF := ⟨63,qq [qi 2 0] (.seq (qq [qm 10 0,qn 11 10,qc 12 67 [.t 11,(.c (.int .i64 3)),(.c (.int .i64 8))],qo 13 (.un .not (.t 12))] (.cond (.t 13) (qq [qi 2 12] (.ret)) (.skip))) (.seq (qq [qm 14 0,qn 15 14,qi 16 0] (.block 0 (.loop (qq [qB 17 .lss 16 15] (.seq (.cond (.t 17) (.skip) (.exit 0)) (.seq (
  .block 1 (qq [qa 18 2 14 16,qL 19 2 18,qo 4 (.new 30 [qZ,qZ]),qS 2 4 19] (qq [qL 20 2 4,qc 21 52 [.t 20],qC 22 .neq 21 0] (.cond (.t 22) (qq [qi 2 12] (.ret)) (.skip))))) (.ops [qC 23 .add 16 1,qm 16 23]))))))) (.seq (qq [qm 24 0,qn 25 24,qi 26 0] (.block 2 (.loop (qq [qB 27 .lss 26 25] (.seq (
  .cond (.t 27) (.skip) (.exit 2)) (.seq (.block 3 (qq [qm 28 26,qa 29 2 24 26,qL 30 2 29,qo 6 (.new 30 [qZ,qZ]),qm 5 28,qS 2 6 30] (qq [qm 31 5,qC 32 .add 31 1,qm 33 0,qn 34 33,qB 35 .rem 32 34,qm 7 35] (qq [qm 36 0,qn 37 36,qi 38 0] (.block 4 (.loop (qq [qB 39 .lss 38 37] (.seq (.cond (.t 39) (
  .skip) (.exit 4)) (.seq (.block 5 (qq [qm 40 38,qa 41 2 36 38,qL 42 2 41,qo 9 (.new 30 [qZ,qZ]),qm 8 40,qS 2 9 42] (.seq (.draw [qk (qm 43 8),qk (qm 44 5),qk (qB 45 .neq 43 44),qk (qm 46 45),qk (qg 47 (.mv (.t 8)) 46 true),qk (qg 48 (.mv (.t 7)) 46 true),qk (qg 49 (.bin .neq (.t 47) (
  .t 48)) 46 true),qk (qo 50 (.pick (.t 46) (.t 49) (.c (.bool false)))),qk (qm 51 50),qK (qg 52 (.ldN 2 (.t 6)) 51 true) 0,qk (qg 53 (.mv (.t 0)) 51 true),qk (qg 54 (.mv (.t 7)) 51 true),qk (qg 55 (.iad none 2 (.t 53) (.t 54)) 51 true),qK (qg 56 (.ldN 2 (.t 55)) 51 true) 0,qK (qg 57 (.ldN 2 (
  .t 9)) 51 true) 0,(qg 58 (.call (.c (.func (.func 102) [] [])) [.t 52,.t 56,.t 57]) 51 true,.anchor),qk (qg 59 (.bin .leq (.t 58) (.c qZ)) 51 true),qk (qo 60 (.pick (.t 51) (.t 59) (.c (.bool false))))]) (.cond (.t 60) (qq [qi 2 12] (.ret)) (.skip))))) (.ops [qC 61 .add 38 1,qm 38 61])))))))))) (
  .ops [qC 62 .add 26 1,qm 26 62]))))))) (qq [qi 2 0] (.ret))))),[.tmp 2]⟩
def xq83 : XF := ⟨24,qq [qb 1 28 0,qi 2 0] (qq [qo 6 (.mkf 103 [(.c (.int .i64 32768))] []),qo 7 (.mkf 103 [(.c (.int .i64 32768))] []),qo 8 (.mkf 103 [(.c (.int .i64 65536))] []),qo 9 (.mkf 103 [(.c (.int .i64 65536))] []),qo 10 (.build [.nilFunc,.nilFunc,.nilFunc,.nilFunc] [(0,1,(.t 6)),(1,1,(.t 7)),(2,1,(.t 8)),(
  3,1,(.t 9))]),qo 3 (.new 183 [.nilFunc,.nilFunc,.nilFunc,.nilFunc]),qS 4 3 10] (.seq (qq [qL 11 8 1,qc 12 84 [.t 11],qi 13 0] (.block 0 (.loop (qq [qC 14 .lss 13 4] (.seq (.cond (.t 14) (.skip) (.exit 0)) (.seq (.block 1 (qq [qm 15 13,qo 16 (.idx 4 2 true (.t 12) (.t 13)),qo 5 (.new 26 [qZ,qZ]),
  qm 4 15,qS 2 5 16] (.seq (.draw [qk (qm 17 4),qk (qo 18 (.iad (some 4) 1 (.t 3) (.t 17))),qK (ql 19 18) 0,qK (qL 20 2 5) 0,(qo 21 (.call (.t 19) [.t 20]),.anchor),qk (qo 22 (.un .not (.t 21)))]) (.cond (.t 22) (qq [qi 2 11] (.ret)) (.skip))))) (.ops [qC 23 .add 13 1,qm 13 23]))))))) (qq [qi 2 0] (
  .ret)))),[.tmp 2]⟩
def xq84 : XF := ⟨12,qq [qb 1 28 0,qo 2 (.new 159 [qZ,qZ,qZ,qZ,qZ,qZ,qZ,qZ])] (qq [qf 3 0 1,qL 4 2 3,qf 5 2 1,qL 6 2 5,qf 7 4 1,qL 8 2 7,qf 9 6 1,qL 10 2 9,qo 11 (.build [qZ,qZ,qZ,qZ,qZ,qZ,qZ,qZ] [(0,2,(.t 4)),(2,2,(.t 6)),(4,2,(.t 8)),(6,2,(.t 10))]),qS 8 2 11] (.ret)),[.cellN 2 8]⟩
def xq85 : XF := ⟨4,qq [qb 1 159 0,qo 2 (.mv (.c .nilFunc))] (qq [qo 3 (.mkf 104 [] [.t 1]),qm 2 3] (.ret)),[.tmp 2]⟩
def xq86 : XF := ⟨4,qq [qb 1 24 0,qo 2 (.mv (.c .nilFunc))] (qq [qo 3 (.mkf 105 [] [.t 1]),qm 2 3] (.ret)),[.tmp 2]⟩
def xq87 : XF := ⟨10,qq [qi 4 0] (qq [qm 5 0,qo 6 (.un .neg (.t 5)),qm 7 1,qc 8 88 [.t 6,.t 7],qo 9 (.un .neg (.t 8)),qm 4 9] (.ret)),[.tmp 4]⟩
def xq88 : XF := ⟨16,qq [qi 4 0] (qq [qm 6 0,qm 7 1,qB 8 .quo 6 7,qm 5 8] (.seq (qq [qm 9 0,qm 10 1,qB 11 .rem 9 10,qC 12 .lss 11 0] (.cond (.t 12) (.ops [qm 13 5,qC 14 .sub 13 1,qm 5 14]) (.skip))) (qq [qm 15 5,qm 4 15] (.ret)))),[.tmp 4]⟩
def xq89 : XF := ⟨42,qq [qo 2 (.mv (.c (.bool false)))] (.seq (qq [qm 5 0,qn 6 5,qi 7 0] (.block 0 (.loop (qq [qB 8 .lss 7 6] (.seq (.cond (.t 8) (.skip) (.exit 0)) (.seq (.block 1 (qq [qm 9 7,qa 10 2 5 7,qL 11 2 10,qo 4 (.new 26 [qZ,qZ]),qm 3 9,qS 2 4 11] (.seq (.draw [qk (qf 12 0 4),qK (ql 13 12) 0,qk (
  qC 14 .lss 13 0),qk (qm 15 14),qk (qg 16 (.fad 1 (.t 4)) 15 false),qK (qg 17 (.ld1 (.t 16)) 15 false) 0,qk (qg 18 (.fad 0 (.t 4)) 15 false),qK (qg 19 (.ld1 (.t 18)) 15 false) 0,(qg 20 (.call (.c (.func (.func 36) [] [])) [.t 17,.t 19,(.c (.int .i64 1048576))]) 15 false,.new),qk (qg 21 (.un .not (
  .t 20)) 15 false),qk (qo 22 (.pick (.t 15) (.c (.bool true)) (.t 21))),qk (qm 23 22),qk (qg 24 (.mv (.t 3)) 23 false),qk (qg 25 (.bin .gtr (.t 24) (.c qZ)) 23 false),qk (qg 26 (.mv (.t 25)) 23 false),qk (qg 27 (.fad 0 (.t 4)) 26 true),qK (qg 28 (.ld1 (.t 27)) 26 true) 0,qk (qg 29 (.mv (
  .t 0)) 26 true),qk (qg 30 (.mv (.t 3)) 26 true),qk (qg 31 (.bin .sub (.t 30) (.c (.int .i64 1))) 26 true),qk (qg 32 (.iad none 2 (.t 29) (.t 31)) 26 true),qk (qg 33 (.fad 1 (.t 32)) 26 true),qK (qg 34 (.ld1 (.t 33)) 26 true) 0,qk (qg 35 (.bin .leq (.t 28) (.t 34)) 26 true),qk (qg 36 (.pick (.t 26) (
  .t 35) (.c (.bool false))) 23 false),qk (qo 37 (.pick (.t 23) (.c (.bool true)) (.t 36)))]) (.cond (.t 37) (qq [qo 2 (.mv (.c (.bool false)))] (.ret)) (.skip))))) (.ops [qC 38 .add 7 1,qm 7 38]))))))) (qq [qm 39 0,qn 40 39,qC 41 .leq 40 4,qm 2 41] (.ret))),[.tmp 2]⟩
def xq90 : XF := ⟨6,qq [qo 2 (.mv (.c (.bool false)))] (qq [qm 3 0,qc 4 82 [.t 3],qC 5 .neq 4 0,qm 2 5] (.ret)),[.tmp 2]⟩
def xq91 : XF := ⟨9,qq [qo 4 (.mv (.c (.bool false)))] (qq [qm 5 0,qm 6 1,qc 7 106 [.t 5,.t 6],qC 8 .geq 7 0,qm 4 8] (.ret)),[.tmp 4]⟩
def xq92 : XF := ⟨6,qq [qb 1 30 0,qo 2 (.mv (.c (.bool false)))] (qq [qL 3 2 1,qc 4 52 [.t 3],qC 5 .neq 4 0,qm 2 5] (.ret)),[.tmp 2]⟩
def xq93 : XF := ⟨19,qq [qb 1 28 0,qo 2 (.new 28 [qZ,qZ,qZ,qZ,qZ,qZ,qZ,qZ]),qi 3 0] (.seq (qq [qL 5 8 1,qc 6 83 [.t 5],qm 4 6] (qq [qm 7 4,qC 8 .neq 7 0] (.cond (.t 8) (qq [qo 9 (.build [qZ,qZ,qZ,qZ,qZ,qZ,qZ,qZ] []),qm 10 4,qS 8 2 9,qm 3 10] (.ret)) (.skip)))) (qq [qL 11 8 1,qc 12 84 [.t 11],qc 13 94 [.t 12],
  qe 14 0 13,qe 15 1 13,qc 16 107 [.t 14,.t 15],qe 17 0 16,qe 18 1 16,qS 8 2 17,qm 3 18] (.ret))),[.cellN 2 8,.tmp 3]⟩
def xq94 : XF := ⟨17,qq [qb 1 159 0,qo 2 (.new 159 [qZ,qZ,qZ,qZ,qZ,qZ,qZ,qZ]),qi 3 0] (qq [qL 7 8 1,qc 8 100 [.t 7],qo 9 (.bsl 177 1 1 [.nilFunc] [(0,1,(.t 8))]),qc 10 99 [.t 9],qm 6 10,qe 11 0 6,qe 12 1 6,qo 4 (.new 159 [qZ,qZ,qZ,qZ,qZ,qZ,qZ,qZ]),qS 8 4 11,qm 5 12] (.seq (qq [qm 13 5,qo 14 (.un .not (.t 13))] (
  .cond (.t 14) (qq [qo 15 (.build [qZ,qZ,qZ,qZ,qZ,qZ,qZ,qZ] []),qS 8 2 15,qi 3 4] (.ret)) (.skip))) (qq [qL 16 8 4,qS 8 2 16,qi 3 0] (.ret)))),[.cellN 2 8,.tmp 3]⟩
def xq95 : XF := ⟨17,qq [qb 1 159 0,qo 2 (.new 28 [qZ,qZ,qZ,qZ,qZ,qZ,qZ,qZ]),qi 3 0] (.seq (qq [qo 4 (.iad (some 4) 2 (.t 1) (.c qZ)),qL 5 2 4,qc 6 103 [(.c (.int .i64 32768)),.t 5],qo 7 (.un .not (.t 6)),qm 8 7,qg 9 (.iad (some 4) 2 (.t 1) (.c (.int .i64 1))) 8 false,qg 10 (.ldN 2 (.t 9)) 8 false,qg 11 (.call (.c (
  .func (.func 103) [] [])) [(.c (.int .i64 32768)),.t 10]) 8 false,qg 12 (.un .not (.t 11)) 8 false,qo 13 (.pick (.t 8) (.c (.bool true)) (.t 12))] (.cond (.t 13) (qq [qo 14 (.build [qZ,qZ,qZ,qZ,qZ,qZ,qZ,qZ] []),qS 8 2 14,qi 3 7] (.ret)) (.skip))) (qq [qL 15 8 1,qc 16 101 [.t 15],qS 8 2 16,qi 3 0] (
  .ret))),[.cellN 2 8,.tmp 3]⟩
def xq96 : XF := ⟨23,qq [qb 3 159 0,qb 4 159 1,qo 6 (.new 159 [qZ,qZ,qZ,qZ,qZ,qZ,qZ,qZ])] (.seq (qq [qi 8 0] (.block 0 (.loop (qq [qC 9 .lss 8 4] (.seq (.cond (.t 9) (.skip) (.exit 0)) (.seq (.block 1 (qq [qm 10 8,qm 7 10] (.draw [qk (qm 11 7),qk (qm 12 2),qk (qm 13 7),qk (qo 14 (.iad (some 4) 2 (.t 3) (.t 13))),
  qK (qL 15 2 14) 0,qk (qm 16 7),qk (qo 17 (.iad (some 4) 2 (.t 4) (.t 16))),qK (qL 18 2 17) 0,(qo 19 (.call (.t 12) [.t 15,.t 18]),.anchor),qk (qo 20 (.iad (some 4) 2 (.t 3) (.t 11))),(qS 2 20 19,.anchor)]))) (.ops [qC 21 .add 8 1,qm 8 21]))))))) (qq [qL 22 8 3,qS 8 6 22] (.ret))),[.cellN 6 8]⟩
def xq97 : XF := ⟨32,qq [qb 1 30 0,qo 2 (.new 159 [qZ,qZ,qZ,qZ,qZ,qZ,qZ,qZ])] (qq [qo 3 (.new 159 [qZ,qZ,qZ,qZ,qZ,qZ,qZ,qZ])] (.seq (qq [qf 6 0 1,ql 7 6,qf 8 1 1,ql 9 8,qf 10 0 1,ql 11 10,qf 12 1 1,ql 13 12,qB 14 .add 11 13,qf 15 0 1,ql 16 15,qf 17 1 1,ql 18 17,qB 19 .sub 16 18,qo 20 (.build [qZ,qZ,qZ,qZ] [(0,1,(
  .t 7)),(1,1,(.t 9)),(2,1,(.t 14)),(3,1,(.t 19))]),qi 21 0] (.block 0 (.loop (qq [qC 22 .lss 21 4] (.seq (.cond (.t 22) (.skip) (.exit 0)) (.seq (.block 1 (qq [qm 23 21,qo 24 (.idx 4 1 false (.t 20) (.t 21)),qm 4 23,qm 5 24] (.ops [qm 25 4,qm 26 5,qm 27 5,qo 28 (.build [qZ,qZ] [(0,1,(.t 26)),(1,1,(
  .t 27))]),qo 29 (.iad (some 4) 2 (.t 3) (.t 25)),qS 2 29 28]))) (.ops [qC 30 .add 21 1,qm 21 30]))))))) (qq [qL 31 8 3,qS 8 2 31] (.ret)))),[.cellN 2 8]⟩
def xq98 : XF := ⟨16,qq [qb 2 26 0,qb 3 26 1,qo 4 (.new 26 [qZ,qZ])] (qq [qf 5 0 2,ql 6 5,qf 7 0 3,ql 8 7,qB 9 .add 6 8,qf 10 1 2,ql 11 10,qf 12 1 3,ql 13 12,qB 14 .add 11 13,qo 15 (.build [qZ,qZ] [(0,1,(.t 9)),(1,1,(.t 14))]),qS 2 4 15] (.ret)),[.cellN 4 2]⟩
def xq99 : XF := ⟨26,qq [qo 2 (.new 159 [qZ,qZ,qZ,qZ,qZ,qZ,qZ,qZ]),qo 3 (.new 4 [(.bool false)])] (.seq (qq [qm 7 0,qn 8 7,qi 9 0] (.block 0 (.loop (qq [qB 10 .lss 9 8] (.seq (.cond (.t 10) (.skip) (.exit 0)) (.seq (.block 1 (qq [qa 11 1 7 9,ql 12 11,qm 5 12] (qq [qm 13 5] (.block 2 (.rfun (.t 13) [14] (.ops [qo 6 (
  .new 30 [qZ,qZ]),qS 2 6 14]) (.block 3 (.seq (qq [ql 15 3,qo 16 (.un .not (.t 15))] (.cond (.t 16) (.ops [qL 17 2 6,qc 18 97 [.t 17],qS 8 2 18,⟨none,.st 1 (.t 3) (.c (.bool true)),none⟩]) (.skip))) (.draw [qK (qL 19 8 2) 1,qK (qL 20 2 6) 0,(qc 21 97 [.t 20],.anchor),(qo 22 (.call (.c (.func (
  .func 96) [] [])) [.t 19,.t 21,(.c (.func (.func 108) [] []))]),.anchor),(qS 8 2 22,.anchor)])))))))) (.ops [qC 23 .add 9 1,qm 9 23]))))))) (.seq (.draw [qK (qL 24 8 2) 0,qK (ql 25 3) 1,(qS 8 2 24,.anchor),(qS 1 3 25,.anchor)]) (.ret))),[.cellN 2 8,.cell1 3]⟩
def xq100 : XF := ⟨4,qq [qb 1 159 0,qo 2 (.mv (.c .nilFunc))] (qq [qo 3 (.mkf 109 [] [.t 1]),qm 2 3] (.ret)),[.tmp 2]⟩
def xq101 : XF := ⟨12,qq [qb 1 159 0,qo 2 (.new 28 [qZ,qZ,qZ,qZ,qZ,qZ,qZ,qZ])] (qq [qo 3 (.iad (some 4) 2 (.t 1) (.c qZ)),qL 4 2 3,qo 5 (.iad (some 4) 2 (.t 1) (.c (.int .i64 1))),qL 6 2 5,qo 7 (.iad (some 4) 2 (.t 1) (.c (.int .i64 2))),qL 8 2 7,qo 9 (.iad (some 4) 2 (.t 1) (.c (.int .i64 3))),qL 10 2 9,qo 11 (
  .build [qZ,qZ,qZ,qZ,qZ,qZ,qZ,qZ] [(0,2,(.t 4)),(2,2,(.t 6)),(4,2,(.t 8)),(6,2,(.t 10))]),qS 8 2 11] (.ret)),[.cellN 2 8]⟩
def xq102 : XF := ⟨30,qq [qb 3 30 0,qb 4 30 1,qb 5 30 2,qi 6 0] (qq [qf 7 0 4,ql 8 7,qf 9 0 3,ql 10 9,qB 11 .sub 8 10,qf 12 1 5,ql 13 12,qf 14 1 3,ql 15 14,qB 16 .sub 13 15,qB 17 .mul 11 16,qf 18 1 4,ql 19 18,qf 20 1 3,ql 21 20,qB 22 .sub 19 21,qf 23 0 5,ql 24 23,qf 25 0 3,ql 26 25,qB 27 .sub 24 26,qB 28 .mul 22 27,
  qB 29 .sub 17 28,qm 6 29] (.ret)),[.tmp 6]⟩
def xq103 : XF := ⟨23,qq [qb 3 26 1,qo 4 (.mv (.c (.bool false)))] (qq [qf 5 0 3,ql 6 5,qm 7 0,qo 8 (.un .neg (.t 7)),qB 9 .geq 6 8,qm 10 9,qg 11 (.fad 0 (.t 3)) 10 true,qg 12 (.ld1 (.t 11)) 10 true,qg 13 (.fad 1 (.t 3)) 10 true,qg 14 (.ld1 (.t 13)) 10 true,qg 15 (.bin .leq (.t 12) (.t 14)) 10 true,qo 16 (.pick (
  .t 10) (.t 15) (.c (.bool false))),qm 17 16,qg 18 (.fad 1 (.t 3)) 17 true,qg 19 (.ld1 (.t 18)) 17 true,qg 20 (.mv (.t 0)) 17 true,qg 21 (.bin .leq (.t 19) (.t 20)) 17 true,qo 22 (.pick (.t 17) (.t 21) (.c (.bool false))),qm 4 22] (.ret)),[.tmp 4]⟩
def xq104 : XF := ⟨56,qq [qo 5 (.iad (some 4) 2 (.t 1) (.c qZ)),qf 6 0 5,ql 7 6,qm 3 7] (.block 0 (.loop (.seq (qq [qm 8 3,qo 9 (.iad (some 4) 2 (.t 1) (.c qZ)),qf 10 1 9,ql 11 10,qB 12 .leq 8 11] (.cond (.t 12) (.skip) (.exit 0))) (.seq (.block 1 (qq [qm 15 3,qo 16 (.iad (some 4) 2 (.t 1) (.c (.int .i64 1))),
  qf 17 0 16,ql 18 17,qo 19 (.iad (some 4) 2 (.t 1) (.c (.int .i64 2))),qf 20 0 19,ql 21 20,qm 22 3,qB 23 .sub 21 22,qm 24 3,qo 25 (.iad (some 4) 2 (.t 1) (.c (.int .i64 3))),qf 26 1 25,ql 27 26,qB 28 .sub 24 27,qo 29 (.max [.t 18,.t 23,.t 28]),qo 30 (.iad (some 4) 2 (.t 1) (.c (.int .i64 1))),
  qf 31 1 30,ql 32 31,qo 33 (.iad (some 4) 2 (.t 1) (.c (.int .i64 2))),qf 34 1 33,ql 35 34,qm 36 3,qB 37 .sub 35 36,qm 38 3,qo 39 (.iad (some 4) 2 (.t 1) (.c (.int .i64 3))),qf 40 0 39,ql 41 40,qB 42 .sub 38 41,qo 43 (.min [.t 32,.t 37,.t 42]),qo 44 (.build [qZ,qZ,qZ] [(0,1,(.t 15)),(1,1,(.t 29)),(2,
  1,(.t 43))]),qo 4 (.new 163 [qZ,qZ,qZ]),qS 3 4 44] (qq [qf 45 1 4,ql 46 45,qf 47 2 4,ql 48 47,qB 49 .leq 46 48,qm 50 49,qg 51 (.mv (.t 0)) 50 true,qg 52 (.ldN 3 (.t 4)) 50 true,qg 53 (.call (.t 51) [.t 52]) 50 true,qg 54 (.un .not (.t 53)) 50 true,qo 55 (.pick (.t 50) (.t 54) (.c (.bool false)))] (
  .cond (.t 55) (.ret) (.skip))))) (.ops [qm 13 3,qC 14 .add 13 1,qm 3 14]))))),[]⟩
def xq105 : XF := ⟨25,qq [ql 5 1,qn 6 5,qi 7 0] (.block 0 (.loop (qq [qB 8 .lss 7 6] (.seq (.cond (.t 8) (.skip) (.exit 0)) (.seq (.block 1 (qq [qm 9 7,qa 10 2 5 7,qL 11 2 10,qo 4 (.new 30 [qZ,qZ]),qm 3 9,qS 2 4 11] (.seq (.draw [qk (qm 12 0),qK (qL 13 2 4) 0,qK (ql 14 1) 0,qk (qm 15 3),qk (qC 16 .add 15 1),qK (
  ql 17 1) 0,qk (qn 18 17),qk (qB 19 .rem 16 18),qk (qa 20 2 14 19),qK (qL 21 2 20) 0,(qo 22 (.call (.t 12) [.t 13,.t 21]),.anchor),qk (qo 23 (.un .not (.t 22)))]) (.cond (.t 23) (.ret) (.skip))))) (.ops [qC 24 .add 7 1,qm 7 24])))))),[]⟩
def xq106 : XF := ⟨19,qq [qi 4 0] (.seq (qq [qm 6 0,qn 7 6,qi 8 0] (.block 0 (.loop (qq [qB 9 .lss 8 7] (.seq (.cond (.t 9) (.skip) (.exit 0)) (.seq (.block 1 (qq [qm 10 8,qm 5 10] (qq [qm 11 1,qm 12 0,qm 13 5,qa 14 2 12 13,qL 15 2 14,qo 16 (.call (.t 11) [.t 15])] (.cond (.t 16) (qq [qm 17 5,qm 4 17] (.ret)) (
  .skip))))) (.ops [qC 18 .add 8 1,qm 8 18]))))))) (qq [qi 4 (-1)] (.ret))),[.tmp 4]⟩
def xq107 : XF := ⟨12,qq [qb 2 159 0,qo 4 (.new 28 [qZ,qZ,qZ,qZ,qZ,qZ,qZ,qZ]),qi 5 0] (.seq (qq [qm 6 1,qC 7 .neq 6 0] (.cond (.t 7) (qq [qo 8 (.build [qZ,qZ,qZ,qZ,qZ,qZ,qZ,qZ] []),qm 9 1,qS 8 4 8,qm 5 9] (.ret)) (.skip))) (qq [qL 10 8 2,qc 11 101 [.t 10],qS 8 4 11,qi 5 0] (.ret))),[.cellN 4 8,.tmp 5]⟩
def xq108 : XF := ⟨16,qq [qb 2 26 0,qb 3 26 1,qo 4 (.new 26 [qZ,qZ])] (qq [qf 5 0 2,ql 6 5,qf 7 0 3,ql 8 7,qo 9 (.min [.t 6,.t 8]),qf 10 1 2,ql 11 10,qf 12 1 3,ql 13 12,qo 14 (.max [.t 11,.t 13]),qo 15 (.build [qZ,qZ] [(0,1,(.t 9)),(1,1,(.t 14))]),qS 2 4 15] (.ret)),[.cellN 4 2]⟩
def xq109 : XF := ⟨34,qq [qb 2 57 0] (qq [qL 6 8 1,qc 7 85 [.t 6]] (.block 0 (.rfun (.t 7) [8] (.ops [qo 3 (.new 163 [qZ,qZ,qZ]),qS 3 3 8]) (.block 1 (.seq (.draw [qk (qf 9 0 3),qK (ql 10 9) 0,qk (qf 11 1 3),qK (ql 12 11) 0,qk (qo 13 (.build [qZ,qZ] [(0,1,(.t 10)),(1,1,(.t 12))])),qk (qf 14 0 3),qK (ql 15 14) 1,qk (
  qf 16 2 3),qK (ql 17 16) 1,qk (qo 18 (.build [qZ,qZ] [(0,1,(.t 15)),(1,1,(.t 17))])),(qo 4 (.new 30 [qZ,qZ]),.new),(qo 5 (.new 30 [qZ,qZ]),.new),(qS 2 4 13,.anchor),(qS 2 5 18,.anchor)]) (qq [ql 19 2,qL 20 2 4,qo 21 (.call (.t 19) [.t 20]),qo 22 (.un .not (.t 21)),qm 23 22,qg 24 (.ldN 2 (
  .t 4)) 23 false,qg 25 (.ldN 2 (.t 5)) 23 false,qg 26 (.eqs true 2 [0,1] (.t 24) (.t 25)) 23 false,qg 27 (.mv (.t 26)) 23 false,qg 28 (.ld1 (.t 2)) 27 true,qg 29 (.ldN 2 (.t 5)) 27 true,qg 30 (.call (.t 28) [.t 29]) 27 true,qg 31 (.un .not (.t 30)) 27 true,qg 32 (.pick (.t 27) (.t 31) (.c (
  .bool false))) 23 false,qo 33 (.pick (.t 23) (.c (.bool true)) (.t 32))] (.cond (.t 33) (.ret) (.skip)))))))),[]⟩
theorem kq3 : cFn Tryz.prog 3 = some xq3 := by kernel_rfl
theorem kq4 : cFn Tryz.prog 4 = some xq4 := by kernel_rfl
theorem kq5 : cFn Tryz.prog 5 = some xq5 := by kernel_rfl
theorem kq7 : cFn Tryz.prog 7 = some xq7 := by kernel_rfl
theorem kq8 : cFn Tryz.prog 8 = some xq8 := by kernel_rfl
theorem kq9 : cFn Tryz.prog 9 = some xq9 := by kernel_rfl
theorem kq10 : cFn Tryz.prog 10 = some xq10 := by kernel_rfl
theorem kq11 : cFn Tryz.prog 11 = some xq11 := by kernel_rfl
theorem kq12 : cFn Tryz.prog 12 = some xq12 := by kernel_rfl
theorem kq18 : cFn Tryz.prog 18 = some xq18 := by kernel_rfl
theorem kq24 : cFn Tryz.prog 24 = some xq24 := by kernel_rfl
theorem kq25 : cFn Tryz.prog 25 = some xq25 := by kernel_rfl
theorem kq26 : cFn Tryz.prog 26 = some xq26 := by kernel_rfl
theorem kq27 : cFn Tryz.prog 27 = some xq27 := by kernel_rfl
theorem kq28 : cFn Tryz.prog 28 = some xq28 := by kernel_rfl
theorem kq29 : cFn Tryz.prog 29 = some xq29 := by kernel_rfl
theorem kq30 : cFn Tryz.prog 30 = some xq30 := by kernel_rfl
theorem kq31 : cFn Tryz.prog 31 = some xq31 := by kernel_rfl
theorem kq32 : cFn Tryz.prog 32 = some xq32 := by kernel_rfl
theorem kq33 : cFn Tryz.prog 33 = some xq33 := by kernel_rfl
theorem kq35 : cFn Tryz.prog 35 = some xq35 := by kernel_rfl
theorem kq36 : cFn Tryz.prog 36 = some xq36 := by kernel_rfl
theorem kq37 : cFn Tryz.prog 37 = some xq37 := by kernel_rfl
theorem kq38 : cFn Tryz.prog 38 = some xq38 := by kernel_rfl
theorem kq39 : cFn Tryz.prog 39 = some xq39 := by kernel_rfl
theorem kq40 : cFn Tryz.prog 40 = some xq40 := by kernel_rfl
theorem kq42 : cFn Tryz.prog 42 = some xq42 := by kernel_rfl
theorem kq45 : cFn Tryz.prog 45 = some xq45 := by kernel_rfl
theorem kq46 : cFn Tryz.prog 46 = some xq46 := by kernel_rfl
theorem kq47 : cFn Tryz.prog 47 = some xq47 := by kernel_rfl
theorem kq49 : cFn Tryz.prog 49 = some xq49 := by kernel_rfl
theorem kq50 : cFn Tryz.prog 50 = some xq50 := by kernel_rfl
theorem kq51 : cFn Tryz.prog 51 = some xq51 := by kernel_rfl
theorem kq52 : cFn Tryz.prog 52 = some xq52 := by kernel_rfl
theorem kq53 : cFn Tryz.prog 53 = some xq53 := by kernel_rfl
theorem kq54 : cFn Tryz.prog 54 = some xq54 := by kernel_rfl
theorem kq55 : cFn Tryz.prog 55 = some xq55 := by kernel_rfl
theorem kq56 : cFn Tryz.prog 56 = some xq56 := by kernel_rfl
theorem kq57 : cFn Tryz.prog 57 = some xq57 := by kernel_rfl
theorem kq58 : cFn Tryz.prog 58 = some xq58 := by kernel_rfl
theorem kq60 : cFn Tryz.prog 60 = some xq60 := by kernel_rfl
theorem kq61 : cFn Tryz.prog 61 = some xq61 := by kernel_rfl
theorem kq62 : cFn Tryz.prog 62 = some xq62 := by kernel_rfl
theorem kq63 : cFn Tryz.prog 63 = some xq63 := by kernel_rfl
theorem kq64 : cFn Tryz.prog 64 = some xq64 := by kernel_rfl
theorem kq65 : cFn Tryz.prog 65 = some xq65 := by kernel_rfl
theorem kq66 : cFn Tryz.prog 66 = some xq66 := by kernel_rfl
theorem kq67 : cFn Tryz.prog 67 = some xq67 := by kernel_rfl
theorem kq68 : cFn Tryz.prog 68 = some xq68 := by kernel_rfl
theorem kq69 : cFn Tryz.prog 69 = some xq69 := by kernel_rfl
theorem kq70 : cFn Tryz.prog 70 = some xq70 := by kernel_rfl
theorem kq71 : cFn Tryz.prog 71 = some xq71 := by kernel_rfl
theorem kq72 : cFn Tryz.prog 72 = some xq72 := by kernel_rfl
theorem kq73 : cFn Tryz.prog 73 = some xq73 := by kernel_rfl
theorem kq74 : cFn Tryz.prog 74 = some xq74 := by kernel_rfl
theorem kq75 : cFn Tryz.prog 75 = some xq75 := by kernel_rfl
theorem kq76 : cFn Tryz.prog 76 = some xq76 := by kernel_rfl
theorem kq77 : cFn Tryz.prog 77 = some xq77 := by kernel_rfl
theorem kq78 : cFn Tryz.prog 78 = some xq78 := by kernel_rfl
theorem kq79 : cFn Tryz.prog 79 = some xq79 := by kernel_rfl
theorem kq80 : cFn Tryz.prog 80 = some xq80 := by kernel_rfl
theorem kq81 : cFn Tryz.prog 81 = some xq81 := by kernel_rfl
theorem kq82 : cFn Tryz.prog 82 = some xq82 := by kernel_rfl
theorem kq83 : cFn Tryz.prog 83 = some xq83 := by kernel_rfl
theorem kq84 : cFn Tryz.prog 84 = some xq84 := by kernel_rfl
theorem kq85 : cFn Tryz.prog 85 = some xq85 := by kernel_rfl
theorem kq86 : cFn Tryz.prog 86 = some xq86 := by kernel_rfl
theorem kq87 : cFn Tryz.prog 87 = some xq87 := by kernel_rfl
theorem kq88 : cFn Tryz.prog 88 = some xq88 := by kernel_rfl
theorem kq89 : cFn Tryz.prog 89 = some xq89 := by kernel_rfl
theorem kq90 : cFn Tryz.prog 90 = some xq90 := by kernel_rfl
theorem kq91 : cFn Tryz.prog 91 = some xq91 := by kernel_rfl
theorem kq92 : cFn Tryz.prog 92 = some xq92 := by kernel_rfl
theorem kq93 : cFn Tryz.prog 93 = some xq93 := by kernel_rfl
theorem kq94 : cFn Tryz.prog 94 = some xq94 := by kernel_rfl
theorem kq95 : cFn Tryz.prog 95 = some xq95 := by kernel_rfl
theorem kq96 : cFn Tryz.prog 96 = some xq96 := by kernel_rfl
theorem kq97 : cFn Tryz.prog 97 = some xq97 := by kernel_rfl
theorem kq98 : cFn Tryz.prog 98 = some xq98 := by kernel_rfl
theorem kq99 : cFn Tryz.prog 99 = some xq99 := by kernel_rfl
theorem kq100 : cFn Tryz.prog 100 = some xq100 := by kernel_rfl
theorem kq101 : cFn Tryz.prog 101 = some xq101 := by kernel_rfl
theorem kq102 : cFn Tryz.prog 102 = some xq102 := by kernel_rfl
theorem kq103 : cFn Tryz.prog 103 = some xq103 := by kernel_rfl
theorem kq104 : cFn Tryz.prog 104 = some xq104 := by kernel_rfl
theorem kq105 : cFn Tryz.prog 105 = some xq105 := by kernel_rfl
theorem kq106 : cFn Tryz.prog 106 = some xq106 := by kernel_rfl
theorem kq107 : cFn Tryz.prog 107 = some xq107 := by kernel_rfl
theorem kq108 : cFn Tryz.prog 108 = some xq108 := by kernel_rfl
theorem kq109 : cFn Tryz.prog 109 = some xq109 := by kernel_rfl
end Go.Proofs.YtifcpjfpjkoicaaGreat.C
end
