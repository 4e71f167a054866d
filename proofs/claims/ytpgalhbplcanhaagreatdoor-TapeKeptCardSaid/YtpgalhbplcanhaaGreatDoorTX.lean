/-
 Part of the proof of TapeKept. No condition beyond those in each theorem.
-/
import Derived.Test.YtpgalhbplcanhaaGreatDoorTA
import Derived.Test.YtpgalhbplcanhaaGreatDoorPvF
set_option linter.unusedVariables false
set_option linter.unusedSimpArgs false
set_option linter.unusedSectionVars false
section
open Go PvL Go.Proofs
namespace Go.Proofs.YtpgalhbplcanhaaGreatDoor.C
set_option maxRecDepth 100000
set_option maxHeartbeats 4000000
section
variable (P:Program)
noncomputable section
def cDG (sz:Nat) (all:List Oper):List XK->List Oper->Option (List (XG×XK))
 |_,[]=>some []
 |[],o::a=>match cOper P sz all o,cDG sz all [] a with
  |some g,some l=>some ((g,.calm)::l)
  |_,_=>none
 |k::q,o::a=>match cOper P sz all o,cDG sz all q a with
  |some g,some l=>some ((g,k)::l)
  |_,_=>none
def cCG (sz:Nat):Code->List (List XK)->Option (XC×List (List XK))
 |.skip,q|.label _,q=>some (.skip,q)
 |.ret,q=>some (.ret,q)
 |.exit id,q=>some (.exit id,q)
 |.refuse _,q=>some (.no,q)
 |.region _ ops false,q=>match cOps P sz ops.toList ops.toList with|some l=>some (.ops l,q)|none=>none
 |.region _ ops true,[]=>match cDG P sz ops.toList [] ops.toList with|some l=>some (.draw l (deps ops),[])|none=>none
 |.region _ ops true,k::q=>match cDG P sz ops.toList k ops.toList with|some l=>some (.draw l (deps ops),q)|none=>none
 |.seq a b,q=>match cCG sz a q with|some (a,q)=>(match cCG sz b q with|some (b,q)=>some (.seq a b,q)|none=>none)|none=>none
 |.cond x a b,q=>match cX x,cCG sz a q with|some x,some (a,q)=>(match cCG sz b q with|some (b,q)=>some (.cond x a b,q)|none=>none)|_,_=>none
 |.block id b,q=>match cCG sz b q with|some (b,q)=>some (.block id b,q)|none=>none
 |.loop b,q=>match cCG sz b q with|some (b,q)=>some (.loop b,q)|none=>none
 |.scope b,q=>match cCG sz b q with|some (b,q)=>some (.scope b,q)|none=>none
 |.rangeFunc f ps a b,q=>match cX f,cCG sz a q with|some f,some (a,q)=>(match cCG sz b q with|some (b,q)=>some (.rfun f ps.toList a b,q)|none=>none)|_,_=>none
 |_,_=>none
def cFG (f:FuncId) (q:List (List XK)):Option XF :=
  match fnOf P f with
 |none=>none
 |some a=>match a.body with
  |none=>none
  |some c=>match cCG P a.ntmps c q,cRes P a.results.toList with
   |some (c,_),some r=>some ⟨a.ntmps,c,r⟩
   |_,_=>none
abbrev kc:XK:=.calm
abbrev kn:XK:=.new
abbrev ka:XK:=.anchor
abbrev kr (a b:Nat):XK:=.reads a b
end
end
theorem tb3(h):(Tryz.prog.types[3]'h).bytes=8:=rfl
theorem tb4(h):(Tryz.prog.types[4]'h).bytes=1:=rfl
theorem tb5(h):(Tryz.prog.types[5]'h).bytes=1:=rfl
theorem tb26(h):(Tryz.prog.types[26]'h).bytes=16:=rfl
theorem tb28(h):(Tryz.prog.types[28]'h).bytes=64:=rfl
theorem tb72(h):(Tryz.prog.types[72]'h).bytes=40:=rfl
theorem tb268(h):(Tryz.prog.types[268]'h).bytes=48:=rfl
theorem tb281(h):(Tryz.prog.types[281]'h).bytes=16:=rfl
theorem t3(h):(Tryz.prog.types[3]'h).size=1:=rfl
theorem t4(h):(Tryz.prog.types[4]'h).size=1:=rfl
theorem t5(h):(Tryz.prog.types[5]'h).size=1:=rfl
theorem t9(h):(Tryz.prog.types[9]'h).size=1:=rfl
theorem t26(h):(Tryz.prog.types[26]'h).size=2:=rfl
theorem t28(h):(Tryz.prog.types[28]'h).size=8:=rfl
theorem t30(h):(Tryz.prog.types[30]'h).size=2:=rfl
theorem t37(h):(Tryz.prog.types[37]'h).size=1:=rfl
theorem t58(h):(Tryz.prog.types[58]'h).size=7:=rfl
theorem t63(h):(Tryz.prog.types[63]'h).size=1:=rfl
theorem t66(h):(Tryz.prog.types[66]'h).size=1:=rfl
theorem t68(h):(Tryz.prog.types[68]'h).size=20:=rfl
theorem t72(h):(Tryz.prog.types[72]'h).size=3:=rfl
theorem t73(h):(Tryz.prog.types[73]'h).size=1:=rfl
theorem t80(h):(Tryz.prog.types[80]'h).size=2:=rfl
theorem t91(h):(Tryz.prog.types[91]'h).size=1:=rfl
theorem t92(h):(Tryz.prog.types[92]'h).size=1:=rfl
theorem t94(h):(Tryz.prog.types[94]'h).size=5:=rfl
theorem t154(h):(Tryz.prog.types[154]'h).size=5:=rfl
theorem t157(h):(Tryz.prog.types[157]'h).size=1:=rfl
theorem t160(h):(Tryz.prog.types[160]'h).size=13:=rfl
theorem t164(h):(Tryz.prog.types[164]'h).size=2:=rfl
theorem t169(h):(Tryz.prog.types[169]'h).size=1:=rfl
theorem t208(h):(Tryz.prog.types[208]'h).size=8:=rfl
theorem t211(h):(Tryz.prog.types[211]'h).size=1:=rfl
theorem t268(h):(Tryz.prog.types[268]'h).size=5:=rfl
theorem t273(h):(Tryz.prog.types[273]'h).size=1:=rfl
theorem t274(h):(Tryz.prog.types[274]'h).size=1:=rfl
theorem t279(h):(Tryz.prog.types[279]'h).size=1:=rfl
theorem t281(h):(Tryz.prog.types[281]'h).size=2:=rfl
theorem t363(h):(Tryz.prog.types[363]'h).size=3:=rfl
theorem t412(h):(Tryz.prog.types[412]'h).size=9:=rfl
theorem t470(h):(Tryz.prog.types[470]'h).size=1:=rfl
theorem t517(h):(Tryz.prog.types[517]'h).size=1:=rfl
noncomputable def Ev(n:Nat)(q:List (List XK)){x:XF}(g:cFn Tryz.prog n=cFG Tryz.prog n q:=by kernel_rfl)(h:∀ R:Option XF->Prop,R (some x)->R (cFG Tryz.prog n q):=by intro R a;(conv=>arg 1;whnf;arg 1;arg 1;whnf);(try dsimp only[kc,kn,ka,kr,tb3,tb4,tb5,tb26,tb28,tb72,tb268,tb281,t3,t4,t5,t9,t26,t28,t30,t37,t58,t63,t66,t68,t72,t73,t80,t91,t92,t94,t154,t157,t160,t164,t169,t208,t211,t268,t273,t274,t279,t281,t363,t412,t470,t517,Nat.reduceMul,List.getElem_toArray,List.getElem_cons_zero,List.getElem_cons_succ,LV.cells]);exact a):{x//cFn Tryz.prog n=some x}:=⟨x,g.trans (h (·=some x) rfl)⟩
abbrev zS(l:List XG)(c:XC):XC:=.seq (.ops l) c
abbrev zB(d:Nat)(o:BinOp)(x y:Nat):XG:=⟨some d,.bin o (.t x) (.t y),none⟩
abbrev zC(d:Nat)(o:BinOp)(x:Nat)(n:Int):XG:=⟨some d,.bin o (.t x) (.c (.int .i64 n)),none⟩
abbrev zL(d x:Nat):XG:=⟨some d,.ld1 (.t x),none⟩
abbrev zN(d x:Nat):XG:=⟨some d,.nilc (.t x),none⟩
abbrev zA(d n x:Nat):XG:=⟨some d,.fad n (.t x),none⟩
abbrev zE(d n x:Nat):XG:=⟨some d,.ext n (.t x),none⟩
abbrev zW(d g:Nat)(b:Bool)(i:XI):XG:=⟨some d,i,some (g,b)⟩
abbrev zI(n:Int):XO:=.c (.int .i64 n)
abbrev zF(n:Nat):XO:=.c (.func (.func n) [] [])
abbrev zM(d x:Nat):XG:=⟨some d,.mv (.t x),none⟩
abbrev zO(d:Nat)(i:XI):XG:=⟨some d,i,none⟩
abbrev zH(d x:Nat):XG:=⟨some d,.len .sl (.t x),none⟩
abbrev zK(d f:Nat)(l:List Nat):XG:=⟨some d,.call (zF f) (l.map .t),none⟩
abbrev zX(t n:Nat):XC:=.cond (.t t) .skip (.exit n)
abbrev zJ(d:Nat)(n:Int):XG:=⟨some d,.mv (zI n),none⟩
abbrev zP(d x y:Nat):XG:=⟨some d,.pick (.t x) (.t y) (.c (.bool false)),none⟩
abbrev zY2:List LV:=[(.int .i64 0),(.int .i64 0)]
abbrev zY3:List LV:=[(.int .i64 0),(.int .i64 0),(.int .i64 0)]
abbrev zY4:List LV:=[(.int .i64 0),(.int .i64 0),(.int .i64 0),(.int .i64 0)]
abbrev zY8:List LV:=[(.int .i64 0),(.int .i64 0),(.int .i64 0),(.int .i64 0),(.int .i64 0),(.int .i64 0),(.int .i64 0),(.int .i64 0)]
abbrev zT(n x y:Nat):XG:=⟨none,.st n (.t x) (.t y),none⟩
abbrev zR(d n x:Nat):XG:=⟨some d,.ldN n (.t x),none⟩
abbrev zU(d n x y:Nat):XG:=⟨some d,.iad none n (.t x) (.t y),none⟩
abbrev zV(d g:Nat)(b:Bool)(x:Nat):XG:=⟨some d,.mv (.t x),some (g,b)⟩
theorem un{G G':Prop}(a:G')(c:G'->G:=by intro h;dsimp only[Ev,zS,zB,zC,zL,zN,zA,zE,zW,zI,zF,zM,zO,zH,zK,zX,zJ,zP,zY2,zY3,zY4,zY8,zT,zR,zU,zV,List.map_cons,List.map_nil,zipE,Nat.reduceAdd];exact h):G:=c a
def x15:XF:=⟨109,zS [zO 3 (.box 68 (.t 1)),zJ 4 0,zJ 5 0] (.seq (zS [zM 16 0,zO 17 (.eqg false 60 (.t 16) (.c (.ptr none))),zM 18 17,zV 19 18 false 0,zW 20 18 false (.nilc (.t 19)),zW 21 18 false (.fad 5 (.t 20)),zW 22 18 false (.ldN 7 (.t 21)),zW 23 18 false (.build [(.int .i64 0),(.int .i64 0),(.int .i64 0),(.int .i64 0),(.int .i64 0),(.int .i64 0),(.int .i64 0)] []),zW 24 18 false (.eqs false 7 [0,1,2,3,4,5,6] (.t 22) (.t 23)),zO 25 (.pick (.t 18) (.c (.bool true)) (.t 24))] (.cond (.t 25) (zS [zJ 4 0,zJ 5 1] .ret) .skip)) (zS [zM 26 0,zN 27 26,zA 28 0 27,zR 29 5 28,zK 30 54 [29],zM 6 30] (.seq (zS [zM 31 6,zC 32 .eql 31 64] (.cond (.t 32) (zS [zJ 4 0,zJ 5 3] .ret) .skip)) (.seq (.draw [(zM 33 0,.calm),(zN 34 33,.calm),(zA 35 0 34,.calm),(zR 36 5 35,.reads 0 0),(zR 37 20 3,.reads 0 0),(zK 38 55 [36,37],.anchor),(zO 7 (.new 94 [(.slice none 0 true 0),(.slice none 0 true 0),(.slice none 0 true 0),(.slice none 0 true 0),(.slice none 0 true 0)]),.new),(zT 5 7 38,.anchor)] [0,1,3,7,0,31,0,127]) (.seq (.draw [(zM 40 0,.calm),(zN 41 40,.calm),(zA 42 5 41,.calm),(zR 43 7 42,.reads 0 0),(zR 44 5 7,.reads 0 0),(zK 45 56 [43,44],.anchor),(zM 39 45,.calm),(zE 46 0 39,.calm),(zE 47 1 39,.calm),(zO 8 (.new 160 [(.slice none 0 true 0),(.slice none 0 true 0),(.slice none 0 true 0),(.slice none 0 true 0),(.slice none 0 true 0),(.int .i64 0),(.int .i64 0),(.int .i64 0),(.int .i64 0),(.int .i64 0),(.int .i64 0),(.int .i64 0),(.slice none 0 true 0)]),.new),(zT 13 8 46,.anchor),(zM 9 47,.calm)] [0,1,3,7,0,31,63,127,127,0,767,2047]) (.seq (zS [zM 48 9,zC 49 .neq 48 0] (.cond (.t 49) (zS [zM 50 9,zJ 4 0,zM 5 50] .ret) .skip)) (zS [zO 51 (.ldN 2 (.c (.ptr (some (0,0))))),zO 10 (.new 164 zY2),zT 2 10 51] (.seq (zS [zM 52 0,zN 53 52,zA 54 12 53,zL 55 54,zH 56 55,zJ 57 0] (.block 0 (.loop (zS [zB 58 .lss 57 56] (.seq (zX 58 0) (.seq (.block 1 (zS [zM 59 57,zU 60 1 55 57,zL 61 60,zM 11 59,zM 12 61] (.ops [zR 62 13 8,zM 63 11,zR 64 2 10,zM 65 12,zK 66 57 [62,63,64,65],zT 2 10 66]))) (.ops [zC 67 .add 57 1,zM 57 67]))))))) (zS [zJ 13 0] (.seq (zS [zA 68 19 3,zL 69 68] (.cond (.t 69) (.seq (.draw [(zR 70 13 8,.reads 0 0),(zK 71 58 [70],.anchor),(zA 72 0 10,.calm),(zL 73 72,.reads 0 1),(zC 74 .add 73 1,.calm),(zO 75 (.build zY3 [(0,1,(.t 71)),(1,1,(.t 74)),(2,1,(zI 1))]),.calm),(zJ 76 0,.calm)] [0,1,0,4,12,31,0]) (.block 2 (.loop (zS [zC 77 .lss 76 3] (.seq (zX 77 2) (.seq (.block 3 (zS [zO 78 (.idx 3 1 false (.t 75) (.t 76)),zM 15 78] (zS [zM 79 15,zR 80 13 8,zK 81 58 [80],zB 82 .leq 79 81,zM 83 82,zW 84 83 true (.ldN 13 (.t 8)),zV 85 83 true 6,zW 86 83 true (.ldN 2 (.t 10)),zV 87 83 true 15,zW 88 83 true (.call (zF 59) [(.t 84),(.t 85),(.t 86),(.t 87)]),zW 89 83 true (.bin .eql (.t 88) (zI 0)),zP 90 83 89] (.cond (.t 90) (zS [zM 91 15,zM 13 91] (.exit 2)) .skip)))) (.ops [zC 92 .add 76 1,zM 76 92]))))))) .skip)) (zS [zM 93 0,zR 94 5 7,zO 95 (.build [(.slice none 0 true 0),(.slice none 0 true 0),(.slice none 0 true 0),(.slice none 0 true 0),(.slice none 0 true 0)] [(0,5,(.t 94))]),zN 96 93,zA 97 0 96,zT 5 97 95] (zS [zM 98 0,zM 99 0,zN 100 99,zA 101 12 100,zL 102 101,zM 103 13,zO 104 (.bsl 3 1 1 [(.int .i64 0)] [(0,1,(.t 103))]),zO 105 (.app 3 1 8 [(.int .i64 0)] (.t 102) (.t 104)),zN 106 98,zA 107 12 106,zT 1 107 105] (zS [zM 108 13,zM 4 108,zJ 5 0] .ret))))))))))))),[.tmp 4,.tmp 5]⟩
theorem k15:cFn Tryz.prog 15=some x15:=by kernel_rfl
def x33:XF:=⟨78,zS [zO 2 (.box 28 (.t 0)),zO 4 (.new 28 zY8),zJ 5 0] (.seq (zS [zR 14 8 2,zK 15 90 [14],zM 6 15] (zS [zM 16 6,zC 17 .neq 16 0] (.cond (.t 17) (zS [zO 18 (.build zY8 []),zM 19 6,zT 8 4 18,zM 5 19] .ret) .skip))) (.seq (zS [zM 20 1,zO 21 (.call (zF 91) [(.t 20),(zI 0),(zI 32768)]),zO 22 (.un .not (.t 21))] (.cond (.t 22) (zS [zO 23 (.build zY8 []),zT 8 4 23,zJ 5 7] .ret) .skip)) (zS [zR 25 8 2,zK 26 92 [25],zK 27 93 [26],zM 24 27,zE 28 0 24,zE 29 1 24,zO 7 (.new 208 zY8),zT 8 7 28,zM 8 29] (.seq (zS [zM 30 8,zC 31 .neq 30 0] (.cond (.t 31) (zS [zO 32 (.build zY8 []),zM 33 8,zT 8 4 32,zM 5 33] .ret) .skip)) (zS [zM 34 1,zK 35 94 [34],zM 9 35] (zS [zO 36 (.build zY4 [(0,1,(zI 32768)),(1,1,(zI 32768)),(2,1,(zI 65536)),(3,1,(zI 65536))]),zM 37 1,zM 38 1,zM 39 9,zM 40 9,zO 41 (.build zY4 [(0,1,(.t 37)),(1,1,(.t 38)),(2,1,(.t 39)),(3,1,(.t 40))]),zO 10 (.new 219 zY4),zO 11 (.new 220 zY4),zT 4 10 36,zT 4 11 41] (.seq (zS [zR 42 8 7,zJ 43 0] (.block 0 (.loop (zS [zC 44 .lss 43 4] (.seq (zX 44 0) (.seq (.block 1 (zS [zM 45 43,zO 46 (.idx 4 2 true (.t 42) (.t 43)),zO 13 (.new 26 zY2),zM 12 45,zT 2 13 46] (.draw [(zM 47 12,.calm),(zM 48 12,.calm),(zO 49 (.iad (some 4) 1 (.t 10) (.t 48)),.calm),(zL 50 49,.reads 0 0),(zA 51 0 13,.calm),(zL 52 51,.reads 0 0),(zM 53 12,.calm),(zO 54 (.iad (some 4) 1 (.t 11) (.t 53)),.calm),(zL 55 54,.reads 0 0),(zB 56 .sub 52 55,.calm),(zK 57 95 [50,56],.new),(zM 58 12,.calm),(zO 59 (.iad (some 4) 1 (.t 10) (.t 58)),.calm),(zL 60 59,.reads 0 0),(zA 61 1 13,.calm),(zL 62 61,.reads 0 0),(zM 63 12,.calm),(zO 64 (.iad (some 4) 1 (.t 11) (.t 63)),.calm),(zL 65 64,.reads 0 0),(zB 66 .add 62 65,.calm),(zK 67 95 [60,66],.new),(zO 68 (.build zY2 [(0,1,(.t 57)),(1,1,(.t 67))]),.calm),(zO 69 (.iad (some 4) 2 (.t 7) (.t 47)),.calm),(zT 2 69 68,.anchor)] [0,0,2,6,0,16,0,64,192,496,1022,0,2048,6144,0,16384,0,65536,196608,507904,1048574,2097150,4194303,8388607]))) (.ops [zC 70 .add 43 1,zM 43 70]))))))) (zS [zR 71 8 7,zK 72 93 [71],zE 73 0 72,zE 74 1 72,zK 75 96 [73,74],zE 76 0 75,zE 77 1 75,zT 8 4 76,zM 5 77] .ret)))))))),[.cellN 4 8,.tmp 5]⟩
theorem k33:cFn Tryz.prog 33=some x33:=by kernel_rfl
def x90:XF:=⟨24,zS [zO 1 (.box 28 (.t 0)),zJ 2 0] (zS [zO 6 (.mkf 151 [(zI 32768)] []),zO 7 (.mkf 151 [(zI 32768)] []),zO 8 (.mkf 151 [(zI 65536)] []),zO 9 (.mkf 151 [(zI 65536)] []),zO 10 (.build [.nilFunc,.nilFunc,.nilFunc,.nilFunc] [(0,1,(.t 6)),(1,1,(.t 7)),(2,1,(.t 8)),(3,1,(.t 9))]),zO 3 (.new 299 [.nilFunc,.nilFunc,.nilFunc,.nilFunc]),zT 4 3 10] (.seq (zS [zR 11 8 1,zK 12 92 [11],zJ 13 0] (.block 0 (.loop (zS [zC 14 .lss 13 4] (.seq (zX 14 0) (.seq (.block 1 (zS [zM 15 13,zO 16 (.idx 4 2 true (.t 12) (.t 13)),zO 5 (.new 26 zY2),zM 4 15,zT 2 5 16] (.seq (.draw [(zM 17 4,.calm),(zO 18 (.iad (some 4) 1 (.t 3) (.t 17)),.calm),(zL 19 18,.reads 0 0),(zR 20 2 5,.reads 0 0),(zO 21 (.call (.t 19) [(.t 20)]),.anchor),(zO 22 (.un .not (.t 21)),.calm)] [0,1,3,0,15,31]) (.cond (.t 22) (zS [zJ 2 11] .ret) .skip)))) (.ops [zC 23 .add 13 1,zM 13 23]))))))) (zS [zJ 2 0] .ret))),[.tmp 2]⟩
theorem k90:cFn Tryz.prog 90=some x90:=by kernel_rfl
def x199:XF:=⟨34,zS [zO 2 (.box 206 (.t 0))] (zS [zR 6 8 1,zK 7 200 [6]] (.block 0 (.rfun (.t 7) [8] (.ops [zO 3 (.new 363 zY3),zT 3 3 8]) (.block 1 (.seq (.draw [(zA 9 0 3,.calm),(zL 10 9,.reads 0 0),(zA 11 1 3,.calm),(zL 12 11,.reads 0 0),(zO 13 (.build zY2 [(0,1,(.t 10)),(1,1,(.t 12))]),.calm),(zA 14 0 3,.calm),(zL 15 14,.reads 0 1),(zA 16 2 3,.calm),(zL 17 16,.reads 0 1),(zO 18 (.build zY2 [(0,1,(.t 15)),(1,1,(.t 17))]),.calm),(zO 4 (.new 30 zY2),.new),(zO 5 (.new 30 zY2),.new),(zT 2 4 13,.anchor),(zT 2 5 18,.anchor)] [0,1,0,4,15,0,32,0,128,480,0,0,3103,8191]) (zS [zL 19 2,zR 20 2 4,zO 21 (.call (.t 19) [(.t 20)]),zO 22 (.un .not (.t 21)),zM 23 22,zW 24 23 false (.ldN 2 (.t 4)),zW 25 23 false (.ldN 2 (.t 5)),zW 26 23 false (.eqs true 2 [0,1] (.t 24) (.t 25)),zV 27 23 false 26,zW 28 27 true (.ld1 (.t 2)),zW 29 27 true (.ldN 2 (.t 5)),zW 30 27 true (.call (.t 28) [(.t 29)]),zW 31 27 true (.un .not (.t 30)),zW 32 23 false (.pick (.t 27) (.t 31) (.c (.bool false))),zO 33 (.pick (.t 23) (.c (.bool true)) (.t 32))] (.cond (.t 33) .ret .skip))))))),[]⟩
theorem k199:cFn Tryz.prog 199=some x199:=by kernel_rfl
noncomputable def Y5:=Ev 5 []
noncomputable def Y14:=Ev 14 []
noncomputable def Y16:=Ev 16 []
noncomputable def Y17:=Ev 17 []
noncomputable def Y19:=Ev 19 []
noncomputable def Y23:=Ev 23 []
noncomputable def Y24:=Ev 24 []
noncomputable def Y25:=Ev 25 []
noncomputable def Y27:=Ev 27 [[kc,kc,kc,kr 0 0,kc,kc,kc,kr 0 0]]
noncomputable def Y53:=Ev 53 []
noncomputable def Y54:=Ev 54 []
noncomputable def Y55:=Ev 55 [[kc,kc,kr 0 0,ka,kc,kr 0 1,kn,ka,kc,kc,kr 0 2,ka,kc,kr 0 3,kn,ka,kc,kc,kr 0 4,ka,kc,kr 0 5,kn,ka,kc,kc,kr 0 6,ka,kc,kr 0 7,kn,ka,kc,kc,kr 0 8,ka,kc,kn,ka]]
noncomputable def Y56:=Ev 56 []
noncomputable def Y57:=Ev 57 [[kc,kr 0 1,kr 0 0,ka]]
noncomputable def Y58:=Ev 58 []
noncomputable def Y59:=Ev 59 []
noncomputable def Y60:=Ev 60 []
noncomputable def Y61:=Ev 61 [[kr 0 2,kr 0 0,kr 0 0,ka,ka,ka]]
noncomputable def Y62:=Ev 62 []
noncomputable def Y63:=Ev 63 []
noncomputable def Y64:=Ev 64 [[kc,kc,kr 0 0,kc,kr 0 0,kc,kr 0 0,kr 0 0,kc,kn,ka]]
noncomputable def Y66:=Ev 66 []
noncomputable def Y67:=Ev 67 []
noncomputable def Y69:=Ev 69 []
noncomputable def Y72:=Ev 72 [[kc,kc,kc,kr 0 0,kc,kc,kc,kr 0 0,ka]]
noncomputable def Y74:=Ev 74 []
noncomputable def Y78:=Ev 78 []
noncomputable def Y79:=Ev 79 []
noncomputable def Y80:=Ev 80 []
noncomputable def Y87:=Ev 87 [[kr 0 1,kr 0 0,ka,ka,ka],[kr 0 0,kr 0 1,ka,ka]]
noncomputable def Y89:=Ev 89 []
noncomputable def Y91:=Ev 91 []
noncomputable def Y92:=Ev 92 []
noncomputable def Y93:=Ev 93 []
noncomputable def Y94:=Ev 94 []
noncomputable def Y95:=Ev 95 []
noncomputable def Y96:=Ev 96 []
noncomputable def Y124:=Ev 124 []
noncomputable def Y125:=Ev 125 []
noncomputable def Y126:=Ev 126 []
noncomputable def Y127:=Ev 127 []
noncomputable def Y128:=Ev 128 []
noncomputable def Y129:=Ev 129 []
noncomputable def Y130:=Ev 130 []
noncomputable def Y131:=Ev 131 []
noncomputable def Y132:=Ev 132 []
noncomputable def Y133:=Ev 133 []
noncomputable def Y134:=Ev 134 []
noncomputable def Y136:=Ev 136 []
noncomputable def Y137:=Ev 137 [[kc,kr 0 1,kc,kr 0 1,kc,kc,kr 0 0,ka,kc,kn,ka]]
noncomputable def Y138:=Ev 138 [[kc,kr 0 0,ka,kc,kr 0 1,ka,kr 2 2,kc,kr 0 2,ka,ka]]
noncomputable def Y139:=Ev 139 []
noncomputable def Y140:=Ev 140 []
noncomputable def Y141:=Ev 141 [[kr 0 0,kr 0 0,ka]]
noncomputable def Y142:=Ev 142 []
noncomputable def Y143:=Ev 143 []
noncomputable def Y144:=Ev 144 []
noncomputable def Y145:=Ev 145 []
noncomputable def Y146:=Ev 146 []
noncomputable def Y148:=Ev 148 []
noncomputable def Y149:=Ev 149 [[kc,kc,kc,kc,kr 0 0,kc,kc,kr 0 0,ka,kc,ka]]
noncomputable def Y150:=Ev 150 []
noncomputable def Y151:=Ev 151 []
noncomputable def Y152:=Ev 152 []
noncomputable def Y153:=Ev 153 []
noncomputable def Y182:=Ev 182 []
noncomputable def Y183:=Ev 183 [[kc,kr 0 0,kc,kc,kr 0 0,kr 0 0,kc,kc,kr 0 0,ka,kc,kc,kc,kn,ka]]
noncomputable def Y184:=Ev 184 []
noncomputable def Y185:=Ev 185 []
noncomputable def Y186:=Ev 186 []
noncomputable def Y188:=Ev 188 []
noncomputable def Y189:=Ev 189 [[kc,kc,kc,kr 0 0,kc,kc,kc,kr 0 0,ka]]
noncomputable def Y190:=Ev 190 []
noncomputable def Y191:=Ev 191 []
noncomputable def Y192:=Ev 192 [[kc,kc,kc,kr 0 0,kc,kc,kc,kc,kr 0 0,kc,ka]]
noncomputable def Y193:=Ev 193 []
noncomputable def Y194:=Ev 194 []
noncomputable def Y195:=Ev 195 []
noncomputable def Y196:=Ev 196 []
noncomputable def Y197:=Ev 197 []
noncomputable def Y198:=Ev 198 []
noncomputable def Y200:=Ev 200 []
noncomputable def Y205:=Ev 205 []
noncomputable def Y240:=Ev 240 []
noncomputable def Y241:=Ev 241 []
noncomputable def Y242:=Ev 242 []
noncomputable def Y243:=Ev 243 []
noncomputable def Y244:=Ev 244 []
noncomputable def Y245:=Ev 245 []
noncomputable def Y246:=Ev 246 []
noncomputable def Y247:=Ev 247 [[kc,kc,kc,kc,kc,kc,kc,kc,kr 0 0,kc,kc,kc,kr 0 0,ka]]
noncomputable def Y248:=Ev 248 []
noncomputable def Y249:=Ev 249 []
noncomputable def Y259:=Ev 259 []
noncomputable def Y264:=Ev 264 []
noncomputable def Y269:=Ev 269 []
noncomputable def Y273:=Ev 273 []
noncomputable def Y300:=Ev 300 [[kr 0 0,kr 0 0,ka,kc,kc,kc,kc,kc,kc,kc,kr 1 1,kc,kc,kc,kc,kr 1 1,kc,kr 1 1]]
noncomputable def Y301:=Ev 301 []
noncomputable def Y302:=Ev 302 []
noncomputable def Y303:=Ev 303 []
noncomputable def Y304:=Ev 304 [[kc,kc,kr 0 0,kc,kr 0 0,kc,kr 0 0,kc,kr 0 0,ka,kc,kc,kc,kn,ka]]
noncomputable def Y305:=Ev 305 [[kr 0 0,ka,kr 0 1,ka,kn,ka],[kr 0 0,kr 0 1,ka,ka]]
noncomputable def Y306:=Ev 306 []
noncomputable def Y307:=Ev 307 []
noncomputable def Y308:=Ev 308 [[kc,kc,kc,kc,kc,kc,kc,kc,kr 0 0,kc,kc,kc,kc,kr 0 0,ka],[kc,kc,kc,kc,kc,kc,kc,kc,kc,kr 0 0,kc,kc,kc,kr 0 0,kc,ka,kc,ka]]
noncomputable def Y309:=Ev 309 [[kc,kc,kc,kc,kc,kc,kc,kc,kc,kc,kc,kr 0 0,kc,kc,kc,kr 0 0,kc,ka,kc,ka]]
noncomputable def Y310:=Ev 310 [[kc,kc,kc,kc,kc,kc,kc,kc,kc,kc,kc,kr 0 0,kc,kc,kc,kr 0 0,kc,ka,kc,ka]]
noncomputable def Y311:=Ev 311 []
noncomputable def Y312:=Ev 312 [[kc,kc,kc,kc,kc,kc,kc,kr 0 0,kc,kc,kc,kr 0 0,kc,ka,kc,ka]]
noncomputable def Y313:=Ev 313 [[kc,kc,kc,kc,kc,kc,kc,kc,kr 0 0,kc,kc,kc,kc,kr 0 0,ka],[kc,kc,kc,kc,kc,kc,kc,kc,kc,kr 0 0,kc,kc,kc,kr 0 0,kc,ka,kc,ka],[kc,kc,kc,kc,kr 0 0,kc,kc,kc,kc,kr 0 0,ka],[kc,kc,kc,kc,kc,kc,kc,kc,kc,kr 0 0,kc,kc,kc,kr 0 0,kc,ka,kc,ka],[kc,kc,kc,kc,kr 0 0,kc,kc,kc,kc,kr 0 0,ka],[kc,kc,kc,kc,kc,kc,kc,kc,kc,kr 0 0,kc,kc,kc,kr 0 0,kc,ka,kc,ka]]
noncomputable def Y315:=Ev 315 [[kc,kc,kc,kc,kc,kc,kc,kr 0 0,kc,kc,kc,kr 0 0,kc,ka,kc,ka],[kc,kc,kc,kc,kc,kc,kc,kc,kr 0 0,kc,kc,kc,kr 0 0,ka],[kc,kc,kc,kc,kc,kc,kc,kc,kr 0 0,kc,kc,kc,kr 0 0,ka],[kc,kc,kc,kc,kc,kc,kc,kr 0 0,kc,kc,kc,kr 0 0,kc,ka,kc,ka],[kc,kc,kc,kc,kc,kc,kc,kr 0 0,kc,kc,kc,kr 0 0,kc,ka,kc,ka],[kc,kc,kc,kc,kc,kc,kc,kc,kr 0 0,kc,kc,kc,kr 0 0,ka],[kc,kc,kc,kc,kc,kc,kc,kc,kr 0 0,kc,kc,kc,kr 0 0,ka],[kc,kc,kc,kc,kc,kc,kc,kr 0 0,kc,kc,kc,kr 0 0,kc,ka,kc,ka],[kc,kc,kc,kc,kc,kc,kc,kr 0 0,kc,kc,kc,kr 0 0,kc,ka,kc,ka]]
noncomputable def Y317:=Ev 317 []
noncomputable def Y318:=Ev 318 [[kc,kc,kr 0 0,kc,kc,kr 0 0,kc,kc,kc,ka],[kc,kc,kr 0 0,kc,kc,kr 0 0,kc,kc,kc,ka],[kc,kc,kr 0 0,kc,kc,kr 0 0,kc,kc,kc,ka]]
noncomputable def Y338:=Ev 338 []
noncomputable def Y339:=Ev 339 [[kc,kr 0 1,kr 0 0,ka,kc,kn,kc,kc,kc,kr 1 1,ka,kc,kc,kc,kc,kr 2 2,kc,kc,kc,kc,kr 2 2,kc,kr 2 2,kn]]
noncomputable def Y340:=Ev 340 []
noncomputable def Y341:=Ev 341 []
noncomputable def Y342:=Ev 342 [[kc,kr 0 0,kc,kr 0 0,kr 0 0,kc,kr 0 0,kc,kc,ka]]
noncomputable def Y343:=Ev 343 [[kr 0 0,ka,kr 0 1,ka,kn,ka],[kr 0 0,ka,kr 0 1,ka,ka,ka,kc,kc,ka,kc,kc,ka]]
noncomputable def Y344:=Ev 344 [[kc,kr 0 0,kc,kr 0 0,kc,kr 0 0,kc,kc,kc,kr 0 0,kc,kc,kr 0 0,kc,kr 0 0,kc,kc,kr 0 0,kc,kr 0 0]]
noncomputable def Y345:=Ev 345 [[kr 0 0,kr 0 1,ka,ka]]
noncomputable def Y346:=Ev 346 []
noncomputable def Y347:=Ev 347 []
noncomputable def Y348:=Ev 348 [[kc,kc,kc,kc,kc,kc,kc,kc,kc,kc,kc,kr 0 0,kc,kc,kc,kc,kc,kc,kr 0 0,ka],[kc,kc,kc,kc,kc,kc,kr 0 0,kc,kc,kc,kc,kc,kr 0 0,ka],[kc,kc,kc,kc,kc,kc,kc,kc,kc,kc,kc,kc,kc,kr 0 0,kc,kc,kc,kc,kc,kr 0 0,kc,ka,kc,ka]]
noncomputable def Y349:=Ev 349 []
noncomputable def Y350:=Ev 350 []
noncomputable def Y358:=Ev 358 []
noncomputable def Y359:=Ev 359 []
noncomputable def Y360:=Ev 360 [[kc,kc,kc,kc,kr 0 0,kc,kc,kc,kr 0 0,ka]]
noncomputable def Y392:=Ev 392 [[kc,kc,kc,kc,kc,kc,kr 0 0,kc,kc,kc,kr 0 0,kc,kc,kc,kc,kc,kr 0 0,kc,kc,kc,kr 0 1,kc,kc,kc,kc,ka,kc,kc,kc,ka],[kc,kc,kc,kc,kc,kc,kr 0 0,kc,kc,kc,kr 0 0,kc,kr 0 0,kc,kc,kc,kc,kc,kc,kr 0 0,kc,kc,kc,kr 0 1,kc,kr 0 1,kc,kc,kc,kc,kc,ka,kc,kc,kc,ka]]
noncomputable def Y394:=Ev 394 [[kc,kc,kc,kc,kc,kc,kr 0 0,kc,kc,kc,kr 0 0,kc,kc,kc,kc,kc,kr 0 0,kc,kc,kc,kr 0 1,kc,kc,kc,kc,ka,kc,kc,kc,ka],[kc,kc,kc,kc,kc,kc,kr 0 0,kc,kc,kc,kr 0 0,kc,kr 0 0,kc,kc,kc,kc,kc,kc,kr 0 0,kc,kc,kc,kr 0 1,kc,kr 0 1,kc,kc,kc,kc,kc,ka,kc,kc,kc,ka]]
noncomputable def Y395:=Ev 395 [[kc,kc,kc,kc,kc,kc,kr 0 0,kc,kc,kc,kr 0 0,kc,kc,kc,kc,kc,kr 0 0,kc,kc,kc,kr 0 1,kc,kc,kc,kc,ka,kc,kc,kc,ka],[kc,kc,kc,kc,kc,kc,kr 0 0,kc,kc,kc,kr 0 0,kc,kr 0 0,kc,kc,kc,kc,kc,kc,kr 0 0,kc,kc,kc,kr 0 1,kc,kr 0 1,kc,kc,kc,kc,kc,ka,kc,kc,kc,ka]]
noncomputable def Y396:=Ev 396 [[kc,kc,kc,kc,kc,kc,kr 0 0,kc,kc,kc,kr 0 0,kc,kc,kc,kc,kc,kr 0 0,kc,kc,kc,kr 0 1,kc,kc,kc,kc,ka,kc,kc,kc,ka],[kc,kc,kc,kc,kc,kc,kr 0 0,kc,kc,kc,kr 0 0,kc,kr 0 0,kc,kc,kc,kc,kc,kc,kr 0 0,kc,kc,kc,kr 0 1,kc,kr 0 1,kc,kc,kc,kc,kc,ka,kc,kc,kc,ka]]
noncomputable def Y397:=Ev 397 [[kc,kc,kc,kc,kc,kc,kr 0 0,kc,kc,kc,kr 0 0,kc,kc,kc,kc,kc,kr 0 0,kc,kc,kc,kr 0 1,kc,kc,kc,kc,ka,kc,kc,kc,ka],[kc,kc,kc,kc,kc,kc,kr 0 0,kc,kc,kc,kr 0 0,kc,kr 0 0,kc,kc,kc,kc,kc,kc,kr 0 0,kc,kc,kc,kr 0 1,kc,kr 0 1,kc,kc,kc,kc,kc,ka,kc,kc,kc,ka]]
noncomputable def Y398:=Ev 398 [[kc,kc,kc,kc,kc,kc,kr 0 0,kc,kc,kc,kr 0 0,kc,kc,kc,kc,kc,kr 0 0,kc,kc,kc,kr 0 1,kc,kc,kc,kc,ka,kc,kc,kc,ka],[kc,kc,kc,kc,kc,kc,kr 0 0,kc,kc,kc,kr 0 0,kc,kr 0 0,kc,kc,kc,kc,kc,kc,kr 0 0,kc,kc,kc,kr 0 1,kc,kr 0 1,kc,kc,kc,kc,kc,ka,kc,kc,kc,ka]]
noncomputable def Y399:=Ev 399 [[kc,kc,kc,kc,kc,kc,kr 0 0,kc,kc,kc,kr 0 0,kc,kc,kc,kc,kc,kr 0 0,kc,kc,kc,kr 0 1,kc,kc,kc,kc,ka,kc,kc,kc,ka],[kc,kc,kc,kc,kc,kc,kr 0 0,kc,kc,kc,kr 0 0,kc,kr 0 0,kc,kc,kc,kc,kc,kc,kr 0 0,kc,kc,kc,kr 0 1,kc,kr 0 1,kc,kc,kc,kc,kc,ka,kc,kc,kc,ka]]
noncomputable def Y400:=Ev 400 [[kc,kc,kc,kc,kc,kc,kr 0 0,kc,kc,kc,kr 0 0,kc,kc,kc,kc,kc,kr 0 0,kc,kc,kc,kr 0 1,kc,kc,kc,kc,ka,kc,kc,kc,ka],[kc,kc,kc,kc,kc,kc,kr 0 0,kc,kc,kc,kr 0 0,kc,kr 0 0,kc,kc,kc,kc,kc,kc,kr 0 0,kc,kc,kc,kr 0 1,kc,kr 0 1,kc,kc,kc,kc,kc,ka,kc,kc,kc,ka]]
