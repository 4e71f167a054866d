/-
 Part of the proof of TapeKept. No condition beyond those in each theorem.
-/
import Derived.Test.YtpgalhbplcanhaaGreatDoorCards
import Derived.Test.YtpgalhbplcanhaaGreatDoorTie
import Derived.Test.YtpgalhbplcanhaaGreatDoorPvH
import Derived.Test.YtpgalhbplcanhaaGreatDoorSA
import Derived.Test.YtpgalhbplcanhaaGreatDoorSJ
import Derived.WalkKit
import Derived.ProofKit
import Derived.OpenShut
import Derived.Deep.DeepHandedRow
import Derived.Deep.DeepWitnessRowRef
import Derived.Lib.LaidTab
import Derived.Stop.LaidErr
import Derived.LaidHandle
import Derived.LaidMore
set_option linter.unusedVariables false
set_option linter.unusedSectionVars false
namespace Go.Proofs.YtpgalhbplcanhaaGreatDoor.C
open Go PvL Go.Proofs Go.ChangeShapes Go.WideShapes Go.ChangeAt Go.RowKit Go.Proofs.YtpgalhbplcanhaaGreatDoor
theorem own:ownKnob Tryz.prog.godebug=none:=by kernel_rfl
theorem g8:Tryz.prog.globalNamed "math/bits.deBruijn64tab"=some 8:=by kernel_rfl
theorem g4:Tryz.prog.globalNamed "internal/strconv.uint64pow10"=some 4:=by kernel_rfl
theorem g0:Tryz.prog.globalNamed "paravane/watch.first"=some 0:=by kernel_rfl
theorem g8t:(Tryz.prog.globals[8]?).map (·.type)=some 526:=by kernel_rfl
theorem g4t:(Tryz.prog.globals[4]?).map (·.type)=some 492:=by kernel_rfl
theorem g0t:(Tryz.prog.globals[0]?).map (·.type)=some 164:=by kernel_rfl
theorem u64t:Tryz.prog.underlying 526=some (.array 64 5):=by kernel_rfl
theorem u20t:Tryz.prog.underlying 492=some (.array 20 430):=by kernel_rfl
theorem u2t:Tryz.prog.underlying 164=some (.struct #[{ name:= "mode",type:=3,offset:=0,embedded:=false,tag:= "",pkgPath:= "paravane/watch",byteOffset:=0 },{ name:= "quiet",type:=3,offset:=1,embedded:=false,tag:= "",pkgPath:= "paravane/watch",byteOffset:=8 }]):=by kernel_rfl
theorem uu8:Tryz.prog.underlying 5=some (.int .u8):=by kernel_rfl
theorem uu64:Tryz.prog.underlying 430=some (.int .u64):=by kernel_rfl
theorem ui64:Tryz.prog.underlying 3=some (.int .i64):=by kernel_rfl
theorem zek{P:Program}{W:World}{name:String}{a b:Int}{rest:List (String×DataW Unit)}{g:Nat}{t:TypeId}{d f:Field}(J:P.globalNamed name=some g)(r:(P.globals[g]?).map (·.type)=some t)(K:P.underlying t=some (.struct #[d,f]))(G:d.offset=0)(h1:f.offset=1)
  (j:P.underlying d.type=some (.int .i64)) (m:P.underlying f.type=some (.int .i64)) (B:P.cellsOf d.type=1) (C:P.cellsOf f.type=1) (E:P.cellsOf t=2) (h:laidMet P ((name,Lib.tabData .i64 [a,b])::rest) W):Lib.TabIs P W name .i64 [a,b]:=by
 obtain⟨O,⟨N,Q,D,z,p,q,i,o,c,H,_,_⟩,_⟩:=h
 obtain rfl:=Option.some.inj (J.symm.trans i)
 obtain rfl:=Option.some.inj (r.symm.trans o)
 obtain⟨R,S,n,e,A,x,y⟩:=trod_struct2 K H
 rw[G,B] at x
 rw[h1,C] at y
 rw[E] at A
 obtain⟨L,s,rfl,_⟩:=DataW.trod_int j x
 obtain⟨M,w,rfl,_⟩:=DataW.trod_int m y
 have F:=congrArg Prod.fst e
 obtain⟨rfl,rfl⟩:a=L/\b=M:=by simpa [Lib.tabData] using F
 obtain⟨l⟩:=D
 match l,A with
 | [u,v],_=>
  obtain rfl:u=_:=List.cons.inj s |>.1
  obtain rfl:v=_:=List.cons.inj w |>.1
  unfold Lib.TabIs
  rw[c];rfl
theorem g6:Tryz.prog.globalNamed "paravane/watch.octants"=some 6:=by kernel_rfl
theorem g6t:(Tryz.prog.globals[6]?).map (·.type)=some 518:=by kernel_rfl
theorem u6t:Tryz.prog.underlying 518=some (.array 8 517):=by kernel_rfl
theorem c6t:Tryz.prog.cellsOf 517=1:=by kernel_rfl
theorem c6:Tryz.prog.cellsOf 518=8:=by kernel_rfl
theorem uft:Tryz.prog.underlying 517=some (.func #[520,521] #[] false):=by kernel_rfl
theorem one0:((List.range Tryz.prog.funcs.size).filter fun f=>(Tryz.prog.funcs[f]?).any (·.name.toUTF8.data.toList==[40,112,97,114,97,118,97,110,101,47,119,97,116,99,104,46,99,111,110,101,41,46,111,99,116,97,110,116,48]))=[392]:=by kernel_rfl
theorem one1:((List.range Tryz.prog.funcs.size).filter fun f=>(Tryz.prog.funcs[f]?).any (·.name.toUTF8.data.toList==[40,112,97,114,97,118,97,110,101,47,119,97,116,99,104,46,99,111,110,101,41,46,111,99,116,97,110,116,49]))=[394]:=by kernel_rfl
theorem one2:((List.range Tryz.prog.funcs.size).filter fun f=>(Tryz.prog.funcs[f]?).any (·.name.toUTF8.data.toList==[40,112,97,114,97,118,97,110,101,47,119,97,116,99,104,46,99,111,110,101,41,46,111,99,116,97,110,116,50]))=[395]:=by kernel_rfl
theorem one3:((List.range Tryz.prog.funcs.size).filter fun f=>(Tryz.prog.funcs[f]?).any (·.name.toUTF8.data.toList==[40,112,97,114,97,118,97,110,101,47,119,97,116,99,104,46,99,111,110,101,41,46,111,99,116,97,110,116,51]))=[396]:=by kernel_rfl
theorem one4:((List.range Tryz.prog.funcs.size).filter fun f=>(Tryz.prog.funcs[f]?).any (·.name.toUTF8.data.toList==[40,112,97,114,97,118,97,110,101,47,119,97,116,99,104,46,99,111,110,101,41,46,111,99,116,97,110,116,52]))=[397]:=by kernel_rfl
theorem one5:((List.range Tryz.prog.funcs.size).filter fun f=>(Tryz.prog.funcs[f]?).any (·.name.toUTF8.data.toList==[40,112,97,114,97,118,97,110,101,47,119,97,116,99,104,46,99,111,110,101,41,46,111,99,116,97,110,116,53]))=[398]:=by kernel_rfl
theorem one6:((List.range Tryz.prog.funcs.size).filter fun f=>(Tryz.prog.funcs[f]?).any (·.name.toUTF8.data.toList==[40,112,97,114,97,118,97,110,101,47,119,97,116,99,104,46,99,111,110,101,41,46,111,99,116,97,110,116,54]))=[399]:=by kernel_rfl
theorem one7:((List.range Tryz.prog.funcs.size).filter fun f=>(Tryz.prog.funcs[f]?).any (·.name.toUTF8.data.toList==[40,112,97,114,97,118,97,110,101,47,119,97,116,99,104,46,99,111,110,101,41,46,111,99,116,97,110,116,55]))=[400]:=by kernel_rfl
theorem octLen8{α:Type}:∀ {l:List α},l.length=8->∃ h j m v3 n o v6 p,l=[h,j,m,v3,n,o,v6,p]
 | [a,b,c,d,e,f,g,i],_=>⟨a,b,c,d,e,f,g,i,rfl⟩
set_option maxRecDepth 100000 in
theorem zsn{W:World}(h:laidMetH Tryz.prog Go.Proofs.YtpgalhbplcanhaaGreatDoor.Rows.tapeKeptRow.laid W){l:Tab}(E:TabW l W):TabW ((6,ocs,0)::l) W:=by
 obtain⟨g',t',j,w,p,C,F,f,B⟩:=laidMetH.funcs h (n:= "paravane/watch.octants") (.tail _ (.tail _ (.tail _ (.tail _ (.head _)))))
 obtain rfl:=Option.some.inj (g6.symm.trans C)
 obtain rfl:=Option.some.inj (g6t.symm.trans F)
 obtain⟨z,m,_,e,d,G,r⟩:=DataW.trod_array u6t B
 rw[c6] at d
 have A:z.map (·.1)=[DataW.held (H:=List UInt8) [40,112,97,114,97,118,97,110,101,47,119,97,116,99,104,46,99,111,110,101,41,46,111,99,116,97,110,116,48],DataW.held (H:=List UInt8) [40,112,97,114,97,118,97,110,101,47,119,97,116,99,104,46,99,111,110,101,41,46,111,99,116,97,110,116,49],DataW.held (H:=List UInt8) [40,112,97,114,97,118,97,110,101,47,119,97,116,99,104,46,99,111,110,101,41,46,111,99,116,97,110,116,50],DataW.held (H:=List UInt8) [40,112,97,114,97,118,97,110,101,47,119,97,116,99,104,46,99,111,110,101,41,46,111,99,116,97,110,116,51],DataW.held (H:=List UInt8) [40,112,97,114,97,118,97,110,101,47,119,97,116,99,104,46,99,111,110,101,41,46,111,99,116,97,110,116,52],DataW.held (H:=List UInt8) [40,112,97,114,97,118,97,110,101,47,119,97,116,99,104,46,99,111,110,101,41,46,111,99,116,97,110,116,53],DataW.held (H:=List UInt8) [40,112,97,114,97,118,97,110,101,47,119,97,116,99,104,46,99,111,110,101,41,46,111,99,116,97,110,116,54],DataW.held (H:=List UInt8) [40,112,97,114,97,118,97,110,101,47,119,97,116,99,104,46,99,111,110,101,41,46,111,99,116,97,110,116,55]]:=(DataW.agg.inj (congrArg Prod.fst e)).symm
 obtain⟨l'⟩:=j
 obtain⟨S,U,V,X,Y,Z,v6,v7,rfl⟩:=octLen8 d
 have a:∀(i:Nat) (c:i<8) (u:List UInt8),(z.map (·.1))[i]?=some (DataW.held u)->∃ q,DataW.trod (funcToken Tryz.prog) Tryz.prog W 0 (fun _=>true) true m 517 (([S,U,V,X,Y,Z,v6,v7].drop (i*1)).take 1)=some (.held u,q):=fun i c u g=>by
  have o:=r i c
  rw[c6t] at o
  rw[List.getElem?_map] at g
  obtain⟨y,J,s⟩:=Option.map_eq_some_iff.1 g
  rw[J] at o
  exact⟨y.2,by rw[o];exact congrArg some (Prod.ext s rfl)⟩
 rw[A] at a
 obtain⟨q0,K⟩:=a 0 (by decide) _ rfl
 obtain⟨q1,L⟩:=a 1 (by decide) _ rfl
 obtain⟨q2,M⟩:=a 2 (by decide) _ rfl
 obtain⟨q3,N⟩:=a 3 (by decide) _ rfl
 obtain⟨q4,O⟩:=a 4 (by decide) _ rfl
 obtain⟨q5,P⟩:=a 5 (by decide) _ rfl
 obtain⟨q6,Q⟩:=a 6 (by decide) _ rfl
 obtain⟨q7,R⟩:=a 7 (by decide) _ rfl
 obtain rfl:=func_of_trod uft one0 K
 obtain rfl:=func_of_trod uft one1 L
 obtain rfl:=func_of_trod uft one2 M
 obtain rfl:=func_of_trod uft one3 N
 obtain rfl:=func_of_trod uft one4 O
 obtain rfl:=func_of_trod uft one5 P
 obtain rfl:=func_of_trod uft one6 Q
 obtain rfl:=func_of_trod uft one7 R
 intro x g
 rcases List.mem_cons.1 g with rfl|g
 ·unfold World.var? at f
  rw[g6] at f
  have f:(match W.heap[6]? with|some (.cells j _ _)=>some j|_=>none)=_:=f
  split at f
  ·rename_i j t fr D
   cases f
   refine⟨_,t,fr,D,fun i v c=>?_⟩
   match i,c with
   | 0,c | 1,c | 2,c | 3,c | 4,c | 5,c | 6,c | 7,c=>
    cases c
    exact⟨_,rfl,.func .nil .nil⟩
  ·cases f
 ·exact E x g
theorem zt4{W:World}(h:laidMetH Tryz.prog Go.Proofs.YtpgalhbplcanhaaGreatDoor.Rows.tapeKeptRow.laid W):TabW tabsK W:=by
 have a:laidMet Tryz.prog (("math/bits.deBruijn64tab",Lib.tabData .u8 zs5) ::("internal/strconv.uint64pow10",Lib.tabData .u64 zs2) ::("paravane/watch.first",Lib.tabData .i64 zs1)::[]) W:=laidMet.tail (show laidMet Tryz.prog (_::_) W from h.1)
 have f:=Lib.tabIs_of_head (P:=Tryz.prog) g8 g8t u64t uu8 (by kernel_rfl) (by kernel_rfl) a
 have c:=laidMet.tail a
 have t4:=Lib.tabIs_of_head (P:=Tryz.prog) g4 g4t u20t uu64 (by kernel_rfl) (by kernel_rfl) c
 have d:=laidMet.tail c
 have e:=zek (P:=Tryz.prog) g0 g0t u2t rfl rfl ui64 ui64 (by kernel_rfl) (by kernel_rfl) (by kernel_rfl) d
 exact za7 e g0 (za7 t4 g4 (zsn h (za7 f g8 zp3)))
noncomputable def laidWorld(c:Os):World :=
 let N:=(World.settled Tryz.prog c).heap.size
 let d:=World.holding Tryz.prog c ⟨#[.cells #[.string ⟨⟨[105,110,118,97,108,105,100,32,115,121,110,116,97,120]⟩⟩] 497,.cells #[.string ⟨⟨[118,97,108,117,101,32,111,117,116,32,111,102,32,114,97,110,103,101]⟩⟩] 497],#[],[]⟩
 let put (h:Array Obj) (g:Nat) (e:Array Value):Array Obj:=h.modify g fun
  | .cells _ t a=>.cells e t a
  | o=>o
 let f:=put d.heap 0 (zs1.map fun z=>Value.int .i64 z).toArray
 let i:=put f 1 (zs0.map fun z=>Value.int .i64 z).toArray
 let j:=put i 2 #[.iface 495 (.pointer (some ⟨N,0,none⟩))]
 let m:=put j 3 #[.iface 495 (.pointer (some ⟨N+1,0,none⟩))]
 let n:=put m 4 (zs2.map fun z=>Value.int .u64 z).toArray
 let p:=put n 6 (#[392,394,395,396,397,398,399,400].map fun g=>Value.func (.func g) #[] #[])
 let q:=put p 7 (zs4.map fun z=>Value.int .u8 z).toArray
 let r:=put q 8 (zs5.map fun z=>Value.int .u8 z).toArray
 {d with heap:=r }
theorem law1{m:Mem}{x:TA [(wtShK,true),((.sl lkShK 168),false)]}{a:List LV}(n:Base m)(p:preOk m tabsK=true)(o:EncA m [(wtShK,true),((.sl lkShK 168),false)] x a):CallN Tryz.prog 5 a m fun v _=>v=.bool true:=by
 obtain⟨g,s,_,rfl,i,e,h,t,_,rfl,j,f,rfl⟩:=o
 obtain rfl:=e
 obtain⟨u,rfl⟩:=zrt i
 obtain⟨q,r,rfl,c,d⟩:=znt j
 cases f
 exact zo6 c d n p
set_option maxRecDepth 1000000 in
theorem zo5(a:Os):laidMetH Tryz.prog Go.Proofs.YtpgalhbplcanhaaGreatDoor.Rows.tapeKeptRow.laid ((laidWorld a).forCall (fun _ _=>0) ⟨#[],#[.agg #[.int .i64 0,.int .i64 0,.int .i64 0,.int .i64 0,.int .i64 0,.int .i64 0,.int .i64 0],.slice none 0 0],[]⟩).memory :=
 laidMetH_of_parts3 (fuel:=8) (laidMet_of_run' 8 (by kernel_rfl) (by kernel_rfl)) (by kernel_rfl) (by kernel_rfl)
set_option maxRecDepth 100000 in
theorem reads(a:Os){H:Type}(enc:TypeId×Value->H):((DataW.whole enc Tryz.prog ((laidWorld a).forCall (fun _ _=>0) ⟨#[],#[.agg #[.int .i64 0,.int .i64 0,.int .i64 0,.int .i64 0,.int .i64 0,.int .i64 0,.int .i64 0],.slice none 0 0],[]⟩).memory Tryz.f5.params.toList Go.Proofs.YtpgalhbplcanhaaGreatDoor.Rows.tapeKeptSpec.vars false (#[.agg #[.int .i64 0,.int .i64 0,.int .i64 0,.int .i64 0,.int .i64 0,.int .i64 0,.int .i64 0],.slice none 0 0]:Array Value).toList 8).map fun x=>x.2.1.length)=some 0:=by kernel_rfl
set_option maxRecDepth 100000 in
theorem contract1(H:Type)(enc:TypeId×Value->H)(W:World)(base:Nat)(args:Array Value)(ds z:List (DataW H))(before:List MemPlace)
  (c:∀(j:Nat) t v,Tryz.f5.params[j]?=some t->args[j]?=some v->Value.okWide Tryz.prog W .any base t v)
  (A:DataW.Whole enc Tryz.prog Tryz.f5.params.toList Go.Proofs.YtpgalhbplcanhaaGreatDoor.Rows.tapeKeptSpec.vars false W args.toList ds z before) (i:(DataW.weightsEach Tryz.prog (Tryz.f5.params.toList ++(OpenSpec.ofChange Go.Proofs.YtpgalhbplcanhaaGreatDoor.Rows.tapeKeptSpec).bare.plain.varTypes Tryz.prog) (ds++z)).all (·<=reachBytes)=true) (O:laidMetH Tryz.prog Go.Proofs.YtpgalhbplcanhaaGreatDoor.Rows.tapeKeptRow.laid W) :
  Calls Tryz.prog 5 args W fun e y=>∃ v,e=.returned v/\Go.Proofs.YtpgalhbplcanhaaGreatDoor.Rows.tapeKeptSpec.post enc Tryz.prog Tryz.f5 false true false false W args v y:=by
 have n:∀(j:Nat) t v,Tryz.f5.params[j]?=some t->args[j]?=some v->Value.okWide Tryz.prog W .any base t v:=c
 have s:=A
 obtain⟨p,q,r,P,rfl,R,V⟩:=A
 obtain⟨w,_⟩:=trodVars_none P
 have L:DataW.TrodAll enc Tryz.prog W 0 (fun _=>true) true Tryz.f5.params.toList args.toList ds p:=r
 have d:Tryz.f5.params.toList=[58,59]:=by kernel_rfl
 have a:=L
 rw[d] at a
 have g:=zoy i rfl w
 rw[d] at g
 refine(zio (f:=5) mix orcOk zp4 zfz (l:=[(wtShK,true),((.sl lkShK 168),false)]) (by kernel_rfl) (fun m x Z M d N=>law1 M d N) (zt4 O) a g (fun j t v h K=>⟨_,_,n j t v (by rw[<-d] at h;simpa using h) K⟩)).mono fun e y ⟨Q,S,U⟩=>?_
 subst Q
 obtain⟨_,_,B,D,_,_,_,F,_,_,X⟩:=trodAll_cons a
 obtain⟨_,_,C,E,_,_,_,G,_,_,Y⟩:=trodAll_cons X
 obtain⟨_,J,_⟩:=trodAll_nil Y
 have u:ds=[B,C]:=by rw[F,G,J]
 refine⟨_,rfl,zo7 s rfl (by rw[u];rfl) (tb:=4) (by kernel_rfl) (by kernel_rfl) (fun t o=>?_) (by kernel_rfl) S U⟩
 rw[d] at o
 rcases List.mem_cons.1 o with rfl|o
 ·exact⟨by kernel_rfl,of_decide_eq_true (by kernel_rfl)⟩
 ·obtain rfl:=List.mem_singleton.1 o
  exact⟨by kernel_rfl,of_decide_eq_true (by kernel_rfl)⟩
set_option maxRecDepth 100000 in
theorem lifted(e:Os)(a:e.Started)(H:Type)(enc:TypeId×Value->H)(F:Stop.Interp) :
  ReturnsInHanded {} Tryz.checked e 5 .any ((OpenSpec.ofChange Go.Proofs.YtpgalhbplcanhaaGreatDoor.Rows.tapeKeptSpec).preRow enc Tryz.prog Tryz.f5 Go.Proofs.YtpgalhbplcanhaaGreatDoor.Rows.tapeKeptRow.domain false Go.Proofs.YtpgalhbplcanhaaGreatDoor.Rows.tapeKeptRow.laid) (((OpenSpec.ofChange Go.Proofs.YtpgalhbplcanhaaGreatDoor.Rows.tapeKeptSpec).at F).post enc Tryz.prog Tryz.f5 false true false false):=by
 obtain⟨⟨q,p,r⟩,o,g⟩:=Option.map_eq_some_iff.1 (reads e enc)
 obtain rfl:p=[]:=List.eq_nil_of_length_eq_zero g
 refine returnsInHanded_of_row (C:=Tryz.checked) (s:=OpenSpec.ofChange Go.Proofs.YtpgalhbplcanhaaGreatDoor.Rows.tapeKeptSpec) own a (by kernel_rfl) Tryz.func5
  (witness_row_atRef (enc:=enc) (C:=Tryz.checked) false (laidWorld e) #[.agg #[.int .i64 0,.int .i64 0,.int .i64 0,.int .i64 0,.int .i64 0,.int .i64 0,.int .i64 0],.slice none 0 0] rfl (by kernel_rfl) (by kernel_rfl) (by kernel_rfl)
   (OpenSpec.preRow_of_cond 8 o (by kernel_rfl) (fun k n=>by cases n) (by kernel_rfl) (zo5 e))) ?_
 intro W base c h i before d m _ _ f j _ _
 exact contract1 H enc W base c h i before d m f j
set_option maxRecDepth 100000 in
set_option maxHeartbeats 4000000 in
theorem facts:joinedFacts Tryz.prog 5 Tryz.f5 (OpenSpec.ofChange Go.Proofs.YtpgalhbplcanhaaGreatDoor.Rows.tapeKeptSpec).bare Go.Proofs.YtpgalhbplcanhaaGreatDoor.Rows.tapeKeptRow=true:=by
 unfold joinedFacts
 repeat' (with_reducible refine(Bool.and_eq_true _ _).mpr ⟨?_,?_⟩)
 all_goals as_aux_lemma=>kernel_rfl
set_option maxRecDepth 100000 in
theorem over:Go.Proofs.YtpgalhbplcanhaaGreatDoor.Rows.tapeKeptRow.holds Tryz.pinned (OpenSpec.ofChange Go.Proofs.YtpgalhbplcanhaaGreatDoor.Rows.tapeKeptSpec) :=
 OpenClaim.holds_of_cond 5 Tryz.f5 rfl rfl rfl rfl rfl rfl rfl ⟨rfl,rfl,rfl,rfl,rfl⟩ rfl rfl rfl rfl rfl (by kernel_rfl) Tryz.func5 facts
  (of_decide_eq_true (by kernel_rfl)) (by unfold Func.isWrapper;first|(rw[if_pos (by decide +kernel)];kernel_rfl)|(rw[if_neg (by decide +kernel)];exact⟨rfl,rfl⟩))
  (fun d a H c _ F=>by rw[OpenClaim.pre_eq_preRow];exact lifted d a H c F)
theorem plain(f:FuncId)(fn:Func)(hf:Tryz.pinned.checked.prog.funcNamed "paravane/paravanelaw08.TapeKept"=some f)(c:Tryz.pinned.checked.prog.funcs[f]?=some fn) :
  true=Tryz.pinned.checked.prog.looks [] /\ ∀(j:Nat) t,fn.params[j]?=some t->Tryz.pinned.checked.prog.wantsStandIn t=false:=by
 obtain rfl:f=5:=Option.some.inj ((show Tryz.prog.funcNamed "paravane/paravanelaw08.TapeKept"=some 5 by kernel_rfl).symm.trans hf) |>.symm
 obtain rfl:fn=Tryz.f5:=(Option.some.inj (Tryz.func5.symm.trans c)).symm
 refine⟨by kernel_rfl,fun j t a=>?_⟩
 have a:t∈Tryz.f5.params.toList:=by simpa using Array.mem_of_getElem? a
 rw[show Tryz.f5.params.toList=[58,59] by kernel_rfl] at a
 rcases List.mem_cons.1 a with rfl|a
 ·exact(show Tryz.prog.wantsStandIn 58=false by kernel_rfl)
 ·obtain rfl:=List.mem_singleton.1 a
  exact(show Tryz.prog.wantsStandIn 59=false by kernel_rfl)
theorem proved:Go.Proofs.YtpgalhbplcanhaaGreatDoor.Rows.TapeKeptCardSaid :=
 Claim7.holds_tied_plain_at .later [] _ _ _ _ over (fun _ h=>by cases h) (by kernel_rfl) (fun _ h=>by cases h) tapeKept_row_tie rfl ⟨rfl,rfl⟩ (by kernel_rfl) rfl plain (by kernel_rfl)
