/-
 Part of the proof of TopMarked. No condition beyond those in each theorem.
-/
import Derived.Test.YtpgalhbplcanhaaGreatDoorCards
import Derived.Test.YtpgalhbplcanhaaGreatDoorTie
import Derived.Test.YtpgalhbplcanhaaGreatDoorPvH
import Derived.Test.YtpgalhbplcanhaaGreatDoorSA
import Derived.Test.YtpgalhbplcanhaaGreatDoorSG
import Derived.WalkKit
import Derived.ProofKit
import Derived.OpenShut
import Derived.Deep.DeepHandedRow
import Derived.Deep.DeepWitnessRowRef
import Derived.Lib.LaidTab
import Derived.Stop.LaidErr
import Derived.LaidHandle
namespace Go.Proofs.YtpgalhbplcanhaaGreatDoor.C
open Go PvL Go.Proofs Go.ChangeShapes Go.WideShapes Go.ChangeAt Go.RowKit Go.Proofs.YtpgalhbplcanhaaGreatDoor
set_option linter.unusedVariables false
theorem own:ownKnob Tryz.prog.godebug=none:=by kernel_rfl
theorem g8:Tryz.prog.globalNamed "math/bits.deBruijn64tab"=some 8:=by kernel_rfl
theorem g4:Tryz.prog.globalNamed "internal/strconv.uint64pow10"=some 4:=by kernel_rfl
theorem g0:Tryz.prog.globalNamed "paravane/watch.first"=some 0:=by kernel_rfl
theorem g8t:(Tryz.prog.globals[8]?).map (·.type)=some 526:=by kernel_rfl
theorem g4t:(Tryz.prog.globals[4]?).map (·.type)=some 492:=by kernel_rfl
theorem g0t:(Tryz.prog.globals[0]?).map (·.type)=some 164:=by kernel_rfl
theorem g2:Tryz.prog.globalNamed "strconv.ErrSyntax"=some 2:=by kernel_rfl
theorem g2t:(Tryz.prog.globals[2]?).map (·.type)=some 257:=by kernel_rfl
theorem uerr:Tryz.prog.underlying 257=some (.interface #[("Error",263)]):=by kernel_rfl
theorem uptr:Tryz.prog.underlying 495=some (.pointer 497):=by kernel_rfl
theorem ues:Tryz.prog.underlying 497=some (.struct #[{ name:="s",type:=9,offset:=0,embedded:=false,tag:="",pkgPath:="errors",byteOffset:=0 }]):=by kernel_rfl
theorem ustr:Tryz.prog.underlying 9=some .string:=by kernel_rfl
theorem star:"*" ++ "errors.errorString"="*errors.errorString":=by decide
theorem rowE(u:TypeId)(h:Tryz.prog.typeName? 3 u=some "*errors.errorString"):u=495 :=
 typeName_ptr_named (nm:="errors.errorString") (by rw[star];kernel_rfl) (by kernel_rfl) (by decide) u (by rw[star];exact h)
theorem g1:Tryz.prog.globalNamed "paravane/bin.none"=some 1:=by kernel_rfl
theorem g1t:(Tryz.prog.globals[1]?).map (·.type)=some 122:=by kernel_rfl
theorem u1t:Tryz.prog.underlying 122=some (.struct #[{ name:="Bin",type:=3,offset:=0,embedded:=false,tag:="",pkgPath:="",byteOffset:=0 },{ name:="Class",type:=3,offset:=1,embedded:=false,tag:="",pkgPath:="",byteOffset:=8 }]):=by kernel_rfl
theorem u64t:Tryz.prog.underlying 526=some (.array 64 5):=by kernel_rfl
theorem u20t:Tryz.prog.underlying 492=some (.array 20 430):=by kernel_rfl
theorem u2t:Tryz.prog.underlying 164=some (.struct #[{ name:="mode",type:=3,offset:=0,embedded:=false,tag:="",pkgPath:="paravane/watch",byteOffset:=0 },{ name:="quiet",type:=3,offset:=1,embedded:=false,tag:="",pkgPath:="paravane/watch",byteOffset:=8 }]):=by kernel_rfl
theorem uu8:Tryz.prog.underlying 5=some (.int .u8):=by kernel_rfl
theorem uu64:Tryz.prog.underlying 430=some (.int .u64):=by kernel_rfl
theorem ui64:Tryz.prog.underlying 3=some (.int .i64):=by kernel_rfl
theorem z79{P:Program}{W:World}{name:String}{a b:Int}{rest:List (String × DataW Unit)}{g:Nat}{t:TypeId}{f0 f1:Field}(hg:P.globalNamed name=some g)(hty:(P.globals[g]?).map (·.type)=some t)(ht:P.underlying t=some (.struct #[f0,f1]))(h0:f0.offset=0)(h1:f1.offset=1)
  (hi0:P.underlying f0.type=some (.int .i64)) (hi1:P.underlying f1.type=some (.int .i64)) (c0:P.cellsOf f0.type=1) (c1:P.cellsOf f1.type=1) (ct:P.cellsOf t=2) (h:laidMet P ((name,Lib.tabData .i64 [a,b]) :: rest) W):Lib.TabIs P W name .i64 [a,b]:=by
 obtain⟨ps,⟨g',t',cs,fuel,p,q,hg',ht',hvar,hd,_,_⟩,_⟩:=h
 obtain rfl:=Option.some.inj (hg.symm.trans hg')
 obtain rfl:=Option.some.inj (hty.symm.trans ht')
 obtain⟨y0,y1,n,e,hl,e0,e1⟩:=trod_struct2 ht hd
 rw[h0,c0] at e0
 rw[h1,c1] at e1
 rw[ct] at hl
 obtain⟨z0,hz0,rfl,_⟩:=DataW.trod_int hi0 e0
 obtain⟨z1,hz1,rfl,_⟩:=DataW.trod_int hi1 e1
 have e2:=congrArg Prod.fst e
 obtain⟨rfl,rfl⟩:a=z0 /\ b=z1:=by simpa [Lib.tabData] using e2
 obtain⟨l⟩:=cs
 match l,hl with
 | [u,v],_ =>
  obtain rfl:u=_:=List.cons.inj hz0 |>.1
  obtain rfl:v=_:=List.cons.inj hz1 |>.1
  unfold Lib.TabIs
  rw[hvar];rfl
theorem zpf{W:World}(h:laidMetH Tryz.prog Go.Proofs.YtpgalhbplcanhaaGreatDoor.Rows.topMarkedRow.laid W):TabW tabsM W:=by
 have h1:laidMet Tryz.prog (("math/bits.deBruijn64tab",Lib.tabData .u8 zs5) ::("internal/strconv.uint64pow10",Lib.tabData .u64 zs2) ::("paravane/bin.none",Lib.tabData .i64 zs0) ::("paravane/watch.first",Lib.tabData .i64 zs1) ::("strconv.ErrRange",Go.Proofs.YtpgalhbplcanhaaGreatDoor.Rows.laid_strconv_ErrRange) ::("strconv.ErrSyntax",.iface "*errors.errorString" (.ptr (.agg [.lit (.string [105,110,118,97,108,105,100,32,115,121,110,116,97,120])]))) :: []) W:=laidMet.tail (show laidMet Tryz.prog (_ :: _) W from h.1)
 have t8:=Lib.tabIs_of_head (P:=Tryz.prog) g8 g8t u64t uu8 (by kernel_rfl) (by kernel_rfl) h1
 have h2:=laidMet.tail h1
 have t4:=Lib.tabIs_of_head (P:=Tryz.prog) g4 g4t u20t uu64 (by kernel_rfl) (by kernel_rfl) h2
 have hf:=laidMet.tail (laidMet.tail h2)
 have t0:=z79 (P:=Tryz.prog) g0 g0t u2t rfl rfl ui64 ui64 (by kernel_rfl) (by kernel_rfl) (by kernel_rfl) hf
 have t1:=z79 (P:=Tryz.prog) g1 g1t u1t rfl rfl ui64 ui64 (by kernel_rfl) (by kernel_rfl) (by kernel_rfl) (laidMet.tail h2)
 obtain⟨a0,s0,hv0,_,_,_⟩:=laid_sentinel (laidMet.tail (laidMet.tail hf)) g2 g2t uerr rowE uptr ues rfl rfl ustr (by kernel_rfl) (by kernel_rfl)
 exact z5y t0 g0 (z5y t1 g1 (zgs hv0 g2 (z5y t4 g4 (z5y t8 g8 zm7))))
noncomputable def laidWorld(os:Os):World :=
 let N:=(World.settled Tryz.prog os).heap.size
 let w0:=World.holding Tryz.prog os ⟨#[.cells #[.string ⟨⟨[105,110,118,97,108,105,100,32,115,121,110,116,97,120]⟩⟩] 497,.cells #[.string ⟨⟨[118,97,108,117,101,32,111,117,116,32,111,102,32,114,97,110,103,101]⟩⟩] 497],#[],[]⟩
 let put (h:Array Obj) (g:Nat) (cs:Array Value):Array Obj:=h.modify g fun
  | .cells _ t frozen=>.cells cs t frozen
  | o=>o
 let h0:=put w0.heap 0 (zs1.map fun z=>Value.int .i64 z).toArray
 let h1:=put h0 1 (zs0.map fun z=>Value.int .i64 z).toArray
 let h2:=put h1 2 #[.iface 495 (.pointer (some ⟨N,0,none⟩))]
 let h3:=put h2 3 #[.iface 495 (.pointer (some ⟨N+1,0,none⟩))]
 let h4:=put h3 4 (zs2.map fun z=>Value.int .u64 z).toArray
 let h6:=put h4 6 (#[392,394,395,396,397,398,399,400].map fun g=>Value.func (.func g) #[] #[])
 let h7:=put h6 7 (zs4.map fun z=>Value.int .u8 z).toArray
 let h8:=put h7 8 (zs5.map fun z=>Value.int .u8 z).toArray
 {w0 with heap:=h8 }
theorem law1{m:Mem}{x:TA [(gdSh,true),((.sl mkSh 32),false),(prSh,true)]}{avs:List LV}(hB:Base m)(hp:preOk m tabsM=true)(hE:EncA m [(gdSh,true),((.sl mkSh 32),false),(prSh,true)] x avs):CallN Tryz.prog 7 avs m fun v _=>v=.bool true:=by
 obtain⟨cs1,v1,_,rfl,h1,hv1,cs2,v2,_,rfl,h2,hv2,cs3,v3,_,rfl,h3,hv3,rfl⟩:=hE
 obtain rfl:=hv1
 obtain rfl:=hv3
 obtain⟨g1,ca1,gf1,ge1,rfl,gs1,gl1⟩:=zr7 h1
 obtain⟨ma2,mf2,rfl,ms2,ml2⟩:=zkx h2
 cases hv2
 obtain⟨ts3,bs3,pa3,pb3,pf3,pg3,rfl,pt3,ptl3,pi3,pil3,pii3⟩:=zok h3
 exact ztp gs1 gl1 ms2 ml2 pt3 ptl3 pi3 pil3 pii3 hB hp
set_option maxRecDepth 1000000 in
theorem zl5(os:Os):laidMetH Tryz.prog Go.Proofs.YtpgalhbplcanhaaGreatDoor.Rows.topMarkedRow.laid ((laidWorld os).forCall (fun _ _=>0) ⟨#[],#[.agg #[.int .i64 0,.int .i64 0,.int .i64 0,.int .i64 0,.int .i64 0,.slice none 0 0],.slice none 0 0,.agg #[.slice none 0 0,.slice none 0 0]],[]⟩).memory :=
 laidMetH_of_parts3 (fuel:=8) (laidMet_of_run' 8 (by kernel_rfl) (by kernel_rfl)) (by kernel_rfl) (by kernel_rfl)
set_option maxRecDepth 100000 in
theorem reads(os:Os){H:Type}(enc:TypeId × Value->H):((DataW.whole enc Tryz.prog ((laidWorld os).forCall (fun _ _=>0) ⟨#[],#[.agg #[.int .i64 0,.int .i64 0,.int .i64 0,.int .i64 0,.int .i64 0,.slice none 0 0],.slice none 0 0,.agg #[.slice none 0 0,.slice none 0 0]],[]⟩).memory Tryz.f7.params.toList Go.Proofs.YtpgalhbplcanhaaGreatDoor.Rows.topMarkedSpec.vars false (#[.agg #[.int .i64 0,.int .i64 0,.int .i64 0,.int .i64 0,.int .i64 0,.slice none 0 0],.slice none 0 0,.agg #[.slice none 0 0,.slice none 0 0]]:Array Value).toList 8).map fun x=>x.2.1.length)=some 0:=by kernel_rfl
set_option maxRecDepth 100000 in
theorem contract1(H:Type)(enc:TypeId × Value->H)(W:World)(base:Nat)(args:Array Value)(ds gs:List (DataW H))(before:List MemPlace)
  (hval0:∀(j:Nat) t v,Tryz.f7.params[j]?=some t->args[j]?=some v->Value.okWide Tryz.prog W .any base t v)
  (hW:DataW.Whole enc Tryz.prog Tryz.f7.params.toList Go.Proofs.YtpgalhbplcanhaaGreatDoor.Rows.topMarkedSpec.vars false W args.toList ds gs before) (hsz0:(DataW.weightsEach Tryz.prog (Tryz.f7.params.toList ++(OpenSpec.ofChange Go.Proofs.YtpgalhbplcanhaaGreatDoor.Rows.topMarkedSpec).bare.plain.varTypes Tryz.prog) (ds ++ gs)).all (·<=reachBytes)=true) (hL:laidMetH Tryz.prog Go.Proofs.YtpgalhbplcanhaaGreatDoor.Rows.topMarkedRow.laid W) :
  Calls Tryz.prog 7 args W fun e W'=>∃ v,e=.returned v /\ Go.Proofs.YtpgalhbplcanhaaGreatDoor.Rows.topMarkedSpec.post enc Tryz.prog Tryz.f7 false true false false W args v W':=by
 have hval:∀(j:Nat) t v,Tryz.f7.params[j]?=some t->args[j]?=some v->Value.okWide Tryz.prog W .any base t v:=hval0
 have hW':=hW
 obtain⟨p,q,hA0,hV,rfl,hfz,hnd⟩:=hW
 obtain⟨hgs,_⟩:=trodVars_none hV
 have hA:DataW.TrodAll enc Tryz.prog W 0 (fun _=>true) true Tryz.f7.params.toList args.toList ds p:=hA0
 have hp:Tryz.f7.params.toList=[105,44,107]:=by kernel_rfl
 have hA2:=hA
 rw[hp] at hA2
 have hsz:=zlw hsz0 rfl hgs
 rw[hp] at hsz
 refine(zga (f:=7) mix orcOk zm8 ze4 (l:=[(gdSh,true),((.sl mkSh 32),false),(prSh,true)]) (by kernel_rfl) (fun m x av hB hp hE=>law1 hB hp hE) (zpf hL) hA2 hsz (fun j t v h h'=>⟨_,_,hval j t v (by rw[<-hp] at h;simpa using h) h'⟩)).mono fun e W' ⟨he,hg,hk⟩=>?_
 subst he
 obtain⟨_,_,d0,ds0,_,_,_,e0,_,_,r0⟩:=trodAll_cons hA2
 obtain⟨_,_,d1,ds1,_,_,_,e1,_,_,r1⟩:=trodAll_cons r0
 obtain⟨_,_,d2,ds2,_,_,_,e2,_,_,r2⟩:=trodAll_cons r1
 obtain⟨_,eN,_⟩:=trodAll_nil r2
 have hds:ds=[d0,d1,d2]:=by rw[e0,e1,e2,eN]
 refine⟨_,rfl,zl6 hW' rfl (by rw[hds];rfl) (tb:=4) (by kernel_rfl) (by kernel_rfl) (fun t ht=>?_) (by kernel_rfl) hg hk⟩
 rw[hp] at ht
 rcases List.mem_cons.1 ht with rfl|ht
 ·exact⟨by kernel_rfl,of_decide_eq_true (by kernel_rfl)⟩
 rcases List.mem_cons.1 ht with rfl|ht
 ·exact⟨by kernel_rfl,of_decide_eq_true (by kernel_rfl)⟩
 ·obtain rfl:=List.mem_singleton.1 ht
  exact⟨by kernel_rfl,of_decide_eq_true (by kernel_rfl)⟩
set_option maxRecDepth 100000 in
theorem lifted(os:Os)(started:os.Started)(H:Type)(enc:TypeId × Value->H)(F:Stop.Interp) :
  ReturnsInHanded {} Tryz.checked os 7 .any ((OpenSpec.ofChange Go.Proofs.YtpgalhbplcanhaaGreatDoor.Rows.topMarkedSpec).preRow enc Tryz.prog Tryz.f7 Go.Proofs.YtpgalhbplcanhaaGreatDoor.Rows.topMarkedRow.domain false Go.Proofs.YtpgalhbplcanhaaGreatDoor.Rows.topMarkedRow.laid) (((OpenSpec.ofChange Go.Proofs.YtpgalhbplcanhaaGreatDoor.Rows.topMarkedSpec).at F).post enc Tryz.prog Tryz.f7 false true false false):=by
 obtain⟨⟨x1,x2,x3⟩,hx,hx1⟩:=Option.map_eq_some_iff.1 (reads os enc)
 obtain rfl:x2=[]:=List.eq_nil_of_length_eq_zero hx1
 refine returnsInHanded_of_row (C:=Tryz.checked) (s:=OpenSpec.ofChange Go.Proofs.YtpgalhbplcanhaaGreatDoor.Rows.topMarkedSpec) own started (by kernel_rfl) Tryz.func7
  (witness_row_atRef (enc:=enc) (C:=Tryz.checked) false (laidWorld os) #[.agg #[.int .i64 0,.int .i64 0,.int .i64 0,.int .i64 0,.int .i64 0,.slice none 0 0],.slice none 0 0,.agg #[.slice none 0 0,.slice none 0 0]] rfl (by kernel_rfl) (by kernel_rfl) (by kernel_rfl)
   (OpenSpec.preRow_of_cond 8 hx (by kernel_rfl) (fun k hk=>by cases hk) (by kernel_rfl) (zl5 os))) ?_
 intro W base args ds gs before hval hW _ _ hsz hL _ _
 exact contract1 H enc W base args ds gs before hval hW hsz hL
set_option maxRecDepth 100000 in
set_option maxHeartbeats 4000000 in
theorem facts:joinedFacts Tryz.prog 7 Tryz.f7 (OpenSpec.ofChange Go.Proofs.YtpgalhbplcanhaaGreatDoor.Rows.topMarkedSpec).bare Go.Proofs.YtpgalhbplcanhaaGreatDoor.Rows.topMarkedRow=true:=by
 unfold joinedFacts
 repeat' (with_reducible refine(Bool.and_eq_true _ _).mpr ⟨?_,?_⟩)
 all_goals as_aux_lemma=>kernel_rfl
set_option maxRecDepth 100000 in
theorem over:Go.Proofs.YtpgalhbplcanhaaGreatDoor.Rows.topMarkedRow.holds Tryz.pinned (OpenSpec.ofChange Go.Proofs.YtpgalhbplcanhaaGreatDoor.Rows.topMarkedSpec) :=
 OpenClaim.holds_of_cond 7 Tryz.f7 rfl rfl rfl rfl rfl rfl rfl ⟨rfl,rfl,rfl,rfl,rfl⟩ rfl rfl rfl rfl rfl (by kernel_rfl) Tryz.func7 facts
  (of_decide_eq_true (by kernel_rfl)) (by unfold Func.isWrapper;first|(rw[if_pos (by decide +kernel)];kernel_rfl)|(rw[if_neg (by decide +kernel)];exact⟨rfl,rfl⟩))
  (fun os started H enc _ F=>by rw[OpenClaim.pre_eq_preRow];exact lifted os started H enc F)
theorem plain(f:FuncId)(fn:Func)(hf:Tryz.pinned.checked.prog.funcNamed "paravane/paravanetop.TopMarked"=some f)(hfn:Tryz.pinned.checked.prog.funcs[f]?=some fn) :
  true=Tryz.pinned.checked.prog.looks [] /\ ∀(j:Nat) t,fn.params[j]?=some t->Tryz.pinned.checked.prog.wantsStandIn t=false:=by
 obtain rfl:f=7:=Option.some.inj ((show Tryz.prog.funcNamed "paravane/paravanetop.TopMarked"=some 7 by kernel_rfl).symm.trans hf) |>.symm
 obtain rfl:fn=Tryz.f7:=(Option.some.inj (Tryz.func7.symm.trans hfn)).symm
 refine⟨by kernel_rfl,fun j t ht=>?_⟩
 have ht:t ∈ Tryz.f7.params.toList:=by simpa using Array.mem_of_getElem? ht
 rw[show Tryz.f7.params.toList=[105,44,107] by kernel_rfl] at ht
 rcases List.mem_cons.1 ht with rfl|ht
 ·exact(show Tryz.prog.wantsStandIn 105=false by kernel_rfl)
 rcases List.mem_cons.1 ht with rfl|ht
 ·exact(show Tryz.prog.wantsStandIn 44=false by kernel_rfl)
 ·obtain rfl:=List.mem_singleton.1 ht
  exact(show Tryz.prog.wantsStandIn 107=false by kernel_rfl)
theorem proved:Go.Proofs.YtpgalhbplcanhaaGreatDoor.Rows.TopMarkedCardSaid :=
 Claim7.holds_tied_plain_at .later [] _ _ _ _ over (fun _ h=>by cases h) (by kernel_rfl) (fun _ h=>by cases h) topMarked_row_tie rfl ⟨rfl,rfl⟩ (by kernel_rfl) rfl plain (by kernel_rfl)
