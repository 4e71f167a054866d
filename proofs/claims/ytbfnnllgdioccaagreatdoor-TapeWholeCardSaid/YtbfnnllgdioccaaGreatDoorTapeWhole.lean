/-
 Part of the proof of TapeWhole. No condition beyond those in each theorem.
-/
import Derived.Test.YtbfnnllgdioccaaGreatDoorCards
import Derived.Test.YtbfnnllgdioccaaGreatDoorTie
import Derived.Test.YtbfnnllgdioccaaGreatDoorPvH
import Derived.Test.YtbfnnllgdioccaaGreatDoorSG
import Derived.WalkKit
import Derived.ProofKit
import Derived.OpenShut
import Derived.Deep.DeepHandedRow
import Derived.Deep.DeepWitnessRowRef
import Derived.Lib.LaidTab
import Derived.Stop.LaidErr
namespace Go.Proofs.YtbfnnllgdioccaaGreatDoor.C
open Go PvL Go.Proofs Go.ChangeShapes Go.WideShapes Go.ChangeAt Go.RowKit Go.Proofs.YtbfnnllgdioccaaGreatDoor
set_option linter.unusedVariables false
theorem own:ownKnob Tryz.prog.godebug=none:=by kernel_rfl
theorem g5:Tryz.prog.globalNamed "math/bits.deBruijn64tab"=some 5:=by kernel_rfl
theorem g2:Tryz.prog.globalNamed "internal/strconv.uint64pow10"=some 2:=by kernel_rfl
theorem g5t:(Tryz.prog.globals[5]?).map (·.type)=some 273:=by kernel_rfl
theorem g2t:(Tryz.prog.globals[2]?).map (·.type)=some 257:=by kernel_rfl
theorem u273:Tryz.prog.underlying 273=some (.array 64 5):=by kernel_rfl
theorem u257:Tryz.prog.underlying 257=some (.array 20 233):=by kernel_rfl
theorem u5:Tryz.prog.underlying 5=some (.int .u8):=by kernel_rfl
theorem u233:Tryz.prog.underlying 233=some (.int .u64):=by kernel_rfl
theorem znr{W:World}(h:laidMetH Tryz.prog Go.Proofs.YtbfnnllgdioccaaGreatDoor.Rows.tapeWholeRow.laid W):TabW tabs W:=by
 have h:laidMet Tryz.prog Go.Proofs.YtbfnnllgdioccaaGreatDoor.Rows.tapeWholeRow.laid W:=h
 have h1:laidMet Tryz.prog (("math/bits.deBruijn64tab",Lib.tabData .u8 zs5) ::("internal/strconv.uint64pow10",Lib.tabData .u64 zs2) :: _) W:=laidMet.tail h
 have t5:=Lib.tabIs_of_head (P:=Tryz.prog) g5 g5t u273 u5 (by kernel_rfl) (by kernel_rfl) h1
 have t2:=Lib.tabIs_of_head (P:=Tryz.prog) g2 g2t u257 u233 (by kernel_rfl) (by kernel_rfl) (laidMet.tail h1)
 exact zct t2 g2 (zct t5 g5 zkr)
noncomputable def laidWorld(os:Os):World :=
 let N:=(World.settled Tryz.prog os).heap.size
 let w0:=World.holding Tryz.prog os ⟨#[.cells #[.string ⟨⟨[105,110,118,97,108,105,100,32,115,121,110,116,97,120]⟩⟩] 262,.cells #[.string ⟨⟨[118,97,108,117,101,32,111,117,116,32,111,102,32,114,97,110,103,101]⟩⟩] 262],#[],[]⟩
 let put (h:Array Obj) (g:Nat) (cs:Array Value):Array Obj:=h.modify g fun
  | .cells _ t frozen=>.cells cs t frozen
  | o=>o
 let h0:=put w0.heap 0 #[.iface 260 (.pointer (some ⟨N,0,none⟩))]
 let h1:=put h0 1 #[.iface 260 (.pointer (some ⟨N+1,0,none⟩))]
 let h2:=put h1 2 (zs2.map fun z=>Value.int .u64 z).toArray
 let h4:=put h2 4 (zs4.map fun z=>Value.int .u8 z).toArray
 let h5:=put h4 5 (zs5.map fun z=>Value.int .u8 z).toArray
 {w0 with heap:=h5 }
theorem law1{m:Mem}{x:TA [((.sl frSh 40),false),((.sl .str 16),false)]}{avs:List LV}(hB:Base m)(hp:preOk m tabs=true)(hE:EncA m [((.sl frSh 40),false),((.sl .str 16),false)] x avs):CallN Tryz.prog 10 avs m fun v _=>v=.bool true:=by
 obtain⟨cs1,v1,_,rfl,h1,hv1,cs2,v2,_,rfl,h2,hv2,rfl⟩:=hE
 obtain⟨a1,f1,rfl,hs1,hl1,hi1⟩:=zmw h1
 cases hv1
 obtain⟨a2,f2,rfl,hs2,hl2,hb2⟩:=zjq h2
 cases hv2
 exact zd2 hs1 (Nat.le_trans hl1 (by decide)) hi1 hs2 (Nat.le_trans hl2 (by decide)) (fun s h=>hb2 s h) hB hp
set_option maxRecDepth 1000000 in
theorem zk1(os:Os):laidMet Tryz.prog Go.Proofs.YtbfnnllgdioccaaGreatDoor.Rows.tapeWholeRow.laid ((laidWorld os).forCall (fun _ _=>0) ⟨#[],#[.slice none 0 0,.slice none 0 0],[]⟩).memory :=
 laidMet_of_run' 8 (by kernel_rfl) (by kernel_rfl)
set_option maxRecDepth 100000 in
theorem reads(os:Os){H:Type}(enc:TypeId × Value->H):((DataW.whole enc Tryz.prog ((laidWorld os).forCall (fun _ _=>0) ⟨#[],#[.slice none 0 0,.slice none 0 0],[]⟩).memory Tryz.f10.params.toList Go.Proofs.YtbfnnllgdioccaaGreatDoor.Rows.tapeWholeSpec.vars false (#[.slice none 0 0,.slice none 0 0]:Array Value).toList 8).map fun x=>x.2.1.length)=some 0:=by kernel_rfl
set_option maxRecDepth 100000 in
theorem contract1(H:Type)(enc:TypeId × Value->H)(W:World)(base:Nat)(args:Array Value)(ds gs:List (DataW H))(before:List MemPlace)
  (hval0:∀(j:Nat) t v,Tryz.f10.params[j]?=some t->args[j]?=some v->Value.okWide Tryz.prog W .any base t v)
  (hW:DataW.Whole enc Tryz.prog Tryz.f10.params.toList Go.Proofs.YtbfnnllgdioccaaGreatDoor.Rows.tapeWholeSpec.vars false W args.toList ds gs before) (hsz0:(DataW.weightsEach Tryz.prog (Tryz.f10.params.toList ++(OpenSpec.ofChange Go.Proofs.YtbfnnllgdioccaaGreatDoor.Rows.tapeWholeSpec).bare.plain.varTypes Tryz.prog) (ds ++ gs)).all (·<=reachBytes)=true) (hL:laidMetH Tryz.prog Go.Proofs.YtbfnnllgdioccaaGreatDoor.Rows.tapeWholeRow.laid W) :
  Calls Tryz.prog 10 args W fun e W'=>∃ v,e=.returned v /\ Go.Proofs.YtbfnnllgdioccaaGreatDoor.Rows.tapeWholeSpec.post enc Tryz.prog Tryz.f10 false true false false W args v W':=by
 have hval:∀(j:Nat) t v,Tryz.f10.params[j]?=some t->args[j]?=some v->Value.okWide Tryz.prog W .any base t v:=hval0
 have hW':=hW
 obtain⟨p,q,hA0,hV,rfl,hfz,hnd⟩:=hW
 obtain⟨hgs,_⟩:=trodVars_none hV
 have hA:DataW.TrodAll enc Tryz.prog W 0 (fun _=>true) true Tryz.f10.params.toList args.toList ds p:=hA0
 have hp:Tryz.f10.params.toList=[22,61]:=by kernel_rfl
 have hA2:=hA
 rw[hp] at hA2
 have hsz:=zkn hsz0 rfl hgs
 rw[hp] at hsz
 refine(zfr (f:=10) mix orcOk zim z9y (l:=[((.sl frSh 40),false),((.sl .str 16),false)]) (by kernel_rfl) (fun m x av hB hp hE=>law1 hB hp hE) (znr hL) hA2 hsz (fun j t v h h'=>⟨_,_,hval j t v (by rw[<-hp] at h;simpa using h) h'⟩)).mono fun e W' ⟨he,hg,hk⟩=>?_
 subst he
 obtain⟨_,_,d0,ds0,_,_,_,e0,_,_,r0⟩:=trodAll_cons hA2
 obtain⟨_,_,d1,ds1,_,_,_,e1,_,_,r1⟩:=trodAll_cons r0
 obtain⟨_,eN,_⟩:=trodAll_nil r1
 have hds:ds=[d0,d1]:=by rw[e0,e1,eN]
 refine⟨_,rfl,zk2 hW' rfl (by rw[hds];rfl) (tb:=4) (by kernel_rfl) (by kernel_rfl) (fun t ht=>?_) (by kernel_rfl) hg hk⟩
 rw[hp] at ht
 rcases List.mem_cons.1 ht with rfl|ht
 ·exact⟨by kernel_rfl,of_decide_eq_true (by kernel_rfl)⟩
 ·obtain rfl:=List.mem_singleton.1 ht
  exact⟨by kernel_rfl,of_decide_eq_true (by kernel_rfl)⟩
set_option maxRecDepth 100000 in
theorem lifted(os:Os)(started:os.Started)(H:Type)(enc:TypeId × Value->H)(F:Stop.Interp) :
  ReturnsInHanded {} Tryz.checked os 10 .any ((OpenSpec.ofChange Go.Proofs.YtbfnnllgdioccaaGreatDoor.Rows.tapeWholeSpec).preRow enc Tryz.prog Tryz.f10 Go.Proofs.YtbfnnllgdioccaaGreatDoor.Rows.tapeWholeRow.domain false Go.Proofs.YtbfnnllgdioccaaGreatDoor.Rows.tapeWholeRow.laid) (((OpenSpec.ofChange Go.Proofs.YtbfnnllgdioccaaGreatDoor.Rows.tapeWholeSpec).at F).post enc Tryz.prog Tryz.f10 false true false false):=by
 obtain⟨⟨x1,x2,x3⟩,hx,hx1⟩:=Option.map_eq_some_iff.1 (reads os enc)
 obtain rfl:x2=[]:=List.eq_nil_of_length_eq_zero hx1
 refine returnsInHanded_of_row (C:=Tryz.checked) (s:=OpenSpec.ofChange Go.Proofs.YtbfnnllgdioccaaGreatDoor.Rows.tapeWholeSpec) own started (by kernel_rfl) Tryz.func10
  (witness_row_atRef (enc:=enc) (C:=Tryz.checked) false (laidWorld os) #[.slice none 0 0,.slice none 0 0] rfl (by kernel_rfl) (by kernel_rfl) (by kernel_rfl)
   (OpenSpec.preRow_of_cond 8 hx (by kernel_rfl) (fun k hk=>by cases hk) (by kernel_rfl) (zk1 os))) ?_
 intro W base args ds gs before hval hW _ _ hsz hL _ _
 exact contract1 H enc W base args ds gs before hval hW hsz hL
set_option maxRecDepth 100000 in
theorem over:Go.Proofs.YtbfnnllgdioccaaGreatDoor.Rows.tapeWholeRow.holds Tryz.pinned (OpenSpec.ofChange Go.Proofs.YtbfnnllgdioccaaGreatDoor.Rows.tapeWholeSpec) :=
 OpenClaim.holds_of_cond 10 Tryz.f10 rfl rfl rfl rfl rfl rfl rfl ⟨rfl,rfl,rfl,rfl,rfl⟩ rfl rfl rfl rfl rfl (by kernel_rfl) Tryz.func10 (by kernel_rfl)
  (of_decide_eq_true (by kernel_rfl)) (by unfold Func.isWrapper;first|(rw[if_pos (by decide +kernel)];kernel_rfl)|(rw[if_neg (by decide +kernel)];exact⟨rfl,rfl⟩))
  (fun os started H enc _ F=>by rw[OpenClaim.pre_eq_preRow];exact lifted os started H enc F)
theorem plain(f:FuncId)(fn:Func)(hf:Tryz.pinned.checked.prog.funcNamed "paravane/paravanelaw08.TapeWhole"=some f)(hfn:Tryz.pinned.checked.prog.funcs[f]?=some fn) :
  true=Tryz.pinned.checked.prog.looks [] /\ ∀(j:Nat) t,fn.params[j]?=some t->Tryz.pinned.checked.prog.wantsStandIn t=false:=by
 obtain rfl:f=10:=Option.some.inj ((show Tryz.prog.funcNamed "paravane/paravanelaw08.TapeWhole"=some 10 by kernel_rfl).symm.trans hf) |>.symm
 obtain rfl:fn=Tryz.f10:=(Option.some.inj (Tryz.func10.symm.trans hfn)).symm
 refine⟨by kernel_rfl,fun j t ht=>?_⟩
 have ht:t ∈ Tryz.f10.params.toList:=by simpa using Array.mem_of_getElem? ht
 rw[show Tryz.f10.params.toList=[22,61] by kernel_rfl] at ht
 rcases List.mem_cons.1 ht with rfl|ht
 ·exact(show Tryz.prog.wantsStandIn 22=false by kernel_rfl)
 ·obtain rfl:=List.mem_singleton.1 ht
  exact(show Tryz.prog.wantsStandIn 61=false by kernel_rfl)
theorem proved:Go.Proofs.YtbfnnllgdioccaaGreatDoor.Rows.TapeWholeCardSaid :=
 Claim7.holds_tied_plain_at .later [] _ _ _ _ over (fun _ h=>by cases h) (by kernel_rfl) (fun _ h=>by cases h) tapeWhole_row_tie rfl ⟨rfl,rfl⟩ (by kernel_rfl) rfl plain (by kernel_rfl)
