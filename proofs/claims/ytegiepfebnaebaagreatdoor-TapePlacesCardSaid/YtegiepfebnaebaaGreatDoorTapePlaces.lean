/-
 Part of the proof of TapePlaces. No condition beyond those in each theorem.
-/
import Derived.Test.YtegiepfebnaebaaGreatDoorCards
import Derived.Test.YtegiepfebnaebaaGreatDoorTie
import Derived.Test.YtegiepfebnaebaaGreatDoorPvH
import Derived.Test.YtegiepfebnaebaaGreatDoorTW
import Derived.Test.YtegiepfebnaebaaGreatDoorSD
import Derived.WalkKit
import Derived.ProofKit
import Derived.OpenShut
import Derived.Deep.DeepHandedRow
import Derived.Deep.DeepWitnessRowRef
import Derived.Lib.LaidTab
import Derived.Stop.LaidErr
namespace Go.Proofs.YtegiepfebnaebaaGreatDoor.C
open Go PvL Go.Proofs Go.ChangeShapes Go.WideShapes Go.ChangeAt Go.RowKit Go.Proofs.YtegiepfebnaebaaGreatDoor
set_option linter.unusedVariables false
theorem own:ownKnob Tryz.prog.godebug=none:=by kernel_rfl
theorem g5:Tryz.prog.globalNamed "math/bits.deBruijn64tab"=some 5:=by kernel_rfl
theorem g2:Tryz.prog.globalNamed "internal/strconv.uint64pow10"=some 2:=by kernel_rfl
theorem g0:Tryz.prog.globalNamed "strconv.ErrSyntax"=some 0:=by kernel_rfl
theorem g5t:(Tryz.prog.globals[5]?).map (·.type)=some 233:=by kernel_rfl
theorem g2t:(Tryz.prog.globals[2]?).map (·.type)=some 212:=by kernel_rfl
theorem g0t:(Tryz.prog.globals[0]?).map (·.type)=some 100:=by kernel_rfl
theorem u64t:Tryz.prog.underlying 233=some (.array 64 5):=by kernel_rfl
theorem u20t:Tryz.prog.underlying 212=some (.array 20 191):=by kernel_rfl
theorem uu8:Tryz.prog.underlying 5=some (.int .u8):=by kernel_rfl
theorem uu64:Tryz.prog.underlying 191=some (.int .u64):=by kernel_rfl
theorem uerr:Tryz.prog.underlying 100=some (.interface #[("Error",106)]):=by kernel_rfl
theorem uptr:Tryz.prog.underlying 215=some (.pointer 217):=by kernel_rfl
theorem ues:Tryz.prog.underlying 217=some (.struct #[{ name:="s",type:=9,offset:=0,embedded:=false,tag:="",pkgPath:="errors",byteOffset:=0 }]):=by kernel_rfl
theorem ustr:Tryz.prog.underlying 9=some .string:=by kernel_rfl
theorem star:"*" ++ "errors.errorString"="*errors.errorString":=by decide
theorem rowE (u:TypeId) (h:Tryz.prog.typeName? 3 u=some "*errors.errorString"):u=215 :=
 typeName_ptr_named (nm:="errors.errorString") (by rw [star];kernel_rfl) (by kernel_rfl) (by decide) u (by rw [star];exact h)
theorem zjj {W:World} (h:laidMetH Tryz.prog Go.Proofs.YtegiepfebnaebaaGreatDoor.Rows.tapePlacesRow.laid W):TabW tabs W:=by
 have h:laidMet Tryz.prog Go.Proofs.YtegiepfebnaebaaGreatDoor.Rows.tapePlacesRow.laid W:=h
 have h1:laidMet Tryz.prog (("math/bits.deBruijn64tab",Lib.tabData .u8 zs5) :: ("internal/strconv.uint64pow10",Lib.tabData .u64 zs2) :: ("strconv.ErrRange",Go.Proofs.YtegiepfebnaebaaGreatDoor.Rows.laid_strconv_ErrRange) :: ("strconv.ErrSyntax",.iface "*errors.errorString" (.ptr (.agg [.lit (.string [105,110,118,97,108,105,100,32,115,121,110,116,97,120])]))) :: []) W:=laidMet.tail h
 have t5:=Lib.tabIs_of_head (P:=Tryz.prog) g5 g5t u64t uu8 (by kernel_rfl) (by kernel_rfl) h1
 have h2:=laidMet.tail h1
 have t2:=Lib.tabIs_of_head (P:=Tryz.prog) g2 g2t u20t uu64 (by kernel_rfl) (by kernel_rfl) h2
 obtain ⟨a0,s0,hv0,_,_,_⟩:=laid_sentinel (laidMet.tail (laidMet.tail h2)) g0 g0t uerr rowE uptr ues rfl rfl ustr (by kernel_rfl) (by kernel_rfl)
 exact zdd hv0 g0 (za4 t2 g2 (za4 t5 g5 zh8))
noncomputable def laidWorld (os:Os):World :=
 let N:=(World.settled Tryz.prog os).heap.size
 let w0:=World.holding Tryz.prog os ⟨#[.cells #[.string ⟨⟨[105,110,118,97,108,105,100,32,115,121,110,116,97,120]⟩⟩] 217,.cells #[.string ⟨⟨[118,97,108,117,101,32,111,117,116,32,111,102,32,114,97,110,103,101]⟩⟩] 217],#[],[]⟩
 let put (h:Array Obj) (g:Nat) (cs:Array Value):Array Obj:=h.modify g fun
  | .cells _ t frozen=>.cells cs t frozen
  | o=>o
 let h0:=put w0.heap 0 #[.iface 215 (.pointer (some ⟨N,0,none⟩))]
 let h1:=put h0 1 #[.iface 215 (.pointer (some ⟨N+1,0,none⟩))]
 let h2:=put h1 2 (zs2.map fun z=>Value.int .u64 z).toArray
 let h4:=put h2 4 (zs4.map fun z=>Value.int .u8 z).toArray
 let h5:=put h4 5 (zs5.map fun z=>Value.int .u8 z).toArray
 {w0 with heap:=h5 }
theorem law1 {m:Mem} {x:TA [((.sl mkSh 32),false),((.pair (.int .i64) (.int .i64)),true)]} {avs:List LV} (hB:Base m) (hp:preOk m tabs=true) (hE:EncA m [((.sl mkSh 32),false),((.pair (.int .i64) (.int .i64)),true)] x avs):CallOk Tryz.prog 5 avs m fun v _=>v=.bool true:=by
 obtain ⟨cs1,v1,_,rfl,h1,hv1,cs2,v2,_,rfl,h2,hv2,rfl⟩:=hE
 obtain rfl:=hv2
 have hi1:=zga h1
 obtain ⟨a1,f1,rfl,hs1,hl1⟩:=ziu h1
 cases hv1
 obtain ⟨_,_,rfl,⟨rfl,hs2a⟩,rfl,hs2b⟩:=h2
 exact zlc hs1 hl1 hi1 hs2a hs2b hB hp
set_option maxRecDepth 1000000 in
theorem zgj (os:Os):laidMet Tryz.prog Go.Proofs.YtegiepfebnaebaaGreatDoor.Rows.tapePlacesRow.laid ((laidWorld os).forCall (fun _ _=>0) ⟨#[],#[.slice none 0 0,.agg #[.int .i64 0,.int .i64 0]],[]⟩).memory :=
 laidMet_of_run' 8 (by kernel_rfl) (by kernel_rfl)
set_option maxRecDepth 100000 in
theorem reads (os:Os) {H:Type} (enc:TypeId × Value->H):((DataW.whole enc Tryz.prog ((laidWorld os).forCall (fun _ _=>0) ⟨#[],#[.slice none 0 0,.agg #[.int .i64 0,.int .i64 0]],[]⟩).memory Tryz.f5.params.toList Go.Proofs.YtegiepfebnaebaaGreatDoor.Rows.tapePlacesSpec.vars false (#[.slice none 0 0,.agg #[.int .i64 0,.int .i64 0]]:Array Value).toList 8).map fun x=>x.2.1.length)=some 0:=by kernel_rfl
set_option maxRecDepth 100000 in
theorem contract1 (H:Type) (enc:TypeId × Value->H) (W:World) (base:Nat) (args:Array Value) (ds gs:List (DataW H)) (before:List MemPlace)
  (hval0:∀ (j:Nat) t v,Tryz.f5.params[j]?=some t->args[j]?=some v->Value.okWide Tryz.prog W .any base t v)
  (hW:DataW.Whole enc Tryz.prog Tryz.f5.params.toList Go.Proofs.YtegiepfebnaebaaGreatDoor.Rows.tapePlacesSpec.vars false W args.toList ds gs before) (hsz0:(DataW.weightsEach Tryz.prog (Tryz.f5.params.toList ++ (OpenSpec.ofChange Go.Proofs.YtegiepfebnaebaaGreatDoor.Rows.tapePlacesSpec).bare.plain.varTypes Tryz.prog) (ds ++ gs)).all (·<=reachBytes)=true) (hL:laidMetH Tryz.prog Go.Proofs.YtegiepfebnaebaaGreatDoor.Rows.tapePlacesRow.laid W) :
  Calls Tryz.prog 5 args W fun e W'=>∃ v,e=.returned v /\ Go.Proofs.YtegiepfebnaebaaGreatDoor.Rows.tapePlacesSpec.post enc Tryz.prog Tryz.f5 false true false false W args v W':=by
 have hval:∀ (j:Nat) t v,Tryz.f5.params[j]?=some t->args[j]?=some v->Value.okWide Tryz.prog W .any base t v:=hval0
 have hW':=hW
 obtain ⟨p,q,hA0,hV,rfl,hfz,hnd⟩:=hW
 obtain ⟨hgs,_⟩:=trodVars_none hV
 have hA:DataW.TrodAll enc Tryz.prog W 0 (fun _=>true) true Tryz.f5.params.toList args.toList ds p:=hA0
 have hp:Tryz.f5.params.toList=[22,33]:=by kernel_rfl
 have hA2:=hA
 rw [hp] at hA2
 have hsz:=zh1 hsz0 rfl hgs
 rw [hp] at hsz
 refine (zef (f:=5) mix orcOk zff z7s (l:=[((.sl mkSh 32),false),((.pair (.int .i64) (.int .i64)),true)]) (by kernel_rfl) (fun m x av hB hp hE=>law1 hB hp hE) (zjj hL) hA2 hsz (fun j t v h h'=>⟨_,_,hval j t v (by rw [<-hp] at h;simpa using h) h'⟩)).mono fun e W' ⟨he,hg,hk⟩=>?_
 subst he
 obtain ⟨_,_,d0,ds0,_,_,_,e0,_,_,r0⟩:=trodAll_cons hA2
 obtain ⟨_,_,d1,ds1,_,_,_,e1,_,_,r1⟩:=trodAll_cons r0
 obtain ⟨_,eN,_⟩:=trodAll_nil r1
 have hds:ds=[d0,d1]:=by rw [e0,e1,eN]
 refine ⟨_,rfl,zgk hW' rfl (by rw [hds];rfl) (tb:=4) (by kernel_rfl) (by kernel_rfl) (fun t ht=>?_) (by kernel_rfl) hg hk⟩
 rw [hp] at ht
 rcases List.mem_cons.1 ht with rfl|ht
 ·exact ⟨by kernel_rfl,of_decide_eq_true (by kernel_rfl)⟩
 ·obtain rfl:=List.mem_singleton.1 ht
  exact ⟨by kernel_rfl,of_decide_eq_true (by kernel_rfl)⟩
set_option maxRecDepth 100000 in
theorem lifted (os:Os) (started:os.Started) (H:Type) (enc:TypeId × Value->H) (F:Stop.Interp) :
  ReturnsInHanded {} Tryz.checked os 5 .any ((OpenSpec.ofChange Go.Proofs.YtegiepfebnaebaaGreatDoor.Rows.tapePlacesSpec).preRow enc Tryz.prog Tryz.f5 Go.Proofs.YtegiepfebnaebaaGreatDoor.Rows.tapePlacesRow.domain false Go.Proofs.YtegiepfebnaebaaGreatDoor.Rows.tapePlacesRow.laid) (((OpenSpec.ofChange Go.Proofs.YtegiepfebnaebaaGreatDoor.Rows.tapePlacesSpec).at F).post enc Tryz.prog Tryz.f5 false true false false):=by
 obtain ⟨⟨x1,x2,x3⟩,hx,hx1⟩:=Option.map_eq_some_iff.1 (reads os enc)
 obtain rfl:x2=[]:=List.eq_nil_of_length_eq_zero hx1
 refine returnsInHanded_of_row (C:=Tryz.checked) (s:=OpenSpec.ofChange Go.Proofs.YtegiepfebnaebaaGreatDoor.Rows.tapePlacesSpec) own started (by kernel_rfl) Tryz.func5
  (witness_row_atRef (enc:=enc) (C:=Tryz.checked) false (laidWorld os) #[.slice none 0 0,.agg #[.int .i64 0,.int .i64 0]] rfl (by kernel_rfl) (by kernel_rfl) (by kernel_rfl)
   (OpenSpec.preRow_of_cond 8 hx (by kernel_rfl) (fun k hk=>by cases hk) (by kernel_rfl) (zgj os))) ?_
 intro W base args ds gs before hval hW _ _ hsz hL _ _
 exact contract1 H enc W base args ds gs before hval hW hsz hL
set_option maxRecDepth 100000 in
set_option maxHeartbeats 4000000 in
theorem facts:joinedFacts Tryz.prog 5 Tryz.f5 (OpenSpec.ofChange Go.Proofs.YtegiepfebnaebaaGreatDoor.Rows.tapePlacesSpec).bare Go.Proofs.YtegiepfebnaebaaGreatDoor.Rows.tapePlacesRow=true:=by
 unfold joinedFacts
 repeat' (with_reducible refine (Bool.and_eq_true _ _).mpr ⟨?_,?_⟩)
 all_goals as_aux_lemma=>kernel_rfl
set_option maxRecDepth 100000 in
theorem over:Go.Proofs.YtegiepfebnaebaaGreatDoor.Rows.tapePlacesRow.holds Tryz.pinned (OpenSpec.ofChange Go.Proofs.YtegiepfebnaebaaGreatDoor.Rows.tapePlacesSpec) :=
 OpenClaim.holds_of_cond 5 Tryz.f5 rfl rfl rfl rfl rfl rfl rfl ⟨rfl,rfl,rfl,rfl,rfl⟩ rfl rfl rfl rfl rfl (by kernel_rfl) Tryz.func5 facts
  (of_decide_eq_true (by kernel_rfl)) (by unfold Func.isWrapper;first|(rw [if_pos (by decide +kernel)];kernel_rfl)|(rw [if_neg (by decide +kernel)];exact ⟨rfl,rfl⟩))
  (fun os started H enc _ F=>by rw [OpenClaim.pre_eq_preRow];exact lifted os started H enc F)
theorem plain (f:FuncId) (fn:Func) (hf:Tryz.pinned.checked.prog.funcNamed "paravane/paravanelaw08.TapePlaces"=some f) (hfn:Tryz.pinned.checked.prog.funcs[f]?=some fn) :
  true=Tryz.pinned.checked.prog.looks [] /\ ∀ (j:Nat) t,fn.params[j]?=some t->Tryz.pinned.checked.prog.wantsStandIn t=false:=by
 obtain rfl:f=5:=Option.some.inj ((show Tryz.prog.funcNamed "paravane/paravanelaw08.TapePlaces"=some 5 by kernel_rfl).symm.trans hf) |>.symm
 obtain rfl:fn=Tryz.f5:=(Option.some.inj (Tryz.func5.symm.trans hfn)).symm
 refine ⟨by kernel_rfl,fun j t ht=>?_⟩
 have ht:t ∈ Tryz.f5.params.toList:=by simpa using Array.mem_of_getElem? ht
 rw [show Tryz.f5.params.toList=[22,33] by kernel_rfl] at ht
 rcases List.mem_cons.1 ht with rfl|ht
 ·exact (show Tryz.prog.wantsStandIn 22=false by kernel_rfl)
 ·obtain rfl:=List.mem_singleton.1 ht
  exact (show Tryz.prog.wantsStandIn 33=false by kernel_rfl)
theorem proved:Go.Proofs.YtegiepfebnaebaaGreatDoor.Rows.TapePlacesCardSaid :=
 Claim7.holds_tied_plain_at .later [] _ _ _ _ over (fun _ h=>by cases h) (by kernel_rfl) (fun _ h=>by cases h) tapePlaces_row_tie rfl ⟨rfl,rfl⟩ (by kernel_rfl) rfl plain (by kernel_rfl)
end Go.Proofs.YtegiepfebnaebaaGreatDoor.C
