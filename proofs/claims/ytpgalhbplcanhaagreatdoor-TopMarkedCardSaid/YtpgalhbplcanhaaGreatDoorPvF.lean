/-
 Rules by which a function's code is walked: the code with its types worked in. No condition.
-/
import Derived.Test.YtpgalhbplcanhaaGreatDoorPvB
import Derived.Test.YtpgalhbplcanhaaGreatDoorPvE
import Derived.Test.YtpgalhbplcanhaaGreatDoorPvA
section
namespace PvL
open Go
section
variable {P:Program}
structure Cn (R:Nat->Task->Option Out) (L:Task->Option Out) {α:Type} (F:(Task->Option Out)->Option α):Prop where
 up:∀ o,F L=some o->∃ n,∀ k,n<=k->F (R k)=some o
section
variable {R:Nat->Task->Option Out} {L:Task->Option Out} {α β:Type}
theorem Cn.const(x:Option α):Cn R L (fun _=>x):=⟨fun _ h=>⟨0,fun _ _=>h⟩⟩
theorem Cn.bind{F:(Task->Option Out)->Option α}{G:α->(Task->Option Out)->Option β}(hF:Cn R L F)(hG:∀ a,Cn R L (G a)) :
  Cn R L (fun r=>ob (F r) fun a=>G a r):=⟨fun o h=>by
 obtain⟨a,h1,h2⟩:=zb.1 h
 obtain⟨n,hn⟩:=hF.up _ h1
 obtain⟨m,hm⟩:=(hG a).up _ h2
 exact⟨max n m,fun k hk=>by show ob (F (R k)) _=_;rw[hn k (by omega)];exact hm k (by omega)⟩⟩
theorem Cn.code{F:(Task->Option Out)->Option Out}{G:Ex->Tm->List Dfr->Mem->(Task->Option Out)->Option Out}(hF:Cn R L F)(hG:∀ e T ms m,Cn R L (G e T ms m)) :
  Cn R L (fun r=>z12 (F r) fun e T ms m=>G e T ms m r):=by
 refine Cn.bind (G:=fun o r=>outE o (fun e T ms m=>G e T ms m r) (fun _ _=>none) (fun v T ms m=>some (.boom v T ms m)) (fun _ _=>none)) hF fun o=>?_
 cases o with
 | code e T ms m=>exact hG e T ms m
 | boom v T ms m=>exact Cn.const _
 | _=>exact Cn.const none
theorem Cn.frame{F:(Task->Option Out)->Option Out}{G:Ex->Tm->List Dfr->Mem->(Task->Option Out)->Option β}{B:LV->Tm->List Dfr->Mem->(Task->Option Out)->Option β}(hF:Cn R L F)(hG:∀ e T ms m,Cn R L (G e T ms m))(hB:∀ e T ms m,Cn R L (B e T ms m)) :
  Cn R L (fun r=>z1y (F r) (fun e T ms m=>G e T ms m r) (fun v T ms m=>B v T ms m r)):=by
 refine Cn.bind (G:=fun o r=>outE o (fun e T ms m=>G e T ms m r) (fun _ _=>none) (fun v T ms m=>B v T ms m r) (fun _ _=>none)) hF fun o=>?_
 cases o with
 | code e T ms m=>exact hG e T ms m
 | boom v T ms m=>exact hB v T ms m
 | _=>exact Cn.const none
theorem Cn.call{F:(Task->Option Out)->Option Out}{G:LV->Mem->(Task->Option Out)->Option β}(hF:Cn R L F)(hG:∀ v m,Cn R L (G v m)) :
  Cn R L (fun r=>z1x (F r) fun v m=>G v m r):=by
 refine Cn.bind (G:=fun o r=>outE o (fun _ _ _ _=>none) (fun v m=>G v m r) (fun _ _ _ _=>none) (fun _ _=>none)) hF fun o=>?_
 cases o with
 | call v m=>exact hG v m
 | _=>exact Cn.const none
theorem Cn.callD{F:(Task->Option Out)->Option Out}{G D:LV->Mem->(Task->Option Out)->Option β}(hF:Cn R L F)(hG:∀ v m,Cn R L (G v m))(hD:∀ v m,Cn R L (D v m)) :
  Cn R L (fun r=>z1j (F r) (fun v m=>G v m r) (fun v m=>D v m r)):=by
 refine Cn.bind (G:=fun o r=>outE o (fun _ _ _ _=>none) (fun v m=>G v m r) (fun _ _ _ _=>none) (fun v m=>D v m r)) hF fun o=>?_
 cases o with
 | call v m=>exact hG v m
 | die v m=>exact hD v m
 | _=>exact Cn.const none
theorem Cn.orElse{A:(Task->Option Out)->Option α}{B:(Task->Option Out)->Option β}{K:α->Option β}(hA:Cn R L A)(hB:Cn R L B)(hAB:∀ r q,B r=some q->A r=none) :
  Cn R L (fun r=>oe (A r) (B r) K):=⟨fun o h=>by
 cases ha:A L with
 | some a =>
  rw[ha] at h
  obtain⟨n,hn⟩:=hA.up _ ha
  exact⟨n,fun k hk=>by show oe (A (R k)) _ _=_;rw[hn k hk];exact h⟩
 | none =>
  rw[ha] at h
  obtain⟨n,hn⟩:=hB.up _ (show B L=some o from h)
  exact⟨n,fun k hk=>by show oe (A (R k)) _ _=_;rw[hAB _ _ (hn k hk)];exact hn k hk⟩⟩
theorem Cn.ex{e:Ex}{A B:(Task->Option Out)->Option α}{C:Nat->(Task->Option Out)->Option α}(hA:Cn R L A)(hB:Cn R L B)(hC:∀ i,Cn R L (C i)) :
  Cn R L (fun r=>exE e (A r) (B r) (fun i=>C i r)):=by
 cases e with
 | norm=>exact hA
 | ret=>exact hB
 | exit i=>exact hC i
theorem Cn.ifb{b:Bool}{A B:(Task->Option Out)->Option α}(hA:Cn R L A)(hB:Cn R L B):Cn R L (fun r=>ifb b (A r) (B r)):=by
 cases b
 ·exact hB
 ·exact hA
theorem Cn.ob{x:Option α}{G:α->(Task->Option Out)->Option β}(h:∀ a,Cn R L (G a)):Cn R L (fun r=>ob x fun a=>G a r):=Cn.bind (Cn.const x) h
theorem Cn.guard{b:Bool}{A:(Task->Option Out)->Option α}(hA:Cn R L A):Cn R L (fun r=>guard' b (A r)):=by
 cases b
 ·exact Cn.const none
 ·exact hA
theorem Cn.asBool{v:LV}{G:Bool->(Task->Option Out)->Option β}(h:∀ a,Cn R L (G a)):Cn R L (fun r=>asBool v fun b=>G b r):=by
 cases v with
 | bool b=>exact h b
 | _=>exact Cn.const none
end
set_option linter.unusedSectionVars false
section step
variable {R:Nat->Task->Option Out} {L:Task->Option Out} (hr:∀ t,Cn R L (fun r=>r t))
include hr
theorem zle{α:Type}(T:Tm)(dst:Option Tmp)(x:R1)(k:Tm->Mem->(Task->Option Out)->Option α)(hk:∀ T m,Cn R L (k T m)) :
  Cn R L (fun r=>opFin r T dst x fun T m=>k T m r):=by
 cases x with
 | val v m=>exact Cn.ob fun T=>hk T m
 | skip m=>exact Cn.ob fun T=>hk T m
 | enter f args m=>exact Cn.call (hr _) fun v m=>Cn.ob fun T=>hk T m
 | round l args m=>exact Cn.call (hr _) fun v m=>Cn.ob fun T=>hk T m
 | boom v m=>exact Cn.const none
theorem zcf{α:Type}(T:Tm)(m:Mem)(op:Op)(dst:Option Tmp)(k:Tm->Mem->(Task->Option Out)->Option α)(hk:∀ T m,Cn R L (k T m)) :
  Cn R L (fun r=>opFull P r T m op dst fun T m=>k T m r):=Cn.ob fun x=>zle hr T dst x k hk
theorem z2o(ro:Option Nat)(all:List Oper):∀(os:List Oper) (T:Tm) (ms:List Dfr) (m:Mem),Cn R L (fun r=>z0p P ro r all os T ms m)
 | [],T,ms,m=>Cn.const _
 |⟨dst,op,a1,a2,a3,g⟩ :: os,T,ms,m=>by
  refine Cn.ob fun wt=>Cn.ifb ?_ (Cn.ob fun T=>z2o ro all os T ms m)
  cases hd:isDefer op with
  | none =>
   refine Cn.ob (x:=opA P op T m) fun x=>?_
   cases x with
   | val v m=>exact Cn.ob fun T=>z2o ro all os T ms m
   | skip m=>exact Cn.ob fun T=>z2o ro all os T ms m
   | enter f args m=>exact Cn.callD (hr _) (fun v m=>Cn.ob fun T=>z2o ro all os T ms m) fun v m=>Cn.const _
   | round l args m=>exact Cn.callD (hr _) (fun v m=>Cn.ob fun T=>z2o ro all os T ms m) fun v m=>Cn.const _
   | boom v m=>exact Cn.const _
  | some c=>exact Cn.guard (Cn.ob fun d=>Cn.ob fun T=>z2o ro all os T (d :: ms) m)
theorem z6d(all:List Oper)(ds:List Nat):∀(os:List Oper) (i:Nat) (s:DS),Cn R L (fun r=>z0d P r all ds os i s)
 | [],i,s=>Cn.const _
 | o :: os,i,⟨T,m,st,k,ps⟩=>by
  unfold z0d
  refine Cn.ob fun wt=>Cn.ifb ?_ ?_
  ·refine zcf hr T m o.op o.dst _ fun T m=>?_
   cases cls P o.op<;>exact z6d all ds os _ _
  ·refine Cn.ob fun T=>?_
   cases cls P o.op<;>exact z6d all ds os _ _
theorem z3e(all:List Oper)(ds:List Nat)(j0:Nat):∀(os:List Oper) (i:Nat) (s:DS),Cn R L (fun r=>z16 P r all ds j0 os i s)
 | [],i,s=>Cn.const _
 | o :: os,i,⟨T,m,st,k,ps⟩=>by
  unfold z16
  refine Cn.ifb ?_ ?_
  ·refine Cn.ob fun T=>?_
   cases cls P o.op<;>exact z3e all ds j0 os _ _
  ·refine Cn.ob fun wt=>Cn.ifb ?_ ?_
   ·refine zcf hr T m o.op o.dst _ fun T m=>?_
    cases cls P o.op<;>first|exact Cn.const none|exact z3e all ds j0 os _ _
   ·refine Cn.ob fun T=>?_
    cases cls P o.op<;>first|exact Cn.const none|exact z3e all ds j0 os _ _
theorem z2d(all:List Oper)(ds:List Nat):∀(os:List Oper) (i:Nat) (s:DS),Cn R L (fun r=>z0n P r all ds os i s)
 | [],i,s=>Cn.const _
 | o :: os,i,⟨T,m,st,k,ps⟩=>by
  unfold z0n
  refine Cn.ob fun wt=>Cn.ifb (Cn.ob (x:=op1 P o.op T m) fun x=>?_) ?_
  ·cases x with
   | val v m=>refine Cn.ob fun T=>?_;cases cls P o.op<;>exact z2d all ds os _ _
   | skip m=>refine Cn.ob fun T=>?_;cases cls P o.op<;>exact z2d all ds os _ _
   | enter f args m1 =>
    refine Cn.callD (hr _) (fun v m=>Cn.ob fun T=>?_) fun v m2=>Cn.guard (Cn.ob fun T'=>Cn.bind (z3e hr all ds i os _ _) fun d=>Cn.const _)
    cases cls P o.op<;>exact z2d all ds os _ _
   | round l args m=>refine Cn.call (hr _) fun v m=>Cn.ob fun T=>?_;cases cls P o.op<;>exact z2d all ds os _ _
   | boom v m=>exact Cn.const none
  ·refine Cn.ob fun T=>?_
   cases cls P o.op<;>exact z2d all ds os _ _
omit hr in
theorem z50(r:Task->Option Out)(all:List Oper)(ds:List Nat):∀(os:List Oper) (i:Nat) (s:DS) (q:LV × Mem × DS),z0n P r all ds os i s=some q->z0d P r all ds os i s=none
 | [],i,s,q,h=>by cases h
 | o :: os,i,⟨T,m,st,k,ps⟩,q,h=>by
  unfold z0n at h
  unfold z0d
  obtain⟨wt,hw,h⟩:=zb.1 h
  rw[hw]
  cases wt with
  | false =>
   obtain⟨T',h1,h2⟩:=zb.1 (show ob (T.put o.dst z05) _=some q from h)
   show ob (T.put o.dst z05) _=none
   rw[h1]
   cases hc:cls P o.op<;>simp only[hc] at h2 ⊢<;>exact z50 r all ds os _ _ q h2
  | true =>
   rw[z07] at h
   obtain⟨x,h1,h2⟩:=zb.1 h
   show ob (op1 P o.op T m) _=none
   rw[h1]
   have go:∀(v:LV) (m':Mem),(ob (T.put o.dst v) fun T'=>(match cls P o.op with
     | .mover=>z0n P r all ds os (i+1) ⟨T',m',st,k,ifb (z0q o.op) ({ op:=o.op,T:=T,v:=dstV T' o.dst,lo:=z0x P (ds.getD i 0) all 0,hi:=z0e P i all ds } :: ps) ps⟩
     | .new=>z0n P r all ds os (i+1) ⟨T',m',st,k,ps⟩
     | .calm=>z0n P r all ds os (i+1) ⟨T',m',st,k,ps⟩
     | .anchor=>z0n P r all ds os (i+1) ⟨T',m',m' :: st,k+1,ps⟩))=some q->(ob (T.put o.dst v) fun T'=>(match cls P o.op with
     | .mover=>z0d P r all ds os (i+1) ⟨T',m',st,k,ifb (z0q o.op) ({ op:=o.op,T:=T,v:=dstV T' o.dst,lo:=z0x P (ds.getD i 0) all 0,hi:=z0e P i all ds } :: ps) ps⟩
     | .new=>z0d P r all ds os (i+1) ⟨T',m',st,k,ps⟩
     | .calm=>z0d P r all ds os (i+1) ⟨T',m',st,k,ps⟩
     | .anchor=>z0d P r all ds os (i+1) ⟨T',m',m' :: st,k+1,ps⟩))=none:=by
    intro v m' hg
    obtain⟨T',h3,h4⟩:=zb.1 hg
    rw[h3]
    show(match cls P o.op with
     | .mover=>z0d P r all ds os (i+1) ⟨T',m',st,k,ifb (z0q o.op) ({ op:=o.op,T:=T,v:=dstV T' o.dst,lo:=z0x P (ds.getD i 0) all 0,hi:=z0e P i all ds } :: ps) ps⟩
     | .new=>z0d P r all ds os (i+1) ⟨T',m',st,k,ps⟩
     | .calm=>z0d P r all ds os (i+1) ⟨T',m',st,k,ps⟩
     | .anchor=>z0d P r all ds os (i+1) ⟨T',m',m' :: st,k+1,ps⟩)=none
    cases hc:cls P o.op<;>simp only[hc] at h4 ⊢<;>exact z50 r all ds os _ _ q h4
   cases x with
   | val v m'=>exact go v m' h2
   | skip m'=>exact go z05 m' h2
   | enter f as m1 =>
    show z1x (r (.call f as m1)) _=none
    obtain⟨o1,h3,h4⟩:=zb.1 (show ob (r (.call f as m1)) _=some q from h2)
    rw[h3]
    cases o1 with
    | call v m'=>exact go v m' h4
    | _=>rfl
   | round l as m1 =>
    show z1x (r (.round l as m1)) _=none
    obtain⟨o1,h3,h4⟩:=zb.1 (show ob (r (.round l as m1)) _=some q from h2)
    rw[h3]
    cases o1 with
    | call v m'=>exact go v m' h4
    | _=>rfl
   | boom v m'=>cases h2
theorem z5b{α:Type}(m:Mem)(i:Nat)(k:LoopState->Option Code->FuncId->Tm->List Tmp->Code->Code->Nat->(Task->Option Out)->Option α)(hk:∀ a b c d e f g h,Cn R L (k a b c d e f g h)):Cn R L (fun r=>atLoop m i fun a b c d e f g h=>k a b c d e f g h r):=by
 unfold atLoop
 refine Cn.ob fun b=>?_
 cases b<;>first|exact hk _ _ _ _ _ _ _ _|exact Cn.const none
theorem zbh{α:Type}(m:Mem)(i:Nat)(k:(Task->Option Out)->Option α)(hk:Cn R L k):Cn R L (fun r=>atDefr m i (k r)):=by
 unfold atDefr
 refine Cn.ob fun b=>?_
 cases b<;>first|exact hk|exact Cn.const none
theorem znq{α:Type}(v:LV)(k:FuncId->List LV->List LV->(Task->Option Out)->Option α)(hk:∀ a b c,Cn R L (k a b c)):Cn R L (fun r=>asFn v fun a b c=>k a b c r):=by
 cases v with
 | func fn a b=>cases fn<;>first|exact hk _ _ _|exact Cn.const none
 | _=>exact Cn.const none
theorem zls(fn:FuncId)(ro:Option Nat)(l:Nat)(T:Tm)(ms:List Dfr)(m:Mem):Cn R L (fun r=>rfEnd r fn ro l T ms m):=by
 refine z5b hr m l _ fun st pend fn' tm' ps' a' b' d'=>?_
 cases st with
 | busy=>exact Cn.const none
 | _ =>
  cases pend with
  | none=>exact Cn.const _
  | some c=>exact hr _
theorem zck(fn:FuncId)(ro:Option Nat)(f:Operand)(ps:Array Tmp)(a b:Code)(d:Nat)(T:Tm)(ms:List Dfr)(m:Mem):Cn R L (fun r=>rfCall r fn ro f ps a b d T ms m):=by
 unfold rfCall
 simp only[Mem.new_eq]
 refine Cn.ob fun f=>znq hr f _ fun g fi ca=>Cn.callD (hr _) (fun _ m=>zls hr fn ro _ T ms m) fun v m=>Cn.const _
theorem zbm(ops:Array Oper)(T:Tm)(ms:List Dfr)(m:Mem):Cn R L (fun r=>cDrawG P r ops T ms m) :=
 Cn.orElse (z6d hr _ _ _ _ _) (Cn.bind (z2d hr _ _ _ _ _) fun q=>Cn.const _) fun r q h=>by
  obtain⟨a,h1,_⟩:=zb.1 h
  exact z50 r _ _ _ _ _ _ h1
theorem zjj(fn:FuncId)(ro:Option Nat)(c:Code)(T:Tm)(ms:List Dfr)(m:Mem):Cn R L (fun r=>stCode P r fn ro c T ms m):=by
 cases c with
 | seq a b=>exact Cn.code (hr _) fun e T ms m=>Cn.ex (hr _) (Cn.const _) fun i=>Cn.const _
 | cond x a b=>exact Cn.ob fun c=>Cn.asBool fun c=>Cn.ifb (hr _) (hr _)
 | block id b=>exact Cn.code (hr _) fun e T ms m=>Cn.ex (Cn.const _) (Cn.const _) fun i=>Cn.ifb (Cn.const _) (Cn.const _)
 | scope b=>exact hr _
 | loop b=>exact Cn.code (hr _) fun e T ms m=>Cn.ex (hr _) (Cn.const _) fun i=>Cn.const _
 | region _ ops dr =>
  show Cn R L (fun r=>(ifb dr (cDraw P r ops) (cRegion P r ro ops)) T ms m)
  cases dr with
  | false=>exact z2o hr _ _ _ T ms m
  | true=>exact Cn.ifb (zbm hr ops T ms m) (Cn.guard (zbm hr _ T ms m))
 | rangeFunc f ps a b =>
  show Cn R L (fun r=>cRangeFunc r fn ro f ps a b T ms m)
  unfold cRangeFunc
  cases ro with
  | none =>
   simp only[z56,Mem.new_eq]
   exact zck hr _ _ _ _ _ _ _ _ _ _
  | some l=>exact z5b hr m l _ fun _ _ _ _ _ _ _ d=>zck hr _ _ _ _ _ _ _ _ _ _
 | _=>exact Cn.const _
theorem zbx(f:FuncId)(as:List LV)(pv:LV)(m:Mem):Cn R L (fun r=>dfrRun P r f as pv m):=by
 refine Cn.ob fun fn=>Cn.ob fun T=>Cn.ob fun c=>Cn.ob fun q=>?_
 obtain⟨d,e,c⟩:=q
 exact Cn.ob fun T=>Cn.ob fun T=>Cn.guard (Cn.frame (hr _) (fun e T ms m=>Cn.const _) fun v T ms m=>Cn.const _)
theorem z40(fn:Func)(T:Tm):∀(ds:List Dfr) (m:Mem),Cn R L (fun r=>finRet P r fn T ds m)
 | [],_=>Cn.const _
 | .mark d :: ds,m=>zbh hr m d _ (z40 fn T ds _)
 | .call f as :: ds,m=>Cn.bind (zbx hr f as _ m) fun m=>z40 fn T ds m
theorem zc0(fn:Func)(T:Tm)(v:LV):∀(ds:List Dfr) (m:Mem),Cn R L (fun r=>finDie P r fn T v ds m)
 | [],_=>Cn.const _
 | .mark d :: ds,m=>zbh hr m d _ (zc0 fn T v ds _)
 | .call f as :: ds,m=>Cn.bind (zbx hr f as _ m) fun m=>z40 hr fn T ds m
theorem zb8(t:Task):Cn R L (fun r=>stepT P r t):=by
 cases t with
 | code fn ro c T ms m=>exact zjj hr fn ro c T ms m
 | call f args m =>
  exact Cn.ob fun fn=>Cn.ob fun T=>Cn.ob fun c=>Cn.frame (hr _) (fun e T ms m=>Cn.ex (z40 hr fn T ms m) (z40 hr fn T ms m) fun _=>Cn.const _) fun v T ms m=>zc0 hr fn T v ms m
 | round l args m =>
  refine z5b hr m l _ fun st _ fn tm ps assign body _=>?_
  cases st with
  | ready =>
   refine Cn.ob fun T=>Cn.frame (hr _) (fun e T ms m=>?_) fun _ _ _ _=>Cn.const _
   cases e with
   | norm =>
    refine z5b hr m l _ fun st pend fn' tm' ps' a' b' d'=>?_
    cases st with
    | ready=>exact Cn.frame (hr _) (fun e _ _ m=>Cn.const _) fun v T ms m=>Cn.const _
    | _=>exact Cn.const none
   | _=>exact Cn.const none
  | _=>exact Cn.const none
end step
class Orc (P:Program) where
 ask:FuncId->List LV->Mem->Option LV
variable [Orc P]
noncomputable def stepO(P:Program)[Orc P](rec:Task->Option Out)(t:Task):Option Out :=
 match t with
 | .call f as m=>match Orc.ask P f as m with|some v=>some (.call v m)|none=>stepT P rec (.call f as m)
 | .code f r c T ms m=>stepT P rec (.code f r c T ms m)
 | .round l as m=>stepT P rec (.round l as m)
theorem zb7{R:Nat->Task->Option Out}{L:Task->Option Out}(hr:∀ t,Cn R L (fun r=>r t))(t:Task):Cn R L (fun r=>stepO P r t):=by
 cases t with
 | call f as m =>
  cases h:Orc.ask P f as m with
  | some v =>
   have e:(fun r=>stepO P r (.call f as m))=fun _=>some (.call v m):=by
    funext r;show(match Orc.ask P f as m with|some v=>some (Out.call v m)|none=>stepT P r (.call f as m))=_;rw[h]
   rw[e];exact Cn.const _
  | none =>
   have e:(fun r=>stepO P r (.call f as m))=fun r=>stepT P r (.call f as m):=by
    funext r;show(match Orc.ask P f as m with|some v=>some (Out.call v m)|none=>stepT P r (.call f as m))=_;rw[h]
   rw[e];exact zb8 hr _
 | code f r c T ms m=>exact zb8 hr _
 | round l as m=>exact zb8 hr _
noncomputable def runO(P:Program)[Orc P]:Nat->Task->Option Out
 | 0=>fun _=>none
 | n+1=>fun t=>stepO P (runO P n) t
theorem zf6:∀(n:Nat) (t:Task) (o:Out),runO P n t=some o->∀ k,n<=k->runO P k t=some o
 | 0,_,_,h,_,_=>by cases h
 | n+1,t,o,h,k,hk=>by
  obtain⟨k,rfl⟩:∃ j,k=j+1:=⟨k - 1,by omega⟩
  have hk:n<=k:=by omega
  obtain⟨N,hN⟩:=(zb7 (P:=P) (R:=fun j=>if j=0 then runO P n else runO P k) (L:=runO P n)
   (fun t=>⟨fun o ho=>⟨1,fun j hj=>by show(if j=0 then runO P n else runO P k) t=_;rw[if_neg (by omega)];exact zf6 n t o ho k hk⟩⟩) t).up o h
  have:=hN (max N 1) (by omega)
  rw[if_neg (by omega)] at this
  exact this
open Classical in
noncomputable def om(P:Program)[Orc P](t:Task):Option Out:=if h:∃ o n,runO P n t=some o then some h.choose else none
theorem z70{t:Task}{o:Out}:om P t=some o ↔ ∃ n,runO P n t=some o:=by
 unfold om
 constructor
 ·intro h
  split at h
  ·rename_i hh
   cases h
   exact hh.choose_spec
  ·cases h
 ·rintro⟨n,hn⟩
  have hh:∃ o n,runO P n t=some o:=⟨o,n,hn⟩
  rw[dif_pos hh]
  obtain⟨m,hm⟩:=hh.choose_spec
  have h1:=zf6 n t o hn (max n m) (by omega)
  have h2:=zf6 m t _ hm (max n m) (by omega)
  rw[h1] at h2
  exact h2.symm
theorem zgj{t:Task}{o:Out}(h:stepO P (om P) t=some o):om P t=some o:=by
 obtain⟨n,hn⟩:=(zb7 (P:=P) (R:=runO P) (L:=om P) (fun t=>⟨fun o ho=>by
  obtain⟨n,hn⟩:=z70.1 ho
  exact⟨n,fun k hk=>zf6 n t o hn k hk⟩⟩) t).up o h
 exact z70.2 ⟨n+1,hn n (Nat.le_refl _)⟩
theorem zez(t:Task):om P t=stepO P (om P) t:=by
 cases h:stepO P (om P) t with
 | some o=>exact zgj h
 | none =>
  cases h':om P t with
  | none=>rfl
  | some o =>
   obtain⟨n,hn⟩:=z70.1 h'
   cases n with
   | zero=>cases hn
   | succ n =>
    obtain⟨N,hN⟩:=(zb7 (P:=P) (R:=fun _=>om P) (L:=runO P n) (fun t=>⟨fun o ho=>⟨0,fun _ _=>z70.2 ⟨n,ho⟩⟩⟩) t).up o hn
    rw[hN N (Nat.le_refl _)] at h
    cases h
theorem zb1(f:FuncId)(r:Option Nat)(c:Code)(T:Tm)(ms:List Dfr)(m:Mem):om P (.code f r c T ms m)=stepT P (om P) (.code f r c T ms m):=zez _
theorem zld(l:Nat)(as:List LV)(m:Mem):om P (.round l as m)=stepT P (om P) (.round l as m):=zez _
theorem zp6{f:FuncId}{as:List LV}{m:Mem}(h:Orc.ask P f as m=none):om P (.call f as m)=stepT P (om P) (.call f as m):=by
 rw[zez];show(match Orc.ask P f as m with|some v=>some (Out.call v m)|none=>stepT P (om P) (.call f as m))=_;rw[h]
theorem zrk{f:FuncId}{as:List LV}{v:LV}{m:Mem}(h:Orc.ask P f as m=some v):om P (.call f as m)=some (.call v m):=by
 rw[zez];show(match Orc.ask P f as m with|some v=>some (Out.call v m)|none=>stepT P (om P) (.call f as m))=_;rw[h]
end
end PvL
end
section
namespace PvL
set_option linter.unusedSectionVars false
set_option linter.unusedVariables false
open Go
section
variable {P:Program}
structure OrcOk (P:Program) [Orc P]:Prop where
 fn:∀ f as m v,Orc.ask P f as m=some v->∃ fn,fnOf P f=some fn
 imp:∀ f as m v,Orc.ask P f as m=some v->∀ d,d<=3->z15 P d f=false
 sim:∀ f as m v,Orc.ask P f as m=some v->Sim P (.call f as m) (.call v m)
theorem z5u[Orc P](hmix:P.follows .mixedOrders=true)(ho:OrcOk P):∀ n,Good P (runO P n)
 | 0=>⟨fun t o h=>(by cases h),fun t o h=>(by cases h),fun _ _ _ _ h=>(by cases h),fun d _=>⟨fun f _ args m o h=>by(cases h),fun c _ fn ro T ms m o h=>by(cases h)⟩⟩
 | n+1=>by
  have ih:=z5u hmix ho n
  have hs:=zct ih.mono ih.sim ih.fn (zej hmix ih.mono ih.pure ih.sim ih.fn)
  have hn:=za4 (P:=P) ih.mono
  have key:∀ f as m o,runO P (n+1) (.call f as m)=some o->(∃ v,Orc.ask P f as m=some v /\ o=.call v m) ∨ stepT P (runO P n) (.call f as m)=some o:=by
   intro f as m o h
   have h:(match Orc.ask P f as m with|some v=>some (Out.call v m)|none=>stepT P (runO P n) (.call f as m))=some o:=h
   cases hl:Orc.ask P f as m with
   | none=>rw[hl] at h;exact .inr h
   | some v=>rw[hl] at h;cases h;exact .inl ⟨v,rfl,rfl⟩
  refine⟨fun t o h=>?_,fun t o h=>?_,fun f as m1 o h=>?_,fun d hd=>⟨fun f hf as m o h=>?_,fun c hp fn ro T ms m o h=>(z49 ih.pure d hd).2 c hp fn ro T ms m o h⟩⟩
  ·cases t with
   | code f r c T ms m=>exact hn _ _ h
   | round l as m=>exact hn _ _ h
   | call f as m =>
    rcases key f as m o h with⟨v,hv,rfl⟩|h
    ·exact Nat.le_refl _
    ·exact hn _ _ h
  ·cases t with
   | code f r c T ms m=>exact hs _ _ h
   | round l as m=>exact hs _ _ h
   | call f as m =>
    rcases key f as m o h with⟨v,hv,rfl⟩|h
    ·exact ho.sim f as m v hv
    ·exact hs _ _ h
  ·rcases key f as m1 _ h with⟨v',hv,_⟩|h
   ·exact ho.fn f as m1 v' hv
   ·obtain⟨fn,hfn,_⟩:=zb.1 (show stCall P (runO P n) f as m1=some _ from h)
    exact⟨fn,hfn⟩
  ·have hno:∀ M,Orc.ask P f as M=none:=fun M=>by
    cases hl:Orc.ask P f as M with
    | none=>rfl
    | some v=>have:=ho.imp f as M v hl d hd;rw[hf] at this;cases this
   have hst:∀ M,runO P (n+1) (.call f as M)=stepT P (runO P n) (.call f as M):=fun M=>by
    show(match Orc.ask P f as M with|some v=>some (Out.call v M)|none=>stepT P (runO P n) (.call f as M))=_
    rw[hno M]
   rw[hst] at h
   obtain⟨v,h1,h2⟩:=(z49 ih.pure d hd).1 f hf as m o h
   exact⟨v,h1,fun M=>by rw[hst];exact h2 M⟩
structure OmOk (P:Program) [Orc P]:Prop where
 mono:z0j (om P)
 sim:RecSim P (om P)
 fn:RecFn P (om P)
theorem ztt[Orc P](hmix:P.follows .mixedOrders=true)(ho:OrcOk P):OmOk P where
 mono:=fun t o h=>by obtain⟨n,hn⟩:=z70.1 h;exact(z5u hmix ho n).mono _ _ hn
 sim:=fun t o h=>by obtain⟨n,hn⟩:=z70.1 h;exact(z5u hmix ho n).sim _ _ hn
 fn:=fun f as m o h=>by obtain⟨n,hn⟩:=z70.1 h;exact(z5u hmix ho n).fn _ _ _ _ hn
def FreshA(ρ:Rho)(n:Nat):Prop:=∀ i,n<=i->ρ i=none
theorem FreshA.fresh{ρ:Rho}{n:Nat}(h:FreshA ρ n)(m:Nat):Fresh ρ n m:=fun i h1 _=>h i h1
theorem FreshA.same{ρ ρ':Rho}{n m:Nat}(h:FreshA ρ n)(hs:Same ρ ρ' n m)(hle:n<=m):FreshA ρ' m:=fun i hi=>by rw[hs.2 i (.inr hi)];exact h i (by omega)
def OutG(K:Ex->Tm->List Dfr->Mem->Prop)(D:LV->Tm->List Dfr->Mem->Prop):Out->Prop
 | .code e T ms m=>K e T ms m
 | .boom v T ms m=>D v T ms m
 | _=>False
def CodeE(P:Program)(fn:FuncId)(ro:Option Nat)(c:Code)(T:Tm)(ms:List Dfr)(m:Mem)(K:Ex->Tm->List Dfr->Mem->Prop)(D:LV->Tm->List Dfr->Mem->Prop):Prop :=
 ∀(Pt:Prot) (ρ:Rho) (b:Frame) (k:List Item) (cs:List Frame) (w:World) (a:Act),b.fn=fn->RO ρ ro b.roundOf->TR ρ T a.tmps->DR ρ ms a.defers->Rel Pt ρ m w->FreshA ρ m.next ->
  ∃ o,OutG K D o /\ m.next<=o.mem.next /\ CodeOut P Pt ρ m.next (lone (b.atR a (.code c :: k)) cs w) b k cs o
def CallE(P:Program)(f:FuncId)(as:List LV)(m:Mem)(Q D:LV->Mem->Prop):Prop :=
 ∀(Pt:Prot) (ρ:Rho) (w:World) (as':Array Value) (cs:List Frame),VRs ρ as as'.toList->GlobOk ρ->Rel Pt ρ m w->FreshA ρ m.next ->
  (∃ v m',Q v m' /\ m.next<=m'.next /\ ∃ ρ' v' w',Same ρ ρ' m.next m'.next /\ VR ρ' v v' /\ Rel Pt ρ' m' w' /\ ∃ fr,Steps P (lone (Frame.enter P f as' .normal) cs w) (lone fr cs w') /\ fr.fn=f /\ fr.leaving P w' (.returned v')) ∨
  (∃ v m',D v m' /\ m.next<=m'.next /\ ∃ ρ' v' w',Same ρ ρ' m.next m'.next /\ VR ρ' v v' /\ Rel Pt ρ' m' w' /\ ∃ fr,Steps P (lone (Frame.enter P f as' .normal) cs w) (lone fr cs w') /\ fr.fn=f /\ fr.leaving P w' (.panicked [{ v:=v',recovered:=false }]))
def OpsE(P:Program)(ops:Array Oper)(ro:Option Nat)(i n:Nat)(T:Tm)(ms:List Dfr)(m:Mem)(K:Ex->Tm->List Dfr->Mem->Prop)(D:LV->Tm->List Dfr->Mem->Prop):Prop :=
 ∀(Pt:Prot) (ρ:Rho) (b:Frame) (k:List Item) (cs:List Frame) (w:World) (a:Act),RO ρ ro b.roundOf->TR ρ T a.tmps->DR ρ ms a.defers->Rel Pt ρ m w->FreshA ρ m.next ->
  ∃ o,OutG K D o /\ m.next<=o.mem.next /\ CodeOut P Pt ρ m.next (lone (b.atR a (.inRegion ops (List.range' i n) :: k)) cs w) b k cs o
variable {fn:FuncId} {ro:Option Nat} {T:Tm} {ms:List Dfr} {m:Mem} {K:Ex->Tm->List Dfr->Mem->Prop} {D:LV->Tm->List Dfr->Mem->Prop}
theorem zkr[Orc P](hO:OmOk P){c:Code}{o:Out}(h:om P (.code fn ro c T ms m)=some o)(ho:OutG K D o):CodeE P fn ro c T ms m K D:=fun Pt ρ b k cs w a h1 h2 h3 h4 h5 h6 =>
 ⟨o,ho,hO.mono _ _ h,hO.sim _ _ h Pt ρ b k cs w a h1 h2 h3 h4 h5 (h6.fresh _)⟩
theorem zkl[Orc P](hO:OmOk P){f:FuncId}{as:List LV}{v:LV}{m':Mem}{Q D:LV->Mem->Prop}(h:om P (.call f as m)=some (.call v m'))(hq:Q v m'):CallE P f as m Q D:=fun Pt ρ w as' cs h1 h2 h3 h4 =>
 .inl ⟨v,m',hq,hO.mono _ _ h,hO.sim _ _ h Pt ρ w as' cs h1 h2 h3 (h4.fresh _)⟩
theorem CodeE.mono{c:Code}{K':Ex->Tm->List Dfr->Mem->Prop}{D':LV->Tm->List Dfr->Mem->Prop}(h:CodeE P fn ro c T ms m K D)(hk:∀ e T ms m,K e T ms m->K' e T ms m)(hd:∀ v T ms m,D v T ms m->D' v T ms m):CodeE P fn ro c T ms m K' D':=fun Pt ρ b k cs w a h1 h2 h3 h4 h5 h6=>by
 obtain⟨o,ho,hle,hc⟩:=h Pt ρ b k cs w a h1 h2 h3 h4 h5 h6
 refine⟨o,?_,hle,hc⟩
 cases o with
 | code e T ms m=>exact hk _ _ _ _ ho
 | boom v T ms m=>exact hd _ _ _ _ ho
 | call _ _=>exact ho
 | die _ _=>exact ho
theorem OpsE.mono{ops:Array Oper}{i n:Nat}{K':Ex->Tm->List Dfr->Mem->Prop}{D':LV->Tm->List Dfr->Mem->Prop}(h:OpsE P ops ro i n T ms m K D)(hk:∀ e T ms m,K e T ms m->K' e T ms m)(hd:∀ v T ms m,D v T ms m->D' v T ms m):OpsE P ops ro i n T ms m K' D':=fun Pt ρ b k cs w a h2 h3 h4 h5 h6=>by
 obtain⟨o,ho,hle,hc⟩:=h Pt ρ b k cs w a h2 h3 h4 h5 h6
 refine⟨o,?_,hle,hc⟩
 cases o with
 | code e T ms m=>exact hk _ _ _ _ ho
 | boom v T ms m=>exact hd _ _ _ _ ho
 | call _ _=>exact ho
 | die _ _=>exact ho
theorem CallE.mono{f:FuncId}{as:List LV}{Q D Q' D':LV->Mem->Prop}(h:CallE P f as m Q D)(hq:∀ v m,Q v m->Q' v m)(hd:∀ v m,D v m->D' v m):CallE P f as m Q' D':=fun Pt ρ w as' cs h1 h2 h3 h4 =>
 (h Pt ρ w as' cs h1 h2 h3 h4).imp (fun⟨v,m',g1,g2⟩=>⟨v,m',hq _ _ g1,g2⟩) (fun⟨v,m',g1,g2⟩=>⟨v,m',hd _ _ g1,g2⟩)
theorem zhl{x y:Code}(h:CodeE P fn ro x T ms m (fun e T ms m=>match e with | .norm=>CodeE P fn ro y T ms m K D | .ret=>K .ret T ms m | .exit id=>K (.exit id) T ms m) D):CodeE P fn ro (.seq x y) T ms m K D:=fun Pt ρ b k cs w a hb hro hT hd hrel hf=>by
 obtain⟨o1,ho1,n1,h1⟩:=h Pt ρ b (Item.code y :: k) cs w a hb hro hT hd hrel hf
 cases o1 with
 | code e T1 ms1 m1 =>
  obtain⟨ρ1,a1,w1,hs1,hT1,hd1,hr1,harr1⟩:=h1
  cases e with
  | norm =>
   obtain⟨o,ho,n2,h2⟩:=(ho1:CodeE P fn ro y T1 ms1 m1 K D) Pt ρ1 b k cs w1 a1 hb (hro.mono hs1.1) hT1 hd1 hr1 (hf.same hs1 n1)
   exact⟨o,ho,Nat.le_trans n1 n2,h2.after (.head stepR_seq harr1) hs1 n1 n2⟩
  | ret =>
   obtain⟨k1,harr1⟩:=harr1
   exact⟨.code .ret T1 ms1 m1,ho1,n1,ρ1,a1,w1,hs1,hT1,hd1,hr1,k1,.head stepR_seq harr1⟩
  | exit id =>
   obtain⟨k1,hk,harr1⟩:=harr1
   exact⟨.code (.exit id) T1 ms1 m1,ho1,n1,ρ1,a1,w1,hs1,hT1,hd1,hr1,k1,hk,.head stepR_seq harr1⟩
 | boom v T1 ms1 m1=>exact⟨.boom v T1 ms1 m1,ho1,n1,CodeOut.of_steps (.one stepR_seq) h1.boomK⟩
 | call _ _=>exact ho1.elim
 | die _ _=>exact ho1.elim
theorem zfu{x:Operand}{y z:Code}{q:Bool}(hx:ev T x=some (.bool q))(h1:q=true->CodeE P fn ro y T ms m K D)(h0:q=false->CodeE P fn ro z T ms m K D):CodeE P fn ro (.cond x y z) T ms m K D:=fun Pt ρ b k cs w a hb hro hT hd hrel hf=>by
 have hv:=(zr hT hx).bool_inv
 cases q with
 | true =>
  obtain⟨o,ho,n,h⟩:=h1 rfl Pt ρ b k cs w a hb hro hT hd hrel hf
  exact⟨o,ho,n,h.of_steps (.one (stepR_cond hv))⟩
 | false =>
  obtain⟨o,ho,n,h⟩:=h0 rfl Pt ρ b k cs w a hb hro hT hd hrel hf
  exact⟨o,ho,n,h.of_steps (.one (stepR_cond hv))⟩
theorem zd7{id:Nat}{x:Code}(h:CodeE P fn ro x T ms m (fun e T ms m=>match e with | .norm=>K .norm T ms m | .ret=>K .ret T ms m | .exit i=>if i=id then K .norm T ms m else K (.exit i) T ms m) D):CodeE P fn ro (.block id x) T ms m K D:=fun Pt ρ b k cs w a hb hro hT hd hrel hf=>by
 obtain⟨o1,ho1,n1,h1⟩:=h Pt ρ b (.inBlock id :: k) cs w a hb hro hT hd hrel hf
 cases o1 with
 | code e T1 ms1 m1 =>
  obtain⟨ρ1,a1,w1,hs1,hT1,hd1,hr1,harr1⟩:=h1
  cases e with
  | norm=>exact⟨.code .norm T1 ms1 m1,ho1,n1,ρ1,a1,w1,hs1,hT1,hd1,hr1,.head stepR_block (Steps.trans harr1 (.one stepR_inBlock))⟩
  | ret =>
   obtain⟨k1,harr1⟩:=harr1
   exact⟨.code .ret T1 ms1 m1,ho1,n1,ρ1,a1,w1,hs1,hT1,hd1,hr1,k1,.head stepR_block harr1⟩
  | exit i =>
   obtain⟨k1,hk,harr1⟩:=harr1
   have ho1:if i=id then K .norm T1 ms1 m1 else K (.exit i) T1 ms1 m1:=ho1
   by_cases hi:i=id
   ·rw[if_pos hi] at ho1
    have ho2:OutG K D (.code .norm T1 ms1 m1):=ho1
    subst hi
    exact⟨.code .norm T1 ms1 m1,ho2,n1,ρ1,a1,w1,hs1,hT1,hd1,hr1,.head stepR_block (Steps.trans harr1 (.one (stepR_exit (by rw[hk];simp[exitTo]))))⟩
   ·rw[if_neg hi] at ho1
    have hne:(id == i)=false:=by rw[beq_eq_false_iff_ne];exact fun e=>hi e.symm
    exact⟨.code (.exit i) T1 ms1 m1,ho1,n1,ρ1,a1,w1,hs1,hT1,hd1,hr1,k1,by rw[hk];simp[exitTo,hne],.head stepR_block harr1⟩
 | boom v T1 ms1 m1=>exact⟨.boom v T1 ms1 m1,ho1,n1,CodeOut.of_steps (.one stepR_block) h1.boomK⟩
 | call _ _=>exact ho1.elim
 | die _ _=>exact ho1.elim
theorem zfv{x:Code}(h:CodeE P fn ro x T ms m (fun e T ms m=>match e with | .norm=>CodeE P fn ro (.loop x) T ms m K D | .ret=>K .ret T ms m | .exit id=>K (.exit id) T ms m) D):CodeE P fn ro (.loop x) T ms m K D:=fun Pt ρ b k cs w a hb hro hT hd hrel hf=>by
 obtain⟨o1,ho1,n1,h1⟩:=h Pt ρ b (.inLoop x :: k) cs w a hb hro hT hd hrel hf
 cases o1 with
 | code e T1 ms1 m1 =>
  obtain⟨ρ1,a1,w1,hs1,hT1,hd1,hr1,harr1⟩:=h1
  cases e with
  | norm =>
   obtain⟨o,ho,n2,h3⟩:=(ho1:CodeE P fn ro (.loop x) T1 ms1 m1 K D) Pt ρ1 b k cs w1 a1 hb (hro.mono hs1.1) hT1 hd1 hr1 (hf.same hs1 n1)
   have s1:step P (lone (b.atR a1 (.inLoop x :: k)) cs w1)=.next (lone (b.atR a1 (.code x :: .inLoop x :: k)) cs w1):=stepR_inLoop
   have s2:step P (lone (b.atR a1 (.code (.loop x) :: k)) cs w1)=.next (lone (b.atR a1 (.code x :: .inLoop x :: k)) cs w1):=stepR_loop
   have pre:Steps P (lone (b.atR a (.code (.loop x) :: k)) cs w) (lone (b.atR a1 (.code x :: .inLoop x :: k)) cs w1):=.head stepR_loop (Steps.trans harr1 (.one s1))
   refine⟨o,ho,Nat.le_trans n1 n2,?_⟩
   cases o with
   | code e T' ms' m' =>
    obtain⟨ρ2,a2,w2,hs2,hT2,hd2,hr2,harr2⟩:=h3
    exact⟨ρ2,a2,w2,hs1.trans hs2 n1 n2,hT2,hd2,hr2,Arr.of_loop pre s2 harr2⟩
   | boom v T' ms' m' =>
    obtain⟨ρ2,a2,w2,v',k1,hs2,hT2,hd2,hr2,hv2,hst2⟩:=h3
    refine⟨ρ2,a2,w2,v',k1,hs1.trans hs2 n1 n2,hT2,hd2,hr2,hv2,pre.trans (Steps.tail s2 hst2 fun e=>?_)⟩
    have:=zcc e
    simp[Frame.atR,Frame.boom] at this
   | call _ _=>trivial
   | die _ _=>trivial
  | ret =>
   obtain⟨k1,harr1⟩:=harr1
   exact⟨.code .ret T1 ms1 m1,ho1,n1,ρ1,a1,w1,hs1,hT1,hd1,hr1,k1,.head stepR_loop harr1⟩
  | exit id =>
   obtain⟨k1,hk,harr1⟩:=harr1
   exact⟨.code (.exit id) T1 ms1 m1,ho1,n1,ρ1,a1,w1,hs1,hT1,hd1,hr1,k1,hk,.head stepR_loop harr1⟩
 | boom v T1 ms1 m1=>exact⟨.boom v T1 ms1 m1,ho1,n1,CodeOut.of_steps (.one stepR_loop) h1.boomK⟩
 | call _ _=>exact ho1.elim
 | die _ _=>exact ho1.elim
theorem zbu{id:Nat}{ops:Array Oper}(h:OpsE P ops ro 0 ops.size T ms m K D):CodeE P fn ro (.region id ops false) T ms m K D:=fun Pt ρ b k cs w a hb hro hT hd hrel hf=>by
 obtain⟨o,ho,n,h1⟩:=h Pt ρ b k cs w a hro hT hd hrel hf
 refine⟨o,ho,n,CodeOut.of_steps (.one stepR_region) ?_⟩
 rw[List.range_eq_range']
 exact h1
variable {ops:Array Oper} {i n:Nat} {o:Oper}
theorem zlh(h:K .norm T ms m):OpsE P ops ro i 0 T ms m K D:=fun Pt ρ b k cs w a hro hT hd hrel hf =>
 ⟨.code .norm T ms m,h,Nat.le_refl _,ρ,a,w,Same.refl _ _ _,hT,hd,hrel,.one stepR_region_end⟩
theorem zlg[Orc P](hO:OmOk P)(ho:ops[i]?=some o)(hw:wanted ops.toList T o.guard=some true)(hnd:isDefer o.op=none){T':Tm}{m':Mem}(hs:z11 (om P) (opA P o.op T m) T o.dst T' m')
  (h:OpsE P ops ro (i+1) n T' ms m' K D):OpsE P ops ro i (n+1) T ms m K D:=fun Pt ρ b k cs w a hro hT hd hrel hf=>by
 have hw':=z0w hw hT
 have n1:=hs.next' hO.mono (z4h o.op)
 obtain⟨ρ1,v1,w1,hs1,hT1,hrel1,hsteps⟩:=z3m (b:=b) hO.mono hO.sim ho hs hO.fn (z4h o.op) (fun r hr hf=>zb3 hr hT hrel hf) (fun c e=>by rw[e] at hnd;cases hnd) (List.range' (i+1) n) k cs hw' hT hrel (hf.fresh _)
 obtain⟨q,hq,n2,h2⟩:=h Pt ρ1 b k cs w1 _ (hro.mono hs1.1) hT1 (by rw[z0b];exact hd.mono hs1.1) hrel1 (hf.same hs1 n1)
 refine⟨q,hq,Nat.le_trans n1 n2,?_⟩
 rw[z2t]
 exact h2.after hsteps hs1 n1 n2
theorem zli(ho:ops[i]?=some o)(hw:wanted ops.toList T o.guard=some false){T':Tm}(hp:T.put o.dst z05=some T')(h:OpsE P ops ro (i+1) n T' ms m K D):OpsE P ops ro i (n+1) T ms m K D:=fun Pt ρ b k cs w a hro hT hd hrel hf=>by
 have hw':=z0w hw hT
 obtain⟨q,hq,n2,h2⟩:=h Pt ρ b k cs w (a.put o.dst undef) hro (hT.put hp (.tup .nil)) (by rw[z0b];exact hd) hrel hf
 refine⟨q,hq,n2,?_⟩
 rw[z2t]
 refine h2.of_steps (.one ?_)
 have:=stepR_op_skip (P:=P) (b:=b) (a:=a) (k:=k) (cs:=cs) (w:=w) (ops:=ops) (i:=i) (rest:=List.range' (i+1) n) (by simp[ho,hw'])
 rw[this,ho];rfl
theorem ziu{f:FuncId}{as:List LV}{Q D1:LV->Mem->Prop}(hfn:∃ fd,fnOf P f=some fd)(ho:ops[i]?=some o)(hw:wanted ops.toList T o.guard=some true)(hnd:isDefer o.op=none)(hA:opA P o.op T m=some (.enter f as m))(hc:CallE P f as m Q D1)
  (h:∀ v m',Q v m'->∃ T',T.put o.dst v=some T' /\ OpsE P ops ro (i+1) n T' ms m' K D) (hdie:∀ v m',D1 v m'->D v T ms m'):OpsE P ops ro i (n+1) T ms m K D:=fun Pt ρ b k cs w a hro hT hd hrel hf=>by
 have hw':=z0w hw hT
 have hnd':∀ c,o.op ≠ .defer c:=fun c e=>by rw[e] at hnd;cases hnd
 obtain⟨_,hok⟩:=zb3 (P:=P) (a:=a) hA hT hrel (hf.fresh _)
 obtain⟨fd,hfn⟩:=hfn
 obtain⟨as',hrun,has⟩:=hok fd hfn
 have hfin:∀ v,(b.atR a (.inRegion ops (i :: List.range' (i+1) n) :: k)).finish v=b.atR (a.put o.dst v) (.inRegion ops (List.range' (i+1) n) :: k):=by
  intro v;rw[Frame.finish_atR,ho];rfl
 have henter:step P (lone (b.atR a (.inRegion ops (i :: List.range' (i+1) n) :: k)) cs w)=.next (lone (Frame.enter P f as' .normal) (b.atR a (.inRegion ops (i :: List.range' (i+1) n) :: k) :: cs) w) :=
  step_lone_go (by rw[stepGR_op ho hw',Oper.semAt_eq _ _ _ hnd'];simp[stepG.apply,hrun,Frame.atR])
 rw[z2t]
 rcases hc Pt ρ w as' (b.atR a (.inRegion ops (i :: List.range' (i+1) n) :: k) :: cs) has hT.3 hrel hf with⟨v,m',hq,n1,ρ',v',w',hsame,hv,hrel',fr,h1,h2,h3⟩|⟨v,m',hq,n1,ρ',v',w',hsame,hv,hrel',fr,h1,h2,h3⟩
 ·obtain⟨T',hp,hn⟩:=h v m' hq
  obtain⟨q,hq2,n2,h4⟩:=hn Pt ρ' b k cs w' (a.put o.dst v') (hro.mono hsame.1) ((hT.mono hsame.1).put hp hv) (by rw[z0b];exact hd.mono hsame.1) hrel' (hf.same hsame n1)
  refine⟨q,hq2,Nat.le_trans n1 n2,h4.after (.head henter (h1.trans (.one ?_))) hsame n1 n2⟩
  rw[<-hfin];exact step_leave_returned h3
 ·refine⟨.boom v T ms m',hdie v m' hq,n1,ρ',a,w',v',(.inRegion ops (i :: List.range' (i+1) n) :: k),hsame,hT.mono hsame.1,hd.mono hsame.1,hrel',hv,.head henter (h1.trans (.one ?_))⟩
  have:=step_leave_panicked (c:=b.atR a (.inRegion ops (i :: List.range' (i+1) n) :: k)) (cs:=cs) h3
  rw[Frame.raise_atR] at this
  exact this
theorem zms{ρ:Rho}:∀ {l:List (Nat × LV × LV)} {L:List MapEntry},LR ρ l L->∀ {j:Nat} {e:MapEntry},L[j]?=some e->∃ k v,(e.born,k,v) ∈ l /\ VR ρ k e.key /\ VR ρ v e.val
 | [],[],_,j,e,h=>by cases h
 | x :: l,y :: L,h,0,e,he=>by
  have hy:y=e:=Option.some.inj he
  subst hy
  obtain⟨b,k,v⟩:=x
  obtain⟨⟨h1,h2,h3⟩,_⟩:=h
  have h1:b=y.born:=h1
  subst h1
  exact⟨k,v,List.mem_cons_self,h2,h3⟩
 | x :: l,y :: L,h,j+1,e,he=>by
  obtain⟨k,v,h1,h2⟩:=zms h.2 (j:=j) (e:=e) (by simpa using he)
  exact⟨k,v,List.mem_cons_of_mem _ h1,h2⟩
 | [],_ :: _,h,_,_,_=>h.elim
 | _ :: _,[],h,_,_,_=>h.elim
theorem zmt{ρ:Rho}:∀ {l:List (Nat × LV × LV)} {L:List MapEntry},LR ρ l L->l.length=L.length
 | [],[],_=>rfl
 | _ :: _,_ :: _,h=>by simp[zmt h.2]
 | [],_ :: _,h=>h.elim
 | _ :: _,[],h=>h.elim
theorem zdp{Pt:Prot}{ρ:Rho}{w:World}{a:Act}{dst:Option Tmp}{x:Operand}{ty:TypeId}{pos:String}{af:Array Edge}{gd:Option (Nat × Bool)}{id mi since clk last:Nat}{seen bs:List Nat}{es:List (LV × LV)}
  (hv:ev T x=some (.ptr (some (id,0)))) (hi:m.get id=some (.iter (some mi) since seen last)) (hm:m.get mi=some (.map es bs clk)) (hlt:allLt since bs=true) (hst:seen=[] ∨ es=[] ∨ anyLt last bs=true) (hne:leftL seen bs es ≠ [])
  (hT:TR ρ T a.tmps) (hrel:Rel Pt ρ m w) :
  ∃ b k v,(b,k,v) ∈ leftL seen bs es /\ ∃ v' w',(execOp a.eval ⟨dst,.next x false,ty,pos,af,gd⟩).run P w=.ok (.value v') w' /\ VR ρ (.tup [.bool true,k,v]) v' /\ Rel Pt ρ (m.upd id (some (.iter (some mi) since (seen ++ [b]) clk))) w':=by
 have hx:=zr hT hv
 generalize hx':a.eval x=x' at hx
 have hex:execOp a.eval ⟨dst,.next x false,ty,pos,af,gd⟩=(do pure (.value (<- Instr.next x' false ty)):Sem Next):=by rw[<-hx'];rfl
 cases hx with
 | ptr hρ =>
 rename_i b s c
 obtain⟨rfl,b',s',c',hρ',hh⟩:=hrel.iter hi hρ
 obtain⟨E,hE,her,hbs⟩:=hrel.map hm hρ'
 have hlt:=za8 hlt
 have hbad:(!seen.toArray.isEmpty && !E.isEmpty && E.all (·.born>=last))=false:=by
  rcases hst with h|h|h
  ·subst h;simp
  ·subst h
   have:E.toList=[]:=by
    cases hl:E.toList with
    | nil=>rfl
    | cons e l=>rw[hl] at her;exact her.elim
   have:E=#[]:=by simpa using this
   subst this;simp
  ·obtain⟨q,hq,hql⟩:=za9 h
   rw[hbs] at hq
   obtain⟨e,he,rfl⟩:=List.mem_map.1 hq
   have:E.all (·.born>=last)=false:=by
    rw[<-Bool.not_eq_true]
    intro hall
    have:=Array.all_eq_true'.1 hall e (by simpa using he)
    simp at this;omega
   rw[this,Bool.and_false]
 have hold:((E.filter fun e=>!seen.toArray.contains e.born).filter (·.born < since))=E.filter fun e=>!seen.toArray.contains e.born:=by
  rw[Array.filter_eq_self]
  intro e he
  have:=(Array.mem_filter.1 he).1
  have:=hlt e.born (by rw[hbs];exact List.mem_map.2 ⟨e,by simpa using this,rfl⟩)
  simpa using this
 have hnew:((E.filter fun e=>!seen.toArray.contains e.born).filter (·.born>=since))=#[]:=by
  rw[Array.filter_eq_empty_iff]
  intro e he
  have:=(Array.mem_filter.1 he).1
  have:=hlt e.born (by rw[hbs];exact List.mem_map.2 ⟨e,by simpa using this,rfl⟩)
  simp;omega
 have hleft:=z8c (seen:=seen) es E.toList her
 rw[<-hbs] at hleft
 have hfl:(E.filter fun e=>!seen.toArray.contains e.born).toList=E.toList.filter fun e=>!seen.toArray.contains e.born:=by simp
 rw[<-hfl] at hleft
 generalize hL:(E.filter fun e=>!seen.toArray.contains e.born)=L at hold hnew hleft hfl
 have hLne:L.toList ≠ []:=fun h0=>by
  have:=zmt hleft
  rw[h0] at this
  exact hne (List.length_eq_zero_iff.1 (by simpa using this))
 have hLe:L.isEmpty=false:=by
  cases hb:L.isEmpty with
  | false=>rfl
  | true=>exact absurd (by simpa using hb) hLne
 have hrun:∀(R:Sem Value),(do
   match (L.map some)[<-choose (.mapNext (L.map some).size)]? with
   | some (some e) =>
    setObj b (.mapIter (some b') since (seen.toArray.push e.born) clk)
    pure (.tuple #[.bool true,e.key,e.val])
   | some none=>pure (.tuple #[.bool false])
   | none=>stuck "Next: no such candidate":Sem Value)=R->(Instr.next (.pointer (some ⟨b,0+0,none⟩)) false ty).run P w=R.run P w:=by
  intro R hR
  rw[<-hR]
  unfold Instr.next
  simp only[Nat.add_zero,Sem.run_bind,z0i hh (by simp),z0i hE (by simp),Result.andThen_ok,hbad,Bool.false_eq_true,if_false,hL,hold,hnew,hLe,Array.append_empty,Array.empty_append]
  rfl
 have hsz:0 < L.size:=by
  rcases Nat.eq_zero_or_pos L.size with h0|h0
  ·exact absurd (List.length_eq_zero_iff.1 (by simpa using h0)) hLne
  ·exact h0
 have hfin:∀(j:Nat) (w1:World),j < L.size->w1.heap=w.heap->Rel Pt ρ m w1->∃ e,L[j]?=some e /\ ∃ k v,(e.born,k,v) ∈ leftL seen bs es /\ ∃ v' w',((do
   match (L.map some)[j]? with
   | some (some e) =>
    setObj b (.mapIter (some b') since (seen.toArray.push e.born) clk)
    pure (.tuple #[.bool true,e.key,e.val])
   | some none=>pure (.tuple #[.bool false])
   | none=>stuck "Next: no such candidate":Sem Value)).run P w1=.ok v' w' /\ VR ρ (.tup [.bool true,k,v]) v' /\ Rel Pt ρ (m.upd id (some (.iter (some mi) since (seen ++ [e.born]) clk))) w':=by
  intro j w1 hj hw1 hrel1
  have hLj:L[j]?=some L[j]:=Array.getElem?_eq_getElem hj
  obtain⟨k,v,h1,h2,h3⟩:=zms hleft (j:=j) (e:=L[j]) (by simp[hLj])
  refine⟨L[j],hLj,k,v,h1,.tuple #[.bool true,L[j].key,L[j].val],_,?_,.tup (.cons (.bool _) (.cons h2 (.cons h3 .nil))),hrel1.set1 hi rfl rfl hρ (o':=.mapIter (some b') since (seen.toArray.push L[j].born) clk) ⟨rfl,b',s',c',hρ',by simp⟩⟩
  have hset:=z2i (P:=P) (w:=w1) (o':=.mapIter (some b') since (seen.toArray.push L[j].born) clk) (by rw[hw1];exact hh) (by simp)
  simp only[Array.getElem?_map,hLj,Option.map_some,Sem.run_bind]
  rw[hset];rfl
 have hq:∃ j w1,j < L.size /\ w1.heap=w.heap /\ Rel Pt ρ m w1 /\ ∀(k:Nat->Sem Value),(do k (<- choose (.mapNext (L.map some).size)):Sem Value).run P w=(k j).run P w1:=by
  by_cases hf:L.size<=1
  ·refine⟨0,w,hsz,rfl,hrel,fun k=>?_⟩
   simp[choose,Sem.run,Question.forced,hf,Bind.bind,Sem.bind,Array.size_map]
  ·refine⟨(Question.mapNext L.size).cut (w.tape w.drawn (.mapNext L.size)),{ w with drawn:=w.drawn+1 },Nat.mod_lt _ hsz,rfl,hrel.of_heap (w':={ w with drawn:=w.drawn+1 }) rfl,fun k=>?_⟩
   simp[choose,Sem.run,Question.forced,hf,Bind.bind,Sem.bind,Array.size_map]
 obtain⟨j,w1,hj,hw1,hrel1,hch⟩:=hq
 obtain⟨e,_,k,v,h1,v',w',h2,h3,h4⟩:=hfin j w1 hj hw1 hrel1
 refine⟨e.born,k,v,h1,v',w',?_,h3,h4⟩
 rw[hex,Sem.run_bind,hrun _ rfl,hch,h2];rfl
theorem ziv{dst:Option Tmp}{x:Operand}{ty:TypeId}{pos:String}{af:Array Edge}{gd:Option (Nat × Bool)}{id mi since clk last:Nat}{seen bs:List Nat}{es:List (LV × LV)}
  (ho:ops[i]?=some ⟨dst,.next x false,ty,pos,af,gd⟩) (hw:wanted ops.toList T gd=some true)
  (hv:ev T x=some (.ptr (some (id,0)))) (hi:m.get id=some (.iter (some mi) since seen last)) (hm:m.get mi=some (.map es bs clk)) (hlt:allLt since bs=true) (hst:seen=[] ∨ es=[] ∨ anyLt last bs=true) (hne:leftL seen bs es ≠ [])
  (h:∀ b kk v,(b,kk,v) ∈ leftL seen bs es->∃ T',T.put dst (.tup [.bool true,kk,v])=some T' /\ OpsE P ops ro (i+1) n T' ms (m.upd id (some (.iter (some mi) since (seen ++ [b]) clk))) K D):OpsE P ops ro i (n+1) T ms m K D:=fun Pt ρ b k cs w a hro hT hd hrel hf=>by
 have hw':=z0w (o:=⟨dst,.next x false,ty,pos,af,gd⟩) hw hT
 obtain⟨b1,kk,v,hmem,v',w',hrun,hv',hrel'⟩:=zdp (P:=P) (a:=a) (dst:=dst) (ty:=ty) (pos:=pos) (af:=af) (gd:=gd) hv hi hm hlt hst hne hT hrel
 obtain⟨T',hp,hn⟩:=h b1 kk v hmem
 have hnx:(m.upd id (some (.iter (some mi) since (seen ++ [b1]) clk))).next=m.next:=Mem.next_upd _ _ _
 obtain⟨q,hq2,n2,h4⟩:=hn Pt ρ b k cs w' (a.put dst v') hro (hT.put hp hv') (by rw[z0b];exact hd) hrel' (by rw[hnx];exact hf)
 have hfin:(b.atR a (.inRegion ops (i :: List.range' (i+1) n) :: k)).finish v'=b.atR (a.put dst v') (.inRegion ops (List.range' (i+1) n) :: k):=by
  rw[Frame.finish_atR,ho];rfl
 rw[z2t]
 rw[hnx] at n2 h4
 refine⟨q,hq2,n2,h4.of_steps (.one (step_lone_go ?_))⟩
 rw[stepGR_op ho hw',Oper.semAt_eq _ _ _ (fun c e=>by cases e),<- hfin]
 simp[stepG.apply,hrun]
theorem z7v[Orc P](hO:OmOk P){f:Operand}{ps:Array Tmp}{as bd:Code}{g:FuncId}{fi ca:List LV}{Q:LV->Mem->Prop}(hev:ev T f=some (.func (.func g) fi ca))(hfn:∃ fd,fnOf P g=some fd)
  (hc:CallE P g (fi ++ [LV.func (.yield (m.next+1)) [] []] ++ ca) ((m.push .defr).push (.loop .ready none fn T ps.toList as bd m.next)) Q (fun _ _=>False))
  (h:∀ v m',Q v m'->∃ o,rfEnd (om P) fn none (m.next+1) T (.mark m.next :: ms) m'=some o /\ OutG K D o):CodeE P fn none (.rangeFunc f ps as bd) T ms m K D:=fun Pt ρ b k cs w a hb hro hT hd hrel hf=>by
 have hrb:b.roundOf=none:=by
  cases hb2:b.roundOf with
  | none=>rfl
  | some _=>rw[hb2] at hro;exact hro.elim
 have hf0:ρ m.next=none:=hf _ (Nat.le_refl _)
 have hs0:=Same.upd1 (ρ:=ρ) (i:=m.next) (x:=(w.heap.size,0,0)) hf0
 have hrel0:=hrel.alloc hf0 (lb:=.defr) (o:=.deferred (some [])) (c:=0) rfl rfl
 have hfA:=hf.same hs0 (Nat.le_succ _)
 generalize hw0:({ w with heap:=w.heap.push (.deferred (some [])) }:World)=w1 at hrel0
 have hT0:=hT.mono hs0.1
 have hd0:DR (upd1 ρ m.next (w.heap.size,0,0)) (.mark m.next :: ms) ({ target:=.collected w.heap.size,args:=#[] } :: a.defers):=⟨⟨w.heap.size,0,0,z06 _ _ _,rfl⟩,hd.mono hs0.1⟩
 have hρ0:upd1 ρ m.next (w.heap.size,0,0) m.next=some (w.heap.size,0,0):=z06 _ _ _
 have henter:(Instr.enterLoop b.fn a.tmps ps as bd b.roundOf).run P w=.ok (w1.heap.size,[{ target:=.collected w.heap.size,args:=#[] }]) { w1 with heap:=w1.heap.push (.loop { state:=.ready,pending:=none,fn:=b.fn,tmps:=a.tmps,params:=ps,assign:=as,body:=bd,defers:=w.heap.size }) }:=by
  subst hw0
  rw[hrb];simp[Instr.enterLoop];rfl
 generalize upd1 ρ m.next (w.heap.size,0,0)=ρ0 at *
 have hn0:(m.push .defr).next=m.next+1:=rfl
 have hf1:ρ0 (m.next+1)=none:=hfA _ (Nat.le_refl _)
 have hle:=RLe.upd1 (ρ:=ρ0) (i:=m.next+1) (x:=(w1.heap.size,0,0)) hf1
 have hrel1:=hrel0.alloc hf1 (lb:=.loop .ready none fn T ps.toList as bd m.next) (o:=.loop { state:=.ready,pending:=none,fn:=b.fn,tmps:=a.tmps,params:=ps,assign:=as,body:=bd,defers:=w.heap.size }) (c:=0) rfl
  ⟨a.tmps,w.heap.size,by rw[hb,Array.toArray_toList],hT0,0,0,hρ0⟩
 have hs1:=Same.upd1 (ρ:=ρ0) (i:=m.next+1) (x:=(w1.heap.size,0,0)) hf1
 have hfB:FreshA (upd1 ρ0 (m.next+1) (w1.heap.size,0,0)) (m.next+1+1):=FreshA.same hfA hs1 (Nat.le_succ _)
 have hvf:=zr hT0 hev
 obtain⟨fn0,hfn0⟩:=hfn
 cases hev':a.eval f with
 | func F fi' ca' =>
  rw[hev'] at hvf
  cases hvf with
  | func g1 g2 =>
   have hargs:VRs (upd1 ρ0 (m.next+1) (w1.heap.size,0,0)) (fi ++ [LV.func (.yield (m.next+1)) [] []] ++ ca) (fi' ++ #[Value.func (.yield w1.heap.size) #[] #[]] ++ ca').toList:=by
    simp only[Array.toList_append]
    exact((g1.mono hle).append (.cons (.yield (z06 _ _ _)) .nil)).append (g2.mono hle)
   obtain⟨hg,hbody,hnm⟩:=z3h hfn0
   have hnone:fn0.body.isNone=false:=by cases hbb:fn0.body with
    | none=>rw[hbb] at hbody;cases hbody
    | some _=>rfl
   have hres:(resolve a.eval (rangeCall f w1.heap.size) 0).run P { w1 with heap:=w1.heap.push (.loop { state:=.ready,pending:=none,fn:=b.fn,tmps:=a.tmps,params:=ps,assign:=as,body:=bd,defers:=w.heap.size }) } =
     .ok { target:=.fn (.func g) ca',args:=fi' ++ #[Value.func (.yield w1.heap.size) #[] #[]] } { w1 with heap:=w1.heap.push (.loop { state:=.ready,pending:=none,fn:=b.fn,tmps:=a.tmps,params:=ps,assign:=as,body:=bd,defers:=w.heap.size }) }:=by
    show Sem.run P (Deferred.ofValue (a.eval f) (#[Operand.const (Value.func (.yield w1.heap.size) #[] #[])].map a.eval)) _=_
    rw[hev']
    simp[Deferred.ofValue,Act.eval]
   have hinv:(invoke (.fn (.func g) ca') (fi' ++ #[Value.func (.yield w1.heap.size) #[] #[]])).run P { w1 with heap:=w1.heap.push (.loop { state:=.ready,pending:=none,fn:=b.fn,tmps:=a.tmps,params:=ps,assign:=as,body:=bd,defers:=w.heap.size }) } =
     .ok (.enter g (fi' ++ #[Value.func (.yield w1.heap.size) #[] #[]] ++ ca')) { w1 with heap:=w1.heap.push (.loop { state:=.ready,pending:=none,fn:=b.fn,tmps:=a.tmps,params:=ps,assign:=as,body:=bd,defers:=w.heap.size }) }:=by
    simp only[invoke,callFunc,Sem.run_bind,run_program,Result.andThen_ok,hg,hnm,hnone,Bool.false_eq_true,if_false]
    rfl
   have hstep:=stepR_rangeFunc (P:=P) (b:=b) (a:=a) (k:=k) (cs:=cs) (g:=f) henter hres hinv
   rcases hc Pt _ _ (fi' ++ #[Value.func (.yield w1.heap.size) #[] #[]] ++ ca') (b.atR { a with defers:=[{ target:=.collected w.heap.size,args:=#[] }] ++ a.defers } (.inRangeFunc w1.heap.size :: k) :: cs) hargs (hT0.3.mono hle) hrel1 hfB with⟨v,m2,hq,n3,ρ2,v',w2,hs2,hv2,hrel2,fr,k1,k2,k3⟩|⟨v,m2,hq,_⟩
   ·obtain⟨o,ho,hK⟩:=h v m2 hq
    have n3:m.next+1+1<=m2.next:=n3
    have hs12:Same ρ0 ρ2 (m.next+1) m2.next:=hs1.trans hs2 (Nat.le_succ _) n3
    have hl2:ρ2 (m.next+1)=some (w1.heap.size,0,0):=hs2.1 _ _ (z06 _ _ _)
    have n4:m2.next<=o.mem.next:=z6j hO.mono ho
    have:=zcl (b:=b) (k:=k) (cs:=cs) (a:={ a with defers:=[{ target:=.collected w.heap.size,args:=#[] }] ++ a.defers }) hO.sim ho hl2 hb (by rw[hrb];trivial) (hT0.mono hs12.1) (hd0.mono hs12.1) hrel2 ((hfB.same hs2 n3).fresh _)
    have h5:=this.after (n:=m.next+1) (ρ:=ρ0) (.head hstep (k1.trans (.one (by rw[<-finish_atR_inRangeFunc w1.heap.size v'];exact step_leave_returned k3)))) hs12 (by omega) n4
    exact⟨o,hK,by omega,h5.after (Steps.refl _ _) hs0 (Nat.le_succ _) (by omega)⟩
   ·exact hq.elim
 | _=>rw[hev'] at hvf;cases hvf
theorem zkk[Orc P](hO:OmOk P){f:FuncId}{as:List LV}{fd:Func}{c:Code}{Q D1:LV->Mem->Prop}(hfn:fnOf P f=some fd)(hT:Tm.ofList fd.ntmps as=some T)(hc:fd.body=some c)
  (h:CodeE P f none c T [] m (fun e T1 ms1 m1=>(e=.norm ∨ e=.ret) /\ ∃ v m',finRet P (om P) fd T1 ms1 m1=some (.call v m') /\ Q v m')
   (fun pv T1 ms1 m1=>(∃ v m',finDie P (om P) fd T1 pv ms1 m1=some (.call v m') /\ Q v m') ∨ ∃ v m',finDie P (om P) fd T1 pv ms1 m1=some (.die v m') /\ D1 v m')):CallE P f as m Q D1:=fun Pt ρ w as' cs has hG hrel hf=>by
 obtain⟨hg,_,_⟩:=z3h hfn
 let b:Frame:={ fn:=f,tmps:=#[],todo:=[],defers:=[],mode:=.run,kind:=.normal,roundOf:=none }
 have henter:∀ as',Frame.enter P f as' .normal=b.atR { tmps:=as' ++ Array.replicate (fd.ntmps - as'.size) undef,defers:=[] } [.code c]:=by
  intro as'
  simp[Frame.enter,Frame.atR,hg,hc,b]
 obtain⟨o,ho,n1,h1⟩:=h Pt ρ b [] cs w { tmps:=as' ++ Array.replicate (fd.ntmps - as'.size) undef,defers:=[] } rfl trivial (z4g hT has hG) trivial hrel hf
 cases o with
 | code e T1 ms1 m1 =>
  obtain⟨he,v,m',hend,hq⟩:=ho
  obtain⟨ρ1,a1,w1,hs1,hT1,hd1,hr1,harr⟩:=h1
  have n1:m.next<=m1.next:=n1
  have n2:m1.next<=m'.next:=z17 hO.mono _ _ _ hend
  have hret:∃ k1,Steps P (lone (Frame.enter P f as' .normal) cs w) (lone { b.atR a1 k1 with mode:=.returning } cs w1):=by
   rw[henter]
   rcases he with rfl|rfl
   ·exact⟨[],Steps.trans harr (.one (stepR_end rfl))⟩
   ·obtain⟨k1,harr⟩:=harr
    exact⟨_,harr.trans (.one (stepR_ret rfl))⟩
  obtain⟨k1,hst⟩:=hret
  obtain⟨ρ',v',w',fr',g1,g2,g3,g4,g5,g6⟩:=z38 hO.mono hO.sim cs ms1 m1 v m' hend ρ1 w1 { b.atR a1 k1 with mode:=.returning } rfl rfl hg hT1 hd1 hr1 ((hf.same hs1 n1).fresh _)
  exact .inl ⟨v,m',hq,Nat.le_trans n1 n2,ρ',v',w',hs1.trans g1 n1 n2,g2,g3,fr',hst.trans g4,g5,g6⟩
 | boom pv T1 ms1 m1 =>
  obtain⟨ρ1,a1,w1,v1,k1,hs1,hT1,hd1,hr1,hv1,hst⟩:=h1
  have n1:m.next<=m1.next:=n1
  rw[<-henter] at hst
  rcases ho with⟨v,m',hend,hq⟩|⟨v,m',hend,hq⟩
  ·have n2:m1.next<=m'.next:=z2l hO.mono _ _ _ hend
   obtain⟨ρ',v',w',fr',g1,g2,g3,g4,g5,g6⟩:=z37 hO.mono hO.sim cs ms1 m1 _ hend ρ1 w1 (Frame.boom (b.atR a1 k1) v1) hv1 rfl rfl hg hT1 hd1 hr1 ((hf.same hs1 n1).fresh _)
   exact .inl ⟨v,m',hq,Nat.le_trans n1 n2,ρ',v',w',hs1.trans g1 n1 n2,g2,g3,fr',hst.trans g4,g5,g6⟩
  ·have n2:m1.next<=m'.next:=z2l hO.mono _ _ _ hend
   obtain⟨ρ',v',w',fr',g1,g2,g3,g4,g5,g6⟩:=z37 hO.mono hO.sim cs ms1 m1 _ hend ρ1 w1 (Frame.boom (b.atR a1 k1) v1) hv1 rfl rfl hg hT1 hd1 hr1 ((hf.same hs1 n1).fresh _)
   exact .inr ⟨v,m',hq,Nat.le_trans n1 n2,ρ',v',w',hs1.trans g1 n1 n2,g2,g3,fr',hst.trans g4,g5,g6⟩
 | call _ _=>exact ho.elim
 | die _ _=>exact ho.elim
end
end PvL
end
section
namespace PvL
open Go
inductive XO where
 | t (n:Nat)
 | c (v:LV)
inductive XI where
 | mv (x:XO)
 | pick (c a b:XO)
 | new (ty:TypeId) (z:List LV)
 | box (ty:TypeId) (x:XO)
 | build (z:List LV) (ps:List (Nat × Nat × XO))
 | bsl (ty:TypeId) (n len:Nat) (z:List LV) (ps:List (Nat × Nat × XO))
 | ld1 (a:XO)
 | ldN (n:Nat) (a:XO)
 | st (n:Nat) (a x:XO)
 | nilc (x:XO)
 | bin (op:BinOp) (x y:XO)
 | eqs (neg:Bool) (n:Nat) (sh:List Nat) (x y:XO)
 | eqg (neg:Bool) (t:TypeId) (x y:XO)
 | un (op:UnOp) (x:XO)
 | conv (k:IntKind) (x:XO)
 | convS (x:XO)
 | mkf (g:FuncId) (a b:List XO)
 | mkmap
 | mksl (ty:TypeId) (n by':Nat) (z:List LV) (l c:XO)
 | slc (n:Nat) (x:XO) (lo hi mx:Option XO)
 | slS (x:XO) (lo hi mx:Option XO)
 | fad (off:Nat) (x:XO)
 | fld (off n:Nat) (ag:Bool) (x:XO)
 | iad (len:Option Nat) (n:Nat) (x i:XO)
 | idx (len n:Nat) (ag:Bool) (x i:XO)
 | idxS (x i:XO)
 | lkp (kt:TypeId) (z:LV) (ok:Bool) (x k:XO)
 | mset (kt:TypeId) (m k v:XO)
 | ext (i:Nat) (x:XO)
 | call (f:XO) (args:List XO)
 | len (k:LenK) (x:XO)
 | max (xs:List XO)
 | min (xs:List XO)
 | app (e:TypeId) (sz by':Nat) (z:List LV) (s x:XO)
 | cpy (sz:Nat) (d x:XO)
 | bstr (x:XO)
 | cvs (x:XO)
 | sbyt (e:TypeId) (x:XO)
 | slA (len n:Nat) (x:XO) (lo hi mx:Option XO)
 | isn (neg:Bool) (x:XO)
 | mki (t:TypeId) (x:XO)
 | asr (t:TypeId) (z:LV) (ok:Bool) (x:XO)
 | rng (x:XO)
 | nxt (x:XO)
 | ent (x:XO)
 | pan (x:XO)
 | cvp (x:XO)
 | cvq (u n:Nat) (x:XO)
 | sdat (x:XO)
 | ustr (u:Nat) (x n:XO)
structure XG where
 d:Option Nat
 i:XI
 g:Option (Nat × Bool)
inductive XK where
 | calm|new|anchor
 | reads (lo hi:Nat)
inductive XC where
 | skip|ret|no
 | exit (id:Nat)
 | ops (l:List XG)
 | draw (l:List (XG × XK)) (ds:List Nat)
 | seq (a b:XC)
 | cond (x:XO) (a b:XC)
 | block (id:Nat) (b:XC)
 | loop (b:XC)
 | scope (b:XC)
 | rfun (f:XO) (ps:List Tmp) (a b:XC)
inductive XR where
 | tmp (t:Nat)
 | cell1 (t:Nat)
 | cellN (t:Nat) (n:Nat)
structure XF where
 ntmps:Nat
 body:XC
 res:List XR
noncomputable section
variable (P:Program)
def cX:Operand->Option XO
 | .tmp t=>some (.t t)
 | .const v=>match ofV v with|some v=>some (.c v)|none=>none
 | .func f=>some (.c (.func (.func f) [] []))
 | .global g=>if Nat.ble (Nat.succ g) 64 then some (.c (.ptr (some (g,0)))) else none
def cXs:List Operand->Option (List XO)
 | []=>some []
 | x :: xs=>match cX x,cXs xs with|some a,some l=>some (a :: l)|_,_=>none
def cXo:Option Operand->Option (Option XO)
 | none=>some none
 | some x=>match cX x with|some a=>some (some a)|none=>none
def cParts(pl:Nat->Option (Nat × Nat)):List (Nat × Operand)->Option (List (Nat × Nat × XO))
 | []=>some []
 |(i,x) :: l=>match pl i,cX x,cParts pl l with|some (o,n),some a,some r=>some ((o,n,a) :: r)|_,_,_=>none
def cField(t i:Nat):Option (Nat × Nat × Bool):=fieldPl P t i
def cZero(t:Nat):Option (List LV):=match zeroL P t with|some z=>some z.cells|none=>none
def isIntT(t:TypeId):Bool:=match P.underlying t with|some (.int _)=>true|_=>false
def shFields(N:Nat)(rec:TypeId->Option (List Nat)):List Field->Option (List Nat)
 | []=>some []
 | f :: fs=>if f.name == "_" then none else match aggSz P f.type,shFields N rec fs with
  | some none,some r=>if isIntT P f.type then some (f.offset :: r) else none
  | some (some n),some r=>(match rec f.type with
   | some l=>if Nat.ble (f.offset+n) N && l.all (fun o=>Nat.ble (o+1) n) then some (l.map (· + f.offset) ++ r) else none
   | none=>none)
  | _,_=>none
def shape:Nat->TypeId->Option (List Nat)
 | 0,_=>none
 | d+1,t=>match P.underlying t with
  | some (.struct fs)=>if P.stoodInHeld t then none else(match szOf P t with|some N=>shFields P N (shape d) fs.toList|none=>none)
  | _=>none
def isStrT(t:TypeId):Bool:=match P.underlying t with|some .string=>true|_=>false
def isBoolT(t:TypeId):Bool:=match P.underlying t with|some .bool=>true|_=>false
def cEq(neg:Bool)(t:TypeId)(x y:XO):Option XI :=
 match shape P 6 t,szOf P t,P.eqGuardType P.depth t with
 | some sh,some n,false=>some (.eqs neg n sh x y)
 | _,_,_=>some (.eqg neg t x y)
def isIfaceT(t:TypeId):Bool:=match P.underlying t with|some (.interface _)=>true|_=>false
def isNilO(x:XO):Bool:=match x with | .c .nilIface=>true|_=>false
def noGuard(t:TypeId):Bool:=!(P.eqGuardType P.depth t)
def cBin(op:BinOp)(t:TypeId)(x y:XO):Option XI :=
 match op with
 | .eql=>if isIntT P t || isStrT P t then some (.bin op x y) else if isIfaceT P t then(if isNilO y then some (.isn false x) else some (.eqg false t x y)) else cEq P false t x y
 | .neq=>if isIntT P t || isStrT P t then some (.bin op x y) else if isIfaceT P t then(if isNilO y then some (.isn true x) else some (.eqg true t x y)) else cEq P true t x y
 | _=>some (.bin op x y)
def cCall(c:Call):Option XI :=
 match cXs c.args.toList with
 | none=>none
 | some as=>match c.callee with
  | .value f=>match cX f with|some f=>some (.call f as)|none=>none
  | .invoke _ _=>none
  | .builtin .len=>match as,c.argTypes.toList with
   | [x],t :: _=>match lenK P t with|some k=>some (.len k x)|none=>none
   | _,_=>none
  | .builtin .max=>some (.max as)
  | .builtin .min=>some (.min as)
  | .builtin .append=>match as,c.argTypes.toList with
   | [s,x],st :: xt :: _=>match z13 P st,P.underlying xt with
    | some e,some xd=>if isIntD xd || !(plainT e) then none else match szOf P e,bytesOfT P e,cZero P e with|some sz,some b,some z=>some (.app e sz b z s x)|_,_,_=>none
    | _,_=>none
   | _,_=>none
  | .builtin .unsafeSliceData=>match as with
   | [x]=>some (.sdat x)
   | _=>none
  | .builtin .unsafeString=>match as,c.argTypes.toList with
   | [x,n],pt :: _=>match ptrElem P pt with
    | some u=>if plainT u && (Nat.ble 1 P.depth && Nat.beq (P.cellsOf u) 1) then some (.ustr u x n) else none
    | none=>none
   | _,_=>none
  | .builtin .copy=>match as,c.argTypes.toList with
   | [s,x],st :: _=>(match z13 P st with|some e=>(match szOf P e with|some sz=>some (.cpy sz s x)|none=>none)|none=>none)
   | _,_=>none
  | _=>none
def cOp(o:Op):Option XI :=
 match o with
 | .move x | .assign x=>match cX x with|some x=>some (.mv x)|none=>none
 | .pick c a b=>match cX c,cX a,cX b with|some c,some a,some b=>some (.pick c a b)|_,_,_=>none
 | .alloc t=>match cZero P t,plainT t with|some z,true=>some (.new t z)|_,_=>none
 | .box t x=>match cX x,plainT t with|some x,true=>some (.box t x)|_,_=>none
 | .build t ps=>match cZero P t,partPl P t with
  | some z,some pl=>match cParts pl ps.toList with|some l=>some (.build z l)|none=>none
  | _,_=>none
 | .buildSlice t len ps=>match z13 P t with
  | some e=>match szOf P e,cZero P e with
   | some n,some z=>match cParts (fun i=>some (i*n,n)) ps.toList with
    | some l=>if plainT e && Nat.ble (len*n) 16777216 && (Nat.ble 1 n && Nat.beq z.length n) then some (.bsl e n len z l) else none
    | none=>none
   | _,_=>none
  | none=>none
 | .load t a=>match cX a,aggSz P t with
  | some a,some none=>some (.ld1 a)
  | some a,some (some n)=>some (.ldN n a)
  | _,_=>none
 | .store t a x=>match cX a,cX x,szOf P t with|some a,some x,some n=>some (.st n a x)|_,_,_=>none
 | .nilCheck x=>match cX x with|some x=>some (.nilc x)|none=>none
 | .binOp op t x y _=>match cX x,cX y with|some x,some y=>cBin P op t x y|_,_=>none
 | .unOp op _ x=>match cX x with|some x=>some (.un op x)|none=>none
 | .convert s d x=>match cX x,P.underlying s,P.underlying d with
  | some x,some _,some (.int k)=>some (.conv k x)
  | some x,some (.slice e),some .string=>if isU8 P e then some (.bstr x) else none
  | some x,some (.slice _),some (.slice e)=>if Nat.beq s d && isU8 P e then some (.cvs x) else none
  | some x,some _,some .string=>some (.convS x)
  | _,_,_=>none
 | .makeFunc (.func g) a b=>match cXs a.toList,cXs b.toList with|some a,some b=>some (.mkf g a b)|_,_=>none
 | .makeMap _ none=>some .mkmap
 | .makeSlice t l c=>match cX l,cX c,z13 P t with
  | some l,some c,some e=>match szOf P e,cZero P e,bytesOfT P e with
   | some n,some z,some b=>if plainT e && (Nat.ble 1 n && Nat.beq z.length n) then some (.mksl e n b z l c) else none
   | _,_,_=>none
  | _,_,_=>none
 | .slice t x lo hi mx=>match cX x,cXo lo,cXo hi,cXo mx with
  | some x,some lo,some hi,some mx=>match P.underlying t with
   | some (.slice e)=>match szOf P e with|some n=>some (.slc n x lo hi mx)|none=>none
   | some .string=>some (.slS x lo hi mx)
   | some (.array len e)=>match szOf P e with|some n=>some (.slA len n x lo hi mx)|none=>none
   | _=>none
  | _,_,_,_=>none
 | .fieldAddr t x f=>match cX x,fieldPl P t f with
  | some x,some (off,n,_)=>if Nat.ble 1 n then some (.fad off x) else none
  | _,_=>none
 | .field t x f=>match cX x,fieldPl P t f with
  | some x,some (off,n,ag)=>some (.fld off n ag x)
  | _,_=>none
 | .indexAddr t x i=>match cX x,cX i,ixK P t with
  | some x,some i,some (len,n)=>some (.iad len n x i)
  | _,_,_=>none
 | .index t x i=>match cX x,cX i,P.underlying t with
  | some x,some i,some (.array len e)=>match szOf P e,isAggT P e with|some n,some ag=>some (.idx len n ag x i)|_,_=>none
  | some x,some i,some .string=>some (.idxS x i)
  | _,_,_=>none
 | .lookup t x i ok=>match cX x,cX i,mapTypes P t with
  | some x,some i,some (kt,et)=>match zeroL P et with|some z=>some (.lkp kt z ok x i)|none=>none
  | _,_,_=>none
 | .mapUpdate t m k v=>match cX m,cX k,cX v,mapTypes P t with
  | some m,some k,some v,some (kt,_)=>some (.mset kt m k v)
  | _,_,_,_=>none
 | .extract x i=>match cX x with|some x=>some (.ext i x)|none=>none
 | .call c=>cCall P c
 | .makeInterface t x=>match cX x,z04 P t with|some x,true=>some (.mki t x)|_,_=>none
 | .typeAssert x _ t ok=>match cX x,z04 P t,zeroL P t with|some x,true,some z=>some (.asr t z ok x)|_,_,_=>none
 | _=>none
def cOpX(o:Op):Option XI :=
 match o with
 | .convert s d x=>match cX x,P.underlying s,P.underlying d with
  | some x,some .string,some (.slice e)=>if isU8 P e && plainT e then some (.sbyt e x) else none
  | some x,some (.pointer t),some .unsafePointer=>match szOf P t with
   | some n=>if Nat.ble 1 n then some (.cvp x) else none
   | none=>none
  | some x,some .unsafePointer,some (.pointer u)=>match szOf P u with
   | some n=>if plainT u && (Nat.beq (P.cellsOf u) n && Nat.ble 1 n) then some (.cvq u n x) else none
   | none=>none
  | _,_,_=>none
 | .range t x=>match cX x,P.underlying t with|some x,some (.map _ _)=>some (.rng x)|_,_=>none
 | .next x false=>match cX x with|some x=>some (.nxt x)|none=>none
 | .entry x=>match cX x with|some x=>some (.ent x)|none=>none
 | .panic x=>match cX x with|some x=>some (.pan x)|none=>none
 | _=>none
def cSame(o:Op):Option XI :=
 match o with
 | .call c=>match c.callee,c.args.toList with
  | .value (.func f),[x]=>if isSame P f then(match cX x with|some x=>some (.mv x)|none=>none) else none
  | _,_=>none
 | _=>none
def cOpA(o:Op):Option XI :=
 match cSame P o with
 | some i=>some i
 | none=>match o with
  | .call c=>match c.callee with
   | .value (.func f)=>if isSame P f then none else cOp P o
   | _=>cOp P o
  | _=>match cOp P o with|some i=>some i|none=>cOpX P o
def dstIn(sz:Nat):Option Nat->Bool|none=>true|some d=>Nat.ble (d+1) sz
def cGuard(all:List Oper):Option (Nat × Bool)->Option (Option (Nat × Bool))
 | none=>some none
 | some (j,want)=>match (all[j]?).bind (·.dst) with|some d=>some (some (d,want))|none=>none
def cOper(sz:Nat)(all:List Oper)(o:Oper):Option XG :=
 match cOp P o.op,cGuard all o.guard,dstIn sz o.dst with
 | some i,some g,true=>some ⟨o.dst,i,g⟩
 | _,_,_=>none
def cOperA(sz:Nat)(all:List Oper)(o:Oper):Option XG :=
 match cOpA P o.op,cGuard all o.guard,dstIn sz o.dst with
 | some i,some g,true=>some ⟨o.dst,i,g⟩
 | _,_,_=>none
def cOps(sz:Nat)(all:List Oper):List Oper->Option (List XG)
 | []=>some []
 | o :: os=>match cOperA P sz all o,cOps sz all os with|some g,some l=>some (g :: l)|_,_=>none
def xCalm:XI->Bool
 | .max _ | .min _=>true
 | .len .map _=>false
 | .len _ _=>true
 | .conv _ _ | .convS _ | .slc _ _ _ _ _ | .slS _ _ _ _=>true
 | _=>false
def cKind(all:List Oper)(ds:List Nat)(i:Nat)(o:Oper)(x:XI):XK :=
 match cls P o.op with
 | .new | .calm=>.new
 | .anchor=>.anchor
 | .mover=>if z0q o.op && !xCalm x then .reads (z0x P (ds.getD i 0) all 0) (z0e P i all ds) else .calm
def cDrawn(sz:Nat)(all:List Oper)(ds:List Nat):List Oper->Nat->Option (List (XG × XK))
 | [],_=>some []
 | o :: os,i=>match cOper P sz all o,cDrawn sz all ds os (i+1) with|some g,some l=>some ((g,cKind P all ds i o g.i) :: l)|_,_=>none
def zw(sz:Nat):Code->Option XC
 | .skip | .label _=>some .skip
 | .ret=>some .ret
 | .exit id=>some (.exit id)
 | .refuse _=>some .no
 | .region _ ops false=>match cOps P sz ops.toList ops.toList with|some l=>some (.ops l)|none=>none
 | .region _ ops true=>if regionOk P ops then match cDrawn P sz ops.toList (deps ops) ops.toList 0 with|some l=>some (.draw l (deps ops))|none=>none else none
 | .seq a b=>match zw sz a,zw sz b with|some a,some b=>some (.seq a b)|_,_=>none
 | .cond x a b=>match cX x,zw sz a,zw sz b with|some x,some a,some b=>some (.cond x a b)|_,_,_=>none
 | .block id b=>match zw sz b with|some b=>some (.block id b)|none=>none
 | .loop b=>match zw sz b with|some b=>some (.loop b)|none=>none
 | .scope b=>match zw sz b with|some b=>some (.scope b)|none=>none
 | .rangeFunc f ps a b=>match cX f,zw sz a,zw sz b,ps.toList.all (fun t=>Nat.ble (t+1) sz) with|some f,some a,some b,true=>some (.rfun f ps.toList a b)|_,_,_,_=>none
 | _=>none
def cRes:List ResultVar->Option (List XR)
 | []=>some []
 | .tmp t :: rs=>match cRes rs with|some l=>some (.tmp t :: l)|none=>none
 | .cell a t :: rs=>match aggSz P t,cRes rs with
  | some none,some l=>some (.cell1 a :: l)
  | some (some n),some l=>some (.cellN a n :: l)
  | _,_=>none
def cFn(f:FuncId):Option XF :=
 match fnOf P f with
 | none=>none
 | some fn=>match fn.body with
  | none=>none
  | some c=>match zw P fn.ntmps c,cRes P fn.results.toList with
   | some c,some r=>some ⟨fn.ntmps,c,r⟩
   | _,_=>none
end
end PvL
end
section
namespace PvL
open Go
abbrev Env:=List (Nat × LV)
def look:Env->Nat->Option LV
 | [],_=>none
 |(d,v) :: E,t=>match Nat.beq d t with|true=>some v|false=>look E t
def xval(E:Env):XO->Option LV
 | .t n=>look E n
 | .c v=>some v
noncomputable def z14(E:Env):List XO->Option (List LV)
 | []=>some []
 | x :: xs=>ob (xval E x) fun v=>ob (z14 E xs) fun vs=>some (v :: vs)
noncomputable def xvalo(E:Env):Option XO->Option (Option LV)
 | none=>some none
 | some x=>ob (xval E x) fun v=>some (some v)
noncomputable def xParts(E:Env):List (Nat × Nat × XO)->Option (List (Nat × Nat × LV))
 | []=>some []
 |(o,n,x) :: l=>ob (xval E x) fun v=>ob (xParts E l) fun r=>some ((o,n,v) :: r)
noncomputable def fillX:List (Nat × Nat × LV)->List LV->Option (List LV)
 | [],cs=>some cs
 |(o,n,v) :: l,cs=>guard' (Nat.beq v.cells.length n && Nat.ble 1 n) (guard' (zl v.cells) (ob (z0h cs o v.cells) fun c=>fillX l c))
structure zu (sz:Nat) (E:Env) (T:Tm):Prop where
 size:T.size=sz
 look:∀ d v,look E d=some v->evT T d=some v
def putE(E:Env):Option Nat->LV->Env
 | none,_=>E
 | some d,v=>(d,v) :: E
section
variable {sz:Nat} {E:Env} {T:Tm}
theorem zu.cons(h:zu sz E T){d:Nat}(hd:d < sz)(v:LV):∃ T',T.set d v=some T' /\ zu sz ((d,v) :: E) T':=by
 have hs:T.set d v=some ⟨T.size,T.tr.set d (some v)⟩:=Tm.set_eq.2 ⟨(by rw[h.size];exact hd),rfl⟩
 refine⟨_,hs,h.size,fun t u hu=>?_⟩
 have hu:(match Nat.beq d t with|true=>some v|false=>PvL.look E t)=some u:=hu
 rw[z3r,Tm.get_set hs t]
 cases hb:Nat.beq d t with
 | true =>
  rw[hb] at hu
  obtain rfl:=Nat.eq_of_beq_eq_true hb
  cases hu
  rw[if_pos rfl]
 | false =>
  rw[hb] at hu
  have:=h.look t u hu
  rw[z3r] at this
  rw[if_neg (fun e=>by subst e;rw[Nat.beq_refl] at hb;cases hb)]
  exact this
theorem zu.put(h:zu sz E T){d:Option Nat}(hd:dstIn sz d=true)(v:LV):∃ T',T.put d v=some T' /\ zu sz (putE E d v) T':=by
 cases d with
 | none=>exact⟨T,rfl,h⟩
 | some d=>exact h.cons (by have:Nat.ble (d+1) sz=true:=hd;rw[Nat.ble_eq] at this;exact this) v
theorem zu.sub{E':Env}(h:zu sz E T)(hs:∀ d v,PvL.look E' d=some v->PvL.look E d=some v):zu sz E' T:=⟨h.size,fun d v e=>h.look d v (hs d v e)⟩
theorem z03(h:zu sz E T){x:Operand}{a:XO}(hc:cX x=some a){v:LV}(hv:xval E a=some v):ev T x=some v:=by
 cases x with
 | tmp t=>cases hc;exact h.look _ _ hv
 | const c =>
  have hc:(match ofV c with|some v=>some (XO.c v)|none=>none)=some a:=hc
  cases ho:ofV c with
  | none=>rw[ho] at hc;cases hc
  | some u=>rw[ho] at hc;cases hc;cases hv;exact ho
 | global g =>
  have hc:(if Nat.ble (Nat.succ g) 64 then some (XO.c (.ptr (some (g,0)))) else none)=some a:=hc
  show ifb (Nat.ble (Nat.succ g) 64) _ _=_
  cases hb:Nat.ble (Nat.succ g) 64 with
  | true=>rw[hb] at hc;cases hc;exact hv
  | false=>rw[hb] at hc;cases hc
 | func f=>cases hc;cases hv;rfl
theorem zbo(h:zu sz E T):∀ {xs:List Operand} {as:List XO},cXs xs=some as->∀ {vs:List LV},z14 E as=some vs->evs T xs=some vs
 | [],as,hc,vs,hv=>by cases hc;cases hv;rfl
 | x :: xs,as,hc,vs,hv=>by
  unfold cXs at hc
  cases h1:cX x with
  | none=>rw[h1] at hc;cases hc
  | some a =>
   cases h2:cXs xs with
   | none=>rw[h1,h2] at hc;cases hc
   | some l =>
    rw[h1,h2] at hc
    cases hc
    obtain⟨v,hv1,hv2⟩:=zb.1 hv
    obtain⟨vs',hv3,hv4⟩:=zb.1 hv2
    cases hv4
    show ob (ev T x) _=_
    rw[z03 h h1 hv1,za,zbo h h2 hv3];rfl
theorem z5c(h:zu sz E T){x:Option Operand}{a:Option XO}(hc:cXo x=some a){v:Option LV}(hv:xvalo E a=some v):evOpt T x=some v:=by
 cases x with
 | none=>cases hc;cases hv;rfl
 | some x =>
  have hc:(match cX x with|some a=>some (some a)|none=>none)=some a:=hc
  cases h1:cX x with
  | none=>rw[h1] at hc;cases hc
  | some y =>
   rw[h1] at hc;cases hc
   obtain⟨u,hu,e⟩:=zb.1 (show ob (xval E y) (fun v=>some (some v))=some v from hv)
   cases e
   show ob (ev T x) _=_
   rw[z03 h h1 hu];rfl
theorem z7s(h:zu sz E T){pl:Nat->Option (Nat × Nat)}:∀ {ps:List (Nat × Operand)} {as:List (Nat × Nat × XO)},cParts pl ps=some as->∀ {vs:List (Nat × Nat × LV)},xParts E as=some vs ->
  ∃ ws,evParts T ps=some ws /\ ∀ cs,fillL pl ws cs=fillX vs cs
 | [],as,hc,vs,hv=>by cases hc;cases hv;exact⟨[],rfl,fun _=>rfl⟩
 |(i,x) :: ps,as,hc,vs,hv=>by
  unfold cParts at hc
  cases h0:pl i with
  | none=>rw[h0] at hc;cases hc
  | some q =>
   obtain⟨o,n⟩:=q
   cases h1:cX x with
   | none=>rw[h0,h1] at hc;cases hc
   | some a =>
    cases h2:cParts pl ps with
    | none=>rw[h0,h1,h2] at hc;cases hc
    | some l =>
     rw[h0,h1,h2] at hc
     cases hc
     obtain⟨v,hv1,hv2⟩:=zb.1 hv
     obtain⟨vs',hv3,hv4⟩:=zb.1 hv2
     cases hv4
     obtain⟨ws,hw1,hw2⟩:=z7s h h2 hv3
     refine⟨(i,v) :: ws,?_,fun cs=>?_⟩
     ·show ob (ev T x) _=_
      rw[z03 h h1 hv1,za,hw1];rfl
     ·show ob (pl i) _=_
      rw[h0]
      show guard' _ (guard' _ (ob _ _))=guard' _ (guard' _ (ob _ _))
      simp only[hw2]
end
noncomputable def eqGd(op:BinOp)(a:LV):Bool:=match op with | .eql | .neq=>isIntL a || isStrL a|_=>true
section
variable (P:Program)
noncomputable def assertZ(t:TypeId)(z:LV)(ok:Bool)(v:LV):Option LV :=
 match v with
 | .iface u w=>ifb (Nat.beq u t) (some (ifb ok (.tup [w,.bool true]) w)) (guard' ok (some (.tup [z,.bool false])))
 | .nilIface=>guard' ok (some (.tup [z,.bool false]))
 | _=>none
def isnL(neg:Bool)(v:LV):Option LV:=match v with | .nilIface=>some (.bool (!neg)) | .iface _ _=>some (.bool neg)|_=>none
noncomputable def zm(i:XI)(E:Env)(M:Mem):Option R1 :=
 match i with
 | .mv x=>ob (xval E x) (rv M)
 | .pick c a b=>ob (xval E c) fun c=>asBool c fun c=>ifb c (ob (xval E a) (rv M)) (ob (xval E b) (rv M))
 | .new t z=>guard' (zl z) (some (.val (.ptr (some (M.next,0))) (M.push (.cells true z t))))
 | .box t x=>ob (xval E x) fun v=>guard' (zl v.cells) (some (.val (.ptr (some (M.next,0))) (M.push (.cells true v.cells t))))
 | .build z ps=>ob (xParts E ps) fun l=>ob (fillX l z) fun c=>some (.val (.agg c) M)
 | .bsl t n len z ps=>ob (xParts E ps) fun l=>ob (fillX l (rep len z)) fun c=>some (.val (.slice (some (M.next,0)) len true n) (M.push (.cells true c t)))
 | .ld1 a=>ob (xval E a) fun a=>asPtr a fun i o=>ob (load1 M i o) (rv M)
 | .ldN n a=>ob (xval E a) fun a=>asPtr a fun i o=>ob (loadN M i o n) fun l=>some (.val (.agg l) M)
 | .st n a x=>ob (xval E a) fun a=>ob (xval E x) fun v=>asPtr a fun i o=>guard' (Nat.beq v.cells.length n) (guard' (zl v.cells) (ob (storeCs M i o v.cells) fun m=>some (.skip m)))
 | .nilc x=>ob (xval E x) fun v=>ob (nilCheckL v) (rv M)
 | .bin op x y=>ob (xval E x) fun a=>ob (xval E y) fun b=>guard' (eqGd op a) (ob (binL P op 0 a b) (rv M))
 | .eqs neg n sh x y=>ob (xval E x) fun a=>ob (xval E y) fun b=>asAgg a fun xs=>asAgg b fun ys=>guard' (Nat.beq xs.length n && Nat.beq ys.length n) (ob (eqSh xs ys sh) fun r=>some (.val (.bool (bEq r (!neg))) M))
 | .eqg neg t x y=>ob (xval E x) fun a=>ob (xval E y) fun b=>guard' (!(isIntL a) && !(isStrL a)) (ob (eqV P t a b) fun r=>some (.val (.bool (bEq r (!neg))) M))
 | .un op x=>ob (xval E x) fun a=>ob (unL op a) (rv M)
 | .conv k x=>ob (xval E x) fun a=>asInt a fun _ n=>some (.val (.int k (wr k n)) M)
 | .convS x=>ob (xval E x) fun a=>asStr a fun s=>some (.val (.str s) M)
 | .mkf g a b=>ob (z14 E a) fun a=>ob (z14 E b) fun b=>some (.val (.func (.func g) a b) M)
 | .mkmap=>some (.val (.map (some M.next)) (M.push (.map [] [] 0)))
 | .mksl t n by' z l c=>ob (xval E l) fun l=>ob (xval E c) fun c=>asInt l fun _ l=>asInt c fun _ c=>nat? l fun l=>nat? c fun c =>
   guard' (Nat.ble l c && (Nat.ble (by' * c) 140737488355328 && Nat.ble c 4294967296)) (some (.val (.slice (some (M.next,0)) l (Nat.beq l c) n) (M.push (.cells true (rep l z) t))))
 | .slc n x lo hi mx=>ob (xval E x) fun x=>ob (xvalo E lo) fun lo=>ob (xvalo E hi) fun hi=>ob (xvalo E mx) fun mx=>asSlice x fun a len full es=>ob (sliceSl n a len full es lo hi mx) (rv M)
 | .slS x lo hi mx=>ob (xval E x) fun x=>ob (xvalo E lo) fun lo=>ob (xvalo E hi) fun hi=>ob (xvalo E mx) fun mx=>asStr x fun s=>guard' mx.isNone (z08 hi s.size s.size fun h=>z08 lo h 0 fun l=>some (.val (.str (s.extract l h)) M))
 | .fad off x=>ob (xval E x) fun v=>asPtr v fun i o=>some (.val (.ptr (some (i,o+off))) M)
 | .fld off n ag x=>ob (xval E x) fun v=>asAgg v fun cs=>ob (partL ag n off cs) (rv M)
 | .iad len n x i=>ob (xval E x) fun x=>ob (xval E i) fun i=>asInt i fun _ i=>nat? i fun i =>
   ob (oe len (asSlice x fun a len _ _=>ob a fun p=>pr p fun id off=>idxAt id off i n len) fun len=>asPtr x fun id off=>idxAt id off i n len) (rv M)
 | .idx len n ag x i=>ob (xval E x) fun x=>ob (xval E i) fun i=>asAgg x fun cs=>asInt i fun _ i=>nat? i fun i=>guard' (Nat.ble (i+1) len) (ob (partL ag n (i*n) cs) (rv M))
 | .idxS x i=>ob (xval E x) fun x=>ob (xval E i) fun i=>asStr x fun s=>asInt i fun _ i=>nat? i fun i=>ob s[i]? fun b=>some (.val (.int .u8 b.toNat) M)
 | .lkp kt z ok x k=>ob (xval E x) fun x=>ob (xval E k) fun k=>guard' (keyOk P 10000 kt k) (entriesOf M x fun es=>ob (findL P kt k es 0) fun r=>oe r
   (some (.val (ifb ok (.tup [z,.bool false]) z) M)) (fun p=>pr p fun _ q=>pr q fun _ v=>some (.val (ifb ok (.tup [v,.bool true]) v) M)))
 | .mset kt m k v=>ob (xval E m) fun x=>ob (xval E k) fun k=>ob (xval E v) fun v=>guard' (keyOk P 10000 kt k) (asMap x fun r=>ob r fun r=>atMap M r fun es bs clk =>
   ob (findL P kt k es 0) fun p=>oe p
    (some (.skip (M.upd r (some (.map (es ++ [(k,v)]) (bs ++ [clk]) (clk+1))))))
    (fun p=>pr p fun i q=>pr q fun k' _=>guard' (lvEq k k') (some (.skip (M.upd r (some (.map (setVal es i k v) bs clk)))))))
 | .ext i x=>ob (xval E x) fun v=>asTup v fun vs=>ob (nth vs i) (rv M)
 | .call f as=>ob (z14 E as) fun as=>ob (xval E f) fun f=>callV f as M
 | .len k x=>ob (xval E x) fun x=>ob (lenKE k (asStr x fun s=>mkN s.size) (asSlice x fun _ n _ _=>mkN n) mkN (entriesOf M x fun es=>mkN es.length)) (rv M)
 | .max xs=>ob (z14 E xs) fun l=>lE l none fun x xs=>ob (foldL max2L xs x) (rv M)
 | .min xs=>ob (z14 E xs) fun l=>lE l none fun x xs=>ob (foldL min2L xs x) (rv M)
 | .app e sz by' z s x=>ob (xval E s) fun s=>ob (xval E x) fun x=>asSlice s fun a len full es=>ob (z1k x) fun n =>
   ifb (Nat.beq n 0) (some (.val s M))
    (guard' (Nat.ble ((5*(len+n) / 4+2048)*by') 281474976710656 && (Nat.ble 1 sz && (Nat.ble 1 by' && Nat.beq z.length sz)))
     (ob (z0l sz len s M) fun old=>ob (z0l sz n x M) fun new=>guard' (zl new) (
      killed e a full (Nat.beq es sz) M fun m=>some (.val (.slice (some (m.next,0)) (len+n) false sz) (m.push (.cells true (old ++ new) (apE e)))))))
 | .cpy sz d x=>ob (xval E d) fun d=>ob (xval E x) fun x=>asSlice d fun a dl _ _=>ob (z1k x) fun sl =>
   ifb (Nat.beq (Nat.min sl dl) 0) (some (.val (.int .i64 (.ofNat (Nat.min sl dl))) M)) (ob (z0l sz (Nat.min sl dl) x M) fun l=>guard' (zl l) (
    oe a (some (.val (.int .i64 (.ofNat (Nat.min sl dl))) M)) fun p=>pr p fun id off=>ob (storeCs M id off l) fun m=>some (.val (.int .i64 (.ofNat (Nat.min sl dl))) m)))
 | .bstr x=>ob (xval E x) fun v=>asSlice v fun p n _ _=>ob (strOf M p n) (rv M)
 | .rng x=>ob (xval E x) fun v=>asMap v fun r=>oe r
   (some (.val (.ptr (some (M.next,0))) (M.push (.iter none 0 [] 0))))
   (fun r=>atMap M r fun _ _ clk=>some (.val (.ptr (some (M.next,0))) (M.push (.iter (some r) clk [] clk))))
 | .nxt x=>ob (xval E x) fun v=>asPtr v fun id off=>guard' (Nat.beq off 0) (atIter M id fun src since seen last=>oe src (rv M overL) fun r =>
   atMap M r fun es bs clk=>guard' (Nat.beq bs.length es.length && (allLt since bs && (seen.isEmpty ||(es.isEmpty || anyLt last bs)))) (
    match leftL seen bs es with
    | []=>rv M overL
    | [(b,k,v)]=>some (.val (.tup [.bool true,k,v]) (M.upd id (some (.iter (some r) since (seen ++ [b]) clk))))
    | _=>none))
 | .ent x=>ob (xval E x) fun v=>asPtr v fun id off=>guard' (Nat.beq off 0) (atIter M id fun src _ seen last=>ob src fun r=>ob seen.getLast? fun b =>
   atMap M r fun es bs clk=>guard' (Nat.beq bs.length es.length && Nat.beq clk last) (ob (stampL b bs es) fun e=>rv M (.tup [e.1,e.2])))
 | .pan x=>ob (xval E x) fun v=>asIface v fun _ _=>some (.boom v M)
 | .cvp x=>ob (xval E x) fun v=>asPtr v fun id off=>atCells M id fun _ cs _=>guard' (Nat.ble (Nat.succ off) cs.length) (some (.val v M))
 | .cvq u n x=>ob (xval E x) fun v=>asPtr v fun id off=>atCells M id fun own cs ty=>guard' (own && (Nat.beq ty u && (Nat.beq off 0 && Nat.ble n cs.length))) (some (.val v M))
 | .sdat x=>ob (xval E x) fun v=>asSlice v fun a n _ _=>oe a (some (.val (.ptr none) M)) fun p=>guard' (Nat.ble 1 n) (some (.val (.ptr (some p)) M))
 | .ustr u x n=>ob (xval E x) fun v=>ob (xval E n) fun n=>asInt n fun _ n=>nat? n fun n =>
   ifb (Nat.beq n 0) (match v with | .ptr _=>some (.val (.str .empty) M)|_=>none)
    (asPtr v fun id off=>atCells M id fun own cs ty=>guard' (own && ((Nat.beq ty u || Nat.beq ty (apE u)) && Nat.ble n 9223372036854775807))
     (ob (take' n (drop' off cs)) fun l=>ob (bytesL l) fun bs=>some (.val (.str ⟨⟨bs⟩⟩) (M.upd id none))))
 | .cvs x=>ob (xval E x) fun v=>asSlice v fun p n f e=>guard' (ownAt M p && Nat.ble 1 n) (some (.val (.slice p n f e) M))
 | .sbyt e x=>ob (xval E x) fun v=>asStr v fun s=>some (.val (.slice (some (M.next,0)) s.size false 1) (M.push (.cells true (s.data.toList.map byteL) (apE e))))
 | .slA len n x lo hi mx=>ob (xval E x) fun x=>ob (xvalo E lo) fun lo=>ob (xvalo E hi) fun hi=>ob (xvalo E mx) fun mx=>guard' (mx.isNone || hi.isSome) (asPtr x fun id off=>atCells M id fun _ cs _=>guard' (Nat.ble 1 cs.length && Nat.ble (off+len*n) cs.length)
   (z08 mx len len fun mm=>z08 hi mm len fun h=>z08 lo h 0 fun l=>some (.val (.slice (some (id,ifb (Nat.beq mm l) off (off+l*n))) (h - l) (Nat.beq h mm) n) M)))
 | .isn neg x=>ob (xval E x) fun v=>ob (isnL neg v) (rv M)
 | .mki t x=>ob (xval E x) fun v=>some (.val (.iface t v) M)
 | .asr t z ok x=>ob (xval E x) fun v=>ob (assertZ t z ok v) (rv M)
where
 eqSh (xs ys:List LV):List Nat->Option Bool
  | []=>some true
  | o :: os=>ob (nth xs o) fun a=>ob (nth ys o) fun b=>asInt a fun k x=>asInt b fun k' y=>guard' (kEq k k') (ob (eqSh xs ys os) fun r=>some (decide (x=y) && r))
theorem z1a(k:IntKind)(z:Int):mkI k z=some (.int k z):=by unfold mkI;rw[zdd]
theorem z2b(b:Bool):mkB b=some (.bool b):=by cases b<;>rfl
theorem zay(n:Nat):mkN n=some (.int .i64 n):=by unfold mkN;rw[z1m];rfl
theorem zns(r neg:Bool):bEq r (!neg)=if neg then !r else r:=by cases r<;>cases neg<;>rfl
variable {P}
variable {sz:Nat} {E:Env} {T:Tm} {M:Mem} {r:R1}
theorem z88{v:LV}(h:isNilI v=true):v=.nilIface:=by
 cases v<;>first|rfl|cases h
theorem zk8{op:BinOp}{t:TypeId}{w u:LV}(h:eqGd op .nilIface=true):binL P op t .nilIface w ≠ some u:=by
 cases op<;>first|(cases h;done)|(intro h;cases h)
theorem zdr{op:BinOp}{t u:TypeId}{x y:Operand}{v w:LV}(h1:ev T x=some v)(h2:ev T y=some w)(hn:isNilI v=false):oBin P op t x y u T M=ob (binL P op t v w) (rv M):=by
 unfold oBin
 rw[h1,za,h2,za,hn,zh,zh]
theorem z6a(h:zu sz E T){op:BinOp}{t u:TypeId}{x y:Operand}{a b:XO}(hx:cX x=some a)(hy:cX y=some b)
  {i:XI} (hi:some (XI.bin op a b)=some i) (hop:∀ v w,eqGd op v=true->binL P op 0 v w=binL P op t v w) (hs:zm P i E M=some r):op1 P (.binOp op t x y u) T M=some r:=by
 cases hi
 obtain⟨v,h1,h2⟩:=zb.1 hs
 obtain⟨w,h3,h4⟩:=zb.1 h2
 obtain⟨h5,h6⟩:=zc.1 h4
 show oBin P op t x y u T M=_
 have hn:isNilI v=false:=by
  cases hb:isNilI v with
  | false=>rfl
  | true =>
   obtain rfl:=z88 hb
   obtain⟨q,h7,_⟩:=zb.1 h6
   exact absurd h7 (zk8 h5)
 rw[zdr (z03 h hx h1) (z03 h hy h3) hn,<- hop v w h5]
 exact h6
noncomputable abbrev eqSh:=zm.eqSh
theorem z81{xs ys:List LV}:∀ {l l':List Nat} {r:Bool},eqSh xs ys (l ++ l')=some r->∃ a b,eqSh xs ys l=some a /\ eqSh xs ys l'=some b /\ r=(a && b)
 | [],l',r,h=>⟨true,r,rfl,h,rfl⟩
 | o :: os,l',r,h=>by
  obtain⟨x,h1,h2⟩:=zb.1 (show ob (nth xs o) _=some r from h)
  obtain⟨y,h3,h4⟩:=zb.1 h2
  obtain⟨k,m,rfl,h5⟩:=zk.1 h4
  obtain⟨k',n,rfl,h6⟩:=zk.1 h5
  obtain⟨h7,h8⟩:=zc.1 h6
  obtain⟨q,h9,h10⟩:=zb.1 h8
  cases h10
  obtain⟨a,b,e1,e2,rfl⟩:=z81 h9
  refine⟨decide (m=n) && a,b,?_,e2,by rw[Bool.and_assoc]⟩
  show ob (nth xs o) _=_
  rw[h1,za,h3]
  show guard' (kEq k k') (ob (eqSh xs ys os) _)=_
  rw[h7,e1];rfl
theorem zbz{xs ys:List LV}{off n:Nat}:∀ {l:List Nat} {r:Bool},(∀ o ∈ l,o < n)->eqSh xs ys (l.map (· + off))=some r->eqSh (xs.drop off |>.take n) (ys.drop off |>.take n) l=some r
 | [],r,_,h=>h
 | o :: os,r,hl,h=>by
  obtain⟨x,h1,h2⟩:=zb.1 (show ob (nth xs (o+off)) _=some r from h)
  obtain⟨y,h3,h4⟩:=zb.1 h2
  obtain⟨k,m,rfl,h5⟩:=zk.1 h4
  obtain⟨k',m',rfl,h6⟩:=zk.1 h5
  obtain⟨h7,h8⟩:=zc.1 h6
  obtain⟨q,h9,h10⟩:=zb.1 h8
  have ho:=hl o List.mem_cons_self
  rw[z4w] at h1 h3
  have e1:nth (xs.drop off |>.take n) o=some (.int k m):=by rw[z4w,List.getElem?_take_of_lt ho,List.getElem?_drop,Nat.add_comm];exact h1
  have e2:nth (ys.drop off |>.take n) o=some (.int k' m'):=by rw[z4w,List.getElem?_take_of_lt ho,List.getElem?_drop,Nat.add_comm];exact h3
  show ob (nth _ o) _=_
  rw[e1,za,e2]
  show guard' (kEq k k') (ob (eqSh _ _ os) _)=_
  rw[h7,zbz (fun o h=>hl o (List.mem_cons_of_mem _ h)) h9]
  exact h10
theorem zi4{P:Program}{t:TypeId}(h:isIntT P t=true):∃ k,P.underlying t=some (.int k):=by
 unfold isIntT at h
 split at h
 ·rename_i k e;exact⟨k,e⟩
 ·cases h
def ShOk(P:Program)(rec:TypeId->LV->LV->Option Bool)(t:TypeId)(sh:List Nat):Prop :=
 ∀(xs ys:List LV) (r:Bool),(∀ N,szOf P t=some N->N<=xs.length /\ N<=ys.length)->eqSh xs ys sh=some r->rec t (.agg xs) (.agg ys)=some r
theorem z8y{rec:TypeId->LV->LV->Option Bool}{srec:TypeId->Option (List Nat)}{N:Nat}(hrec:∀ t sh,srec t=some sh->ShOk P rec t sh)
  (hint:∀ t k a b,isIntT P t=true->rec t (.int k a) (.int k b)=some (decide (a=b))):∀(fs:List Field) (sh:List Nat),shFields P N srec fs=some sh ->
  ∀(xs ys:List LV) (r:Bool),N<=xs.length->N<=ys.length->eqSh xs ys sh=some r->fieldsEq P rec xs ys fs=some r
 | [],sh,h,xs,ys,r,_,_,he=>by cases h;cases he;rfl
 | f :: fs,sh,h,xs,ys,r,hx,hy,he=>by
  unfold shFields at h
  show ifb (f.name == "_") _ _=_
  by_cases hn:(f.name == "_")=true
  ·rw[if_pos hn] at h;cases h
  ·rw[if_neg hn] at h
   rw[show(f.name == "_")=false by simpa using hn,zh]
   unfold eqPart
   cases hag:aggSz P f.type with
   | none=>rw[hag] at h;cases h
   | some q =>
    cases hfs:shFields P N srec fs with
    | none=>rw[hag,hfs] at h;cases q<;>cases h
    | some l' =>
     have ih:=z8y hrec hint fs l' hfs xs ys
     cases q with
     | none =>
      rw[hag,hfs] at h
      simp only at h
      split at h
      ·rename_i hi
       cases h
       obtain⟨x,h1,h2⟩:=zb.1 (show ob (nth xs f.offset) _=some r from he)
       obtain⟨y,h3,h4⟩:=zb.1 h2
       obtain⟨k,m,rfl,h5⟩:=zk.1 h4
       obtain⟨k',m',rfl,h6⟩:=zk.1 h5
       obtain⟨h7,h8⟩:=zc.1 h6
       obtain⟨q,h9,h10⟩:=zb.1 h8
       cases h10
       obtain rfl:=z3i.1 h7
       rw[za,z56,h1,za,h3,za,hint _ _ _ _ hi]
       unfold andO
       rw[za,ih q hx hy h9]
       cases decide (m=m')<;>rfl
      ·cases h
     | some n =>
      rw[hag,hfs] at h
      simp only at h
      cases hr:srec f.type with
      | none=>rw[hr] at h;cases h
      | some l =>
       rw[hr] at h
       simp only at h
       split at h
       ·rename_i hall
        cases h
        obtain⟨a,b,e1,e2,rfl⟩:=z81 he
        simp only[Bool.and_eq_true,List.all_eq_true,Nat.ble_eq] at hall
        obtain⟨hN,hall⟩:=hall
        have hp:=zbz (n:=n) (fun o ho=>by have:=hall o ho;omega) e1
        have t1:take' n (drop' f.offset xs)=some (xs.drop f.offset |>.take n):=z1z.2 ⟨by rw[z1o,List.length_drop];omega,by rw[z1o]⟩
        have t2:take' n (drop' f.offset ys)=some (ys.drop f.offset |>.take n):=z1z.2 ⟨by rw[z1o,List.length_drop];omega,by rw[z1o]⟩
        rw[za,z2n,t1,za,t2,za,hrec _ _ hr _ _ a (fun N' hN'=>?_) hp]
        ·unfold andO
         rw[za,ih b hx hy e2]
         cases a<;>rfl
        ·have hsz:szOf P f.type=some n:=by
          unfold aggSz at hag
          obtain⟨q,hq1,hq2⟩:=zb.1 hag
          cases q with
          | true =>
           obtain⟨n',hn1,hn2⟩:=zb.1 (show ob (szOf P f.type) _=_ from hq2)
           cases hn2;exact hn1
          | false=>cases hq2
         rw[hsz] at hN'
         cases hN'
         simp only[List.length_take,List.length_drop]
         omega
       ·cases h
theorem zb6:∀(d D:Nat) (t:TypeId) (sh:List Nat),d < D->shape P d t=some sh->ShOk P (eqL P D) t sh
 | 0,_,_,_,_,h=>nomatch h
 | d+1,0,_,_,hd,_=>nomatch hd
 | d+1,D+1,t,sh,hd,h=>fun xs ys r hl he=>by
  unfold shape at h
  unfold eqL
  split at h
  ·rename_i fs hu
   rw[hu]
   by_cases hst:P.stoodInHeld t=true
   ·rw[if_pos hst] at h;cases h
   ·rw[if_neg hst] at h
    have hst:P.stoodInHeld t=false:=by simpa using hst
    show ifb (P.stoodInHeld t) none _=_
    rw[hst,zh]
    cases hz:szOf P t with
    | none=>rw[hz] at h;cases h
    | some N =>
     rw[hz] at h
     obtain⟨h1,h2⟩:=hl N hz
     refine z8y (fun t sh h=>zb6 d D t sh (by omega) h) (fun t k a b hi=>?_) fs.toList sh h xs ys r h1 h2 he
     obtain⟨k',hk'⟩:=zi4 hi
     obtain⟨D',rfl⟩:∃ D',D=D' + 1:=⟨D - 1,by omega⟩
     unfold eqL
     rw[hk']
     show guard' (kEq k k) _=_
     rw[z3i.2 rfl,zd,z4u]
     rfl
  ·cases h
end
end PvL
end
section
namespace PvL
open Go
section
variable {P:Program} {sz:Nat} {E:Env} {T:Tm} {M:Mem} {r:R1}
theorem z5d{t:Nat}{z:List LV}(h:cZero P t=some z):∃ v,zeroL P t=some v /\ v.cells=z /\ zl v.cells=true:=by
 unfold cZero at h
 cases h0:zeroL P t with
 | none=>rw[h0] at h;cases h
 | some v =>
  rw[h0] at h;cases h
  obtain⟨i,_,h2⟩:=zb.1 (show ob (P.info? t) _=some v from h0)
  obtain⟨w,_,h3⟩:=zb.1 h2
  obtain⟨u,_,h4⟩:=zb.1 h3
  obtain⟨h5,h6⟩:=zc.1 h4
  cases h6
  exact⟨v,rfl,rfl,h5⟩
theorem zk7{op:BinOp}{t:TypeId}{v w:LV}(h:op ≠ .eql)(h':op ≠ .neq):binL P op 0 v w=binL P op t v w:=by
 cases op<;>first|rfl|exact absurd rfl h|exact absurd rfl h'
theorem zon{D:Nat}{t:TypeId}{w:LV}{q:Bool}(hni:isIfaceT P t=false):eqL P D t .nilIface w ≠ some q:=by
 cases D with
 | zero=>intro h;cases h
 | succ D =>
  intro h
  unfold eqL at h
  unfold isIfaceT at hni
  cases hu:P.underlying t with
  | none=>rw[hu] at h;cases h
  | some d =>
   rw[hu] at h hni
   cases d<;>first|(cases hni;done)|(cases w<;>cases h;done)|(cases h;done)|skip
   all_goals (
    try simp only at h
    repeat' split at h
    all_goals (try cases h))
theorem zoo{t:TypeId}{w:LV}{q:Bool}(hni:isIfaceT P t=false):eqV P t .nilIface w ≠ some q:=zon hni
theorem z9j(h:zu sz E T){neg:Bool}{t u:TypeId}{x y:Operand}{a b:XO}(hx:cX x=some a)(hy:cX y=some b)
  (hs:zm P (.eqg neg t a b) E M=some r):op1 P (.binOp (if neg then .neq else .eql) t x y u) T M=some r:=by
 obtain⟨v,h1,h2⟩:=zb.1 hs
 obtain⟨w,h3,h4⟩:=zb.1 h2
 obtain⟨h5,h6⟩:=zc.1 h4
 obtain⟨q,h7,h8⟩:=zb.1 h6
 cases h8
 simp only[Bool.and_eq_true,Bool.not_eq_true'] at h5
 show oBin P _ t x y u T M=_
 have hn:isNilI v=false:=by
  cases hb:isNilI v with
  | false=>rfl
  | true =>
   obtain rfl:=z88 hb
   unfold eqV at h7
   rw[show isAggL .nilIface=false from rfl,zh,zh,z6w] at h7
   cases h7
 rw[zdr (z03 h hx h1) (z03 h hy h3) hn]
 cases neg with
 | true =>
  show ob (neOp P t v w) _=_
  unfold neOp
  rw[h5.1,h5.2,zh,zh,h7,za,z2b]
  cases q<;>rfl
 | false =>
  show ob (eqOp P t v w) _=_
  unfold eqOp
  rw[h5.1,h5.2,zh,zh,h7,za,z2b]
  cases q<;>rfl
theorem zbn(h:zu sz E T){neg:Bool}{t u:TypeId}{x y:Operand}{a b:XO}(hni:isIfaceT P t=false)(hx:cX x=some a)(hy:cX y=some b){i:XI}
  (hi:cEq P neg t a b=some i) (hs:zm P i E M=some r):op1 P (.binOp (if neg then .neq else .eql) t x y u) T M=some r:=by
 have key:∀ v w q,ev T x=some v->ev T y=some w->isIntL v=false->isStrL v=false->eqV P t v w=some q->op1 P (.binOp (if neg then .neq else .eql) t x y u) T M=some (.val (.bool (bEq q (!neg))) M):=by
  intro v w q h1 h2 h3 h4 h5
  show oBin P _ t x y u T M=_
  have hn:isNilI v=false:=by
   cases hb:isNilI v with
   | false=>rfl
   | true =>
    obtain rfl:=z88 hb
    exact absurd h5 (zoo hni)
  rw[zdr h1 h2 hn]
  cases neg with
  | true =>
   show ob (neOp P t v w) _=_
   unfold neOp
   rw[h3,h4,zh,zh,h5,za,z2b]
   cases q<;>rfl
  | false =>
   show ob (eqOp P t v w) _=_
   unfold eqOp
   rw[h3,h4,zh,zh,h5,za,z2b]
   cases q<;>rfl
 unfold cEq at hi
 split at hi
 ·rename_i sh n hsh hn hg
  cases hi
  obtain⟨v,h1,h2⟩:=zb.1 hs
  obtain⟨w,h3,h4⟩:=zb.1 h2
  obtain⟨xs,rfl,h5⟩:=z10.1 h4
  obtain⟨ys,rfl,h6⟩:=z10.1 h5
  obtain⟨h7,h8⟩:=zc.1 h6
  obtain⟨q,h9,h10⟩:=zb.1 h8
  cases h10
  simp only[Bool.and_eq_true] at h7
  have e1:=Nat.eq_of_beq_eq_true h7.1
  have e2:=Nat.eq_of_beq_eq_true h7.2
  refine key _ _ q (z03 h hx h1) (z03 h hy h3) rfl rfl ?_
  unfold eqV
  rw[hg]
  show eqL P Op.maxDepth t _ _=_
  exact zb6 6 Op.maxDepth t sh (by decide) hsh xs ys q (fun N hN=>by rw[hn] at hN;cases hN;omega) h9
 ·cases hi
  obtain⟨v,h1,h2⟩:=zb.1 hs
  obtain⟨w,h3,h4⟩:=zb.1 h2
  obtain⟨h5,h6⟩:=zc.1 h4
  obtain⟨q,h7,h8⟩:=zb.1 h6
  cases h8
  simp only[Bool.and_eq_true,Bool.not_eq_true'] at h5
  exact key v w q (z03 h hx h1) (z03 h hy h3) h5.1 h5.2 h7
theorem zlb{c:Value}(h:ofV0 c=some .nilIface):c=.nilIface:=by
 unfold ofV0 at h
 split at h<;>first|rfl|cases h
theorem zp5{c:Value}(h:ofV c=some .nilIface):c=.nilIface:=by
 unfold ofV at h
 split at h
 ·obtain⟨l,_,e⟩:=zb.1 h;cases e
 ·cases h
 ·exact zlb h
theorem zq9{y:Operand}{b:XO}(hy:cX y=some b)(hb:isNilO b=true):y=.const .nilIface:=by
 cases b with
 | t n=>cases hb
 | c v =>
  have hv:v=.nilIface:=by cases v<;>first|rfl|(cases hb;done)
  subst hv
  cases y with
  | tmp t=>cases hy
  | const c =>
   have hy:(match ofV c with|some v=>some (XO.c v)|none=>none)=some (.c .nilIface):=hy
   cases ho:ofV c with
   | none=>rw[ho] at hy;cases hy
   | some v=>rw[ho] at hy;cases hy;rw[zp5 ho]
  | global g =>
   have hy:(if Nat.ble (Nat.succ g) 64 then some (XO.c (.ptr (some (g,0)))) else none)=some (.c .nilIface):=hy
   split at hy<;>cases hy
  | func f=>cases hy
theorem z9k(h:zu sz E T){neg:Bool}{t u:TypeId}{x y:Operand}{a b:XO}(hif:isIfaceT P t=true)(hb:isNilO b=true)(hx:cX x=some a)(hy:cX y=some b)
  (hs:zm P (.isn neg a) E M=some r):op1 P (.binOp (if neg then .neq else .eql) t x y u) T M=some r:=by
 obtain rfl:=zq9 hy hb
 obtain⟨v,h1,h2⟩:=zb.1 hs
 obtain⟨q,h3,h4⟩:=zb.1 h2
 obtain⟨ms,hu⟩:∃ ms,P.underlying t=some (.interface ms):=by
  unfold isIfaceT at hif
  split at hif
  ·rename_i ms e;exact⟨ms,e⟩
  ·cases hif
 show oBin P _ t x _ u T M=_
 unfold oBin
 rw[z03 h hx h1,za,show ev T (.const .nilIface)=some .nilIface from rfl,za]
 cases v<;>first|(cases h3;done)|skip
 case nilIface =>
  cases h3
  show ob (nilNil P _ t) _=_
  unfold nilNil
  cases neg<;>(simp only[hu];exact h4)
 case iface ty w =>
  cases h3
  have hq:eqV P t (.iface ty w) .nilIface=some false:=by
   show eqL P Op.maxDepth t _ _=_
   unfold Op.maxDepth eqL
   rw[hu]
  show ob (binL P _ t (.iface ty w) .nilIface) _=_
  cases neg with
  | true =>
   show ob (neOp P t (.iface ty w) .nilIface) _=_
   unfold neOp
   rw[show isIntL (.iface ty w)=false from rfl,show isStrL (.iface ty w)=false from rfl,zh,zh,hq,za,z2b];exact h4
  | false =>
   show ob (eqOp P t (.iface ty w) .nilIface) _=_
   unfold eqOp
   rw[show isIntL (.iface ty w)=false from rfl,show isStrL (.iface ty w)=false from rfl,zh,zh,hq,za,z2b];exact h4
theorem zab(h:zu sz E T){op:BinOp}{t u:TypeId}{x y:Operand}{a b:XO}(hx:cX x=some a)(hy:cX y=some b){i:XI}
  (hi:cBin P op t a b=some i) (hs:zm P i E M=some r):op1 P (.binOp op t x y u) T M=some r:=by
 have heq:∀ v w,(isIntL v || isStrL v)=true->binL P .eql 0 v w=binL P .eql t v w:=fun v w hv=>by
  show eqOp P 0 v w=eqOp P t v w
  unfold eqOp
  cases h1:isIntL v with
  | true=>rfl
  | false =>
   cases h2:isStrL v with
   | true=>rfl
   | false=>rw[h1,h2] at hv;cases hv
 have hne:∀ v w,(isIntL v || isStrL v)=true->binL P .neq 0 v w=binL P .neq t v w:=fun v w hv=>by
  show neOp P 0 v w=neOp P t v w
  unfold neOp
  cases h1:isIntL v with
  | true=>rfl
  | false =>
   cases h2:isStrL v with
   | true=>rfl
   | false=>rw[h1,h2] at hv;cases hv
 cases op with
 | eql =>
  simp only[cBin] at hi
  split at hi
  ·exact z6a h hx hy hi heq hs
  ·split at hi
   ·rename_i hif
    split at hi
    ·rename_i hnil
     cases hi
     exact z9k (neg:=false) h hif hnil hx hy hs
    ·cases hi
     exact z9j (neg:=false) h hx hy hs
   ·rename_i hif
    exact zbn (neg:=false) h (by simpa using hif) hx hy hi hs
 | neq =>
  simp only[cBin] at hi
  split at hi
  ·exact z6a h hx hy hi hne hs
  ·split at hi
   ·rename_i hif
    split at hi
    ·rename_i hnil
     cases hi
     exact z9k (neg:=true) h hif hnil hx hy hs
    ·cases hi
     exact z9j (neg:=true) h hx hy hs
   ·rename_i hif
    exact zbn (neg:=true) h (by simpa using hif) hx hy hi hs
 | _=>exact z6a h hx hy hi (fun v w _=>zk7 (by decide) (by decide)) hs
theorem z99{α:Type}(M:Mem)(k:List (LV × LV)->Option α):entriesOf M (.map none) k=k []:=rfl
theorem zcz(h:zu sz E T){c:Call}{i:XI}(hi:cCall P c=some i)(hs:zm P i E M=some r):op1 P (.call c) T M=some r:=by
 obtain⟨callee,args,ats⟩:=c
 show ob (evs T args.toList) _=_
 unfold cCall at hi
 cases hc:cXs args.toList with
 | none=>simp only[hc] at hi;cases hi
 | some as =>
  simp only[hc] at hi
  cases callee with
  | value f =>
   simp only at hi
   cases hf:cX f with
   | none=>rw[hf] at hi;cases hi
   | some g =>
    rw[hf] at hi;cases hi
    obtain⟨vs,h1,h2⟩:=zb.1 hs
    obtain⟨v,h3,h4⟩:=zb.1 h2
    rw[zbo h hc h1,za]
    show ob (ev T f) _=_
    rw[z03 h hf h3];exact h4
  | invoke a b=>cases hi
  | builtin b =>
   have hargs:∀ vs,z14 E as=some vs->evs T args.toList=some vs:=fun vs hv=>zbo h hc hv
   cases b with
   | len =>
    simp only at hi
    split at hi
    ·rename_i x t ts hat
     split at hi
     ·rename_i k hk
      cases hi
      obtain⟨v,h1,h2⟩:=zb.1 hs
      rw[hargs [v] (by show ob (xval E x) _=_;rw[h1];rfl),za]
      show callB P .len ats.toList [v] M=_
      rw[hat]
      show ob (lenL P t v M) (rv M)=_
      unfold lenL
      rw[hk,za];exact h2
     ·cases hi
    ·cases hi
   | max =>
    cases hi
    obtain⟨vs,h1,h2⟩:=zb.1 hs
    rw[hargs vs h1];exact h2
   | min =>
    cases hi
    obtain⟨vs,h1,h2⟩:=zb.1 hs
    rw[hargs vs h1];exact h2
   | append =>
    simp only at hi
    split at hi
    ·rename_i s x st xt ts hat
     split at hi
     ·rename_i e xd he hxd
      split at hi
      ·cases hi
      ·rename_i hint0
       have hint:isIntD xd=false /\ plainT e=true:=by simpa using hint0
       split at hi
       ·rename_i n b z hn hb hz
        cases hi
        obtain⟨v,h1,h2⟩:=zb.1 hs
        obtain⟨w,h3,h4⟩:=zb.1 h2
        rw[hargs [v,w] (by show ob (xval E s) _=_;rw[h1,za];show ob (ob (xval E x) _) _=_;rw[h3];rfl),za]
        show callB P .append ats.toList [v,w] M=_
        rw[hat]
        show guard' true (appendL P st xt v w M rvm)=_
        rw[zd]
        unfold appendL
        obtain⟨zv,hz1,hz2,hz3⟩:=z5d hz
        rw[he,za,hxd,za,hint.1,zh,hn,za,hb,za]
        obtain⟨a,len,full,es,rfl,h5⟩:=z0m.1 h4
        obtain⟨n',h6,h7⟩:=zb.1 h5
        show ob (z1k w) _=_
        rw[h6,za]
        cases h8:Nat.beq n' 0 with
        | true=>rw[h8] at h7;exact h7
        | false =>
         rw[h8,zh] at h7
         rw[zh,hz1,za,hz2]
         obtain⟨h9,h10⟩:=zc.1 h7
         rw[hint.2,Bool.true_and,h9,zd]
         obtain⟨old,h11,h12⟩:=zb.1 h10
         obtain⟨new,h13,h14⟩:=zb.1 h12
         rw[h11,za,h13,za]
         rw[<-h14]
         congr 1
         congr 1
         funext m
         rw[Mem.new_eq,z1m];rfl
       ·cases hi
     ·cases hi
    ·cases hi
   | unsafeSliceData =>
    simp only at hi
    split at hi
    ·rename_i x
     cases hi
     obtain⟨v,h1,h2⟩:=zb.1 hs
     rw[hargs [v] (by show ob (xval E x) _=_;rw[h1];rfl),za]
     exact h2
    ·cases hi
   | unsafeString =>
    simp only at hi
    split at hi
    ·rename_i x n pt ts hat
     split at hi
     ·rename_i u hu
      split at hi
      ·rename_i hg
       rw[Bool.and_eq_true,Bool.and_eq_true] at hg
       cases hi
       obtain⟨v,h1,h2⟩:=zb.1 hs
       obtain⟨w,h3,h4⟩:=zb.1 h2
       rw[hargs [v,w] (by show ob (xval E x) _=_;rw[h1,za];show ob (ob (xval E n) _) _=_;rw[h3];rfl),za]
       show callB P .unsafeString ats.toList [v,w] M=_
       rw[hat]
       show guard' true (asInt w fun _ n=>nat? n fun n=>unsafeStr P pt v n M)=_
       rw[zd,<- h4]
       congr 1
       funext k z
       congr 1
       funext m
       unfold unsafeStr
       cases Nat.beq m 0 with
       | true=>rfl
       | false =>
        rw[zh,zh,hu,za]
        congr 1
        funext id off
        congr 1
        funext own cs ty
        rw[hg.1,hg.2.1,hg.2.2,Bool.and_true,Bool.true_and,Bool.true_and]
      ·cases hi
     ·cases hi
    ·cases hi
   | copy =>
    simp only at hi
    split at hi
    ·rename_i s x st ts hat
     split at hi
     ·rename_i e he
      split at hi
      ·rename_i n hn
       cases hi
       obtain⟨v,h1,h2⟩:=zb.1 hs
       obtain⟨w,h3,h4⟩:=zb.1 h2
       rw[hargs [v,w] (by show ob (xval E s) _=_;rw[h1,za];show ob (ob (xval E x) _) _=_;rw[h3];rfl),za]
       show callB P .copy ats.toList [v,w] M=_
       rw[hat]
       show guard' true (copyL P st v w M rvm)=_
       rw[zd]
       unfold copyL
       rw[he,za,hn,za,<- h4]
       simp only[z1m];rfl
      ·cases hi
     ·cases hi
    ·cases hi
   | _=>cases hi
theorem z2q{α β:Type}(z:Option LV)(most d:Nat)(k:Nat->Option α)(f:α->Option β):ob (z08 z most d k) f=z08 z most d fun n=>ob (k n) f:=by
 cases z with
 | none=>rfl
 | some z =>
  show ob (asInt z fun _ i=>nat? i fun n=>guard' (Nat.ble n most) (k n)) f=asInt z fun _ i=>nat? i fun n=>guard' (Nat.ble n most) (ob (k n) f)
  cases z with
  | int q i =>
   show ob (nat? i fun n=>guard' (Nat.ble n most) (k n)) f=nat? i fun n=>guard' (Nat.ble n most) (ob (k n) f)
   cases i with
   | ofNat n=>show ob (guard' (Nat.ble n most) (k n)) f=guard' (Nat.ble n most) (ob (k n) f);cases Nat.ble n most<;>rfl
   | negSucc n=>rfl
  | _=>rfl
set_option maxHeartbeats 1000000 in
theorem z35(h:zu sz E T){o:Op}{i:XI}(hi:cOp P o=some i)(hs:zm P i E M=some r):op1 P o T M=some r:=by
 cases o with
 | move x|assign x =>
  simp only[cOp] at hi
  split at hi
  ·rename_i a ha
   cases hi
   obtain⟨v,h1,h2⟩:=zb.1 hs
   show ob (ev T x) _=_
   rw[z03 h ha h1];exact h2
  ·cases hi
 | pick c a b =>
  simp only[cOp] at hi
  split at hi
  ·rename_i c' a' b' hc ha hb
   cases hi
   obtain⟨v,h1,h2⟩:=zb.1 hs
   obtain⟨q,rfl,h3⟩:=z1l.1 h2
   show ob (ev T c) _=_
   rw[z03 h hc h1,za]
   show ifb q _ _=_
   cases q with
   | true=>obtain⟨w,h4,h5⟩:=zb.1 (show ob (xval E a') _=_ from h3);rw[z07,z03 h ha h4];exact h5
   | false=>obtain⟨w,h4,h5⟩:=zb.1 (show ob (xval E b') _=_ from h3);rw[zh,z03 h hb h4];exact h5
  ·cases hi
 | alloc t =>
  simp only[cOp] at hi
  split at hi
  ·rename_i z hz hpt
   cases hi
   obtain⟨zv,hz1,hz2,hz3⟩:=z5d hz
   show ob (zeroL P t) _=_
   rw[hz1,za,hz3,zd]
   obtain⟨_,h2⟩:=zc.1 hs
   unfold newPtr
   rw[hpt,zd,Mem.new_eq,hz2];exact h2
  ·cases hi
 | box t x =>
  simp only[cOp] at hi
  split at hi
  ·rename_i a ha hpt
   cases hi
   obtain⟨v,h1,h2⟩:=zb.1 hs
   show ob (ev T x) _=_
   rw[z03 h ha h1,za,<- h2]
   unfold newPtr
   rw[hpt,zd,Mem.new_eq]
  ·cases hi
 | build t ps =>
  simp only[cOp] at hi
  split at hi
  ·rename_i z pl hz hpl
   split at hi
   ·rename_i l hl
    cases hi
    obtain⟨vs,h1,h2⟩:=zb.1 hs
    obtain⟨c,h3,h4⟩:=zb.1 h2
    obtain⟨ws,h5,h6⟩:=z7s h hl h1
    obtain⟨zv,hz1,hz2,hz3⟩:=z5d hz
    show ob (evParts T ps.toList) _=_
    rw[h5,za]
    unfold buildL
    rw[hz1,za,hpl,za,hz2,h6,h3];exact h4
   ·cases hi
  ·cases hi
 | buildSlice t len ps =>
  simp only[cOp] at hi
  split at hi
  ·rename_i e he
   split at hi
   ·rename_i n z hn hz
    split at hi
    ·rename_i l hl
     split at hi
     ·rename_i hg
      cases hi
      obtain⟨vs,h1,h2⟩:=zb.1 hs
      obtain⟨c,h3,h4⟩:=zb.1 h2
      obtain⟨ws,h5,h6⟩:=z7s h hl h1
      obtain⟨zv,hz1,hz2,hz3⟩:=z5d hz
      show ob (evParts T ps.toList) _=_
      rw[h5,za]
      unfold buildSliceL
      rw[he,za,hn,za,hz1,za,hz2,<- Bool.and_assoc,hg,zd,h6,h3,za,Mem.new_eq];exact h4
     ·cases hi
    ·cases hi
   ·cases hi
  ·cases hi
 | load t a =>
  simp only[cOp] at hi
  split at hi
  ·rename_i a' ha hag
   cases hi
   obtain⟨v,h1,h2⟩:=zb.1 hs
   obtain⟨id,o,rfl,h3⟩:=z0t.1 h2
   show ob (ev T a) _=_
   rw[z03 h ha h1,za]
   unfold loadT
   show ob (ob (aggSz P t) _) _=_
   rw[hag];exact h3
  ·rename_i a' n ha hag
   cases hi
   obtain⟨v,h1,h2⟩:=zb.1 hs
   obtain⟨id,o,rfl,h3⟩:=z0t.1 h2
   obtain⟨l,h4,h5⟩:=zb.1 h3
   show ob (ev T a) _=_
   rw[z03 h ha h1,za]
   unfold loadT
   show ob (ob (aggSz P t) _) _=_
   rw[hag,za,z2n,h4];exact h5
  ·cases hi
 | store t a x =>
  simp only[cOp] at hi
  split at hi
  ·rename_i a' x' n ha hx hn
   cases hi
   obtain⟨v,h1,h2⟩:=zb.1 hs
   obtain⟨w,h3,h4⟩:=zb.1 h2
   obtain⟨id,o,rfl,h5⟩:=z0t.1 h4
   show ob (ev T a) _=_
   rw[z03 h ha h1,za,z03 h hx h3,za]
   unfold storeT
   show ob (ob (szOf P t) _) _=_
   rw[hn,za]
   obtain⟨h6,h7⟩:=zc.1 h5
   obtain⟨h8,h9⟩:=zc.1 h7
   rw[h6,h8];exact h9
  ·cases hi
 | nilCheck x =>
  simp only[cOp] at hi
  split at hi
  ·rename_i a ha
   cases hi
   obtain⟨v,h1,h2⟩:=zb.1 hs
   show ob (ev T x) _=_
   rw[z03 h ha h1];exact h2
  ·cases hi
 | binOp op t x y u =>
  simp only[cOp] at hi
  split at hi
  ·rename_i a b ha hb
   exact zab h ha hb hi hs
  ·cases hi
 | unOp op t x =>
  simp only[cOp] at hi
  split at hi
  ·rename_i a ha
   cases hi
   obtain⟨v,h1,h2⟩:=zb.1 hs
   show ob (ev T x) _=_
   rw[z03 h ha h1];exact h2
  ·cases hi
 | convert s d x =>
  simp only[cOp] at hi
  split at hi
  ·rename_i a u k ha hs' hd
   cases hi
   obtain⟨v,h1,h2⟩:=zb.1 hs
   obtain⟨q,n,rfl,h3⟩:=zk.1 h2
   cases h3
   show ob (ev T x) _=_
   rw[z03 h ha h1,za]
   have hk:convK P s d=0:=by unfold convK;rw[hs',hd];cases u<;>rfl
   unfold convM
   rw[hk]
   show ob (convL P s d (.int q n)) _=_
   unfold convL
   rw[hs',hd]
   show ob (mkI k (wr k n)) _=_
   rw[z1a];rfl
  ·rename_i a e ha hs' hd
   split at hi
   ·rename_i hu8
    cases hi
    obtain⟨v,h1,h2⟩:=zb.1 hs
    obtain⟨p,n,f,es,rfl,h3⟩:=z0m.1 h2
    show ob (ev T x) _=_
    rw[z03 h ha h1,za]
    have hk:convK P s d=1:=by unfold convK;rw[hs',hd];simp only[hu8,if_true]
    unfold convM
    rw[hk]
    exact h3
   ·cases hi
  ·rename_i a e' e ha hs' hd
   split at hi
   ·rename_i hg
    cases hi
    obtain⟨v,h1,h2⟩:=zb.1 hs
    obtain⟨p,n,f,es,rfl,h3⟩:=z0m.1 h2
    show ob (ev T x) _=_
    rw[z03 h ha h1,za]
    have hk:convK P s d=2:=by unfold convK;rw[hs',hd];simp only[hg,if_true]
    unfold convM
    rw[hk]
    obtain⟨hg1,h4⟩:=zc.1 h3
    show ob (guard' _ (some _)) (rv M)=_
    rw[hg1,zd]
    exact h4
   ·cases hi
  ·rename_i a u hns ha hs' hd
   cases hi
   obtain⟨v,h1,h2⟩:=zb.1 hs
   obtain⟨n,rfl,h3⟩:=z0k.1 h2
   cases h3
   show ob (ev T x) _=_
   rw[z03 h ha h1,za]
   have hk:convK P s d=0:=by
    unfold convK;rw[hs',hd]
    cases u<;>first|rfl|(exfalso;exact hns _ rfl)
   unfold convM
   rw[hk]
   show ob (convL P s d (.str n)) _=_
   unfold convL
   rw[hs',hd]
   cases u<;>first|rfl|(exfalso;exact hns _ rfl)
  ·cases hi
 | makeFunc fn a b =>
  cases fn with
  | func g =>
   simp only[cOp] at hi
   split at hi
   ·rename_i a' b' ha hb
    cases hi
    obtain⟨v,h1,h2⟩:=zb.1 hs
    obtain⟨w,h3,h4⟩:=zb.1 h2
    show ob (evs T a.toList) _=_
    rw[zbo h ha h1,za,zbo h hb h3];exact h4
   ·cases hi
  | _=>cases hi
 | makeMap t q =>
  cases q with
  | none =>
   cases hi
   show oMakeMap t none T M=_
   unfold oMakeMap
   rw[show(none:Option Operand).isNone=true from rfl,zd,Mem.new_eq];exact hs
  | some q=>cases hi
 | makeSlice t l c =>
  simp only[cOp] at hi
  split at hi
  ·rename_i l' c' e hl hc he
   split at hi
   ·rename_i n z b hn hz hb
    split at hi
    ·rename_i hg
     cases hi
     obtain⟨v,h1,h2⟩:=zb.1 hs
     obtain⟨w,h3,h4⟩:=zb.1 h2
     obtain⟨zv,hz1,hz2,hz3⟩:=z5d hz
     show ob (ev T l) _=_
     rw[z03 h hl h1,za,z03 h hc h3,za]
     obtain⟨k,m,rfl,h5⟩:=zk.1 h4
     obtain⟨k',m',rfl,h6⟩:=zk.1 h5
     obtain⟨a,rfl,h7⟩:=nat?_eq.1 h6
     obtain⟨a',rfl,h8⟩:=nat?_eq.1 h7
     obtain⟨h9,h10⟩:=zc.1 h8
     unfold makeSliceL
     rw[he,za]
     refine zk.2 ⟨_,_,rfl,zk.2 ⟨_,_,rfl,nat?_eq.2 ⟨a,rfl,nat?_eq.2 ⟨a',rfl,?_⟩⟩⟩⟩
     rw[hn,za,hz1,za,hb,za,hz2]
     simp only[Bool.and_eq_true] at h9 hg
     rw[h9.1,h9.2.1,h9.2.2,hg.1,hg.2.1,hg.2.2]
     simp only[Bool.and_self,zd]
     rw[Mem.new_eq];exact h10
    ·cases hi
   ·cases hi
  ·cases hi
 | slice t x lo hi' mx =>
  simp only[cOp] at hi
  split at hi
  ·rename_i x' lo' hi'' mx' hx hlo hhi hmx
   split at hi
   ·rename_i e hu
    split at hi
    ·rename_i n hn
     cases hi
     obtain⟨v,h1,h2⟩:=zb.1 hs
     obtain⟨v2,h3,h4⟩:=zb.1 h2
     obtain⟨v3,h5,h6⟩:=zb.1 h4
     obtain⟨v4,h7,h8⟩:=zb.1 h6
     obtain⟨a,len,full,es,rfl,h9⟩:=z0m.1 h8
     show ob (ev T x) _=_
     rw[z03 h hx h1,za,z5c h hlo h3,za,z5c h hhi h5,za,z5c h hmx h7,za]
     unfold sliceL
     rw[hu]
     show ob (ob (szOf P e) _) _=_
     rw[hn];exact h9
    ·cases hi
   ·rename_i hu
    cases hi
    obtain⟨v,h1,h2⟩:=zb.1 hs
    obtain⟨v2,h3,h4⟩:=zb.1 h2
    obtain⟨v3,h5,h6⟩:=zb.1 h4
    obtain⟨v4,h7,h8⟩:=zb.1 h6
    obtain⟨s,rfl,h9⟩:=z0k.1 h8
    show ob (ev T x) _=_
    rw[z03 h hx h1,za,z5c h hlo h3,za,z5c h hhi h5,za,z5c h hmx h7,za]
    unfold sliceL
    rw[hu]
    obtain⟨h10,h11⟩:=zc.1 h9
    show ob (guard' v4.isNone _) _=_
    rw[h10,zd]
    rw[z2q,<- h11]
    congr 1
    funext n
    rw[z2q]
    rfl
   ·rename_i len e hu
    split at hi
    ·rename_i n hn
     cases hi
     obtain⟨v,h1,h2⟩:=zb.1 hs
     obtain⟨v2,h3,h4⟩:=zb.1 h2
     obtain⟨v3,h5,h6⟩:=zb.1 h4
     obtain⟨v4,h7,h8⟩:=zb.1 h6
     obtain⟨h9,h10⟩:=zc.1 h8
     obtain⟨id,off,rfl,h11⟩:=z0t.1 h10
     show ob (ev T x) _=_
     rw[z03 h hx h1,za,z5c h hlo h3,za,z5c h hhi h5,za,z5c h hmx h7,za]
     unfold sliceL
     rw[hu]
     show ob (guard' _ (ob (szOf P e) _)) _=_
     rw[h9,zd,hn,za]
     show ob (atCells M id _) _=_
     unfold atCells at h11 ⊢
     obtain⟨lb,h12,h13⟩:=zb.1 h11
     rw[h12,za]
     cases lb with
     | cells own cs ty =>
      obtain⟨h14,h15⟩:=zc.1 h13
      show ob (guard' _ _) _=_
      rw[h14,zd,z2q,<- h15]
      congr 1
      funext mm
      rw[z2q]
      congr 1
      funext hh
      rw[z2q]
      congr 1
      funext l
      simp only[z1m];rfl
     | _=>cases h13
    ·cases hi
   ·cases hi
  ·cases hi
 | fieldAddr t x f =>
  simp only[cOp] at hi
  split at hi
  ·rename_i a off n ag ha hf
   split at hi
   ·rename_i hg
    cases hi
    obtain⟨v,h1,h2⟩:=zb.1 hs
    obtain⟨id,o,rfl,h3⟩:=z0t.1 h2
    show ob (ev T x) _=_
    rw[z03 h ha h1,za]
    unfold fieldAddrL
    rw[hf]
    show ob (guard' (Nat.ble 1 n) (fN (o+off) _)) _=_
    rw[hg,zd,z1m];exact h3
   ·cases hi
  ·cases hi
 | field t x f =>
  simp only[cOp] at hi
  split at hi
  ·rename_i a off n ag ha hf
   cases hi
   obtain⟨v,h1,h2⟩:=zb.1 hs
   show ob (ev T x) _=_
   rw[z03 h ha h1,za]
   unfold fieldL
   rw[hf]
   obtain⟨cs,rfl,h3⟩:=z10.1 h2
   exact h3
  ·cases hi
 | indexAddr t x i' =>
  simp only[cOp] at hi
  split at hi
  ·rename_i a b len n ha hb hk
   cases hi
   obtain⟨v,h1,h2⟩:=zb.1 hs
   obtain⟨w,h3,h4⟩:=zb.1 h2
   obtain⟨k,z,rfl,h5⟩:=zk.1 h4
   obtain⟨j,rfl,h6⟩:=nat?_eq.1 h5
   show ob (ev T x) _=_
   rw[z03 h ha h1,za,z03 h hb h3,za]
   unfold indexAddrL
   rw[hk]
   exact h6
  ·cases hi
 | index t x i' =>
  simp only[cOp] at hi
  split at hi
  ·rename_i a b len e ha hb hu
   split at hi
   ·rename_i n ag hn hag
    cases hi
    obtain⟨v,h1,h2⟩:=zb.1 hs
    obtain⟨w,h3,h4⟩:=zb.1 h2
    obtain⟨cs,rfl,h4'⟩:=z10.1 h4
    obtain⟨k,z,rfl,h5⟩:=zk.1 h4'
    obtain⟨j,rfl,h6⟩:=nat?_eq.1 h5
    obtain⟨h7,h8⟩:=zc.1 h6
    show ob (ev T x) _=_
    rw[z03 h ha h1,za,z03 h hb h3,za]
    unfold indexL
    rw[hu]
    show ob (ob (szOf P e) _) _=_
    rw[hn,za,hag,za,h7,zd];exact h8
   ·cases hi
  ·rename_i a b ha hb hu
   cases hi
   obtain⟨v,h1,h2⟩:=zb.1 hs
   obtain⟨w,h3,h4⟩:=zb.1 h2
   obtain⟨s,rfl,h4'⟩:=z0k.1 h4
   obtain⟨k,z,rfl,h5⟩:=zk.1 h4'
   obtain⟨j,rfl,h6⟩:=nat?_eq.1 h5
   obtain⟨b',h7,h8⟩:=zb.1 h6
   cases h8
   show ob (ev T x) _=_
   rw[z03 h ha h1,za,z03 h hb h3,za]
   unfold indexL
   rw[hu]
   show ob (ob s[j]? _) _=_
   rw[h7];rfl
  ·cases hi
 | lookup t x i' ok =>
  simp only[cOp] at hi
  split at hi
  ·rename_i a b kt et ha hb hm
   split at hi
   ·rename_i z hz
    cases hi
    obtain⟨v,h1,h2⟩:=zb.1 hs
    obtain⟨w,h3,h4⟩:=zb.1 h2
    obtain⟨h5,h6⟩:=zc.1 h4
    show ob (ev T x) _=_
    rw[z03 h ha h1,za,z03 h hb h3,za]
    unfold lookupL
    rw[hm,za,zro,h5,zd]
    obtain⟨q,rfl,h7⟩:=z29.1 h6
    cases q with
    | none =>
     rw[z56] at h7
     obtain⟨p,h8,h9⟩:=zb.1 h7
     rw[z99,h8,za]
     cases p with
     | none=>cases h9;show ob (ob (zeroL P et) _) _=_;rw[hz];rfl
     | some p=>obtain⟨_,_,_⟩:=p;cases h9;rfl
    | some q =>
     have h7:atMap M q _=_:=h7
     unfold atMap at h7
     obtain⟨lb,h8,h9⟩:=zb.1 h7
     show ob (atMap M q _) _=_
     unfold atMap
     rw[h8,za]
     cases lb with
     | map es bs clk =>
      obtain⟨p,h10,h11⟩:=zb.1 (show ob (findL P kt w es 0) _=_ from h9)
      show ob (ob (findL P kt w es 0) _) _=_
      rw[h10,za]
      cases p with
      | none=>cases h11;show ob (ob (zeroL P et) _) _=_;rw[hz];rfl
      | some p=>obtain⟨_,_,_⟩:=p;cases h11;rfl
     | _=>cases h9
   ·cases hi
  ·cases hi
 | mapUpdate t m k v =>
  simp only[cOp] at hi
  split at hi
  ·rename_i a b c kt et ha hb hc hm
   cases hi
   obtain⟨x,h1,h2⟩:=zb.1 hs
   obtain⟨y,h3,h4⟩:=zb.1 h2
   obtain⟨z,h5,h6⟩:=zb.1 h4
   obtain⟨h7,h8⟩:=zc.1 h6
   obtain⟨q,rfl,h9⟩:=z29.1 h8
   obtain⟨q,rfl,h10⟩:=zb.1 h9
   show ob (ev T m) _=_
   rw[z03 h ha h1,za,z03 h hb h3,za,z03 h hc h5,za]
   unfold mapUpdateL
   rw[hm,za,zro,h7,zd]
   show ob (atMap M q _) _=_
   unfold atMap at h10 ⊢
   obtain⟨lb,h11,h12⟩:=zb.1 h10
   rw[h11,za]
   cases lb with
   | map es bs clk =>
    obtain⟨p,h13,h14⟩:=zb.1 (show ob (findL P kt y es 0) _=_ from h12)
    show ob (ob (findL P kt y es 0) _) _=_
    rw[h13,za]
    cases p with
    | none=>cases h14;show ob (fN (clk+1) fun clk'=>some (M.upd q (some (.map (es ++ [(y,z)]) (bs ++ [clk]) clk')))) _=_;rw[z1m];rfl
    | some p =>
     obtain⟨i,k',v'⟩:=p
     obtain⟨h15,h16⟩:=zc.1 (show guard' (lvEq y k') _=_ from h14)
     cases h16
     show ob (guard' (lvEq y k') _) _=_
     rw[h15];rfl
   | _=>cases h12
  ·cases hi
 | extract x i' =>
  simp only[cOp] at hi
  split at hi
  ·rename_i a ha
   cases hi
   obtain⟨v,h1,h2⟩:=zb.1 hs
   show ob (ev T x) _=_
   rw[z03 h ha h1];exact h2
  ·cases hi
 | call c=>exact zcz h hi hs
 | makeInterface t x =>
  simp only[cOp] at hi
  split at hi
  ·rename_i a ha hc
   cases hi
   obtain⟨v,h1,h2⟩:=zb.1 hs
   show guard' (z04 P t) _=_
   rw[hc,zd,z03 h ha h1];exact h2
  ·cases hi
 | typeAssert x u t ok =>
  simp only[cOp] at hi
  split at hi
  ·rename_i a z ha hc hz
   cases hi
   obtain⟨v,h1,h2⟩:=zb.1 hs
   show guard' (z04 P t) _=_
   rw[hc,zd,z03 h ha h1,za]
   rw[<-h2]
   congr 1
   cases v<;>first|rfl|(show guard' ok (ob (zeroL P t) _)=_;rw[hz];rfl)|(show ifb _ _ (guard' ok (ob (zeroL P t) _))=_;rw[hz];rfl)
  ·cases hi
 | _=>cases hi
theorem zgi{c:Call}(hc:∀ f,c.callee=.value (.func f)->isSame P f=false):oSame P c T M=none:=by
 unfold oSame
 split
 ·rename_i f x h1 h2
  rw[hc f h1];rfl
 ·rfl
theorem zne{o:Op}(hc:∀ c,o=.call c->∀ f,c.callee=.value (.func f)->isSame P f=false)(h:op1 P o T M=some r):opA P o T M=some r:=by
 cases o<;>first
  |(show oe (op1 P _ T M) (opX P _ T M) some=some r;rw[h];rfl)
  |(cases h;done)
  | skip
 case call c =>
  show oe (oSame P c T M) (op1 P (.call c) T M) some=some r
  rw[zgi (hc c rfl),h];rfl
theorem z4c(h:zu sz E T){o:Op}{i:XI}(hi:cOpA P o=some i)(hs:zm P i E M=some r):opA P o T M=some r:=by
 unfold cOpA at hi
 cases hsm:cSame P o with
 | some i' =>
  rw[hsm] at hi;cases hi
  cases o<;>first|(cases hsm;done)|skip
  case call c =>
   simp only[cSame] at hsm
   split at hsm
   ·rename_i f x h1 h2
    split at hsm
    ·rename_i hf
     split at hsm
     ·rename_i a ha
      cases hsm
      obtain⟨v,h3,h4⟩:=zb.1 hs
      show oe (oSame P c T M) (op1 P (.call c) T M) some=some r
      have:oSame P c T M=some r:=by
       unfold oSame
       rw[h1,h2]
       show guard' (isSame P f) (ob (ev T x) (rv M))=_
       rw[hf,zd,z03 h ha h3];exact h4
      rw[this];rfl
     ·cases hsm
    ·cases hsm
   ·cases hsm
 | none =>
  rw[hsm] at hi
  have gen:∀(o:Op),(∀ c,o ≠ .call c)->(match cOp P o with|some i=>some i|none=>cOpX P o)=some i->opA P o T M=some r:=fun o hnc hi=>by
   cases ho:cOp P o with
   | some i'=>rw[ho] at hi;cases hi;exact zne (fun c e=>absurd e (hnc c)) (z35 h ho hs)
   | none =>
    rw[ho] at hi
    cases o<;>first|(cases hi;done)|skip
    case convert sT d x =>
     have hi:cOpX P (.convert sT d x)=some i:=hi
     simp only[cOpX] at hi
     split at hi
     ·rename_i a e ha hss hdd
      split at hi
      ·rename_i hg
       cases hi
       obtain⟨v,h1,h2⟩:=zb.1 hs
       obtain⟨s,rfl,h5⟩:=z0k.1 h2
       have h0:op1 P (.convert sT d x) T M=none:=by
        show ob (ev T x) _=_
        rw[z03 h ha h1,za]
        have hk:convK P sT d=0:=by unfold convK;rw[hss,hdd]
        unfold convM
        rw[hk]
        show ob (convL P sT d (.str s)) _=_
        unfold convL
        rw[hss,hdd];rfl
       show oe (op1 P (.convert sT d x) T M) (opX P (.convert sT d x) T M) some=some r
       rw[h0]
       show oe none (oConvU P sT d x T M) some=some r
       have:oConvU P sT d x T M=some r:=by
        unfold oConvU
        rw[hss,hdd]
        show guard' (isU8 P e && plainT e) (ob (ev T x) _)=_
        rw[hg,zd,z03 h ha h1,za]
        show M.new (.cells true (s.data.toList.map byteL) (apE e)) (fun id m=>fN s.size fun n=>some (R1.val (.slice (some (id,0)) n false 1) m))=some r
        rw[Mem.new_eq]
        show fN s.size _=_
        rw[z1m];exact h5
       rw[this];rfl
      ·cases hi
     ·rename_i a t ha hss hdd
      split at hi
      ·rename_i n hn
       split at hi
       ·rename_i hg
        cases hi
        obtain⟨v,h1,h2⟩:=zb.1 hs
        have h0:op1 P (.convert sT d x) T M=none:=by
         show ob (ev T x) _=_
         rw[z03 h ha h1,za]
         have hk:convK P sT d=0:=by unfold convK;rw[hss,hdd]
         unfold convM
         rw[hk]
         show ob (convL P sT d v) _=_
         unfold convL
         rw[hss,hdd];rfl
        show oe (op1 P (.convert sT d x) T M) (opX P (.convert sT d x) T M) some=some r
        rw[h0]
        show oe none (oConvU P sT d x T M) some=some r
        have:oConvU P sT d x T M=some r:=by
         unfold oConvU
         rw[hss,hdd]
         show ob (ev T x) _=_
         rw[z03 h ha h1,za,<- h2]
         congr 1
         funext id off
         congr 1
         funext own cs ty
         rw[hn,za,hg,Bool.true_and];rfl
        rw[this];rfl
       ·cases hi
      ·cases hi
     ·rename_i a u ha hss hdd
      split at hi
      ·rename_i n hn
       split at hi
       ·rename_i hg
        cases hi
        obtain⟨v,h1,h2⟩:=zb.1 hs
        have h0:op1 P (.convert sT d x) T M=none:=by
         show ob (ev T x) _=_
         rw[z03 h ha h1,za]
         have hk:convK P sT d=0:=by unfold convK;rw[hss,hdd]
         unfold convM
         rw[hk]
         show ob (convL P sT d v) _=_
         unfold convL
         rw[hss,hdd];rfl
        show oe (op1 P (.convert sT d x) T M) (opX P (.convert sT d x) T M) some=some r
        rw[h0]
        show oe none (oConvU P sT d x T M) some=some r
        have:oConvU P sT d x T M=some r:=by
         unfold oConvU
         rw[hss,hdd]
         show ob (ev T x) _=_
         rw[z03 h ha h1,za,<- h2]
         congr 1
         funext id off
         congr 1
         funext own cs ty
         rw[Bool.and_eq_true,Bool.and_eq_true] at hg
         rw[hn,za,hg.1,hg.2.1,hg.2.2,Bool.true_and,Bool.true_and,Bool.true_and];rfl
        rw[this];rfl
       ·cases hi
      ·cases hi
     ·cases hi
    case range t x =>
     have hi:cOpX P (.range t x)=some i:=hi
     simp only[cOpX] at hi
     split at hi
     ·rename_i a k e ha hu
      cases hi
      obtain⟨v,h1,h2⟩:=zb.1 hs
      show oe none (oRange P t x T M) some=some r
      have:oRange P t x T M=some r:=by
       unfold oRange
       rw[hu]
       show ob (ev T x) _=_
       rw[z03 h ha h1,za]
       simp only[Mem.new_eq]
       exact h2
      rw[this];rfl
     ·cases hi
    case next x b =>
     cases b with
     | true=>cases hi
     | false =>
      have hi:cOpX P (.next x false)=some i:=hi
      simp only[cOpX] at hi
      split at hi
      ·rename_i a ha
       cases hi
       obtain⟨v,h1,h2⟩:=zb.1 hs
       show oe none (oNext x false T M) some=some r
       have:oNext x false T M=some r:=by
        show ob (ev T x) _=_
        rw[z03 h ha h1];exact h2
       rw[this];rfl
      ·cases hi
    case entry x =>
     have hi:cOpX P (.entry x)=some i:=hi
     simp only[cOpX] at hi
     split at hi
     ·rename_i a ha
      cases hi
      obtain⟨v,h1,h2⟩:=zb.1 hs
      show oe none (oEntry x T M) some=some r
      have:oEntry x T M=some r:=by
       show ob (ev T x) _=_
       rw[z03 h ha h1];exact h2
      rw[this];rfl
     ·cases hi
    case panic x =>
     have hi:cOpX P (.panic x)=some i:=hi
     simp only[cOpX] at hi
     split at hi
     ·rename_i a ha
      cases hi
      obtain⟨v,h1,h2⟩:=zb.1 hs
      show oe none (oPanic x T M) some=some r
      have:oPanic x T M=some r:=by
       show ob (ev T x) _=_
       rw[z03 h ha h1];exact h2
      rw[this];rfl
     ·cases hi
  cases o<;>first|exact gen _ (fun c e=>by cases e) hi|skip
  case call c =>
   obtain⟨callee,args,ats⟩:=c
   have key:∀(hc:∀ f,callee=.value (.func f)->isSame P f=false),cOp P (.call ⟨callee,args,ats⟩)=some i->opA P (.call ⟨callee,args,ats⟩) T M=some r:=fun hc ho =>
    zne (fun c e f hf=>by cases e;exact hc f hf) (z35 h ho hs)
   cases callee with
   | value f =>
    cases f with
    | func g =>
     have hi:(if isSame P g then none else cOp P (.call ⟨.value (.func g),args,ats⟩))=some i:=hi
     split at hi
     ·cases hi
     ·rename_i hg
      exact key (fun f e=>by cases e;simpa using hg) hi
    | _=>exact key (fun f e=>by cases e) hi
   | invoke a b=>exact key (fun f e=>by cases e) hi
   | builtin b=>exact key (fun f e=>by cases e) hi
end
end PvL
end
section
namespace PvL
open Go
def iMax(a b:Int):Int:=max a b
def iMin(a b:Int):Int:=min a b
noncomputable def maxX:List LV->LV->Option LV
 | [],x=>some x
 | .int _ b :: ys,.int k a=>maxX ys (.int k (iMax a b))
 | _,_=>none
noncomputable def minX:List LV->LV->Option LV
 | [],x=>some x
 | .int _ b :: ys,.int k a=>minX ys (.int k (iMin a b))
 | _,_=>none
noncomputable def binX(op:BinOp)(x y:LV):Option LV :=
 match x,y with
 | .int k a,.int k' b=>guard' (kEq k k') (match op with
  | .add=>some (.int k (k.wrap (a+b)))
  | .sub=>some (.int k (k.wrap (a - b)))
  | .mul=>some (.int k (k.wrap (a*b)))
  | .lss=>some (.bool (decide (a < b)))
  | .leq=>some (.bool (decide (a<=b)))
  | .gtr=>some (.bool (decide (b < a)))
  | .geq=>some (.bool (decide (b<=a)))
  | .eql=>some (.bool (decide (a=b)))
  | .neq=>some (.bool (decide (a ≠ b)))
  | _=>none)
 | .str a,.str b=>(match op with
  | .eql=>some (.bool (a == b))
  | .neq=>some (.bool (!(a == b)))
  | _=>none)
 | _,_=>none
noncomputable def xpure(i:XI)(E:Env):Option LV :=
 match i with
 | .mv x=>xval E x
 | .pick c a b=>ob (xval E c) fun c=>asBool c fun c=>ifb c (xval E a) (xval E b)
 | .build z ps=>ob (xParts E ps) fun l=>ob (fillX l z) fun c=>some (.agg c)
 | .nilc x=>ob (xval E x) nilCheckL
 | .bin op x y=>ob (xval E x) fun a=>ob (xval E y) fun b=>binX op a b
 | .eqs neg n sh x y=>ob (xval E x) fun a=>ob (xval E y) fun b=>asAgg a fun xs=>asAgg b fun ys=>guard' (Nat.beq xs.length n && Nat.beq ys.length n) (ob (eqSh xs ys sh) fun r=>some (.bool (ifb neg (!r) r)))
 | .un op x=>ob (xval E x) fun a=>(match op with
  | .neg=>asInt a fun k n=>some (.int k (k.wrap (0 - n)))
  | .not=>asBool a fun b=>some (.bool (!b))
  | _=>none)
 | .conv k x=>ob (xval E x) fun a=>asInt a fun _ n=>some (.int k (k.wrap n))
 | .convS x=>ob (xval E x) fun a=>asStr a fun s=>some (.str s)
 | .mkf g a b=>ob (z14 E a) fun a=>ob (z14 E b) fun b=>some (.func (.func g) a b)
 | .fad off x=>ob (xval E x) fun v=>asPtr v fun i o=>some (.ptr (some (i,o+off)))
 | .fld off n ag x=>ob (xval E x) fun v=>asAgg v fun cs=>partL ag n off cs
 | .ext i x=>ob (xval E x) fun v=>asTup v fun vs=>nth vs i
 | .len k x=>ob (xval E x) fun x=>(match k with
  | .str=>asStr x fun s=>some (.int .i64 s.size)
  | .sl=>asSlice x fun _ n _ _=>some (.int .i64 n)
  | .arr n=>some (.int .i64 n)
  | .map=>none)
 | .max xs=>ob (z14 E xs) fun l=>lE l none fun x xs=>maxX xs x
 | .min xs=>ob (z14 E xs) fun l=>lE l none fun x xs=>minX xs x
 | _=>none
theorem zot(a b:Int):ifb (ilt a b) b a=max a b:=by
 rw[z3s]
 by_cases h:a < b
 ·rw[decide_eq_true h,z07,Int.max_eq_right (by omega)]
 ·rw[decide_eq_false h,zh,Int.max_eq_left (by omega)]
theorem zou(a b:Int):ifb (ilt b a) b a=min a b:=by
 rw[z3s]
 by_cases h:b < a
 ·rw[decide_eq_true h,z07,Int.min_eq_right (by omega)]
 ·rw[decide_eq_false h,zh,Int.min_eq_left (by omega)]
theorem z9r:∀ {xs:List LV} {x v:LV},maxX xs x=some v->foldL max2L xs x=some v
 | [],x,v,h=>h
 | y :: ys,x,v,h=>by
  cases y with
  | int k' b =>
   cases x with
   | int k a =>
    show ob (some (LV.int k (ifb (ilt a b) b a))) _=_
    rw[zot]
    exact z9r (xs:=ys) h
   | _=>cases h
  | _=>cases h
theorem z9s:∀ {xs:List LV} {x v:LV},minX xs x=some v->foldL min2L xs x=some v
 | [],x,v,h=>h
 | y :: ys,x,v,h=>by
  cases y with
  | int k' b =>
   cases x with
   | int k a =>
    show ob (some (LV.int k (ifb (ilt b a) b a))) _=_
    rw[zou]
    exact z9s (xs:=ys) h
   | _=>cases h
  | _=>cases h
section
variable {P:Program} {sz:Nat} {E:Env} {M:Mem}
theorem zfm{op:BinOp}{x y v:LV}(h:binX op x y=some v):eqGd op x=true /\ binL P op 0 x y=some v:=by
 unfold binX at h
 split at h
 ·rename_i k a k' b
  obtain⟨hk,h⟩:=zc.1 h
  have hc:∀(f:Int->Int->Bool) (c:Bool),f a b=c->cmpI f (.int k a) (.int k' b)=some (.bool c):=fun f c e=>by
   show guard' (kEq k k') (mkB (f a b))=_
   rw[hk,zd,z2b,e]
  have ha:∀(f:IntKind->Int->Int->Option LV) (c:LV),f k a b=some c->arI f (.int k a) (.int k' b)=some c:=fun f c e=>by
   show guard' (kEq k k') (f k a b)=_
   rw[hk,zd,e]
  cases op with
  | add=>cases h;exact⟨rfl,ha (fun k a b=>mkI k (wr k (a+b))) _ (by show mkI k (wr k (a+b))=_;rw[z1a,z2v])⟩
  | sub=>cases h;exact⟨rfl,ha _ _ (by rw[z1a,z2v])⟩
  | mul=>cases h;exact⟨rfl,ha _ _ (by rw[z1a,z2v])⟩
  | lss=>cases h;exact⟨rfl,hc _ _ (by simp[z3s])⟩
  | leq=>cases h;exact⟨rfl,hc _ _ (by rw[Bool.eq_iff_iff];simp[z3s,Int.not_lt])⟩
  | gtr=>cases h;exact⟨rfl,hc _ _ (by simp[z3s])⟩
  | geq=>cases h;exact⟨rfl,hc _ _ (by rw[Bool.eq_iff_iff];simp[z3s,Int.not_lt])⟩
  | eql=>cases h;exact⟨rfl,hc _ _ (by rw[Bool.eq_iff_iff];simp[z4u])⟩
  | neq=>cases h;exact⟨rfl,hc (fun a b=>!(ieq a b)) (decide (a ≠ b)) (by rw[Bool.eq_iff_iff];simp[z4u])⟩
  | _=>cases h
 ·cases op<;>first
   |(cases h;done)
   |(cases h;refine⟨rfl,?_⟩;exact z2b _)
 ·cases h
theorem z1e{i:XI}{v:LV}(h:xpure i E=some v)(M:Mem):zm P i E M=some (.val v M):=by
 cases i with
 | mv x=>show ob (xval E x) _=_;rw[show xval E x=some v from h];rfl
 | pick c a b =>
  obtain⟨w,h1,h2⟩:=zb.1 h
  obtain⟨q,rfl,h3⟩:=z1l.1 h2
  show ob (xval E c) _=_
  rw[h1]
  cases q with
  | true=>show ob (xval E a) _=_;rw[show xval E a=some v from h3];rfl
  | false=>show ob (xval E b) _=_;rw[show xval E b=some v from h3];rfl
 | build z ps =>
  obtain⟨w,h1,h2⟩:=zb.1 h
  obtain⟨q,h3,h4⟩:=zb.1 h2
  cases h4
  show ob (xParts E ps) _=_
  rw[h1,za,h3];rfl
 | nilc x=>obtain⟨w,h1,h2⟩:=zb.1 h;show ob (xval E x) _=_;rw[h1,za,h2];rfl
 | bin op x y =>
  obtain⟨a,h1,h2⟩:=zb.1 h
  obtain⟨b,h3,h4⟩:=zb.1 h2
  obtain⟨h5,h6⟩:=zfm (P:=P) h4
  show ob (xval E x) _=_
  rw[h1,za,h3,za]
  refine zc.2 ⟨h5,?_⟩
  rw[h6];rfl
 | eqs neg n sh x y =>
  obtain⟨a,h1,h2⟩:=zb.1 h
  obtain⟨b,h3,h4⟩:=zb.1 h2
  obtain⟨xs,rfl,h5⟩:=z10.1 h4
  obtain⟨ys,rfl,h6⟩:=z10.1 h5
  obtain⟨h7,h8⟩:=zc.1 h6
  obtain⟨r,h9,h10⟩:=zb.1 h8
  cases h10
  show ob (xval E x) _=_
  rw[h1,za,h3,za]
  show guard' _ (ob (eqSh xs ys sh) _)=_
  rw[h7,zd,h9,za,zns]
  cases neg<;>rfl
 | un op x =>
  obtain⟨a,h1,h2⟩:=zb.1 h
  show ob (xval E x) _=_
  rw[h1,za]
  cases op with
  | neg=>obtain⟨k,n,rfl,h3⟩:=zk.1 h2;cases h3;show ob (mkI k (wr k (0 - n))) _=_;rw[z1a,z2v];rfl
  | not=>obtain⟨k,rfl,h3⟩:=z1l.1 h2;cases h3;show ob (mkB (!k)) _=_;rw[z2b];rfl
  | _=>cases h2
 | conv k x =>
  obtain⟨a,h1,h2⟩:=zb.1 h
  obtain⟨q,n,rfl,h3⟩:=zk.1 h2
  cases h3
  show ob (xval E x) _=_
  rw[h1,za]
  show some (R1.val (.int k (wr k n)) M)=_
  rw[z2v]
 | convS x =>
  obtain⟨a,h1,h2⟩:=zb.1 h
  obtain⟨q,rfl,h3⟩:=z0k.1 h2
  cases h3
  show ob (xval E x) _=_
  rw[h1];rfl
 | mkf g a b =>
  obtain⟨a',h1,h2⟩:=zb.1 h
  obtain⟨b',h3,h4⟩:=zb.1 h2
  cases h4
  show ob (z14 E a) _=_
  rw[h1,za,h3];rfl
 | fad off x =>
  obtain⟨a,h1,h2⟩:=zb.1 h
  obtain⟨i,o,rfl,h3⟩:=z0t.1 h2
  cases h3
  show ob (xval E x) _=_
  rw[h1];rfl
 | fld off n ag x =>
  obtain⟨a,h1,h2⟩:=zb.1 h
  obtain⟨cs,rfl,h3⟩:=z10.1 h2
  show ob (xval E x) _=_
  rw[h1,za]
  show ob (partL ag n off cs) _=_
  rw[h3];rfl
 | ext i x =>
  obtain⟨a,h1,h2⟩:=zb.1 h
  obtain⟨cs,rfl,h3⟩:=zaa.1 h2
  show ob (xval E x) _=_
  rw[h1,za]
  show ob (nth cs i) _=_
  rw[h3];rfl
 | len k x =>
  obtain⟨a,h1,h2⟩:=zb.1 h
  show ob (xval E x) _=_
  rw[h1,za]
  cases k with
  | str=>obtain⟨s,rfl,h3⟩:=z0k.1 h2;cases h3;show ob (mkN s.size) _=_;rw[zay];rfl
  | sl=>obtain⟨s,n,f,e,rfl,h3⟩:=z0m.1 h2;cases h3;show ob (mkN n) _=_;rw[zay];rfl
  | arr n=>cases h2;show ob (mkN n) _=_;rw[zay];rfl
  | map=>cases h2
 | max xs =>
  obtain⟨a,h1,h2⟩:=zb.1 h
  show ob (z14 E xs) _=_
  rw[h1,za]
  cases a with
  | nil=>cases h2
  | cons a as=>show ob (foldL max2L as a) _=_;rw[z9r h2];rfl
 | min xs =>
  obtain⟨a,h1,h2⟩:=zb.1 h
  show ob (z14 E xs) _=_
  rw[h1,za]
  cases a with
  | nil=>cases h2
  | cons a as=>show ob (foldL min2L as a) _=_;rw[z9s h2];rfl
 | _=>cases h
def I64(n:Int):Prop:=-9223372036854775808<=n /\ n<=9223372036854775807
theorem z4a{n:Int}(h:I64 n):IntKind.wrap .i64 n=n:=by
 unfold I64 at h
 have:=z2v .i64 n
 rw[<-this]
 unfold wr isI64 inI64
 cases n with
 | ofNat m =>
  show ifb (Nat.ble m 9223372036854775807) _ _=_
  have:Nat.ble m 9223372036854775807=true:=by rw[Nat.ble_eq];have:(m:Int)<=_:=h.2;omega
  rw[this];rfl
 | negSucc m =>
  show ifb (Nat.ble m 9223372036854775807) _ _=_
  have:Nat.ble m 9223372036854775807=true:=by rw[Nat.ble_eq];have:=h.1;omega
  rw[this];rfl
variable {x y:XO} {a b:Int}
theorem zsi(hx:xval E x=some (.int .i64 a))(hy:xval E y=some (.int .i64 b))(h:-9223372036854775808<=a+b /\ a+b<=9223372036854775807):zm P (.bin .add x y) E M=some (.val (.int .i64 (a+b)) M):=by
 refine z1e ?_ M
 show ob (xval E x) _=_
 rw[hx,za,hy]
 show some (LV.int .i64 (IntKind.wrap .i64 (a+b)))=_
 rw[z4a h]
theorem zsy(hx:xval E x=some (.int .i64 a))(hy:xval E y=some (.int .i64 b))(h:-9223372036854775808<=a - b /\ a - b<=9223372036854775807):zm P (.bin .sub x y) E M=some (.val (.int .i64 (a - b)) M):=by
 refine z1e ?_ M
 show ob (xval E x) _=_
 rw[hx,za,hy]
 show some (LV.int .i64 (IntKind.wrap .i64 (a - b)))=_
 rw[z4a h]
theorem zsp(hx:xval E x=some (.int .i64 a))(hy:xval E y=some (.int .i64 b))(h:-9223372036854775808<=a*b /\ a*b<=9223372036854775807):zm P (.bin .mul x y) E M=some (.val (.int .i64 (a*b)) M):=by
 refine z1e ?_ M
 show ob (xval E x) _=_
 rw[hx,za,hy]
 show some (LV.int .i64 (IntKind.wrap .i64 (a*b)))=_
 rw[z4a h]
theorem zsr(hx:xval E x=some (.int .i64 a))(h:-9223372036854775808<=-a /\ -a<=9223372036854775807):zm P (.un .neg x) E M=some (.val (.int .i64 (-a)) M):=by
 refine z1e ?_ M
 show ob (xval E x) _=_
 rw[hx]
 show some (LV.int .i64 (IntKind.wrap .i64 (0 - a)))=_
 rw[Int.zero_sub,z4a h]
theorem zem{b:Int}(h:b ≠ 0):izero b=false:=by unfold izero;rw[z4u];simpa using h
theorem zk2(hx:xval E x=some (.int .i64 a))(hy:xval E y=some (.int .i64 b))(hb:b ≠ 0)(h:-9223372036854775808<=a.tdiv b /\ a.tdiv b<=9223372036854775807):zm P (.bin .quo x y) E M=some (.val (.int .i64 (a.tdiv b)) M):=by
 show ob (xval E x) _=_
 rw[hx,za,hy,za]
 show guard' true (ob (guard' true (ifb (izero b) none (mkI .i64 (wr .i64 (a.tdiv b))))) _)=_
 rw[zd,zd,zem hb,zh,z1a,z2v,z4a h];rfl
theorem zk3(hx:xval E x=some (.int .i64 a))(hy:xval E y=some (.int .i64 b))(hb:b ≠ 0):zm P (.bin .rem x y) E M=some (.val (.int .i64 (a.tmod b)) M):=by
 show ob (xval E x) _=_
 rw[hx,za,hy,za]
 show guard' true (ob (guard' true (ifb (izero b) none (mkI .i64 (a.tmod b)))) _)=_
 rw[zd,zd,zem hb,zh,z1a];rfl
theorem zss(hx:xval E x=some (.int .i64 a))(hy:xval E y=some (.int .i64 b))(ha:0<=a /\ a<=9223372036854775807)(hb:0 < b):zm P (.bin .quo x y) E M=some (.val (.int .i64 (a / b)) M):=by
 have e:a.tdiv b=a / b:=Int.tdiv_eq_ediv_of_nonneg ha.1
 have h1:0<=a / b:=Int.ediv_nonneg ha.1 (by omega)
 have h2:a / b<=a:=Int.ediv_le_self b ha.1
 rw[<-e]
 exact zk2 hx hy (by omega) (by rw[e];omega)
theorem zst(hx:xval E x=some (.int .i64 a))(hy:xval E y=some (.int .i64 b))(ha:0<=a)(hb:b ≠ 0):zm P (.bin .rem x y) E M=some (.val (.int .i64 (a % b)) M):=by
 rw[<-Int.tmod_eq_emod_of_nonneg ha]
 exact zk3 hx hy hb
