/-
 Rules by which a function's code is walked: the code with its types worked in. No condition.
-/
import Derived.Test.YtpgalhbplcanhaaGreatDoorPvB
import Derived.Test.YtpgalhbplcanhaaGreatDoorPvE
import Derived.Test.YtpgalhbplcanhaaGreatDoorPvA
set_option linter.unusedVariables false
section
namespace PvL
open Go
section
variable {P:Program}
structure Cn (R:Nat->Task->Option Out) (L:Task->Option Out) {α:Type} (F:(Task->Option Out)->Option α):Prop where
 up:∀ o,F L=some o->∃ n,∀ k,n<=k->F (R k)=some o
section
variable {R:Nat->Task->Option Out} {L:Task->Option Out} {α β:Type}
theorem Cn.const(x:Option α):Cn R L (fun _=>x):=⟨fun _ h=>⟨0,fun _ _=>h⟩⟩
theorem Cn.bind{F:(Task->Option Out)->Option α}{G:α->(Task->Option Out)->Option β}(e:Cn R L F)(g:∀ a,Cn R L (G a)) :
  Cn R L (fun r=>ob (F r) fun a=>G a r):=⟨fun o h=>by
 obtain⟨a,c,d⟩:=z9.1 h
 obtain⟨n,p⟩:=e.up _ c
 obtain⟨m,j⟩:=(g a).up _ d
 exact⟨max n m,fun k s=>by show ob (F (R k)) _=_;rw[p k (by omega)];exact j k (by omega)⟩⟩
theorem Cn.code{F:(Task->Option Out)->Option Out}{G:Ex->Tm->List Dfr->Mem->(Task->Option Out)->Option Out}(c:Cn R L F)(d:∀ e T ms m,Cn R L (G e T ms m)) :
  Cn R L (fun r=>z11 (F r) fun e T ms m=>G e T ms m r):=by
 refine Cn.bind (G:=fun o r=>outE o (fun e T ms m=>G e T ms m r) (fun _ _=>none) (fun v T ms m=>some (.boom v T ms m)) (fun _ _=>none)) c fun o=>?_
 cases o with
 | code e T ms m=>exact d e T ms m
 | boom v T ms m=>exact Cn.const _
 | _=>exact Cn.const none
theorem Cn.frame{F:(Task->Option Out)->Option Out}{G:Ex->Tm->List Dfr->Mem->(Task->Option Out)->Option β}{B:LV->Tm->List Dfr->Mem->(Task->Option Out)->Option β}(d:Cn R L F)(g:∀ e T ms m,Cn R L (G e T ms m))(c:∀ e T ms m,Cn R L (B e T ms m)) :
  Cn R L (fun r=>z1k (F r) (fun e T ms m=>G e T ms m r) (fun v T ms m=>B v T ms m r)):=by
 refine Cn.bind (G:=fun o r=>outE o (fun e T ms m=>G e T ms m r) (fun _ _=>none) (fun v T ms m=>B v T ms m r) (fun _ _=>none)) d fun o=>?_
 cases o with
 | code e T ms m=>exact g e T ms m
 | boom v T ms m=>exact c v T ms m
 | _=>exact Cn.const none
theorem Cn.call{F:(Task->Option Out)->Option Out}{G:LV->Mem->(Task->Option Out)->Option β}(c:Cn R L F)(d:∀ v m,Cn R L (G v m)) :
  Cn R L (fun r=>z1v (F r) fun v m=>G v m r):=by
 refine Cn.bind (G:=fun o r=>outE o (fun _ _ _ _=>none) (fun v m=>G v m r) (fun _ _ _ _=>none) (fun _ _=>none)) c fun o=>?_
 cases o with
 | call v m=>exact d v m
 | _=>exact Cn.const none
theorem Cn.callD{F:(Task->Option Out)->Option Out}{G D:LV->Mem->(Task->Option Out)->Option β}(d:Cn R L F)(e:∀ v m,Cn R L (G v m))(c:∀ v m,Cn R L (D v m)) :
  Cn R L (fun r=>z15 (F r) (fun v m=>G v m r) (fun v m=>D v m r)):=by
 refine Cn.bind (G:=fun o r=>outE o (fun _ _ _ _=>none) (fun v m=>G v m r) (fun _ _ _ _=>none) (fun v m=>D v m r)) d fun o=>?_
 cases o with
 | call v m=>exact e v m
 | die v m=>exact c v m
 | _=>exact Cn.const none
theorem Cn.orElse{A:(Task->Option Out)->Option α}{B:(Task->Option Out)->Option β}{K:α->Option β}(j:Cn R L A)(p:Cn R L B)(e:∀ r q,B r=some q->A r=none) :
  Cn R L (fun r=>oe (A r) (B r) K):=⟨fun o h=>by
 cases g:A L with
 | some a=>
  rw[g] at h
  obtain⟨n,d⟩:=j.up _ g
  exact⟨n,fun k c=>by show oe (A (R k)) _ _=_;rw[d k c];exact h⟩
 | none=>
  rw[g] at h
  obtain⟨n,d⟩:=p.up _ (show B L=some o from h)
  exact⟨n,fun k c=>by show oe (A (R k)) _ _=_;rw[e _ _ (d k c)];exact d k c⟩⟩
theorem Cn.ex{e:Ex}{A B:(Task->Option Out)->Option α}{C:Nat->(Task->Option Out)->Option α}(c:Cn R L A)(d:Cn R L B)(g:∀ i,Cn R L (C i)) :
  Cn R L (fun r=>exE e (A r) (B r) (fun i=>C i r)):=by
 cases e with
 | norm=>exact c
 | ret=>exact d
 | exit i=>exact g i
theorem Cn.ifb{b:Bool}{A B:(Task->Option Out)->Option α}(c:Cn R L A)(d:Cn R L B):Cn R L (fun r=>ifb b (A r) (B r)):=by
 cases b
 ·exact d
 ·exact c
theorem Cn.ob{x:Option α}{G:α->(Task->Option Out)->Option β}(h:∀ a,Cn R L (G a)):Cn R L (fun r=>ob x fun a=>G a r):=Cn.bind (Cn.const x) h
theorem Cn.guard{b:Bool}{A:(Task->Option Out)->Option α}(c:Cn R L A):Cn R L (fun r=>guard' b (A r)):=by
 cases b
 ·exact Cn.const none
 ·exact c
theorem Cn.asBool{v:LV}{G:Bool->(Task->Option Out)->Option β}(h:∀ a,Cn R L (G a)):Cn R L (fun r=>asBool v fun b=>G b r):=by
 cases v with
 | bool b=>exact h b
 | _=>exact Cn.const none
end
set_option linter.unusedSectionVars false
section step
variable {R:Nat->Task->Option Out} {L:Task->Option Out} (hr:∀ t,Cn R L (fun r=>r t))
include hr
theorem zog{α:Type}(T:Tm)(dst:Option Tmp)(x:R1)(k:Tm->Mem->(Task->Option Out)->Option α)(d:∀ T m,Cn R L (k T m)) :
  Cn R L (fun r=>opFin r T dst x fun T m=>k T m r):=by
 cases x with
 | val v m=>exact Cn.ob fun T=>d T m
 | skip m=>exact Cn.ob fun T=>d T m
 | enter f c m=>exact Cn.call (hr _) fun v m=>Cn.ob fun T=>d T m
 | round l c m=>exact Cn.call (hr _) fun v m=>Cn.ob fun T=>d T m
 | boom v m=>exact Cn.const none
theorem ze3{α:Type}(T:Tm)(m:Mem)(op:Op)(dst:Option Tmp)(k:Tm->Mem->(Task->Option Out)->Option α)(c:∀ T m,Cn R L (k T m)) :
  Cn R L (fun r=>opFull P r T m op dst fun T m=>k T m r):=Cn.ob fun x=>zog hr T dst x k c
theorem z31(ro:Option Nat)(all:List Oper):∀(e:List Oper) (T:Tm) (ms:List Dfr) (m:Mem),Cn R L (fun r=>z0c P ro r all e T ms m)
 | [],T,ms,m=>Cn.const _
 |⟨dst,op,h,j,p,g⟩::e,T,ms,m=>by
  refine Cn.ob fun w=>Cn.ifb ?_ (Cn.ob fun T=>z31 ro all e T ms m)
  cases s:isDefer op with
  | none=>
   refine Cn.ob (x:=opA P op T m) fun x=>?_
   cases x with
   | val v m=>exact Cn.ob fun T=>z31 ro all e T ms m
   | skip m=>exact Cn.ob fun T=>z31 ro all e T ms m
   | enter f args m=>exact Cn.callD (hr _) (fun v m=>Cn.ob fun T=>z31 ro all e T ms m) fun v m=>Cn.const _
   | round l args m=>exact Cn.callD (hr _) (fun v m=>Cn.ob fun T=>z31 ro all e T ms m) fun v m=>Cn.const _
   | boom v m=>exact Cn.const _
  | some c=>exact Cn.guard (Cn.ob fun d=>Cn.ob fun T=>z31 ro all e T (d::ms) m)
theorem z74(all:List Oper)(ds:List Nat):∀(c:List Oper) (i:Nat) (s:DS),Cn R L (fun r=>z04 P r all ds c i s)
 | [],i,s=>Cn.const _
 | o::c,i,⟨T,m,st,k,d⟩=>by
  unfold z04
  refine Cn.ob fun e=>Cn.ifb ?_ ?_
  ·refine ze3 hr T m o.op o.dst _ fun T m=>?_
   cases cls P o.op<;>exact z74 all ds c _ _
  ·refine Cn.ob fun T=>?_
   cases cls P o.op<;>exact z74 all ds c _ _
theorem z3x(all:List Oper)(ds:List Nat)(d:Nat):∀(c:List Oper) (i:Nat) (s:DS),Cn R L (fun r=>z0k P r all ds d c i s)
 | [],i,s=>Cn.const _
 | o::c,i,⟨T,m,st,k,e⟩=>by
  unfold z0k
  refine Cn.ifb ?_ ?_
  ·refine Cn.ob fun T=>?_
   cases cls P o.op<;>exact z3x all ds d c _ _
  ·refine Cn.ob fun g=>Cn.ifb ?_ ?_
   ·refine ze3 hr T m o.op o.dst _ fun T m=>?_
    cases cls P o.op<;>first|exact Cn.const none|exact z3x all ds d c _ _
   ·refine Cn.ob fun T=>?_
    cases cls P o.op<;>first|exact Cn.const none|exact z3x all ds d c _ _
theorem z2q(all:List Oper)(ds:List Nat):∀(c:List Oper) (i:Nat) (s:DS),Cn R L (fun r=>z0a P r all ds c i s)
 | [],i,s=>Cn.const _
 | o::c,i,⟨T,m,st,k,h⟩=>by
  unfold z0a
  refine Cn.ob fun j=>Cn.ifb (Cn.ob (x:=op1 P o.op T m) fun x=>?_) ?_
  ·cases x with
   | val v m=>refine Cn.ob fun T=>?_;cases cls P o.op<;>exact z2q all ds c _ _
   | skip m=>refine Cn.ob fun T=>?_;cases cls P o.op<;>exact z2q all ds c _ _
   | enter f args e=>
    refine Cn.callD (hr _) (fun v m=>Cn.ob fun T=>?_) fun v g=>Cn.guard (Cn.ob fun T'=>Cn.bind (z3x hr all ds i c _ _) fun d=>Cn.const _)
    cases cls P o.op<;>exact z2q all ds c _ _
   | round l args m=>refine Cn.call (hr _) fun v m=>Cn.ob fun T=>?_;cases cls P o.op<;>exact z2q all ds c _ _
   | boom v m=>exact Cn.const none
  ·refine Cn.ob fun T=>?_
   cases cls P o.op<;>exact z2q all ds c _ _
omit hr in
theorem z5u(r:Task->Option Out)(all:List Oper)(ds:List Nat):∀(e:List Oper) (i:Nat) (s:DS) (q:LV×Mem×DS),z0a P r all ds e i s=some q->z04 P r all ds e i s=none
 | [],i,s,q,h=>by cases h
 | o::e,i,⟨T,m,st,k,g⟩,q,h=>by
  unfold z0a at h
  unfold z04
  obtain⟨J,H,h⟩:=z9.1 h
  rw[H]
  cases J with
  | false=>
   obtain⟨d,B,j⟩:=z9.1 (show ob (T.put o.dst z00) _=some q from h)
   show ob (T.put o.dst z00) _=none
   rw[B]
   cases C:cls P o.op<;>simp only[C] at j ⊢<;>exact z5u r all ds e _ _ q j
  | true=>
   rw[zq] at h
   obtain⟨x,B,j⟩:=z9.1 h
   show ob (op1 P o.op T m) _=none
   rw[B]
   have go:∀(v:LV) (c:Mem),(ob (T.put o.dst v) fun d=>(match cls P o.op with
     | .mover=>z0a P r all ds e (i+1) ⟨d,c,st,k,ifb (z0o o.op) ({ op:=o.op,T:=T,v:=dstV d o.dst,lo:=z0s P (ds.getD i 0) all 0,hi:=z07 P i all ds }::g) g⟩
     | .new=>z0a P r all ds e (i+1) ⟨d,c,st,k,g⟩
     | .calm=>z0a P r all ds e (i+1) ⟨d,c,st,k,g⟩
     | .anchor=>z0a P r all ds e (i+1) ⟨d,c,c::st,k+1,g⟩))=some q->(ob (T.put o.dst v) fun d=>(match cls P o.op with
     | .mover=>z04 P r all ds e (i+1) ⟨d,c,st,k,ifb (z0o o.op) ({ op:=o.op,T:=T,v:=dstV d o.dst,lo:=z0s P (ds.getD i 0) all 0,hi:=z07 P i all ds }::g) g⟩
     | .new=>z04 P r all ds e (i+1) ⟨d,c,st,k,g⟩
     | .calm=>z04 P r all ds e (i+1) ⟨d,c,st,k,g⟩
     | .anchor=>z04 P r all ds e (i+1) ⟨d,c,c::st,k+1,g⟩))=none:=by
    intro v c G
    obtain⟨d,z,p⟩:=z9.1 G
    rw[z]
    show(match cls P o.op with
     | .mover=>z04 P r all ds e (i+1) ⟨d,c,st,k,ifb (z0o o.op) ({ op:=o.op,T:=T,v:=dstV d o.dst,lo:=z0s P (ds.getD i 0) all 0,hi:=z07 P i all ds }::g) g⟩
     | .new=>z04 P r all ds e (i+1) ⟨d,c,st,k,g⟩
     | .calm=>z04 P r all ds e (i+1) ⟨d,c,st,k,g⟩
     | .anchor=>z04 P r all ds e (i+1) ⟨d,c,c::st,k+1,g⟩)=none
    cases C:cls P o.op<;>simp only[C] at p ⊢<;>exact z5u r all ds e _ _ q p
   cases x with
   | val v c=>exact go v c j
   | skip c=>exact go z00 c j
   | enter f w A=>
    show z1v (r (.call f w A)) _=none
    obtain⟨F,z,p⟩:=z9.1 (show ob (r (.call f w A)) _=some q from j)
    rw[z]
    cases F with
    | call v c=>exact go v c p
    | _=>rfl
   | round l w A=>
    show z1v (r (.round l w A)) _=none
    obtain⟨F,z,p⟩:=z9.1 (show ob (r (.round l w A)) _=some q from j)
    rw[z]
    cases F with
    | call v c=>exact go v c p
    | _=>rfl
   | boom v c=>cases j
theorem z67{α:Type}(m:Mem)(i:Nat)(k:LoopState->Option Code->FuncId->Tm->List Tmp->Code->Code->Nat->(Task->Option Out)->Option α)(j:∀ a b c d e f g h,Cn R L (k a b c d e f g h)):Cn R L (fun r=>atLoop m i fun a b c d e f g h=>k a b c d e f g h r):=by
 unfold atLoop
 refine Cn.ob fun b=>?_
 cases b<;>first|exact j _ _ _ _ _ _ _ _|exact Cn.const none
theorem zcw{α:Type}(m:Mem)(i:Nat)(k:(Task->Option Out)->Option α)(c:Cn R L k):Cn R L (fun r=>atDefr m i (k r)):=by
 unfold atDefr
 refine Cn.ob fun b=>?_
 cases b<;>first|exact c|exact Cn.const none
theorem zqz{α:Type}(v:LV)(k:FuncId->List LV->List LV->(Task->Option Out)->Option α)(d:∀ a b c,Cn R L (k a b c)):Cn R L (fun r=>asFn v fun a b c=>k a b c r):=by
 cases v with
 | func fn a b=>cases fn<;>first|exact d _ _ _|exact Cn.const none
 | _=>exact Cn.const none
theorem zov(fn:FuncId)(ro:Option Nat)(l:Nat)(T:Tm)(ms:List Dfr)(m:Mem):Cn R L (fun r=>rfEnd r fn ro l T ms m):=by
 refine z67 hr m l _ fun st d e h g j p s=>?_
 cases st with
 | busy=>exact Cn.const none
 | _=>
  cases d with
  | none=>exact Cn.const _
  | some c=>exact hr _
theorem ze8(fn:FuncId)(ro:Option Nat)(f:Operand)(c:Array Tmp)(a b:Code)(d:Nat)(T:Tm)(ms:List Dfr)(m:Mem):Cn R L (fun r=>rfCall r fn ro f c a b d T ms m):=by
 unfold rfCall
 simp only[Mem.new_eq]
 refine Cn.ob fun f=>zqz hr f _ fun g h e=>Cn.callD (hr _) (fun _ m=>zov hr fn ro _ T ms m) fun v m=>Cn.const _
theorem zd1(ops:Array Oper)(T:Tm)(ms:List Dfr)(m:Mem):Cn R L (fun r=>cDrawG P r ops T ms m) :=
 Cn.orElse (z74 hr _ _ _ _ _) (Cn.bind (z2q hr _ _ _ _ _) fun q=>Cn.const _) fun r q h=>by
  obtain⟨a,c,_⟩:=z9.1 h
  exact z5u r _ _ _ _ _ _ c
theorem zmd(fn:FuncId)(ro:Option Nat)(c:Code)(T:Tm)(ms:List Dfr)(m:Mem):Cn R L (fun r=>stCode P r fn ro c T ms m):=by
 cases c with
 | seq a b=>exact Cn.code (hr _) fun e T ms m=>Cn.ex (hr _) (Cn.const _) fun i=>Cn.const _
 | cond x a b=>exact Cn.ob fun c=>Cn.asBool fun c=>Cn.ifb (hr _) (hr _)
 | block id b=>exact Cn.code (hr _) fun e T ms m=>Cn.ex (Cn.const _) (Cn.const _) fun i=>Cn.ifb (Cn.const _) (Cn.const _)
 | scope b=>exact hr _
 | loop b=>exact Cn.code (hr _) fun e T ms m=>Cn.ex (hr _) (Cn.const _) fun i=>Cn.const _
 | region _ ops g=>
  show Cn R L (fun r=>(ifb g (cDraw P r ops) (cRegion P r ro ops)) T ms m)
  cases g with
  | false=>exact z31 hr _ _ _ T ms m
  | true=>exact Cn.ifb (zd1 hr ops T ms m) (Cn.guard (zd1 hr _ T ms m))
 | rangeFunc f h a b=>
  show Cn R L (fun r=>cRangeFunc r fn ro f h a b T ms m)
  unfold cRangeFunc
  cases ro with
  | none=>
   simp only[z47,Mem.new_eq]
   exact ze8 hr _ _ _ _ _ _ _ _ _ _
  | some l=>exact z67 hr m l _ fun _ _ _ _ _ _ _ d=>ze8 hr _ _ _ _ _ _ _ _ _ _
 | _=>exact Cn.const _
theorem zdi(f:FuncId)(g:List LV)(pv:LV)(m:Mem):Cn R L (fun r=>dfrRun P r f g pv m):=by
 refine Cn.ob fun fn=>Cn.ob fun T=>Cn.ob fun c=>Cn.ob fun q=>?_
 obtain⟨d,e,c⟩:=q
 exact Cn.ob fun T=>Cn.ob fun T=>Cn.guard (Cn.frame (hr _) (fun e T ms m=>Cn.const _) fun v T ms m=>Cn.const _)
theorem z4o(fn:Func)(T:Tm):∀(ds:List Dfr) (m:Mem),Cn R L (fun r=>finRet P r fn T ds m)
 | [],_=>Cn.const _
 | .mark d::ds,m=>zcw hr m d _ (z4o fn T ds _)
 | .call f c::ds,m=>Cn.bind (zdi hr f c _ m) fun m=>z4o fn T ds m
theorem zdo(fn:Func)(T:Tm)(v:LV):∀(ds:List Dfr) (m:Mem),Cn R L (fun r=>finDie P r fn T v ds m)
 | [],_=>Cn.const _
 | .mark d::ds,m=>zcw hr m d _ (zdo fn T v ds _)
 | .call f c::ds,m=>Cn.bind (zdi hr f c _ m) fun m=>z4o hr fn T ds m
theorem zcj(t:Task):Cn R L (fun r=>stepT P r t):=by
 cases t with
 | code fn ro c T ms m=>exact zmd hr fn ro c T ms m
 | call f d m=>
  exact Cn.ob fun fn=>Cn.ob fun T=>Cn.ob fun c=>Cn.frame (hr _) (fun e T ms m=>Cn.ex (z4o hr fn T ms m) (z4o hr fn T ms m) fun _=>Cn.const _) fun v T ms m=>zdo hr fn T v ms m
 | round l d m=>
  refine z67 hr m l _ fun st _ fn C B assign g _=>?_
  cases st with
  | ready=>
   refine Cn.ob fun T=>Cn.frame (hr _) (fun e T ms m=>?_) fun _ _ _ _=>Cn.const _
   cases e with
   | norm=>
    refine z67 hr m l _ fun st h j s p w z A=>?_
    cases st with
    | ready=>exact Cn.frame (hr _) (fun e _ _ m=>Cn.const _) fun v T ms m=>Cn.const _
    | _=>exact Cn.const none
   | _=>exact Cn.const none
  | _=>exact Cn.const none
end step
class Orc (P:Program) where
 ask:FuncId->List LV->Mem->Option LV
variable [Orc P]
noncomputable def stepO(P:Program)[Orc P](rec:Task->Option Out)(t:Task):Option Out :=
 match t with
 | .call f as m=>match Orc.ask P f as m with|some v=>some (.call v m)|none=>stepT P rec (.call f as m)
 | .code f r c T ms m=>stepT P rec (.code f r c T ms m)
 | .round l as m=>stepT P rec (.round l as m)
theorem zci{R:Nat->Task->Option Out}{L:Task->Option Out}(hr:∀ t,Cn R L (fun r=>r t))(t:Task):Cn R L (fun r=>stepO P r t):=by
 cases t with
 | call f d m=>
  cases h:Orc.ask P f d m with
  | some v=>
   have e:(fun r=>stepO P r (.call f d m))=fun _=>some (.call v m):=by
    funext r;show(match Orc.ask P f d m with|some v=>some (Out.call v m)|none=>stepT P r (.call f d m))=_;rw[h]
   rw[e];exact Cn.const _
  | none=>
   have e:(fun r=>stepO P r (.call f d m))=fun r=>stepT P r (.call f d m):=by
    funext r;show(match Orc.ask P f d m with|some v=>some (Out.call v m)|none=>stepT P r (.call f d m))=_;rw[h]
   rw[e];exact zcj hr _
 | code f r c T ms m=>exact zcj hr _
 | round l d m=>exact zcj hr _
noncomputable def runO(P:Program)[Orc P]:Nat->Task->Option Out
 | 0=>fun _=>none
 | n+1=>fun t=>stepO P (runO P n) t
theorem zhi:∀(n:Nat) (t:Task) (o:Out),runO P n t=some o->∀ k,n<=k->runO P k t=some o
 | 0,_,_,h,_,_=>by cases h
 | n+1,t,o,h,k,c=>by
  obtain⟨k,rfl⟩:∃ j,k=j+1:=⟨k-1,by omega⟩
  have c:n<=k:=by omega
  obtain⟨N,d⟩:=(zci (P:=P) (R:=fun j=>if j=0 then runO P n else runO P k) (L:=runO P n)
   (fun t=>⟨fun o e=>⟨1,fun j g=>by show(if j=0 then runO P n else runO P k) t=_;rw[if_neg (by omega)];exact zhi n t o e k c⟩⟩) t).up o h
  have:=d (max N 1) (by omega)
  rw[if_neg (by omega)] at this
  exact this
open Classical in
noncomputable def om(P:Program)[Orc P](t:Task):Option Out:=if h:∃ o n,runO P n t=some o then some h.choose else none
theorem z9q{t:Task}{o:Out}:om P t=some o ↔ ∃ n,runO P n t=some o:=by
 unfold om
 constructor
 ·intro h
  split at h
  ·rename_i c
   cases h
   exact c.choose_spec
  ·cases h
 ·rintro⟨n,e⟩
  have c:∃ o n,runO P n t=some o:=⟨o,n,e⟩
  rw[dif_pos c]
  obtain⟨m,j⟩:=c.choose_spec
  have g:=zhi n t o e (max n m) (by omega)
  have d:=zhi m t _ j (max n m) (by omega)
  rw[g] at d
  exact d.symm
theorem ziy{t:Task}{o:Out}(h:stepO P (om P) t=some o):om P t=some o:=by
 obtain⟨n,c⟩:=(zci (P:=P) (R:=runO P) (L:=om P) (fun t=>⟨fun o e=>by
  obtain⟨n,c⟩:=z9q.1 e
  exact⟨n,fun k d=>zhi n t o c k d⟩⟩) t).up o h
 exact z9q.2 ⟨n+1,c n (Nat.le_refl _)⟩
theorem zhf(t:Task):om P t=stepO P (om P) t:=by
 cases h:stepO P (om P) t with
 | some o=>exact ziy h
 | none=>
  cases d:om P t with
  | none=>rfl
  | some o=>
   obtain⟨n,c⟩:=z9q.1 d
   cases n with
   | zero=>cases c
   | succ n=>
    obtain⟨N,e⟩:=(zci (P:=P) (R:=fun _=>om P) (L:=runO P n) (fun t=>⟨fun o g=>⟨0,fun _ _=>z9q.2 ⟨n,g⟩⟩⟩) t).up o c
    rw[e N (Nat.le_refl _)] at h
    cases h
theorem z50(f:FuncId)(r:Option Nat)(c:Code)(T:Tm)(ms:List Dfr)(m:Mem):om P (.code f r c T ms m)=stepT P (om P) (.code f r c T ms m):=zhf _
theorem zof(l:Nat)(c:List LV)(m:Mem):om P (.round l c m)=stepT P (om P) (.round l c m):=zhf _
theorem zfo{f:FuncId}{c:List LV}{m:Mem}(h:Orc.ask P f c m=none):om P (.call f c m)=stepT P (om P) (.call f c m):=by
 rw[zhf];show(match Orc.ask P f c m with|some v=>some (Out.call v m)|none=>stepT P (om P) (.call f c m))=_;rw[h]
theorem zvd{f:FuncId}{c:List LV}{v:LV}{m:Mem}(h:Orc.ask P f c m=some v):om P (.call f c m)=some (.call v m):=by
 rw[zhf];show(match Orc.ask P f c m with|some v=>some (Out.call v m)|none=>stepT P (om P) (.call f c m))=_;rw[h]
end
end PvL
end
section
namespace PvL
set_option linter.unusedSectionVars false
open Go
variable {n id mi since clk last:Nat} {ops:Array Oper} {f:FuncId} {gd:Option (Nat × Bool)} {seen bs:List Nat}
section
variable {P:Program}
structure OrcOk (P:Program) [Orc P]:Prop where
 fn:∀ f as m v,Orc.ask P f as m=some v->∃ fn,fnOf P f=some fn
 imp:∀ f as m v,Orc.ask P f as m=some v->∀ d,d<=3->z1i P d f=false
 sim:∀ f as m v,Orc.ask P f as m=some v->Sim P (.call f as m) (.call v m)
theorem z6s [Orc P](j:P.follows .mixedOrders=true)(z:OrcOk P):∀ n,Good P (runO P n)
 | 0=>⟨fun t o h=>(by cases h),fun t o h=>(by cases h),fun _ _ _ _ h=>(by cases h),fun d _=>⟨fun f _ args m o h=>by(cases h),fun c _ fn ro T ms m o h=>by(cases h)⟩⟩
 | n+1=>by
  have g:=z6s j z n
  have H:=zei g.mono g.sim g.fn (zgq j g.mono g.pure g.sim g.fn)
  have F:=zbk (P:=P) g.mono
  have p:∀ f e m o,runO P (n+1) (.call f e m)=some o->(∃ v,Orc.ask P f e m=some v/\o=.call v m)∨stepT P (runO P n) (.call f e m)=some o:=by
   intro f e m o h
   have h:(match Orc.ask P f e m with|some v=>some (Out.call v m)|none=>stepT P (runO P n) (.call f e m))=some o:=h
   cases w:Orc.ask P f e m with
   | none=>rw[w] at h;exact .inr h
   | some v=>rw[w] at h;cases h;exact .inl ⟨v,rfl,rfl⟩
  refine⟨fun t o h=>?_,fun t o h=>?_,fun f e J o h=>?_,fun d B=>⟨fun f N e m o h=>?_,fun c S fn ro T ms m o h=>(z52 g.pure d B).2 c S fn ro T ms m o h⟩⟩
  ·cases t with
   | code f r c T ms m=>exact F _ _ h
   | round l e m=>exact F _ _ h
   | call f e m=>
    rcases p f e m o h with⟨v,A,rfl⟩|h
    ·exact Nat.le_refl _
    ·exact F _ _ h
  ·cases t with
   | code f r c T ms m=>exact H _ _ h
   | round l e m=>exact H _ _ h
   | call f e m=>
    rcases p f e m o h with⟨v,A,rfl⟩|h
    ·exact z.sim f e m v A
    ·exact H _ _ h
  ·rcases p f e J _ h with⟨U,A,_⟩|h
   ·exact z.fn f e J U A
   ·obtain⟨fn,C,_⟩:=z9.1 (show stCall P (runO P n) f e J=some _ from h)
    exact⟨fn,C⟩
  ·have G:∀ M,Orc.ask P f e M=none:=fun M=>by
    cases w:Orc.ask P f e M with
    | none=>rfl
    | some v=>have:=z.imp f e M v w d B;rw[N] at this;cases this
   have s:∀ M,runO P (n+1) (.call f e M)=stepT P (runO P n) (.call f e M):=fun M=>by
    show(match Orc.ask P f e M with|some v=>some (Out.call v M)|none=>stepT P (runO P n) (.call f e M))=_
    rw[G M]
   rw[s] at h
   obtain⟨v,O,Q⟩:=(z52 g.pure d B).1 f N e m o h
   exact⟨v,O,fun M=>by rw[s];exact Q M⟩
structure OmOk (P:Program) [Orc P]:Prop where
 mono:z0n (om P)
 sim:RecSim P (om P)
 fn:RecFn P (om P)
theorem zxn [Orc P](hmix:P.follows .mixedOrders=true)(ho:OrcOk P):OmOk P where
 mono:=fun t o h=>by obtain⟨n,hn⟩:=z9q.1 h;exact(z6s hmix ho n).mono _ _ hn
 sim:=fun t o h=>by obtain⟨n,hn⟩:=z9q.1 h;exact(z6s hmix ho n).sim _ _ hn
 fn:=fun f as m o h=>by obtain⟨n,hn⟩:=z9q.1 h;exact(z6s hmix ho n).fn _ _ _ _ hn
def FreshA (ρ:Rho)(n:Nat):Prop:=∀ i,n<=i->ρ i=none
theorem FreshA.fresh {ρ:Rho}(h:FreshA ρ n)(m:Nat):Fresh ρ n m:=fun i c _=>h i c
theorem FreshA.same {ρ c:Rho}{m:Nat}(h:FreshA ρ n)(g:Same ρ c n m)(e:n<=m):FreshA c m:=fun i d=>by rw[g.2 i (.inr d)];exact h i (by omega)
def OutG (K:Ex->Tm->List Dfr->Mem->Prop)(D:LV->Tm->List Dfr->Mem->Prop):Out->Prop
 | .code e T ms m=>K e T ms m
 | .boom v T ms m=>D v T ms m
 | _=>False
def CodeE (P:Program)(fn:FuncId)(ro:Option Nat)(c:Code)(T:Tm)(ms:List Dfr)(m:Mem)(K:Ex->Tm->List Dfr->Mem->Prop)(D:LV->Tm->List Dfr->Mem->Prop):Prop :=
 ∀(Pt:Prot) (d:Rho) (b:Frame) (k:List Item) (e:List Frame) (w:World) (a:Act),b.fn=fn->RO d ro b.roundOf->TR d T a.tmps->DR d ms a.defers->Rel Pt d m w->FreshA d m.next ->
  ∃ o,OutG K D o/\m.next<=o.mem.next/\CodeOut P Pt d m.next (lone (b.atR a (.code c::k)) e w) b k e o
def CallE (P:Program)(f:FuncId)(s:List LV)(m:Mem)(Q D:LV->Mem->Prop):Prop :=
 ∀(Pt:Prot) (h:Rho) (w:World) (e:Array Value) (p:List Frame),VRs h s e.toList->GlobOk h->Rel Pt h m w->FreshA h m.next ->
  (∃ v d,Q v d/\m.next<=d.next /\ ∃ c j g,Same h c m.next d.next/\VR c v j/\Rel Pt c d g /\ ∃ fr,Steps P (lone (Frame.enter P f e .normal) p w) (lone fr p g)/\fr.fn=f/\fr.leaving P g (.returned j)) ∨
  (∃ v d,D v d/\m.next<=d.next /\ ∃ c j g,Same h c m.next d.next/\VR c v j/\Rel Pt c d g /\ ∃ fr,Steps P (lone (Frame.enter P f e .normal) p w) (lone fr p g)/\fr.fn=f/\fr.leaving P g (.panicked [{ v:=j,recovered:=false }]))
def OpsE (P:Program)(ops:Array Oper)(ro:Option Nat)(i n:Nat)(T:Tm)(ms:List Dfr)(m:Mem)(K:Ex->Tm->List Dfr->Mem->Prop)(D:LV->Tm->List Dfr->Mem->Prop):Prop :=
 ∀(Pt:Prot) (c:Rho) (b:Frame) (k:List Item) (d:List Frame) (w:World) (a:Act),RO c ro b.roundOf->TR c T a.tmps->DR c ms a.defers->Rel Pt c m w->FreshA c m.next ->
  ∃ o,OutG K D o/\m.next<=o.mem.next/\CodeOut P Pt c m.next (lone (b.atR a (.inRegion ops (List.range' i n)::k)) d w) b k d o
variable {fn:FuncId} {ro:Option Nat} {T:Tm} {ms:List Dfr} {m:Mem} {K:Ex->Tm->List Dfr->Mem->Prop} {D:LV->Tm->List Dfr->Mem->Prop}
theorem znq [Orc P](d:OmOk P){c:Code}{o:Out}(h:om P (.code fn ro c T ms m)=some o)(z:OutG K D o):CodeE P fn ro c T ms m K D:=fun Pt A b k e w a g j p s h5 v=>
 ⟨o,z,d.mono _ _ h,d.sim _ _ h Pt A b k e w a g j p s h5 (v.fresh _)⟩
theorem CodeE.mono {c:Code}{p:Ex->Tm->List Dfr->Mem->Prop}{j:LV->Tm->List Dfr->Mem->Prop}(h:CodeE P fn ro c T ms m K D)(J:∀ e T ms m,K e T ms m->p e T ms m)(H:∀ v T ms m,D v T ms m->j v T ms m):CodeE P fn ro c T ms m p j:=fun Pt N b k s w a z A B C h5 F=>by
 obtain⟨o,d,g,G⟩:=h Pt N b k s w a z A B C h5 F
 refine⟨o,?_,g,G⟩
 cases o with
 | code e T ms m=>exact J _ _ _ _ d
 | boom v T ms m=>exact H _ _ _ _ d
 | call _ _=>exact d
 | die _ _=>exact d
theorem OpsE.mono {i:Nat}{j:Ex->Tm->List Dfr->Mem->Prop}{g:LV->Tm->List Dfr->Mem->Prop}(h:OpsE P ops ro i n T ms m K D)(G:∀ e T ms m,K e T ms m->j e T ms m)(F:∀ v T ms m,D v T ms m->g v T ms m):OpsE P ops ro i n T ms m j g:=fun Pt H b k p w a s z A h5 B=>by
 obtain⟨o,c,d,C⟩:=h Pt H b k p w a s z A h5 B
 refine⟨o,?_,d,C⟩
 cases o with
 | code e T ms m=>exact G _ _ _ _ c
 | boom v T ms m=>exact F _ _ _ _ c
 | call _ _=>exact c
 | die _ _=>exact c
theorem CallE.mono {s:List LV}{Q D p j:LV->Mem->Prop}(h:CallE P f s m Q D)(H:∀ v m,Q v m->p v m)(G:∀ v m,D v m->j v m):CallE P f s m p j:=fun Pt J w c z A B C F=>
 (h Pt J w c z A B C F).imp (fun⟨v,g,d,e⟩=>⟨v,g,H _ _ d,e⟩) (fun⟨v,g,d,e⟩=>⟨v,g,G _ _ d,e⟩)
theorem zkc {x y:Code}(h:CodeE P fn ro x T ms m (fun e T ms m=>match e with | .norm=>CodeE P fn ro y T ms m K D | .ret=>K .ret T ms m | .exit id=>K (.exit id) T ms m) D):CodeE P fn ro (.seq x y) T ms m K D:=fun Pt ρ b k Q w a U G Z hd F V=>by
 obtain⟨o1,d,B,S⟩:=h Pt ρ b (Item.code y::k) Q w a U G Z hd F V
 cases o1 with
 | code e C j H=>
  obtain⟨A,J,O,g,p,s,z,c⟩:=S
  cases e with
  | norm=>
   obtain⟨o,ho,X,Y⟩:=(d:CodeE P fn ro y C j H K D) Pt A b k Q O J U (G.mono g.1) p s z (V.same g B)
   exact⟨o,ho,Nat.le_trans B X,Y.after (.head stepR_seq c) g B X⟩
  | ret=>
   obtain⟨N,c⟩:=c
   exact⟨.code .ret C j H,d,B,A,J,O,g,p,s,z,N,.head stepR_seq c⟩
  | exit id=>
   obtain⟨N,hk,c⟩:=c
   exact⟨.code (.exit id) C j H,d,B,A,J,O,g,p,s,z,N,hk,.head stepR_seq c⟩
 | boom v C j H=>exact⟨.boom v C j H,d,B,CodeOut.of_steps (.one stepR_seq) S.boomK⟩
 | call _ _=>exact d.elim
 | die _ _=>exact d.elim
theorem zia {x:Operand}{y z:Code}{q:Bool}(F:ev T x=some (.bool q))(h1:q=true->CodeE P fn ro y T ms m K D)(C:q=false->CodeE P fn ro z T ms m K D):CodeE P fn ro (.cond x y z) T ms m K D:=fun Pt B b k j w a p d e s c v=>by
 have A:=(zu e F).bool_inv
 cases q with
 | true=>
  obtain⟨o,g,n,h⟩:=h1 rfl Pt B b k j w a p d e s c v
  exact⟨o,g,n,h.of_steps (.one (stepR_cond A))⟩
 | false=>
  obtain⟨o,g,n,h⟩:=C rfl Pt B b k j w a p d e s c v
  exact⟨o,g,n,h.of_steps (.one (stepR_cond A))⟩
theorem zf7 {x:Code}(h:CodeE P fn ro x T ms m (fun e T ms m=>match e with | .norm=>K .norm T ms m | .ret=>K .ret T ms m | .exit i=>if i=id then K .norm T ms m else K (.exit i) T ms m) D):CodeE P fn ro (.block id x) T ms m K D:=fun Pt ρ b k Y w a hb S Z hd F hf=>by
 obtain⟨o1,d,G,V⟩:=h Pt ρ b (.inBlock id::k) Y w a hb S Z hd F hf
 cases o1 with
 | code e j g B=>
  obtain⟨C,H,N,A,p,s,z,c⟩:=V
  cases e with
  | norm=>exact⟨.code .norm j g B,d,G,C,H,N,A,p,s,z,.head stepR_block (Steps.trans c (.one stepR_inBlock))⟩
  | ret=>
   obtain⟨U,c⟩:=c
   exact⟨.code .ret j g B,d,G,C,H,N,A,p,s,z,U,.head stepR_block c⟩
  | exit i=>
   obtain⟨U,X,c⟩:=c
   have d:if i=id then K .norm j g B else K (.exit i) j g B:=d
   by_cases J:i=id
   ·rw[if_pos J] at d
    have Q:OutG K D (.code .norm j g B):=d
    subst J
    exact⟨.code .norm j g B,Q,G,C,H,N,A,p,s,z,.head stepR_block (Steps.trans c (.one (stepR_exit (by rw[X];simp[exitTo]))))⟩
   ·rw[if_neg J] at d
    have O:(id==i)=false:=by rw[beq_eq_false_iff_ne];exact fun e=>J e.symm
    exact⟨.code (.exit i) j g B,d,G,C,H,N,A,p,s,z,U,by rw[X];simp[exitTo,O],.head stepR_block c⟩
 | boom v j g B=>exact⟨.boom v j g B,d,G,CodeOut.of_steps (.one stepR_block) V.boomK⟩
 | call _ _=>exact d.elim
 | die _ _=>exact d.elim
theorem zib {x:Code}(h:CodeE P fn ro x T ms m (fun e T ms m=>match e with | .norm=>CodeE P fn ro (.loop x) T ms m K D | .ret=>K .ret T ms m | .exit id=>K (.exit id) T ms m) D):CodeE P fn ro (.loop x) T ms m K D:=fun Pt ρ b k s w a hb X hT hd V hf=>by
 obtain⟨o1,d,O,h1⟩:=h Pt ρ b (.inLoop x::k) s w a hb X hT hd V hf
 cases o1 with
 | code e U j m1=>
  obtain⟨Q,p,z,g,A,F,H,c⟩:=h1
  cases e with
  | norm=>
   obtain⟨o,ho,n2,h3⟩:=(d:CodeE P fn ro (.loop x) U j m1 K D) Pt Q b k s z p hb (X.mono g.1) A F H (hf.same g O)
   have s1:step P (lone (b.atR p (.inLoop x::k)) s z)=.next (lone (b.atR p (.code x :: .inLoop x::k)) s z):=stepR_inLoop
   have s2:step P (lone (b.atR p (.code (.loop x)::k)) s z)=.next (lone (b.atR p (.code x :: .inLoop x::k)) s z):=stepR_loop
   have pre:Steps P (lone (b.atR a (.code (.loop x)::k)) s w) (lone (b.atR p (.code x :: .inLoop x::k)) s z):=.head stepR_loop (Steps.trans c (.one s1))
   refine⟨o,ho,Nat.le_trans O n2,?_⟩
   cases o with
   | code e T' a3 m'=>
    obtain⟨S,a2,w2,N,B,G,J,C⟩:=h3
    exact⟨S,a2,w2,g.trans N O n2,B,G,J,Arr.of_loop pre s2 C⟩
   | boom v T' a3 m'=>
    obtain⟨S,a2,w2,v',Z,N,B,G,J,a0,Y⟩:=h3
    refine⟨S,a2,w2,v',Z,g.trans N O n2,B,G,J,a0,pre.trans (Steps.tail s2 Y fun e=>?_)⟩
    have:=ze0 e
    simp[Frame.atR,Frame.boom] at this
   | call _ _=>trivial
   | die _ _=>trivial
  | ret=>
   obtain⟨Z,c⟩:=c
   exact⟨.code .ret U j m1,d,O,Q,p,z,g,A,F,H,Z,.head stepR_loop c⟩
  | exit id=>
   obtain⟨Z,hk,c⟩:=c
   exact⟨.code (.exit id) U j m1,d,O,Q,p,z,g,A,F,H,Z,hk,.head stepR_loop c⟩
 | boom v U j m1=>exact⟨.boom v U j m1,d,O,CodeOut.of_steps (.one stepR_loop) h1.boomK⟩
 | call _ _=>exact d.elim
 | die _ _=>exact d.elim
theorem zdg (h:OpsE P ops ro 0 ops.size T ms m K D):CodeE P fn ro (.region id ops false) T ms m K D:=fun Pt z b k e w a A d j p c s=>by
 obtain⟨o,v,n,g⟩:=h Pt z b k e w a d j p c s
 refine⟨o,v,n,CodeOut.of_steps (.one stepR_region) ?_⟩
 rw[List.range_eq_range']
 exact g
variable {ops:Array Oper} {i n:Nat} {o:Oper}
theorem zoj (h:K .norm T ms m):OpsE P ops ro i 0 T ms m K D:=fun Pt j b k p w a g d e c s=>
 ⟨.code .norm T ms m,h,Nat.le_refl _,j,a,w,Same.refl _ _ _,d,e,c,.one stepR_region_end⟩
theorem zoi [Orc P](v:OmOk P)(V:ops[i]?=some o)(Y:wanted ops.toList T o.guard=some true)(s:isDefer o.op=none){T':Tm}{O:Mem}(N:z1c (om P) (opA P o.op T m) T o.dst T' O)(h:OpsE P ops ro (i+1) n T' ms O K D):OpsE P ops ro i (n+1) T ms m K D:=fun Pt ρ b k J w a C A U j z=>by
 have F:=z0y Y A
 have G:=N.next' v.mono (z5a o.op)
 obtain⟨H,v1,Z,d,B,p,g⟩:=z49 (b:=b) v.mono v.sim V N v.fn (z5a o.op) (fun r hr z=>z9t hr A j z) (fun c e=>by rw[e] at s;cases s) (List.range' (i+1) n) k J F A j (z.fresh _)
 obtain⟨q,X,Q,S⟩:=h Pt H b k J Z _ (C.mono d.1) B (by rw[z0f];exact U.mono d.1) p (z.same d G)
 refine⟨q,X,Nat.le_trans G Q,?_⟩
 rw[z2d]
 exact S.after g d G Q
theorem zok (p:ops[i]?=some o)(C:wanted ops.toList T o.guard=some false){T':Tm}(A:T.put o.dst z00=some T')(h:OpsE P ops ro (i+1) n T' ms m K D):OpsE P ops ro i (n+1) T ms m K D:=fun Pt G b k d w a e j v c z=>by
 have g:=z0y C j
 obtain⟨q,B,F,s⟩:=h Pt G b k d w (a.put o.dst undef) e (j.put A (.tup .nil)) (by rw[z0f];exact v) c z
 refine⟨q,B,F,?_⟩
 rw[z2d]
 refine s.of_steps (.one ?_)
 have:=stepR_op_skip (P:=P) (b:=b) (a:=a) (k:=k) (cs:=d) (w:=w) (ops:=ops) (i:=i) (rest:=List.range' (i+1) n) (by simp[p,g])
 rw[this,p];rfl
theorem zlt {as:List LV}{Q D1:LV->Mem->Prop}(z:∃ fd,fnOf P f=some fd)(ho:ops[i]?=some o)(hw:wanted ops.toList T o.guard=some true)(J:isDefer o.op=none)(hA:opA P o.op T m=some (.enter f as m))(hc:CallE P f as m Q D1)(h:∀ v p,Q v p->∃ T',T.put o.dst v=some T'/\OpsE P ops ro (i+1) n T' ms p K D)(G:∀ v p,D1 v p->D v T ms p):OpsE P ops ro i (n+1) T ms m K D:=fun Pt ρ b k B w a a1 F hd s Y=>by
 have a2:=z0y hw F
 have N:∀ c,o.op≠.defer c:=fun c e=>by rw[e] at J;cases J
 obtain⟨_,Z⟩:=z9t (P:=P) (a:=a) hA F s (Y.fresh _)
 obtain⟨fd,z⟩:=z
 obtain⟨C,O,X⟩:=Z fd z
 have H:∀ v,(b.atR a (.inRegion ops (i::List.range' (i+1) n)::k)).finish v=b.atR (a.put o.dst v) (.inRegion ops (List.range' (i+1) n)::k):=by
  intro v;rw[Frame.finish_atR,ho];rfl
 have j:step P (lone (b.atR a (.inRegion ops (i::List.range' (i+1) n)::k)) B w)=.next (lone (Frame.enter P f C .normal) (b.atR a (.inRegion ops (i::List.range' (i+1) n)::k)::B) w) :=
  step_lone_go (by rw[stepGR_op ho a2,Oper.semAt_eq _ _ _ N];simp[stepG.apply,O,Frame.atR])
 rw[z2d]
 rcases hc Pt ρ w C (b.atR a (.inRegion ops (i::List.range' (i+1) n)::k)::B) X F.3 s Y with⟨v,p,hq,S,A,v',w',d,hv,g,fr,U,h2,V⟩|⟨v,p,hq,S,A,v',w',d,hv,g,fr,U,h2,V⟩
 ·obtain⟨T',hp,hn⟩:=h v p hq
  obtain⟨q,a0,n2,h4⟩:=hn Pt A b k B w' (a.put o.dst v') (a1.mono d.1) ((F.mono d.1).put hp hv) (by rw[z0f];exact hd.mono d.1) g (Y.same d S)
  refine⟨q,a0,Nat.le_trans S n2,h4.after (.head j (U.trans (.one ?_))) d S n2⟩
  rw[<-H];exact step_leave_returned V
 ·refine⟨.boom v T ms p,G v p hq,S,A,a,w',v',(.inRegion ops (i::List.range' (i+1) n)::k),d,F.mono d.1,hd.mono d.1,g,hv,.head j (U.trans (.one ?_))⟩
  have:=step_leave_panicked (c:=b.atR a (.inRegion ops (i::List.range' (i+1) n)::k)) (cs:=B) V
  rw[Frame.raise_atR] at this
  exact this
theorem zps {ρ:Rho}:∀ {l:List (Nat×LV×LV)} {L:List MapEntry},LR ρ l L->∀ {j:Nat} {e:MapEntry},L[j]?=some e->∃ k v,(e.born,k,v)∈l/\VR ρ k e.key/\VR ρ v e.val
 | [],[],_,j,e,h=>by cases h
 | x::l,y::L,h,0,e,g=>by
  have s:y=e:=Option.some.inj g
  subst s
  obtain⟨b,k,v⟩:=x
  obtain⟨⟨c,d,p⟩,_⟩:=h
  have c:b=y.born:=c
  subst c
  exact⟨k,v,List.mem_cons_self,d,p⟩
 | x::l,y::L,h,j+1,e,g=>by
  obtain⟨k,v,c,d⟩:=zps h.2 (j:=j) (e:=e) (by simpa using g)
  exact⟨k,v,List.mem_cons_of_mem _ c,d⟩
 | [],_::_,h,_,_,_=>h.elim
 | _::_,[],h,_,_,_=>h.elim
theorem zpt {ρ:Rho}:∀ {l:List (Nat×LV×LV)} {L:List MapEntry},LR ρ l L->l.length=L.length
 | [],[],_=>rfl
 | _::_,_::_,h=>by simp[zpt h.2]
 | [],_::_,h=>h.elim
 | _::_,[],h=>h.elim
theorem zfm {Pt:Prot}{ρ:Rho}{w:World}{a:Act}{dst:Option Tmp}{x:Operand}{ty:TypeId}{pos:String}{af:Array Edge}{es:List (LV×LV)}(hv:ev T x=some (.ptr (some (id,0))))(hi:m.get id=some (.iter (some mi) since seen last))(hm:m.get mi=some (.map es bs clk))(hlt:allLt since bs=true)(hst:seen=[]∨es=[]∨anyLt last bs=true)(hne:leftL seen bs es≠[])(hT:TR ρ T a.tmps)(hrel:Rel Pt ρ m w) :
  ∃ b k v,(b,k,v)∈leftL seen bs es /\ ∃ v' w',(execOp a.eval ⟨dst,.next x false,ty,pos,af,gd⟩).run P w=.ok (.value v') w'/\VR ρ (.tup [.bool true,k,v]) v'/\Rel Pt ρ (m.upd id (some (.iter (some mi) since (seen++[b]) clk))) w':=by
 have hx:=zu hT hv
 generalize hx':a.eval x=x' at hx
 have hex:execOp a.eval ⟨dst,.next x false,ty,pos,af,gd⟩=(do pure (.value (<- Instr.next x' false ty)):Sem Next):=by rw[<-hx'];rfl
 cases hx with
 | ptr hρ=>
 rename_i b s c
 obtain⟨rfl,b',s',c',hρ',hh⟩:=hrel.iter hi hρ
 obtain⟨E,hE,her,hbs⟩:=hrel.map hm hρ'
 have hlt:=zbp hlt
 have hbad:(!seen.toArray.isEmpty && !E.isEmpty&&E.all (·.born>=last))=false:=by
  rcases hst with h|h|h
  ·subst h;simp
  ·subst h
   have:E.toList=[]:=by
    cases hl:E.toList with
    | nil=>rfl
    | cons e l=>rw[hl] at her;exact her.elim
   have:E=#[]:=by simpa using this
   subst this;simp
  ·obtain⟨q,hq,hql⟩:=zbq h
   rw[hbs] at hq
   obtain⟨e,he,rfl⟩:=List.mem_map.1 hq
   have:E.all (·.born>=last)=false:=by
    rw[<-Bool.not_eq_true]
    intro hall
    have:=Array.all_eq_true'.1 hall e (by simpa using he)
    simp at this;omega
   rw[this,Bool.and_false]
 have hold:((E.filter fun e=>!seen.toArray.contains e.born).filter (·.born<since))=E.filter fun e=>!seen.toArray.contains e.born:=by
  rw[Array.filter_eq_self]
  intro e he
  have:=(Array.mem_filter.1 he).1
  have:=hlt e.born (by rw[hbs];exact List.mem_map.2 ⟨e,by simpa using this,rfl⟩)
  simpa using this
 have hnew:((E.filter fun e=>!seen.toArray.contains e.born).filter (·.born>=since))=#[]:=by
  rw[Array.filter_eq_empty_iff]
  intro e he
  have:=(Array.mem_filter.1 he).1
  have:=hlt e.born (by rw[hbs];exact List.mem_map.2 ⟨e,by simpa using this,rfl⟩)
  simp;omega
 have hleft:=z9j (seen:=seen) es E.toList her
 rw[<-hbs] at hleft
 have hfl:(E.filter fun e=>!seen.toArray.contains e.born).toList=E.toList.filter fun e=>!seen.toArray.contains e.born:=by simp
 rw[<-hfl] at hleft
 generalize hL:(E.filter fun e=>!seen.toArray.contains e.born)=L at hold hnew hleft hfl
 have hLne:L.toList≠[]:=fun h0=>by
  have:=zpt hleft
  rw[h0] at this
  exact hne (List.length_eq_zero_iff.1 (by simpa using this))
 have hLe:L.isEmpty=false:=by
  cases hb:L.isEmpty with
  | false=>rfl
  | true=>exact absurd (by simpa using hb) hLne
 have hrun:∀(R:Sem Value),(do
   match (L.map some)[<-choose (.mapNext (L.map some).size)]? with
   | some (some e)=>
    setObj b (.mapIter (some b') since (seen.toArray.push e.born) clk)
    pure (.tuple #[.bool true,e.key,e.val])
   | some none=>pure (.tuple #[.bool false])
   | none=>stuck "Next: no such candidate":Sem Value)=R->(Instr.next (.pointer (some ⟨b,0+0,none⟩)) false ty).run P w=R.run P w:=by
  intro R hR
  rw[<-hR]
  unfold Instr.next
  simp only[Nat.add_zero,Sem.run_bind,z02 hh (by simp),z02 hE (by simp),Result.andThen_ok,hbad,Bool.false_eq_true,if_false,hL,hold,hnew,hLe,Array.append_empty,Array.empty_append]
  rfl
 have hsz:0<L.size:=by
  rcases Nat.eq_zero_or_pos L.size with h0|h0
  ·exact absurd (List.length_eq_zero_iff.1 (by simpa using h0)) hLne
  ·exact h0
 have hfin:∀(j:Nat) (w1:World),j<L.size->w1.heap=w.heap->Rel Pt ρ m w1->∃ e,L[j]?=some e /\ ∃ k v,(e.born,k,v)∈leftL seen bs es /\ ∃ v' w',((do
   match (L.map some)[j]? with
   | some (some e)=>
    setObj b (.mapIter (some b') since (seen.toArray.push e.born) clk)
    pure (.tuple #[.bool true,e.key,e.val])
   | some none=>pure (.tuple #[.bool false])
   | none=>stuck "Next: no such candidate":Sem Value)).run P w1=.ok v' w'/\VR ρ (.tup [.bool true,k,v]) v'/\Rel Pt ρ (m.upd id (some (.iter (some mi) since (seen++[e.born]) clk))) w':=by
  intro j w1 hj hw1 hrel1
  have hLj:L[j]?=some L[j]:=Array.getElem?_eq_getElem hj
  obtain⟨k,v,h1,h2,h3⟩:=zps hleft (j:=j) (e:=L[j]) (by simp[hLj])
  refine⟨L[j],hLj,k,v,h1,.tuple #[.bool true,L[j].key,L[j].val],_,?_,.tup (.cons (.bool _) (.cons h2 (.cons h3 .nil))),hrel1.set1 hi rfl rfl hρ (o':=.mapIter (some b') since (seen.toArray.push L[j].born) clk) ⟨rfl,b',s',c',hρ',by simp⟩⟩
  have hset:=z1l (P:=P) (w:=w1) (o':=.mapIter (some b') since (seen.toArray.push L[j].born) clk) (by rw[hw1];exact hh) (by simp)
  simp only[Array.getElem?_map,hLj,Option.map_some,Sem.run_bind]
  rw[hset];rfl
 have hq:∃ j w1,j<L.size/\w1.heap=w.heap/\Rel Pt ρ m w1 /\ ∀(k:Nat->Sem Value),(do k (<- choose (.mapNext (L.map some).size)):Sem Value).run P w=(k j).run P w1:=by
  by_cases hf:L.size<=1
  ·refine⟨0,w,hsz,rfl,hrel,fun k=>?_⟩
   simp[choose,Sem.run,Question.forced,hf,Bind.bind,Sem.bind,Array.size_map]
  ·refine⟨(Question.mapNext L.size).cut (w.tape w.drawn (.mapNext L.size)),{ w with drawn:=w.drawn+1 },Nat.mod_lt _ hsz,rfl,hrel.of_heap (w':={ w with drawn:=w.drawn+1 }) rfl,fun k=>?_⟩
   simp[choose,Sem.run,Question.forced,hf,Bind.bind,Sem.bind,Array.size_map]
 obtain⟨j,w1,hj,hw1,hrel1,hch⟩:=hq
 obtain⟨e,_,k,v,h1,v',w',h2,h3,h4⟩:=hfin j w1 hj hw1 hrel1
 refine⟨e.born,k,v,h1,v',w',?_,h3,h4⟩
 rw[hex,Sem.run_bind,hrun _ rfl,hch,h2];rfl
theorem zlu {dst:Option Tmp}{x:Operand}{ty:TypeId}{pos:String}{af:Array Edge}{es:List (LV×LV)}(V:ops[i]?=some ⟨dst,.next x false,ty,pos,af,gd⟩)(hw:wanted ops.toList T gd=some true)(hv:ev T x=some (.ptr (some (id,0))))(hi:m.get id=some (.iter (some mi) since seen last))(hm:m.get mi=some (.map es bs clk))(C:allLt since bs=true)(J:seen=[]∨es=[]∨anyLt last bs=true)(F:leftL seen bs es≠[])(h:∀ b A v,(b,A,v)∈leftL seen bs es->∃ T',T.put dst (.tup [.bool true,A,v])=some T'/\OpsE P ops ro (i+1) n T' ms (m.upd id (some (.iter (some mi) since (seen++[b]) clk))) K D):OpsE P ops ro i (n+1) T ms m K D:=fun Pt ρ b k Y w a H B Z s hf=>by
 have O:=z0y (o:=⟨dst,.next x false,ty,pos,af,gd⟩) hw B
 obtain⟨S,A,v,j,Q,w',z,N,d⟩:=zfm (P:=P) (a:=a) (dst:=dst) (ty:=ty) (pos:=pos) (af:=af) (gd:=gd) hv hi hm C J F B s
 obtain⟨T',hp,hn⟩:=h S A v j
 have p:(m.upd id (some (.iter (some mi) since (seen++[S]) clk))).next=m.next:=Mem.next_upd _ _ _
 obtain⟨q,G,X,U⟩:=hn Pt ρ b k Y w' (a.put dst Q) H (B.put hp N) (by rw[z0f];exact Z) d (by rw[p];exact hf)
 have g:(b.atR a (.inRegion ops (i::List.range' (i+1) n)::k)).finish Q=b.atR (a.put dst Q) (.inRegion ops (List.range' (i+1) n)::k):=by
  rw[Frame.finish_atR,V];rfl
 rw[z2d]
 rw[p] at X U
 refine⟨q,G,X,U.of_steps (.one (step_lone_go ?_))⟩
 rw[stepGR_op V O,Oper.semAt_eq _ _ _ (fun c e=>by cases e),<- g]
 simp[stepG.apply,z]
theorem z8q [Orc P](hO:OmOk P){f:Operand}{H:Array Tmp}{C G:Code}{g:FuncId}{fi ca:List LV}{Q:LV->Mem->Prop}(b9:ev T f=some (.func (.func g) fi ca))(c0:∃ fd,fnOf P g=some fd)(hc:CallE P g (fi++[LV.func (.yield (m.next+1)) [] []]++ca) ((m.push .defr).push (.loop .ready none fn T H.toList C G m.next)) Q (fun _ _=>False))(h:∀ v m',Q v m'->∃ o,rfEnd (om P) fn none (m.next+1) T (.mark m.next::ms) m'=some o/\OutG K D o):CodeE P fn none (.rangeFunc f H C G) T ms m K D:=fun Pt U b k cs w a hb b2 hT hd b0 hf=>by
 have a9:b.roundOf=none:=by
  cases b6:b.roundOf with
  | none=>rfl
  | some _=>rw[b6] at b2;exact b2.elim
 have a4:U m.next=none:=hf _ (Nat.le_refl _)
 have O:=Same.upd1 (ρ:=U) (i:=m.next) (x:=(w.heap.size,0,0)) a4
 have A:=b0.alloc a4 (lb:=.defr) (o:=.deferred (some [])) (c:=0) rfl rfl
 have a5:=hf.same O (Nat.le_succ _)
 generalize c3:({ w with heap:=w.heap.push (.deferred (some [])) }:World)=d at A
 have J:=hT.mono O.1
 have b8:DR (upd1 U m.next (w.heap.size,0,0)) (.mark m.next::ms) ({ target:=.collected w.heap.size,args:=#[] }::a.defers):=⟨⟨w.heap.size,0,0,z09 _ _ _,rfl⟩,hd.mono O.1⟩
 have b4:upd1 U m.next (w.heap.size,0,0) m.next=some (w.heap.size,0,0):=z09 _ _ _
 have N:(Instr.enterLoop b.fn a.tmps H C G b.roundOf).run P w=.ok (d.heap.size,[{ target:=.collected w.heap.size,args:=#[] }]) { d with heap:=d.heap.push (.loop { state:=.ready,pending:=none,fn:=b.fn,tmps:=a.tmps,params:=H,assign:=C,body:=G,defers:=w.heap.size }) }:=by
  subst c3
  rw[a9];simp[Instr.enterLoop];rfl
 generalize upd1 U m.next (w.heap.size,0,0)=e at *
 have c4:(m.push .defr).next=m.next+1:=rfl
 have X:e (m.next+1)=none:=a5 _ (Nat.le_refl _)
 have Y:=RLe.upd1 (ρ:=e) (i:=m.next+1) (x:=(d.heap.size,0,0)) X
 have a0:=A.alloc X (lb:=.loop .ready none fn T H.toList C G m.next) (o:=.loop { state:=.ready,pending:=none,fn:=b.fn,tmps:=a.tmps,params:=H,assign:=C,body:=G,defers:=w.heap.size }) (c:=0) rfl
  ⟨a.tmps,w.heap.size,by rw[hb,Array.toArray_toList],J,0,0,b4⟩
 have b3:=Same.upd1 (ρ:=e) (i:=m.next+1) (x:=(d.heap.size,0,0)) X
 have a6:FreshA (upd1 e (m.next+1) (d.heap.size,0,0)) (m.next+1+1):=FreshA.same a5 b3 (Nat.le_succ _)
 have S:=zu J b9
 obtain⟨a3,a7⟩:=c0
 cases z:a.eval f with
 | func F p j=>
  rw[z] at S
  cases S with
  | func g1 g2=>
   have V:VRs (upd1 e (m.next+1) (d.heap.size,0,0)) (fi++[LV.func (.yield (m.next+1)) [] []]++ca) (p ++ #[Value.func (.yield d.heap.size) #[] #[]]++j).toList:=by
    simp only[Array.toList_append]
    exact((g1.mono Y).append (.cons (.yield (z09 _ _ _)) .nil)).append (g2.mono Y)
   obtain⟨hg,s,c2⟩:=z41 a7
   have Z:a3.body.isNone=false:=by cases b7:a3.body with
    | none=>rw[b7] at s;cases s
    | some _=>rfl
   have b1:(resolve a.eval (rangeCall f d.heap.size) 0).run P { d with heap:=d.heap.push (.loop { state:=.ready,pending:=none,fn:=b.fn,tmps:=a.tmps,params:=H,assign:=C,body:=G,defers:=w.heap.size }) } =
     .ok { target:=.fn (.func g) j,args:=p ++ #[Value.func (.yield d.heap.size) #[] #[]] } { d with heap:=d.heap.push (.loop { state:=.ready,pending:=none,fn:=b.fn,tmps:=a.tmps,params:=H,assign:=C,body:=G,defers:=w.heap.size }) }:=by
    show Sem.run P (Deferred.ofValue (a.eval f) (#[Operand.const (Value.func (.yield d.heap.size) #[] #[])].map a.eval)) _=_
    rw[z]
    simp[Deferred.ofValue,Act.eval]
   have a8:(invoke (.fn (.func g) j) (p ++ #[Value.func (.yield d.heap.size) #[] #[]])).run P { d with heap:=d.heap.push (.loop { state:=.ready,pending:=none,fn:=b.fn,tmps:=a.tmps,params:=H,assign:=C,body:=G,defers:=w.heap.size }) } =
     .ok (.enter g (p ++ #[Value.func (.yield d.heap.size) #[] #[]]++j)) { d with heap:=d.heap.push (.loop { state:=.ready,pending:=none,fn:=b.fn,tmps:=a.tmps,params:=H,assign:=C,body:=G,defers:=w.heap.size }) }:=by
    simp only[invoke,callFunc,Sem.run_bind,run_program,Result.andThen_ok,hg,c2,Z,Bool.false_eq_true,if_false]
    rfl
   have hstep:=stepR_rangeFunc (P:=P) (b:=b) (a:=a) (k:=k) (cs:=cs) (g:=f) N b1 a8
   rcases hc Pt _ _ (p ++ #[Value.func (.yield d.heap.size) #[] #[]]++j) (b.atR { a with defers:=[{ target:=.collected w.heap.size,args:=#[] }]++a.defers } (.inRangeFunc d.heap.size::k)::cs) V (J.3.mono Y) a0 a6 with⟨v,m2,hq,n3,b5,v',w2,a2,c5,a1,fr,k1,k2,k3⟩|⟨v,m2,hq,_⟩
   ·obtain⟨o,ho,hK⟩:=h v m2 hq
    have n3:m.next+1+1<=m2.next:=n3
    have B:Same e b5 (m.next+1) m2.next:=b3.trans a2 (Nat.le_succ _) n3
    have c1:b5 (m.next+1)=some (d.heap.size,0,0):=a2.1 _ _ (z09 _ _ _)
    have n4:m2.next<=o.mem.next:=z7b hO.mono ho
    have:=ze9 (b:=b) (k:=k) (cs:=cs) (a:={ a with defers:=[{ target:=.collected w.heap.size,args:=#[] }]++a.defers }) hO.sim ho c1 hb (by rw[a9];trivial) (J.mono B.1) (b8.mono B.1) a1 ((a6.same a2 n3).fresh _)
    have h5:=this.after (n:=m.next+1) (ρ:=e) (.head hstep (k1.trans (.one (by rw[<-finish_atR_inRangeFunc d.heap.size v'];exact step_leave_returned k3)))) B (by omega) n4
    exact⟨o,hK,by omega,h5.after (Steps.refl _ _) O (Nat.le_succ _) (by omega)⟩
   ·exact hq.elim
 | _=>rw[z] at S;cases S
theorem znm [Orc P](J:OmOk P){as:List LV}{fd:Func}{c:Code}{Q D1:LV->Mem->Prop}(a5:fnOf P f=some fd)(hT:Tm.ofList fd.ntmps as=some T)(hc:fd.body=some c)(h:CodeE P f none c T [] m (fun e Y g B=>(e=.norm∨e=.ret) /\ ∃ v j,finRet P (om P) fd Y g B=some (.call v j)/\Q v j)
   (fun pv Y g B=>(∃ v j,finDie P (om P) fd Y pv g B=some (.call v j)/\Q v j) ∨ ∃ v j,finDie P (om P) fd Y pv g B=some (.die v j)/\D1 v j)):CallE P f as m Q D1:=fun Pt ρ w p Z a4 hG a0 hf=>by
 obtain⟨hg,_,_⟩:=z41 a5
 let b:Frame:={ fn:=f,tmps:=#[],todo:=[],defers:=[],mode:=.run,kind:=.normal,roundOf:=none }
 have A:∀ p,Frame.enter P f p .normal=b.atR { tmps:=p++Array.replicate (fd.ntmps-p.size) undef,defers:=[] } [.code c]:=by
  intro p
  simp[Frame.enter,Frame.atR,hg,hc,b]
 obtain⟨o,ho,C,h1⟩:=h Pt ρ b [] Z w { tmps:=p++Array.replicate (fd.ntmps-p.size) undef,defers:=[] } rfl trivial (z59 hT a4 hG) trivial a0 hf
 cases o with
 | code e Y g B=>
  obtain⟨he,v,j,d,hq⟩:=ho
  obtain⟨U,a1,w1,s,N,O,S,z⟩:=h1
  have C:m.next<=B.next:=C
  have V:B.next<=j.next:=z1j J.mono _ _ _ d
  have a2:∃ X,Steps P (lone (Frame.enter P f p .normal) Z w) (lone { b.atR a1 X with mode:=.returning } Z w1):=by
   rw[A]
   rcases he with rfl|rfl
   ·exact⟨[],Steps.trans z (.one (stepR_end rfl))⟩
   ·obtain⟨X,z⟩:=z
    exact⟨_,z.trans (.one (stepR_ret rfl))⟩
  obtain⟨X,G⟩:=a2
  obtain⟨H,v',w',F,g1,g2,g3,g4,g5,g6⟩:=z3j J.mono J.sim Z g B v j d U w1 { b.atR a1 X with mode:=.returning } rfl rfl hg N O S ((hf.same s C).fresh _)
  exact .inl ⟨v,j,hq,Nat.le_trans C V,H,v',w',s.trans g1 C V,g2,g3,F,G.trans g4,g5,g6⟩
 | boom pv Y g B=>
  obtain⟨U,a1,w1,v1,X,s,N,O,S,a3,G⟩:=h1
  have C:m.next<=B.next:=C
  rw[<-A] at G
  rcases ho with⟨v,j,d,hq⟩|⟨v,j,d,hq⟩
  ·have V:B.next<=j.next:=z2x J.mono _ _ _ d
   obtain⟨H,v',w',F,g1,g2,g3,g4,g5,g6⟩:=z3i J.mono J.sim Z g B _ d U w1 (Frame.boom (b.atR a1 X) v1) a3 rfl rfl hg N O S ((hf.same s C).fresh _)
   exact .inl ⟨v,j,hq,Nat.le_trans C V,H,v',w',s.trans g1 C V,g2,g3,F,G.trans g4,g5,g6⟩
  ·have V:B.next<=j.next:=z2x J.mono _ _ _ d
   obtain⟨H,v',w',F,g1,g2,g3,g4,g5,g6⟩:=z3i J.mono J.sim Z g B _ d U w1 (Frame.boom (b.atR a1 X) v1) a3 rfl rfl hg N O S ((hf.same s C).fresh _)
   exact .inr ⟨v,j,hq,Nat.le_trans C V,H,v',w',s.trans g1 C V,g2,g3,F,G.trans g4,g5,g6⟩
 | call _ _=>exact ho.elim
 | die _ _=>exact ho.elim
end
end PvL
end
section
namespace PvL
open Go
inductive XO where
 | t (n:Nat)
 | c (v:LV)
inductive XI where
 | mv (x:XO)
 | pick (c a b:XO)
 | new (ty:TypeId) (z:List LV)
 | box (ty:TypeId) (x:XO)
 | build (z:List LV) (ps:List (Nat × Nat × XO))
 | bsl (ty:TypeId) (n len:Nat) (z:List LV) (ps:List (Nat × Nat × XO))
 | ld1 (a:XO)
 | ldN (n:Nat) (a:XO)
 | st (n:Nat) (a x:XO)
 | nilc (x:XO)
 | bin (op:BinOp) (x y:XO)
 | eqs (neg:Bool) (n:Nat) (sh:List Nat) (x y:XO)
 | eqg (neg:Bool) (t:TypeId) (x y:XO)
 | un (op:UnOp) (x:XO)
 | conv (k:IntKind) (x:XO)
 | convS (x:XO)
 | mkf (g:FuncId) (a b:List XO)
 | mkmap
 | mksl (ty:TypeId) (n by':Nat) (z:List LV) (l c:XO)
 | slc (n:Nat) (x:XO) (lo hi mx:Option XO)
 | slS (x:XO) (lo hi mx:Option XO)
 | fad (off:Nat) (x:XO)
 | fld (off n:Nat) (ag:Bool) (x:XO)
 | iad (len:Option Nat) (n:Nat) (x i:XO)
 | idx (len n:Nat) (ag:Bool) (x i:XO)
 | idxS (x i:XO)
 | lkp (kt:TypeId) (z:LV) (ok:Bool) (x k:XO)
 | mset (kt:TypeId) (m k v:XO)
 | ext (i:Nat) (x:XO)
 | call (f:XO) (args:List XO)
 | len (k:LenK) (x:XO)
 | max (xs:List XO)
 | min (xs:List XO)
 | app (e:TypeId) (sz by':Nat) (z:List LV) (s x:XO)
 | cpy (sz:Nat) (d x:XO)
 | bstr (x:XO)
 | cvs (x:XO)
 | sbyt (e:TypeId) (x:XO)
 | slA (len n:Nat) (x:XO) (lo hi mx:Option XO)
 | isn (neg:Bool) (x:XO)
 | mki (t:TypeId) (x:XO)
 | asr (t:TypeId) (z:LV) (ok:Bool) (x:XO)
 | rng (x:XO)
 | nxt (x:XO)
 | ent (x:XO)
 | pan (x:XO)
 | cvp (x:XO)
 | cvq (u n:Nat) (x:XO)
 | sdat (x:XO)
 | ustr (u:Nat) (x n:XO)
 | del (kt:TypeId) (x k:XO)
 | xf (k e:Nat) (as:List XO)
structure XG where
 d:Option Nat
 i:XI
 g:Option (Nat × Bool)
inductive XK where
 | calm|new|anchor
 | reads (lo hi:Nat)
inductive XC where
 | skip|ret|no
 | exit (id:Nat)
 | ops (l:List XG)
 | draw (l:List (XG × XK)) (ds:List Nat)
 | seq (a b:XC)
 | cond (x:XO) (a b:XC)
 | block (id:Nat) (b:XC)
 | loop (b:XC)
 | scope (b:XC)
 | rfun (f:XO) (ps:List Tmp) (a b:XC)
inductive XR where
 | tmp (t:Nat)
 | cell1 (t:Nat)
 | cellN (t:Nat) (n:Nat)
structure XF where
 ntmps:Nat
 body:XC
 res:List XR
noncomputable section
variable (P:Program)
def cX:Operand->Option XO
 | .tmp t=>some (.t t)
 | .const v=>match ofV v with|some v=>some (.c v)|none=>none
 | .func f=>some (.c (.func (.func f) [] []))
 | .global g=>if Nat.ble (Nat.succ g) 64 then some (.c (.ptr (some (g,0)))) else none
def cXs:List Operand->Option (List XO)
 | []=>some []
 | x::xs=>match cX x,cXs xs with|some a,some l=>some (a::l)|_,_=>none
def cXo:Option Operand->Option (Option XO)
 | none=>some none
 | some x=>match cX x with|some a=>some (some a)|none=>none
def cParts(pl:Nat->Option (Nat×Nat)):List (Nat×Operand)->Option (List (Nat×Nat×XO))
 | []=>some []
 |(i,x)::l=>match pl i,cX x,cParts pl l with|some (o,n),some a,some r=>some ((o,n,a)::r)|_,_,_=>none
def cField(t i:Nat):Option (Nat×Nat×Bool):=fieldPl P t i
def cZero(t:Nat):Option (List LV):=match zeroL P t with|some z=>some z.cells|none=>none
def isIntT(t:TypeId):Bool:=match P.underlying t with|some (.int _)=>true|_=>false
def shFields(N:Nat)(rec:TypeId->Option (List Nat)):List Field->Option (List Nat)
 | []=>some []
 | f::fs=>if f.name == "_" then none else match aggSz P f.type,shFields N rec fs with
  | some none,some r=>if isIntT P f.type then some (f.offset::r) else none
  | some (some n),some r=>(match rec f.type with
   | some l=>if Nat.ble (f.offset+n) N&&l.all (fun o=>Nat.ble (o+1) n) then some (l.map (· + f.offset)++r) else none
   | none=>none)
  | _,_=>none
def shape:Nat->TypeId->Option (List Nat)
 | 0,_=>none
 | d+1,t=>match P.underlying t with
  | some (.struct fs)=>if P.stoodInHeld t then none else(match szOf P t with|some N=>shFields P N (shape d) fs.toList|none=>none)
  | _=>none
def isStrT(t:TypeId):Bool:=match P.underlying t with|some .string=>true|_=>false
def isBoolT(t:TypeId):Bool:=match P.underlying t with|some .bool=>true|_=>false
def cEq(neg:Bool)(t:TypeId)(x y:XO):Option XI :=
 match shape P 6 t,szOf P t,P.eqGuardType P.depth t with
 | some c,some n,false=>some (.eqs neg n c x y)
 | _,_,_=>some (.eqg neg t x y)
def isIfaceT(t:TypeId):Bool:=match P.underlying t with|some (.interface _)=>true|_=>false
def isNilO(x:XO):Bool:=match x with | .c .nilIface=>true|_=>false
def noGuard(t:TypeId):Bool:=!(P.eqGuardType P.depth t)
def cBin(op:BinOp)(t:TypeId)(x y:XO):Option XI :=
 match op with
 | .eql=>if isIntT P t||isStrT P t then some (.bin op x y) else if isIfaceT P t then(if isNilO y then some (.isn false x) else some (.eqg false t x y)) else cEq P false t x y
 | .neq=>if isIntT P t||isStrT P t then some (.bin op x y) else if isIfaceT P t then(if isNilO y then some (.isn true x) else some (.eqg true t x y)) else cEq P true t x y
 | _=>some (.bin op x y)
def cCall(c:Call):Option XI :=
 match cXs c.args.toList with
 | none=>none
 | some d=>match c.callee with
  | .value f=>match extKO P f with
   | 0=>(match cX f with|some f=>some (.call f d)|none=>none)
   | k+1=>(match k,d with | 0,[x]=>some (.mv x)|_,_=>some (.xf (k+1) (extEO P f) d))
  | .invoke _ _=>none
  | .builtin .len=>match d,c.argTypes.toList with
   | [x],t::_=>match lenK P t with|some k=>some (.len k x)|none=>none
   | _,_=>none
  | .builtin .cap=>match c.argTypes.toList with
   | t::_=>if isSlT P t then some (.xf 5 0 d) else none
   | _=>none
  | .builtin .max=>some (.max d)
  | .builtin .min=>some (.min d)
  | .builtin .append=>match d,c.argTypes.toList with
   | [s,x],st::j::_=>match z16 P st,P.underlying j with
    | some e,some h=>if isIntD h || !(plainT e) then none else match szOf P e,bytesOfT P e,cZero P e with|some sz,some b,some z=>some (.app e sz b z s x)|_,_,_=>none
    | _,_=>none
   | _,_=>none
  | .builtin .unsafeSliceData=>match d with
   | [x]=>some (.sdat x)
   | _=>none
  | .builtin .unsafeString=>match d,c.argTypes.toList with
   | [x,n],g::_=>match ptrElem P g with
    | some u=>if plainT u&&(Nat.ble 1 P.depth&&Nat.beq (P.cellsOf u) 1) then some (.ustr u x n) else none
    | none=>none
   | _,_=>none
  | .builtin .copy=>match d,c.argTypes.toList with
   | [s,x],st::_=>(match z16 P st with|some e=>(match szOf P e with|some sz=>some (.cpy sz s x)|none=>none)|none=>none)
   | _,_=>none
  | _=>none
def cOp(o:Op):Option XI :=
 match o with
 | .move x | .assign x=>match cX x with|some x=>some (.mv x)|none=>none
 | .pick c a b=>match cX c,cX a,cX b with|some c,some a,some b=>some (.pick c a b)|_,_,_=>none
 | .alloc t=>match cZero P t,plainT t with|some z,true=>some (.new t z)|_,_=>none
 | .box t x=>match cX x,plainT t with|some x,true=>some (.box t x)|_,_=>none
 | .build t A=>match cZero P t,partPl P t with
  | some z,some C=>match cParts C A.toList with|some l=>some (.build z l)|none=>none
  | _,_=>none
 | .buildSlice t len A=>match z16 P t with
  | some e=>match szOf P e,cZero P e with
   | some n,some z=>match cParts (fun i=>some (i*n,n)) A.toList with
    | some l=>if plainT e&&Nat.ble (len*n) 16777216&&(Nat.ble 1 n&&Nat.beq z.length n) then some (.bsl e n len z l) else none
    | none=>none
   | _,_=>none
  | none=>none
 | .load t a=>match cX a,aggSz P t with
  | some a,some none=>some (.ld1 a)
  | some a,some (some n)=>some (.ldN n a)
  | _,_=>none
 | .store t a x=>match cX a,cX x,szOf P t with|some a,some x,some n=>some (.st n a x)|_,_,_=>none
 | .nilCheck x=>match cX x with|some x=>some (.nilc x)|none=>none
 | .binOp op t x y _=>match cX x,cX y with|some x,some y=>cBin P op t x y|_,_=>none
 | .unOp op _ x=>match cX x with|some x=>some (.un op x)|none=>none
 | .convert s d x=>match cX x,P.underlying s,P.underlying d with
  | some x,some _,some (.int k)=>some (.conv k x)
  | some x,some (.slice e),some .string=>if isU8 P e then some (.bstr x) else none
  | some x,some (.slice _),some (.slice e)=>if Nat.beq s d&&isU8 P e then some (.cvs x) else none
  | some x,some _,some .string=>some (.convS x)
  | _,_,_=>none
 | .makeFunc (.func g) a b=>match cXs a.toList,cXs b.toList with|some a,some b=>some (.mkf g a b)|_,_=>none
 | .makeMap _ none=>some .mkmap
 | .makeSlice t l c=>match cX l,cX c,z16 P t with
  | some l,some c,some e=>match szOf P e,cZero P e,bytesOfT P e with
   | some n,some z,some b=>if plainT e&&(Nat.ble 1 n&&Nat.beq z.length n) then some (.mksl e n b z l c) else none
   | _,_,_=>none
  | _,_,_=>none
 | .slice t x lo h p=>match cX x,cXo lo,cXo h,cXo p with
  | some x,some lo,some h,some p=>match P.underlying t with
   | some (.slice e)=>match szOf P e with|some n=>some (.slc n x lo h p)|none=>none
   | some .string=>some (.slS x lo h p)
   | some (.array len e)=>match szOf P e with|some n=>some (.slA len n x lo h p)|none=>none
   | _=>none
  | _,_,_,_=>none
 | .fieldAddr t x f=>match cX x,fieldPl P t f with
  | some x,some (off,n,_)=>if Nat.ble 1 n then some (.fad off x) else none
  | _,_=>none
 | .field t x f=>match cX x,fieldPl P t f with
  | some x,some (off,n,w)=>some (.fld off n w x)
  | _,_=>none
 | .indexAddr t x i=>match cX x,cX i,ixK P t with
  | some x,some i,some (len,n)=>some (.iad len n x i)
  | _,_,_=>none
 | .index t x i=>match cX x,cX i,P.underlying t with
  | some x,some i,some (.array len e)=>match szOf P e,isAggT P e with|some n,some w=>some (.idx len n w x i)|_,_=>none
  | some x,some i,some .string=>some (.idxS x i)
  | _,_,_=>none
 | .lookup t x i ok=>match cX x,cX i,mapTypes P t with
  | some x,some i,some (j,B)=>match zeroL P B with|some z=>some (.lkp j z ok x i)|none=>none
  | _,_,_=>none
 | .mapUpdate t m k v=>match cX m,cX k,cX v,mapTypes P t with
  | some m,some k,some v,some (j,_)=>some (.mset j m k v)
  | _,_,_,_=>none
 | .insert t m k v=>match cX m,cX k,cX v,mapTypes P t with
  | some m,some k,some v,some (j,_)=>some (.mset j m k v)
  | _,_,_,_=>none
 | .extract x i=>match cX x with|some x=>some (.ext i x)|none=>none
 | .call c=>cCall P c
 | .makeInterface t x=>match cX x,z0e P t with|some x,true=>some (.mki t x)|_,_=>none
 | .typeAssert x _ t ok=>match cX x,z0e P t,zeroL P t with|some x,true,some z=>some (.asr t z ok x)|_,_,_=>none
 | _=>none
def cOpX(o:Op):Option XI :=
 match o with
 | .convert s d x=>match cX x,P.underlying s,P.underlying d with
  | some x,some .string,some (.slice e)=>if isU8 P e&&plainT e then some (.sbyt e x) else none
  | some x,some (.pointer t),some .unsafePointer=>match szOf P t with
   | some n=>if Nat.ble 1 n then some (.cvp x) else none
   | none=>none
  | some x,some .unsafePointer,some (.pointer u)=>match szOf P u with
   | some n=>if plainT u&&(Nat.beq (P.cellsOf u) n&&Nat.ble 1 n) then some (.cvq u n x) else none
   | none=>none
  | _,_,_=>none
 | .range t x=>match cX x,P.underlying t with|some x,some (.map _ _)=>some (.rng x)|_,_=>none
 | .next x false=>match cX x with|some x=>some (.nxt x)|none=>none
 | .entry x=>match cX x with|some x=>some (.ent x)|none=>none
 | .panic x=>match cX x with|some x=>some (.pan x)|none=>none
 | .call ⟨.builtin .delete,c,g⟩=>match cXs c.toList,g.toList with
  | some [x,k],t::_=>match mapTypes P t with|some (h,_)=>some (.del h x k)|none=>none
  | _,_=>none
 | _=>none
def cOpA(o:Op):Option XI:=match cOp P o with|some i=>some i|none=>cOpX P o
def dstIn(sz:Nat):Option Nat->Bool|none=>true|some d=>Nat.ble (d+1) sz
def cGuard(all:List Oper):Option (Nat×Bool)->Option (Option (Nat×Bool))
 | none=>some none
 | some (j,c)=>match (all[j]?).bind (·.dst) with|some d=>some (some (d,c))|none=>none
def cOper(sz:Nat)(all:List Oper)(o:Oper):Option XG :=
 match cOp P o.op,cGuard all o.guard,dstIn sz o.dst with
 | some i,some g,true=>some ⟨o.dst,i,g⟩
 | _,_,_=>none
def cOperA(sz:Nat)(all:List Oper)(o:Oper):Option XG :=
 match cOpA P o.op,cGuard all o.guard,dstIn sz o.dst with
 | some i,some g,true=>some ⟨o.dst,i,g⟩
 | _,_,_=>none
def cOps(sz:Nat)(all:List Oper):List Oper->Option (List XG)
 | []=>some []
 | o::c=>match cOperA P sz all o,cOps sz all c with|some g,some l=>some (g::l)|_,_=>none
def xCalm:XI->Bool
 | .max _ | .min _=>true
 | .len .map _=>false
 | .len _ _=>true
 | .conv _ _ | .convS _ | .slc _ _ _ _ _ | .slS _ _ _ _=>true
 | _=>false
def cKind(all:List Oper)(ds:List Nat)(i:Nat)(o:Oper)(x:XI):XK :=
 match cls P o.op with
 | .new | .calm=>.new
 | .anchor=>.anchor
 | .mover=>if z0o o.op && !xCalm x then .reads (z0s P (ds.getD i 0) all 0) (z07 P i all ds) else .calm
def cDrawn(sz:Nat)(all:List Oper)(ds:List Nat):List Oper->Nat->Option (List (XG×XK))
 | [],_=>some []
 | o::c,i=>match cOper P sz all o,cDrawn sz all ds c (i+1) with|some g,some l=>some ((g,cKind P all ds i o g.i)::l)|_,_=>none
def zy(sz:Nat):Code->Option XC
 | .skip | .label _=>some .skip
 | .ret=>some .ret
 | .exit id=>some (.exit id)
 | .refuse _=>some .no
 | .region _ ops false=>match cOps P sz ops.toList ops.toList with|some l=>some (.ops l)|none=>none
 | .region _ ops true=>if regionOk P ops then match cDrawn P sz ops.toList (deps ops) ops.toList 0 with|some l=>some (.draw l (deps ops))|none=>none else none
 | .seq a b=>match zy sz a,zy sz b with|some a,some b=>some (.seq a b)|_,_=>none
 | .cond x a b=>match cX x,zy sz a,zy sz b with|some x,some a,some b=>some (.cond x a b)|_,_,_=>none
 | .block id b=>match zy sz b with|some b=>some (.block id b)|none=>none
 | .loop b=>match zy sz b with|some b=>some (.loop b)|none=>none
 | .scope b=>match zy sz b with|some b=>some (.scope b)|none=>none
 | .rangeFunc f ps a b=>match cX f,zy sz a,zy sz b,ps.toList.all (fun t=>Nat.ble (t+1) sz) with|some f,some a,some b,true=>some (.rfun f ps.toList a b)|_,_,_,_=>none
 | _=>none
def cRes:List ResultVar->Option (List XR)
 | []=>some []
 | .tmp t::c=>match cRes c with|some l=>some (.tmp t::l)|none=>none
 | .cell a t::c=>match aggSz P t,cRes c with
  | some none,some l=>some (.cell1 a::l)
  | some (some n),some l=>some (.cellN a n::l)
  | _,_=>none
def cFn(f:FuncId):Option XF :=
 match fnOf P f with
 | none=>none
 | some fn=>match fn.body with
  | none=>none
  | some c=>match zy P fn.ntmps c,cRes P fn.results.toList with
   | some c,some r=>some ⟨fn.ntmps,c,r⟩
   | _,_=>none
end
end PvL
end
section
namespace PvL
open Go
variable {t u:TypeId}
abbrev Env:=List (Nat×LV)
def look:Env->Nat->Option LV
 | [],_=>none
 |(d,v)::E,t=>match Nat.beq d t with|true=>some v|false=>look E t
def xval (E:Env):XO->Option LV
 | .t n=>look E n
 | .c v=>some v
noncomputable def z0i (E:Env):List XO->Option (List LV)
 | []=>some []
 | x::xs=>ob (xval E x) fun v=>ob (z0i E xs) fun vs=>some (v::vs)
noncomputable def xvalo (E:Env):Option XO->Option (Option LV)
 | none=>some none
 | some x=>ob (xval E x) fun v=>some (some v)
noncomputable def xParts (E:Env):List (Nat×Nat×XO)->Option (List (Nat×Nat×LV))
 | []=>some []
 |(o,n,x)::l=>ob (xval E x) fun v=>ob (xParts E l) fun r=>some ((o,n,v)::r)
noncomputable def fillX:List (Nat×Nat×LV)->List LV->Option (List LV)
 | [],cs=>some cs
 |(o,n,v)::l,cs=>guard' (Nat.beq v.cells.length n&&Nat.ble 1 n) (guard' (zn v.cells) (ob (z0t cs o v.cells) fun c=>fillX l c))
structure zt (sz:Nat) (E:Env) (T:Tm):Prop where
 size:T.size=sz
 look:∀ d v,look E d=some v->evT T d=some v
def putE (E:Env):Option Nat->LV->Env
 | none,_=>E
 | some d,v=>(d,v)::E
section
variable {sz:Nat} {E:Env} {T:Tm}
theorem zt.cons (h:zt sz E T){d:Nat}(p:d<sz)(v:LV):∃ T',T.set d v=some T'/\zt sz ((d,v)::E) T':=by
 have j:T.set d v=some ⟨T.size,T.tr.set d (some v)⟩:=Tm.set_eq.2 ⟨(by rw[h.size];exact p),rfl⟩
 refine⟨_,j,h.size,fun t u c=>?_⟩
 have c:(match Nat.beq d t with|true=>some v|false=>PvL.look E t)=some u:=c
 rw[z39,Tm.get_set j t]
 cases g:Nat.beq d t with
 | true=>
  rw[g] at c
  obtain rfl:=Nat.eq_of_beq_eq_true g
  cases c
  rw[if_pos rfl]
 | false=>
  rw[g] at c
  have:=h.look t u c
  rw[z39] at this
  rw[if_neg (fun e=>by subst e;rw[Nat.beq_refl] at g;cases g)]
  exact this
theorem zt.put (h:zt sz E T){d:Option Nat}(c:dstIn sz d=true)(v:LV):∃ T',T.put d v=some T'/\zt sz (putE E d v) T':=by
 cases d with
 | none=>exact⟨T,rfl,h⟩
 | some d=>exact h.cons (by have:Nat.ble (d+1) sz=true:=c;rw[Nat.ble_eq] at this;exact this) v
theorem zt.sub {c:Env}(h:zt sz E T)(g:∀ d v,PvL.look c d=some v->PvL.look E d=some v):zt sz c T:=⟨h.size,fun d v e=>h.look d v (g d v e)⟩
theorem z08 (h:zt sz E T){x:Operand}{a:XO}(d:cX x=some a){v:LV}(e:xval E a=some v):ev T x=some v:=by
 cases x with
 | tmp t=>cases d;exact h.look _ _ e
 | const c=>
  have d:(match ofV c with|some v=>some (XO.c v)|none=>none)=some a:=d
  cases j:ofV c with
  | none=>rw[j] at d;cases d
  | some u=>rw[j] at d;cases d;cases e;exact j
 | global g=>
  have d:(if Nat.ble (Nat.succ g) 64 then some (XO.c (.ptr (some (g,0)))) else none)=some a:=d
  show ifb (Nat.ble (Nat.succ g) 64) _ _=_
  cases p:Nat.ble (Nat.succ g) 64 with
  | true=>rw[p] at d;cases d;exact e
  | false=>rw[p] at d;cases d
 | func f=>cases d;cases e;rfl
theorem z8l (h:zt sz E T):∀ {xs:List Operand} {d:List XO},cXs xs=some d->∀ {vs:List LV},z0i E d=some vs->evs T xs=some vs
 | [],d,c,vs,g=>by cases c;cases g;rfl
 | x::xs,d,c,vs,g=>by
  unfold cXs at c
  cases h1:cX x with
  | none=>rw[h1] at c;cases c
  | some a=>
   cases e:cXs xs with
   | none=>rw[h1,e] at c;cases c
   | some l=>
    rw[h1,e] at c
    cases c
    obtain⟨v,j,p⟩:=z9.1 g
    obtain⟨z,s,w⟩:=z9.1 p
    cases w
    show ob (ev T x) _=_
    rw[z08 h h1 j,z8,z8l h e s];rfl
theorem z69 (h:zt sz E T){x:Option Operand}{a:Option XO}(c:cXo x=some a){v:Option LV}(g:xvalo E a=some v):evOpt T x=some v:=by
 cases x with
 | none=>cases c;cases g;rfl
 | some x=>
  have c:(match cX x with|some a=>some (some a)|none=>none)=some a:=c
  cases d:cX x with
  | none=>rw[d] at c;cases c
  | some y=>
   rw[d] at c;cases c
   obtain⟨u,j,e⟩:=z9.1 (show ob (xval E y) (fun v=>some (some v))=some v from g)
   cases e
   show ob (ev T x) _=_
   rw[z08 h d j];rfl
theorem z8k (h:zt sz E T){pl:Nat->Option (Nat×Nat)}:∀ {j:List (Nat×Operand)} {e:List (Nat×Nat×XO)},cParts pl j=some e->∀ {vs:List (Nat×Nat×LV)},xParts E e=some vs ->
  ∃ p,evParts T j=some p /\ ∀ cs,fillL pl p cs=fillX vs cs
 | [],e,c,vs,w=>by cases c;cases w;exact⟨[],rfl,fun _=>rfl⟩
 |(i,x)::j,e,c,vs,w=>by
  unfold cParts at c
  cases d:pl i with
  | none=>rw[d] at c;cases c
  | some q=>
   obtain⟨o,n⟩:=q
   cases g:cX x with
   | none=>rw[d,g] at c;cases c
   | some a=>
    cases s:cParts pl j with
    | none=>rw[d,g,s] at c;cases c
    | some l=>
     rw[d,g,s] at c
     cases c
     obtain⟨v,z,A⟩:=z9.1 w
     obtain⟨H,B,C⟩:=z9.1 A
     cases C
     obtain⟨p,F,G⟩:=z8k h s B
     refine⟨(i,v)::p,?_,fun cs=>?_⟩
     ·show ob (ev T x) _=_
      rw[z08 h g z,z8,F];rfl
     ·show ob (pl i) _=_
      rw[d]
      show guard' _ (guard' _ (ob _ _))=guard' _ (guard' _ (ob _ _))
      simp only[G]
end
noncomputable def eqGd (op:BinOp)(a:LV):Bool:=match op with | .eql | .neq=>isIntL a||isStrL a|_=>true
section
variable (P:Program)
noncomputable def assertZ (t:TypeId)(z:LV)(ok:Bool)(v:LV):Option LV :=
 match v with
 | .iface u w=>ifb (Nat.beq u t) (some (ifb ok (.tup [w,.bool true]) w)) (guard' ok (some (.tup [z,.bool false])))
 | .nilIface=>guard' ok (some (.tup [z,.bool false]))
 | _=>none
def isnL (neg:Bool)(v:LV):Option LV:=match v with | .nilIface=>some (.bool (!neg)) | .iface _ _=>some (.bool neg)|_=>none
noncomputable def zl (i:XI)(E:Env)(M:Mem):Option R1 :=
 match i with
 | .mv x=>ob (xval E x) (rv M)
 | .pick c a b=>ob (xval E c) fun c=>asBool c fun c=>ifb c (ob (xval E a) (rv M)) (ob (xval E b) (rv M))
 | .new t z=>guard' (zn z) (some (.val (.ptr (some (M.next,0))) (M.push (.cells true z t))))
 | .box t x=>ob (xval E x) fun v=>guard' (zn v.cells) (some (.val (.ptr (some (M.next,0))) (M.push (.cells true v.cells t))))
 | .build z ps=>ob (xParts E ps) fun l=>ob (fillX l z) fun c=>some (.val (.agg c) M)
 | .bsl t n len z ps=>ob (xParts E ps) fun l=>ob (fillX l (rep len z)) fun c=>some (.val (.slice (some (M.next,0)) len true n) (M.push (.cells true c t)))
 | .ld1 a=>ob (xval E a) fun a=>asPtr a fun i o=>ob (load1 M i o) (rv M)
 | .ldN n a=>ob (xval E a) fun a=>asPtr a fun i o=>ob (loadN M i o n) fun l=>some (.val (.agg l) M)
 | .st n a x=>ob (xval E a) fun a=>ob (xval E x) fun v=>asPtr a fun i o=>guard' (Nat.beq v.cells.length n) (guard' (zn v.cells) (ob (storeCs M i o v.cells) fun m=>some (.skip m)))
 | .nilc x=>ob (xval E x) fun v=>ob (nilCheckL v) (rv M)
 | .bin op x y=>ob (xval E x) fun a=>ob (xval E y) fun b=>guard' (eqGd op a) (ob (binL P op 0 a b) (rv M))
 | .eqs neg n sh x y=>ob (xval E x) fun a=>ob (xval E y) fun b=>asAgg a fun xs=>asAgg b fun ys=>guard' (Nat.beq xs.length n&&Nat.beq ys.length n) (ob (eqSh xs ys sh) fun r=>some (.val (.bool (bEq r (!neg))) M))
 | .eqg neg t x y=>ob (xval E x) fun a=>ob (xval E y) fun b=>guard' (!(isIntL a) && !(isStrL a)) (ob (eqV P t a b) fun r=>some (.val (.bool (bEq r (!neg))) M))
 | .un op x=>ob (xval E x) fun a=>ob (unL op a) (rv M)
 | .conv k x=>ob (xval E x) fun a=>asInt a fun _ n=>some (.val (.int k (wr k n)) M)
 | .convS x=>ob (xval E x) fun a=>asStr a fun s=>some (.val (.str s) M)
 | .mkf g a b=>ob (z0i E a) fun a=>ob (z0i E b) fun b=>some (.val (.func (.func g) a b) M)
 | .mkmap=>some (.val (.map (some M.next)) (M.push (.map [] [] 0)))
 | .mksl t n by' z l c=>ob (xval E l) fun l=>ob (xval E c) fun c=>asInt l fun _ l=>asInt c fun _ c=>nat? l fun l=>nat? c fun c=>
   guard' (Nat.ble l c&&(Nat.ble (by'*c) 140737488355328&&Nat.ble c 4294967296)) (some (.val (.slice (some (M.next,0)) l (Nat.beq l c) n) (M.push (.cells true (rep l z) t))))
 | .slc n x lo hi mx=>ob (xval E x) fun x=>ob (xvalo E lo) fun lo=>ob (xvalo E hi) fun hi=>ob (xvalo E mx) fun mx=>asSlice x fun a len full es=>ob (sliceSl n a len full es lo hi mx) (rv M)
 | .slS x lo hi mx=>ob (xval E x) fun x=>ob (xvalo E lo) fun lo=>ob (xvalo E hi) fun hi=>ob (xvalo E mx) fun mx=>asStr x fun s=>guard' mx.isNone (z0d hi s.size s.size fun h=>z0d lo h 0 fun l=>some (.val (.str (s.extract l h)) M))
 | .fad off x=>ob (xval E x) fun v=>asPtr v fun i o=>some (.val (.ptr (some (i,o+off))) M)
 | .fld off n ag x=>ob (xval E x) fun v=>asAgg v fun cs=>ob (partL ag n off cs) (rv M)
 | .iad len n x i=>ob (xval E x) fun x=>ob (xval E i) fun i=>asInt i fun _ i=>nat? i fun i=>
   ob (oe len (asSlice x fun a len _ _=>ob a fun p=>pr p fun id off=>idxAt id off i n len) fun len=>asPtr x fun id off=>idxAt id off i n len) (rv M)
 | .idx len n ag x i=>ob (xval E x) fun x=>ob (xval E i) fun i=>asAgg x fun cs=>asInt i fun _ i=>nat? i fun i=>guard' (Nat.ble (i+1) len) (ob (partL ag n (i*n) cs) (rv M))
 | .idxS x i=>ob (xval E x) fun x=>ob (xval E i) fun i=>asStr x fun s=>asInt i fun _ i=>nat? i fun i=>ob s[i]? fun b=>some (.val (.int .u8 b.toNat) M)
 | .lkp kt z ok x k=>ob (xval E x) fun x=>ob (xval E k) fun k=>guard' (keyOk P 10000 kt k) (entriesOf M x fun es=>ob (findL P kt k es 0) fun r=>oe r
   (some (.val (ifb ok (.tup [z,.bool false]) z) M)) (fun p=>pr p fun _ q=>pr q fun _ v=>some (.val (ifb ok (.tup [v,.bool true]) v) M)))
 | .mset kt m k v=>ob (xval E m) fun x=>ob (xval E k) fun k=>ob (xval E v) fun v=>guard' (keyOk P 10000 kt k) (asMap x fun r=>ob r fun r=>atMap M r fun es bs clk=>
   ob (findL P kt k es 0) fun p=>oe p
    (some (.skip (M.upd r (some (.map (es++[(k,v)]) (bs++[clk]) (clk+1))))))
    (fun p=>pr p fun i q=>pr q fun k' _=>guard' (lvEq k k') (some (.skip (M.upd r (some (.map (setVal es i k v) bs clk)))))))
 | .ext i x=>ob (xval E x) fun v=>asTup v fun vs=>ob (nth vs i) (rv M)
 | .call f as=>ob (z0i E as) fun as=>ob (xval E f) fun f=>callV f as M
 | .len k x=>ob (xval E x) fun x=>ob (lenKE k (asStr x fun s=>mkN s.size) (asSlice x fun _ n _ _=>mkN n) mkN (entriesOf M x fun es=>mkN es.length)) (rv M)
 | .max xs=>ob (z0i E xs) fun l=>lE l none fun x xs=>ob (foldL max2L xs x) (rv M)
 | .min xs=>ob (z0i E xs) fun l=>lE l none fun x xs=>ob (foldL min2L xs x) (rv M)
 | .app e sz by' z s x=>ob (xval E s) fun s=>ob (xval E x) fun x=>asSlice s fun a len full es=>ob (z0x x) fun n=>
   ifb (Nat.beq n 0) (some (.val s M))
    (guard' (Nat.ble ((5*(len+n)/4+2048)*by') 281474976710656&&(Nat.ble 1 sz&&(Nat.ble 1 by'&&Nat.beq z.length sz)))
     (ob (zz sz len s M) fun old=>ob (zz sz n x M) fun new=>guard' (zn new) (
      killed e a full (Nat.beq es sz) M fun m=>some (.val (.slice (some (m.next,0)) (len+n) false sz) (m.push (.cells true (old++new) (apE e)))))))
 | .cpy sz d x=>ob (xval E d) fun d=>ob (xval E x) fun x=>asSlice d fun a dl _ _=>ob (z0x x) fun sl=>
   ifb (Nat.beq (Nat.min sl dl) 0) (some (.val (.int .i64 (.ofNat (Nat.min sl dl))) M)) (ob (zz sz (Nat.min sl dl) x M) fun l=>guard' (zn l) (
    oe a (some (.val (.int .i64 (.ofNat (Nat.min sl dl))) M)) fun p=>pr p fun id off=>ob (storeCs M id off l) fun m=>some (.val (.int .i64 (.ofNat (Nat.min sl dl))) m)))
 | .bstr x=>ob (xval E x) fun v=>asSlice v fun p n _ _=>ob (strOf M p n) (rv M)
 | .rng x=>ob (xval E x) fun v=>asMap v fun r=>oe r
   (some (.val (.ptr (some (M.next,0))) (M.push (.iter none 0 [] 0))))
   (fun r=>atMap M r fun _ _ clk=>some (.val (.ptr (some (M.next,0))) (M.push (.iter (some r) clk [] clk))))
 | .nxt x=>ob (xval E x) fun v=>asPtr v fun id off=>guard' (Nat.beq off 0) (atIter M id fun src since seen last=>oe src (rv M overL) fun r=>
   atMap M r fun es bs clk=>guard' (Nat.beq bs.length es.length&&(allLt since bs&&(seen.isEmpty ||(es.isEmpty||anyLt last bs)))) (
    match leftL seen bs es with
    | []=>rv M overL
    | [(b,k,v)]=>some (.val (.tup [.bool true,k,v]) (M.upd id (some (.iter (some r) since (seen++[b]) clk))))
    | _=>none))
 | .ent x=>ob (xval E x) fun v=>asPtr v fun id off=>guard' (Nat.beq off 0) (atIter M id fun src _ seen last=>ob src fun r=>ob seen.getLast? fun b=>
   atMap M r fun es bs clk=>guard' (Nat.beq bs.length es.length&&Nat.beq clk last) (ob (stampL b bs es) fun e=>rv M (.tup [e.1,e.2])))
 | .pan x=>ob (xval E x) fun v=>asIface v fun _ _=>some (.boom v M)
 | .cvp x=>ob (xval E x) fun v=>asPtr v fun id off=>atCells M id fun _ cs _=>guard' (Nat.ble (Nat.succ off) cs.length) (some (.val v M))
 | .cvq u n x=>ob (xval E x) fun v=>asPtr v fun id off=>atCells M id fun own cs ty=>guard' (own&&(Nat.beq ty u&&(Nat.beq off 0&&Nat.ble n cs.length))) (some (.val v M))
 | .sdat x=>ob (xval E x) fun v=>asSlice v fun a n _ _=>oe a (some (.val (.ptr none) M)) fun p=>guard' (Nat.ble 1 n) (some (.val (.ptr (some p)) M))
 | .ustr u x n=>ob (xval E x) fun v=>ob (xval E n) fun n=>asInt n fun _ n=>nat? n fun n=>
   ifb (Nat.beq n 0) (match v with | .ptr _=>some (.val (.str .empty) M)|_=>none)
    (asPtr v fun id off=>atCells M id fun own cs ty=>guard' (own&&((Nat.beq ty u||Nat.beq ty (apE u))&&Nat.ble n 9223372036854775807))
     (ob (take' n (drop' off cs)) fun l=>ob (bytesL l) fun bs=>some (.val (.str ⟨⟨bs⟩⟩) (M.upd id none))))
 | .xf k e as=>ob (z0i E as) fun as=>extL k e as M
 | .del kt x k=>ob (xval E x) fun x=>ob (xval E k) fun k=>guard' (keyOk P 10000 kt k) (asMap x fun r=>ob r fun r=>atMap M r fun es bs clk=>guard' (Nat.beq bs.length es.length) (
   ob (findL P kt k es 0) fun p=>oe p
    (some (.val (.tup []) (M.upd r (some (.map es bs clk)))))
    (fun p=>pr p fun i _=>some (.val (.tup []) (M.upd r (some (.map (dropAt es i) (dropAt bs i) clk)))))))
 | .cvs x=>ob (xval E x) fun v=>asSlice v fun p n f e=>guard' (ownAt M p&&Nat.ble 1 n) (some (.val (.slice p n f e) M))
 | .sbyt e x=>ob (xval E x) fun v=>asStr v fun s=>some (.val (.slice (some (M.next,0)) s.size false 1) (M.push (.cells true (s.data.toList.map byteL) (apE e))))
 | .slA len n x lo hi mx=>ob (xval E x) fun x=>ob (xvalo E lo) fun lo=>ob (xvalo E hi) fun hi=>ob (xvalo E mx) fun mx=>guard' (mx.isNone||hi.isSome) (asPtr x fun id off=>atCells M id fun _ cs _=>guard' (Nat.ble 1 cs.length&&Nat.ble (off+len*n) cs.length)
   (z0d mx len len fun mm=>z0d hi mm len fun h=>z0d lo h 0 fun l=>some (.val (.slice (some (id,ifb (Nat.beq mm l) off (off+l*n))) (h-l) (Nat.beq h mm) n) M)))
 | .isn neg x=>ob (xval E x) fun v=>ob (isnL neg v) (rv M)
 | .mki t x=>ob (xval E x) fun v=>some (.val (.iface t v) M)
 | .asr t z ok x=>ob (xval E x) fun v=>ob (assertZ t z ok v) (rv M)
where
 eqSh (xs ys:List LV):List Nat->Option Bool
  | []=>some true
  | o::os=>ob (nth xs o) fun a=>ob (nth ys o) fun b=>asInt a fun k x=>asInt b fun k' y=>guard' (kEq k k') (ob (eqSh xs ys os) fun r=>some (decide (x=y)&&r))
theorem z2e (k:IntKind)(z:Int):mkI k z=some (.int k z):=by unfold mkI;rw[zfc]
theorem z2o (b:Bool):mkB b=some (.bool b):=by cases b<;>rfl
theorem zc8 (n:Nat):mkN n=some (.int .i64 n):=by unfold mkN;rw[z19];rfl
theorem zr1 (r neg:Bool):bEq r (!neg)=if neg then !r else r:=by cases r<;>cases neg<;>rfl
variable {P}
variable {sz:Nat} {E:Env} {T:Tm} {M:Mem} {r:R1}
theorem z99 {v:LV}(h:isNilI v=true):v=.nilIface:=by
 cases v<;>first|rfl|cases h
theorem zn0 {op:BinOp}{w u:LV}(h:eqGd op .nilIface=true):binL P op t .nilIface w≠some u:=by
 cases op<;>first|(cases h;done)|(intro h;cases h)
theorem zfn {op:BinOp}{x y:Operand}{v w:LV}(h1:ev T x=some v)(c:ev T y=some w)(d:isNilI v=false):oBin P op t x y u T M=ob (binL P op t v w) (rv M):=by
 unfold oBin
 rw[h1,z8,c,z8,d,ze,ze]
theorem z70 (h:zt sz E T){op:BinOp}{x y:Operand}{a b:XO}(C:cX x=some a)(F:cX y=some b){i:XI}(hi:some (XI.bin op a b)=some i)(c:∀ v w,eqGd op v=true->binL P op 0 v w=binL P op t v w)(B:zl P i E M=some r):op1 P (.binOp op t x y u) T M=some r:=by
 cases hi
 obtain⟨v,e,g⟩:=z9.1 B
 obtain⟨w,j,p⟩:=z9.1 g
 obtain⟨h5,d⟩:=za.1 p
 show oBin P op t x y u T M=_
 have A:isNilI v=false:=by
  cases z:isNilI v with
  | false=>rfl
  | true=>
   obtain rfl:=z99 z
   obtain⟨q,s,_⟩:=z9.1 d
   exact absurd s (zn0 h5)
 rw[zfn (z08 h C e) (z08 h F j) A,<- c v w h5]
 exact d
noncomputable abbrev eqSh:=zl.eqSh
theorem z8z {xs c:List LV}:∀ {l l':List Nat} {r:Bool},eqSh xs c (l++l')=some r->∃ a b,eqSh xs c l=some a/\eqSh xs c l'=some b/\r=(a&&b)
 | [],l',r,h=>⟨true,r,rfl,h,rfl⟩
 | o::C,l',r,h=>by
  obtain⟨x,h1,j⟩:=z9.1 (show ob (nth xs o) _=some r from h)
  obtain⟨y,p,s⟩:=z9.1 j
  obtain⟨k,m,rfl,h5⟩:=zj.1 s
  obtain⟨B,n,rfl,v⟩:=zj.1 h5
  obtain⟨w,z⟩:=za.1 v
  obtain⟨q,A,d⟩:=z9.1 z
  cases d
  obtain⟨a,b,e,g,rfl⟩:=z8z A
  refine⟨decide (m=n)&&a,b,?_,g,by rw[Bool.and_assoc]⟩
  show ob (nth xs o) _=_
  rw[h1,z8,p]
  show guard' (kEq k B) (ob (eqSh xs c C) _)=_
  rw[w,e];rfl
theorem zdl {xs d:List LV}{off n:Nat}:∀ {l:List Nat} {r:Bool},(∀ o∈l,o<n)->eqSh xs d (l.map (· + off))=some r->eqSh (xs.drop off |>.take n) (d.drop off |>.take n) l=some r
 | [],r,_,h=>h
 | o::H,r,g,h=>by
  obtain⟨x,h1,w⟩:=z9.1 (show ob (nth xs (o+off)) _=some r from h)
  obtain⟨y,e,z⟩:=z9.1 w
  obtain⟨k,m,rfl,h5⟩:=zj.1 z
  obtain⟨p,G,rfl,A⟩:=zj.1 h5
  obtain⟨B,C⟩:=za.1 A
  obtain⟨q,F,c⟩:=z9.1 C
  have j:=g o List.mem_cons_self
  rw[z7s] at h1 e
  have s:nth (xs.drop off |>.take n) o=some (.int k m):=by rw[z7s,List.getElem?_take_of_lt j,List.getElem?_drop,Nat.add_comm];exact h1
  have v:nth (d.drop off |>.take n) o=some (.int p G):=by rw[z7s,List.getElem?_take_of_lt j,List.getElem?_drop,Nat.add_comm];exact e
  show ob (nth _ o) _=_
  rw[s,z8,v]
  show guard' (kEq k p) (ob (eqSh _ _ H) _)=_
  rw[B,zdl (fun o h=>g o (List.mem_cons_of_mem _ h)) F]
  exact c
theorem zky {P:Program}(h:isIntT P t=true):∃ k,P.underlying t=some (.int k):=by
 unfold isIntT at h
 split at h
 ·rename_i k e;exact⟨k,e⟩
 ·cases h
def ShOk (P:Program)(rec:TypeId->LV->LV->Option Bool)(t:TypeId)(e:List Nat):Prop :=
 ∀(c d:List LV) (r:Bool),(∀ N,szOf P t=some N->N<=c.length/\N<=d.length)->eqSh c d e=some r->rec t (.agg c) (.agg d)=some r
theorem za4 {rec:TypeId->LV->LV->Option Bool}{d:TypeId->Option (List Nat)}{N:Nat}(p:∀ t v,d t=some v->ShOk P rec t v)(j:∀ t k a b,isIntT P t=true->rec t (.int k a) (.int k b)=some (decide (a=b))):∀(fs:List Field) (v:List Nat),shFields P N d fs=some v ->
  ∀(xs s:List LV) (r:Bool),N<=xs.length->N<=s.length->eqSh xs s v=some r->fieldsEq P rec xs s fs=some r
 | [],v,h,xs,s,r,_,_,A=>by cases h;cases A;rfl
 | f::fs,v,h,xs,s,r,J,O,A=>by
  unfold shFields at h
  show ifb (f.name == "_") _ _=_
  by_cases C:(f.name == "_")=true
  ·rw[if_pos C] at h;cases h
  ·rw[if_neg C] at h
   rw[show(f.name == "_")=false by simpa using C,ze]
   unfold eqPart
   cases e:aggSz P f.type with
   | none=>rw[e] at h;cases h
   | some q=>
    cases g:shFields P N d fs with
    | none=>rw[e,g] at h;cases q<;>cases h
    | some l'=>
     have Q:=za4 p j fs l' g xs s
     cases q with
     | none=>
      rw[e,g] at h
      simp only at h
      split at h
      ·rename_i hi
       cases h
       obtain⟨x,V,X⟩:=z9.1 (show ob (nth xs f.offset) _=some r from A)
       obtain⟨y,Y,Z⟩:=z9.1 X
       obtain⟨k,m,rfl,h5⟩:=zj.1 Z
       obtain⟨k',m',rfl,h6⟩:=zj.1 h5
       obtain⟨h7,h8⟩:=za.1 h6
       obtain⟨q,h9,B⟩:=z9.1 h8
       cases B
       obtain rfl:=z2b.1 h7
       rw[z8,z47,V,z8,Y,z8,j _ _ _ _ hi]
       unfold andO
       rw[z8,Q q J O h9]
       cases decide (m=m')<;>rfl
      ·cases h
     | some n=>
      rw[e,g] at h
      simp only at h
      cases hr:d f.type with
      | none=>rw[hr] at h;cases h
      | some l=>
       rw[hr] at h
       simp only at h
       split at h
       ·rename_i c
        cases h
        obtain⟨a,b,S,U,rfl⟩:=z8z A
        simp only[Bool.and_eq_true,List.all_eq_true,Nat.ble_eq] at c
        obtain⟨hN,c⟩:=c
        have hp:=zdl (n:=n) (fun o ho=>by have:=c o ho;omega) S
        have t1:take' n (drop' f.offset xs)=some (xs.drop f.offset |>.take n):=z2p.2 ⟨by rw[z1r,List.length_drop];omega,by rw[z1r]⟩
        have t2:take' n (drop' f.offset s)=some (s.drop f.offset |>.take n):=z2p.2 ⟨by rw[z1r,List.length_drop];omega,by rw[z1r]⟩
        rw[z8,z2j,t1,z8,t2,z8,p _ _ hr _ _ a (fun N' w=>?_) hp]
        ·unfold andO
         rw[z8,Q b J O U]
         cases a<;>rfl
        ·have H:szOf P f.type=some n:=by
          unfold aggSz at e
          obtain⟨q,a0,z⟩:=z9.1 e
          cases q with
          | true=>
           obtain⟨n',F,G⟩:=z9.1 (show ob (szOf P f.type) _=_ from z)
           cases G;exact F
          | false=>cases z
         rw[H] at w
         cases w
         simp only[List.length_take,List.length_drop]
         omega
       ·cases h
theorem zhj:∀(d D:Nat) (t:TypeId) (e:List Nat),d<D->shape P d t=some e->ShOk P (eqL P D) t e
 | 0,_,_,_,_,h=>nomatch h
 | d+1,0,_,_,p,_=>nomatch p
 | d+1,D+1,t,e,p,h=>fun xs C r A w=>by
  unfold shape at h
  unfold eqL
  split at h
  ·rename_i fs B
   rw[B]
   by_cases c:P.stoodInHeld t=true
   ·rw[if_pos c] at h;cases h
   ·rw[if_neg c] at h
    have c:P.stoodInHeld t=false:=by simpa using c
    show ifb (P.stoodInHeld t) none _=_
    rw[c,ze]
    cases hz:szOf P t with
    | none=>rw[hz] at h;cases h
    | some N=>
     rw[hz] at h
     obtain⟨s,v⟩:=A N hz
     refine za4 (fun t e h=>zhj d D t e (by omega) h) (fun t k a b z=>?_) fs.toList e h xs C r s v w
     obtain⟨F,g⟩:=zky z
     obtain⟨j,rfl⟩:∃ j,D=j+1:=⟨D-1,by omega⟩
     unfold eqL
     rw[g]
     show guard' (kEq k k) _=_
     rw[z2b.2 rfl,zb,z4r]
     rfl
  ·cases h
end
end PvL
end
section
namespace PvL
open Go
variable {t u:TypeId} {q neg:Bool}
section
variable {P:Program} {sz:Nat} {E:Env} {T:Tm} {M:Mem} {r:R1}
theorem z6a {t:Nat}{z:List LV}(h:cZero P t=some z):∃ v,zeroL P t=some v/\v.cells=z/\zn v.cells=true:=by
 unfold cZero at h
 cases c:zeroL P t with
 | none=>rw[c] at h;cases h
 | some v=>
  rw[c] at h;cases h
  obtain⟨i,_,d⟩:=z9.1 (show ob (P.info? t) _=some v from c)
  obtain⟨w,_,e⟩:=z9.1 d
  obtain⟨u,_,g⟩:=z9.1 e
  obtain⟨h5,j⟩:=za.1 g
  cases j
  exact⟨v,rfl,rfl,h5⟩
theorem zmz {op:BinOp}{v w:LV}(h:op≠.eql)(c:op≠.neq):binL P op 0 v w=binL P op t v w:=by
 cases op<;>first|rfl|exact absurd rfl h|exact absurd rfl c
theorem zru {D:Nat}{w:LV}(c:isIfaceT P t=false):eqL P D t .nilIface w≠some q:=by
 cases D with
 | zero=>intro h;cases h
 | succ D=>
  intro h
  unfold eqL at h
  unfold isIfaceT at c
  cases e:P.underlying t with
  | none=>rw[e] at h;cases h
  | some d=>
   rw[e] at h c
   cases d<;>first|(cases c;done)|(cases w<;>cases h;done)|(cases h;done)|skip
   all_goals (
    try simp only at h
    repeat' split at h
    all_goals (try cases h))
theorem zrv {w:LV}(c:isIfaceT P t=false):eqV P t .nilIface w≠some q:=zru c
theorem zao (h:zt sz E T){x y:Operand}{a b:XO}(C:cX x=some a)(F:cX y=some b)(B:zl P (.eqg neg t a b) E M=some r):op1 P (.binOp (if neg then .neq else .eql) t x y u) T M=some r:=by
 obtain⟨v,d,e⟩:=z9.1 B
 obtain⟨w,g,j⟩:=z9.1 e
 obtain⟨h5,p⟩:=za.1 j
 obtain⟨q,c,s⟩:=z9.1 p
 cases s
 simp only[Bool.and_eq_true,Bool.not_eq_true'] at h5
 show oBin P _ t x y u T M=_
 have A:isNilI v=false:=by
  cases z:isNilI v with
  | false=>rfl
  | true=>
   obtain rfl:=z99 z
   unfold eqV at c
   rw[show isAggL .nilIface=false from rfl,ze,ze,z7p] at c
   cases c
 rw[zfn (z08 h C d) (z08 h F g) A]
 cases neg with
 | true=>
  show ob (neOp P t v w) _=_
  unfold neOp
  rw[h5.1,h5.2,ze,ze,c,z8,z2o]
  cases q<;>rfl
 | false=>
  show ob (eqOp P t v w) _=_
  unfold eqOp
  rw[h5.1,h5.2,ze,ze,c,z8,z2o]
  cases q<;>rfl
theorem zd2 (h:zt sz E T){x y:Operand}{a b:XO}(C:isIfaceT P t=false)(J:cX x=some a)(O:cX y=some b){i:XI}(hi:cEq P neg t a b=some i)(H:zl P i E M=some r):op1 P (.binOp (if neg then .neq else .eql) t x y u) T M=some r:=by
 have p:∀ v w q,ev T x=some v->ev T y=some w->isIntL v=false->isStrL v=false->eqV P t v w=some q->op1 P (.binOp (if neg then .neq else .eql) t x y u) T M=some (.val (.bool (bEq q (!neg))) M):=by
  intro v w q e g c d h5
  show oBin P _ t x y u T M=_
  have B:isNilI v=false:=by
   cases S:isNilI v with
   | false=>rfl
   | true=>
    obtain rfl:=z99 S
    exact absurd h5 (zrv C)
  rw[zfn e g B]
  cases neg with
  | true=>
   show ob (neOp P t v w) _=_
   unfold neOp
   rw[c,d,ze,ze,h5,z8,z2o]
   cases q<;>rfl
  | false=>
   show ob (eqOp P t v w) _=_
   unfold eqOp
   rw[c,d,ze,ze,h5,z8,z2o]
   cases q<;>rfl
 unfold cEq at hi
 split at hi
 ·rename_i V n F B U
  cases hi
  obtain⟨v,e,g⟩:=z9.1 H
  obtain⟨w,c,d⟩:=z9.1 g
  obtain⟨X,rfl,h5⟩:=z1b.1 d
  obtain⟨Y,rfl,z⟩:=z1b.1 h5
  obtain⟨j,A⟩:=za.1 z
  obtain⟨q,Q,s⟩:=z9.1 A
  cases s
  simp only[Bool.and_eq_true] at j
  have Z:=Nat.eq_of_beq_eq_true j.1
  have e2:=Nat.eq_of_beq_eq_true j.2
  refine p _ _ q (z08 h J e) (z08 h O c) rfl rfl ?_
  unfold eqV
  rw[U]
  show eqL P Op.maxDepth t _ _=_
  exact zhj 6 Op.maxDepth t V (by decide) F X Y q (fun N G=>by rw[B] at G;cases G;omega) Q
 ·cases hi
  obtain⟨v,e,g⟩:=z9.1 H
  obtain⟨w,c,d⟩:=z9.1 g
  obtain⟨h5,z⟩:=za.1 d
  obtain⟨q,j,A⟩:=z9.1 z
  cases A
  simp only[Bool.and_eq_true,Bool.not_eq_true'] at h5
  exact p v w q (z08 h J e) (z08 h O c) h5.1 h5.2 j
theorem zod {c:Value}(h:ofV0 c=some .nilIface):c=.nilIface:=by
 unfold ofV0 at h
 split at h<;>first|rfl|cases h
theorem zso {c:Value}(h:ofV c=some .nilIface):c=.nilIface:=by
 unfold ofV at h
 split at h
 ·obtain⟨l,_,e⟩:=z9.1 h;cases e
 ·cases h
 ·exact zod h
theorem zty {y:Operand}{b:XO}(d:cX y=some b)(h:isNilO b=true):y=.const .nilIface:=by
 cases b with
 | t n=>cases h
 | c v=>
  have j:v=.nilIface:=by cases v<;>first|rfl|(cases h;done)
  subst j
  cases y with
  | tmp t=>cases d
  | const c=>
   have d:(match ofV c with|some v=>some (XO.c v)|none=>none)=some (.c .nilIface):=d
   cases e:ofV c with
   | none=>rw[e] at d;cases d
   | some v=>rw[e] at d;cases d;rw[zso e]
  | global g=>
   have d:(if Nat.ble (Nat.succ g) 64 then some (XO.c (.ptr (some (g,0)))) else none)=some (.c .nilIface):=d
   split at d<;>cases d
  | func f=>cases d
theorem zap (h:zt sz E T){x y:Operand}{a b:XO}(c:isIfaceT P t=true)(A:isNilO b=true)(C:cX x=some a)(F:cX y=some b)(B:zl P (.isn neg a) E M=some r):op1 P (.binOp (if neg then .neq else .eql) t x y u) T M=some r:=by
 obtain rfl:=zty F A
 obtain⟨v,s,z⟩:=z9.1 B
 obtain⟨q,d,g⟩:=z9.1 z
 obtain⟨ms,p⟩:∃ ms,P.underlying t=some (.interface ms):=by
  unfold isIfaceT at c
  split at c
  ·rename_i ms e;exact⟨ms,e⟩
  ·cases c
 show oBin P _ t x _ u T M=_
 unfold oBin
 rw[z08 h C s,z8,show ev T (.const .nilIface)=some .nilIface from rfl,z8]
 cases v<;>first|(cases d;done)|skip
 case nilIface=>
  cases d
  show ob (nilNil P _ t) _=_
  unfold nilNil
  cases neg<;>(simp only[p];exact g)
 case iface ty w=>
  cases d
  have j:eqV P t (.iface ty w) .nilIface=some false:=by
   show eqL P Op.maxDepth t _ _=_
   unfold Op.maxDepth eqL
   rw[p]
  show ob (binL P _ t (.iface ty w) .nilIface) _=_
  cases neg with
  | true=>
   show ob (neOp P t (.iface ty w) .nilIface) _=_
   unfold neOp
   rw[show isIntL (.iface ty w)=false from rfl,show isStrL (.iface ty w)=false from rfl,ze,ze,j,z8,z2o];exact g
  | false=>
   show ob (eqOp P t (.iface ty w) .nilIface) _=_
   unfold eqOp
   rw[show isIntL (.iface ty w)=false from rfl,show isStrL (.iface ty w)=false from rfl,ze,ze,j,z8,z2o];exact g
theorem zbs (h:zt sz E T){op:BinOp}{x y:Operand}{a b:XO}(g:cX x=some a)(j:cX y=some b){i:XI}(hi:cBin P op t a b=some i)(e:zl P i E M=some r):op1 P (.binOp op t x y u) T M=some r:=by
 have A:∀ v w,(isIntL v||isStrL v)=true->binL P .eql 0 v w=binL P .eql t v w:=fun v w p=>by
  show eqOp P 0 v w=eqOp P t v w
  unfold eqOp
  cases s:isIntL v with
  | true=>rfl
  | false=>
   cases z:isStrL v with
   | true=>rfl
   | false=>rw[s,z] at p;cases p
 have B:∀ v w,(isIntL v||isStrL v)=true->binL P .neq 0 v w=binL P .neq t v w:=fun v w p=>by
  show neOp P 0 v w=neOp P t v w
  unfold neOp
  cases s:isIntL v with
  | true=>rfl
  | false=>
   cases z:isStrL v with
   | true=>rfl
   | false=>rw[s,z] at p;cases p
 cases op with
 | eql=>
  simp only[cBin] at hi
  split at hi
  ·exact z70 h g j hi A e
  ·split at hi
   ·rename_i c
    split at hi
    ·rename_i d
     cases hi
     exact zap (neg:=false) h c d g j e
    ·cases hi
     exact zao (neg:=false) h g j e
   ·rename_i c
    exact zd2 (neg:=false) h (by simpa using c) g j hi e
 | neq=>
  simp only[cBin] at hi
  split at hi
  ·exact z70 h g j hi B e
  ·split at hi
   ·rename_i c
    split at hi
    ·rename_i d
     cases hi
     exact zap (neg:=true) h c d g j e
    ·cases hi
     exact zao (neg:=true) h g j e
   ·rename_i c
    exact zd2 (neg:=true) h (by simpa using c) g j hi e
 | _=>exact z70 h g j hi (fun v w _=>zmz (by decide) (by decide)) e
theorem zaf {α:Type}(M:Mem)(k:List (LV×LV)->Option α):entriesOf M (.map none) k=k []:=rfl
theorem zev (h:zt sz E T){c:Call}{i:XI}(hi:cCall P c=some i)(H:zl P i E M=some r):op1 P (.call c) T M=some r:=by
 obtain⟨J,B,G⟩:=c
 show ob (evs T B.toList) _=_
 unfold cCall at hi
 cases U:cXs B.toList with
 | none=>simp only[U] at hi;cases hi
 | some S=>
  simp only[U] at hi
  cases J with
  | value f=>
   simp only at hi
   cases Q:extKO P f with
   | zero=>
    rw[Q] at hi
    simp only at hi
    cases hf:cX f with
    | none=>rw[hf] at hi;cases hi
    | some g=>
     rw[hf] at hi;cases hi
     obtain⟨vs,p,A⟩:=z9.1 H
     obtain⟨v,C,F⟩:=z9.1 A
     rw[z8l h U p,z8]
     show nE (extKO P f) (ob (ev T f) _) _=_
     rw[Q,zll,z08 h hf C];exact F
   | succ k=>
    rw[Q] at hi
    simp only at hi
    have V:∀ {l},z0i E S=some l->extL (k+1) (extEO P f) l M=some r->ob (evs T B.toList) (fun S=>nE (extKO P f) (ob (ev T f) fun f=>callV f S M) fun k=>extL (Nat.succ k) (extEO P f) S M)=some r:=fun {l} C F=>by
     rw[z8l h U C,z8,Q,zfl];exact F
    split at hi
    ·rename_i x
     cases hi
     obtain⟨v,C,F⟩:=z9.1 H
     exact V (l:=[v]) (by show ob (xval E x) _=_;rw[C];rfl) F
    ·cases hi
     obtain⟨l,C,F⟩:=z9.1 H
     exact V C F
  | invoke a b=>cases hi
  | builtin b=>
   have d:∀ vs,z0i E S=some vs->evs T B.toList=some vs:=fun vs hv=>z8l h U hv
   cases b with
   | len=>
    simp only at hi
    split at hi
    ·rename_i x t Z j
     split at hi
     ·rename_i k Q
      cases hi
      obtain⟨v,p,A⟩:=z9.1 H
      rw[d [v] (by show ob (xval E x) _=_;rw[p];rfl),z8]
      show callB P .len G.toList [v] M=_
      rw[j]
      show ob (lenL P t v M) (rv M)=_
      unfold lenL
      rw[Q,z8];exact A
     ·cases hi
    ·cases hi
   | max=>
    cases hi
    obtain⟨vs,p,A⟩:=z9.1 H
    rw[d vs p];exact A
   | min=>
    cases hi
    obtain⟨vs,p,A⟩:=z9.1 H
    rw[d vs p];exact A
   | append=>
    simp only at hi
    split at hi
    ·rename_i s x st xt Z j
     split at hi
     ·rename_i e xd he a5
      split at hi
      ·cases hi
      ·rename_i O
       have N:isIntD xd=false/\plainT e=true:=by simpa using O
       split at hi
       ·rename_i n b z hn hb hz
        cases hi
        obtain⟨v,p,A⟩:=z9.1 H
        obtain⟨w,C,F⟩:=z9.1 A
        rw[d [v,w] (by show ob (xval E s) _=_;rw[p,z8];show ob (ob (xval E x) _) _=_;rw[C];rfl),z8]
        show callB P .append G.toList [v,w] M=_
        rw[j]
        show guard' true (appendL P st xt v w M rvm)=_
        rw[zb]
        unfold appendL
        obtain⟨zv,a6,a7,a9⟩:=z6a hz
        rw[he,z8,a5,z8,N.1,ze,hn,z8,hb,z8]
        obtain⟨a,len,a8,es,rfl,h5⟩:=z0m.1 F
        obtain⟨n',h6,X⟩:=z9.1 h5
        show ob (z0x w) _=_
        rw[h6,z8]
        cases h8:Nat.beq n' 0 with
        | true=>rw[h8] at X;exact X
        | false=>
         rw[h8,ze] at X
         rw[ze,a6,z8,a7]
         obtain⟨h9,a0⟩:=za.1 X
         rw[N.2,Bool.true_and,h9,zb]
         obtain⟨old,a1,a2⟩:=z9.1 a0
         obtain⟨new,a3,a4⟩:=z9.1 a2
         rw[a1,z8,a3,z8]
         rw[<-a4]
         congr 1
         congr 1
         funext m
         rw[Mem.new_eq,z19];rfl
       ·cases hi
     ·cases hi
    ·cases hi
   | unsafeSliceData=>
    simp only at hi
    split at hi
    ·rename_i x
     cases hi
     obtain⟨v,p,A⟩:=z9.1 H
     rw[d [v] (by show ob (xval E x) _=_;rw[p];rfl),z8]
     exact A
    ·cases hi
   | unsafeString=>
    simp only at hi
    split at hi
    ·rename_i x n pt Z j
     split at hi
     ·rename_i u hu
      split at hi
      ·rename_i Y
       rw[Bool.and_eq_true,Bool.and_eq_true] at Y
       cases hi
       obtain⟨v,p,A⟩:=z9.1 H
       obtain⟨w,C,F⟩:=z9.1 A
       rw[d [v,w] (by show ob (xval E x) _=_;rw[p,z8];show ob (ob (xval E n) _) _=_;rw[C];rfl),z8]
       show callB P .unsafeString G.toList [v,w] M=_
       rw[j]
       show guard' true (asInt w fun _ n=>nat? n fun n=>unsafeStr P pt v n M)=_
       rw[zb,<- F]
       congr 1
       funext k z
       congr 1
       funext m
       unfold unsafeStr
       cases Nat.beq m 0 with
       | true=>rfl
       | false=>
        rw[ze,ze,hu,z8]
        congr 1
        funext id off
        congr 1
        funext own cs ty
        rw[Y.1,Y.2.1,Y.2.2,Bool.and_true,Bool.true_and,Bool.true_and]
      ·cases hi
     ·cases hi
    ·cases hi
   | cap=>
    simp only at hi
    split at hi
    ·rename_i t Z j
     split at hi
     ·rename_i ht
      cases hi
      obtain⟨l,p,A⟩:=z9.1 H
      rw[d l p,z8]
      show arg0 G.toList _=_
      rw[j]
      show guard' (isSlT P t) _=_
      rw[ht];exact A
     ·cases hi
    ·cases hi
   | copy=>
    simp only at hi
    split at hi
    ·rename_i s x st Z j
     split at hi
     ·rename_i e he
      split at hi
      ·rename_i n hn
       cases hi
       obtain⟨v,p,A⟩:=z9.1 H
       obtain⟨w,C,F⟩:=z9.1 A
       rw[d [v,w] (by show ob (xval E s) _=_;rw[p,z8];show ob (ob (xval E x) _) _=_;rw[C];rfl),z8]
       show callB P .copy G.toList [v,w] M=_
       rw[j]
       show guard' true (copyL P st v w M rvm)=_
       rw[zb]
       unfold copyL
       rw[he,z8,hn,z8,<- F]
       simp only[z19];rfl
      ·cases hi
     ·cases hi
    ·cases hi
   | _=>cases hi
theorem z33 {α β:Type}(z:Option LV)(c d:Nat)(k:Nat->Option α)(f:α->Option β):ob (z0d z c d k) f=z0d z c d fun n=>ob (k n) f:=by
 cases z with
 | none=>rfl
 | some z=>
  show ob (asInt z fun _ i=>nat? i fun n=>guard' (Nat.ble n c) (k n)) f=asInt z fun _ i=>nat? i fun n=>guard' (Nat.ble n c) (ob (k n) f)
  cases z with
  | int q i=>
   show ob (nat? i fun n=>guard' (Nat.ble n c) (k n)) f=nat? i fun n=>guard' (Nat.ble n c) (ob (k n) f)
   cases i with
   | ofNat n=>show ob (guard' (Nat.ble n c) (k n)) f=guard' (Nat.ble n c) (ob (k n) f);cases Nat.ble n c<;>rfl
   | negSucc n=>rfl
  | _=>rfl
set_option maxHeartbeats 1000000 in
theorem z2f (h:zt sz E T){o:Op}{i:XI}(hi:cOp P o=some i)(H:zl P i E M=some r):op1 P o T M=some r:=by
 cases o with
 | move x|assign x=>
  simp only[cOp] at hi
  split at hi
  ·rename_i a C
   cases hi
   obtain⟨v,B,A⟩:=z9.1 H
   show ob (ev T x) _=_
   rw[z08 h C B];exact A
  ·cases hi
 | pick c a b=>
  simp only[cOp] at hi
  split at hi
  ·rename_i c' a' b' hc C V
   cases hi
   obtain⟨v,B,A⟩:=z9.1 H
   obtain⟨q,rfl,F⟩:=z1w.1 A
   show ob (ev T c) _=_
   rw[z08 h hc B,z8]
   show ifb q _ _=_
   cases q with
   | true=>obtain⟨w,G,h5⟩:=z9.1 (show ob (xval E a') _=_ from F);rw[zq,z08 h C G];exact h5
   | false=>obtain⟨w,G,h5⟩:=z9.1 (show ob (xval E b') _=_ from F);rw[ze,z08 h V G];exact h5
  ·cases hi
 | alloc t=>
  simp only[cOp] at hi
  split at hi
  ·rename_i z hz b2
   cases hi
   obtain⟨zv,a0,a1,a6⟩:=z6a hz
   show ob (zeroL P t) _=_
   rw[a0,z8,a6,zb]
   obtain⟨_,A⟩:=za.1 H
   unfold newPtr
   rw[b2,zb,Mem.new_eq,a1];exact A
  ·cases hi
 | box t x=>
  simp only[cOp] at hi
  split at hi
  ·rename_i a C b2
   cases hi
   obtain⟨v,B,A⟩:=z9.1 H
   show ob (ev T x) _=_
   rw[z08 h C B,z8,<- A]
   unfold newPtr
   rw[b2,zb,Mem.new_eq]
  ·cases hi
 | build t ps=>
  simp only[cOp] at hi
  split at hi
  ·rename_i z pl hz b5
   split at hi
   ·rename_i l hl
    cases hi
    obtain⟨vs,B,A⟩:=z9.1 H
    obtain⟨c,F,G⟩:=z9.1 A
    obtain⟨ws,h5,N⟩:=z8k h hl B
    obtain⟨zv,a0,a1,a6⟩:=z6a hz
    show ob (evParts T ps.toList) _=_
    rw[h5,z8]
    unfold buildL
    rw[a0,z8,b5,z8,a1,N,F];exact G
   ·cases hi
  ·cases hi
 | buildSlice t len ps=>
  simp only[cOp] at hi
  split at hi
  ·rename_i e he
   split at hi
   ·rename_i n z hn hz
    split at hi
    ·rename_i l hl
     split at hi
     ·rename_i hg
      cases hi
      obtain⟨vs,B,A⟩:=z9.1 H
      obtain⟨c,F,G⟩:=z9.1 A
      obtain⟨ws,h5,N⟩:=z8k h hl B
      obtain⟨zv,a0,a1,a6⟩:=z6a hz
      show ob (evParts T ps.toList) _=_
      rw[h5,z8]
      unfold buildSliceL
      rw[he,z8,hn,z8,a0,z8,a1,<- Bool.and_assoc,hg,zb,N,F,z8,Mem.new_eq];exact G
     ·cases hi
    ·cases hi
   ·cases hi
  ·cases hi
 | load t a=>
  simp only[cOp] at hi
  split at hi
  ·rename_i a' C a5
   cases hi
   obtain⟨v,B,A⟩:=z9.1 H
   obtain⟨id,o,rfl,F⟩:=z0v.1 A
   show ob (ev T a) _=_
   rw[z08 h C B,z8]
   unfold loadT
   show ob (ob (aggSz P t) _) _=_
   rw[a5];exact F
  ·rename_i a' n C a5
   cases hi
   obtain⟨v,B,A⟩:=z9.1 H
   obtain⟨id,o,rfl,F⟩:=z0v.1 A
   obtain⟨l,G,h5⟩:=z9.1 F
   show ob (ev T a) _=_
   rw[z08 h C B,z8]
   unfold loadT
   show ob (ob (aggSz P t) _) _=_
   rw[a5,z8,z2j,G];exact h5
  ·cases hi
 | store t a x=>
  simp only[cOp] at hi
  split at hi
  ·rename_i a' x' n C hx hn
   cases hi
   obtain⟨v,B,A⟩:=z9.1 H
   obtain⟨w,F,G⟩:=z9.1 A
   obtain⟨id,o,rfl,h5⟩:=z0v.1 G
   show ob (ev T a) _=_
   rw[z08 h C B,z8,z08 h hx F,z8]
   unfold storeT
   show ob (ob (szOf P t) _) _=_
   rw[hn,z8]
   obtain⟨N,O⟩:=za.1 h5
   obtain⟨U,S⟩:=za.1 O
   rw[N,U];exact S
  ·cases hi
 | nilCheck x=>
  simp only[cOp] at hi
  split at hi
  ·rename_i a C
   cases hi
   obtain⟨v,B,A⟩:=z9.1 H
   show ob (ev T x) _=_
   rw[z08 h C B];exact A
  ·cases hi
 | binOp op t x y u=>
  simp only[cOp] at hi
  split at hi
  ·rename_i a b C V
   exact zbs h C V hi H
  ·cases hi
 | unOp op t x=>
  simp only[cOp] at hi
  split at hi
  ·rename_i a C
   cases hi
   obtain⟨v,B,A⟩:=z9.1 H
   show ob (ev T x) _=_
   rw[z08 h C B];exact A
  ·cases hi
 | convert s d x=>
  simp only[cOp] at hi
  split at hi
  ·rename_i a u k C X hd
   cases hi
   obtain⟨v,B,A⟩:=z9.1 H
   obtain⟨q,n,rfl,F⟩:=zj.1 A
   cases F
   show ob (ev T x) _=_
   rw[z08 h C B,z8]
   have hk:convK P s d=0:=by unfold convK;rw[X,hd];cases u<;>rfl
   unfold convM
   rw[hk]
   show ob (convL P s d (.int q n)) _=_
   unfold convL
   rw[X,hd]
   show ob (mkI k (wr k n)) _=_
   rw[z2e];rfl
  ·rename_i a e C X hd
   split at hi
   ·rename_i b6
    cases hi
    obtain⟨v,B,A⟩:=z9.1 H
    obtain⟨p,n,f,es,rfl,F⟩:=z0m.1 A
    show ob (ev T x) _=_
    rw[z08 h C B,z8]
    have hk:convK P s d=1:=by unfold convK;rw[X,hd];simp only[b6,if_true]
    unfold convM
    rw[hk]
    exact F
   ·cases hi
  ·rename_i a e' e C X hd
   split at hi
   ·rename_i hg
    cases hi
    obtain⟨v,B,A⟩:=z9.1 H
    obtain⟨p,n,f,es,rfl,F⟩:=z0m.1 A
    show ob (ev T x) _=_
    rw[z08 h C B,z8]
    have hk:convK P s d=2:=by unfold convK;rw[X,hd];simp only[hg,if_true]
    unfold convM
    rw[hk]
    obtain⟨b4,G⟩:=za.1 F
    show ob (guard' _ (some _)) (rv M)=_
    rw[b4,zb]
    exact G
   ·cases hi
  ·rename_i a u b3 C X hd
   cases hi
   obtain⟨v,B,A⟩:=z9.1 H
   obtain⟨n,rfl,F⟩:=z0g.1 A
   cases F
   show ob (ev T x) _=_
   rw[z08 h C B,z8]
   have hk:convK P s d=0:=by
    unfold convK;rw[X,hd]
    cases u<;>first|rfl|(exfalso;exact b3 _ rfl)
   unfold convM
   rw[hk]
   show ob (convL P s d (.str n)) _=_
   unfold convL
   rw[X,hd]
   cases u<;>first|rfl|(exfalso;exact b3 _ rfl)
  ·cases hi
 | makeFunc fn a b=>
  cases fn with
  | func g=>
   simp only[cOp] at hi
   split at hi
   ·rename_i a' b' C V
    cases hi
    obtain⟨v,B,A⟩:=z9.1 H
    obtain⟨w,F,G⟩:=z9.1 A
    show ob (evs T a.toList) _=_
    rw[z8l h C B,z8,z8l h V F];exact G
   ·cases hi
  | _=>cases hi
 | makeMap t q=>
  cases q with
  | none=>
   cases hi
   show oMakeMap t none T M=_
   unfold oMakeMap
   rw[show(none:Option Operand).isNone=true from rfl,zb,Mem.new_eq];exact H
  | some q=>cases hi
 | makeSlice t l c=>
  simp only[cOp] at hi
  split at hi
  ·rename_i l' c' e hl hc he
   split at hi
   ·rename_i n z b hn hz V
    split at hi
    ·rename_i hg
     cases hi
     obtain⟨v,B,A⟩:=z9.1 H
     obtain⟨w,F,G⟩:=z9.1 A
     obtain⟨zv,a0,a1,a6⟩:=z6a hz
     show ob (ev T l) _=_
     rw[z08 h hl B,z8,z08 h hc F,z8]
     obtain⟨k,m,rfl,h5⟩:=zj.1 G
     obtain⟨k',m',rfl,N⟩:=zj.1 h5
     obtain⟨a,rfl,O⟩:=nat?_eq.1 N
     obtain⟨a',rfl,U⟩:=nat?_eq.1 O
     obtain⟨S,J⟩:=za.1 U
     unfold makeSliceL
     rw[he,z8]
     refine zj.2 ⟨_,_,rfl,zj.2 ⟨_,_,rfl,nat?_eq.2 ⟨a,rfl,nat?_eq.2 ⟨a',rfl,?_⟩⟩⟩⟩
     rw[hn,z8,a0,z8,V,z8,a1]
     simp only[Bool.and_eq_true] at S hg
     rw[S.1,S.2.1,S.2.2,hg.1,hg.2.1,hg.2.2]
     simp only[Bool.and_self,zb]
     rw[Mem.new_eq];exact J
    ·cases hi
   ·cases hi
  ·cases hi
 | slice t x lo b9 mx=>
  simp only[cOp] at hi
  split at hi
  ·rename_i x' c0 b8 c1 hx b0 a9 b1
   split at hi
   ·rename_i e hu
    split at hi
    ·rename_i n hn
     cases hi
     obtain⟨v,B,A⟩:=z9.1 H
     obtain⟨v2,F,G⟩:=z9.1 A
     obtain⟨v3,h5,N⟩:=z9.1 G
     obtain⟨v4,O,U⟩:=z9.1 N
     obtain⟨a,len,b7,es,rfl,S⟩:=z0m.1 U
     show ob (ev T x) _=_
     rw[z08 h hx B,z8,z69 h b0 F,z8,z69 h a9 h5,z8,z69 h b1 O,z8]
     unfold sliceL
     rw[hu]
     show ob (ob (szOf P e) _) _=_
     rw[hn];exact S
    ·cases hi
   ·rename_i hu
    cases hi
    obtain⟨v,B,A⟩:=z9.1 H
    obtain⟨v2,F,G⟩:=z9.1 A
    obtain⟨v3,h5,N⟩:=z9.1 G
    obtain⟨v4,O,U⟩:=z9.1 N
    obtain⟨s,rfl,S⟩:=z0g.1 U
    show ob (ev T x) _=_
    rw[z08 h hx B,z8,z69 h b0 F,z8,z69 h a9 h5,z8,z69 h b1 O,z8]
    unfold sliceL
    rw[hu]
    obtain⟨J,Q⟩:=za.1 S
    show ob (guard' v4.isNone _) _=_
    rw[J,zb]
    rw[z33,<- Q]
    congr 1
    funext n
    rw[z33]
    rfl
   ·rename_i len e hu
    split at hi
    ·rename_i n hn
     cases hi
     obtain⟨v,B,A⟩:=z9.1 H
     obtain⟨v2,F,G⟩:=z9.1 A
     obtain⟨v3,h5,N⟩:=z9.1 G
     obtain⟨v4,O,U⟩:=z9.1 N
     obtain⟨S,J⟩:=za.1 U
     obtain⟨id,off,rfl,Q⟩:=z0v.1 J
     show ob (ev T x) _=_
     rw[z08 h hx B,z8,z69 h b0 F,z8,z69 h a9 h5,z8,z69 h b1 O,z8]
     unfold sliceL
     rw[hu]
     show ob (guard' _ (ob (szOf P e) _)) _=_
     rw[S,zb,hn,z8]
     show ob (atCells M id _) _=_
     unfold atCells at Q ⊢
     obtain⟨lb,Y,a2⟩:=z9.1 Q
     rw[Y,z8]
     cases lb with
     | cells own cs ty=>
      obtain⟨Z,a4⟩:=za.1 a2
      show ob (guard' _ _) _=_
      rw[Z,zb,z33,<- a4]
      congr 1
      funext mm
      rw[z33]
      congr 1
      funext hh
      rw[z33]
      congr 1
      funext l
      simp only[z19];rfl
     | _=>cases a2
    ·cases hi
   ·cases hi
  ·cases hi
 | fieldAddr t x f=>
  simp only[cOp] at hi
  split at hi
  ·rename_i a off n ag C hf
   split at hi
   ·rename_i hg
    cases hi
    obtain⟨v,B,A⟩:=z9.1 H
    obtain⟨id,o,rfl,F⟩:=z0v.1 A
    show ob (ev T x) _=_
    rw[z08 h C B,z8]
    unfold fieldAddrL
    rw[hf]
    show ob (guard' (Nat.ble 1 n) (fN (o+off) _)) _=_
    rw[hg,zb,z19];exact F
   ·cases hi
  ·cases hi
 | field t x f=>
  simp only[cOp] at hi
  split at hi
  ·rename_i a off n ag C hf
   cases hi
   obtain⟨v,B,A⟩:=z9.1 H
   show ob (ev T x) _=_
   rw[z08 h C B,z8]
   unfold fieldL
   rw[hf]
   obtain⟨cs,rfl,F⟩:=z1b.1 A
   exact F
  ·cases hi
 | indexAddr t x i'=>
  simp only[cOp] at hi
  split at hi
  ·rename_i a b len n C V hk
   cases hi
   obtain⟨v,B,A⟩:=z9.1 H
   obtain⟨w,F,G⟩:=z9.1 A
   obtain⟨k,z,rfl,h5⟩:=zj.1 G
   obtain⟨j,rfl,N⟩:=nat?_eq.1 h5
   show ob (ev T x) _=_
   rw[z08 h C B,z8,z08 h V F,z8]
   unfold indexAddrL
   rw[hk]
   exact N
  ·cases hi
 | index t x i'=>
  simp only[cOp] at hi
  split at hi
  ·rename_i a b len e C V hu
   split at hi
   ·rename_i n ag hn a5
    cases hi
    obtain⟨v,B,A⟩:=z9.1 H
    obtain⟨w,F,G⟩:=z9.1 A
    obtain⟨cs,rfl,a8⟩:=z1b.1 G
    obtain⟨k,z,rfl,h5⟩:=zj.1 a8
    obtain⟨j,rfl,N⟩:=nat?_eq.1 h5
    obtain⟨O,U⟩:=za.1 N
    show ob (ev T x) _=_
    rw[z08 h C B,z8,z08 h V F,z8]
    unfold indexL
    rw[hu]
    show ob (ob (szOf P e) _) _=_
    rw[hn,z8,a5,z8,O,zb];exact U
   ·cases hi
  ·rename_i a b C V hu
   cases hi
   obtain⟨v,B,A⟩:=z9.1 H
   obtain⟨w,F,G⟩:=z9.1 A
   obtain⟨s,rfl,a8⟩:=z0g.1 G
   obtain⟨k,z,rfl,h5⟩:=zj.1 a8
   obtain⟨j,rfl,N⟩:=nat?_eq.1 h5
   obtain⟨b',O,U⟩:=z9.1 N
   cases U
   show ob (ev T x) _=_
   rw[z08 h C B,z8,z08 h V F,z8]
   unfold indexL
   rw[hu]
   show ob (ob s[j]? _) _=_
   rw[O];rfl
  ·cases hi
 | lookup t x i' ok=>
  simp only[cOp] at hi
  split at hi
  ·rename_i a b kt et C V hm
   split at hi
   ·rename_i z hz
    cases hi
    obtain⟨v,B,A⟩:=z9.1 H
    obtain⟨w,F,G⟩:=z9.1 A
    obtain⟨h5,N⟩:=za.1 G
    show ob (ev T x) _=_
    rw[z08 h C B,z8,z08 h V F,z8]
    unfold lookupL
    rw[hm,z8,zss,h5,zb]
    obtain⟨q,rfl,O⟩:=z26.1 N
    cases q with
    | none=>
     rw[z47] at O
     obtain⟨p,U,S⟩:=z9.1 O
     rw[zaf,U,z8]
     cases p with
     | none=>cases S;show ob (ob (zeroL P et) _) _=_;rw[hz];rfl
     | some p=>obtain⟨_,_,_⟩:=p;cases S;rfl
    | some q=>
     have O:atMap M q _=_:=O
     unfold atMap at O
     obtain⟨lb,U,S⟩:=z9.1 O
     show ob (atMap M q _) _=_
     unfold atMap
     rw[U,z8]
     cases lb with
     | map es bs clk=>
      obtain⟨p,J,Q⟩:=z9.1 (show ob (findL P kt w es 0) _=_ from S)
      show ob (ob (findL P kt w es 0) _) _=_
      rw[J,z8]
      cases p with
      | none=>cases Q;show ob (ob (zeroL P et) _) _=_;rw[hz];rfl
      | some p=>obtain⟨_,_,_⟩:=p;cases Q;rfl
     | _=>cases S
   ·cases hi
  ·cases hi
 | mapUpdate t m k v=>
  simp only[cOp] at hi
  split at hi
  ·rename_i a b c kt et C V hc hm
   cases hi
   obtain⟨x,B,A⟩:=z9.1 H
   obtain⟨y,F,G⟩:=z9.1 A
   obtain⟨z,h5,N⟩:=z9.1 G
   obtain⟨O,U⟩:=za.1 N
   obtain⟨q,rfl,S⟩:=z26.1 U
   obtain⟨q,rfl,J⟩:=z9.1 S
   show ob (ev T m) _=_
   rw[z08 h C B,z8,z08 h V F,z8,z08 h hc h5,z8]
   unfold mapUpdateL
   rw[hm,z8,zss,O,zb]
   show ob (atMap M q _) _=_
   unfold atMap at J ⊢
   obtain⟨lb,Q,Y⟩:=z9.1 J
   rw[Q,z8]
   cases lb with
   | map es bs clk=>
    obtain⟨p,a2,Z⟩:=z9.1 (show ob (findL P kt y es 0) _=_ from Y)
    show ob (ob (findL P kt y es 0) _) _=_
    rw[a2,z8]
    cases p with
    | none=>cases Z;show ob (fN (clk+1) fun a3=>some (M.upd q (some (.map (es++[(y,z)]) (bs++[clk]) a3)))) _=_;rw[z19];rfl
    | some p=>
     obtain⟨i,k',v'⟩:=p
     obtain⟨a4,a7⟩:=za.1 (show guard' (lvEq y k') _=_ from Z)
     cases a7
     show ob (guard' (lvEq y k') _) _=_
     rw[a4];rfl
   | _=>cases Y
  ·cases hi
 | insert t m k v=>
  simp only[cOp] at hi
  split at hi
  ·rename_i a b c kt et C V hc hm
   cases hi
   obtain⟨x,B,A⟩:=z9.1 H
   obtain⟨y,F,G⟩:=z9.1 A
   obtain⟨z,h5,N⟩:=z9.1 G
   obtain⟨O,U⟩:=za.1 N
   obtain⟨q,rfl,S⟩:=z26.1 U
   obtain⟨q,rfl,J⟩:=z9.1 S
   show ob (ev T m) _=_
   rw[z08 h C B,z8,z08 h V F,z8,z08 h hc h5,z8]
   unfold mapUpdateL
   rw[hm,z8,zss,O,zb]
   show ob (atMap M q _) _=_
   unfold atMap at J ⊢
   obtain⟨lb,Q,Y⟩:=z9.1 J
   rw[Q,z8]
   cases lb with
   | map es bs clk=>
    obtain⟨p,a2,Z⟩:=z9.1 (show ob (findL P kt y es 0) _=_ from Y)
    show ob (ob (findL P kt y es 0) _) _=_
    rw[a2,z8]
    cases p with
    | none=>cases Z;show ob (fN (clk+1) fun a3=>some (M.upd q (some (.map (es++[(y,z)]) (bs++[clk]) a3)))) _=_;rw[z19];rfl
    | some p=>
     obtain⟨i,k',v'⟩:=p
     obtain⟨a4,a7⟩:=za.1 (show guard' (lvEq y k') _=_ from Z)
     cases a7
     show ob (guard' (lvEq y k') _) _=_
     rw[a4];rfl
   | _=>cases Y
  ·cases hi
 | extract x i'=>
  simp only[cOp] at hi
  split at hi
  ·rename_i a C
   cases hi
   obtain⟨v,B,A⟩:=z9.1 H
   show ob (ev T x) _=_
   rw[z08 h C B];exact A
  ·cases hi
 | call c=>exact zev h hi H
 | makeInterface t x=>
  simp only[cOp] at hi
  split at hi
  ·rename_i a C hc
   cases hi
   obtain⟨v,B,A⟩:=z9.1 H
   show guard' (z0e P t) _=_
   rw[hc,zb,z08 h C B];exact A
  ·cases hi
 | typeAssert x u t ok=>
  simp only[cOp] at hi
  split at hi
  ·rename_i a z C hc hz
   cases hi
   obtain⟨v,B,A⟩:=z9.1 H
   show guard' (z0e P t) _=_
   rw[hc,zb,z08 h C B,z8]
   rw[<-A]
   congr 1
   cases v<;>first|rfl|(show guard' ok (ob (zeroL P t) _)=_;rw[hz];rfl)|(show ifb _ _ (guard' ok (ob (zeroL P t) _))=_;rw[hz];rfl)
  ·cases hi
 | _=>cases hi
theorem zr5 {args:List Operand}{a b:XO}(h:cXs args=some [a,b]):∃ x k,args=[x,k]/\cX x=some a/\cX k=some b:=by
 have one:∀ {d:List Operand} {y:XO} {l:List XO},cXs d=some (y::l)->∃ x g,d=x::g/\cX x=some y/\cXs g=some l:=by
  intro d y l h
  cases d with
  | nil=>cases h
  | cons x d=>
   unfold cXs at h
   cases e:cX x with
   | none=>rw[e] at h;cases h
   | some z=>
    cases c:cXs d with
    | none=>rw[e,c] at h;cases h
    | some B=>rw[e,c] at h;cases h;exact⟨x,d,rfl,e,c⟩
 obtain⟨x,d,rfl,v,e⟩:=one h
 obtain⟨k,w,rfl,s,c⟩:=one e
 cases w with
 | nil=>exact⟨x,k,rfl,v,s⟩
 | cons z A=>
  unfold cXs at c
  cases j:cX z with
  | none=>rw[j] at c;cases c
  | some _=>
   cases p:cXs A with
   | none=>rw[j,p] at c;cases c
   | some _=>rw[j,p] at c;cases c
theorem zve {o:Op}(h:op1 P o T M=some r):opA P o T M=some r:=by
 show oe (op1 P o T M) (opX P o T M) some=some r
 rw[h];rfl
theorem z1f (h:zt sz E T){o:Op}{i:XI}(hi:cOpA P o=some i)(F:zl P i E M=some r):opA P o T M=some r:=by
 unfold cOpA at hi
 cases O:cOp P o with
 | some i'=>rw[O] at hi;cases hi;exact zve (z2f h O F)
 | none=>
  rw[O] at hi
  cases o<;>first|(cases hi;done)|skip
  case convert sT d x=>
   have hi:cOpX P (.convert sT d x)=some i:=hi
   simp only[cOpX] at hi
   split at hi
   ·rename_i a e w j g
    split at hi
    ·rename_i G
     cases hi
     obtain⟨v,p,z⟩:=z9.1 F
     obtain⟨s,rfl,h5⟩:=z0g.1 z
     have H:op1 P (.convert sT d x) T M=none:=by
      show ob (ev T x) _=_
      rw[z08 h w p,z8]
      have J:convK P sT d=0:=by unfold convK;rw[j,g]
      unfold convM
      rw[J]
      show ob (convL P sT d (.str s)) _=_
      unfold convL
      rw[j,g];rfl
     show oe (op1 P (.convert sT d x) T M) (opX P (.convert sT d x) T M) some=some r
     rw[H]
     show oe none (oConvU P sT d x T M) some=some r
     have:oConvU P sT d x T M=some r:=by
      unfold oConvU
      rw[j,g]
      show guard' (isU8 P e&&plainT e) (ob (ev T x) _)=_
      rw[G,zb,z08 h w p,z8]
      show M.new (.cells true (s.data.toList.map byteL) (apE e)) (fun id m=>fN s.size fun n=>some (R1.val (.slice (some (id,0)) n false 1) m))=some r
      rw[Mem.new_eq]
      show fN s.size _=_
      rw[z19];exact h5
     rw[this];rfl
    ·cases hi
   ·rename_i a t w j g
    split at hi
    ·rename_i n N
     split at hi
     ·rename_i G
      cases hi
      obtain⟨v,p,z⟩:=z9.1 F
      have H:op1 P (.convert sT d x) T M=none:=by
       show ob (ev T x) _=_
       rw[z08 h w p,z8]
       have J:convK P sT d=0:=by unfold convK;rw[j,g]
       unfold convM
       rw[J]
       show ob (convL P sT d v) _=_
       unfold convL
       rw[j,g];rfl
      show oe (op1 P (.convert sT d x) T M) (opX P (.convert sT d x) T M) some=some r
      rw[H]
      show oe none (oConvU P sT d x T M) some=some r
      have:oConvU P sT d x T M=some r:=by
       unfold oConvU
       rw[j,g]
       show ob (ev T x) _=_
       rw[z08 h w p,z8,<- z]
       congr 1
       funext id off
       congr 1
       funext own cs ty
       rw[N,z8,G,Bool.true_and];rfl
      rw[this];rfl
     ·cases hi
    ·cases hi
   ·rename_i a u w j g
    split at hi
    ·rename_i n N
     split at hi
     ·rename_i G
      cases hi
      obtain⟨v,p,z⟩:=z9.1 F
      have H:op1 P (.convert sT d x) T M=none:=by
       show ob (ev T x) _=_
       rw[z08 h w p,z8]
       have J:convK P sT d=0:=by unfold convK;rw[j,g]
       unfold convM
       rw[J]
       show ob (convL P sT d v) _=_
       unfold convL
       rw[j,g];rfl
      show oe (op1 P (.convert sT d x) T M) (opX P (.convert sT d x) T M) some=some r
      rw[H]
      show oe none (oConvU P sT d x T M) some=some r
      have:oConvU P sT d x T M=some r:=by
       unfold oConvU
       rw[j,g]
       show ob (ev T x) _=_
       rw[z08 h w p,z8,<- z]
       congr 1
       funext id off
       congr 1
       funext own cs ty
       rw[Bool.and_eq_true,Bool.and_eq_true] at G
       rw[N,z8,G.1,G.2.1,G.2.2,Bool.true_and,Bool.true_and,Bool.true_and];rfl
      rw[this];rfl
     ·cases hi
    ·cases hi
   ·cases hi
  case range t x=>
   have hi:cOpX P (.range t x)=some i:=hi
   simp only[cOpX] at hi
   split at hi
   ·rename_i a k e w Y
    cases hi
    obtain⟨v,p,z⟩:=z9.1 F
    show oe none (oRange P t x T M) some=some r
    have:oRange P t x T M=some r:=by
     unfold oRange
     rw[Y]
     show ob (ev T x) _=_
     rw[z08 h w p,z8]
     simp only[Mem.new_eq]
     exact z
    rw[this];rfl
   ·cases hi
  case next x b=>
   cases b with
   | true=>cases hi
   | false=>
    have hi:cOpX P (.next x false)=some i:=hi
    simp only[cOpX] at hi
    split at hi
    ·rename_i a w
     cases hi
     obtain⟨v,p,z⟩:=z9.1 F
     show oe none (oNext x false T M) some=some r
     have:oNext x false T M=some r:=by
      show ob (ev T x) _=_
      rw[z08 h w p];exact z
     rw[this];rfl
    ·cases hi
  case entry x=>
   have hi:cOpX P (.entry x)=some i:=hi
   simp only[cOpX] at hi
   split at hi
   ·rename_i a w
    cases hi
    obtain⟨v,p,z⟩:=z9.1 F
    show oe none (oEntry x T M) some=some r
    have:oEntry x T M=some r:=by
     show ob (ev T x) _=_
     rw[z08 h w p];exact z
    rw[this];rfl
   ·cases hi
  case call c=>
   obtain⟨C,A,B⟩:=c
   cases C with
   | value f=>cases hi
   | invoke f n=>cases hi
   | builtin b=>
    cases b<;>first|(cases hi;done)|skip
    have hi:(match cXs A.toList,B.toList with|some [x,k],t::_=>(match mapTypes P t with|some (Q,_)=>some (XI.del Q x k)|none=>none)|_,_=>none)=some i:=hi
    split at hi
    ·rename_i a b t ts w V
     split at hi
     ·rename_i Q et X
      cases hi
      obtain⟨A⟩:=A
      obtain⟨x,k,rfl,Z,J⟩:∃ x k,A=[x,k]/\cX x=some a/\cX k=some b:=zr5 w
      obtain⟨v,p,z⟩:=z9.1 F
      obtain⟨u,S,U⟩:=z9.1 z
      have H:op1 P (.call ⟨.builtin .delete,⟨[x,k]⟩,B⟩) T M=none:=by
       show ob (evs T [x,k]) _=none
       cases evs T [x,k]<;>rfl
      show oe (op1 P (.call ⟨.builtin .delete,⟨[x,k]⟩,B⟩) T M) (oDel P ⟨.builtin .delete,⟨[x,k]⟩,B⟩ T M) some=some r
      rw[H]
      have:oDel P ⟨.builtin .delete,⟨[x,k]⟩,B⟩ T M=some r:=by
       unfold oDel
       simp only[V]
       show ob (mapTypes P t) _=_
       rw[X]
       show ob (ev T x) _=_
       rw[z08 h Z p,z8,z08 h J S]
       exact U
      rw[this];rfl
     ·cases hi
    ·cases hi
  case panic x=>
   have hi:cOpX P (.panic x)=some i:=hi
   simp only[cOpX] at hi
   split at hi
   ·rename_i a w
    cases hi
    obtain⟨v,p,z⟩:=z9.1 F
    show oe none (oPanic x T M) some=some r
    have:oPanic x T M=some r:=by
     show ob (ev T x) _=_
     rw[z08 h w p];exact z
    rw[this];rfl
   ·cases hi
end
end PvL
end
section
namespace PvL
open Go
def iMax(a b:Int):Int:=max a b
def iMin(a b:Int):Int:=min a b
noncomputable def maxX:List LV->LV->Option LV
 | [],x=>some x
 | .int _ b::c,.int k a=>maxX c (.int k (iMax a b))
 | _,_=>none
noncomputable def minX:List LV->LV->Option LV
 | [],x=>some x
 | .int _ b::c,.int k a=>minX c (.int k (iMin a b))
 | _,_=>none
noncomputable def binX(op:BinOp)(x y:LV):Option LV :=
 match x,y with
 | .int k a,.int k' b=>guard' (kEq k k') (match op with
  | .add=>some (.int k (k.wrap (a+b)))
  | .sub=>some (.int k (k.wrap (a-b)))
  | .mul=>some (.int k (k.wrap (a*b)))
  | .lss=>some (.bool (decide (a<b)))
  | .leq=>some (.bool (decide (a<=b)))
  | .gtr=>some (.bool (decide (b<a)))
  | .geq=>some (.bool (decide (b<=a)))
  | .eql=>some (.bool (decide (a=b)))
  | .neq=>some (.bool (decide (a≠b)))
  | _=>none)
 | .str a,.str b=>(match op with
  | .eql=>some (.bool (a==b))
  | .neq=>some (.bool (!(a==b)))
  | _=>none)
 | _,_=>none
noncomputable def xpure(i:XI)(E:Env):Option LV :=
 match i with
 | .mv x=>xval E x
 | .pick c a b=>ob (xval E c) fun c=>asBool c fun c=>ifb c (xval E a) (xval E b)
 | .build z j=>ob (xParts E j) fun l=>ob (fillX l z) fun c=>some (.agg c)
 | .nilc x=>ob (xval E x) nilCheckL
 | .bin op x y=>ob (xval E x) fun a=>ob (xval E y) fun b=>binX op a b
 | .eqs neg n sh x y=>ob (xval E x) fun a=>ob (xval E y) fun b=>asAgg a fun d=>asAgg b fun e=>guard' (Nat.beq d.length n&&Nat.beq e.length n) (ob (eqSh d e sh) fun r=>some (.bool (ifb neg (!r) r)))
 | .un op x=>ob (xval E x) fun a=>(match op with
  | .neg=>asInt a fun k n=>some (.int k (k.wrap (0-n)))
  | .not=>asBool a fun b=>some (.bool (!b))
  | _=>none)
 | .conv k x=>ob (xval E x) fun a=>asInt a fun _ n=>some (.int k (k.wrap n))
 | .convS x=>ob (xval E x) fun a=>asStr a fun s=>some (.str s)
 | .mkf g a b=>ob (z0i E a) fun a=>ob (z0i E b) fun b=>some (.func (.func g) a b)
 | .fad off x=>ob (xval E x) fun v=>asPtr v fun i o=>some (.ptr (some (i,o+off)))
 | .fld off n ag x=>ob (xval E x) fun v=>asAgg v fun h=>partL ag n off h
 | .ext i x=>ob (xval E x) fun v=>asTup v fun vs=>nth vs i
 | .len k x=>ob (xval E x) fun x=>(match k with
  | .str=>asStr x fun s=>some (.int .i64 s.size)
  | .sl=>asSlice x fun _ n _ _=>some (.int .i64 n)
  | .arr n=>some (.int .i64 n)
  | .map=>none)
 | .max d=>ob (z0i E d) fun l=>lE l none fun x d=>maxX d x
 | .min d=>ob (z0i E d) fun l=>lE l none fun x d=>minX d x
 | _=>none
theorem zsf(a b:Int):ifb (ilt a b) b a=max a b:=by
 rw[z4h]
 by_cases h:a<b
 ·rw[decide_eq_true h,zq,Int.max_eq_right (by omega)]
 ·rw[decide_eq_false h,ze,Int.max_eq_left (by omega)]
theorem zsg(a b:Int):ifb (ilt b a) b a=min a b:=by
 rw[z4h]
 by_cases h:b<a
 ·rw[decide_eq_true h,zq,Int.min_eq_right (by omega)]
 ·rw[decide_eq_false h,ze,Int.min_eq_left (by omega)]
theorem zb5:∀ {xs:List LV} {x v:LV},maxX xs x=some v->foldL max2L xs x=some v
 | [],x,v,h=>h
 | y::c,x,v,h=>by
  cases y with
  | int d b=>
   cases x with
   | int k a=>
    show ob (some (LV.int k (ifb (ilt a b) b a))) _=_
    rw[zsf]
    exact zb5 (xs:=c) h
   | _=>cases h
  | _=>cases h
theorem zb6:∀ {xs:List LV} {x v:LV},minX xs x=some v->foldL min2L xs x=some v
 | [],x,v,h=>h
 | y::c,x,v,h=>by
  cases y with
  | int d b=>
   cases x with
   | int k a=>
    show ob (some (LV.int k (ifb (ilt b a) b a))) _=_
    rw[zsg]
    exact zb6 (xs:=c) h
   | _=>cases h
  | _=>cases h
section
variable {P:Program} {sz:Nat} {E:Env} {M:Mem}
theorem zhw{op:BinOp}{x y v:LV}(h:binX op x y=some v):eqGd op x=true/\binL P op 0 x y=some v:=by
 unfold binX at h
 split at h
 ·rename_i k a g b
  obtain⟨p,h⟩:=za.1 h
  have d:∀(f:Int->Int->Bool) (c:Bool),f a b=c->cmpI f (.int k a) (.int g b)=some (.bool c):=fun f c e=>by
   show guard' (kEq k g) (mkB (f a b))=_
   rw[p,zb,z2o,e]
  have j:∀(f:IntKind->Int->Int->Option LV) (c:LV),f k a b=some c->arI f (.int k a) (.int g b)=some c:=fun f c e=>by
   show guard' (kEq k g) (f k a b)=_
   rw[p,zb,e]
  cases op with
  | add=>cases h;exact⟨rfl,j (fun k a b=>mkI k (wr k (a+b))) _ (by show mkI k (wr k (a+b))=_;rw[z2e,z3r])⟩
  | sub=>cases h;exact⟨rfl,j _ _ (by rw[z2e,z3r])⟩
  | mul=>cases h;exact⟨rfl,j _ _ (by rw[z2e,z3r])⟩
  | lss=>cases h;exact⟨rfl,d _ _ (by simp[z4h])⟩
  | leq=>cases h;exact⟨rfl,d _ _ (by rw[Bool.eq_iff_iff];simp[z4h,Int.not_lt])⟩
  | gtr=>cases h;exact⟨rfl,d _ _ (by simp[z4h])⟩
  | geq=>cases h;exact⟨rfl,d _ _ (by rw[Bool.eq_iff_iff];simp[z4h,Int.not_lt])⟩
  | eql=>cases h;exact⟨rfl,d _ _ (by rw[Bool.eq_iff_iff];simp[z4r])⟩
  | neq=>cases h;exact⟨rfl,d (fun a b=>!(ieq a b)) (decide (a≠b)) (by rw[Bool.eq_iff_iff];simp[z4r])⟩
  | _=>cases h
 ·cases op<;>first
   |(cases h;done)
   |(cases h;refine⟨rfl,?_⟩;exact z2o _)
 ·cases h
theorem z23{i:XI}{v:LV}(h:xpure i E=some v)(M:Mem):zl P i E M=some (.val v M):=by
 cases i with
 | mv x=>show ob (xval E x) _=_;rw[show xval E x=some v from h];rfl
 | pick c a b=>
  obtain⟨w,j,d⟩:=z9.1 h
  obtain⟨q,rfl,p⟩:=z1w.1 d
  show ob (xval E c) _=_
  rw[j]
  cases q with
  | true=>show ob (xval E a) _=_;rw[show xval E a=some v from p];rfl
  | false=>show ob (xval E b) _=_;rw[show xval E b=some v from p];rfl
 | build z U=>
  obtain⟨w,j,d⟩:=z9.1 h
  obtain⟨q,p,A⟩:=z9.1 d
  cases A
  show ob (xParts E U) _=_
  rw[j,z8,p];rfl
 | nilc x=>obtain⟨w,j,d⟩:=z9.1 h;show ob (xval E x) _=_;rw[j,z8,d];rfl
 | bin J x y=>
  obtain⟨a,j,d⟩:=z9.1 h
  obtain⟨b,p,A⟩:=z9.1 d
  obtain⟨h5,H⟩:=zhw (P:=P) A
  show ob (xval E x) _=_
  rw[j,z8,p,z8]
  refine za.2 ⟨h5,?_⟩
  rw[H];rfl
 | eqs neg n V x y=>
  obtain⟨a,j,d⟩:=z9.1 h
  obtain⟨b,p,A⟩:=z9.1 d
  obtain⟨B,rfl,h5⟩:=z1b.1 A
  obtain⟨X,rfl,H⟩:=z1b.1 h5
  obtain⟨O,Q⟩:=za.1 H
  obtain⟨r,S,G⟩:=z9.1 Q
  cases G
  show ob (xval E x) _=_
  rw[j,z8,p,z8]
  show guard' _ (ob (eqSh B X V) _)=_
  rw[O,zb,S,z8,zr1]
  cases neg<;>rfl
 | un J x=>
  obtain⟨a,j,d⟩:=z9.1 h
  show ob (xval E x) _=_
  rw[j,z8]
  cases J with
  | neg=>obtain⟨k,n,rfl,p⟩:=zj.1 d;cases p;show ob (mkI k (wr k (0-n))) _=_;rw[z2e,z3r];rfl
  | not=>obtain⟨k,rfl,p⟩:=z1w.1 d;cases p;show ob (mkB (!k)) _=_;rw[z2o];rfl
  | _=>cases d
 | conv k x=>
  obtain⟨a,j,d⟩:=z9.1 h
  obtain⟨q,n,rfl,p⟩:=zj.1 d
  cases p
  show ob (xval E x) _=_
  rw[j,z8]
  show some (R1.val (.int k (wr k n)) M)=_
  rw[z3r]
 | convS x=>
  obtain⟨a,j,d⟩:=z9.1 h
  obtain⟨q,rfl,p⟩:=z0g.1 d
  cases p
  show ob (xval E x) _=_
  rw[j];rfl
 | mkf g a b=>
  obtain⟨Y,j,d⟩:=z9.1 h
  obtain⟨Z,p,A⟩:=z9.1 d
  cases A
  show ob (z0i E a) _=_
  rw[j,z8,p];rfl
 | fad off x=>
  obtain⟨a,j,d⟩:=z9.1 h
  obtain⟨i,o,rfl,p⟩:=z0v.1 d
  cases p
  show ob (xval E x) _=_
  rw[j];rfl
 | fld off n N x=>
  obtain⟨a,j,d⟩:=z9.1 h
  obtain⟨F,rfl,p⟩:=z1b.1 d
  show ob (xval E x) _=_
  rw[j,z8]
  show ob (partL N n off F) _=_
  rw[p];rfl
 | ext i x=>
  obtain⟨a,j,d⟩:=z9.1 h
  obtain⟨F,rfl,p⟩:=zbr.1 d
  show ob (xval E x) _=_
  rw[j,z8]
  show ob (nth F i) _=_
  rw[p];rfl
 | len k x=>
  obtain⟨a,j,d⟩:=z9.1 h
  show ob (xval E x) _=_
  rw[j,z8]
  cases k with
  | str=>obtain⟨s,rfl,p⟩:=z0g.1 d;cases p;show ob (mkN s.size) _=_;rw[zc8];rfl
  | sl=>obtain⟨s,n,f,e,rfl,p⟩:=z0m.1 d;cases p;show ob (mkN n) _=_;rw[zc8];rfl
  | arr n=>cases d;show ob (mkN n) _=_;rw[zc8];rfl
  | map=>cases d
 | max B=>
  obtain⟨a,j,d⟩:=z9.1 h
  show ob (z0i E B) _=_
  rw[j,z8]
  cases a with
  | nil=>cases d
  | cons a C=>show ob (foldL max2L C a) _=_;rw[zb5 d];rfl
 | min B=>
  obtain⟨a,j,d⟩:=z9.1 h
  show ob (z0i E B) _=_
  rw[j,z8]
  cases a with
  | nil=>cases d
  | cons a C=>show ob (foldL min2L C a) _=_;rw[zb6 d];rfl
 | _=>cases h
def I64(n:Int):Prop:=-9223372036854775808<=n/\n<=9223372036854775807
theorem z61{n:Int}(h:I64 n):IntKind.wrap .i64 n=n:=by
 unfold I64 at h
 have:=z3r .i64 n
 rw[<-this]
 unfold wr isI64 inI64
 cases n with
 | ofNat m=>
  show ifb (Nat.ble m 9223372036854775807) _ _=_
  have:Nat.ble m 9223372036854775807=true:=by rw[Nat.ble_eq];have:(m:Int)<=_:=h.2;omega
  rw[this];rfl
 | negSucc m=>
  show ifb (Nat.ble m 9223372036854775807) _ _=_
  have:Nat.ble m 9223372036854775807=true:=by rw[Nat.ble_eq];have:=h.1;omega
  rw[this];rfl
variable {x y:XO} {a b:Int}
theorem zw8(c:xval E x=some (.int .i64 a))(d:xval E y=some (.int .i64 b))(h:-9223372036854775808<=a+b/\a+b<=9223372036854775807):zl P (.bin .add x y) E M=some (.val (.int .i64 (a+b)) M):=by
 refine z23 ?_ M
 show ob (xval E x) _=_
 rw[c,z8,d]
 show some (LV.int .i64 (IntKind.wrap .i64 (a+b)))=_
 rw[z61 h]
theorem zwl(c:xval E x=some (.int .i64 a))(d:xval E y=some (.int .i64 b))(h:-9223372036854775808<=a-b/\a-b<=9223372036854775807):zl P (.bin .sub x y) E M=some (.val (.int .i64 (a-b)) M):=by
 refine z23 ?_ M
 show ob (xval E x) _=_
 rw[c,z8,d]
 show some (LV.int .i64 (IntKind.wrap .i64 (a-b)))=_
 rw[z61 h]
theorem zwd(c:xval E x=some (.int .i64 a))(d:xval E y=some (.int .i64 b))(h:-9223372036854775808<=a*b/\a*b<=9223372036854775807):zl P (.bin .mul x y) E M=some (.val (.int .i64 (a*b)) M):=by
 refine z23 ?_ M
 show ob (xval E x) _=_
 rw[c,z8,d]
 show some (LV.int .i64 (IntKind.wrap .i64 (a*b)))=_
 rw[z61 h]
theorem zwf(c:xval E x=some (.int .i64 a))(h:-9223372036854775808<=-a /\ -a<=9223372036854775807):zl P (.un .neg x) E M=some (.val (.int .i64 (-a)) M):=by
 refine z23 ?_ M
 show ob (xval E x) _=_
 rw[c]
 show some (LV.int .i64 (IntKind.wrap .i64 (0-a)))=_
 rw[Int.zero_sub,z61 h]
theorem zh0{b:Int}(h:b≠0):izero b=false:=by unfold izero;rw[z4r];simpa using h
theorem zmv(d:xval E x=some (.int .i64 a))(e:xval E y=some (.int .i64 b))(c:b≠0)(h:-9223372036854775808<=a.tdiv b/\a.tdiv b<=9223372036854775807):zl P (.bin .quo x y) E M=some (.val (.int .i64 (a.tdiv b)) M):=by
 show ob (xval E x) _=_
 rw[d,z8,e,z8]
 show guard' true (ob (guard' true (ifb (izero b) none (mkI .i64 (wr .i64 (a.tdiv b))))) _)=_
 rw[zb,zb,zh0 c,ze,z2e,z3r,z61 h];rfl
theorem zmw(d:xval E x=some (.int .i64 a))(e:xval E y=some (.int .i64 b))(c:b≠0):zl P (.bin .rem x y) E M=some (.val (.int .i64 (a.tmod b)) M):=by
 show ob (xval E x) _=_
 rw[d,z8,e,z8]
 show guard' true (ob (guard' true (ifb (izero b) none (mkI .i64 (a.tmod b)))) _)=_
 rw[zb,zb,zh0 c,ze,z2e];rfl
theorem zwg(d:xval E x=some (.int .i64 a))(g:xval E y=some (.int .i64 b))(c:0<=a/\a<=9223372036854775807)(p:0<b):zl P (.bin .quo x y) E M=some (.val (.int .i64 (a/b)) M):=by
 have e:a.tdiv b=a/b:=Int.tdiv_eq_ediv_of_nonneg c.1
 have h:0<=a/b:=Int.ediv_nonneg c.1 (by omega)
 have j:a/b<=a:=Int.ediv_le_self b c.1
 rw[<-e]
 exact zmv d g (by omega) (by rw[e];omega)
theorem zwh(e:xval E x=some (.int .i64 a))(g:xval E y=some (.int .i64 b))(c:0<=a)(d:b≠0):zl P (.bin .rem x y) E M=some (.val (.int .i64 (a%b)) M):=by
 rw[<-Int.tmod_eq_emod_of_nonneg c]
 exact zmw e g d
