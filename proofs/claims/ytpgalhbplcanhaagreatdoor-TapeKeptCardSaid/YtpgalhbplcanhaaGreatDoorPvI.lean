/-
 Rules by which code is walked that may die;a function that puts off a call that recovers. No condition.
-/
import Derived.Test.YtpgalhbplcanhaaGreatDoorPvH
import Derived.Test.YtpgalhbplcanhaaGreatDoorPvG
set_option linter.unusedVariables false
section
namespace PvL
set_option linter.unusedSectionVars false
open Go
variable {fuel s i:Nat} {ops:Array Oper} {d:Option Nat} {g:Option (Nat × Bool)}
section
variable {P:Program}
def OpsL (P:Program)(ops:Array Oper)(ro:Option Nat)(is:List Nat)(T:Tm)(ms:List Dfr)(m:Mem)(K:Ex->Tm->List Dfr->Mem->Prop)(D:LV->Tm->List Dfr->Mem->Prop):Prop :=
 ∀(Pt:Prot) (e:Rho) (b:Frame) (k:List Item) (h:List Frame) (w:World) (a:Act),RO e ro b.roundOf->TR e T a.tmps->DR e ms a.defers->Rel Pt e m w->FreshA e m.next ->
  ∃ o,OutG K D o/\m.next<=o.mem.next/\CodeOut P Pt e m.next (lone (b.atR a (.inRegion ops is::k)) h w) b k h o
variable {fn:FuncId} {ro:Option Nat} {T:Tm} {ms:List Dfr} {m:Mem} {K:Ex->Tm->List Dfr->Mem->Prop} {D:LV->Tm->List Dfr->Mem->Prop} {ops:Array Oper} {i:Nat} {o:Oper} {is:List Nat}
theorem OpsL.mono {A:Ex->Tm->List Dfr->Mem->Prop}{u:LV->Tm->List Dfr->Mem->Prop}(h:OpsL P ops ro is T ms m K D)(O:∀ e T ms m,K e T ms m->A e T ms m)(N:∀ v T ms m,D v T ms m->u v T ms m):OpsL P ops ro is T ms m A u:=fun Pt R b k B w a C G H J h5=>by
 obtain⟨o,j,p,L⟩:=h Pt R b k B w a C G H J h5
 refine⟨o,?_,p,L⟩
 cases o with
 | code e T ms m=>exact O _ _ _ _ j
 | boom v T ms m=>exact N _ _ _ _ j
 | call _ _=>exact j
 | die _ _=>exact j
theorem zhg (h:K .norm T ms m):OpsL P ops ro [] T ms m K D:=fun Pt A b k B w a u j p e C=>
 ⟨.code .norm T ms m,h,Nat.le_refl _,A,a,w,Same.refl _ _ _,j,p,e,.one stepR_region_end⟩
theorem zom [Orc P](C:OmOk P)(ho:ops[i]?=some o)(hw:wanted ops.toList T o.guard=some true)(B:isDefer o.op=none){T':Tm}{V:Mem}(U:z1c (om P) (op1 P o.op T m) T o.dst T' V)(h:OpsL P ops ro is T' ms V K D):OpsL P ops ro (i::is) T ms m K D:=fun Pt ρ b k S w a L H Z u G=>by
 have N:=z0y hw H
 have O:=U.next' C.mono (z48 o.op)
 obtain⟨R,v1,w1,j,J,A,p⟩:=z49 (b:=b) C.mono C.sim ho U C.fn (z48 o.op) (fun r hr G=>z9s hr H u G) (fun c e=>by rw[e] at B;cases B) is k S N H u (G.fresh _)
 obtain⟨q,hq,X,Y⟩:=h Pt R b k S w1 _ (L.mono j.1) J (by rw[z0f];exact Z.mono j.1) A (G.same j O)
 exact⟨q,hq,Nat.le_trans O X,Y.after p j O X⟩
theorem zlw {f:FuncId}{as:List LV}{Q D1:LV->Mem->Prop}(C:∃ fd,fnOf P f=some fd)(ho:ops[i]?=some o)(hw:wanted ops.toList T o.guard=some true)(R:isDefer o.op=none)(hA:op1 P o.op T m=some (.enter f as m))(hc:CallE P f as m Q D1)(h:∀ v A,Q v A->∃ T',T.put o.dst v=some T'/\OpsL P ops ro is T' ms A K D)(N:∀ v A,D1 v A->D v T ms A):OpsL P ops ro (i::is) T ms m K D:=fun Pt ρ b k H w a a2 L hd B hf=>by
 have a3:=z0y hw L
 have S:∀ c,o.op≠.defer c:=fun c e=>by rw[e] at R;cases R
 obtain⟨_,a0⟩:=z9s (P:=P) (a:=a) hA L B (hf.fresh _)
 obtain⟨fd,C⟩:=C
 obtain⟨J,U,Z⟩:=a0 fd C
 have O:∀ v,(b.atR a (.inRegion ops (i::is)::k)).finish v=b.atR (a.put o.dst v) (.inRegion ops is::k):=by
  intro v;rw[Frame.finish_atR,ho];rfl
 have u:step P (lone (b.atR a (.inRegion ops (i::is)::k)) H w)=.next (lone (Frame.enter P f J .normal) (b.atR a (.inRegion ops (i::is)::k)::H) w) :=
  step_lone_go (by rw[stepGR_op ho a3,Oper.semAt_eq _ _ _ S];simp[stepG.apply,U,Frame.atR])
 rcases hc Pt ρ w J (b.atR a (.inRegion ops (i::is)::k)::H) Z L.3 B hf with⟨v,A,hq,V,G,v',w',j,hv,p,fr,X,h2,Y⟩|⟨v,A,hq,V,G,v',w',j,hv,p,fr,X,h2,Y⟩
 ·obtain⟨T',hp,hn⟩:=h v A hq
  obtain⟨q,a1,n2,h4⟩:=hn Pt G b k H w' (a.put o.dst v') (a2.mono j.1) ((L.mono j.1).put hp hv) (by rw[z0f];exact hd.mono j.1) p (hf.same j V)
  refine⟨q,a1,Nat.le_trans V n2,h4.after (.head u (X.trans (.one ?_))) j V n2⟩
  rw[<-O];exact step_leave_returned Y
 ·refine⟨.boom v T ms A,N v A hq,V,G,a,w',v',(.inRegion ops (i::is)::k),j,L.mono j.1,hd.mono j.1,p,hv,.head u (X.trans (.one ?_))⟩
  have:=step_leave_panicked (c:=b.atR a (.inRegion ops (i::is)::k)) (cs:=H) Y
  rw[Frame.raise_atR] at this
  exact this
def OpsG (P:Program)(ops:Array Oper)(ro:Option Nat)(fuel:Nat)(L:Array Bool)(T:Tm)(ms:List Dfr)(m:Mem)(K:Ex->Tm->List Dfr->Mem->Prop)(D:LV->Tm->List Dfr->Mem->Prop):Prop :=
 ∀ t,OpsL P ops ro (Region.linearise.go .any ops fuel t L []) T ms m K D
theorem zf8 (e:P.follows .mixedOrders=true){id:Nat}(h:OpsG P ops ro ops.size (Array.replicate ops.size false) T ms m K D):CodeE P fn ro (.region id ops true) T ms m K D:=fun Pt L b k A w a N u C G j H=>by
 have p:Region.schedule (P.follows .mixedOrders) ops (w.tape w.drawn (.order b.fn id))=Region.linearise.go .any ops ops.size (w.tape w.drawn (.order b.fn id)) (Array.replicate ops.size false) []:=by
  simp only[Region.schedule,e,Bool.true_or,if_true];rfl
 obtain⟨o,J,n,B⟩:=h (w.tape w.drawn (.order b.fn id)) Pt L b k A { w with drawn:=w.drawn+1 } a u C G (j.of_heap rfl) H
 refine⟨o,J,n,CodeOut.of_steps (.one stepR_region_draw) ?_⟩
 rw[p]
 exact B
theorem zol {L:Array Bool}(j:Region.ready .any ops L=[])(h:K .norm T ms m):OpsG P ops ro fuel L T ms m K D:=fun t=>by
 cases fuel with
 | zero=>exact zhg h
 | succ n=>
  have e:Region.linearise.go .any ops (n+1) t L []=[]:=by
   show(match (Region.ready .any ops L)[t%(Region.ready .any ops L).length]? with
    | some i=>Region.linearise.go .any ops n (t/(Region.ready .any ops L).length) (L.setIfInBounds i true) [i]
    | none=>([]:List Nat).reverse)=[]
   rw[j];rfl
  rw[e];exact zhg h
theorem zlv {L:Array Bool}(j:Region.ready .any ops L≠[])(h:∀ i∈Region.ready .any ops L,∀ is,(∀ T' p,OpsG P ops ro fuel (L.setIfInBounds i true) T' ms p K D->OpsL P ops ro is T' ms p K D)->OpsL P ops ro (i::is) T ms m K D):OpsG P ops ro (fuel+1) L T ms m K D:=fun t=>by
 have e:Region.linearise.go .any ops (fuel+1) t L []=match (Region.ready .any ops L)[t%(Region.ready .any ops L).length]? with
  | some i=>Region.linearise.go .any ops fuel (t/(Region.ready .any ops L).length) (L.setIfInBounds i true) [i]
  | none=>([]:List Nat).reverse:=rfl
 rw[e]
 cases u:(Region.ready .any ops L)[t%(Region.ready .any ops L).length]? with
 | none=>exact absurd (z44 u) j
 | some i=>
  show OpsL P ops ro (Region.linearise.go .any ops fuel (t/(Region.ready .any ops L).length) (L.setIfInBounds i true) [i]) T ms m K D
  rw[linearise_go_acc,List.reverse_singleton,List.singleton_append]
  exact h i (List.mem_of_getElem? u) _ fun T' p A=>A _
end
section
variable {P:Program} [Orc P] {sz:Nat}
theorem zjp {o:Op}{i:XI}(h:cOp P o=some i):isDefer o=none:=by
 cases o<;>first|rfl|cases h
theorem z8j {all:List Oper}{ds:List Nat}:∀(os:List Oper) (n:Nat) (l:List (XG×XK)),cDrawn P sz all ds os n=some l->l.length=os.length /\ ∀(i:Nat) (o:Oper),os[i]?=some o->∃(g:XG) (kd:XK),l[i]?=some (g,kd)/\cOper P sz all o=some g
 | [],n,l,h=>by cases h;exact⟨rfl,fun i o h=>by simp at h⟩
 | o::os,n,l,h=>by
  simp only[cDrawn] at h
  split at h
  ·rename_i B l' h1 u
   cases h
   obtain⟨j,p⟩:=z8j os (n+1) l' u
   refine⟨by simp[j],fun i A e=>?_⟩
   cases i with
   | zero=>cases e;exact⟨_,_,rfl,h1⟩
   | succ i=>exact p i A (by simpa using e)
  ·cases h
structure LB1 (ops:Array Oper) (L:Array Bool) (s:Nat):Prop where
 sz:L.size=ops.size
 bit:∀ i,i < ops.size->L.getD i false=Nat.testBit s i
 down:∀ j o,ops[j]?=some o->L.getD j false=true->∀ e ∈ o.after,Region.binds .any e=true->L.getD e.on false=true
def rdy (ds:List Nat)(s i:Nat):Bool:=!(Nat.testBit s i)&&Nat.beq (Nat.land (ds.getD i 0) s) (ds.getD i 0)
theorem LB1.rdy {L:Array Bool}(h:LB1 ops L s)(hi:i∈Region.ready .any ops L):∃ o,ops[i]?=some o/\L.getD i false=false/\rdy (deps ops) s i=true/\LB1 ops (L.setIfInBounds i true) (Nat.lor s (2^i)):=by
 obtain⟨V,o,H,X⟩:=mem_ready.1 hi
 have B:=z14 H
 have p:i<L.size:=by rw[h.sz];exact B
 have C:L.getD i false=false:=by simp[p] at V ⊢;exact V
 refine⟨o,H,C,?_,⟨by simp[h.sz],fun j u=>?_,fun j o' A u=>?_⟩⟩
 ·unfold PvL.rdy
  rw[<-h.bit i B,C]
  have Z:=z5t (S:=fun i=>L.getD i false=true) h.down (i+1) i (Nat.lt_succ_self _) o H X
  have:Nat.land ((deps ops).getD i 0) s=(deps ops).getD i 0:=by
   refine Nat.eq_of_testBit_eq fun j=>?_
   show Nat.testBit ((deps ops).getD i 0 &&& s) j=_
   rw[Nat.testBit_and]
   cases G:Nat.testBit ((deps ops).getD i 0) j with
   | false=>rfl
   | true=>
    have J:=Z j G
    have u:j<ops.size:=by
     rcases Nat.lt_or_ge j L.size with O|N
     ·rw[<-h.sz];exact O
     ·rw[show L.getD j false=false by simp[Array.getElem?_eq_none N]] at J;cases J
    rw[<-h.bit j u,J];rfl
  rw[this];simp
 ·rw[z1s p]
  show _=Nat.testBit (s ||| 2^i) j
  rw[Nat.testBit_or,Nat.testBit_two_pow]
  by_cases e:j=i
  ·subst e;simp
  ·rw[if_neg e,h.bit j u,decide_eq_false (fun Y=>e Y.symm),Bool.or_false]
 ·rw[z1s p] at u
  intro e U G
  rw[z1s p]
  split
  ·rfl
  ·by_cases R:j=i
   ·subst R
    rw[H] at A;cases A
    exact X e U G
   ·rw[if_neg R] at u
    exact h.down j o' A u e U G
theorem LB1.none_ready (u:RegOk P ops){L:Array Bool}(h:LB1 ops L s)(C:Region.ready .any ops L=[]):∀ n i,i<n->i<ops.size->L.getD i false=true
 | 0,i,A,_=>absurd A (Nat.not_lt_zero _)
 | n+1,i,A,p=>by
  have B:ops[i]?=some ops[i]:=Array.getElem?_eq_getElem p
  cases G:L.getD i false with
  | true=>rfl
  | false=>
   have j:i∈Region.ready .any ops L:=by
    rw[mem_ready]
    refine⟨?_,ops[i],B,fun e J H=>?_⟩
    ·have N:i<L.size:=by rw[h.sz];exact p
     simp[N] at G ⊢;exact G
    ·have:=u.edge i _ B e J H
     exact LB1.none_ready u h C n e.on (by omega) (by omega)
   rw[C] at j;cases j
def XQ (P:Program)[Orc P](sz:Nat)(l:List (XG×XK))(ds:List Nat)(s:Nat)(E:Env)(M:Mem)(K:Env->Mem->Prop):Prop :=
 ∀(ops:Array Oper) (L:Array Bool) (fuel:Nat) (T:Tm) (ro:Option Nat) (ms:List Dfr),RegOk P ops->deps ops=ds->cDrawn P sz ops.toList ds ops.toList 0=some l->LB1 ops L s->zt sz E T->OmOk P->unl L ops.size<=fuel ->
  OpsG P ops ro fuel L T ms M (fun e u h p=>e=.norm/\h=ms /\ ∃ j,zt sz j u/\K j p) (fun _ _ _ _=>False)
def XT (P:Program)[Orc P](sz:Nat)(l:List (XG×XK))(ds:List Nat)(s i:Nat)(g:XG)(E:Env)(M:Mem)(K:Env->Mem->Prop):Prop :=
 ∀(ops:Array Oper) (o:Oper) (T:Tm),ops[i]?=some o->cOper P sz ops.toList o=some g->zt sz E T->OmOk P->∀(ro:Option Nat) (ms:List Dfr) (is:List Nat) (h:Ex->Tm->List Dfr->Mem->Prop),
  (∀ e j p,XQ P sz l ds (Nat.lor s (2^i)) e j K->zt sz e p->OpsL P ops ro is p ms j h fun _ _ _ _=>False)->OpsL P ops ro (i::is) T ms M h fun _ _ _ _=>False
def XAll (P:Program)[Orc P](sz:Nat)(l:List (XG×XK))(ds:List Nat)(s:Nat)(E:Env)(M:Mem)(K:Env->Mem->Prop):List (XG×XK)->Nat->Prop
 | [],_=>True
 |(g,_)::r,i=>(rdy ds s i=true->XT P sz l ds s i g E M K)/\XAll P sz l ds s E M K r (i+1)
variable {l:List (XG × XK)} {ds:List Nat} {s:Nat} {E:Env} {M:Mem} {K:Env->Mem->Prop}
theorem XAll.at_:∀ {r:List (XG×XK)} {n:Nat},XAll P sz l ds s E M K r n->∀ {i:Nat} {g:XG} {kd:XK},r[i]?=some (g,kd)->rdy ds s (n+i)=true->XT P sz l ds s (n+i) g E M K
 | [],n,h,i,g,kd,hi,e=>by simp at hi
 | x::r,n,h,0,g,kd,hi,e=>by cases hi;exact h.1 e
 | x::r,n,h,i+1,g,kd,hi,e=>by
  have:=XAll.at_ h.2 (i:=i) (g:=g) (kd:=kd) (by simpa using hi) (by rw[show n+1+i=n+(i+1) by omega];exact e)
  rw[show n+1+i=n+(i+1) by omega] at this;exact this
def undone (s:Nat):Nat->Bool
 | 0=>false
 | n+1=>!(Nat.testBit s n)||undone s n
theorem zel:∀ {n:Nat},undone s n=true->∃ i,i<n/\Nat.testBit s i=false
 | n+1,h=>by
  simp only[undone,Bool.or_eq_true,Bool.not_eq_true'] at h
  rcases h with h|h
  ·exact⟨n,Nat.lt_succ_self _,h⟩
  ·obtain⟨i,h1,e⟩:=zel h
   exact⟨i,by omega,e⟩
theorem zem:∀ {n:Nat},undone s n=false->∀ i,i<n->Nat.testBit s i=true
 | n+1,h,i,hi=>by
  simp only[undone,Bool.or_eq_false_iff,Bool.not_eq_false'] at h
  by_cases e:i=n
  ·subst e;exact h.1
  ·exact zem h.2 i (by omega)
theorem zaa (hu:undone s l.length=true)(h:XAll P sz l ds s E M K l 0):XQ P sz l ds s E M K:=fun ops L fuel T ro ms C u X G he V hf=>by
 obtain⟨B,N⟩:=z8j _ _ _ X
 obtain⟨j,Y,R⟩:=zel hu
 have p:j<ops.size:=by rw[B] at Y;simpa using Y
 have A:L.getD j false=false:=by rw[G.bit j p];exact R
 cases fuel with
 | zero=>
  have:=z8b ops.size (Nat.le_zero.1 hf) j p
  rw[A] at this;cases this
 | succ fuel=>
  refine zlv (fun hr=>?_) fun i hi is e=>?_
  ·have:=G.none_ready C hr (j+1) j (by omega) p
   rw[A] at this;cases this
  ·obtain⟨o,H,hl,S,J⟩:=G.rdy hi
   obtain⟨g,kd,h1,h2⟩:=N i o (by simpa using H)
   have Z:=h.at_ h1 (by rw[Nat.zero_add,<- u];exact S)
   rw[Nat.zero_add] at Z
   refine Z ops o T H h2 he V ro ms is _ fun E' M' U hq O=>e U M' (hq ops _ fuel U ro ms C u X J O V ?_)
   have hs:i<L.size:=by rw[G.sz];exact z14 H
   have:=(zcn hs hl ops.size).2 (z14 H)
   omega
theorem zqr (N:undone s l.length=false)(B:K E M):XQ P sz l ds s E M K:=fun ops L fuel T ro ms H u p h A O R=>by
 obtain⟨e,j⟩:=z8j _ _ _ p
 refine zol ?_ ⟨rfl,rfl,E,A,B⟩
 cases J:Region.ready .any ops L with
 | nil=>rfl
 | cons i r=>
  obtain⟨o,G,C,-,-⟩:=h.rdy (i:=i) (by rw[J];simp)
  have hi:=z14 G
  have:=zem N i (by rw[e];simpa using hi)
  rw[<-h.bit i hi,C] at this;cases this
theorem zqv {x:XI}(J:GOn E g){r:R1}(O:zl P x E M=some r){v:LV}{M':Mem}(hf:RTo P r v M')(L:XQ P sz l ds (Nat.lor s (2^i)) (putE E d v) M' K):XT P sz l ds s i ⟨d,x,g⟩ E M K:=fun ops o T N H j G ro ms is R e=>by
 obtain⟨A,u,h5,B⟩:=z3u H
 have C:=z2f j u O
 obtain⟨S,h,p⟩:=j.put B v
 exact zom G N (z0u h5 j J) (zjp u) (hf.stepR C (by rw[A];exact h)) (e _ _ _ L p)
theorem z2l {x:XI}(e:GOn E g){v:LV}{M':Mem}(j:zl P x E M=some (.val v M'))(h:XQ P sz l ds (Nat.lor s (2^i)) (putE E d v) M' K):XT P sz l ds s i ⟨d,x,g⟩ E M K :=
 zqv e j ⟨rfl,rfl⟩ h
theorem zhs (N:GOn E g){f:XO}{as:List XO}{gf:FuncId}{fi ca vs:List LV}(hf:xval E f=some (.func (.func gf) fi ca))(p:z0i E as=some vs){Q:LV->Mem->Prop}(h:CallN P gf (fi++vs++ca) M Q)(O:∀ v M',Q v M'->XQ P sz l ds (Nat.lor s (2^i)) (putE E d v) M' K):XT P sz l ds s i ⟨d,.call f as,g⟩ E M K:=fun ops o T R L u J ro ms is X e=>by
 obtain⟨G,B,h5,H⟩:=z3u L
 have U:zl P (.call f as) E M=some (.enter gf (fi++vs++ca) M):=by
  show ob (z0i E as) _=_
  rw[p,z8,hf];rfl
 refine zlw h.1 R (z0u h5 u N) (zjp B) (z2f u B U) (h.2 J) (fun v V S=>?_) (fun _ _ h=>h.elim)
 obtain⟨C,j,A⟩:=u.put H v
 exact⟨C,by rw[G];exact j,e _ _ _ (O v V S) A⟩
theorem zt8 {fn:FuncId}{ro:Option Nat}{ms:List Dfr}{K:Ex->Env->List Dfr->Mem->Prop}(A:P.follows .mixedOrders=true)(h:XQ P sz l ds 0 E M fun E M=>K .norm E ms M):W .gen P fn ro sz (.draw l ds) E ms M K:=fun code T p U S=>by
 cases code with
 | region i ops d=>
  cases d with
  | true=>
   simp only[zy] at p
   split at p
   ·rename_i B
    split at p
    ·rename_i X V
     cases p
     have u:∀ i,(Array.replicate ops.size false).getD i false=false:=fun i=>by
      by_cases hi:i<ops.size
      ·simp[hi]
      ·simp[Array.getElem?_eq_none (show(Array.replicate ops.size false).size<=i by simp;omega)]
     have R:LB1 ops (Array.replicate ops.size false) 0:=⟨by simp,fun i _=>by rw[u,Nat.zero_testBit],fun j o _ C=>by rw[u] at C;cases C⟩
     have O:=h ops (Array.replicate ops.size false) ops.size T ro ms (z4b B) rfl V R U S (zhm _ _)
     exact zf8 A fun t=>OpsL.mono (O t) (fun e T ms m ⟨H,J,G,L,N⟩=>by subst H;subst J;exact⟨G,L,N⟩) (fun _ _ _ _ h=>h)
    ·cases p
   ·cases p
  | false=>simp only[zy] at p;(repeat' split at p)<;>cases p
 | skip|label|ret|goto|refuse|exit=>cases p
 | _=>simp only[zy] at p;split at p<;>cases p
end
end PvL
end
section
namespace PvL
set_option linter.unusedSectionVars false
open Go
variable {l:Nat}
section
variable {P:Program}
def RoundE (P:Program)(l:Nat)(as:List LV)(m:Mem)(Q:LV->Mem->Prop):Prop :=
 ∀(Pt:Prot) (p:Rho) (w:World) (u:Array Value) (A s c:Nat) (G:Frame) (C:List Frame),p l=some (A,s,c)->VRs p as u.toList->GlobOk p->Rel Pt p m w->FreshA p m.next ->
  ∃ v B,Q v B/\m.next<=B.next /\ ∃ j H J,Same p j m.next B.next/\VR j v H/\Rel Pt j B J /\ ∃ f h assign e,(Instr.yield A u).run P w=.ok (.round A f h assign e) w /\
   Steps P (lone (Frame.round A f h assign e .normal) (G::C) w) (lone (G.finish H) C J)
variable {fn:FuncId} {ro:Option Nat} {T:Tm} {ms:List Dfr} {m:Mem} {K:Ex->Tm->List Dfr->Mem->Prop} {D:LV->Tm->List Dfr->Mem->Prop} {ops:Array Oper} {i n:Nat} {o:Oper}
theorem zj0 {as:List LV}{Q:LV->Mem->Prop}(ho:ops[i]?=some o)(hw:wanted ops.toList T o.guard=some true)(H:isDefer o.op=none)(hA:opA P o.op T m=some (.round l as m))(hc:RoundE P l as m Q)(h:∀ v R,Q v R->∃ T',T.put o.dst v=some T'/\OpsE P ops ro (i+1) n T' ms R K D):OpsE P ops ro i (n+1) T ms m K D:=fun Pt ρ b k N w a Y O hd u V=>by
 have a0:=z0y hw O
 have J:∀ c,o.op≠.defer c:=fun c e=>by rw[e] at H;cases H
 obtain⟨_,bl,s,c,S,a1,U,A⟩:=z9t (P:=P) (a:=a) hA O u (V.fresh _)
 have G:∀ v,(b.atR a (.inRegion ops (i::List.range' (i+1) n)::k)).finish v=b.atR (a.put o.dst v) (.inRegion ops (List.range' (i+1) n)::k):=by
  intro v;rw[Frame.finish_atR,ho];rfl
 obtain⟨v,R,hq,n1,a2,v',w',j,hv,B,f,L,assign,C,hy,Z⟩:=hc Pt ρ w S bl s c (b.atR a (.inRegion ops (i::List.range' (i+1) n)::k)) N a1 U O.3 u V
 rw[hy] at A
 have p:step P (lone (b.atR a (.inRegion ops (i::List.range' (i+1) n)::k)) N w)=.next (lone (Frame.round bl f L assign C .normal) (b.atR a (.inRegion ops (i::List.range' (i+1) n)::k)::N) w) :=
  step_lone_go (by rw[stepGR_op ho a0,Oper.semAt_eq _ _ _ J];simp[stepG.apply,A,Frame.atR])
 rw[z2d]
 obtain⟨T',hp,hn⟩:=h v R hq
 obtain⟨q,X,n2,h4⟩:=hn Pt a2 b k N w' (a.put o.dst v') (Y.mono j.1) ((O.mono j.1).put hp hv) (by rw[z0f];exact hd.mono j.1) B (V.same j n1)
 refine⟨q,X,Nat.le_trans n1 n2,h4.after (.head p ?_) j n1 n2⟩
 rw[<-G];exact Z
theorem zm9 {as:List LV}{d5:Option Code}{tm:Tm}{ps:List Tmp}{assign body:Code}{d:Nat}{Q:LV->Mem->Prop}(hg:m.get l=some (.loop .ready d5 fn tm ps assign body d))(c0:setParams ps as tm=some T)(h:CodeE P fn (some l) assign T [] m (fun e T1 d3 m1=>e=.norm /\ ∃ u N a6 O J L d2,m1.get l=some (.loop .ready u N a6 O J L d2) /\
   CodeE P fn (some l) body T1 d3 (m1.upd l (some (.loop .busy u N a6 O J L d2))) (fun e3 T3 e6 m3=>∃ v m',roundEnd l e3 m3=some (.call v m')/\Q v m') fun _ _ _ _=>False) fun _ _ _ _=>False):RoundE P l as m Q:=by
 intro Pt ρ w a9 R s c fc cs b6 c2 hG a8 hf
 obtain⟨TT,db,hh,e4,f2⟩:=a8.loop hg b6
 obtain⟨j,d1,e1⟩:=z4f ps as tm T a9.toList TT c0 c2 e4
 let b:Frame:={ fn:=fn,tmps:=#[],todo:=[],defers:=[],mode:=.run,kind:=.normal,roundOf:=some R }
 obtain⟨o1,a0,n1,h1⟩:=h Pt ρ b [.beginRound,.code body] (fc::cs) w { tmps:=j,defers:=[] } rfl ⟨s,c,b6⟩ e1 trivial a8 hf
 have A:(Instr.yield R a9).run P w=.ok (.round R fn j assign body) w:=by
  unfold Instr.yield Instr.getLoop
  simp only[Sem.run_bind,z02 hh (by simp),Result.andThen_ok,Sem.run_pure]
  have hl:a9.size=ps.toArray.size:=by
   have:=c2.length
   have h2:=z4e ps as tm T c0
   simp at this ⊢;omega
  simp only[hl,ne_eq,not_true_eq_false,if_false,Sem.run_pure]
  rw[d1,<- Array.foldl_toList,Array.toList_zip]
 have a5:Frame.round R fn j assign body .normal=b.atR { tmps:=j,defers:=[] } [.code assign,.beginRound,.code body]:=by
  simp[Frame.round,Frame.atR,b]
 cases o1 with
 | boom _ _ _ _=>exact a0.elim
 | call _ _=>exact a0.elim
 | die _ _=>exact a0.elim
 | code e T1 d3 m1=>
  obtain⟨rfl,u,N,a6,O,J,L,d2,c7,hb⟩:=a0
  have n1:m.next<=m1.next:=n1
  obtain⟨e9,a1,w1,b4,e2,e5,c9,b1⟩:=h1
  have G:=b4.1 _ _ b6
  obtain⟨b8,b9,b2,c1,c4⟩:=c9.loop c7 G
  have c3:R<w1.heap.size:=(Array.getElem?_eq_some_iff.1 b2).1
  have d0:=c9.turnLoop (st':=.busy) (pend':=u) c7 G c1 c4 c3
  have Y:(Instr.beginRound R).run P w1=.ok () { w1 with heap:=w1.heap.setIfInBounds R (.loop { state:=.busy,pending:=u,fn:=N,tmps:=b8,params:=O.toArray,assign:=J,body:=L,defers:=b9 }) }:=by
   unfold Instr.beginRound Instr.getLoop
   simp only[Sem.run_bind,z02 b2 (by simp),Result.andThen_ok,Sem.run_pure,z1l b2 (by simp)]
  have b7:Steps P (lone (Frame.round R fn j assign body .normal) (fc::cs) w) (lone (b.atR a1 [.code body]) (fc::cs) { w1 with heap:=w1.heap.setIfInBounds R (.loop { state:=.busy,pending:=u,fn:=N,tmps:=b8,params:=O.toArray,assign:=J,body:=L,defers:=b9 }) }):=by
   rw[a5]
   exact Steps.trans b1 (.one (stepR_beginRound rfl Y))
  have c8:(m1.upd l (some (.loop .busy u N a6 O J L d2))).next=m1.next:=Mem.next_upd _ _ _
  obtain⟨o3,a2,n2,h3⟩:=hb Pt e9 b [] (fc::cs) _ a1 rfl ⟨s,c,G⟩ e2 e5 d0 (by rw[c8];exact hf.same b4 n1)
  cases o3 with
  | boom _ _ _ _=>exact a2.elim
  | call _ _=>exact a2.elim
  | die _ _=>exact a2.elim
  | code e3 T3 e6 m3=>
   obtain⟨v,m',c5,hq⟩:=a2
   obtain⟨a7,a3,w3,b5,f0,f1,a4,p⟩:=h3
   rw[c8] at b5 n2
   have n2:m1.next<=m3.next:=n2
   have H:=b5.1 _ _ G
   obtain⟨f3,e7,e0,f4,e8,d7,d8,d4,Z,b0⟩:=z1e c5
   obtain⟨d6,d9,b3,S,V⟩:=a4.loop Z H
   have U:R<w3.heap.size:=(Array.getElem?_eq_some_iff.1 b3).1
   have C:∀ B:Option Code,(Instr.endRound R B).run P w3=.ok (.bool B.isNone) { w3 with heap:=w3.heap.setIfInBounds R (.loop { state:=if B.isNone then .ready else .done,pending:=B,fn:=e0,tmps:=d6,params:=e8.toArray,assign:=d7,body:=d8,defers:=d9 }) }:=by
    intro B
    unfold Instr.endRound Instr.getLoop
    simp only[Sem.run_bind,z02 b3 (by simp),Result.andThen_ok,Sem.run_pure,z1l b3 (by simp)]
   have X:Same ρ a7 m.next m3.next:=b4.trans b5 n1 n2
   cases e3 with
   | norm=>
    cases b0
    refine⟨_,_,hq,by rw[Mem.next_upd];omega,a7,.bool true,_,by rw[Mem.next_upd];exact X,.bool _,a4.turnLoop (st':=.ready) (pend':=none) Z H S V U,fn,j,assign,body,A,?_⟩
    exact b7.trans (Steps.trans p (.one (stepR_round_end rfl rfl (C none))))
   | ret=>
    cases b0
    obtain⟨k1,p⟩:=p
    refine⟨_,_,hq,by rw[Mem.next_upd];omega,a7,.bool false,_,by rw[Mem.next_upd];exact X,.bool _,a4.turnLoop (st':=.done) (pend':=some .ret) Z H S V U,fn,j,assign,body,A,?_⟩
    exact b7.trans (Steps.trans p (.one (stepR_round_ret rfl rfl (C (some .ret)))))
   | exit id=>
    cases b0
    obtain⟨k1,hk,p⟩:=p
    refine⟨_,_,hq,by rw[Mem.next_upd];omega,a7,.bool false,_,by rw[Mem.next_upd];exact X,.bool _,a4.turnLoop (st':=.done) (pend':=some (.exit id)) Z H S V U,fn,j,assign,body,A,?_⟩
    exact b7.trans (Steps.trans p (.one (stepR_round_exit rfl rfl (by rw[hk];rfl) (C (some (.exit id))))))
end
section
variable {P:Program} [Orc P] {sz:Nat}
def RoundN (P:Program)[Orc P](l:Nat)(as:List LV)(M:Mem)(Q:LV->Mem->Prop):Prop:=OmOk P->RoundE P l as M Q
theorem zma {fn:FuncId}{E:Env}{M:Mem}{lb:LoopState->Option Code->LB}{A:List Tmp}{a b:XC}(S:LoopSt P fn sz E A a b lb){H:Option Code}(ha:At M l (lb .ready H)){args:List LV}(hn:args.length=A.length){Q:LV->Mem->Prop}(h:W .gen P fn (some l) sz a (zipP A args E) [] M (KAssign .gen P fn sz l lb b Q)):RoundN P l args M Q:=fun V=>by
 obtain⟨T,ca,B,d,h1,h2,h3,h4,rfl⟩:=S.is
 obtain⟨Z,h7,h8⟩:=z53 h1 h4 hn
 refine zm9 ha.1 h7 ((h ca Z h2 h8 V).mono ?_ fun _ _ _ _ h=>h)
 rintro e T2 a1 Y ⟨E2,O,rfl,j,G,R⟩
 have X:Upd Y l (.loop .busy j fn T A ca B d) (Y.upd l (some (.loop .busy j fn T A ca B d))):=⟨rfl⟩
 refine⟨rfl,j,fn,T,A,ca,B,d,G.1,(R _ X (Mem.next_upd _ _ _) (At.upd_same X G) B T2 h3 O V).mono ?_ fun _ _ _ _ h=>h⟩
 rintro J T3 a2 L ⟨E3,a0,a3,U,u,C⟩
 have p:∀(v:LV) (N:Mem),(match J with | .norm=>some (Out.call (.bool true) (L.upd l (some (.loop .ready none fn T A ca B d)))) | .ret=>some (Out.call (.bool false) (L.upd l (some (.loop .done (some .ret) fn T A ca B d)))) | .exit id=>some (Out.call (.bool false) (L.upd l (some (.loop .done (some (.exit id)) fn T A ca B d)))))=some (Out.call v N)->roundEnd l J L=some (.call v N):=fun v N ho=>by
  rw[<-ho]
  unfold roundEnd atLoop
  rw[u.1]
  cases J<;>rfl
 cases J with
 | norm=>exact⟨_,_,p _ _ rfl,C _ ⟨rfl⟩ (Mem.next_upd _ _ _) (At.upd_same ⟨rfl⟩ u)⟩
 | ret=>exact⟨_,_,p _ _ rfl,C _ ⟨rfl⟩ (Mem.next_upd _ _ _) (At.upd_same ⟨rfl⟩ u)⟩
 | exit id=>exact⟨_,_,p _ _ rfl,C _ ⟨rfl⟩ (Mem.next_upd _ _ _) (At.upd_same ⟨rfl⟩ u)⟩
theorem zpe {E:Env}{M:Mem}{K:Env->Mem->Prop}{l:List XG}{d:Option Nat}{g:Option (Nat×Bool)}{f:XO}{as:List XO}{G:Nat}{vs:List LV}{Q:LV->Mem->Prop}(X:GOn E g)(hf:xval E f=some (.func (.yield G) [] []))(u:z0i E as=some vs)(h:RoundN P G vs M Q)(Y:∀ v M',Q v M'->XW .gen P sz l (putE E d v) M' K):XW .gen P sz (⟨d,.call f as,g⟩::l) E M K:=by
 intro ops os j T ro ms C V A N
 obtain⟨o,H,rfl,O,R⟩:=z1n V
 obtain⟨S,L,h5,U⟩:=z13 O
 obtain⟨Z,e⟩:=ze6 C
 have hs:zl P (.call f as) E M=some (.round G vs M):=by
  show ob (z0i E as) _=_
  rw[u,z8,hf];rfl
 refine zj0 Z (z0u h5 A X) (z2u L) (z1f A L hs) (h N) (fun v m' hq=>?_)
 obtain⟨J,p,B⟩:=A.put U v
 exact⟨J,by rw[S];exact p,Y v m' hq ops H (j+1) J ro ms e R B N⟩
end
end PvL
end
section
namespace PvL
set_option linter.unusedSectionVars false
open Go
variable {f gf:FuncId} {ro:Option Nat} {all os:List Oper}
section
variable {P:Program} [Orc P]
def CallB (P:Program)[Orc P](f:FuncId)(args:List LV)(M:Mem)(Q D:LV->Mem->Prop):Prop :=
 (∃ v e,om P (.call f args M)=some (.call v e)/\Q v e) ∨ ∃ v e,om P (.call f args M)=some (.die v e)/\D v e
theorem CallB.mono {args:List LV}{M:Mem}{Q D u p:LV->Mem->Prop}(h:CallB P f args M Q D)(B:∀ v M',Q v M'->u v M')(A:∀ v M',D v M'->p v M'):CallB P f args M u p :=
 h.imp (fun⟨v,M',e,j⟩=>⟨v,M',e,B _ _ j⟩) (fun⟨v,M',e,j⟩=>⟨v,M',e,A _ _ j⟩)
theorem CallB.ok {args:List LV}{M:Mem}{Q D:LV->Mem->Prop}(h:CallB P f args M Q D)(j:∀ v M',¬ D v M'):zc P f args M Q:=h.elim id fun⟨v,M',_,e⟩=>(j _ _ e).elim
variable {sz:Nat} {E:Env} {M:Mem} {K:Env->Mem->Prop} {l:List XG} {d:Option Nat} {dd:Nat} {i:XI} {g:Option (Nat × Bool)} {D D1:LV->Mem->Prop}
theorem zly {o:Oper}{T:Tm}{ms:List Dfr}{as:List LV}{v:LV}{M' j:Mem}(A:wanted all T o.guard=some true)(u:isDefer o.op=none)(p:opA P o.op T M=some (.enter f as j))(h:om P (.call f as j)=some (.die v M')) :
  z0c P ro (om P) all (o::os) T ms M=some (.boom v T ms M'):=by
 obtain⟨B,e,C,G,H,g⟩:=o
 show ob (wanted all T g) _=_
 have A:wanted all T g=some true:=A
 have u:isDefer e=none:=u
 have p:opA P e T M=some (.enter f as j):=p
 rw[A]
 show oe (isDefer e) _ _=_
 rw[u]
 show ob (opA P e T M) _=_
 rw[p]
 show z15 (om P _) _ _=_
 rw[h];rfl
theorem zon {o:Oper}{T:Tm}{ms:List Dfr}{v:LV}{M':Mem}(p:wanted all T o.guard=some true)(j:isDefer o.op=none)(h:opA P o.op T M=some (.boom v M')) :
  z0c P ro (om P) all (o::os) T ms M=some (.boom v T ms M'):=by
 obtain⟨u,e,A,B,C,g⟩:=o
 show ob (wanted all T g) _=_
 have p:wanted all T g=some true:=p
 have j:isDefer e=none:=j
 have h:opA P e T M=some (.boom v M'):=h
 rw[p]
 show oe (isDefer e) _ _=_
 rw[j]
 show ob (opA P e T M) _=_
 rw[h];rfl
theorem zct (B:GOn E g){f:XO}{as:List XO}{fi ca vs:List LV}(hf:xval E f=some (.func (.func gf) fi ca))(p:z0i E as=some vs){Q:LV->Mem->Prop}(h:CallB P gf (fi++vs++ca) M Q D1)(J:∀ v M',D1 v M'->D v M')(L:∀ v M',Q v M'->XW (.die D) P sz l (putE E d v) M' K):XW (.die D) P sz (⟨d,.call f as,g⟩::l) E M K:=by
 have C:zl P (.call f as) E M=some (.enter gf (fi++vs++ca) M):=by
  show ob (z0i E as) _=_
  rw[p,z8,hf];rfl
 rcases h with⟨v,M',e,j⟩|⟨v,M',e,j⟩
 ·exact zht B C (r:=.enter gf (fi++vs++ca) M) e (L v M' j)
 ·intro all os T ro ms H A
  obtain⟨o,N,rfl,G,O⟩:=z1n H
  obtain⟨R,u,h5,S⟩:=z13 G
  exact .inr ⟨v,T,M',zly (z0u h5 A B) (z2u u) (z1f A u C) e,J _ _ j⟩
theorem ztq (A:GOn E g){v:LV}{M':Mem}(B:zl P i E M=some (.boom v M'))(u:D v M'):XW (.die D) P sz (⟨d,i,g⟩::l) E M K:=by
 intro all os T ro ms p h
 obtain⟨o,C,rfl,j,G⟩:=z1n p
 obtain⟨H,e,h5,J⟩:=z13 j
 exact .inr ⟨v,T,M',zon (z0u h5 h A) (z2u e) (z1f h e B),u⟩
theorem ztc {f:XO}{as:List XO}{fi ca vs:List LV}{Q:LV->Mem->Prop}(j:GOn E g)(hf:xval E f=some (.func (.func gf) fi ca))(e:z0i E as=some vs)(h:CallB P gf (fi++vs++ca) M Q D)(p:∀ v M',Q v M'->XW (.die D) P sz l ((dd,v)::E) M' K):XW (.die D) P sz (⟨some dd,.call f as,g⟩::l) E M K:=zct j hf e h (fun _ _ h=>h) p
theorem zf3 {n:Nat}{c:XC}{res:List XR}(hf:cFn P f=some ⟨n,c,res⟩){args:List LV}{M:Mem}{Q:LV->Mem->Prop}(R:Nat.ble args.length n=true)(h:W (.die D) P f none n c (zipE 0 args) [] M (KFun res Q))(u:Orc.ask P f args M=none):CallB P f args M Q D:=by
 unfold cFn at hf
 split at hf
 ·cases hf
 ·rename_i j J
  split at hf
  ·cases hf
  ·rename_i code p
   split at hf
   ·rename_i c' r' hc hr
    cases hf
    rw[Nat.ble_eq] at R
    obtain⟨T,V,X,Y⟩:=z3p args 0 ⟨j.ntmps,.nil⟩ (by show 0+args.length<=j.ntmps;omega)
    have hT:Tm.ofList j.ntmps args=some T:=by
     unfold Tm.ofList
     rw[z19]
     show Tm.setAll args 0 ⟨max j.ntmps args.length,.nil⟩=_
     rw[Nat.max_eq_left R];exact V
    have he:zt j.ntmps (zipE 0 args) T:=⟨X,fun d v hd=>by
     obtain⟨_,h5⟩:=z6n hd
     rw[z39,Y d,if_pos (by have:=(List.getElem?_eq_some_iff.1 h5).1;omega),h5];rfl⟩
    have A:∀ o,(∃ out,om P (.code f none code T [] M)=some out/\z1k (some out) (fun e T ms m=>exE e (finRet P (om P) j T ms m) (finRet P (om P) j T ms m) (fun _=>none)) (fun v T ms m=>finDie P (om P) j T v ms m)=some o)->om P (.call f args M)=some o:=fun o ⟨out,S,U⟩=>by
     rw[zfo u]
     show ob (fnOf P f) _=_
     rw[J,z8,hT,z8,p,z8]
     show z1k (om P (.code f none code T [] M)) _ _=_
     rw[S];exact U
    rcases h code T hc he with⟨e,C,L,B,h5,E',H,O⟩|⟨v,C,B,h5,H⟩
    ·left
     cases e with
     | exit i=>exact O.elim
     | _=>
      obtain⟨N,Z,vs,h9,G⟩:=O
      refine⟨_,N,A _ ⟨_,h5,?_⟩,G⟩
      show finRet P (om P) j C L B=_
      rw[z4w Z]
      show ob (z0p P C N j.results.toList) _=_
      rw[z1u H hr h9];rfl
    ·exact .inr ⟨v,B,A _ ⟨_,h5,rfl⟩,H⟩
   ·cases hf
theorem z38 {xf:XF}(hf:cFn P f=some xf){args:List LV}{M:Mem}{Q:LV->Mem->Prop}(j:Nat.ble args.length xf.ntmps=true)(h:W (.die D) P f none xf.ntmps xf.body (zipE 0 args) [] M (KFun xf.res Q))(e:Orc.ask P f args M=none:=by rfl):CallB P f args M Q D:=zf3 (n:=xf.ntmps) (c:=xf.body) (res:=xf.res) hf j h e
end
end PvL
end
section
namespace PvL
set_option linter.unusedSectionVars false
open Go
variable {k':Nat}
section
variable {P:Program} [Orc P]
def RunAt (P:Program)[Orc P](sz:Nat)(all:List Oper)(ds:List Nat)(os:List Oper)(n:Nat)(h:DS)(K:Env->Mem->Prop):Prop :=
 ∃ s,z04 P (om P) all ds os n h=some s/\z0q P s.st s.k s.ps=true /\ ∃ e,zt sz e s.T/\K e s.m
def DieAt (P:Program)[Orc P](all:List Oper)(ds:List Nat)(os:List Oper)(n:Nat)(h:DS)(D:LV->Mem->Prop):Prop :=
 z04 P (om P) all ds os n h=none /\ ∃ v e s,z0a P (om P) all ds os n h=some (v,e,s)/\z0q P s.st s.k s.ps=true/\D v ⟨s.m.next,e.tr⟩
def XB (P:Program)[Orc P](sz:Nat)(ds:List Nat)(n:Nat)(l:List (XG×XK))(E:Env)(M:Mem)(st:List Mem)(k:Nat)(xs:List (Nat×Nat×(Mem->Prop)))(K:Env->Mem->Prop)(D:LV->Mem->Prop):Prop :=
 ∀(all os:List Oper) (T:Tm) (e:List Pend),cDrawn P sz all ds os n=some l->zt sz E T->Cov P e xs->RunAt P sz all ds os n ⟨T,M,st,k,e⟩ K∨DieAt P all ds os n ⟨T,M,st,k,e⟩ D
def XRst (P:Program)[Orc P](sz:Nat)(ds:List Nat)(j0 n:Nat)(l:List (XG×XK))(E:Env)(M:Mem)(st:List Mem)(k:Nat)(xs:List (Nat×Nat×(Mem->Prop)))(Q:Mem->Prop):Prop :=
 ∀(all os:List Oper) (T:Tm) (e:List Pend),cDrawn P sz all ds os n=some l->zt sz E T->Cov P e xs->∃ s,z0k P (om P) all ds j0 os n ⟨T,M,st,k,e⟩=some s/\z0q P s.st s.k s.ps=true/\Q s.m
variable {sz:Nat} {E:Env} {M:Mem} {K:Env->Mem->Prop} {l:List (XG × XK)} {d:Option Nat} {dd:Nat} {i:XI} {g:Option (Nat × Bool)} {st:List Mem} {k:Nat} {xs:List (Nat × Nat × (Mem->Prop))} {ds:List Nat} {n j0:Nat} {D D1:LV->Mem->Prop} {kd:XK}
theorem zdj (hg:GOn E g){r:R1}(hs:zl P i E M=some r){v:LV}{M':Mem}(hf:RTo P r v M'){st':List Mem}{U:List (Nat×Nat×(Mem->Prop))}(R:KdOk P kd E M i d r v M' st k xs st' k' U){all:List Oper}{os:List Oper}{T:Tm}{G:List Pend}(hc:cDrawn P sz all ds os n=some ((⟨d,i,g⟩,kd)::l))(he:zt sz E T)(C:Cov P G xs) :
  ∃ H A j,cDrawn P sz all ds H (n+1)=some l/\zt sz (putE E d v) A/\Cov P j U/\z04 P (om P) all ds os n ⟨T,M,st,k,G⟩=z04 P (om P) all ds H (n+1) ⟨A,M',st',k',j⟩ /\
   z0a P (om P) all ds os n ⟨T,M,st,k,G⟩=z0a P (om P) all ds H (n+1) ⟨A,M',st',k',j⟩ /\
   ∀ j0,Nat.testBit (ds.getD n 0) j0=false->kd≠.anchor->z0k P (om P) all ds j0 os n ⟨T,M,st,k,G⟩=z0k P (om P) all ds j0 H (n+1) ⟨A,M',st',k',j⟩:=by
 obtain⟨o,H,rfl,h1,J,a5⟩:=z2t hc
 obtain⟨h3,h4,h5,h6⟩:=z3u h1
 have h7:=z2f he h4 hs
 obtain⟨A,N,a7⟩:=he.put h6 v
 obtain⟨a4,u,a1,a2,a3,gd⟩:=o
 have h3:d=a4:=h3.symm
 subst h3
 have V:∀(k:Tm->Mem->Option DS),opFull P (om P) T M u d k=k A M':=fun k=>by
  show ob (op1 P u T M) _=_
  rw[h7,z8,hf.opFin,N];rfl
 have a0:∀(k:Tm->Mem->Option (LV×Mem×DS)) (kd1:LV->Mem->Option (LV×Mem×DS)),r1E r (fun v m=>ob (T.put d v) fun T=>k T m) (fun m=>ob (T.put d z00) fun T=>k T m)
     (fun f O m1=>z15 (om P (.call f O m1)) (fun v m=>ob (T.put d v) fun T=>k T m) kd1)
     (fun l O m1=>z1v (om P (.round l O m1)) fun v m=>ob (T.put d v) fun T=>k T m) (fun _ _=>none)=k A M':=fun k kd1=>by
  cases r with
  | val v' m'=>obtain⟨rfl,rfl⟩:=hf;show ob (T.put d v') _=_;rw[N];rfl
  | skip m'=>obtain⟨rfl,rfl⟩:=hf;show ob (T.put d z00) _=_;rw[N];rfl
  | enter f as m=>show z15 (om P _) _ _=_;rw[show om P (.call f as m)=_ from hf];show ob (T.put d v) _=_;rw[N];rfl
  | round l as m=>show z1v (om P _) _=_;rw[show om P (.round l as m)=_ from hf];show ob (T.put d v) _=_;rw[N];rfl
  | boom _ _=>exact hf.elim
 have S:∀ m,zl P i E m=some (.val v m)->d.isSome=true->∀ lo hi,z1t P { op:=u,T:=T,v:=dstV A d,lo:=lo,hi:=hi } m=true:=fun m hm hd lo hi=>by
  unfold z1t
  have:=z2f he h4 hm
  have e:op1 P ({ op:=u,T:=T,v:=dstV A d,lo:=lo,hi:=hi }:Pend).op ({ op:=u,T:=T,v:=dstV A d,lo:=lo,hi:=hi }:Pend).T m=some (.val v m):=this
  rw[e]
  cases d with
  | none=>cases hd
  | some d=>
   show lvEq v (A.get d)=true
   rw[Tm.get_set N,if_pos rfl];exact z4u v
 have hw:=z0u h5 he hg
 have B:∀ j,Cov P j U->(match cls P u with
   | .mover=>(st',k',j)=(st,k,ifb (z0o u) ({ op:=u,T:=T,v:=dstV A d,lo:=z0s P (ds.getD n 0) all 0,hi:=z07 P n all ds }::G) G)
   | .new=>(st',k',j)=(st,k,G)
   | .calm=>(st',k',j)=(st,k,G)
   | .anchor=>(st',k',j)=(M'::st,k+1,G)/\kd=.anchor)->∃ L A j,cDrawn P sz all ds L (n+1)=some l/\zt sz (putE E d v) A/\Cov P j U/\z04 P (om P) all ds (⟨d,u,a1,a2,a3,gd⟩::H) n ⟨T,M,st,k,G⟩=z04 P (om P) all ds L (n+1) ⟨A,M',st',k',j⟩ /\
   z0a P (om P) all ds (⟨d,u,a1,a2,a3,gd⟩::H) n ⟨T,M,st,k,G⟩=z0a P (om P) all ds L (n+1) ⟨A,M',st',k',j⟩ /\
   ∀ j0,Nat.testBit (ds.getD n 0) j0=false->kd≠.anchor->z0k P (om P) all ds j0 (⟨d,u,a1,a2,a3,gd⟩::H) n ⟨T,M,st,k,G⟩=z0k P (om P) all ds j0 L (n+1) ⟨A,M',st',k',j⟩:=by
  intro j a6 p
  refine⟨H,A,j,a5,a7,a6,?_,?_,fun j0 hb a8=>?_⟩
  ·conv=>lhs;unfold z04
   simp only
   rw[hw,z8,zq,V]
   cases h:cls P u with
   | anchor=>rw[h] at p;obtain⟨p,_⟩:=p;cases p;rfl
   | _=>rw[h] at p;cases p;rfl
  ·conv=>lhs;unfold z0a
   simp only
   rw[hw,z8,zq,h7,z8,a0]
   cases h:cls P u with
   | anchor=>rw[h] at p;obtain⟨p,_⟩:=p;cases p;rfl
   | _=>rw[h] at p;cases p;rfl
  ·conv=>lhs;unfold z0k
   simp only
   rw[hb,ze,hw,z8,zq,V]
   cases h:cls P u with
   | anchor=>rw[h] at p;exact absurd p.2 a8
   | _=>rw[h] at p;cases p;rfl
 unfold cKind at J
 simp only at J
 cases h:cls P u with
 | mover=>
  rw[h] at J
  simp only at J
  cases Z:(z0o u && !(xCalm i)) with
  | true=>
   rw[Z] at J
   simp only[Bool.and_eq_true] at Z
   rw[if_pos rfl] at J
   subst J
   obtain⟨rfl,rfl,rfl,q,rfl,hd,hq⟩:=R
   refine B ({ op:=u,T:=T,v:=dstV A d,lo:=z0s P (ds.getD n 0) all 0,hi:=z07 P n all ds }::G) (fun st k ho=>?_) (by rw[h];simp only;rw[Z.1,zq])
   show(pendAt P _ st k&&z0q P st k G)=true
   rw[C st k ho.2,Bool.and_true]
   exact z6p _ q (fun m hm=>S m (hq m hm) hd _ _) st k ho.1
  | false=>
   rw[Z] at J
   rw[if_neg (by decide)] at J
   subst J
   obtain⟨rfl,rfl,rfl,rfl,rfl,hd⟩:=R
   cases Y:z0o u with
   | false=>exact B G C (by rw[h];simp only;rw[Y,ze])
   | true=>
    rw[Y] at Z
    have X:xCalm i=true:=by simpa using Z
    refine B ({ op:=u,T:=T,v:=dstV A d,lo:=z0s P (ds.getD n 0) all 0,hi:=z07 P n all ds }::G) (fun st k ho=>?_) (by rw[h];simp only;rw[Y,zq])
    show(pendAt P _ st k&&z0q P st k G)=true
    rw[C st k ho,Bool.and_true]
    exact zbd _ (fun m=>S m (zbm X hs m) hd _ _) st k
 | new=>
  rw[h] at J
  subst J
  obtain⟨rfl,rfl,rfl⟩:=R
  exact B G C (by rw[h])
 | calm=>
  rw[h] at J
  subst J
  obtain⟨rfl,rfl,rfl⟩:=R
  exact B G C (by rw[h])
 | anchor=>
  rw[h] at J
  subst J
  obtain⟨rfl,rfl,rfl⟩:=R
  exact B G C (by rw[h];exact⟨rfl,rfl⟩)
theorem zw1 {l:List (XG×XK)}(h:XD P sz l E M st k xs K):XB P sz ds n l E M st k xs K D:=fun all os T u j p e=>.inl (h all ds os n T u j p e)
theorem zhn (R:GOn E g){r:R1}(U:zl P i E M=some r){v:LV}{M':Mem}(hf:RTo P r v M'){st':List Mem}{h:List (Nat×Nat×(Mem->Prop))}(p:KdOk P kd E M i d r v M' st k xs st' k' h)(S:XB P sz ds (n+1) l (putE E d v) M' st' k' h K D):XB P sz ds n ((⟨d,i,g⟩,kd)::l) E M st k xs K D:=fun all os T V N O e=>by
 obtain⟨u,C,A,G,H,J,B,h5,_⟩:=zdj R U hf p N O e
 rcases S all u C A G H J with⟨s,j⟩|⟨j,L⟩
 ·exact .inl ⟨s,by rw[B];exact j⟩
 ·refine .inr ⟨by rw[B];exact j,?_⟩
  rw[h5];exact L
theorem zw7 {Q:Mem->Prop}(p:ObAll st k xs)(h:Q M):XRst P sz ds j0 n [] E M st k xs Q:=fun all os T A j u e=>by
 cases os with
 | nil=>exact⟨_,rfl,e _ _ p,h⟩
 | cons o os=>
  simp only[cDrawn] at j
  split at j<;>cases j
theorem zw6 {Q:Mem->Prop}(L:Nat.testBit (ds.getD n 0) j0=false)(p:kd≠.anchor)(R:GOn E g){r:R1}(U:zl P i E M=some r){v:LV}{M':Mem}(hf:RTo P r v M'){st':List Mem}{h:List (Nat×Nat×(Mem->Prop))}(j:KdOk P kd E M i d r v M' st k xs st' k' h)(S:XRst P sz ds j0 (n+1) l (putE E d v) M' st' k' h Q):XRst P sz ds j0 n ((⟨d,i,g⟩,kd)::l) E M st k xs Q:=fun all os T V N O e=>by
 obtain⟨u,B,A,C,G,H,_,_,J⟩:=zdj R U hf j N O e
 rw[J j0 L p]
 exact S all u B A C G H
theorem zqs {Q:Mem->Prop}(U:Nat.testBit (ds.getD n 0) j0=true){st':List Mem}(A:match kd with | .anchor=>st'=M::st/\k'=k+1|_=>st'=st/\k'=k)(H:XRst P sz ds j0 (n+1) l (putE E d .unk) M st' k' xs Q):XRst P sz ds j0 n ((⟨d,i,g⟩,kd)::l) E M st k xs Q:=fun all os T J V X e=>by
 obtain⟨o,B,rfl,R,h,j⟩:=z2t V
 obtain⟨N,h4,h5,S⟩:=z3u R
 obtain⟨G,C,u⟩:=X.put S .unk
 obtain⟨L,Y,Z,a2,a3,gd⟩:=o
 have N:d=L:=N.symm
 subst N
 have C:T.put d .unk=some G:=C
 conv=>enter [1,s];unfold z0k
 simp only
 rw[U,zq,C,z8]
 unfold cKind at h
 simp only at h
 cases p:cls P Y with
 | anchor=>
  rw[p] at h
  subst h
  obtain⟨rfl,rfl⟩:=A
  exact H all B G J j u e
 | mover=>
  have O:st'=st/\k'=k:=by
   rw[p] at h
   simp only at h
   split at h<;>(subst h;exact A)
  obtain⟨rfl,rfl⟩:=O
  exact H all B G J j u e
 | new=>
  rw[p] at h
  subst h
  obtain⟨rfl,rfl⟩:=A
  exact H all B G J j u e
 | calm=>
  rw[p] at h
  subst h
  obtain⟨rfl,rfl⟩:=A
  exact H all B G J j u e
theorem zpf (X:GOn E g){f:XO}{as:List XO}{gf:FuncId}{fi ca vs:List LV}(hf:xval E f=some (.func (.func gf) fi ca))(O:z0i E as=some vs){Q:LV->Mem->Prop}(h:CallB P gf (fi++vs++ca) M Q D1)(hd:∀ v M',D1 v M'->XRst P sz ds n (n+1) l (putE E d .unk) ⟨M'.next,M.tr⟩ (⟨M'.next,M.tr⟩::st) (k+1) xs (fun m=>D v ⟨m.next,M'.tr⟩))(hk:∀ v M',Q v M'->XB P sz ds (n+1) l (putE E d v) M' (M'::st) (k+1) xs K D):XB P sz ds n ((⟨d,.call f as,g⟩,.anchor)::l) E M st k xs K D:=by
 have Y:zl P (.call f as) E M=some (.enter gf (fi++vs++ca) M):=by
  show ob (z0i E as) _=_
  rw[O,z8,hf];rfl
 rcases h with⟨v,M',C,L⟩|⟨v,M',C,L⟩
 ·exact zhn X Y (r:=.enter gf (fi++vs++ca) M) C (by exact⟨rfl,rfl,rfl⟩) (hk v M' L)
 ·intro all os T ps hc R A
  obtain⟨o,B,rfl,g1,e,J⟩:=z2t hc
  obtain⟨N,h4,h5,h6⟩:=z3u g1
  have V:=z2f R h4 Y
  obtain⟨U,j,S⟩:=R.put h6 .unk
  obtain⟨H,G,a1,a2,a3,gd⟩:=o
  have N:d=H:=N.symm
  subst N
  have j:T.put d .unk=some U:=j
  have Z:=z0u h5 R X
  have p:zf P G=true:=by
   unfold zf
   unfold cKind at e
   simp only at e
   cases u:cls P G with
   | anchor=>rfl
   | mover=>
    rw[u] at e
    simp only at e
    split at e<;>cases e
   | new=>rw[u] at e;cases e
   | calm=>rw[u] at e;cases e
  obtain⟨s,k1,k2,k3⟩:=hd v M' L all B U ps J S A
  refine .inr ⟨?_,v,M',s,?_,k2,k3⟩
  ·unfold z04
   simp only
   rw[Z,z8,zq]
   show ob (op1 P G T M) _=_
   rw[V,z8]
   show z1v (om P _) _=_
   rw[C];rfl
  ·unfold z0a
   simp only
   rw[Z,z8,zq,V,z8]
   show z15 (om P _) _ _=_
   rw[C]
   show guard' (zf P G) (ob (T.put d .unk) fun T'=>ob (z0k P (om P) all ds n B (n+1) ⟨T',⟨M'.next,M.tr⟩,⟨M'.next,M.tr⟩::st,k+1,ps⟩) fun d=>some (v,M',d))=_
   rw[p,zb,j,z8,k1];rfl
variable {fn:FuncId} {ro:Option Nat} {KC:Ex->Env->List Dfr->Mem->Prop}
theorem zt7 {l:List (XG×XK)}{ds:List Nat}(h:XB P sz ds 0 l E M [M] 0 [] (fun E M=>KC .norm E [] M) D):W (.die D) P fn ro sz (.draw l ds) E [] M KC:=z5g fun code T e L=>by
 cases code with
 | region i ops d=>
  cases d with
  | true=>
   simp only[zy] at e
   split at e
   ·rename_i u
    split at e
    ·rename_i R N
     cases e
     rcases h _ _ T [] N L (fun st k _=>rfl) with⟨s,B,C,G⟩|⟨B,v,O,s,C,G,J⟩
     ·left
      obtain⟨H,A,p,k',j⟩:=s
      refine⟨.norm,H,[],A,?_,G⟩
      show cDraw P (om P) ops T [] M=_
      unfold cDraw
      rw[u,zq]
      unfold cDrawG
      rw[B,z2j]
      show guard' (z0q P p k' j) _=_
      rw[show z0q P p k' j=true from C];rfl
     ·right
      obtain⟨H,A,p,k',j⟩:=s
      refine⟨v,⟨T.size,.nil⟩,⟨A.next,O.tr⟩,?_,J⟩
      show cDraw P (om P) ops T [] M=_
      unfold cDraw
      rw[u,zq]
      unfold cDrawG
      rw[B,z47,C,z8]
      show guard' (z0q P p k' j) _=_
      rw[show z0q P p k' j=true from G];rfl
    ·cases e
   ·cases e
  | false=>simp only[zy] at e;(repeat' split at e)<;>cases e
 | skip|label|ret|goto|refuse|exit=>cases e
 | _=>simp only[zy] at e;split at e<;>cases e
end
end PvL
end
section
namespace PvL
set_option linter.unusedSectionVars false
open Go
section
variable {P:Program} [Orc P] {sz:Nat} {E:Env} {M:Mem} {K:Env->Mem->Prop} {l:List (XG × XK)} {od:Option Nat} {d:Nat} {i:XI} {g:Option (Nat × Bool)} {st:List Mem} {k:Nat} {xs:List (Nat × Nat × (Mem->Prop))} {ds:List Nat} {n j0:Nat} {D:LV->Mem->Prop} {kd:XK}
variable {x y a:XO} {o nn t:Nat} {v:LV} {ls:List LV} {lo hi ii:Nat}
theorem ztx(e:GOn E g)(j:zl P i E M=some (.val v M))(h:XB P sz ds (n+1) l ((d,v)::E) M st k xs K D):XB P sz ds n ((⟨some d,i,g⟩,.calm)::l) E M st k xs K D :=
 zhn e j ⟨rfl,rfl⟩ (by exact⟨rfl,rfl,rfl,rfl,rfl,rfl⟩) h
theorem zwq(j:GOn E g)(e:xval E a=some (.ptr (some (ii,o))))(h:Rd1 M ii o v)(p:XB P sz ds (n+1) l ((d,v)::E) M st k ((lo,hi,fun m=>Rd1 m ii o v)::xs) K D) :
  XB P sz ds n ((⟨some d,.ld1 a,g⟩,.reads lo hi)::l) E M st k xs K D :=
 zhn j (zeq e h) ⟨rfl,rfl⟩ (by exact⟨rfl,rfl,rfl,_,rfl,rfl,fun _ u=>zeq e u⟩) p
variable {q:XI} {dd:Option Nat} {b w:Bool} {T F:Prop} {c:Nat} {z:XO}
theorem ztw(e:ObAll st k xs)(h:K E M):XB P sz ds n [] E M st k xs K D:=zw1 (zur h e)
theorem ztv{f:XO}{as:List XO}{gf:FuncId}{fi ca vs:List LV}{Q:LV->Mem->Prop}(u:GOn E g)(hf:xval E f=some (.func (.func gf) fi ca))(e:z0i E as=some vs)(h:zc P gf (fi++vs++ca) M Q)
  (A:∀ w M',Q w M'->XB P sz ds (n+1) l ((d,w)::E) M' (M'::st) (k+1) xs K D):XB P sz ds n ((⟨some d,.call f as,g⟩,.anchor)::l) E M st k xs K D:=by
 obtain⟨v,M',j,p⟩:=h
 refine zhn u (r:=.enter gf (fi++vs++ca) M) ?_ j (by exact⟨rfl,rfl,rfl⟩) (A v M' p)
 show ob (z0i E as) _=_
 rw[e,z8,hf];rfl
theorem zcz{f:XO}{as:List XO}{gf:FuncId}{fi ca vs:List LV}(u:GOn E g)(hf:xval E f=some (.func (.func gf) fi ca))(e:z0i E as=some vs)(h:zc P gf (fi++vs++ca) M fun w M'=>w=v/\M'=M)
  (A:XB P sz ds (n+1) l ((d,v)::E) M (M::st) (k+1) xs K D):XB P sz ds n ((⟨some d,.call f as,g⟩,.anchor)::l) E M st k xs K D :=
 ztv u hf e h fun w M' ⟨j,p⟩=>by subst j;subst p;exact A
variable {Q:Mem->Prop}
theorem zvi(e:ObAll st k xs)(h:Q M):XRst P sz ds j0 n [] E M st k xs Q:=zw7 e h
theorem zxr{z:List LV}(e:Nat.testBit (ds.getD n 0) j0=false)(j:GOn E g)(hf:zn z=true)(p:∀ m M',New M m (.cells true z t) M'->m=M.next->M'.next=M.next+1->XRst P sz ds j0 (n+1) l ((d,.ptr (some (m,0)))::E) M' st k xs Q):XRst P sz ds j0 n ((⟨some d,.new t z,g⟩,.new)::l) E M st k xs Q :=
 zw6 e (fun h=>by cases h) j (zhq hf) ⟨rfl,rfl⟩ (by exact⟨rfl,rfl,rfl⟩) (p _ _ ⟨rfl,rfl⟩ rfl rfl)
theorem zxq(e:Nat.testBit (ds.getD n 0) j0=true)(h:XRst P sz ds j0 (n+1) l ((d,.unk)::E) M st k xs Q):XRst P sz ds j0 n ((⟨some d,i,g⟩,.calm)::l) E M st k xs Q:=zqs e ⟨rfl,rfl⟩ h
theorem zcd(e:Nat.testBit (ds.getD n 0) j0=true)(h:XRst P sz ds j0 (n+1) l E M (M::st) (k+1) xs Q):XRst P sz ds j0 n ((⟨none,i,g⟩,.anchor)::l) E M st k xs Q:=zqs (d:=none) e ⟨rfl,rfl⟩ h
end
def RdOk{β:Type}(enc:β->LV)(a:Nat)(lb:Nat->LB)(r:Option (β×Nat))(M:Mem)(w:LV)(M':Mem):Prop:=∃ b e,r=some (b,e)/\Put1 (enc b) a (lb e) M w M'
def RdNo{β:Type}(a:Nat)(lb:Nat->LB)(r:Option (β×Nat))(bk:LV)(M:Mem)(v:LV)(M':Mem):Prop:=r=none/\v=bk/\Keep (fun i=>i=a) M M' /\ ∃ e,At M' a (lb e)
section
variable {P:Program} [Orc P] {sz:Nat} {E:Env} {M:Mem} {K:Env->Mem->Prop} {l:List XG} {d:Nat} {g:Option (Nat × Bool)} {st:List Mem} {k:Nat} {xs:List (Nat × Nat × (Mem->Prop))} {ld:List (XG × XK)} {D:LV->Mem->Prop} {ds:List Nat} {n:Nat}
variable {β:Type} {enc:β->LV} {a:Nat} {lb:Nat->LB} {r:Option (β × Nat)} {bk:LV} {f:XO} {as:List XO} {gf:FuncId} {fi ca vs:List LV}
theorem x_rd(G:GOn E g)(hf:xval E f=some (.func (.func gf) fi ca))(B:z0i E as=some vs)(h:CallB P gf (fi++vs++ca) M (RdOk enc a lb r M) (RdNo a lb r bk M))
  (C:r=none->∀ M',Keep (fun i=>i=a) M M'->M.next<=M'.next->∀ e,At M' a (lb e)->D bk M')
  (H:∀ b e,r=some (b,e)->∀ M',Keep (fun i=>i=a) M M'->M.next<=M'.next->At M' a (lb e)->XW (.die D) P sz l ((d,enc b)::E) M' K):XW (.die D) P sz (⟨some d,.call f as,g⟩::l) E M K :=
 zct G hf B h (fun v M' ⟨p,u,j,e,A⟩=>by subst u;exact C p M' j j.le e A) fun w M' ⟨b,e,p,u,j,A⟩=>by subst u;exact H b e p M' j j.le A
def MuOk(q:Bool)(M:Mem)(w:LV)(M':Mem):Prop:=q=true/\w=.tup []/\M'=M
def MuNo(q:Bool)(bk:LV)(M:Mem)(v:LV)(M':Mem):Prop:=q=false/\v=bk/\M'=M
variable {q:Bool} {T F:Prop}
theorem x_mu(G:GOn E g)(hf:xval E f=some (.func (.func gf) fi ca))(A:z0i E as=some vs)(h:CallB P gf (fi++vs++ca) M (MuOk q M) (MuNo q bk M))(e:BN q T F)
  (C:F->D bk M) (H:T->XW (.die D) P sz l ((d,.tup [])::E) M K):XW (.die D) P sz (⟨some d,.call f as,g⟩::l) E M K :=
 zct G hf A h (fun v B ⟨j,p,u⟩=>by subst p;subst u;exact C (e.f j)) fun w B ⟨j,p,u⟩=>by subst p;subst u;exact H (e.t j)
end
theorem svb{G G':Prop}(e:G')(h:G'->G:=by first|((with_reducible first|apply z54|apply zen|apply zt7|apply zg1|apply w_scope|apply zvu|apply zql|apply zqn|apply z42|apply zdv|apply zb0|apply zfg|apply z9b|apply z1p|apply zaz|apply z9d|apply zb1|apply z9f|apply zqw))|((with_reducible first|apply z35|apply ztx);exact gd;exact sx)|((with_reducible first|apply x_l1|apply x_lN|apply zwq|apply b_ldN);exact gd;exact rfl;exact xm)|((with_reducible first|apply x_st);exact gd;exact rfl;exact rfl;exact xm;exact rfl;exact rfl;exact rfl)|((with_reducible first|apply zvv|apply zvw);exact gd;exact rfl;exact rfl)|((with_reducible first|apply zvy);exact gd;exact rfl)|((with_reducible first|apply zmn);exact gd)|((with_reducible first|apply zvz|apply x_off0|apply b_off|apply b_off_calm|apply b_off_new|apply b_off_anchor);exact gx)|((with_reducible first|apply ztw|apply zvi);exact ox)|((with_reducible apply r_val);exact rfl;exact gd;exact sx)|((with_reducible apply zxr);exact rfl;exact gd;exact rfl)|((with_reducible first|apply zxq|apply r_dep_new|apply r_dep_anchor|apply zcd);exact rfl)|((with_reducible apply z9a);exact rfl)|((with_reducible first|apply zh2|apply zl1|apply z9e|apply k_round_exit);exact xm)):G:=h e
theorem sgb{G e h:Prop}(h1:e)(j:h)(p:e->h->G:=by((with_reducible first|apply xgd|apply bgd|apply xpk|apply bpk);exact rfl;infer_instance)):G:=p h1 j
end PvL
end
section
namespace PvL
set_option linter.unusedSectionVars false
open Go
structure XRead where
 ntmps:Nat
 o0:List XG
 d1:Option Nat
 i1:XI
 dd:Option Nat
 cf:XO
 cas:List XO
 d2:Option Nat
 i2:XI
 d3:Option Nat
 f3:XO
 as3:List XO
 o3:List XG
 res:List XR
structure XRec where
 ntmps:Nat
 d:Nat
 e:Option Nat
 body:XC
section
variable (P:Program)
noncomputable def cRead(f:FuncId):Option XRead :=
 match fnOf P f with
 | none=>none
 | some fn=>match fn.body with
  | some (.seq (.region _ r0 false) (.seq (.region _ r1 false) (.seq (.region _ r2 false) (.seq (.region _ r3 false) .ret))))=>
   match r1.toList,r2.toList with
   | [a,b],[e,j]=>match isDefer b.op,b.guard,dstIn fn.ntmps b.dst with
    | some c,none,true=>match c.callee with
     | .value cf=>match cOps P fn.ntmps r0.toList r0.toList,cOperA P fn.ntmps [a,b] a,cX cf,cXs c.args.toList,cOperA P fn.ntmps [e,j] e,cOperA P fn.ntmps [e,j] j,cOps P fn.ntmps r3.toList r3.toList,cRes P fn.results.toList with
      | some J,some ⟨A,G,none⟩,some cf,some p,some ⟨B,H,none⟩,some ⟨C,.call f3 h,none⟩,some L,some u=>some ⟨fn.ntmps,J,A,G,b.dst,cf,p,B,H,C,f3,h,L,u⟩
      | _,_,_,_,_,_,_,_=>none
     | _=>none
    | _,_,_=>none
   | _,_=>none
  | _=>none
noncomputable def cRec(f:FuncId):Option XRec :=
 match fnOf P f with
 | none=>none
 | some fn=>match fn.body with
  | none=>none
  | some c=>match recHead c,fn.results.isEmpty with
   | some (some d,e,h),true=>match zy P fn.ntmps h,dstIn fn.ntmps (some d),dstIn fn.ntmps e with
    | some b,true,true=>some ⟨fn.ntmps,d,e,b⟩
    | _,_,_=>none
   | _,_=>none
end
section
variable {P:Program} [Orc P]
def DfrOk(P:Program)[Orc P](g:FuncId)(as:List LV)(pv:LV)(M:Mem)(R:Mem->Prop):Prop:=∃ e,dfrRun P (om P) g as pv M=some e/\R e
theorem zbb{n:Nat}{args:List LV}(e:Nat.ble args.length n=true):∃ T,Tm.ofList n args=some T/\zt n (zipE 0 args) T:=by
 rw[Nat.ble_eq] at e
 obtain⟨T,h,j,p⟩:=z3p args 0 ⟨n,.nil⟩ (by show 0+args.length<=n;omega)
 refine⟨T,?_,j,fun d v u=>?_⟩
 ·unfold Tm.ofList
  rw[z19]
  show Tm.setAll args 0 ⟨max n args.length,.nil⟩=_
  rw[Nat.max_eq_left e];exact h
 ·obtain⟨_,h5⟩:=z6n u
  rw[z39,p d,if_pos (by have:=(List.getElem?_eq_some_iff.1 h5).1;omega),h5];rfl
theorem zq1{g:FuncId}{x:XRec}(j:cRec P g=some x){as:List LV}{pv:LV}{M:Mem}{R:Mem->Prop}(hn:Nat.ble as.length x.ntmps=true)
  (h:W .det P g none x.ntmps x.body (putE ((x.d,pv)::zipE 0 as) x.e pv) [] M (fun e E ms M'=>(∀ i,e≠.exit i)/\ms=[]/\R M')):DfrOk P g as pv M R:=by
 unfold cRec at j
 split at j
 ·cases j
 ·rename_i fn G
  split at j
  ·cases j
  ·rename_i c Y
   split at j
   ·rename_i d e L hr p
    split at j
    ·rename_i b X Z he
     cases j
     obtain⟨T,V,U⟩:=zbb hn
     obtain⟨J,B,u⟩:=U.put Z pv
     obtain⟨H,C,A⟩:=u.put he pv
     obtain⟨ex,T',a0,M',N,E',h2,O,S,h5⟩:=h _ H X A
     refine⟨M',?_,h5⟩
     unfold dfrRun
     rw[G,z8,V,z8,Y,z8,hr,z8]
     show ob (T.put (some d) pv) _=_
     rw[B,z8]
     show ob (J.put e pv) _=_
     rw[C,z8,p]
     show z1k (om P (.code g none L H [] M)) _ _=_
     rw[N]
     subst S
     cases ex with
     | exit i=>exact absurd rfl (O i)
     | norm=>rfl
     | ret=>rfl
    ·cases j
   ·cases j
theorem z3o{f:FuncId}{ro:Option Nat}{i:Nat}{ops:Array Oper}{T:Tm}{ms:List Dfr}{M:Mem}:om P (.code f ro (.region i ops false) T ms M)=z0c P ro (om P) ops.toList ops.toList T ms M:=by
 rw[z50];rfl
theorem zlx{all:List Oper}{o:Oper}{os:List Oper}{T T':Tm}{ms:List Dfr}{M:Mem}{c:Call}{d:Dfr}(p:wanted all T o.guard=some true)(j:isDefer o.op=some c)(A:dfrOf c T=some d)(h:T.put o.dst z00=some T') :
  z0c P none (om P) all (o::os) T ms M=z0c P none (om P) all os T' (d::ms) M:=by
 obtain⟨e,u,B,C,G,g⟩:=o
 show ob (wanted all T g) _=_
 have p:wanted all T g=some true:=p
 have j:isDefer u=some c:=j
 have h:T.put e z00=some T':=h
 rw[p]
 show oe (isDefer u) _ _=_
 rw[j]
 show guard' true (ob (dfrOf c T) fun d=>ob (T.put e z00) fun T=>z0c P none (om P) all os T (d::ms) M)=_
 rw[A,zb,z8,h,z8]
theorem z7e{f:FuncId}{ro:Option Nat}{a b:Code}{T T':Tm}{ms ms':List Dfr}{M M':Mem}{o:Out}(h:om P (.code f ro a T ms M)=some (.code .norm T' ms' M'))(e:om P (.code f ro b T' ms' M')=some o):om P (.code f ro (.seq a b) T ms M)=some o:=by
 rw[z50]
 show z11 (om P (.code f ro a T ms M)) _=_
 rw[h]
 exact e
theorem zed{f:FuncId}{ro:Option Nat}{a b:Code}{T T':Tm}{ms ms':List Dfr}{M M':Mem}{v:LV}(h:om P (.code f ro a T ms M)=some (.boom v T' ms' M')):om P (.code f ro (.seq a b) T ms M)=some (.boom v T' ms' M'):=by
 rw[z50]
 show z11 (om P (.code f ro a T ms M)) _=_
 rw[h];rfl
theorem zsw{f:FuncId}{x:XRead}(p:cRead P f=some x){args:List LV}{M:Mem}{Q:LV->Mem->Prop}(hn:Nat.ble args.length x.ntmps=true)
  (h:XW .det P x.ntmps x.o0 (zipE 0 args) M fun E M=>∃ B L g fi ca vs g3 G C J,zl P x.i1 E M=some (.val B M)/\xval (putE E x.d1 B) x.cf=some (.func (.func g) fi ca)/\z0i (putE E x.d1 B) x.cas=some vs /\
   zl P x.i2 (putE (putE E x.d1 B) x.dd z00) M=some (.val L M)/\xval (putE (putE (putE E x.d1 B) x.dd z00) x.d2 L) x.f3=some (.func (.func g3) G C)/\z0i (putE (putE (putE E x.d1 B) x.dd z00) x.d2 L) x.as3=some J /\
   CallB P g3 (G++J++C) M
    (fun w M'=>XW .det P x.ntmps x.o3 (putE (putE (putE (putE E x.d1 B) x.dd z00) x.d2 L) x.d3 w) M' fun E M'=>DfrOk P g (fi++vs++ca) .nilIface M' fun u=>∃ vs,ResX E u x.res vs/\Q (packed vs) u)
    (fun pv M'=>DfrOk P g (fi++vs++ca) pv M' fun u=>∃ vs,ResX (putE (putE (putE E x.d1 B) x.dd z00) x.d2 L) u x.res vs/\Q (packed vs) u))
  (a3:Orc.ask P f args M=none:=by rfl):zc P f args M Q:=by
 unfold cRead at p
 split at p
 ·cases p
 ·rename_i fn c1
  split at p
  ·rename_i n0 r0 n1 r1 n2 r2 n3 r3 X
   split at p
   ·rename_i a b R N c2 a5
    split at p
    ·rename_i c hb b9 b8
     split at p
     ·rename_i cf a4
      split at p
      ·rename_i o0 d1 i1 c4 c3 d2 i2 d3 f3 a0 o3 c5 e0 ea b0 a1 a8 a9 e3 er
       cases p
       obtain⟨T,hT,hE⟩:=zbb hn
       obtain⟨T1,j,g1,E1,S,B,L,g,fi,ca,vs,g3,G,C,J,k1,k2,k3,k4,k5,k6,k7⟩:=h _ _ T none [] e0 hE
       obtain⟨p1,p2,p3,p4⟩:=z13 ea
       obtain⟨T2,b4,U⟩:=S.put p4 B
       obtain⟨Z,b5,V⟩:=U.put b8 z00
       obtain⟨q1,q2,q3,q4⟩:=z13 a8
       obtain⟨T4,b6,A⟩:=V.put q4 L
       obtain⟨s1,s2,s3,s4⟩:=z13 a9
       have c0:z0c P none (om P) [a,b] [a,b] T1 [] j=some (.code .norm Z [.call g (fi++vs++ca)] j):=by
        rw[RTo.ops (P:=P) (r:=.val B j) (v:=B) (M':=j) ⟨rfl,rfl⟩ (z0u p3 S trivial) (z2u p2) (z1f S p2 k1) (by rw[p1];exact b4)]
        refine(zlx (T':=Z) (by rw[b9];rfl) hb (d:=.call g (fi++vs++ca)) ?_ b5).trans rfl
        unfold dfrOf
        rw[a4]
        show ob (ev T2 cf) _=_
        rw[z08 U b0 k2,z8,z8l U a1 k3,z8]
       have a6:zl P (.call f3 a0) (putE (putE (putE E1 d1 B) b.dst z00) d2 L) j=some (.enter g3 (G++J++C) j):=by
        show ob (z0i _ a0) _=_
        rw[k6,z8]
        show ob (xval _ f3) _=_
        rw[k5];rfl
       have e2:z0c P none (om P) [R,N] [R,N] Z [.call g (fi++vs++ca)] j=z0c P none (om P) [R,N] [N] T4 [.call g (fi++vs++ca)] j :=
        RTo.ops (P:=P) (r:=.val L j) (v:=L) (M':=j) ⟨rfl,rfl⟩ (z0u q3 V trivial) (z2u q2) (z1f V q2 k4) (by rw[q1];exact b6)
       have a7:∀ o,(∃ out,om P (.code f none (.seq (.region n0 r0 false) (.seq (.region n1 r1 false) (.seq (.region n2 r2 false) (.seq (.region n3 r3 false) .ret)))) T [] M)=some out /\
         z1k (some out) (fun e T ms m=>exE e (finRet P (om P) fn T ms m) (finRet P (om P) fn T ms m) (fun _=>none)) (fun v T ms m=>finDie P (om P) fn T v ms m)=some o)->om P (.call f args M)=some o:=fun o ⟨out,g1,g2⟩=>by
        rw[zfo a3]
        show ob (fnOf P f) _=_
        rw[c1,z8,hT,z8,X,z8]
        show z1k (om P (.code f none _ T [] M)) _ _=_
        rw[g1];exact g2
       have f0:om P (.code f none (.region n0 r0 false) T [] M)=some (.code .norm T1 [] j):=by rw[z3o];exact g1
       have f1:om P (.code f none (.region n1 r1 false) T1 [] j)=some (.code .norm Z [.call g (fi++vs++ca)] j):=by rw[z3o,c2];exact c0
       rcases k7 with⟨w,u,j1,j2⟩|⟨pv,u,j1,j2⟩
       ·obtain⟨T5,b7,b1⟩:=A.put s4 w
        have Y:z0c P none (om P) [R,N] [R,N] Z [.call g (fi++vs++ca)] j=some (.code .norm T5 [.call g (fi++vs++ca)] u):=by
         rw[e2,RTo.ops (P:=P) (r:=.enter g3 (G++J++C) j) (v:=w) (M':=u) j1 (z0u s3 A trivial) (z2u s2) (z1f A s2 a6) (by rw[s1];exact b7)]
         rfl
        obtain⟨T6,M3,u1,E6,b3,O,u2,H,u3,u4⟩:=j2 _ _ T5 none [.call g (fi++vs++ca)] e3 b1
        refine⟨_,O,a7 (.call (packed H) O) ⟨.code .ret T6 [.call g (fi++vs++ca)] M3,?_,?_⟩,u4⟩
        ·refine z7e f0 (z7e f1 (z7e (T':=T5) (ms':=[.call g (fi++vs++ca)]) (M':=u) (by rw[z3o,a5];exact Y) (z7e (T':=T6) (ms':=[.call g (fi++vs++ca)]) (M':=M3) (by rw[z3o];exact u1) ?_)))
         rw[z50];rfl
        ·show ob (dfrRun P (om P) g (fi++vs++ca) .nilIface M3) _=_
         rw[u2,z8]
         show ob (z0p P T6 O fn.results.toList) _=_
         rw[z1u b3 er u3];rfl
       ·have Y:z0c P none (om P) [R,N] [R,N] Z [.call g (fi++vs++ca)] j=some (.boom pv T4 [.call g (fi++vs++ca)] u):=by
         rw[e2]
         exact zly (z0u s3 A trivial) (z2u s2) (z1f A s2 a6) j1
        obtain⟨O,u2,H,u3,u4⟩:=j2
        refine⟨_,O,a7 (.call (packed H) O) ⟨.boom pv T4 [.call g (fi++vs++ca)] u,?_,?_⟩,u4⟩
        ·exact z7e f0 (z7e f1 (zed (by rw[z3o,a5];exact Y)))
        ·show ob (dfrRun P (om P) g (fi++vs++ca) pv u) _=_
         rw[u2,z8]
         show ob (z0p P T4 O fn.results.toList) _=_
         rw[z1u A er u3];rfl
      ·cases p
     ·cases p
    ·cases p
   ·cases p
  ·cases p
