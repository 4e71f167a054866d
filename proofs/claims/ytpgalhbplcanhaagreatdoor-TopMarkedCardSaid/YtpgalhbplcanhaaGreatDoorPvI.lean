/-
 Rules by which code is walked that may die;a function that puts off a call that recovers. No condition.
-/
import Derived.Test.YtpgalhbplcanhaaGreatDoorPvH
namespace PvL
set_option linter.unusedSectionVars false
set_option linter.unusedVariables false
open Go
section
variable {P:Program}
def OpsL(P:Program)(ops:Array Oper)(ro:Option Nat)(is:List Nat)(T:Tm)(ms:List Dfr)(m:Mem)(K:Ex->Tm->List Dfr->Mem->Prop)(D:LV->Tm->List Dfr->Mem->Prop):Prop :=
 ∀(Pt:Prot) (ρ:Rho) (b:Frame) (k:List Item) (cs:List Frame) (w:World) (a:Act),RO ρ ro b.roundOf->TR ρ T a.tmps->DR ρ ms a.defers->Rel Pt ρ m w->FreshA ρ m.next ->
  ∃ o,OutG K D o /\ m.next<=o.mem.next /\ CodeOut P Pt ρ m.next (lone (b.atR a (.inRegion ops is :: k)) cs w) b k cs o
variable {fn:FuncId} {ro:Option Nat} {T:Tm} {ms:List Dfr} {m:Mem} {K:Ex->Tm->List Dfr->Mem->Prop} {D:LV->Tm->List Dfr->Mem->Prop} {ops:Array Oper} {i:Nat} {o:Oper} {is:List Nat}
theorem OpsL.mono{K':Ex->Tm->List Dfr->Mem->Prop}{D':LV->Tm->List Dfr->Mem->Prop}(h:OpsL P ops ro is T ms m K D)(hk:∀ e T ms m,K e T ms m->K' e T ms m)(hd:∀ v T ms m,D v T ms m->D' v T ms m):OpsL P ops ro is T ms m K' D':=fun Pt ρ b k cs w a h1 h2 h3 h4 h5=>by
 obtain⟨o,ho,hle,hc⟩:=h Pt ρ b k cs w a h1 h2 h3 h4 h5
 refine⟨o,?_,hle,hc⟩
 cases o with
 | code e T ms m=>exact hk _ _ _ _ ho
 | boom v T ms m=>exact hd _ _ _ _ ho
 | call _ _=>exact ho
 | die _ _=>exact ho
theorem zf0(h:K .norm T ms m):OpsL P ops ro [] T ms m K D:=fun Pt ρ b k cs w a hro hT hd hrel hf =>
 ⟨.code .norm T ms m,h,Nat.le_refl _,ρ,a,w,Same.refl _ _ _,hT,hd,hrel,.one stepR_region_end⟩
theorem zlk[Orc P](hO:OmOk P)(ho:ops[i]?=some o)(hw:wanted ops.toList T o.guard=some true)(hnd:isDefer o.op=none){T':Tm}{m':Mem}(hs:z11 (om P) (op1 P o.op T m) T o.dst T' m')
  (h:OpsL P ops ro is T' ms m' K D):OpsL P ops ro (i :: is) T ms m K D:=fun Pt ρ b k cs w a hro hT hd hrel hf=>by
 have hw':=z0w hw hT
 have n1:=hs.next' hO.mono (z3l o.op)
 obtain⟨ρ1,v1,w1,hs1,hT1,hrel1,hsteps⟩:=z3m (b:=b) hO.mono hO.sim ho hs hO.fn (z3l o.op) (fun r hr hf=>z8l hr hT hrel hf) (fun c e=>by rw[e] at hnd;cases hnd) is k cs hw' hT hrel (hf.fresh _)
 obtain⟨q,hq,n2,h2⟩:=h Pt ρ1 b k cs w1 _ (hro.mono hs1.1) hT1 (by rw[z0b];exact hd.mono hs1.1) hrel1 (hf.same hs1 n1)
 exact⟨q,hq,Nat.le_trans n1 n2,h2.after hsteps hs1 n1 n2⟩
theorem zix{f:FuncId}{as:List LV}{Q D1:LV->Mem->Prop}(hfn:∃ fd,fnOf P f=some fd)(ho:ops[i]?=some o)(hw:wanted ops.toList T o.guard=some true)(hnd:isDefer o.op=none)(hA:op1 P o.op T m=some (.enter f as m))(hc:CallE P f as m Q D1)
  (h:∀ v m',Q v m'->∃ T',T.put o.dst v=some T' /\ OpsL P ops ro is T' ms m' K D) (hdie:∀ v m',D1 v m'->D v T ms m'):OpsL P ops ro (i :: is) T ms m K D:=fun Pt ρ b k cs w a hro hT hd hrel hf=>by
 have hw':=z0w hw hT
 have hnd':∀ c,o.op ≠ .defer c:=fun c e=>by rw[e] at hnd;cases hnd
 obtain⟨_,hok⟩:=z8l (P:=P) (a:=a) hA hT hrel (hf.fresh _)
 obtain⟨fd,hfn⟩:=hfn
 obtain⟨as',hrun,has⟩:=hok fd hfn
 have hfin:∀ v,(b.atR a (.inRegion ops (i :: is) :: k)).finish v=b.atR (a.put o.dst v) (.inRegion ops is :: k):=by
  intro v;rw[Frame.finish_atR,ho];rfl
 have henter:step P (lone (b.atR a (.inRegion ops (i :: is) :: k)) cs w)=.next (lone (Frame.enter P f as' .normal) (b.atR a (.inRegion ops (i :: is) :: k) :: cs) w) :=
  step_lone_go (by rw[stepGR_op ho hw',Oper.semAt_eq _ _ _ hnd'];simp[stepG.apply,hrun,Frame.atR])
 rcases hc Pt ρ w as' (b.atR a (.inRegion ops (i :: is) :: k) :: cs) has hT.3 hrel hf with⟨v,m',hq,n1,ρ',v',w',hsame,hv,hrel',fr,h1,h2,h3⟩|⟨v,m',hq,n1,ρ',v',w',hsame,hv,hrel',fr,h1,h2,h3⟩
 ·obtain⟨T',hp,hn⟩:=h v m' hq
  obtain⟨q,hq2,n2,h4⟩:=hn Pt ρ' b k cs w' (a.put o.dst v') (hro.mono hsame.1) ((hT.mono hsame.1).put hp hv) (by rw[z0b];exact hd.mono hsame.1) hrel' (hf.same hsame n1)
  refine⟨q,hq2,Nat.le_trans n1 n2,h4.after (.head henter (h1.trans (.one ?_))) hsame n1 n2⟩
  rw[<-hfin];exact step_leave_returned h3
 ·refine⟨.boom v T ms m',hdie v m' hq,n1,ρ',a,w',v',(.inRegion ops (i :: is) :: k),hsame,hT.mono hsame.1,hd.mono hsame.1,hrel',hv,.head henter (h1.trans (.one ?_))⟩
  have:=step_leave_panicked (c:=b.atR a (.inRegion ops (i :: is) :: k)) (cs:=cs) h3
  rw[Frame.raise_atR] at this
  exact this
def OpsG(P:Program)(ops:Array Oper)(ro:Option Nat)(fuel:Nat)(L:Array Bool)(T:Tm)(ms:List Dfr)(m:Mem)(K:Ex->Tm->List Dfr->Mem->Prop)(D:LV->Tm->List Dfr->Mem->Prop):Prop :=
 ∀ t,OpsL P ops ro (Region.linearise.go .any ops fuel t L []) T ms m K D
theorem zd8(hmix:P.follows .mixedOrders=true){id:Nat}(h:OpsG P ops ro ops.size (Array.replicate ops.size false) T ms m K D):CodeE P fn ro (.region id ops true) T ms m K D:=fun Pt ρ b k cs w a hb hro hT hd hrel hf=>by
 have hsch:Region.schedule (P.follows .mixedOrders) ops (w.tape w.drawn (.order b.fn id))=Region.linearise.go .any ops ops.size (w.tape w.drawn (.order b.fn id)) (Array.replicate ops.size false) []:=by
  simp only[Region.schedule,hmix,Bool.true_or,if_true];rfl
 obtain⟨o,ho,n,h1⟩:=h (w.tape w.drawn (.order b.fn id)) Pt ρ b k cs { w with drawn:=w.drawn+1 } a hro hT hd (hrel.of_heap rfl) hf
 refine⟨o,ho,n,CodeOut.of_steps (.one stepR_region_draw) ?_⟩
 rw[hsch]
 exact h1
theorem zlj{fuel:Nat}{L:Array Bool}(hr:Region.ready .any ops L=[])(hk:K .norm T ms m):OpsG P ops ro fuel L T ms m K D:=fun t=>by
 cases fuel with
 | zero=>exact zf0 hk
 | succ n =>
  have e:Region.linearise.go .any ops (n+1) t L []=[]:=by
   show(match (Region.ready .any ops L)[t % (Region.ready .any ops L).length]? with
    | some i=>Region.linearise.go .any ops n (t / (Region.ready .any ops L).length) (L.setIfInBounds i true) [i]
    | none=>([]:List Nat).reverse)=[]
   rw[hr];rfl
  rw[e];exact zf0 hk
theorem ziw{fuel:Nat}{L:Array Bool}(hne:Region.ready .any ops L ≠ [])
  (h:∀ i ∈ Region.ready .any ops L,∀ is,(∀ T' m',OpsG P ops ro fuel (L.setIfInBounds i true) T' ms m' K D->OpsL P ops ro is T' ms m' K D)->OpsL P ops ro (i :: is) T ms m K D):OpsG P ops ro (fuel+1) L T ms m K D:=fun t=>by
 have e:Region.linearise.go .any ops (fuel+1) t L []=match (Region.ready .any ops L)[t % (Region.ready .any ops L).length]? with
  | some i=>Region.linearise.go .any ops fuel (t / (Region.ready .any ops L).length) (L.setIfInBounds i true) [i]
  | none=>([]:List Nat).reverse:=rfl
 rw[e]
 cases hx:(Region.ready .any ops L)[t % (Region.ready .any ops L).length]? with
 | none=>exact absurd (z3j hx) hne
 | some i =>
  show OpsL P ops ro (Region.linearise.go .any ops fuel (t / (Region.ready .any ops L).length) (L.setIfInBounds i true) [i]) T ms m K D
  rw[linearise_go_acc,List.reverse_singleton,List.singleton_append]
  exact h i (List.mem_of_getElem? hx) _ fun T' m' hG=>hG _
end
section
variable {P:Program} [Orc P] {sz:Nat}
theorem zh4{o:Op}{i:XI}(h:cOp P o=some i):isDefer o=none:=by
 cases o<;>first|rfl|cases h
theorem z7q{all:List Oper}{ds:List Nat}:∀(os:List Oper) (n:Nat) (l:List (XG × XK)),cDrawn P sz all ds os n=some l->l.length=os.length /\ ∀(i:Nat) (o:Oper),os[i]?=some o->∃(g:XG) (kd:XK),l[i]?=some (g,kd) /\ cOper P sz all o=some g
 | [],n,l,h=>by cases h;exact⟨rfl,fun i o h=>by simp at h⟩
 | o :: os,n,l,h=>by
  simp only[cDrawn] at h
  split at h
  ·rename_i g' l' h1 h2
   cases h
   obtain⟨e1,e2⟩:=z7q os (n+1) l' h2
   refine⟨by simp[e1],fun i o' ho=>?_⟩
   cases i with
   | zero=>cases ho;exact⟨_,_,rfl,h1⟩
   | succ i=>exact e2 i o' (by simpa using ho)
  ·cases h
structure LB1 (ops:Array Oper) (L:Array Bool) (s:Nat):Prop where
 sz:L.size=ops.size
 bit:∀ i,i < ops.size->L.getD i false=Nat.testBit s i
 down:∀ j o,ops[j]?=some o->L.getD j false=true->∀ e ∈ o.after,Region.binds .any e=true->L.getD e.on false=true
def rdy(ds:List Nat)(s i:Nat):Bool:=!(Nat.testBit s i) && Nat.beq (Nat.land (ds.getD i 0) s) (ds.getD i 0)
theorem LB1.rdy{ops:Array Oper}{L:Array Bool}{s i:Nat}(h:LB1 ops L s)(hi:i ∈ Region.ready .any ops L):∃ o,ops[i]?=some o /\ L.getD i false=false /\ rdy (deps ops) s i=true /\ LB1 ops (L.setIfInBounds i true) (Nat.lor s (2 ^ i)):=by
 obtain⟨hl,o,ho,hr⟩:=mem_ready.1 hi
 have hin:=z0y ho
 have hsz:i < L.size:=by rw[h.sz];exact hin
 have hl':L.getD i false=false:=by simp[hsz] at hl ⊢;exact hl
 refine⟨o,ho,hl',?_,⟨by simp[h.sz],fun j hj=>?_,fun j o' ho' hj=>?_⟩⟩
 ·unfold PvL.rdy
  rw[<-h.bit i hin,hl']
  have hd:=z4z (S:=fun i=>L.getD i false=true) h.down (i+1) i (Nat.lt_succ_self _) o ho hr
  have:Nat.land ((deps ops).getD i 0) s=(deps ops).getD i 0:=by
   refine Nat.eq_of_testBit_eq fun j=>?_
   show Nat.testBit ((deps ops).getD i 0 &&& s) j=_
   rw[Nat.testBit_and]
   cases hb:Nat.testBit ((deps ops).getD i 0) j with
   | false=>rfl
   | true =>
    have h1:=hd j hb
    have hj:j < ops.size:=by
     rcases Nat.lt_or_ge j L.size with hlt|hge
     ·rw[<-h.sz];exact hlt
     ·rw[show L.getD j false=false by simp[Array.getElem?_eq_none hge]] at h1;cases h1
    rw[<-h.bit j hj,h1];rfl
  rw[this];simp
 ·rw[z1i hsz]
  show _=Nat.testBit (s ||| 2 ^ i) j
  rw[Nat.testBit_or,Nat.testBit_two_pow]
  by_cases e:j=i
  ·subst e;simp
  ·rw[if_neg e,h.bit j hj,decide_eq_false (fun e'=>e e'.symm),Bool.or_false]
 ·rw[z1i hsz] at hj
  intro e he hb
  rw[z1i hsz]
  split
  ·rfl
  ·by_cases e2:j=i
   ·subst e2
    rw[ho] at ho';cases ho'
    exact hr e he hb
   ·rw[if_neg e2] at hj
    exact h.down j o' ho' hj e he hb
theorem LB1.none_ready{ops:Array Oper}(hok:RegOk P ops){L:Array Bool}{s:Nat}(h:LB1 ops L s)(hr:Region.ready .any ops L=[]):∀ n i,i < n->i < ops.size->L.getD i false=true
 | 0,i,hl,_=>absurd hl (Nat.not_lt_zero _)
 | n+1,i,hl,hin=>by
  have ho:ops[i]?=some ops[i]:=Array.getElem?_eq_getElem hin
  cases hx:L.getD i false with
  | true=>rfl
  | false =>
   have hmem:i ∈ Region.ready .any ops L:=by
    rw[mem_ready]
    refine⟨?_,ops[i],ho,fun e he hb=>?_⟩
    ·have hs:i < L.size:=by rw[h.sz];exact hin
     simp[hs] at hx ⊢;exact hx
    ·have:=hok.edge i _ ho e he hb
     exact LB1.none_ready hok h hr n e.on (by omega) (by omega)
   rw[hr] at hmem;cases hmem
def XQ(P:Program)[Orc P](sz:Nat)(l:List (XG × XK))(ds:List Nat)(s:Nat)(E:Env)(M:Mem)(K:Env->Mem->Prop):Prop :=
 ∀(ops:Array Oper) (L:Array Bool) (fuel:Nat) (T:Tm) (ro:Option Nat) (ms:List Dfr),RegOk P ops->deps ops=ds->cDrawn P sz ops.toList ds ops.toList 0=some l->LB1 ops L s->zu sz E T->OmOk P->unl L ops.size<=fuel ->
  OpsG P ops ro fuel L T ms M (fun e T' ms' M'=>e=.norm /\ ms'=ms /\ ∃ E',zu sz E' T' /\ K E' M') (fun _ _ _ _=>False)
def XT(P:Program)[Orc P](sz:Nat)(l:List (XG × XK))(ds:List Nat)(s i:Nat)(g:XG)(E:Env)(M:Mem)(K:Env->Mem->Prop):Prop :=
 ∀(ops:Array Oper) (o:Oper) (T:Tm),ops[i]?=some o->cOper P sz ops.toList o=some g->zu sz E T->OmOk P->∀(ro:Option Nat) (ms:List Dfr) (is:List Nat) (KK:Ex->Tm->List Dfr->Mem->Prop),
  (∀ E' M' T',XQ P sz l ds (Nat.lor s (2 ^ i)) E' M' K->zu sz E' T'->OpsL P ops ro is T' ms M' KK fun _ _ _ _=>False)->OpsL P ops ro (i :: is) T ms M KK fun _ _ _ _=>False
def XAll(P:Program)[Orc P](sz:Nat)(l:List (XG × XK))(ds:List Nat)(s:Nat)(E:Env)(M:Mem)(K:Env->Mem->Prop):List (XG × XK)->Nat->Prop
 | [],_=>True
 |(g,_) :: r,i=>(rdy ds s i=true->XT P sz l ds s i g E M K) /\ XAll P sz l ds s E M K r (i+1)
variable {l:List (XG × XK)} {ds:List Nat} {s:Nat} {E:Env} {M:Mem} {K:Env->Mem->Prop}
theorem XAll.at_:∀ {r:List (XG × XK)} {n:Nat},XAll P sz l ds s E M K r n->∀ {i:Nat} {g:XG} {kd:XK},r[i]?=some (g,kd)->rdy ds s (n+i)=true->XT P sz l ds s (n+i) g E M K
 | [],n,h,i,g,kd,hi,hr=>by simp at hi
 | x :: r,n,h,0,g,kd,hi,hr=>by cases hi;exact h.1 hr
 | x :: r,n,h,i+1,g,kd,hi,hr=>by
  have:=XAll.at_ h.2 (i:=i) (g:=g) (kd:=kd) (by simpa using hi) (by rw[show n+1+i=n+(i+1) by omega];exact hr)
  rw[show n+1+i=n+(i+1) by omega] at this;exact this
def undone(s:Nat):Nat->Bool
 | 0=>false
 | n+1=>!(Nat.testBit s n) || undone s n
theorem zcu{s:Nat}:∀ {n:Nat},undone s n=true->∃ i,i < n /\ Nat.testBit s i=false
 | n+1,h=>by
  simp only[undone,Bool.or_eq_true,Bool.not_eq_true'] at h
  rcases h with h|h
  ·exact⟨n,Nat.lt_succ_self _,h⟩
  ·obtain⟨i,h1,h2⟩:=zcu h
   exact⟨i,by omega,h2⟩
theorem zcv{s:Nat}:∀ {n:Nat},undone s n=false->∀ i,i < n->Nat.testBit s i=true
 | n+1,h,i,hi=>by
  simp only[undone,Bool.or_eq_false_iff,Bool.not_eq_false'] at h
  by_cases e:i=n
  ·subst e;exact h.1
  ·exact zcv h.2 i (by omega)
theorem z94(hu:undone s l.length=true)(h:XAll P sz l ds s E M K l 0):XQ P sz l ds s E M K:=fun ops L fuel T ro ms hok hds hc hL he hO hf=>by
 obtain⟨hlen,hat⟩:=z7q _ _ _ hc
 obtain⟨j,hj,hj2⟩:=zcu hu
 have hjn:j < ops.size:=by rw[hlen] at hj;simpa using hj
 have hjL:L.getD j false=false:=by rw[hL.bit j hjn];exact hj2
 cases fuel with
 | zero =>
  have:=z7j ops.size (Nat.le_zero.1 hf) j hjn
  rw[hjL] at this;cases this
 | succ fuel =>
  refine ziw (fun hr=>?_) fun i hi is hcont=>?_
  ·have:=hL.none_ready hok hr (j+1) j (by omega) hjn
   rw[hjL] at this;cases this
  ·obtain⟨o,ho,hl,hrd,hL'⟩:=hL.rdy hi
   obtain⟨g,kd,h1,h2⟩:=hat i o (by simpa using ho)
   have hx:=h.at_ h1 (by rw[Nat.zero_add,<- hds];exact hrd)
   rw[Nat.zero_add] at hx
   refine hx ops o T ho h2 he hO ro ms is _ fun E' M' T' hq he'=>hcont T' M' (hq ops _ fuel T' ro ms hok hds hc hL' he' hO ?_)
   have hs:i < L.size:=by rw[hL.sz];exact z0y ho
   have:=(zba hs hl ops.size).2 (z0y ho)
   omega
theorem zsh(hu:undone s l.length=false)(hk:K E M):XQ P sz l ds s E M K:=fun ops L fuel T ro ms hok hds hc hL he hO hf=>by
 obtain⟨hlen,hat⟩:=z7q _ _ _ hc
 refine zlj ?_ ⟨rfl,rfl,E,he,hk⟩
 cases hr:Region.ready .any ops L with
 | nil=>rfl
 | cons i r =>
  obtain⟨o,ho,hl,-,-⟩:=hL.rdy (i:=i) (by rw[hr];simp)
  have hi:=z0y ho
  have:=zcv hu i (by rw[hlen];simpa using hi)
  rw[<-hL.bit i hi,hl] at this;cases this
theorem zt0{i:Nat}{d:Option Nat}{x:XI}{g:Option (Nat × Bool)}(hg:GOn E g){r:R1}(hs:zm P x E M=some r){v:LV}{M':Mem}(hf:RTo P r v M')
  (hk:XQ P sz l ds (Nat.lor s (2 ^ i)) (putE E d v) M' K):XT P sz l ds s i ⟨d,x,g⟩ E M K:=fun ops o T ho hc he hO ro ms is KK hcont=>by
 obtain⟨h3,h4,h5,h6⟩:=z7d hc
 have h7:=z35 he h4 hs
 obtain⟨T1,hT1,he1⟩:=he.put h6 v
 exact zlk hO ho (z26 h5 he hg) (zh4 h4) (hf.stepR h7 (by rw[h3];exact hT1)) (hcont _ _ _ hk he1)
theorem za6{i:Nat}{d:Option Nat}{x:XI}{g:Option (Nat × Bool)}(hg:GOn E g){v:LV}{M':Mem}(hs:zm P x E M=some (.val v M'))(hk:XQ P sz l ds (Nat.lor s (2 ^ i)) (putE E d v) M' K):XT P sz l ds s i ⟨d,x,g⟩ E M K :=
 zt0 hg hs ⟨rfl,rfl⟩ hk
theorem zfj{i:Nat}{d:Option Nat}{g:Option (Nat × Bool)}(hg:GOn E g){f:XO}{as:List XO}{gf:FuncId}{fi ca vs:List LV}(hf:xval E f=some (.func (.func gf) fi ca))(has:z14 E as=some vs){Q:LV->Mem->Prop}(h:CallN P gf (fi ++ vs ++ ca) M Q)
  (hk:∀ v M',Q v M'->XQ P sz l ds (Nat.lor s (2 ^ i)) (putE E d v) M' K):XT P sz l ds s i ⟨d,.call f as,g⟩ E M K:=fun ops o T ho hc he hO ro ms is KK hcont=>by
 obtain⟨h3,h4,h5,h6⟩:=z7d hc
 have hs:zm P (.call f as) E M=some (.enter gf (fi ++ vs ++ ca) M):=by
  show ob (z14 E as) _=_
  rw[has,za,hf];rfl
 refine zix h.1 ho (z26 h5 he hg) (zh4 h4) (z35 he h4 hs) (h.2 hO) (fun v m' hq=>?_) (fun _ _ h=>h.elim)
 obtain⟨T1,hT1,he1⟩:=he.put h6 v
 exact⟨T1,by rw[h3];exact hT1,hcont _ _ _ (hk v m' hq) he1⟩
theorem zpj{fn:FuncId}{ro:Option Nat}{ms:List Dfr}{K:Ex->Env->List Dfr->Mem->Prop}(hmix:P.follows .mixedOrders=true)(h:XQ P sz l ds 0 E M fun E M=>K .norm E ms M):W .gen P fn ro sz (.draw l ds) E ms M K:=fun code T hc he hO=>by
 cases code with
 | region i ops d =>
  cases d with
  | true =>
   simp only[zw] at hc
   split at hc
   ·rename_i hok
    split at hc
    ·rename_i l' hl
     cases hc
     have hrep:∀ i,(Array.replicate ops.size false).getD i false=false:=fun i=>by
      by_cases hi:i < ops.size
      ·simp[hi]
      ·simp[Array.getElem?_eq_none (show(Array.replicate ops.size false).size<=i by simp;omega)]
     have hL:LB1 ops (Array.replicate ops.size false) 0:=⟨by simp,fun i _=>by rw[hrep,Nat.zero_testBit],fun j o _ hj=>by rw[hrep] at hj;cases hj⟩
     have hG:=h ops (Array.replicate ops.size false) ops.size T ro ms (z3o hok) rfl hl hL he hO (zfc _ _)
     exact zd8 hmix fun t=>OpsL.mono (hG t) (fun e T ms m ⟨h1,h2,E',h3,h4⟩=>by subst h1;subst h2;exact⟨E',h3,h4⟩) (fun _ _ _ _ h=>h)
    ·cases hc
   ·cases hc
  | false=>simp only[zw] at hc;(repeat' split at hc)<;>cases hc
 | skip|label|ret|goto|refuse|exit=>cases hc
 | _=>simp only[zw] at hc;split at hc<;>cases hc
