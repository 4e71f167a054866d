/-
 Rules by which a function's code is walked,symbol by symbol. No condition.
-/
import Derived.Test.YtpgalhbplcanhaaGreatDoorPvF
section
namespace PvL
set_option linter.unusedSectionVars false
open Go
inductive Md where
 | det|gen
 | die (D:LV->Mem->Prop)
variable {μ:Md}
def ze(P:Program)[Orc P](f:FuncId)(args:List LV)(M:Mem)(Q:LV->Mem->Prop):Prop:=∃ v M',om P (.call f args M)=some (.call v M') /\ Q v M'
def RoundOk(P:Program)[Orc P](l:Nat)(args:List LV)(M:Mem)(Q:LV->Mem->Prop):Prop:=∃ v M',om P (.round l args M)=some (.call v M') /\ Q v M'
def AppOk(P:Program)[Orc P](f:LV)(args:List LV)(M:Mem)(Q:LV->Mem->Prop):Prop :=
 match f with
 | .func (.func g) fi ca=>ze P g (fi ++ args ++ ca) M Q
 | .func (.yield l) [] []=>RoundOk P l args M Q
 | _=>False
section
variable {P:Program} [Orc P]
theorem ze.mono{f:FuncId}{args:List LV}{M:Mem}{Q Q':LV->Mem->Prop}(h:ze P f args M Q)(hq:∀ v M',Q v M'->Q' v M'):ze P f args M Q' :=
 let ⟨v,M',h1,h2⟩:=h;⟨v,M',h1,hq _ _ h2⟩
def RTo(P:Program)[Orc P](r:R1)(v:LV)(M':Mem):Prop :=
 match r with
 | .val v' m'=>v'=v /\ m'=M'
 | .skip m'=>z05=v /\ m'=M'
 | .enter f as m=>om P (.call f as m)=some (.call v M')
 | .round l as m=>om P (.round l as m)=some (.call v M')
 | .boom _ _=>False
theorem RTo.opFin{r:R1}{v:LV}{M':Mem}(h:RTo P r v M'){α:Type}(T:Tm)(d:Option Nat)(k:Tm->Mem->Option α):opFin (om P) T d r k=ob (T.put d v) fun T=>k T M':=by
 cases r with
 | val v' m'=>obtain⟨rfl,rfl⟩:=h;rfl
 | skip m'=>obtain⟨rfl,rfl⟩:=h;rfl
 | enter f as m=>show z1x (om P _) _=_;rw[show om P (.call f as m)=_ from h];rfl
 | round l as m=>show z1x (om P _) _=_;rw[show om P (.round l as m)=_ from h];rfl
 | boom _ _=>exact h.elim
theorem RTo.ops{r:R1}{v:LV}{M M':Mem}(h:RTo P r v M'){ro:Option Nat}{all:List Oper}{o:Oper}{os:List Oper}{T T':Tm}{ms:List Dfr}(hw:wanted all T o.guard=some true)(hd:isDefer o.op=none)(hA:opA P o.op T M=some r)(hp:T.put o.dst v=some T') :
  z0p P ro (om P) all (o :: os) T ms M=z0p P ro (om P) all os T' ms M':=by
 obtain⟨dst,op,a1,a2,a3,g⟩:=o
 show ob (wanted all T g) _=_
 have hw:wanted all T g=some true:=hw
 have hd:isDefer op=none:=hd
 have hA:opA P op T M=some r:=hA
 have hp:T.put dst v=some T':=hp
 rw[hw]
 show oe (isDefer op) _ _=_
 rw[hd]
 show ob (opA P op T M) _=_
 rw[hA]
 cases r with
 | val v' m'=>obtain⟨rfl,rfl⟩:=h;show ob (T.put dst v') _=_;rw[hp];rfl
 | skip m'=>obtain⟨rfl,rfl⟩:=h;show ob (T.put dst z05) _=_;rw[hp];rfl
 | enter f as m=>show z1j (om P _) _ _=_;rw[show om P (.call f as m)=_ from h];show ob (T.put dst v) _=_;rw[hp];rfl
 | round l as m=>show z1j (om P _) _ _=_;rw[show om P (.round l as m)=_ from h];show ob (T.put dst v) _=_;rw[hp];rfl
 | boom _ _=>exact h.elim
theorem AppOk.opFin{f:LV}{args:List LV}{M:Mem}{Q:LV->Mem->Prop}(h:AppOk P f args M Q):∃ r v M',callV f args M=some r /\ Q v M' /\ RTo P r v M':=by
 unfold AppOk at h
 split at h
 ·obtain⟨v,M',h1,h2⟩:=h
  exact⟨_,v,M',rfl,h2,h1⟩
 ·obtain⟨v,M',h1,h2⟩:=h
  exact⟨_,v,M',rfl,h2,h1⟩
 ·exact h.elim
variable {sz:Nat}
def XW(μ:Md)(P:Program)[Orc P](sz:Nat)(l:List XG)(E:Env)(M:Mem)(K:Env->Mem->Prop):Prop :=
 match μ with
 | .det=>∀(all os:List Oper) (T:Tm) (ro:Option Nat) (ms:List Dfr),cOps P sz all os=some l->zu sz E T->∃ T' M',z0p P ro (om P) all os T ms M=some (.code .norm T' ms M') /\ ∃ E',zu sz E' T' /\ K E' M'
 | .die D=>∀(all os:List Oper) (T:Tm) (ro:Option Nat) (ms:List Dfr),cOps P sz all os=some l->zu sz E T->(∃ T' M',z0p P ro (om P) all os T ms M=some (.code .norm T' ms M') /\ ∃ E',zu sz E' T' /\ K E' M') ∨(∃ v T' M',z0p P ro (om P) all os T ms M=some (.boom v T' ms M') /\ D v M')
 | .gen=>∀(ops:Array Oper) (os:List Oper) (i:Nat) (T:Tm) (ro:Option Nat) (ms:List Dfr),(∀ j,os[j]?=ops[i+j]?)->cOps P sz ops.toList os=some l->zu sz E T->OmOk P ->
   OpsE P ops ro i os.length T ms M (fun e T' ms' M'=>e=.norm /\ ms'=ms /\ ∃ E',zu sz E' T' /\ K E' M') (fun _ _ _ _=>False)
def GOn(E:Env):Option (Nat × Bool)->Prop|none=>True|some (d,w)=>look E d=some (.bool w)
def GOff(E:Env):Option (Nat × Bool)->Prop|none=>False|some (d,w)=>look E d=some (.bool (!w)) ∨ look E d=some z05
theorem z21{all os:List Oper}{g:XG}{l:List XG}(h:cOps P sz all os=some (g :: l)):∃ o os',os=o :: os' /\ cOperA P sz all o=some g /\ cOps P sz all os'=some l:=by
 cases os with
 | nil=>cases h
 | cons o os =>
  simp only[cOps] at h
  split at h
  ·rename_i g' l' h1 h2;cases h;exact⟨o,os,rfl,h1,h2⟩
  ·cases h
theorem z7d{all:List Oper}{o:Oper}{d:Option Nat}{i:XI}{g:Option (Nat × Bool)}(h:cOper P sz all o=some ⟨d,i,g⟩):o.dst=d /\ cOp P o.op=some i /\ cGuard all o.guard=some g /\ dstIn sz d=true:=by
 unfold cOper at h
 split at h
 ·rename_i i' g' h1 h2 h3;cases h;exact⟨rfl,h1,h2,h3⟩
 ·cases h
theorem z20{all:List Oper}{o:Oper}{d:Option Nat}{i:XI}{g:Option (Nat × Bool)}(h:cOperA P sz all o=some ⟨d,i,g⟩):o.dst=d /\ cOpA P o.op=some i /\ cGuard all o.guard=some g /\ dstIn sz d=true:=by
 unfold cOperA at h
 split at h
 ·rename_i i' g' h1 h2 h3;cases h;exact⟨rfl,h1,h2,h3⟩
 ·cases h
theorem zac{o:Op}{i:XI}(h:cOpA P o=some i):isDefer o=none:=by
 cases o<;>first|rfl|cases h
theorem z26{all:List Oper}{g:Option (Nat × Bool)}{g':Option (Nat × Bool)}(hg:cGuard all g=some g'){E:Env}{T:Tm}(h:zu sz E T)(ho:GOn E g'):wanted all T g=some true:=by
 cases g with
 | none=>rfl
 | some p =>
  obtain⟨j,w⟩:=p
  unfold cGuard at hg
  simp only at hg
  split at hg
  ·rename_i d hd
   cases hg
   show oe ((all[j]?).bind (·.dst)) _ _=_
   rw[hd,z2n,h.look _ _ ho]
   show some (bEq w w)=_
   cases w<;>rfl
  ·cases hg
theorem z4n{all:List Oper}{g:Option (Nat × Bool)}{g':Option (Nat × Bool)}(hg:cGuard all g=some g'){E:Env}{T:Tm}(h:zu sz E T)(ho:GOff E g'):wanted all T g=some false:=by
 cases g with
 | none=>cases hg;exact ho.elim
 | some p =>
  obtain⟨j,w⟩:=p
  unfold cGuard at hg
  simp only at hg
  split at hg
  ·rename_i d hd
   cases hg
   show oe ((all[j]?).bind (·.dst)) _ _=_
   rw[hd,z2n]
   rcases ho with ho|ho
   ·rw[h.look _ _ ho]
    show some (bEq (!w) w)=_
    cases w<;>rfl
   ·rw[h.look _ _ ho];rfl
  ·cases hg
section ops
variable {E:Env} {M:Mem} {K:Env->Mem->Prop} {l:List XG} {d:Option Nat} {i:XI} {g:Option (Nat × Bool)}
theorem zt1(h:K E M):XW μ P sz [] E M K:=by
 cases μ with
 | det =>
  intro all os T ro ms hc he
  cases os with
  | nil=>exact⟨T,M,rfl,E,he,h⟩
  | cons o os =>
   simp only[cOps] at hc
   split at hc<;>cases hc
 | die D =>
  intro all os T ro ms hc he
  cases os with
  | nil=>exact .inl ⟨T,M,rfl,E,he,h⟩
  | cons o os =>
   simp only[cOps] at hc
   split at hc<;>cases hc
 | gen =>
  intro ops os i T ro ms hos hc he hO
  cases os with
  | nil=>exact zlh ⟨rfl,rfl,E,he,h⟩
  | cons o os =>
   simp only[cOps] at hc
   split at hc<;>cases hc
theorem RTo.stepR{r:R1}{v:LV}{M':Mem}(h:RTo P r v M'){X:Option R1}(hX:X=some r){T T':Tm}{dst:Option Tmp}(hp:T.put dst v=some T'):z11 (om P) X T dst T' M':=by
 subst hX
 cases r with
 | val v' m'=>obtain⟨rfl,rfl⟩:=h;exact .val rfl hp
 | skip m'=>obtain⟨rfl,rfl⟩:=h;exact .skip rfl hp
 | enter f as m=>exact .enter rfl h hp
 | round l as m=>exact .round rfl h hp
 | boom _ _=>exact h.elim
theorem zf1{ops:Array Oper}{o:Oper}{os:List Oper}{i:Nat}(hos:∀ j,(o :: os)[j]?=ops[i+j]?):ops[i]?=some o /\ ∀ j,os[j]?=ops[i+1+j]? :=
 ⟨by have:=hos 0;simpa using this.symm,fun j=>by have:=hos (j+1);simp only[List.getElem?_cons_succ] at this;rw[this];congr 1;omega⟩
theorem zk4(hg:GOn E g){r:R1}(hs:zm P i E M=some r){v:LV}{M':Mem}
  (hf:RTo P r v M') (hk:XW μ P sz l (putE E d v) M' K):XW μ P sz (⟨d,i,g⟩ :: l) E M K:=by
 cases μ with
 | det =>
  intro all os T ro ms hc he
  obtain⟨o,os',rfl,h1,h2⟩:=z21 hc
  obtain⟨h3,h4,h5,h6⟩:=z20 h1
  have h7:=z4c he h4 hs
  obtain⟨T1,hT1,he1⟩:=he.put h6 v
  obtain⟨T',M2,h8,h9⟩:=hk all os' T1 ro ms h2 he1
  refine⟨T',M2,?_,h9⟩
  rw[hf.ops (z26 h5 he hg) (zac h4) h7 (by rw[h3];exact hT1)];exact h8
 | die D =>
  intro all os T ro ms hc he
  obtain⟨o,os',rfl,h1,h2⟩:=z21 hc
  obtain⟨h3,h4,h5,h6⟩:=z20 h1
  have h7:=z4c he h4 hs
  obtain⟨T1,hT1,he1⟩:=he.put h6 v
  rw[hf.ops (z26 h5 he hg) (zac h4) h7 (by rw[h3];exact hT1)]
  exact hk all os' T1 ro ms h2 he1
 | gen =>
  intro ops os j T ro ms hos hc he hO
  obtain⟨o,os',rfl,h1,h2⟩:=z21 hc
  obtain⟨h3,h4,h5,h6⟩:=z20 h1
  have h7:=z4c he h4 hs
  obtain⟨T1,hT1,he1⟩:=he.put h6 v
  obtain⟨ho,hos'⟩:=zf1 hos
  exact zlg hO ho (z26 h5 he hg) (zac h4) (hf.stepR h7 (by rw[h3];exact hT1)) (hk ops os' (j+1) T1 ro ms hos' h2 he1 hO)
theorem z64(hg:GOn E g){v:LV}{M':Mem}(hs:zm P i E M=some (.val v M'))(hk:XW μ P sz l (putE E d v) M' K):XW μ P sz (⟨d,i,g⟩ :: l) E M K :=
 zk4 hg hs ⟨rfl,rfl⟩ hk
theorem zq3(hg:GOn E g){M':Mem}(hs:zm P i E M=some (.skip M'))(hk:XW μ P sz l (putE E d z05) M' K):XW μ P sz (⟨d,i,g⟩ :: l) E M K :=
 zk4 hg hs ⟨rfl,rfl⟩ hk
theorem zt2(hg:GOff E g)(hk:XW μ P sz l (putE E d z05) M K):XW μ P sz (⟨d,i,g⟩ :: l) E M K:=by
 cases μ with
 | det =>
  intro all os T ro ms hc he
  obtain⟨o,os',rfl,h1,h2⟩:=z21 hc
  obtain⟨h3,h4,h5,h6⟩:=z20 h1
  obtain⟨T1,hT1,he1⟩:=he.put h6 z05
  obtain⟨T',M2,h8,h9⟩:=hk all os' T1 ro ms h2 he1
  refine⟨T',M2,?_,h9⟩
  rw[z6g (z4n h5 he hg) (by rw[h3];exact hT1)];exact h8
 | die D =>
  intro all os T ro ms hc he
  obtain⟨o,os',rfl,h1,h2⟩:=z21 hc
  obtain⟨h3,h4,h5,h6⟩:=z20 h1
  obtain⟨T1,hT1,he1⟩:=he.put h6 z05
  rw[z6g (z4n h5 he hg) (by rw[h3];exact hT1)]
  exact hk all os' T1 ro ms h2 he1
 | gen =>
  intro ops os j T ro ms hos hc he hO
  obtain⟨o,os',rfl,h1,h2⟩:=z21 hc
  obtain⟨h3,h4,h5,h6⟩:=z20 h1
  obtain⟨T1,hT1,he1⟩:=he.put h6 z05
  obtain⟨ho,hos'⟩:=zf1 hos
  exact zli ho (z4n h5 he hg) (by rw[h3];exact hT1) (hk ops os' (j+1) T1 ro ms hos' h2 he1 hO)
theorem z97(hg:GOn E g){f:XO}{as:List XO}{fv:LV}{vs:List LV}(hf:xval E f=some fv)(has:z14 E as=some vs){Q:LV->Mem->Prop}(h:AppOk P fv vs M Q)
  (hk:∀ v M',Q v M'->XW μ P sz l (putE E d v) M' K):XW μ P sz (⟨d,.call f as,g⟩ :: l) E M K:=by
 obtain⟨r,v,M',h1,h2,h3⟩:=h.opFin
 refine zk4 hg (r:=r) (v:=v) (M':=M') ?_ h3 (hk v M' h2)
 show ob (z14 E as) _=_
 rw[has,za,hf];exact h1
theorem zt3{E':Env}(hs:∀ t v,look E' t=some v->look E t=some v)(h:XW μ P sz l E' M K):XW μ P sz l E M K:=by
 cases μ with
 | det=>exact fun all os T ro ms hc he=>h all os T ro ms hc (he.sub hs)
 | die D=>exact fun all os T ro ms hc he=>h all os T ro ms hc (he.sub hs)
 | gen=>exact fun ops os j T ro ms hos hc he hO=>h ops os j T ro ms hos hc (he.sub hs) hO
theorem z59{t:Nat}{v v':LV}(ht:look E t=some v)(hv:v=v')(h:XW μ P sz l ((t,v') :: E) M K):XW μ P sz l E M K:=by
 subst hv
 refine zt3 (fun u w hu=>?_) h
 have hu:(match Nat.beq t u with|true=>some v|false=>look E u)=some w:=hu
 cases hb:Nat.beq t u with
 | true=>rw[hb] at hu;obtain rfl:=Nat.eq_of_beq_eq_true hb;rw[ht];exact hu
 | false=>rw[hb] at hu;exact hu
def CallN(P:Program)[Orc P](f:FuncId)(args:List LV)(M:Mem)(Q:LV->Mem->Prop):Prop:=(∃ fd,fnOf P f=some fd) /\ (OmOk P->CallE P f args M Q fun _ _=>False)
theorem CallN.mono{f:FuncId}{args:List LV}{M:Mem}{Q Q':LV->Mem->Prop}(h:CallN P f args M Q)(hq:∀ v M',Q v M'->Q' v M'):CallN P f args M Q':=⟨h.1,fun hO=>(h.2 hO).mono hq fun _ _ h=>h⟩
theorem zmq(hg:GOn E g){f:XO}{as:List XO}{gf:FuncId}{fi ca vs:List LV}(hf:xval E f=some (.func (.func gf) fi ca))(has:z14 E as=some vs){Q:LV->Mem->Prop}(h:CallN P gf (fi ++ vs ++ ca) M Q)
  (hk:∀ v M',Q v M'->XW .gen P sz l (putE E d v) M' K):XW .gen P sz (⟨d,.call f as,g⟩ :: l) E M K:=by
 intro ops os j T ro ms hos hc he hO
 obtain⟨o,os',rfl,h1,h2⟩:=z21 hc
 obtain⟨h3,h4,h5,h6⟩:=z20 h1
 obtain⟨ho,hos'⟩:=zf1 hos
 have hs:zm P (.call f as) E M=some (.enter gf (fi ++ vs ++ ca) M):=by
  show ob (z14 E as) _=_
  rw[has,za,hf];rfl
 refine ziu h.1 ho (z26 h5 he hg) (zac h4) (z4c he h4 hs) (h.2 hO) (fun v m' hq=>?_) (fun _ _ h=>h.elim)
 obtain⟨T1,hT1,he1⟩:=he.put h6 v
 exact⟨T1,by rw[h3];exact hT1,hk v m' hq ops os' (j+1) T1 ro ms hos' h2 he1 hO⟩
theorem zmr{t:Nat}{b:Bool}(ht:look E t=some (.bool b))(h1:b=true->XW μ P sz l ((t,.bool true) :: E) M K)(h0:b=false->XW μ P sz l ((t,.bool false) :: E) M K):XW μ P sz l E M K:=by
 cases hb:b with
 | true=>exact z59 ht (by rw[hb]) (h1 hb)
 | false=>exact z59 ht (by rw[hb]) (h0 hb)
end ops
def ObAt(lo hi:Nat)(q:Mem->Prop):List Mem->Nat->Prop
 | [],_=>True
 | m :: ms,k=>((Nat.ble lo k && Nat.ble k hi)=true->q m) /\ ObAt lo hi q ms (k - 1)
def ObAll(st:List Mem)(k:Nat):List (Nat × Nat × (Mem->Prop))->Prop
 | []=>True
 |(lo,hi,q) :: ps=>ObAt lo hi q st k /\ ObAll st k ps
theorem zin{lo hi k:Nat}{q:Mem->Prop}:ObAt lo hi q [] k:=trivial
theorem zla{lo hi k:Nat}{q:Mem->Prop}{m:Mem}{ms:List Mem}(h:q m)(h':ObAt lo hi q ms (k - 1)):ObAt lo hi q (m :: ms) k:=⟨fun _=>h,h'⟩
theorem zio{lo hi k:Nat}{q:Mem->Prop}{m:Mem}{ms:List Mem}(h:(Nat.ble lo k && Nat.ble k hi)=false)(h':ObAt lo hi q ms (k - 1)):ObAt lo hi q (m :: ms) k:=⟨fun h2=>(by rw[h] at h2;cases h2),h'⟩
theorem zrj{st:List Mem}{k:Nat}:ObAll st k []:=trivial
theorem zp2{st:List Mem}{k lo hi:Nat}{q:Mem->Prop}{ps:List (Nat × Nat × (Mem->Prop))}(h:ObAt lo hi q st k)(h':ObAll st k ps):ObAll st k ((lo,hi,q) :: ps):=⟨h,h'⟩
def Cov(P:Program)[Orc P](ps:List Pend)(xs:List (Nat × Nat × (Mem->Prop))):Prop:=∀ st k,ObAll st k xs->z19 P st k ps=true
def XD(P:Program)[Orc P](sz:Nat)(l:List (XG × XK))(E:Env)(M:Mem)(st:List Mem)(k:Nat)(xs:List (Nat × Nat × (Mem->Prop)))(K:Env->Mem->Prop):Prop :=
 ∀(all:List Oper) (ds:List Nat) (os:List Oper) (n:Nat) (T:Tm) (ps:List Pend),cDrawn P sz all ds os n=some l->zu sz E T->Cov P ps xs ->
  ∃ s,z0d P (om P) all ds os n ⟨T,M,st,k,ps⟩=some s /\ z19 P s.st s.k s.ps=true /\ ∃ E',zu sz E' s.T /\ K E' s.m
theorem z7r{all os:List Oper}{ds:List Nat}{n:Nat}{g:XG}{kd:XK}{l:List (XG × XK)}(h:cDrawn P sz all ds os n=some ((g,kd) :: l)) :
  ∃ o os',os=o :: os' /\ cOper P sz all o=some g /\ kd=cKind P all ds n o g.i /\ cDrawn P sz all ds os' (n+1)=some l:=by
 cases os with
 | nil=>cases h
 | cons o os =>
  simp only[cDrawn] at h
  split at h
  ·rename_i g' l' h1 h2;cases h;exact⟨o,os,rfl,h1,rfl,h2⟩
  ·cases h
theorem z8n(p:Pend)(q:Mem->Prop)(hq:∀ m,q m->z1v P p m=true):∀(st:List Mem) (k:Nat),ObAt p.lo p.hi q st k->pendAt P p st k=true
 | [],_,_=>rfl
 | m :: ms,k,h=>by
  show(ifb (Nat.ble p.lo k && Nat.ble k p.hi) (z1v P p m) true && pendAt P p ms (k - 1))=true
  rw[z8n p q hq ms (k - 1) h.2,Bool.and_true]
  cases hb:(Nat.ble p.lo k && Nat.ble k p.hi) with
  | true=>exact hq m (h.1 hb)
  | false=>rfl
theorem zgm(p:Pend)(hq:∀ m,z1v P p m=true)(st:List Mem)(k:Nat):pendAt P p st k=true :=
 z8n p (fun _=>True) (fun m _=>hq m) st k (by
  induction st generalizing k with
  | nil=>trivial
  | cons m ms ih=>exact⟨fun _=>trivial,ih _⟩)
theorem zgv{i:XI}(h:xCalm i=true){E:Env}{M M1:Mem}{v:LV}(hs:zm P i E M=some (.val v M1))(M':Mem):zm P i E M'=some (.val v M'):=by
 cases i with
 | max xs =>
  obtain⟨a,h1,h2⟩:=zb.1 (show ob (z14 E xs) _=_ from hs)
  cases a with
  | nil=>cases h2
  | cons a as =>
   obtain⟨b,h3,h4⟩:=zb.1 (show ob (foldL max2L as a) _=_ from h2)
   cases h4
   show ob (z14 E xs) _=_
   rw[h1,za];show ob (foldL max2L as a) _=_;rw[h3];rfl
 | min xs =>
  obtain⟨a,h1,h2⟩:=zb.1 (show ob (z14 E xs) _=_ from hs)
  cases a with
  | nil=>cases h2
  | cons a as =>
   obtain⟨b,h3,h4⟩:=zb.1 (show ob (foldL min2L as a) _=_ from h2)
   cases h4
   show ob (z14 E xs) _=_
   rw[h1,za];show ob (foldL min2L as a) _=_;rw[h3];rfl
 | len k x =>
  obtain⟨a,h1,h2⟩:=zb.1 (show ob (xval E x) _=_ from hs)
  show ob (xval E x) _=_
  rw[h1,za]
  cases k with
  | map=>cases h
  | str=>obtain⟨b,h3,h4⟩:=zb.1 (show ob (asStr a fun s=>mkN s.size) _=_ from h2);cases h4;show ob (asStr a fun s=>mkN s.size) _=_;rw[h3];rfl
  | sl=>obtain⟨b,h3,h4⟩:=zb.1 (show ob (asSlice a fun _ n _ _=>mkN n) _=_ from h2);cases h4;show ob (asSlice a fun _ n _ _=>mkN n) _=_;rw[h3];rfl
  | arr n=>obtain⟨b,h3,h4⟩:=zb.1 (show ob (mkN n) _=_ from h2);cases h4;show ob (mkN n) _=_;rw[h3];rfl
 | conv q x =>
  obtain⟨a,h1,h2⟩:=zb.1 (show ob (xval E x) _=_ from hs)
  obtain⟨k,n,rfl,h3⟩:=zk.1 h2
  cases h3
  show ob (xval E x) _=_
  rw[h1];rfl
 | convS x =>
  obtain⟨a,h1,h2⟩:=zb.1 (show ob (xval E x) _=_ from hs)
  obtain⟨n,rfl,h3⟩:=z0k.1 h2
  cases h3
  show ob (xval E x) _=_
  rw[h1];rfl
 | slc n x lo hi mx =>
  obtain⟨a,h1,h2⟩:=zb.1 (show ob (xval E x) _=_ from hs)
  obtain⟨b,h3,h4⟩:=zb.1 h2
  obtain⟨c,h5,h6⟩:=zb.1 h4
  obtain⟨d,h7,h8⟩:=zb.1 h6
  obtain⟨p,len,full,es,rfl,h9⟩:=z0m.1 h8
  obtain⟨w,h10,h11⟩:=zb.1 h9
  cases h11
  show ob (xval E x) _=_
  rw[h1,za,h3,za,h5,za,h7,za]
  show ob (sliceSl n p len full es b c d) _=_
  rw[h10];rfl
 | slS x lo hi mx =>
  obtain⟨a,h1,h2⟩:=zb.1 (show ob (xval E x) _=_ from hs)
  obtain⟨b,h3,h4⟩:=zb.1 h2
  obtain⟨c,h5,h6⟩:=zb.1 h4
  obtain⟨d,h7,h8⟩:=zb.1 h6
  obtain⟨s,rfl,h9⟩:=z0k.1 h8
  obtain⟨h10,h11⟩:=zc.1 h9
  show ob (xval E x) _=_
  rw[h1,za,h3,za,h5,za,h7,za]
  show guard' d.isNone _=_
  rw[h10,zd]
  have key:∀ {z:Option LV} {most dd:Nat} {k k':Nat->Option R1} {r r':R1},z08 z most dd k=some r->(∀ n,k n=some r->k' n=some r')->z08 z most dd k'=some r':=by
   intro z most dd k k' r r' h hk
   cases z with
   | none=>exact hk _ h
   | some z =>
    obtain⟨q,n,rfl,h2⟩:=zk.1 (show asInt z _=some r from h)
    obtain⟨i,rfl,h3⟩:=nat?_eq.1 h2
    obtain⟨h4,h5⟩:=zc.1 h3
    show guard' (Nat.ble i most) _=_
    rw[h4];exact hk _ h5
  exact key h11 fun n hn=>key hn fun m hm=>by cases hm;rfl
 | _=>cases h
def KdOk(P:Program)[Orc P](kd:XK)(E:Env)(M:Mem)(i:XI)(d:Option Nat)(r:R1)(v:LV)(M':Mem)(st:List Mem)(k:Nat)(xs:List (Nat × Nat × (Mem->Prop)))(st':List Mem)(k':Nat)(xs':List (Nat × Nat × (Mem->Prop))):Prop :=
 match kd with
 | .calm=>st'=st /\ k'=k /\ xs'=xs /\ r=R1.val v M /\ M'=M /\ d.isSome=true
 | .new=>st'=st /\ k'=k /\ xs'=xs
 | .anchor=>st'=M' :: st /\ k'=k+1 /\ xs'=xs
 | .reads lo hi=>st'=st /\ k'=k /\ M'=M /\ ∃ q:Mem->Prop,xs'=(lo,hi,q) :: xs /\ d.isSome=true /\ ∀ m,q m->zm P i E m=some (.val v m)
section drawn
variable {E:Env} {M:Mem} {K:Env->Mem->Prop} {l:List (XG × XK)} {d:Option Nat} {i:XI} {g:Option (Nat × Bool)} {st:List Mem} {k:Nat} {xs:List (Nat × Nat × (Mem->Prop))}
theorem zsd(ho:ObAll st k xs)(h:K E M):XD P sz [] E M st k xs K:=fun all ds os n T ps hc he hcov=>by
 cases os with
 | nil=>exact⟨_,rfl,hcov _ _ ho,E,he,h⟩
 | cons o os =>
  simp only[cDrawn] at hc
  split at hc<;>cases hc
theorem z93{kd:XK}(hg:GOn E g){r:R1}(hs:zm P i E M=some r){v:LV}{M':Mem}
  (hf:RTo P r v M')
  {st':List Mem} {k':Nat} {xs':List (Nat × Nat × (Mem->Prop))}
  (hkd:KdOk P kd E M i d r v M' st k xs st' k' xs')
  (hk:XD P sz l (putE E d v) M' st' k' xs' K):XD P sz ((⟨d,i,g⟩,kd) :: l) E M st k xs K:=fun all ds os n T ps hc he hcov=>by
 obtain⟨o,os',rfl,h1,h2,h2'⟩:=z7r hc
 obtain⟨h3,h4,h5,h6⟩:=z7d h1
 have h7:=z35 he h4 hs
 obtain⟨T1,hT1,he1⟩:=he.put h6 v
 obtain⟨dst,op,a1,a2,a3,gd⟩:=o
 have h3:d=dst:=h3.symm
 subst h3
 have hrun:∀(k:Tm->Mem->Option DS),opFull P (om P) T M op d k=k T1 M':=fun k=>by
  show ob (op1 P op T M) _=_
  rw[h7,za,hf.opFin,hT1];rfl
 have hpend:∀ m,zm P i E m=some (.val v m)->d.isSome=true->∀ lo hi,z1v P { op:=op,T:=T,v:=dstV T1 d,lo:=lo,hi:=hi } m=true:=fun m hm hd lo hi=>by
  unfold z1v
  have:=z35 he h4 hm
  have e:op1 P ({ op:=op,T:=T,v:=dstV T1 d,lo:=lo,hi:=hi }:Pend).op ({ op:=op,T:=T,v:=dstV T1 d,lo:=lo,hi:=hi }:Pend).T m=some (.val v m):=this
  rw[e]
  cases d with
  | none=>cases hd
  | some d =>
   show lvEq v (T1.get d)=true
   rw[Tm.get_set hT1,if_pos rfl];exact z5n v
 unfold z0d
 simp only
 rw[z26 h5 he hg,za,z07,hrun]
 unfold cKind at h2
 simp only at h2
 cases hcl:cls P op with
 | mover =>
  rw[hcl] at h2
  simp only at h2 ⊢
  cases hr:(z0q op && !(xCalm i)) with
  | true =>
   rw[hr] at h2
   simp only[Bool.and_eq_true] at hr
   rw[if_pos rfl] at h2
   subst h2
   obtain⟨rfl,rfl,rfl,q,rfl,hd,hq⟩:=hkd
   rw[hr.1,z07]
   refine hk all ds os' (n+1) T1 _ h2' he1 fun st k ho=>?_
   show(pendAt P _ st k && z19 P st k ps)=true
   rw[hcov st k ho.2,Bool.and_true]
   exact z8n _ q (fun m hm=>hpend m (hq m hm) hd _ _) st k ho.1
  | false =>
   rw[hr] at h2
   rw[if_neg (by decide)] at h2
   subst h2
   obtain⟨rfl,rfl,rfl,rfl,rfl,hd⟩:=hkd
   cases hrm:z0q op with
   | false =>
    rw[zh]
    exact hk all ds os' (n+1) T1 _ h2' he1 hcov
   | true =>
    rw[z07]
    rw[hrm] at hr
    have hcalm:xCalm i=true:=by simpa using hr
    refine hk all ds os' (n+1) T1 _ h2' he1 fun st k ho=>?_
    show(pendAt P _ st k && z19 P st k ps)=true
    rw[hcov st k ho,Bool.and_true]
    exact zgm _ (fun m=>hpend m (zgv hcalm hs m) hd _ _) st k
 | new =>
  rw[hcl] at h2
  subst h2
  obtain⟨rfl,rfl,rfl⟩:=hkd
  exact hk all ds os' (n+1) T1 _ h2' he1 hcov
 | calm =>
  rw[hcl] at h2
  subst h2
  obtain⟨rfl,rfl,rfl⟩:=hkd
  exact hk all ds os' (n+1) T1 _ h2' he1 hcov
 | anchor =>
  rw[hcl] at h2
  subst h2
  obtain⟨rfl,rfl,rfl⟩:=hkd
  exact hk all ds os' (n+1) T1 _ h2' he1 hcov
end drawn
end
end PvL
end
section
namespace PvL
set_option linter.unusedSectionVars false
open Go
variable {μ:Md}
section
variable {P:Program} [Orc P] {sz:Nat}
section drawn
variable {E:Env} {M:Mem} {K:Env->Mem->Prop} {l:List (XG × XK)} {d:Nat} {od:Option Nat} {i:XI} {g:Option (Nat × Bool)} {st:List Mem} {k:Nat} {xs:List (Nat × Nat × (Mem->Prop))}
theorem zsf(hg:GOn E g){v:LV}(hs:zm P i E M=some (.val v M))(hk:XD P sz l ((d,v) :: E) M st k xs K):XD P sz ((⟨some d,i,g⟩,.calm) :: l) E M st k xs K :=
 z93 hg hs ⟨rfl,rfl⟩ (by exact⟨rfl,rfl,rfl,rfl,rfl,rfl⟩) hk
theorem zjw{lo hi:Nat}(hg:GOn E g){v:LV}(hs:zm P i E M=some (.val v M))(q:Mem->Prop)(hq:∀ m,q m->zm P i E m=some (.val v m))(hk:XD P sz l ((d,v) :: E) M st k ((lo,hi,q) :: xs) K) :
  XD P sz ((⟨some d,i,g⟩,.reads lo hi) :: l) E M st k xs K :=
 z93 hg hs ⟨rfl,rfl⟩ (by exact⟨rfl,rfl,rfl,q,rfl,rfl,hq⟩) hk
theorem zju(hg:GOn E g){v:LV}{M':Mem}(hs:zm P i E M=some (.val v M'))(hk:XD P sz l (putE E od v) M' st k xs K):XD P sz ((⟨od,i,g⟩,.new) :: l) E M st k xs K :=
 z93 hg hs ⟨rfl,rfl⟩ (by exact⟨rfl,rfl,rfl⟩) hk
theorem zjs(hg:GOn E g){v:LV}{M':Mem}(hs:zm P i E M=some (.val v M'))(hk:XD P sz l (putE E od v) M' (M' :: st) (k+1) xs K):XD P sz ((⟨od,i,g⟩,.anchor) :: l) E M st k xs K :=
 z93 hg hs ⟨rfl,rfl⟩ (by exact⟨rfl,rfl,rfl⟩) hk
theorem zjx(hg:GOn E g){M':Mem}(hs:zm P i E M=some (.skip M'))(hk:XD P sz l (putE E od z05) M' (M' :: st) (k+1) xs K):XD P sz ((⟨od,i,g⟩,.anchor) :: l) E M st k xs K :=
 z93 hg hs ⟨rfl,rfl⟩ (by exact⟨rfl,rfl,rfl⟩) hk
theorem ze7(hg:GOn E g){f:XO}{as:List XO}{fv:LV}{vs:List LV}(hf:xval E f=some fv)(has:z14 E as=some vs){Q:LV->Mem->Prop}(h:AppOk P fv vs M Q)
  (hk:∀ v M',Q v M'->XD P sz l (putE E od v) M' (M' :: st) (k+1) xs K):XD P sz ((⟨od,.call f as,g⟩,.anchor) :: l) E M st k xs K:=by
 obtain⟨r,v,M',h1,h2,h3⟩:=h.opFin
 refine z93 hg (r:=r) (v:=v) (M':=M') ?_ h3 (by exact⟨rfl,rfl,rfl⟩) (hk v M' h2)
 show ob (z14 E as) _=_
 rw[has,za,hf];exact h1
theorem zfd(hg:GOn E g){f:XO}{as:List XO}{fv:LV}{vs:List LV}(hf:xval E f=some fv)(has:z14 E as=some vs){Q:LV->Mem->Prop}(h:AppOk P fv vs M Q)
  (hk:∀ v M',Q v M'->XD P sz l (putE E od v) M' st k xs K):XD P sz ((⟨od,.call f as,g⟩,.new) :: l) E M st k xs K:=by
 obtain⟨r,v,M',h1,h2,h3⟩:=h.opFin
 refine z93 hg (r:=r) (v:=v) (M':=M') ?_ h3 (by exact⟨rfl,rfl,rfl⟩) (hk v M' h2)
 show ob (z14 E as) _=_
 rw[has,za,hf];exact h1
theorem zjv{kd:XK}(hg:GOff E g){st':List Mem}{k':Nat}(hkd:match kd with | .anchor=>st'=M :: st /\ k'=k+1|_=>st'=st /\ k'=k)(hk:XD P sz l (putE E od z05) M st' k' xs K) :
  XD P sz ((⟨od,i,g⟩,kd) :: l) E M st k xs K:=fun all ds os n T ps hc he hcov=>by
 obtain⟨o,os',rfl,h1,h2,h2'⟩:=z7r hc
 obtain⟨h3,h4,h5,h6⟩:=z7d h1
 obtain⟨T1,hT1,he1⟩:=he.put h6 z05
 obtain⟨dst,op,a1,a2,a3,gd⟩:=o
 have h3:od=dst:=h3.symm
 subst h3
 unfold z0d
 simp only
 rw[z4n h5 he hg,za,zh,hT1,za]
 unfold cKind at h2
 simp only at h2
 cases hcl:cls P op with
 | mover =>
  rw[hcl] at h2
  simp only at h2 ⊢
  cases hr:(z0q op && !(xCalm i)) with
  | true =>
   rw[hr,if_pos rfl] at h2
   subst h2
   obtain⟨rfl,rfl⟩:=hkd
   exact hk all ds os' (n+1) T1 _ h2' he1 hcov
  | false =>
   rw[hr,if_neg (by decide)] at h2
   subst h2
   obtain⟨rfl,rfl⟩:=hkd
   exact hk all ds os' (n+1) T1 _ h2' he1 hcov
 | new =>
  rw[hcl] at h2
  subst h2
  obtain⟨rfl,rfl⟩:=hkd
  exact hk all ds os' (n+1) T1 _ h2' he1 hcov
 | calm =>
  rw[hcl] at h2
  subst h2
  obtain⟨rfl,rfl⟩:=hkd
  exact hk all ds os' (n+1) T1 _ h2' he1 hcov
 | anchor =>
  rw[hcl] at h2
  subst h2
  obtain⟨rfl,rfl⟩:=hkd
  exact hk all ds os' (n+1) T1 _ h2' he1 hcov
theorem zse{E':Env}(hs:∀ t v,look E' t=some v->look E t=some v)(h:XD P sz l E' M st k xs K):XD P sz l E M st k xs K:=fun all ds os n T ps hc he hcov=>h all ds os n T ps hc (he.sub hs) hcov
theorem zid{t:Nat}{v:LV}(ht:look E t=some v):∀ u w,look ((t,v) :: E) u=some w->look E u=some w:=fun u w hu=>by
 have hu:(match Nat.beq t u with|true=>some v|false=>look E u)=some w:=hu
 cases hb:Nat.beq t u with
 | true=>rw[hb] at hu;obtain rfl:=Nat.eq_of_beq_eq_true hb;rw[ht];exact hu
 | false=>rw[hb] at hu;exact hu
theorem zjt{t:Nat}{v v':LV}(ht:look E t=some v)(hv:v=v')(h:XD P sz l ((t,v') :: E) M st k xs K):XD P sz l E M st k xs K:=by
 subst hv
 exact zse (zid ht) h
theorem zmg{t:Nat}{b:Bool}(ht:look E t=some (.bool b))(h1:b=true->XD P sz l ((t,.bool true) :: E) M st k xs K)(h0:b=false->XD P sz l ((t,.bool false) :: E) M st k xs K):XD P sz l E M st k xs K:=by
 cases hb:b with
 | true=>exact zjt ht (by rw[hb]) (h1 hb)
 | false=>exact zjt ht (by rw[hb]) (h0 hb)
end drawn
def W(μ:Md)(P:Program)[Orc P](fn:FuncId)(ro:Option Nat)(sz:Nat)(c:XC)(E:Env)(ms:List Dfr)(M:Mem)(K:Ex->Env->List Dfr->Mem->Prop):Prop :=
 match μ with
 | .det=>∀(code:Code) (T:Tm),zw P sz code=some c->zu sz E T->∃ e T' ms' M',om P (.code fn ro code T ms M)=some (.code e T' ms' M') /\ ∃ E',zu sz E' T' /\ K e E' ms' M'
 | .die D=>∀(code:Code) (T:Tm),zw P sz code=some c->zu sz E T->(∃ e T' ms' M',om P (.code fn ro code T ms M)=some (.code e T' ms' M') /\ ∃ E',zu sz E' T' /\ K e E' ms' M') ∨(∃ v T' M',om P (.code fn ro code T ms M)=some (.boom v T' [] M') /\ D v M')
 | .gen=>∀(code:Code) (T:Tm),zw P sz code=some c->zu sz E T->OmOk P->CodeE P fn ro code T ms M (fun e T' ms' M'=>∃ E',zu sz E' T' /\ K e E' ms' M') (fun _ _ _ _=>False)
def KSeq(μ:Md)(P:Program)[Orc P](fn:FuncId)(ro:Option Nat)(sz:Nat)(b:XC)(K:Ex->Env->List Dfr->Mem->Prop)(e:Ex)(E:Env)(ms:List Dfr)(M:Mem):Prop :=
 match e with | .norm=>W μ P fn ro sz b E ms M K | .ret=>K .ret E ms M | .exit id=>K (.exit id) E ms M
def KBlock(id:Nat)(K:Ex->Env->List Dfr->Mem->Prop)(e:Ex)(E:Env)(ms:List Dfr)(M:Mem):Prop :=
 match e with | .norm=>K .norm E ms M | .ret=>K .ret E ms M | .exit id'=>if id'=id then K .norm E ms M else K (.exit id') E ms M
def KLoop(μ:Md)(P:Program)[Orc P](fn:FuncId)(ro:Option Nat)(sz:Nat)(b:XC)(K:Ex->Env->List Dfr->Mem->Prop)(e:Ex)(E:Env)(ms:List Dfr)(M:Mem):Prop :=
 match e with | .norm=>W μ P fn ro sz (.loop b) E ms M K | .ret=>K .ret E ms M | .exit id=>K (.exit id) E ms M
inductive ResX (E:Env) (M:Mem):List XR->List LV->Prop
 | nil:ResX E M [] []
 | tmp {t:Nat} {v:LV} {rs:List XR} {vs:List LV} (h:look E t=some v) (hr:ResX E M rs vs):ResX E M (.tmp t :: rs) (v :: vs)
 | cell1 {t i o:Nat} {v:LV} {rs:List XR} {vs:List LV} (h:look E t=some (.ptr (some (i,o)))) (hv:load1 M i o=some v) (hr:ResX E M rs vs):ResX E M (.cell1 t :: rs) (v :: vs)
 | cellN {t n i o:Nat} {l:List LV} {rs:List XR} {vs:List LV} (h:look E t=some (.ptr (some (i,o)))) (hv:loadN M i o n=some l) (hr:ResX E M rs vs):ResX E M (.cellN t n :: rs) (.agg l :: vs)
def Marks:List Dfr->Mem->Mem->Prop
 | [],M,M'=>M'=M
 | .mark d :: ds,M,M'=>M.get d=some .defr /\ Marks ds (M.upd d none) M'
 | .call _ _ :: _,_,_=>False
def KFun(res:List XR)(Q:LV->Mem->Prop)(e:Ex)(E:Env)(ms:List Dfr)(M:Mem):Prop :=
 match e with
 | .exit _=>False
 | _=>∃ M',Marks ms M M' /\ ∃ vs,ResX E M' res vs /\ Q (packed vs) M'
section code
variable {fn:FuncId} {ro:Option Nat} {E:Env} {ms:List Dfr} {M:Mem} {K:Ex->Env->List Dfr->Mem->Prop}
theorem w_of{c:XC}(h:∀ code T,zw P sz code=some c->zu sz E T->∃ e T' ms' M',stCode P (om P) fn ro code T ms M=some (.code e T' ms' M') /\ ∃ E',zu sz E' T' /\ K e E' ms' M'):W .det P fn ro sz c E ms M K:=fun code T hc he=>by
 obtain⟨e,T',ms',M',h1,h2⟩:=h code T hc he
 refine⟨e,T',ms',M',?_,h2⟩
 rw[zb1];exact h1
theorem zmb{c:XC}(h:W .det P fn ro sz c E ms M K):W μ P fn ro sz c E ms M K:=by
 cases μ with
 | det=>exact h
 | die D=>exact fun code T hc he=>.inl (h code T hc he)
 | gen =>
  intro code T hc he hO
  obtain⟨e,T',ms',M',h1,h2⟩:=h code T hc he
  exact zkr hO h1 h2
theorem zmf(h:K .norm E ms M):W .det P fn ro sz .skip E ms M K:=w_of fun code T hc he=>by
 cases code with
 | skip|label l=>exact⟨.norm,T,ms,M,rfl,E,he,h⟩
 | region _ _ d=>cases d<;>simp only[zw] at hc<;>(repeat' split at hc)<;>cases hc
 | ret|exit|goto|refuse=>cases hc
 | _=>simp only[zw] at hc;split at hc<;>cases hc
theorem zsc(h:K .norm E ms M):W μ P fn ro sz .skip E ms M K:=zmb (zmf h)
theorem zpm(h:K .ret E ms M):W .det P fn ro sz .ret E ms M K:=w_of fun code T hc he=>by
 cases code with
 | ret=>exact⟨.ret,T,ms,M,rfl,E,he,h⟩
 | region _ _ d=>cases d<;>simp only[zw] at hc<;>(repeat' split at hc)<;>cases hc
 | skip|label|exit|goto|refuse=>cases hc
 | _=>simp only[zw] at hc;split at hc<;>cases hc
theorem zu2(h:K .ret E ms M):W μ P fn ro sz .ret E ms M K:=zmb (zpm h)
theorem zmd{id:Nat}(h:K (.exit id) E ms M):W .det P fn ro sz (.exit id) E ms M K:=w_of fun code T hc he=>by
 cases code with
 | exit i=>cases hc;exact⟨.exit id,T,ms,M,rfl,E,he,h⟩
 | region _ _ d=>cases d<;>simp only[zw] at hc<;>(repeat' split at hc)<;>cases hc
 | skip|label|ret|goto|refuse=>cases hc
 | _=>simp only[zw] at hc;split at hc<;>cases hc
theorem zsb{id:Nat}(h:K (.exit id) E ms M):W μ P fn ro sz (.exit id) E ms M K:=zmb (zmd h)
theorem zpl{l:List XG}(h:XW .det P sz l E M fun E M=>K .norm E ms M):W .det P fn ro sz (.ops l) E ms M K:=w_of fun code T hc he=>by
 cases code with
 | region i ops d =>
  cases d with
  | false =>
   simp only[zw] at hc
   split at hc
   ·rename_i l' hl
    cases hc
    obtain⟨T',M',h1,h2⟩:=h _ _ T ro ms hl he
    exact⟨.norm,T',ms,M',h1,h2⟩
   ·cases hc
  | true=>simp only[zw] at hc;(repeat' split at hc)<;>cases hc
 | skip|label|ret|goto|refuse|exit=>cases hc
 | _=>simp only[zw] at hc;split at hc<;>cases hc
theorem z5z{D:LV->Mem->Prop}{c:XC}(h:∀ code T,zw P sz code=some c->zu sz E T->(∃ e T' ms' M',stCode P (om P) fn ro code T ms M=some (.code e T' ms' M') /\ ∃ E',zu sz E' T' /\ K e E' ms' M') ∨(∃ v T' M',stCode P (om P) fn ro code T ms M=some (.boom v T' [] M') /\ D v M')):W (.die D) P fn ro sz c E ms M K:=fun code T hc he=>by
 rw[zb1];exact h code T hc he
class DOk (μ:Md) (ms:List Dfr):Prop where
 h:∀ D,μ=.die D->ms=[]
instance {ms:List Dfr}:DOk .det ms:=⟨fun _ h=>by cases h⟩
instance {ms:List Dfr}:DOk .gen ms:=⟨fun _ h=>by cases h⟩
instance {D:LV->Mem->Prop}:DOk (.die D) []:=⟨fun _ _=>rfl⟩
theorem zpk{l:List XG}[hms:DOk μ ms](h:XW μ P sz l E M fun E M=>K .norm E ms M):W μ P fn ro sz (.ops l) E ms M K:=by
 cases μ with
 | det=>exact zpl h
 | die D =>
  obtain rfl:=hms.h D rfl
  refine z5z fun code T hc he=>?_
  cases code with
  | region i ops d =>
   cases d with
   | false =>
    simp only[zw] at hc
    split at hc
    ·rename_i l' hl
     cases hc
     rcases h _ _ T ro [] hl he with⟨T',M',h1,h2⟩|h1
     ·exact .inl ⟨.norm,T',[],M',h1,h2⟩
     ·exact .inr h1
    ·cases hc
   | true=>simp only[zw] at hc;(repeat' split at hc)<;>cases hc
  | skip|label|ret|goto|refuse|exit=>cases hc
  | _=>simp only[zw] at hc;split at hc<;>cases hc
 | gen =>
  intro code T hc he hO
  cases code with
  | region i ops d =>
   cases d with
   | false =>
    simp only[zw] at hc
    split at hc
    ·rename_i l' hl
     cases hc
     have h1:=h ops ops.toList 0 T ro ms (fun j=>by simp) hl he hO
     rw[show ops.toList.length=ops.size by simp] at h1
     exact zbu (h1.mono (fun e T' ms' M' h2=>by obtain⟨rfl,rfl,h3⟩:=h2;exact h3) (fun _ _ _ _ h=>h))
    ·cases hc
   | true=>simp only[zw] at hc;(repeat' split at hc)<;>cases hc
  | skip|label|ret|goto|refuse|exit=>cases hc
  | _=>simp only[zw] at hc;split at hc<;>cases hc
theorem zmc{l:List (XG × XK)}{ds:List Nat}(h:XD P sz l E M [M] 0 [] fun E M=>K .norm E ms M):W .det P fn ro sz (.draw l ds) E ms M K:=w_of fun code T hc he=>by
 cases code with
 | region i ops d =>
  cases d with
  | true =>
   simp only[zw] at hc
   split at hc
   ·rename_i hok
    split at hc
    ·rename_i l' hl
     cases hc
     obtain⟨s,h1,h2,h3⟩:=h _ _ _ 0 T [] hl he (fun st k _=>rfl)
     obtain⟨T',M',st',k',ps'⟩:=s
     refine⟨.norm,T',ms,M',?_,h3⟩
     show cDraw P (om P) ops T ms M=_
     unfold cDraw
     rw[hok,z07]
     unfold cDrawG
     rw[h1,z2n]
     show guard' (z19 P st' k' ps') _=_
     rw[show z19 P st' k' ps'=true from h2];rfl
    ·cases hc
   ·cases hc
  | false=>simp only[zw] at hc;(repeat' split at hc)<;>cases hc
 | skip|label|ret|goto|refuse|exit=>cases hc
 | _=>simp only[zw] at hc;split at hc<;>cases hc
theorem zsa{l:List (XG × XK)}{ds:List Nat}(h:XD P sz l E M [M] 0 [] fun E M=>K .norm E ms M):W μ P fn ro sz (.draw l ds) E ms M K:=zmb (zmc h)
theorem zpo{a b:XC}(h:W .det P fn ro sz a E ms M (KSeq .det P fn ro sz b K)):W .det P fn ro sz (.seq a b) E ms M K:=w_of fun code T hc he=>by
 cases code with
 | seq a' b' =>
  simp only[zw] at hc
  split at hc
  ·rename_i x y hx hy
   cases hc
   obtain⟨e,T',ms',M',h1,E',h2,h3⟩:=h a' T hx he
   show ∃ e T' ms' M',z12 (om P _) _=_ /\ _
   rw[h1]
   cases e with
   | norm=>exact h3 b' T' hy h2
   | ret=>exact⟨.ret,T',ms',M',rfl,E',h2,h3⟩
   | exit i=>exact⟨.exit i,T',ms',M',rfl,E',h2,h3⟩
  ·cases hc
 | region _ _ d=>cases d<;>simp only[zw] at hc<;>(repeat' split at hc)<;>cases hc
 | skip|label|ret|goto|refuse|exit=>cases hc
 | _=>simp only[zw] at hc;split at hc<;>cases hc
theorem z7b{a b:XC}(h:W μ P fn ro sz a E ms M (KSeq μ P fn ro sz b K)):W μ P fn ro sz (.seq a b) E ms M K:=by
 cases μ with
 | det=>exact zpo h
 | die D =>
  refine z5z fun code T hc he=>?_
  cases code with
  | seq a' b' =>
   simp only[zw] at hc
   split at hc
   ·rename_i x y hx hy
    cases hc
    show(∃ e T' ms' M',z12 (om P _) _=_ /\ _) ∨(∃ v T' M',z12 (om P _) _=_ /\ _)
    rcases h a' T hx he with⟨e,T',ms',M',h1,E',h2,h3⟩|⟨v,T',M',h1,h2⟩
    ·rw[h1]
     cases e with
     | norm=>exact h3 b' T' hy h2
     | ret=>exact .inl ⟨.ret,T',ms',M',rfl,E',h2,h3⟩
     | exit i=>exact .inl ⟨.exit i,T',ms',M',rfl,E',h2,h3⟩
    ·rw[h1];exact .inr ⟨v,T',M',rfl,h2⟩
   ·cases hc
  | region _ _ d=>cases d<;>simp only[zw] at hc<;>(repeat' split at hc)<;>cases hc
  | skip|label|ret|goto|refuse|exit=>cases hc
  | _=>simp only[zw] at hc;split at hc<;>cases hc
 | gen =>
  intro code T hc he hO
  cases code with
  | seq a' b' =>
   simp only[zw] at hc
   split at hc
   ·rename_i x y hx hy
    cases hc
    refine zhl ((h a' T hx he hO).mono (fun e T' ms' M' h2=>?_) (fun _ _ _ _ h=>h))
    obtain⟨E',h3,h4⟩:=h2
    cases e with
    | norm=>exact h4 b' T' hy h3 hO
    | ret=>exact⟨E',h3,h4⟩
    | exit i=>exact⟨E',h3,h4⟩
   ·cases hc
  | region _ _ d=>cases d<;>simp only[zw] at hc<;>(repeat' split at hc)<;>cases hc
  | skip|label|ret|goto|refuse|exit=>cases hc
  | _=>simp only[zw] at hc;split at hc<;>cases hc
theorem zma{x:XO}{a b:XC}{q:Bool}(hx:xval E x=some (.bool q))(h1:q=true->W .det P fn ro sz a E ms M K)(h0:q=false->W .det P fn ro sz b E ms M K):W .det P fn ro sz (.cond x a b) E ms M K:=w_of fun code T hc he=>by
 cases code with
 | cond x' a' b' =>
  simp only[zw] at hc
  split at hc
  ·rename_i y z w hy hz hw
   cases hc
   show ∃ e T' ms' M',ob (ev T x') _=_ /\ _
   rw[z03 he hy hx]
   cases q with
   | true=>exact h1 rfl a' T hz he
   | false=>exact h0 rfl b' T hw he
  ·cases hc
 | region _ _ d=>cases d<;>simp only[zw] at hc<;>(repeat' split at hc)<;>cases hc
 | skip|label|ret|goto|refuse|exit=>cases hc
 | _=>simp only[zw] at hc;split at hc<;>cases hc
theorem zs9{x:XO}{a b:XC}{q:Bool}(hx:xval E x=some (.bool q))(h1:q=true->W μ P fn ro sz a E ms M K)(h0:q=false->W μ P fn ro sz b E ms M K):W μ P fn ro sz (.cond x a b) E ms M K:=by
 cases μ with
 | det=>exact zma hx h1 h0
 | die D =>
  refine z5z fun code T hc he=>?_
  cases code with
  | cond x' a' b' =>
   simp only[zw] at hc
   split at hc
   ·rename_i y z w hy hz hw
    cases hc
    show(∃ e T' ms' M',ob (ev T x') _=_ /\ _) ∨(∃ v T' M',ob (ev T x') _=_ /\ _)
    rw[z03 he hy hx]
    cases q with
    | true=>exact h1 rfl a' T hz he
    | false=>exact h0 rfl b' T hw he
   ·cases hc
  | region _ _ d=>cases d<;>simp only[zw] at hc<;>(repeat' split at hc)<;>cases hc
  | skip|label|ret|goto|refuse|exit=>cases hc
  | _=>simp only[zw] at hc;split at hc<;>cases hc
 | gen =>
  intro code T hc he hO
  cases code with
  | cond x' a' b' =>
   simp only[zw] at hc
   split at hc
   ·rename_i y z w hy hz hw
    cases hc
    exact zfu (z03 he hy hx) (fun hq=>h1 hq a' T hz he hO) (fun hq=>h0 hq b' T hw he hO)
   ·cases hc
  | region _ _ d=>cases d<;>simp only[zw] at hc<;>(repeat' split at hc)<;>cases hc
  | skip|label|ret|goto|refuse|exit=>cases hc
  | _=>simp only[zw] at hc;split at hc<;>cases hc
theorem zjp{id:Nat}{b:XC}(h:W .det P fn ro sz b E ms M (KBlock id K)):W .det P fn ro sz (.block id b) E ms M K:=w_of fun code T hc he=>by
 cases code with
 | block i b' =>
  simp only[zw] at hc
  split at hc
  ·rename_i y hy
   cases hc
   obtain⟨e,T',ms',M',h1,E',h2,h3⟩:=h b' T hy he
   show ∃ e T' ms' M',z12 (om P _) _=_ /\ _
   rw[h1]
   cases e with
   | norm=>exact⟨.norm,T',ms',M',rfl,E',h2,h3⟩
   | ret=>exact⟨.ret,T',ms',M',rfl,E',h2,h3⟩
   | exit i =>
    have h3:if i=id then K .norm E' ms' M' else K (.exit i) E' ms' M':=h3
    show ∃ e T'' ms'' M'',ifb (Nat.beq i id) (some (Out.code .norm T' ms' M')) (some (.code (.exit i) T' ms' M'))=_ /\ _
    by_cases hi:i=id
    ·rw[if_pos hi] at h3
     rw[show Nat.beq i id=true by simp[hi]]
     exact⟨.norm,T',ms',M',rfl,E',h2,h3⟩
    ·rw[if_neg hi] at h3
     rw[show Nat.beq i id=false by
      cases hb:Nat.beq i id with
      | false=>rfl
      | true=>exact absurd (Nat.eq_of_beq_eq_true hb) hi]
     exact⟨.exit i,T',ms',M',rfl,E',h2,h3⟩
  ·cases hc
 | region _ _ d=>cases d<;>simp only[zw] at hc<;>(repeat' split at hc)<;>cases hc
 | skip|label|ret|goto|refuse|exit=>cases hc
 | _=>simp only[zw] at hc;split at hc<;>cases hc
theorem zjo{id:Nat}{b:XC}(h:W μ P fn ro sz b E ms M (KBlock id K)):W μ P fn ro sz (.block id b) E ms M K:=by
 cases μ with
 | det=>exact zjp h
 | die D =>
  refine z5z fun code T hc he=>?_
  cases code with
  | block i b' =>
   simp only[zw] at hc
   split at hc
   ·rename_i y hy
    cases hc
    show(∃ e T' ms' M',z12 (om P _) _=_ /\ _) ∨(∃ v T' M',z12 (om P _) _=_ /\ _)
    rcases h b' T hy he with⟨e,T',ms',M',h1,E',h2,h3⟩|⟨v,T',M',h1,h2⟩
    ·rw[h1]
     cases e with
     | norm=>exact .inl ⟨.norm,T',ms',M',rfl,E',h2,h3⟩
     | ret=>exact .inl ⟨.ret,T',ms',M',rfl,E',h2,h3⟩
     | exit i =>
      have h3:if i=id then K .norm E' ms' M' else K (.exit i) E' ms' M':=h3
      left
      show ∃ e T'' ms'' M'',ifb (Nat.beq i id) (some (Out.code .norm T' ms' M')) (some (.code (.exit i) T' ms' M'))=_ /\ _
      by_cases hi:i=id
      ·rw[if_pos hi] at h3
       rw[show Nat.beq i id=true by simp[hi]]
       exact⟨.norm,T',ms',M',rfl,E',h2,h3⟩
      ·rw[if_neg hi] at h3
       rw[show Nat.beq i id=false by
        cases hb:Nat.beq i id with
        | false=>rfl
        | true=>exact absurd (Nat.eq_of_beq_eq_true hb) hi]
       exact⟨.exit i,T',ms',M',rfl,E',h2,h3⟩
    ·rw[h1];exact .inr ⟨v,T',M',rfl,h2⟩
   ·cases hc
  | region _ _ d=>cases d<;>simp only[zw] at hc<;>(repeat' split at hc)<;>cases hc
  | skip|label|ret|goto|refuse|exit=>cases hc
  | _=>simp only[zw] at hc;split at hc<;>cases hc
 | gen =>
  intro code T hc he hO
  cases code with
  | block i b' =>
   simp only[zw] at hc
   split at hc
   ·rename_i y hy
    cases hc
    refine zd7 ((h b' T hy he hO).mono (fun e T' ms' M' h2=>?_) (fun _ _ _ _ h=>h))
    obtain⟨E',h3,h4⟩:=h2
    cases e with
    | norm=>exact⟨E',h3,h4⟩
    | ret=>exact⟨E',h3,h4⟩
    | exit i' =>
     have h4:if i'=id then K .norm E' ms' M' else K (.exit i') E' ms' M':=h4
     by_cases hi:i'=id
     ·rw[if_pos hi] at h4
      show if i'=id then _ else _
      rw[if_pos hi];exact⟨E',h3,h4⟩
     ·rw[if_neg hi] at h4
      show if i'=id then _ else _
      rw[if_neg hi];exact⟨E',h3,h4⟩
   ·cases hc
  | region _ _ d=>cases d<;>simp only[zw] at hc<;>(repeat' split at hc)<;>cases hc
  | skip|label|ret|goto|refuse|exit=>cases hc
  | _=>simp only[zw] at hc;split at hc<;>cases hc
theorem zme{b:XC}(h:W .det P fn ro sz b E ms M (KLoop .det P fn ro sz b K)):W .det P fn ro sz (.loop b) E ms M K:=w_of fun code T hc he=>by
 cases code with
 | loop b' =>
  have hc0:=hc
  simp only[zw] at hc
  split at hc
  ·rename_i y hy
   cases hc
   obtain⟨e,T',ms',M',h1,E',h2,h3⟩:=h b' T hy he
   show ∃ e T' ms' M',z12 (om P _) _=_ /\ _
   rw[h1]
   cases e with
   | norm=>exact h3 (.loop b') T' hc0 h2
   | ret=>exact⟨.ret,T',ms',M',rfl,E',h2,h3⟩
   | exit i=>exact⟨.exit i,T',ms',M',rfl,E',h2,h3⟩
  ·cases hc
 | region _ _ d=>cases d<;>simp only[zw] at hc<;>(repeat' split at hc)<;>cases hc
 | skip|label|ret|goto|refuse|exit=>cases hc
 | _=>simp only[zw] at hc;split at hc<;>cases hc
theorem znk{b:XC}(h:W μ P fn ro sz b E ms M (KLoop μ P fn ro sz b K)):W μ P fn ro sz (.loop b) E ms M K:=by
 cases μ with
 | det=>exact zme h
 | die D =>
  refine z5z fun code T hc he=>?_
  cases code with
  | loop b' =>
   have hc0:=hc
   simp only[zw] at hc
   split at hc
   ·rename_i y hy
    cases hc
    show(∃ e T' ms' M',z12 (om P _) _=_ /\ _) ∨(∃ v T' M',z12 (om P _) _=_ /\ _)
    rcases h b' T hy he with⟨e,T',ms',M',h1,E',h2,h3⟩|⟨v,T',M',h1,h2⟩
    ·rw[h1]
     cases e with
     | norm=>exact h3 (.loop b') T' hc0 h2
     | ret=>exact .inl ⟨.ret,T',ms',M',rfl,E',h2,h3⟩
     | exit i=>exact .inl ⟨.exit i,T',ms',M',rfl,E',h2,h3⟩
    ·rw[h1];exact .inr ⟨v,T',M',rfl,h2⟩
   ·cases hc
  | region _ _ d=>cases d<;>simp only[zw] at hc<;>(repeat' split at hc)<;>cases hc
  | skip|label|ret|goto|refuse|exit=>cases hc
  | _=>simp only[zw] at hc;split at hc<;>cases hc
 | gen =>
  intro code T hc he hO
  cases code with
  | loop b' =>
   have hc0:=hc
   simp only[zw] at hc
   split at hc
   ·rename_i y hy
    cases hc
    refine zfv ((h b' T hy he hO).mono (fun e T' ms' M' h2=>?_) (fun _ _ _ _ h=>h))
    obtain⟨E',h3,h4⟩:=h2
    cases e with
    | norm=>exact h4 (.loop b') T' hc0 h3 hO
    | ret=>exact⟨E',h3,h4⟩
    | exit i=>exact⟨E',h3,h4⟩
   ·cases hc
  | region _ _ d=>cases d<;>simp only[zw] at hc<;>(repeat' split at hc)<;>cases hc
  | skip|label|ret|goto|refuse|exit=>cases hc
  | _=>simp only[zw] at hc;split at hc<;>cases hc
theorem z27{c:XC}{K':Ex->Env->List Dfr->Mem->Prop}(h:W μ P fn ro sz c E ms M K)(hk:∀ e E ms M,K e E ms M->K' e E ms M):W μ P fn ro sz c E ms M K':=by
 cases μ with
 | det=>exact fun code T hc he=>let ⟨e,T',ms',M',h1,E',h2,h3⟩:=h code T hc he;⟨e,T',ms',M',h1,E',h2,hk _ _ _ _ h3⟩
 | die D=>exact fun code T hc he=>(h code T hc he).imp (fun⟨e,T',ms',M',h1,E',h2,h3⟩=>⟨e,T',ms',M',h1,E',h2,hk _ _ _ _ h3⟩) (fun h=>h)
 | gen=>exact fun code T hc he hO=>(h code T hc he hO).mono (fun e T ms m ⟨E',h1,h2⟩=>⟨E',h1,hk _ _ _ _ h2⟩) (fun _ _ _ _ h=>h)
theorem zu3{c:XC}{E':Env}(hs:∀ t v,look E' t=some v->look E t=some v)(h:W μ P fn ro sz c E' ms M K):W μ P fn ro sz c E ms M K:=by
 cases μ with
 | det=>exact fun code T hc he=>h code T hc (he.sub hs)
 | die D=>exact fun code T hc he=>h code T hc (he.sub hs)
 | gen=>exact fun code T hc he hO=>h code T hc (he.sub hs) hO
inductive Has (E:Env):Env->Prop
 | nil:Has E []
 | cons {t:Nat} {v:LV} {E':Env} (h:look E t=some v) (h':Has E E'):Has E ((t,v) :: E')
theorem Has.sub{E E':Env}(h:Has E E'):∀ t v,look E' t=some v->look E t=some v:=by
 induction h with
 | nil=>intro t v h;cases h
 | cons h1 h2 ih =>
  rename_i t v E'
  intro u w hu
  have hu:(match Nat.beq t u with|true=>some v|false=>look E' u)=some w:=hu
  cases hb:Nat.beq t u with
  | true=>rw[hb] at hu;obtain rfl:=Nat.eq_of_beq_eq_true hb;rw[h1];exact hu
  | false=>rw[hb] at hu;exact ih u w hu
theorem z02{c:XC}{E':Env}(hs:Has E E')(h:W μ P fn ro sz c E' ms M K):W μ P fn ro sz c E ms M K:=zu3 hs.sub h
theorem z43{b:XC}(h:W μ P fn ro sz b E ms M K):KSeq μ P fn ro sz b K .norm E ms M:=h
theorem zi7{b:XC}(h:K .ret E ms M):KSeq μ P fn ro sz b K .ret E ms M:=h
theorem zg8{b:XC}{i:Nat}(h:K (.exit i) E ms M):KSeq μ P fn ro sz b K (.exit i) E ms M:=h
theorem zi6{id:Nat}(h:K .norm E ms M):KBlock id K .norm E ms M:=h
theorem zdi{id:Nat}(h:K .ret E ms M):KBlock id K .ret E ms M:=h
theorem z1s{id:Nat}(h:K .norm E ms M):KBlock id K (.exit id) E ms M:=by unfold KBlock;simp only[if_true];exact h
theorem zdh{id i:Nat}(hi:Nat.beq i id=false)(h:K (.exit i) E ms M):KBlock id K (.exit i) E ms M:=by
 unfold KBlock
 simp only
 rw[if_neg (fun e=>by subst e;simp at hi)];exact h
theorem zrf{b:XC}(h:W μ P fn ro sz (.loop b) E ms M K):KLoop μ P fn ro sz b K .norm E ms M:=h
theorem zg7{b:XC}(h:K .ret E ms M):KLoop μ P fn ro sz b K .ret E ms M:=h
theorem zdk{b:XC}{i:Nat}(h:K (.exit i) E ms M):KLoop μ P fn ro sz b K (.exit i) E ms M:=h
theorem zdj{res:List XR}{Q:LV->Mem->Prop}{vs:List LV}(hr:ResX E M res vs)(hq:Q (packed vs) M):KFun res Q .ret E [] M:=⟨M,rfl,vs,hr,hq⟩
theorem zg5{res:List XR}{Q:LV->Mem->Prop}{vs:List LV}(hr:ResX E M res vs)(hq:Q (packed vs) M):KFun res Q .norm E [] M:=⟨M,rfl,vs,hr,hq⟩
end code
def zipE:Nat->List LV->Env
 | _,[]=>[]
 | i,v :: vs=>(i,v) :: zipE (i+1) vs
theorem zcd{i:Nat}{vs:List LV}{t:Nat}{v:LV}(h:look (zipE i vs) t=some v):i<=t /\ vs[t - i]?=some v:=by
 induction vs generalizing i with
 | nil=>cases h
 | cons a as ih =>
  have h:(match Nat.beq i t with|true=>some a|false=>look (zipE (i+1) as) t)=some v:=h
  cases hb:Nat.beq i t with
  | true=>rw[hb] at h;obtain rfl:=Nat.eq_of_beq_eq_true hb;cases h;exact⟨Nat.le_refl _,by simp⟩
  | false =>
   rw[hb] at h
   obtain⟨h1,h2⟩:=ih h
   refine⟨by omega,?_⟩
   rw[show t - i=(t - (i+1))+1 by omega];simpa using h2
theorem z6l:∀(vs:List LV) (i:Nat) (T:Tm),i+vs.length<=T.size->∃ T',Tm.setAll vs i T=some T' /\ T'.size=T.size /\ ∀ t,T'.get t=if i<=t /\ t < i+vs.length then(vs[t - i]?).getD .unk else T.get t
 | [],i,T,h=>⟨T,rfl,rfl,fun t=>by rw[if_neg (by simp)]⟩
 | v :: vs,i,T,h=>by
  have h:i+(vs.length+1)<=T.size:=h
  have hs:T.set i v=some ⟨T.size,T.tr.set i (some v)⟩:=Tm.set_eq.2 ⟨by omega,rfl⟩
  obtain⟨T',h1,h2,h3⟩:=z6l vs (i+1) ⟨T.size,T.tr.set i (some v)⟩ (by show i+1+vs.length<=T.size;omega)
  refine⟨T',by show ob (T.set i v) _=_;rw[hs];exact h1,h2,fun t=>?_⟩
  rw[h3 t]
  by_cases hc:i+1<=t /\ t < i+1+vs.length
  ·rw[if_pos hc,if_pos (by simp;omega),show t - i=(t - (i+1))+1 by omega];simp
  ·rw[if_neg hc,Tm.get_set hs]
   by_cases e:t=i
   ·subst e;rw[if_pos rfl,if_pos (by simp),Nat.sub_self]
    rfl
   ·rw[if_neg e,if_neg (by simp;omega)]
theorem z5o{rec:Task->Option Out}{fd:Func}{T:Tm}:∀ {ms:List Dfr} {M M':Mem},Marks ms M M'->finRet P rec fd T ms M=finRet P rec fd T [] M'
 | [],M,M',h=>by cases h;rfl
 | .mark d :: ds,M,M',h=>by
  show atDefr M d (finRet P rec fd T ds (M.upd d none))=_
  unfold atDefr
  rw[h.1,za]
  exact z5o h.2
 | .call _ _ :: _,_,_,h=>h.elim
theorem z2h{E:Env}{T:Tm}(he:zu sz E T){M:Mem}:∀ {rs:List ResultVar} {xs:List XR} {vs:List LV},cRes P rs=some xs->ResX E M xs vs->z0s P T M rs=some vs
 | [],xs,vs,hc,h=>by cases hc;cases h;rfl
 | .tmp t :: rs,xs,vs,hc,h=>by
  simp only[cRes] at hc
  split at hc
  ·rename_i l hl
   cases hc
   cases h with
   | tmp h1 h2 =>
    show ob (evT T t) _=_
    rw[he.look _ _ h1,za,z2h he hl h2];rfl
  ·cases hc
 | .cell a t :: rs,xs,vs,hc,h=>by
  simp only[cRes] at hc
  split at hc
  ·rename_i l hag hl
   cases hc
   cases h with
   | cell1 h1 h2 h3 =>
    show ob (ob (evT T a) fun a=>loadT P t M a) _=_
    rw[he.look _ _ h1,za]
    unfold loadT
    show ob (ob (aggSz P t) _) _=_
    rw[hag,za,z56,h2,za,z2h he hl h3];rfl
  ·rename_i n l hag hl
   cases hc
   cases h with
   | cellN h1 h2 h3 =>
    show ob (ob (evT T a) fun a=>loadT P t M a) _=_
    rw[he.look _ _ h1,za]
    unfold loadT
    show ob (ob (aggSz P t) _) _=_
    rw[hag,za,z2n,h2,za,za,z2h he hl h3];rfl
  ·cases hc
theorem zft{f:FuncId}{n:Nat}{c:XC}{res:List XR}(hf:cFn P f=some ⟨n,c,res⟩){args:List LV}{M:Mem}{Q:LV->Mem->Prop}(hn:Nat.ble args.length n=true)
  (h:W .det P f none n c (zipE 0 args) [] M (KFun res Q)) (hask:Orc.ask P f args M=none):ze P f args M Q:=by
 unfold cFn at hf
 split at hf
 ·cases hf
 ·rename_i fd hfd
  split at hf
  ·cases hf
  ·rename_i code hcode
   split at hf
   ·rename_i c' r' hc hr
    cases hf
    rw[Nat.ble_eq] at hn
    obtain⟨T,h1,h2,h3⟩:=z6l args 0 ⟨fd.ntmps,.nil⟩ (by show 0+args.length<=fd.ntmps;omega)
    have hT:Tm.ofList fd.ntmps args=some T:=by
     unfold Tm.ofList
     rw[z1m]
     show Tm.setAll args 0 ⟨max fd.ntmps args.length,.nil⟩=_
     rw[Nat.max_eq_left hn];exact h1
    have he:zu fd.ntmps (zipE 0 args) T:=⟨h2,fun d v hd=>by
     obtain⟨_,h5⟩:=zcd hd
     rw[z3r,h3 d,if_pos (by have:=(List.getElem?_eq_some_iff.1 h5).1;omega),h5];rfl⟩
    obtain⟨e,T',ms',M',h5,E',h6,h7⟩:=h code T hc he
    cases e with
    | exit i=>exact h7.elim
    | _ =>
     obtain⟨M2,h8,vs,h9,h10⟩:=h7
     refine⟨_,M2,?_,h10⟩
     rw[zp6 hask]
     show ob (fnOf P f) _=_
     rw[hfd,za,hT,za,hcode,za]
     show z1y (om P (.code f none code T [] M)) _ _=_
     rw[h5]
     show finRet P (om P) fd T' ms' M'=_
     rw[z5o h8]
     show ob (z0s P T' M2 fd.results.toList) _=_
     rw[z2h h6 hr h9];rfl
   ·cases hf
theorem zf{f:FuncId}{xf:XF}(hf:cFn P f=some xf){args:List LV}{M:Mem}{Q:LV->Mem->Prop}(hn:Nat.ble args.length xf.ntmps=true)
  (h:W .det P f none xf.ntmps xf.body (zipE 0 args) [] M (KFun xf.res Q)) (hask:Orc.ask P f args M=none:=by rfl):ze P f args M Q:=zft (n:=xf.ntmps) (c:=xf.body) (res:=xf.res) hf hn h hask
theorem zd5{f:FuncId}{n:Nat}{c:XC}{res:List XR}(hf:cFn P f=some ⟨n,c,res⟩){args:List LV}{M:Mem}{Q:LV->Mem->Prop}(hn:Nat.ble args.length n=true)
  (h:W .gen P f none n c (zipE 0 args) [] M (KFun res Q)):CallN P f args M Q:=by
 unfold cFn at hf
 split at hf
 ·cases hf
 ·rename_i fd hfd
  split at hf
  ·cases hf
  ·rename_i code hcode
   split at hf
   ·rename_i c' r' hc hr
    cases hf
    rw[Nat.ble_eq] at hn
    obtain⟨T,h1,h2,h3⟩:=z6l args 0 ⟨fd.ntmps,.nil⟩ (by show 0+args.length<=fd.ntmps;omega)
    have hT:Tm.ofList fd.ntmps args=some T:=by
     unfold Tm.ofList
     rw[z1m]
     show Tm.setAll args 0 ⟨max fd.ntmps args.length,.nil⟩=_
     rw[Nat.max_eq_left hn];exact h1
    have he:zu fd.ntmps (zipE 0 args) T:=⟨h2,fun d v hd=>by
     obtain⟨_,h5⟩:=zcd hd
     rw[z3r,h3 d,if_pos (by have:=(List.getElem?_eq_some_iff.1 h5).1;omega),h5];rfl⟩
    refine⟨⟨fd,hfd⟩,fun hO=>zkk hO hfd hT hcode ((h code T hc he hO).mono (fun e T' ms' M' h5=>?_) (fun _ _ _ _ h=>h.elim))⟩
    obtain⟨E',h6,h7⟩:=h5
    cases e with
    | exit i=>exact h7.elim
    | norm =>
     obtain⟨M2,h8,vs,h9,h10⟩:=h7
     refine⟨.inl rfl,_,M2,?_,h10⟩
     rw[z5o h8]
     show ob (z0s P T' M2 fd.results.toList) _=_
     rw[z2h h6 hr h9];rfl
    | ret =>
     obtain⟨M2,h8,vs,h9,h10⟩:=h7
     refine⟨.inr rfl,_,M2,?_,h10⟩
     rw[z5o h8]
     show ob (z0s P T' M2 fd.results.toList) _=_
     rw[z2h h6 hr h9];rfl
   ·cases hf
theorem z5e{f:FuncId}{xf:XF}(hf:cFn P f=some xf){args:List LV}{M:Mem}{Q:LV->Mem->Prop}(hn:Nat.ble args.length xf.ntmps=true)
  (h:W .gen P f none xf.ntmps xf.body (zipE 0 args) [] M (KFun xf.res Q)):CallN P f args M Q:=zd5 (n:=xf.ntmps) (c:=xf.body) (res:=xf.res) hf hn h
theorem ze.toN{f:FuncId}{args:List LV}{M:Mem}{Q:LV->Mem->Prop}(hfn:∃ fd,fnOf P f=some fd)(h:ze P f args M Q):CallN P f args M Q :=
 ⟨hfn,fun hO=>let ⟨_,_,h1,h2⟩:=h;zkl hO h1 h2⟩
end
end PvL
end
section
namespace PvL
set_option linter.unusedSectionVars false
open Go
variable {μ:Md}
structure New (M:Mem) (n:Nat) (lb:LB) (M':Mem):Prop where
 eq:M'=M.push lb
 name:n=M.next
structure Upd (M:Mem) (i:Nat) (lb:LB) (M':Mem):Prop where
 eq:M'=M.upd i (some lb)
structure Grow (M M':Mem):Prop where
 le:M.next<=M'.next
 old:∀ i,i < M.next->M'.get i=M.get i
structure Keep (F:Nat->Prop) (M M':Mem):Prop where
 le:M.next<=M'.next
 old:∀ i,i < M.next->¬ F i->M'.get i=M.get i
def At(M:Mem)(i:Nat)(lb:LB):Prop:=M.get i=some lb /\ i < M.next
def Rd(M:Mem)(i o n:Nat)(l:List LV):Prop:=loadN M i o n=some l /\ i < M.next
def Rd1(M:Mem)(i o:Nat)(v:LV):Prop:=load1 M i o=some v /\ i < M.next
section
variable {M M':Mem} {i j n o:Nat} {lb lb':LB}
theorem New.next(h:New M n lb M'):M'.next=M.next+1:=by rw[h.eq];rfl
theorem Upd.next(h:Upd M i lb M'):M'.next=M.next:=by rw[h.eq];exact Mem.next_upd _ _ _
theorem At.new_same(h:New M n lb M'):At M' n lb:=by
 refine⟨?_,by rw[h.next,h.name];omega⟩
 rw[h.eq,h.name,Mem.get_push,if_pos rfl]
theorem At.new_old(h:New M n lb M')(ha:At M i lb'):At M' i lb':=by
 refine⟨?_,by rw[h.next];have:=ha.2;omega⟩
 rw[h.eq,Mem.get_push,if_neg (by have:=ha.2;omega)];exact ha.1
theorem At.upd_same(h:Upd M i lb M')(ha:At M i lb'):At M' i lb:=by
 refine⟨?_,by rw[h.next];exact ha.2⟩
 rw[h.eq,Mem.get_upd,if_pos rfl]
theorem At.upd_ne(h:Upd M j lb M')(hne:i ≠ j)(ha:At M i lb'):At M' i lb':=by
 refine⟨?_,by rw[h.next];exact ha.2⟩
 rw[h.eq,Mem.get_upd,if_neg hne];exact ha.1
theorem At.grow(h:Grow M M')(ha:At M i lb):At M' i lb:=⟨by rw[h.old i ha.2];exact ha.1,Nat.lt_of_lt_of_le ha.2 h.le⟩
theorem At.keep{F:Nat->Prop}(h:Keep F M M')(hf:¬ F i)(ha:At M i lb):At M' i lb:=⟨by rw[h.old i ha.2 hf];exact ha.1,Nat.lt_of_lt_of_le ha.2 h.le⟩
variable {l:List LV} {v:LV}
theorem z8f(h:M'.get i=M.get i):loadN M' i o n=loadN M i o n:=by unfold loadN atCells;rw[h]
theorem z8e(h:M'.get i=M.get i):load1 M' i o=load1 M i o:=by unfold load1 atCells;rw[h]
theorem Rd.of_at{own:Bool}{cs:List LV}{ty:TypeId}(ha:At M i (.cells own cs ty))(h:take' n (drop' o cs)=some l):Rd M i o n l :=
 ⟨by unfold loadN atCells;rw[ha.1];exact h,ha.2⟩
theorem Rd1.of_at{own:Bool}{cs:List LV}{ty:TypeId}(ha:At M i (.cells own cs ty))(h:nth cs o=some v):Rd1 M i o v :=
 ⟨by unfold load1 atCells;rw[ha.1];exact h,ha.2⟩
theorem Grow.refl(M:Mem):Grow M M:=⟨Nat.le_refl _,fun _ _=>rfl⟩
theorem Grow.trans{M2:Mem}(h:Grow M M')(h':Grow M' M2):Grow M M2:=⟨Nat.le_trans h.le h'.le,fun i hi=>by rw[h'.old i (Nat.lt_of_lt_of_le hi h.le),h.old i hi]⟩
theorem New.grow(h:New M n lb M'):Grow M M':=⟨by rw[h.next];omega,fun i hi=>by rw[h.eq,Mem.get_push,if_neg (by omega)]⟩
theorem Grow.new{M0:Mem}(h:Grow M0 M)(h':New M n lb M'):Grow M0 M':=h.trans h'.grow
theorem Grow.upd{M0:Mem}(h:Grow M0 M)(h':Upd M i lb M')(hi:M0.next<=i):Grow M0 M' :=
 ⟨by rw[h'.next];exact h.le,fun j hj=>by rw[h'.eq,Mem.get_upd,if_neg (by omega)];exact h.old j hj⟩
theorem Grow.drop{M0:Mem}(h:Grow M0 M)(hi:M0.next<=i):Grow M0 (M.upd i none) :=
 ⟨by rw[Mem.next_upd];exact h.le,fun j hj=>by rw[Mem.get_upd,if_neg (by omega)];exact h.old j hj⟩
theorem Rd.grow(h:Grow M M')(ha:Rd M i o n l):Rd M' i o n l:=⟨by rw[z8f (h.old i ha.2)];exact ha.1,Nat.lt_of_lt_of_le ha.2 h.le⟩
theorem Rd1.grow(h:Grow M M')(ha:Rd1 M i o v):Rd1 M' i o v:=⟨by rw[z8e (h.old i ha.2)];exact ha.1,Nat.lt_of_lt_of_le ha.2 h.le⟩
theorem Rd.new_old(h:New M j lb M')(ha:Rd M i o n l):Rd M' i o n l:=ha.grow h.grow
theorem Rd1.new_old(h:New M j lb M')(ha:Rd1 M i o v):Rd1 M' i o v:=ha.grow h.grow
theorem z6n(h:Upd M j lb M')(hne:i ≠ j):M'.get i=M.get i:=by rw[h.eq,Mem.get_upd,if_neg hne]
theorem Rd.upd_ne(h:Upd M j lb M')(hne:i ≠ j)(ha:Rd M i o n l):Rd M' i o n l:=⟨by rw[z8f (z6n h hne)];exact ha.1,by rw[h.next];exact ha.2⟩
theorem Rd1.upd_ne(h:Upd M j lb M')(hne:i ≠ j)(ha:Rd1 M i o v):Rd1 M' i o v:=⟨by rw[z8e (z6n h hne)];exact ha.1,by rw[h.next];exact ha.2⟩
theorem Rd.keep{F:Nat->Prop}(h:Keep F M M')(hf:¬ F i)(ha:Rd M i o n l):Rd M' i o n l:=⟨by rw[z8f (h.old i ha.2 hf)];exact ha.1,Nat.lt_of_lt_of_le ha.2 h.le⟩
theorem Rd1.keep{F:Nat->Prop}(h:Keep F M M')(hf:¬ F i)(ha:Rd1 M i o v):Rd1 M' i o v:=⟨by rw[z8e (h.old i ha.2 hf)];exact ha.1,Nat.lt_of_lt_of_le ha.2 h.le⟩
end
section
variable {P:Program} [Orc P] {sz:Nat} {E:Env} {M:Mem} {K:Env->Mem->Prop} {l:List XG} {d:Nat} {g:Option (Nat × Bool)} {x y a:XO} {i o n t:Nat} {v:LV} {ls:List LV}
theorem zrd:GOn E none:=trivial
theorem g_on{t:Nat}{w:Bool}(h:look E t=some (.bool w)):GOn E (some (t,w)):=h
theorem ztm{t:Nat}{w:Bool}(h:look E t=some (.bool (!w))):GOff E (some (t,w)):=.inl h
theorem ztn{t:Nat}{w:Bool}(h:look E t=some (.tup [])):GOff E (some (t,w)):=.inr h
theorem zpx{i:XI}(h:xpure i E=some v):zm P i E M=some (.val v M):=z1e h M
theorem zk0(ha:xval E a=some (.ptr (some (i,o))))(h:Rd1 M i o v):zm P (.ld1 a) E M=some (.val v M):=by
 show ob (xval E a) _=_
 rw[ha,za]
 show ob (load1 M i o) _=_
 rw[h.1];rfl
theorem zff(ha:xval E a=some (.ptr (some (i,o))))(h:Rd M i o n ls):zm P (.ldN n a) E M=some (.val (.agg ls) M):=by
 show ob (xval E a) _=_
 rw[ha,za]
 show ob (loadN M i o n) _=_
 rw[h.1];rfl
theorem zno{z:List LV}(hf:zl z=true):zm P (.new t z) E M=some (.val (.ptr (some (M.next,0))) (M.push (.cells true z t))):=by
 show guard' (zl z) _=_
 rw[hf];rfl
theorem znl(hx:xval E x=some v)(hf:zl v.cells=true):zm P (.box t x) E M=some (.val (.ptr (some (M.next,0))) (M.push (.cells true v.cells t))):=by
 show ob (xval E x) _=_
 rw[hx,za]
 show guard' (zl v.cells) _=_
 rw[hf];rfl
theorem znm{len:Nat}{z cs:List LV}{ps:List (Nat × Nat × XO)}{vs:List (Nat × Nat × LV)}(hp:xParts E ps=some vs)(hc:fillX vs (rep len z)=some cs) :
  zm P (.bsl t n len z ps) E M=some (.val (.slice (some (M.next,0)) len true n) (M.push (.cells true cs t))):=by
 show ob (xParts E ps) _=_
 rw[hp,za,hc];rfl
theorem zml:zm P .mkmap E M=some (.val (.map (some M.next)) (M.push (.map [] [] 0))):=rfl
theorem zsx{cs cs':List LV}{ty:TypeId}(ha:xval E a=some (.ptr (some (i,o))))(hx:xval E x=some v)(hm:At M i (.cells true cs ty))(hn:Nat.beq v.cells.length n=true)(hf:zl v.cells=true)(hs:z0h cs o v.cells=some cs') :
  zm P (.st n a x) E M=some (.skip (M.upd i (some (.cells true cs' ty)))):=by
 show ob (xval E a) _=_
 rw[ha,za,hx,za]
 show guard' _ (guard' _ (ob (storeCs M i o v.cells) _))=_
 rw[hn,hf,zd,zd]
 unfold storeCs atCells
 rw[hm.1,za]
 show ob (guard' true (ob (z0h cs o v.cells) _)) _=_
 rw[hs];rfl
theorem znn{b:Nat}{len:Nat}{f:Bool}{e:Nat}{q:IntKind}{k:Nat}(hx:xval E x=some (.slice (some (i,o)) len f e))(hy:xval E y=some (.int q (k:Int)))(hk:k < len) :
  zm P (.iad none b x y) E M=some (.val (.ptr (some (i,o+k*b))) M):=by
 show ob (xval E x) _=_
 rw[hx,za,hy,za]
 show ob (guard' (Nat.ble (k+1) len) (fN (o+k*b) _)) _=_
 rw[Nat.ble_eq_true_of_le hk,zd,z1m];rfl
theorem zgx{b:Nat}{len:Nat}{f:Bool}{e:Nat}{q:IntKind}{k:Int}(hx:xval E x=some (.slice (some (i,o)) len f e))(hy:xval E y=some (.int q k))(hk:0<=k /\ k < len) :
  zm P (.iad none b x y) E M=some (.val (.ptr (some (i,o+k.toNat*b))) M):=by
 obtain⟨m,rfl⟩:=Int.eq_ofNat_of_zero_le hk.1
 exact znn hx hy (by omega)
theorem zpv{b:Nat}{len:Nat}{q:IntKind}{k:Int}(hx:xval E x=some (.ptr (some (i,o))))(hy:xval E y=some (.int q k))(hk:0<=k /\ k < len) :
  zm P (.iad (some len) b x y) E M=some (.val (.ptr (some (i,o+k.toNat*b))) M):=by
 obtain⟨m,rfl⟩:=Int.eq_ofNat_of_zero_le hk.1
 show ob (xval E x) _=_
 rw[hx,za,hy,za]
 show ob (guard' (Nat.ble (m+1) len) (fN (o+m*b) _)) _=_
 rw[Nat.ble_eq_true_of_le (by omega),zd,z1m];rfl
theorem zso{b len:Nat}{ag:Bool}{cs:List LV}{q:IntKind}{k:Int}(hx:xval E x=some (.agg cs))(hy:xval E y=some (.int q k))(hk:0<=k /\ k < len)(hp:partL ag b (k.toNat*b) cs=some v) :
  zm P (.idx len b ag x y) E M=some (.val v M):=by
 obtain⟨m,rfl⟩:=Int.eq_ofNat_of_zero_le hk.1
 show ob (xval E x) _=_
 rw[hx,za,hy,za]
 show guard' (Nat.ble (m+1) len) (ob (partL ag b (m*b) cs) _)=_
 rw[Nat.ble_eq_true_of_le (by omega),zd,show partL ag b (m*b) cs=some v from hp];rfl
theorem zu7{z:List LV}(hg:GOn E g)(hf:zl z=true)(hk:∀ n M',New M n (.cells true z t) M'->n=M.next->M'.next=M.next+1->XW μ P sz l ((d,.ptr (some (n,0))) :: E) M' K):XW μ P sz (⟨some d,.new t z,g⟩ :: l) E M K :=
 z64 hg (zno hf) (hk _ _ ⟨rfl,rfl⟩ rfl rfl)
theorem zu5(hg:GOn E g)(hx:xval E x=some v)(hf:zl v.cells=true)(hk:∀ n M',New M n (.cells true v.cells t) M'->n=M.next->M'.next=M.next+1->XW μ P sz l ((d,.ptr (some (n,0))) :: E) M' K):XW μ P sz (⟨some d,.box t x,g⟩ :: l) E M K :=
 z64 hg (znl hx hf) (hk _ _ ⟨rfl,rfl⟩ rfl rfl)
theorem zu6{len:Nat}{z cs:List LV}{ps:List (Nat × Nat × XO)}{vs:List (Nat × Nat × LV)}(hg:GOn E g)(hp:xParts E ps=some vs)(hc:fillX vs (rep len z)=some cs)
  (hk:∀ n' M',New M n' (.cells true cs t) M'->n'=M.next->M'.next=M.next+1->XW μ P sz l ((d,.slice (some (n',0)) len true n) :: E) M' K):XW μ P sz (⟨some d,.bsl t n len z ps,g⟩ :: l) E M K :=
 z64 hg (znm hp hc) (hk _ _ ⟨rfl,rfl⟩ rfl rfl)
theorem zpq(hg:GOn E g)(hk:∀ n M',New M n (.map [] [] 0) M'->n=M.next->M'.next=M.next+1->XW μ P sz l ((d,.map (some n)) :: E) M' K):XW μ P sz (⟨some d,.mkmap,g⟩ :: l) E M K :=
 z64 hg zml (hk _ _ ⟨rfl,rfl⟩ rfl rfl)
theorem x_st{cs cs':List LV}{ty:TypeId}(hg:GOn E g)(ha:xval E a=some (.ptr (some (i,o))))(hx:xval E x=some v)(hm:At M i (.cells true cs ty))(hn:Nat.beq v.cells.length n=true)(hf:zl v.cells=true)(hs:z0h cs o v.cells=some cs')
  (hk:∀ M',Upd M i (.cells true cs' ty) M'->M'.next=M.next->At M' i (.cells true cs' ty)->XW μ P sz l E M' K):XW μ P sz (⟨none,.st n a x,g⟩ :: l) E M K :=
 zq3 hg (zsx ha hx hm hn hf hs) (hk _ ⟨rfl⟩ (Mem.next_upd _ _ _) (At.upd_same ⟨rfl⟩ hm))
theorem z0c{f:XO}{as:List XO}{gf:FuncId}{fi ca vs:List LV}(hg:GOn E g)(hf:xval E f=some (.func (.func gf) fi ca))(has:z14 E as=some vs)(h:ze P gf (fi ++ vs ++ ca) M fun w M'=>w=v /\ M'=M)
  (hk:XW μ P sz l ((d,v) :: E) M K):XW μ P sz (⟨some d,.call f as,g⟩ :: l) E M K :=
 z97 hg hf has (Q:=fun w M'=>w=v /\ M'=M) h fun w M' ⟨h1,h2⟩=>by subst h1;subst h2;exact hk
theorem zp{f:XO}{as:List XO}{gf:FuncId}{fi ca vs:List LV}(hg:GOn E g)(hf:xval E f=some (.func (.func gf) fi ca))(has:z14 E as=some vs)(h:ze P gf (fi ++ vs ++ ca) M fun w M'=>w=v /\ Grow M M')
  (hk:∀ M',Grow M M'->M.next<=M'.next->XW μ P sz l ((d,v) :: E) M' K):XW μ P sz (⟨some d,.call f as,g⟩ :: l) E M K :=
 z97 hg hf has (Q:=fun w M'=>w=v /\ Grow M M') h fun w M' ⟨h1,h2⟩=>by subst h1;exact hk M' h2 h2.le
theorem zt{f:XO}{as:List XO}{fv:LV}{vs:List LV}{Q:LV->Mem->Prop}(hg:GOn E g)(hf:xval E f=some fv)(has:z14 E as=some vs)(h:AppOk P fv vs M Q)
  (hk:∀ w M',Q w M'->XW μ P sz l ((d,w) :: E) M' K):XW μ P sz (⟨some d,.call f as,g⟩ :: l) E M K:=z97 hg hf has h hk
theorem zn{f:XO}{as:List XO}{fv:LV}{vs:List LV}{Q:LV->Mem->Prop}(hg:GOn E g)(hf:xval E f=some fv)(has:z14 E as=some vs)(h:AppOk P fv vs M Q)
  (hk:∀ w M',Q w M'->XW μ P sz l E M' K):XW μ P sz (⟨none,.call f as,g⟩ :: l) E M K:=z97 hg hf has h hk
theorem z00{i:XI}{v:LV}(hg:GOn E g)(hs:zm P i E M=some (.val v M))(hk:XW μ P sz l ((d,v) :: E) M K):XW μ P sz (⟨some d,i,g⟩ :: l) E M K:=z64 hg hs hk
theorem zu8{i:XI}(hg:GOff E g)(hk:XW μ P sz l ((d,.tup []) :: E) M K):XW μ P sz (⟨some d,i,g⟩ :: l) E M K:=zt2 hg hk
variable {st:List Mem} {k:Nat} {xs:List (Nat × Nat × (Mem->Prop))} {ld:List (XG × XK)}
theorem z3x{i:XI}{v:LV}(hg:GOn E g)(hs:zm P i E M=some (.val v M))(hk:XD P sz ld ((d,v) :: E) M st k xs K):XD P sz ((⟨some d,i,g⟩,.calm) :: ld) E M st k xs K:=zsf hg hs hk
theorem ztf{lo hi:Nat}(hg:GOn E g)(ha:xval E a=some (.ptr (some (i,o))))(h:Rd1 M i o v)(hk:XD P sz ld ((d,v) :: E) M st k ((lo,hi,fun m=>Rd1 m i o v) :: xs) K) :
  XD P sz ((⟨some d,.ld1 a,g⟩,.reads lo hi) :: ld) E M st k xs K:=zjw hg (zk0 ha h) _ (fun _ hm=>zk0 ha hm) hk
theorem ztg{lo hi:Nat}(hg:GOn E g)(ha:xval E a=some (.ptr (some (i,o))))(h:Rd M i o n ls)(hk:XD P sz ld ((d,.agg ls) :: E) M st k ((lo,hi,fun m=>Rd m i o n ls) :: xs) K) :
  XD P sz ((⟨some d,.ldN n a,g⟩,.reads lo hi) :: ld) E M st k xs K:=zjw hg (zff ha h) _ (fun _ hm=>zff ha hm) hk
theorem zth{z:List LV}(hg:GOn E g)(hf:zl z=true)(hk:∀ n M',New M n (.cells true z t) M'->n=M.next->M'.next=M.next+1->XD P sz ld ((d,.ptr (some (n,0))) :: E) M' st k xs K):XD P sz ((⟨some d,.new t z,g⟩,.new) :: ld) E M st k xs K :=
 zju hg (zno hf) (hk _ _ ⟨rfl,rfl⟩ rfl rfl)
theorem ztd(hg:GOn E g)(hx:xval E x=some v)(hf:zl v.cells=true)(hk:∀ n M',New M n (.cells true v.cells t) M'->n=M.next->M'.next=M.next+1->XD P sz ld ((d,.ptr (some (n,0))) :: E) M' st k xs K):XD P sz ((⟨some d,.box t x,g⟩,.new) :: ld) E M st k xs K :=
 zju hg (znl hx hf) (hk _ _ ⟨rfl,rfl⟩ rfl rfl)
theorem zte{len:Nat}{z cs:List LV}{ps:List (Nat × Nat × XO)}{vs:List (Nat × Nat × LV)}(hg:GOn E g)(hp:xParts E ps=some vs)(hc:fillX vs (rep len z)=some cs)
  (hk:∀ n' M',New M n' (.cells true cs t) M'->n'=M.next->M'.next=M.next+1->XD P sz ld ((d,.slice (some (n',0)) len true n) :: E) M' st k xs K):XD P sz ((⟨some d,.bsl t n len z ps,g⟩,.new) :: ld) E M st k xs K :=
 zju hg (znm hp hc) (hk _ _ ⟨rfl,rfl⟩ rfl rfl)
theorem d_st{cs cs':List LV}{ty:TypeId}(hg:GOn E g)(ha:xval E a=some (.ptr (some (i,o))))(hx:xval E x=some v)(hm:At M i (.cells true cs ty))(hn:Nat.beq v.cells.length n=true)(hf:zl v.cells=true)(hs:z0h cs o v.cells=some cs')
  (hk:∀ M',Upd M i (.cells true cs' ty) M'->M'.next=M.next->At M' i (.cells true cs' ty)->XD P sz ld E M' (M' :: st) (k+1) xs K):XD P sz ((⟨none,.st n a x,g⟩,.anchor) :: ld) E M st k xs K :=
 zjx hg (zsx ha hx hm hn hf hs) (hk _ ⟨rfl⟩ (Mem.next_upd _ _ _) (At.upd_same ⟨rfl⟩ hm))
theorem z0a{f:XO}{as:List XO}{gf:FuncId}{fi ca vs:List LV}(hg:GOn E g)(hf:xval E f=some (.func (.func gf) fi ca))(has:z14 E as=some vs)(h:ze P gf (fi ++ vs ++ ca) M fun w M'=>w=v /\ M'=M)
  (hk:XD P sz ld ((d,v) :: E) M (M :: st) (k+1) xs K):XD P sz ((⟨some d,.call f as,g⟩,.anchor) :: ld) E M st k xs K :=
 ze7 hg hf has (Q:=fun w M'=>w=v /\ M'=M) h fun w M' ⟨h1,h2⟩=>by subst h1;subst h2;exact hk
theorem zo{f:XO}{as:List XO}{gf:FuncId}{fi ca vs:List LV}(hg:GOn E g)(hf:xval E f=some (.func (.func gf) fi ca))(has:z14 E as=some vs)(h:ze P gf (fi ++ vs ++ ca) M fun w M'=>w=v /\ Grow M M')
  (hk:∀ M',Grow M M'->M.next<=M'.next->XD P sz ld ((d,v) :: E) M' (M' :: st) (k+1) xs K):XD P sz ((⟨some d,.call f as,g⟩,.anchor) :: ld) E M st k xs K :=
 ze7 hg hf has (Q:=fun w M'=>w=v /\ Grow M M') h fun w M' ⟨h1,h2⟩=>by subst h1;exact hk M' h2 h2.le
theorem zz{f:XO}{as:List XO}{fv:LV}{vs:List LV}{Q:LV->Mem->Prop}(hg:GOn E g)(hf:xval E f=some fv)(has:z14 E as=some vs)(h:AppOk P fv vs M Q)
  (hk:∀ w M',Q w M'->XD P sz ld ((d,w) :: E) M' (M' :: st) (k+1) xs K):XD P sz ((⟨some d,.call f as,g⟩,.anchor) :: ld) E M st k xs K:=ze7 hg hf has h hk
theorem zx{f:XO}{as:List XO}{gf:FuncId}{fi ca vs:List LV}(hg:GOn E g)(hf:xval E f=some (.func (.func gf) fi ca))(has:z14 E as=some vs)(h:ze P gf (fi ++ vs ++ ca) M fun w M'=>w=v /\ M'=M)
  (hk:XD P sz ld ((d,v) :: E) M st k xs K):XD P sz ((⟨some d,.call f as,g⟩,.new) :: ld) E M st k xs K :=
 zfd hg hf has (Q:=fun w M'=>w=v /\ M'=M) h fun w M' ⟨h1,h2⟩=>by subst h1;subst h2;exact hk
theorem zj{f:XO}{as:List XO}{gf:FuncId}{fi ca vs:List LV}(hg:GOn E g)(hf:xval E f=some (.func (.func gf) fi ca))(has:z14 E as=some vs)(h:ze P gf (fi ++ vs ++ ca) M fun w M'=>w=v /\ Grow M M')
  (hk:∀ M',Grow M M'->M.next<=M'.next->XD P sz ld ((d,v) :: E) M' st k xs K):XD P sz ((⟨some d,.call f as,g⟩,.new) :: ld) E M st k xs K :=
 zfd hg hf has (Q:=fun w M'=>w=v /\ Grow M M') h fun w M' ⟨h1,h2⟩=>by subst h1;exact hk M' h2 h2.le
theorem ztj{i:XI}{lo hi:Nat}(hg:GOff E g)(hk:XD P sz ld ((d,.tup []) :: E) M st k xs K):XD P sz ((⟨some d,i,g⟩,.reads lo hi) :: ld) E M st k xs K:=zjv hg ⟨rfl,rfl⟩ hk
theorem zfw{i:XI}(hg:GOff E g)(hk:XD P sz ld ((d,.tup []) :: E) M st k xs K):XD P sz ((⟨some d,i,g⟩,.calm) :: ld) E M st k xs K:=zjv hg ⟨rfl,rfl⟩ hk
theorem zbw{i:XI}(hg:GOff E g)(hk:XD P sz ld ((d,.tup []) :: E) M (M :: st) (k+1) xs K):XD P sz ((⟨some d,i,g⟩,.anchor) :: ld) E M st k xs K:=zjv hg ⟨rfl,rfl⟩ hk
theorem zpp{w b:Bool}{i:XI}{dd:Option Nat}(ht:look E t=some (.bool b))(h1:b=true->XW μ P sz (⟨dd,i,some (t,w)⟩ :: l) ((t,.bool true) :: E) M K)(h0:b=false->XW μ P sz (⟨dd,i,some (t,w)⟩ :: l) ((t,.bool false) :: E) M K):XW μ P sz (⟨dd,i,some (t,w)⟩ :: l) E M K:=zmr ht h1 h0
theorem zoi{w b:Bool}{i:XI}{dd:Option Nat}{kd:XK}(ht:look E t=some (.bool b))(h1:b=true->XD P sz ((⟨dd,i,some (t,w)⟩,kd) :: ld) ((t,.bool true) :: E) M st k xs K)(h0:b=false->XD P sz ((⟨dd,i,some (t,w)⟩,kd) :: ld) ((t,.bool false) :: E) M st k xs K):XD P sz ((⟨dd,i,some (t,w)⟩,kd) :: ld) E M st k xs K:=zmg ht h1 h0
theorem zti(h:K E M)(ho:ObAll st k xs):XD P sz [] E M st k xs K:=zsd ho h
end
theorem znc{a b A B:Int}(ha:-A<=a /\ a<=A)(hb:-B<=b /\ b<=B):-(A*B)<=a*b /\ a*b<=A*B:=by
 have h0:0<=A:=by omega
 have h1:0<=B:=by omega
 have h2:(a*b).natAbs<=A.natAbs*B.natAbs:=by
  rw[Int.natAbs_mul]
  exact Nat.mul_le_mul (by omega) (by omega)
 have h3:((A.natAbs*B.natAbs:Nat):Int)=A*B:=by
  rw[Int.natCast_mul,Int.natAbs_of_nonneg h0,Int.natAbs_of_nonneg h1]
 omega
end PvL
end
section
namespace PvL
set_option linter.unusedSectionVars false
open Go
section
variable {P:Program} [Orc P] {sz:Nat} {fn:FuncId} {E:Env} {ms:List Dfr} {M:Mem} {K:Ex->Env->List Dfr->Mem->Prop}
structure LoopSt (P:Program) [Orc P] (fn:FuncId) (sz:Nat) (E:Env) (ps:List Tmp) (a b:XC) (lb:LoopState->Option Code->LB):Prop where
 is:∃ T ca cb d,zu sz E T /\ zw P sz ca=some a /\ zw P sz cb=some b /\ (ps.all fun t=>Nat.ble (t+1) sz)=true /\ lb=fun st pend=>.loop st pend fn T ps ca cb d
def zipP:List Tmp->List LV->Env->Env
 | t :: ts,v :: vs,E=>zipP ts vs ((t,v) :: E)
 | _,_,E=>E
def KIter(l:Nat)(lb:LoopState->Option Code->LB)(E:Env)(ms:List Dfr)(K:Ex->Env->List Dfr->Mem->Prop)(_:LV)(M:Mem):Prop :=
 ∃ st pend,At M l (lb st pend) /\ st ≠ .busy /\ ∀ M',Upd M l (lb .exhausted pend) M'->M'.next=M.next->At M' l (lb .exhausted pend) ->
  match pend with|none=>K .norm E ms M' | some .ret=>K .ret E ms M' | some (.exit id)=>K (.exit id) E ms M' | _=>False
def KRound(l:Nat)(lb:LoopState->Option Code->LB)(Q:LV->Mem->Prop)(e:Ex)(_:Env)(_:List Dfr)(M:Mem):Prop :=
 ∃ st pend,At M l (lb st pend) /\
  match e with
  | .norm=>∀ M',Upd M l (lb .ready none) M'->M'.next=M.next->At M' l (lb .ready none)->Q (.bool true) M'
  | .ret=>∀ M',Upd M l (lb .done (some .ret)) M'->M'.next=M.next->At M' l (lb .done (some .ret))->Q (.bool false) M'
  | .exit id=>∀ M',Upd M l (lb .done (some (.exit id))) M'->M'.next=M.next->At M' l (lb .done (some (.exit id)))->Q (.bool false) M'
def KAssign(P:Program)[Orc P](fn:FuncId)(sz:Nat)(l:Nat)(lb:LoopState->Option Code->LB)(b:XC)(Q:LV->Mem->Prop)(e:Ex)(E:Env)(ms:List Dfr)(M:Mem):Prop :=
 e=.norm /\ ∃ pend,At M l (lb .ready pend) /\ ∀ M',Upd M l (lb .busy pend) M'->M'.next=M.next->At M' l (lb .busy pend)->W .det P fn (some l) sz b E ms M' (KRound l lb Q)
theorem z76:∀ {ps:List Tmp} {vs:List LV} {E:Env} {T:Tm},zu sz E T->(ps.all fun t=>Nat.ble (t+1) sz)=true->vs.length=ps.length->∃ T',setParams ps vs T=some T' /\ zu sz (zipP ps vs E) T'
 | [],[],E,T,he,_,_=>⟨T,rfl,he⟩
 | [],v :: vs,E,T,he,_,hl=>by cases hl
 | t :: ts,[],E,T,he,_,hl=>by cases hl
 | t :: ts,v :: vs,E,T,he,hp,hl=>by
  simp only[List.all_cons,Bool.and_eq_true] at hp
  obtain⟨T1,h1,he1⟩:=he.cons (d:=t) (by have:=hp.1;rw[Nat.ble_eq] at this;exact this) v
  obtain⟨T2,h2,he2⟩:=z76 he1 hp.2 (by simpa using hl)
  exact⟨T2,by show ob (T.set t v) _=_;rw[h1];exact h2,he2⟩
theorem znr{α:Type}{lb:LoopState->Option Code->LB}{ps:List Tmp}{a b:XC}(hlb:LoopSt P fn sz E ps a b lb){l:Nat}{st:LoopState}{pend:Option Code}(ha:At M l (lb st pend)) :
  ∃ T ca cb d,zu sz E T /\ zw P sz ca=some a /\ zw P sz cb=some b /\ (ps.all fun t=>Nat.ble (t+1) sz)=true /\ (∀ st pend,lb st pend=.loop st pend fn T ps ca cb d) /\
   ∀(k:LoopState->Option Code->FuncId->Tm->List Tmp->Code->Code->Nat->Option α),atLoop M l k=k st pend fn T ps ca cb d:=by
 obtain⟨T,ca,cb,d,h1,h2,h3,h4,rfl⟩:=hlb.is
 refine⟨T,ca,cb,d,h1,h2,h3,h4,fun _ _=>rfl,fun k=>?_⟩
 unfold atLoop
 rw[ha.1];rfl
theorem z8h{α:Type}{lb:LoopState->Option Code->LB}{T:Tm}{ps:List Tmp}{ca cb:Code}{d:Nat}(hlb:∀ st pend,lb st pend=.loop st pend fn T ps ca cb d){l:Nat}{st:LoopState}{pend:Option Code}(ha:At M l (lb st pend))
  (k:LoopState->Option Code->FuncId->Tm->List Tmp->Code->Code->Nat->Option α):atLoop M l k=k st pend fn T ps ca cb d:=by
 unfold atLoop
 rw[ha.1,hlb];rfl
theorem z7i{lb:LoopState->Option Code->LB}{ps:List Tmp}{a b:XC}(hlb:LoopSt P fn sz E ps a b lb){l:Nat}{pend:Option Code}(ha:At M l (lb .ready pend)){args:List LV}(hn:args.length=ps.length){Q:LV->Mem->Prop}
  (h:W .det P fn (some l) sz a (zipP ps args E) [] M (KAssign P fn sz l lb b Q)):RoundOk P l args M Q:=by
 obtain⟨T,ca,cb,d,h1,h2,h3,h4,h5,h6⟩:=znr (α:=Out) hlb ha
 obtain⟨T1,h7,h8⟩:=z76 h1 h4 hn
 obtain⟨e,T2,ms2,M2,h9,E2,h10,h11⟩:=h ca T1 h2 h8
 obtain⟨rfl,pend2,h12,h13⟩:=h11
 have hu:Upd M2 l (lb .busy pend2) (M2.upd l (some (lb .busy pend2))):=⟨rfl⟩
 obtain⟨e3,T3,ms3,M3,h14,E3,h15,st3,pend3,h16,h17⟩:=h13 _ hu (Mem.next_upd _ _ _) (At.upd_same hu h12) cb T2 h3 h10
 have key:∀ v M',roundEnd l e3 M3=some (.call v M')->om P (.round l args M)=some (.call v M'):=fun v M' hv=>by
  rw[zld]
  show atLoop M l _=_
  rw[h6]
  show ob (setParams ps args T) _=_
  rw[h7,za,h9]
  show atLoop M2 l _=_
  rw[z8h h5 h12]
  show z1y (om P (.code fn (some l) cb T2 ms2 (M2.upd l (some (LB.loop .busy pend2 fn T ps ca cb d))))) _ _=_
  rw[<-h5,h14];exact hv
 have hend:∀(o:Option Out),(match e3 with | .norm=>some (Out.call (.bool true) (M3.upd l (some (lb .ready none)))) | .ret=>some (Out.call (.bool false) (M3.upd l (some (lb .done (some .ret))))) | .exit id=>some (Out.call (.bool false) (M3.upd l (some (lb .done (some (.exit id)))))))=o->roundEnd l e3 M3=o:=fun o ho=>by
  rw[<-ho]
  unfold roundEnd
  rw[z8h h5 h16]
  cases e3<;>simp only[h5]<;>rfl
 cases e3 with
 | norm=>exact⟨_,_,key _ _ (hend _ rfl),h17 _ ⟨rfl⟩ (Mem.next_upd _ _ _) (At.upd_same ⟨rfl⟩ h16)⟩
 | ret=>exact⟨_,_,key _ _ (hend _ rfl),h17 _ ⟨rfl⟩ (Mem.next_upd _ _ _) (At.upd_same ⟨rfl⟩ h16)⟩
 | exit id=>exact⟨_,_,key _ _ (hend _ rfl),h17 _ ⟨rfl⟩ (Mem.next_upd _ _ _) (At.upd_same ⟨rfl⟩ h16)⟩
theorem zng{ro:Option Nat}{T:Tm}{lb:LoopState->Option Code->LB}{T':Tm}{ps:List Tmp}{ca cb:Code}{d l:Nat}(h5:∀ st pend,lb st pend=.loop st pend fn T' ps ca cb d)(he:zu sz E T){v:LV}(h:KIter l lb E ms K v M) :
  ∃ e T' ms' M',rfEnd (om P) fn ro l T ms M=some (.code e T' ms' M') /\ ∃ E',zu sz E' T' /\ K e E' ms' M':=by
 obtain⟨st,pend,h1,h2,h3⟩:=h
 have h3:=h3 _ ⟨rfl⟩ (Mem.next_upd _ _ _) (At.upd_same ⟨rfl⟩ h1)
 unfold rfEnd
 rw[z8h h5 h1]
 have hb:∀ {α:Type} (k:Option α),notBusy st k=k:=fun k=>by cases st<;>first|rfl|exact absurd rfl h2
 rw[hb]
 unfold rfFin
 cases pend with
 | none=>rw[z56,<- h5];exact⟨.norm,T,ms,_,rfl,E,he,h3⟩
 | some c =>
  rw[z2n,<- h5]
  cases c with
  | ret=>exact⟨.ret,T,ms,_,by rw[zb1];rfl,E,he,h3⟩
  | exit id=>exact⟨.exit id,T,ms,_,by rw[zb1];rfl,E,he,h3⟩
  | _=>exact h3.elim
theorem z9i{code:Code}{f:XO}{ps:List Tmp}{a b:XC}(hc:zw P sz code=some (.rfun f ps a b)):∃ f' ps' a' b',code=.rangeFunc f' ps' a' b' /\ cX f'=some f /\ ps'.toList=ps /\ zw P sz a'=some a /\ zw P sz b'=some b /\ (ps.all fun t=>Nat.ble (t+1) sz)=true:=by
 cases code with
 | rangeFunc f' ps' a' b' =>
  simp only[zw] at hc
  split at hc
  ·rename_i h1 h2 h3 h4;cases hc;exact⟨f',ps',a',b',rfl,h1,rfl,h2,h3,h4⟩
  ·cases hc
 | region _ _ d=>cases d<;>simp only[zw] at hc<;>(repeat' split at hc)<;>cases hc
 | skip|label|ret|goto|refuse|exit=>cases hc
 | _=>simp only[zw] at hc;split at hc<;>cases hc
theorem zpa{ro:Option Nat}{f:XO}{ps:List Tmp}{a b:XC}{gf:FuncId}{fi ca:List LV}(hf:xval E f=some (.func (.func gf) fi ca)){f':Operand}{ps':Array Tmp}{a' b':Code}{T:Tm}
  (h1:cX f'=some f) (h2:ps'.toList=ps) (h3:zw P sz a'=some a) (h4:zw P sz b'=some b) (h5:(ps.all fun t=>Nat.ble (t+1) sz)=true) (he:zu sz E T) (d:Nat)
  (h:∀ lb l M2,LoopSt P fn sz E ps a b lb->New M l (lb .ready none) M2->l=M.next->M2.next=M.next+1->ze P gf (fi ++ [.func (.yield l) [] []] ++ ca) M2 (KIter l lb E ms K)) :
  ∃ e T' ms' M',rfCall (om P) fn ro f' ps' a' b' d T ms M=some (.code e T' ms' M') /\ ∃ E',zu sz E' T' /\ K e E' ms' M':=by
 have hlb:LoopSt P fn sz E ps a b (fun st pend=>.loop st pend fn T ps a' b' d):=⟨T,a',b',d,he,h3,h4,h5,rfl⟩
 obtain⟨v,M3,h6,h7⟩:=h _ M.next _ hlb ⟨rfl,rfl⟩ rfl rfl
 unfold rfCall
 rw[Mem.new_eq,z03 he h1 hf,za,h2]
 show ∃ e T' ms' M',z1j (om P _) _ _=_ /\ _
 rw[h6]
 exact zng (fun _ _=>rfl) he h7
theorem zjq{f:XO}{ps:List Tmp}{a b:XC}{gf:FuncId}{fi ca:List LV}(hf:xval E f=some (.func (.func gf) fi ca))
  (h:∀ lb d l M1 M2,LoopSt P fn sz E ps a b lb->New M d .defr M1->d=M.next->M1.next=M.next+1->New M1 l (lb .ready none) M2->l=M1.next->M2.next=M1.next+1 ->
   ze P gf (fi ++ [.func (.yield l) [] []] ++ ca) M2 (KIter l lb E (.mark d :: ms) K)):W .det P fn none sz (.rfun f ps a b) E ms M K:=w_of fun code T hc he=>by
 obtain⟨f',ps',a',b',rfl,h1,h2,h3,h4,h5⟩:=z9i hc
 show ∃ e T' ms' M',cRangeFunc (om P) fn none f' ps' a' b' T ms M=_ /\ _
 unfold cRangeFunc
 rw[z56,Mem.new_eq]
 exact zpa hf h1 h2 h3 h4 h5 he M.next fun lb l M2 hlb hn e1 e2=>h lb M.next l _ M2 hlb ⟨rfl,rfl⟩ rfl rfl hn e1 e2
theorem zl3{l:Nat}{lb:LoopState->Option Code->LB}{b:XC}{Q:LV->Mem->Prop}{pend:Option Code}(ha:At M l (lb .ready pend))(h:∀ M',Upd M l (lb .busy pend) M'->M'.next=M.next->At M' l (lb .busy pend)->W .det P fn (some l) sz b E ms M' (KRound l lb Q)):KAssign P fn sz l lb b Q .norm E ms M:=⟨rfl,pend,ha,h⟩
theorem zop{l:Nat}{lb:LoopState->Option Code->LB}{Q:LV->Mem->Prop}{st:LoopState}{pend:Option Code}(ha:At M l (lb st pend))(h:∀ M',Upd M l (lb .ready none) M'->M'.next=M.next->At M' l (lb .ready none)->Q (.bool true) M'):KRound l lb Q .norm E ms M:=⟨st,pend,ha,h⟩
theorem zdl{l:Nat}{lb:LoopState->Option Code->LB}{Q:LV->Mem->Prop}{st:LoopState}{pend:Option Code}(ha:At M l (lb st pend))(h:∀ M',Upd M l (lb .done (some .ret)) M'->M'.next=M.next->At M' l (lb .done (some .ret))->Q (.bool false) M'):KRound l lb Q .ret E ms M:=⟨st,pend,ha,h⟩
def Yields(P:Program)[Orc P](gf:FuncId)(fi ca:List LV)(S:Nat->Prop)(xs:List (List LV))(M0:Mem):Prop :=
 ∀(l:Nat) (A:Nat->Prop) (I:Nat->Mem->Prop) (D:Mem->Prop),
  (∀ i,A i->i < M0.next)->(∀ i,S i->¬ A i) ->
  (∀ k M M',I k M->M.next<=M'.next->(∀ i,i < M0.next->M'.get i=M.get i)->I k M') ->
  (∀ M M',D M->M.next<=M'.next->(∀ i,i < M0.next->M'.get i=M.get i)->D M') ->
  (∀ k x,xs[k]?=some x->∀ M,M0.next<=M.next->I k M->RoundOk P l x M fun v M'=>Keep A M M' /\ ((v=.bool true /\ I (k+1) M') ∨(v=.bool false /\ D M'))) ->
  I 0 M0->ze P gf (fi ++ [.func (.yield l) [] []] ++ ca) M0 fun _ M'=>Keep A M0 M' /\ (I xs.length M' ∨ D M')
end
abbrev I(n:Int):LV:=.int .i64 n
theorem zep{X Y:Prop}[Decidable X][Decidable Y](h:X ↔ Y):packed [LV.bool (decide X)]=LV.bool (decide Y):=congrArg LV.bool (decide_eq_decide.2 h)
theorem lb_f{Y:Prop}[Decidable Y](h:¬ Y):packed [LV.bool false]=LV.bool (decide Y):=congrArg LV.bool (decide_eq_false h).symm
theorem lb_t{Y:Prop}[Decidable Y](h:Y):packed [LV.bool true]=LV.bool (decide Y):=congrArg LV.bool (decide_eq_true h).symm
theorem resN{E:Env}{M:Mem}{t n i o:Nat}{l:List LV}{rs:List XR}{vs:List LV}(h:look E t=some (.ptr (some (i,o))))(hv:Rd M i o n l)(hr:ResX E M rs vs):ResX E M (.cellN t n :: rs) (.agg l :: vs):=.cellN h hv.1 hr
end PvL
end
section
namespace PvL
set_option linter.unusedSectionVars false
open Go
variable {μ:Md}
section
variable {M M' M0:Mem} {i j n o:Nat} {lb lb':LB} {F G:Nat->Prop}
theorem At.same(ha:At M i lb)(hle:M.next<=M'.next)(h:M'.get i=M.get i):At M' i lb:=⟨by rw[h];exact ha.1,Nat.lt_of_lt_of_le ha.2 hle⟩
theorem At.lt(ha:At M i lb):i < M.next:=ha.2
theorem Keep.refl(F:Nat->Prop)(M:Mem):Keep F M M:=⟨Nat.le_refl _,fun _ _ _=>rfl⟩
theorem Keep.trans(h:Keep F M0 M)(h':Keep G M M')(hg:∀ i,G i->F i ∨ M0.next<=i):Keep F M0 M' :=
 ⟨Nat.le_trans h.le h'.le,fun i hi hf=>by
  rw[h'.old i (Nat.lt_of_lt_of_le hi h.le) (fun hgi=>(hg i hgi).elim hf (fun hl=>absurd hi (by omega)))]
  exact h.old i hi hf⟩
theorem Keep.weaken(h:Keep F M M')(hg:∀ i,F i->G i):Keep G M M':=⟨h.le,fun i hi hf=>h.old i hi fun hF=>hf (hg i hF)⟩
theorem Keep.new(h:Keep F M0 M)(h':New M n lb M'):Keep F M0 M' :=
 ⟨by rw[h'.next];exact Nat.le_succ_of_le h.le,fun i hi hf=>by rw[h'.grow.old i (Nat.lt_of_lt_of_le hi h.le)];exact h.old i hi hf⟩
theorem Keep.upd(h:Keep F M0 M)(h':Upd M i lb M')(hi:F i ∨ M0.next<=i):Keep F M0 M' :=
 ⟨by rw[h'.next];exact h.le,fun j hj hf=>by
  rw[z6n h' (fun e=>by subst e;exact hi.elim hf (fun hl=>absurd hj (by omega)))];exact h.old j hj hf⟩
theorem Keep.grow(h:Keep F M0 M)(h':Grow M M'):Keep F M0 M' :=
 ⟨Nat.le_trans h.le h'.le,fun i hi hf=>by rw[h'.old i (Nat.lt_of_lt_of_le hi h.le)];exact h.old i hi hf⟩
theorem Keep.to_grow(h:Keep F M0 M)(hF:∀ i,F i->M0.next<=i):Grow M0 M:=⟨h.le,fun i hi=>h.old i hi fun hf=>absurd (hF i hf) (by omega)⟩
theorem Grow.to_keep(h:Grow M M')(F:Nat->Prop):Keep F M M':=⟨h.le,fun i hi _=>h.old i hi⟩
theorem Keep.at{F:Nat->Prop}(h:Keep F M M')(ha:At M i lb)(hf:¬ F i):At M' i lb:=ha.keep h hf
@[reducible,simp] def dnat:List Dfr->List Nat
 | []=>[]
 | .mark d :: ds=>d :: dnat ds
 | .call _ _ :: ds=>dnat ds
@[reducible,simp] def onlyMarks:List Dfr->Bool
 | []=>true
 | .mark _ :: ds=>onlyMarks ds
 | .call _ _ :: _=>false
theorem zeu:∀ {ms:List Dfr} {M:Mem},onlyMarks ms=true->(dnat ms).Nodup->(∀ d ∈ dnat ms,At M d .defr)->∃ M',Marks ms M M' /\ M'.next=M.next /\ ∀ i,i ∉ dnat ms->M'.get i=M.get i
 | [],M,_,_,_=>⟨M,rfl,rfl,fun _ _=>rfl⟩
 | .call _ _ :: _,_,ho,_,_=>by cases ho
 | .mark d :: ds,M,ho,hn,hd=>by
  have hn:(d :: dnat ds).Nodup:=hn
  have hd:∀ e ∈ d :: dnat ds,At M e .defr:=hd
  rw[List.nodup_cons] at hn
  have h1:=hd d List.mem_cons_self
  have hget:∀ i,i ≠ d->(M.upd d none).get i=M.get i:=fun i hi=>by rw[Mem.get_upd,if_neg hi]
  obtain⟨M',h3,h5,h6⟩:=zeu (ms:=ds) (M:=M.upd d none) ho hn.2 (fun e he=>by
   have k1:=hd e (List.mem_cons_of_mem _ he)
   have hne:e ≠ d:=fun h=>by subst h;exact hn.1 he
   exact⟨by rw[hget e hne];exact k1.1,by rw[Mem.next_upd];exact k1.2⟩)
  refine⟨M',⟨h1.1,h3⟩,by rw[h5,Mem.next_upd],fun i hi=>?_⟩
  have hi:i ∉ d :: dnat ds:=hi
  rw[h6 i (fun h=>hi (List.mem_cons_of_mem _ h)),hget i (fun h=>hi (by rw[h];exact List.mem_cons_self))]
structure Unmark (ms:List Nat) (M M':Mem):Prop where
 next:M'.next=M.next
 get:∀ i,i ∉ ms->M'.get i=M.get i
theorem Keep.unmark{ms:List Nat}(h:Keep F M0 M)(h':Unmark ms M M')(hms:∀ d ∈ ms,F d ∨ M0.next<=d):Keep F M0 M' :=
 ⟨by rw[h'.next];exact h.le,fun i hi hf=>by rw[h'.get i (fun hm=>(hms i hm).elim hf fun hl=>absurd hl (by omega))];exact h.old i hi hf⟩
theorem Grow.unmark{ms:List Nat}(h:Grow M0 M)(h':Unmark ms M M')(hms:∀ d ∈ ms,M0.next<=d):Grow M0 M' :=
 ⟨by rw[h'.next];exact h.le,fun i hi=>by rw[h'.get i (fun hm=>absurd (hms i hm) (by omega))];exact h.old i hi⟩
theorem At.unmark{ms:List Nat}(h':Unmark ms M M')(hi:i ∉ ms)(ha:At M i lb):At M' i lb:=ha.same (by rw[h'.next];exact Nat.le_refl _) (h'.get i hi)
end
section
variable {P:Program} [Orc P] {sz:Nat} {fn:FuncId} {E:Env} {ms:List Dfr} {M:Mem}
theorem z42{res:List XR}{Q:LV->Mem->Prop}{e:Ex}(he:e=.norm ∨ e=.ret)(hn:(dnat ms).Nodup)(hd:∀ d ∈ dnat ms,At M d .defr)
  (h:∀ M',Unmark (dnat ms) M M'->∃ vs,ResX E M' res vs /\ Q (packed vs) M') (ho:onlyMarks ms=true:=by rfl):KFun res Q e E ms M:=by
 obtain⟨M',h1,h3,h4⟩:=zeu ho hn hd
 obtain⟨vs,h5,h6⟩:=h M' ⟨h3,h4⟩
 rcases he with rfl|rfl
 ·exact⟨M',h1,vs,h5,h6⟩
 ·exact⟨M',h1,vs,h5,h6⟩
def KStep(Inv:Nat->Env->List Dfr->Mem->Prop)(n:Nat)(K:Ex->Env->List Dfr->Mem->Prop)(e:Ex)(E:Env)(ms:List Dfr)(M:Mem):Prop :=
 match e with | .norm=>∃ m,m < n /\ Inv m E ms M | .ret=>K .ret E ms M | .exit id=>K (.exit id) E ms M
theorem zi{ro:Option Nat}{b:XC}{K:Ex->Env->List Dfr->Mem->Prop}(Inv:Nat->Env->List Dfr->Mem->Prop)(hstep:∀ n E ms M,Inv n E ms M->W μ P fn ro sz b E ms M (KStep Inv n K)) :
  ∀ n E ms M,Inv n E ms M->W μ P fn ro sz (.loop b) E ms M K:=by
 intro n
 induction n using Nat.strongRecOn with
 | ind n ih =>
  intro E ms M h
  refine znk (z27 (hstep n E ms M h) fun e E ms M hk=>?_)
  cases e with
  | norm=>obtain⟨m,h1,h2⟩:=hk;exact ih m h1 E ms M h2
  | ret=>exact hk
  | exit i=>exact hk
theorem zq{Inv:Nat->Env->List Dfr->Mem->Prop}{n:Nat}{K:Ex->Env->List Dfr->Mem->Prop}(m:Nat)(hm:m < n)(h:Inv m E ms M):KStep Inv n K .norm E ms M:=⟨m,hm,h⟩
theorem zg9{Inv:Nat->Env->List Dfr->Mem->Prop}{n:Nat}{K:Ex->Env->List Dfr->Mem->Prop}(h:K .ret E ms M):KStep Inv n K .ret E ms M:=h
theorem zdm{Inv:Nat->Env->List Dfr->Mem->Prop}{n i:Nat}{K:Ex->Env->List Dfr->Mem->Prop}(h:K (.exit i) E ms M):KStep Inv n K (.exit i) E ms M:=h
end
section
variable {l:Nat} {lb:LoopState->Option Code->LB} {E:Env} {ms:List Dfr} {K:Ex->Env->List Dfr->Mem->Prop} {v:LV} {M:Mem} {st:LoopState}
theorem zen(ha:At M l (lb st none))(hst:st ≠ .busy)(h:∀ M',Upd M l (lb .exhausted none) M'->M'.next=M.next->At M' l (lb .exhausted none)->K .norm E ms M'):KIter l lb E ms K v M:=⟨st,none,ha,hst,h⟩
theorem zg6(ha:At M l (lb st (some .ret)))(hst:st ≠ .busy)(h:∀ M',Upd M l (lb .exhausted (some .ret)) M'->M'.next=M.next->At M' l (lb .exhausted (some .ret))->K .ret E ms M'):KIter l lb E ms K v M:=⟨st,some .ret,ha,hst,h⟩
end
def MkAt(V:Nat->LV)(lb:LB)(M:Mem)(w:LV)(M':Mem):Prop:=∃ p,w=V p /\ At M' p lb /\ M.next<=p /\ p < M'.next /\ Grow M M'
section
variable {P:Program} [Orc P] {sz:Nat} {E:Env} {M:Mem} {K:Env->Mem->Prop} {l:List XG} {d:Nat} {g:Option (Nat × Bool)} {st:List Mem} {k:Nat} {xs:List (Nat × Nat × (Mem->Prop))} {ld:List (XG × XK)}
theorem zjr{f:XO}{as:List XO}{gf:FuncId}{fi ca vs:List LV}{V:Nat->LV}{lb:LB}(hg:GOn E g)(hf:xval E f=some (.func (.func gf) fi ca))(has:z14 E as=some vs)(h:ze P gf (fi ++ vs ++ ca) M (MkAt V lb M))
  (hk:∀ p M',At M' p lb->M.next<=p->p < M'.next->Grow M M'->M.next<=M'.next->XW μ P sz l ((d,V p) :: E) M' K):XW μ P sz (⟨some d,.call f as,g⟩ :: l) E M K :=
 z97 hg hf has (Q:=MkAt V lb M) h fun w M' ⟨p,h1,h2,h3,h4,h5⟩=>by subst h1;exact hk p M' h2 h3 h4 h5 h5.le
end
end PvL
end
section
namespace PvL
set_option linter.unusedSectionVars false
set_option linter.unusedVariables false
open Go
variable {μ:Md}
structure Kill (M:Mem) (j:Nat) (n:Nat) (lb:LB) (M':Mem):Prop where
 eq:M'=(M.upd j none).push lb
 name:n=M.next
section
variable {M M' M0:Mem} {i j n o:Nat} {lb lb':LB} {F G:Nat->Prop}
theorem Kill.next(h:Kill M j n lb M'):M'.next=M.next+1:=by rw[h.eq];show(M.upd j none).next+1=_;rw[Mem.next_upd]
theorem Kill.same(h:Kill M j n lb M'):At M' n lb:=by
 refine⟨?_,by rw[h.next,h.name];omega⟩
 rw[h.eq,h.name,Mem.get_push,Mem.next_upd,if_pos rfl]
theorem Kill.keep(h:Kill M j n lb M'):Keep (fun i=>i=j) M M':=by
 refine⟨by rw[h.next];omega,fun i hi hne=>?_⟩
 rw[h.eq,Mem.get_push,Mem.next_upd,if_neg (by omega),Mem.get_upd,if_neg hne]
theorem Keep.to_grow'{M1:Mem}(h:Grow M0 M)(h':Keep F M M1)(hF:∀ i,F i->M0.next<=i):Grow M0 M1 :=
 ⟨Nat.le_trans h.le h'.le,fun i hi=>by rw[h'.old i (Nat.lt_of_lt_of_le hi h.le) (fun hf=>absurd (hF i hf) (by omega))];exact h.old i hi⟩
end
theorem za5{n:Nat}{l:List LV}(h:n<=l.length):take' n l=some (l.take n):=z1z.2 ⟨h,rfl⟩
theorem z6y{sz n i o:Nat}{f:Bool}{e len:Nat}{M:Mem}{own:Bool}{cs:List LV}{ty:TypeId}(ha:At M i (.cells own cs ty))(h:o+n*sz<=cs.length) :
  z0l sz n (.slice (some (i,o)) len f e) M=some ((cs.drop o).take (n*sz)):=by
 show ifb (Nat.beq n 0) (some []) (loadN M i o (n*sz))=_
 by_cases hn:n=0
 ·subst hn
  rw[show Nat.beq 0 0=true from rfl,z07,Nat.zero_mul,List.take_zero]
 ·rw[show Nat.beq n 0=false by cases hb:Nat.beq n 0 with|false=>rfl|true=>exact absurd (Nat.eq_of_beq_eq_true hb) hn,zh]
  unfold loadN atCells
  rw[ha.1,za]
  show take' (n*sz) (drop' o cs)=_
  rw[z1o,za5 (by rw[List.length_drop];omega)]
section
variable {P:Program} [Orc P] {sz:Nat} {E:Env} {M:Mem} {K:Env->Mem->Prop} {l:List XG} {d:Nat} {g:Option (Nat × Bool)} {s x a y z':XO} {i o n t:Nat} {v:LV} {ls:List LV}
 {st:List Mem} {k:Nat} {xs:List (Nat × Nat × (Mem->Prop))} {ld:List (XG × XK)}
theorem beq0{n:Nat}(h:0 < n):Nat.beq n 0=false:=by cases hb:Nat.beq n 0 with|false=>rfl|true=>exact absurd (Nat.eq_of_beq_eq_true hb) (by omega)
theorem zec{len n by':Nat}(hb:(2*(len+n)+2048)*by'<=140737488355328):(5*(len+n) / 4+2048)*by'<=281474976710656:=by
 have:(5*(len+n) / 4+2048)*by'<=(2*(len+n)+2048)*by':=Nat.mul_le_mul_right _ (by omega)
 omega
theorem z6o{e q by':Nat}{z:List LV}{aa:Option (Nat × Nat)}{len:Nat}{f:Bool}{es n:Nat}{xv:LV}{old new:List LV}(hs:xval E s=some (.slice aa len f es))(hx:xval E x=some xv)(hn:z1k xv=some n)(h0:0 < n)
  (hb:(2*(len+n)+2048)*by'<=140737488355328) (hz:(Nat.ble 1 q && (Nat.ble 1 by' && Nat.beq z.length q))=true) (ho:z0l q len (.slice aa len f es) M=some old) (hw:z0l q n xv M=some new) (hf:zl new=true)
  (hfull:aa=none ∨ f=true):zm P (.app e q by' z s x) E M=some (.val (.slice (some (M.next,0)) (len+n) false q) (M.push (.cells true (old ++ new) (apE e)))):=by
 show ob (xval E s) _=_
 rw[hs,za,hx,za]
 show ob (z1k xv) _=_
 rw[hn,za,beq0 h0,zh,hz,Nat.ble_eq_true_of_le (zec hb)]
 show ob (z0l q len _ M) _=_
 rw[ho,za,hw,za,hf,zd]
 rcases hfull with rfl|rfl
 ·rfl
 ·cases aa<;>rfl
theorem z95{e q by':Nat}{z:List LV}{j off len n:Nat}{xv:LV}{old new cs:List LV}{ty:TypeId}(hs:xval E s=some (.slice (some (j,off)) len false q))(hx:xval E x=some xv)(hn:z1k xv=some n)(h0:0 < n)
  (hb:(2*(len+n)+2048)*by'<=140737488355328) (hz:(Nat.ble 1 q && (Nat.ble 1 by' && Nat.beq z.length q))=true) (ho:z0l q len (.slice (some (j,off)) len false q) M=some old) (hw:z0l q n xv M=some new) (hf:zl new=true)
  (ha:At M j (.cells true cs ty)) (hty:(Nat.beq ty e || Nat.beq ty (apE e))=true:=by rfl):zm P (.app e q by' z s x) E M=some (.val (.slice (some (M.next,0)) (len+n) false q) ((M.upd j none).push (.cells true (old ++ new) (apE e)))):=by
 show ob (xval E s) _=_
 rw[hs,za,hx,za]
 show ob (z1k xv) _=_
 rw[hn,za,beq0 h0,zh,hz,Nat.ble_eq_true_of_le (zec hb)]
 show ob (z0l q len _ M) _=_
 rw[ho,za,hw,za,hf,zd]
 show guard' (Nat.beq q q) (atCells M j _)=_
 rw[show Nat.beq q q=true by simp,zd]
 unfold atCells
 rw[ha.1,za]
 show guard' (true && (Nat.beq ty e || Nat.beq ty (apE e))) _=_
 rw[hty,Bool.and_self,zd]
 show some (R1.val (.slice (some ((M.upd j none).next,0)) _ _ _) _)=_
 rw[Mem.next_upd]
theorem z96{q by':Nat}{z:List LV}{nl nc:Nat}{k1 k2:IntKind}(hx:xval E x=some (.int k1 (nl:Int)))(hy:xval E y=some (.int k2 (nc:Int)))(h1:nl<=nc)(h2:by' * nc<=140737488355328)(h3:nc<=4294967296) :
  zm P (.mksl t q by' z x y) E M=some (.val (.slice (some (M.next,0)) nl (Nat.beq nl nc) q) (M.push (.cells true (rep nl z) t))):=by
 show ob (xval E x) _=_
 rw[hx,za,hy,za]
 show guard' (Nat.ble nl nc && (Nat.ble (by' * nc) 140737488355328 && Nat.ble nc 4294967296)) _=_
 rw[Nat.ble_eq_true_of_le h1,Nat.ble_eq_true_of_le h2,Nat.ble_eq_true_of_le h3];rfl
theorem z7c{i:XI}{v:LV}{M':Mem}(hg:GOn E g)(hs:zm P i E M=some (.val v M'))(hk:XW μ P sz l ((d,v) :: E) M' K):XW μ P sz (⟨some d,i,g⟩ :: l) E M K:=z64 hg hs hk
theorem zbv{i:XI}{v:LV}{M':Mem}(hg:GOn E g)(hs:zm P i E M=some (.val v M'))(hk:XD P sz ld ((d,v) :: E) M' (M' :: st) (k+1) xs K):XD P sz ((⟨some d,i,g⟩,.anchor) :: ld) E M st k xs K:=zjs hg hs hk
end
def Put1(v:LV)(p:Nat)(lb:LB)(M:Mem)(w:LV)(M':Mem):Prop:=w=v /\ Keep (fun i=>i=p) M M' /\ At M' p lb
section
variable {P:Program} [Orc P] {sz:Nat} {E:Env} {M:Mem} {K:Env->Mem->Prop} {l:List XG} {d:Nat} {g:Option (Nat × Bool)} {st:List Mem} {k:Nat} {xs:List (Nat × Nat × (Mem->Prop))} {ld:List (XG × XK)}
end
section
variable {P:Program} {κ β:Type} [DecidableEq κ] {ek:κ->LV} {ev:β->LV} {kt:TypeId}
def encM(ek:κ->LV)(ev:β->LV)(L:List (κ × β)):List (LV × LV):=L.map fun p=>(ek p.1,ev p.2)
end
def Vec{α:Type}(b sz:Nat)(ty:TypeId)(enc:α->List LV)(M:Mem)(v:LV)(l:List α):Prop :=
 (l=[] /\ v=.slice none 0 true 0) ∨ ∃ i,v=.slice (some (i,0)) l.length false sz /\ At M i (.cells true (l.flatMap enc) (apE ty)) /\ b<=i
section
variable {α:Type} {b sz:Nat} {ty:TypeId} {enc:α->List LV} {M M':Mem} {v:LV} {l:List α}
theorem Vec.nil:Vec b sz ty enc M (.slice none 0 true 0) []:=.inl ⟨rfl,rfl⟩
theorem Vec.grow(h:Vec b sz ty enc M v l)(hg:Grow M M'):Vec b sz ty enc M' v l:=h.imp id fun⟨i,h1,h2,h3⟩=>⟨i,h1,h2.grow hg,h3⟩
theorem Vec.keep{F:Nat->Prop}(h:Vec b sz ty enc M v l)(hk:Keep F M M')(hF:∀ i,F i->i < b):Vec b sz ty enc M' v l :=
 h.imp id fun⟨i,h1,h2,h3⟩=>⟨i,h1,h2.keep hk (fun hf=>by have:=hF i hf;omega),h3⟩
theorem Vec.shape(h:Vec b sz ty enc M v l):∃ a f e,v=.slice a l.length f e:=by
 rcases h with⟨rfl,rfl⟩|⟨i,rfl,_⟩
 ·exact⟨_,_,_,rfl⟩
 ·exact⟨_,_,_,rfl⟩
theorem z2m{l:List α}(henc:∀ x ∈ l,(enc x).length=sz):(l.flatMap enc).length=l.length*sz:=by
 induction l with
 | nil=>simp
 | cons x xs ih =>
  rw[List.flatMap_cons,List.length_append,henc x List.mem_cons_self,ih (fun y hy=>henc y (List.mem_cons_of_mem _ hy)),List.length_cons,Nat.add_mul,Nat.one_mul,Nat.add_comm]
theorem zg1{l:List α}(henc:∀ x ∈ l,(enc x).length=sz):∀ {k:Nat} (hk:k < l.length),((l.flatMap enc).drop (k*sz)).take sz=enc l[k]:=by
 induction l with
 | nil=>intro k hk;cases hk
 | cons x xs ih =>
  intro k hk
  have hx:=henc x List.mem_cons_self
  cases k with
  | zero =>
   rw[Nat.zero_mul,List.drop_zero,List.flatMap_cons,List.take_append_of_le_length (by omega),List.take_of_length_le (by omega)];rfl
  | succ k =>
   rw[List.flatMap_cons,Nat.add_mul,Nat.one_mul,Nat.add_comm,<- List.drop_drop,List.drop_append_of_le_length (by omega),List.drop_of_length_le (l:=enc x) (by omega),List.nil_append]
   exact ih (fun y hy=>henc y (List.mem_cons_of_mem _ hy)) (by simpa using hk)
theorem z8r{own:Bool}{i:Nat}(ha:At M i (.cells own (l.flatMap enc) ty))(henc:∀ x ∈ l,(enc x).length=sz){k:Nat}(hk:k < l.length):Rd M i (0+k*sz) sz (enc l[k]):=by
 refine Rd.of_at ha ?_
 have hle:k*sz+sz<=l.length*sz:=by
  have:(k+1)*sz<=l.length*sz:=Nat.mul_le_mul_right _ hk
  rw[Nat.add_mul,Nat.one_mul] at this;exact this
 rw[z1o,Nat.zero_add,za5 (by rw[List.length_drop,z2m henc];omega),zg1 henc hk]
theorem Vec.rd(h:Vec b sz ty enc M v l)(henc:∀ x ∈ l,(enc x).length=sz):∃ a f e,v=.slice a l.length f e /\ (l=[] ∨ ∃ i o,a=some (i,o) /\ ∀ k (hk:k < l.length),Rd M i (o+k*sz) sz (enc l[k])):=by
 rcases h with⟨rfl,rfl⟩|⟨i,rfl,h2,h3⟩
 ·exact⟨_,_,_,rfl,.inl rfl⟩
 ·exact⟨_,_,_,rfl,.inr ⟨i,0,rfl,fun k hk=>z8r h2 henc hk⟩⟩
theorem z4p:∀ {a c:List LV},zl (a ++ c)=(zl a && zl c)
 | [],c=>by rw[List.nil_append];rfl
 | x :: xs,c=>by
  show ifb x.flat (zl (xs ++ c)) false=(ifb x.flat (zl xs) false && zl c)
  rw[z4p]
  cases x.flat<;>rfl
theorem z2j{l:List α}(h:∀ x ∈ l,zl (enc x)=true):zl (l.flatMap enc)=true:=by
 induction l with
 | nil=>rfl
 | cons x xs ih=>rw[List.flatMap_cons,z4p,h x List.mem_cons_self,ih (fun y hy=>h y (List.mem_cons_of_mem _ hy))];rfl
theorem Vec.app{P:Program}[Orc P]{E:Env}{s x:XO}{by':Nat}{z:List LV}{l':List α}{xv:LV}(h:Vec b sz ty enc M v l)(hs:xval E s=some v)(hx:xval E x=some xv)(hn:z1k xv=some l'.length)(h0:0 < l'.length)
  (hb:(2*(l.length+l'.length)+2048)*by'<=140737488355328) (hz:(Nat.ble 1 sz && (Nat.ble 1 by' && Nat.beq z.length sz))=true) (hw:z0l sz l'.length xv M=some (l'.flatMap enc))
  (henc:∀ x,(enc x).length=sz) (hfl:∀ x,zl (enc x)=true) (hbM:b<=M.next) :
  ∃ v' M',zm P (.app ty sz by' z s x) E M=some (.val v' M') /\ Vec b sz ty enc M' v' (l ++ l') /\ M'.next=M.next+1 /\ Keep (fun i=>b<=i /\ ∃ o n f e,v=.slice (some (i,o)) n f e) M M':=by
 have hf:=z2j (l:=l') (enc:=enc) (fun x _=>hfl x)
 rcases h with⟨rfl,rfl⟩|⟨i,rfl,h2,h3⟩
 ·refine⟨_,_,z6o hs hx hn h0 (by simpa using hb) hz rfl hw hf (.inl rfl),.inr ⟨M.next,?_,?_,hbM⟩,rfl,?_⟩
  ·rw[List.nil_append,Nat.zero_add]
  ·rw[List.nil_append,List.nil_append];exact⟨by rw[Mem.get_push,if_pos rfl],Nat.lt_succ_self _⟩
  ·have hN:New M M.next (.cells true ([] ++ l'.flatMap enc) (apE ty)) (M.push (.cells true ([] ++ l'.flatMap enc) (apE ty))):=⟨rfl,rfl⟩
   exact hN.grow.to_keep _
 ·have ho:z0l sz l.length (.slice (some (i,0)) l.length false sz) M=some (l.flatMap enc):=by
   rw[z6y h2 (by rw[z2m (fun x _=>henc x)];omega),List.drop_zero,List.take_of_length_le (by rw[z2m (fun x _=>henc x)];omega)]
  have hK:Kill M i M.next (.cells true (l.flatMap enc ++ l'.flatMap enc) (apE ty)) ((M.upd i none).push (.cells true (l.flatMap enc ++ l'.flatMap enc) (apE ty))):=⟨rfl,rfl⟩
  refine⟨_,_,z95 hs hx hn h0 hb hz ho hw hf h2 (by rw[show Nat.beq (apE ty) (apE ty)=true by simp,Bool.or_true]),.inr ⟨M.next,by rw[List.length_append],?_,hbM⟩,hK.next,hK.keep.weaken fun j hj=>?_⟩
  ·rw[List.flatMap_append];exact hK.same
  ·subst hj;exact⟨h3,_,_,_,_,rfl⟩
end
end PvL
end
section
namespace PvL
set_option linter.unusedSectionVars false
set_option linter.unusedVariables false
open Go
variable {μ:Md}
def shlZ(a b:Int):Int:=a*((2 ^ b.toNat:Nat):Int)
def shrZ(a b:Int):Int:=a / ((2 ^ b.toNat:Nat):Int)
def andZ(a b:Int):Int:=((a.toNat &&& b.toNat:Nat):Int)
def orZ(a b:Int):Int:=((a.toNat ||| b.toNat:Nat):Int)
def andnZ(a b:Int):Int:=a - andZ a b
theorem z23{n:Nat}(h:n < 2 ^ 64):(BitVec.ofInt 64 (n:Int)).toNat=n:=by
 rw[BitVec.ofInt_natCast,BitVec.toNat_ofNat,Nat.mod_eq_of_lt h]
theorem z60{n:Int}(h:-9223372036854775808<=n /\ n<=9223372036854775807):mkI .i64 (wr .i64 n)=some (.int .i64 n):=by
 rw[z1a,z2v,z4a h]
section
variable {P:Program} {E:Env} {M:Mem} {x y:XO} {a b:Int}
theorem zsj(hx:xval E x=some (.int .i64 a))(hy:xval E y=some (.int .i64 b))(ha:0<=a /\ a<=4294967296)(hb:0<=b /\ b<=4294967296):zm P (.bin .and x y) E M=some (.val (.int .i64 (andZ a b)) M):=by
 obtain⟨m,rfl⟩:=Int.eq_ofNat_of_zero_le ha.1
 obtain⟨n,rfl⟩:=Int.eq_ofNat_of_zero_le hb.1
 show ob (xval E x) _=_
 rw[hx,za,hy,za]
 show guard' true (ob (mkI .i64 (wr .i64 (BitVec.ofInt 64 (m:Int) &&& BitVec.ofInt 64 (n:Int)).toNat)) _)=_
 have h1:(BitVec.ofInt 64 (m:Int) &&& BitVec.ofInt 64 (n:Int)).toNat=m &&& n:=by rw[BitVec.toNat_and,z23 (by omega),z23 (by omega)]
 have h2:m &&& n<=m:=Nat.and_le_left
 rw[h1,zd,z60 (by omega),za];rfl
theorem ztu{m n:Nat}(hm:m < 4294967296)(hn:n < 4294967296):m ||| n < 4294967296:=Nat.or_lt_two_pow (n:=32) hm hn
theorem zu9(hx:xval E x=some (.int .i64 a))(hy:xval E y=some (.int .i64 b))(ha:0<=a /\ a < 4294967296)(hb:0<=b /\ b < 4294967296):zm P (.bin .or x y) E M=some (.val (.int .i64 (orZ a b)) M):=by
 obtain⟨m,rfl⟩:=Int.eq_ofNat_of_zero_le ha.1
 obtain⟨n,rfl⟩:=Int.eq_ofNat_of_zero_le hb.1
 show ob (xval E x) _=_
 rw[hx,za,hy,za]
 show guard' true (ob (mkI .i64 (wr .i64 (BitVec.ofInt 64 (m:Int) ||| BitVec.ofInt 64 (n:Int)).toNat)) _)=_
 have h1:(BitVec.ofInt 64 (m:Int) ||| BitVec.ofInt 64 (n:Int)).toNat=m ||| n:=by rw[BitVec.toNat_or,z23 (by omega),z23 (by omega)]
 have h2:m ||| n < 4294967296:=ztu (by omega) (by omega)
 rw[h1,zd,z60 (by omega),za];rfl
theorem zrn{b:Nat}(h:b<=20):1<=2 ^ b /\ 2 ^ b<=1048576:=⟨Nat.one_le_two_pow,by have:=Nat.pow_le_pow_right (n:=2) (by omega) h;omega⟩
theorem znj(ha:0<=a /\ a<=1000000)(hb:0<=b /\ b<=20):0<=shlZ a b /\ shlZ a b<=1048576000000:=by
 have hp:=zrn (b:=b.toNat) (by omega)
 have:=znc (a:=a) (b:=((2 ^ b.toNat:Nat):Int)) (A:=1000000) (B:=1048576) (by omega) (by omega)
 unfold shlZ
 have h0:0<=a*((2 ^ b.toNat:Nat):Int):=Int.mul_nonneg ha.1 (by omega)
 omega
theorem zsv(hx:xval E x=some (.int .i64 a))(hy:xval E y=some (.int .i64 b))(ha:0<=a /\ a<=1000000)(hb:0<=b /\ b<=20):zm P (.bin .shl x y) E M=some (.val (.int .i64 (shlZ a b)) M):=by
 have hbd:=znj ha hb
 obtain⟨n,rfl⟩:=Int.eq_ofNat_of_zero_le hb.1
 show ob (xval E x) _=_
 rw[hx,za,hy,za]
 show guard' true (ob (mkI .i64 (wr .i64 (a*((2 ^ (Nat.min n 64):Nat):Int)))) _)=_
 have hm:Nat.min n 64=n:=Nat.min_eq_left (by omega)
 rw[hm,zd]
 have e:a*((2 ^ n:Nat):Int)=shlZ a n:=rfl
 rw[e,z60 (by omega),za];rfl
theorem zsw(hx:xval E x=some (.int .i64 a))(hy:xval E y=some (.int .i64 b))(ha:0<=a /\ a<=1000000000)(hb:0<=b /\ b<=20):zm P (.bin .shr x y) E M=some (.val (.int .i64 (shrZ a b)) M):=by
 obtain⟨n,rfl⟩:=Int.eq_ofNat_of_zero_le hb.1
 show ob (xval E x) _=_
 rw[hx,za,hy,za]
 show guard' true (ob (mkI .i64 (a.fdiv ((2 ^ (Nat.min n 64):Nat):Int))) _)=_
 have hm:Nat.min n 64=n:=Nat.min_eq_left (by omega)
 rw[hm,zd,z1a,za,Int.fdiv_eq_ediv_of_nonneg _ (Int.natCast_nonneg _)];rfl
end
section
variable {α:Type} {P:Program} [Orc P]
structure Taker (P:Program) [Orc P] (items:List α) (R:α->List LV->(Nat->Prop)->Mem->Prop) (l:Nat) (A Wr:Nat->Prop) (I:List α->(Nat->Prop)->Mem->Prop) (D:(Nat->Prop)->Mem->Prop) (N0:Nat):Prop where
 lt:∀ i,A i->i < N0
 stab:∀ d T M M',I d T M->M.next<=M'.next->(∀ i,(i < N0 /\ ¬ Wr i) ∨ T i->M'.get i=M.get i)->I d T M'
 stabD:∀ T M M',D T M->M.next<=M'.next->(∀ i,(i < N0 /\ ¬ Wr i) ∨ T i->M'.get i=M.get i)->D T M'
 step:∀ d x rest v (U T:Nat->Prop) M,items=d ++ x :: rest->R x v U M->N0<=M.next->(∀ i,T i->N0<=i /\ i < M.next)->(∀ i,U i->N0<=i /\ i < M.next /\ ¬ T i)->I d T M ->
  RoundOk P l v M fun w M'=>Keep (fun i=>A i ∨ T i ∨ U i) M M' /\ ∃ T':Nat->Prop,(∀ i,T' i->(T i ∨ U i ∨ M.next<=i) /\ i < M'.next) /\ ((w=.bool true /\ I (d ++ [x]) T' M') ∨(w=.bool false /\ D T' M'))
def YieldsS(P:Program)[Orc P](gf:FuncId)(fi ca:List LV)(S Wr:Nat->Prop)(Fin:Mem->Prop)(items:List α)(R:α->List LV->(Nat->Prop)->Mem->Prop)(M0:Mem):Prop :=
 ∀(l:Nat) (A:Nat->Prop) (I:List α->(Nat->Prop)->Mem->Prop) (D:(Nat->Prop)->Mem->Prop),
  Taker P items R l A Wr I D M0.next->(∀ i,S i->¬ A i)->I [] (fun _=>False) M0 ->
  ze P gf (fi ++ [.func (.yield l) [] []] ++ ca) M0 fun _ M'=>Keep (fun i=>A i ∨ Wr i) M0 M' /\ Fin M' /\ ∃ T':Nat->Prop,(∀ i,T' i->M0.next<=i /\ i < M'.next) /\ (I items T' M' ∨ D T' M')
def Took(A Wr T:Nat->Prop)(Fin:Mem->Prop)(I:List α->(Nat->Prop)->Mem->Prop)(D:(Nat->Prop)->Mem->Prop)(d:List α)(M:Mem)(v:LV)(M':Mem):Prop :=
 Keep (fun i=>A i ∨ T i ∨ Wr i) M M' /\ Fin M' /\ ∃ T':Nat->Prop,(∀ i,T' i->(T i ∨ M.next<=i) /\ i < M'.next) /\ ((v=.bool true /\ I d T' M') ∨(v=.bool false /\ D T' M'))
end
section
variable {M M' M0:Mem} {i j n o k:Nat} {lb lb':LB} {F:Nat->Prop} {l:List LV} {v:LV}
end
class IsSl (P:Program) (t:TypeId):Prop where
 h:∃ e,P.underlying t=some (.slice e)
section
variable {P:Program} [Orc P] {t:TypeId} [hs:IsSl P t] {E:Env} {M:Mem} {x:XO} {a:Nat × Nat} {n n':Nat} {f f':Bool} {e e':Nat}
theorem zn5(a:Option (Nat × Nat)):eqV P t (.slice a n f e) (.slice none n' f' e')=some a.isNone:=by
 obtain⟨et,ht⟩:=hs.h
 show ifb false none (eqL P Op.maxDepth t _ _)=_
 rw[zh]
 show eqL P (Op.maxDepth - 1+1) t _ _=_
 unfold eqL
 rw[ht]
 cases a<;>rfl
theorem zpu(hx:xval E x=some (.slice (some a) n f e)):zm P (.eqg false t x (.c (.slice none n' f' e'))) E M=some (.val (.bool false) M):=by
 show ob (xval E x) _=_
 rw[hx,za]
 show ob (xval E (.c _)) _=_
 rw[show xval E (.c (.slice none n' f' e'))=some (.slice none n' f' e') from rfl,za]
 show guard' true (ob (eqV P t (.slice (some a) n f e) (.slice none n' f' e')) _)=_
 rw[zn5,zd,za];rfl
theorem zmk(hx:xval E x=some (.slice none n f e)):zm P (.eqg false t x (.c (.slice none n' f' e'))) E M=some (.val (.bool true) M):=by
 show ob (xval E x) _=_
 rw[hx,za]
 show ob (xval E (.c _)) _=_
 rw[show xval E (.c (.slice none n' f' e'))=some (.slice none n' f' e') from rfl,za]
 show guard' true (ob (eqV P t (.slice none n f e) (.slice none n' f' e')) _)=_
 rw[zn5,zd,za];rfl
end
section
variable {P:Program} [Orc P] {sz:Nat} {E:Env} {M:Mem} {K:Env->Mem->Prop} {l:List XG} {d:Nat} {g:Option (Nat × Bool)} {s x:XO} {st:List Mem} {k:Nat} {xs:List (Nat × Nat × (Mem->Prop))} {ld:List (XG × XK)}
 {e q by':Nat} {z:List LV} {aa:Option (Nat × Nat)} {len:Nat} {f:Bool} {es n:Nat} {xv:LV} {old new:List LV} {j off:Nat} {cs:List LV} {ty:TypeId}
theorem zcw(hg:GOn E g)(hs:xval E s=some (.slice aa len f es))(hx:xval E x=some xv)(hn:z1k xv=some n)(h0:0 < n)
  (hb:(2*(len+n)+2048)*by'<=140737488355328) (hz:(Nat.ble 1 q && (Nat.ble 1 by' && Nat.beq z.length q))=true) (ho:z0l q len (.slice aa len f es) M=some old) (hw:z0l q n xv M=some new) (hf:zl new=true) (hfull:aa=none ∨ f=true)
  (hk:∀ m M',New M m (.cells true (old ++ new) (apE e)) M'->m=M.next->M'.next=M.next+1->XW μ P sz l ((d,.slice (some (m,0)) (len+n) false q) :: E) M' K):XW μ P sz (⟨some d,.app e q by' z s x,g⟩ :: l) E M K :=
 z7c hg (z6o hs hx hn h0 hb hz ho hw hf hfull) (hk _ _ ⟨rfl,rfl⟩ rfl rfl)
end
end PvL
namespace PvL
open Go
end PvL
end
section
namespace PvL
set_option linter.unusedSectionVars false
set_option linter.unusedVariables false
open Go
variable {μ:Md}
def xorZ(a b:Int):Int:=((a.toNat ^^^ b.toNat:Nat):Int)
theorem zsg{m n:Nat}(hm:m < 4294967296)(hn:n < 4294967296):m ^^^ n < 4294967296:=Nat.xor_lt_two_pow (n:=32) hm hn
def byteAt(s:ByteArray)(k:Nat):Nat:=(s.data.toList.getD k 0).toNat
theorem zh3(s:ByteArray)(k:Nat):byteAt s k < 256:=UInt8.toNat_lt _
section
variable {P:Program} {E:Env} {M:Mem} {x y:XO} {a b:Int}
theorem zsz(hx:xval E x=some (.int .i64 a))(hy:xval E y=some (.int .i64 b))(ha:0<=a /\ a < 4294967296)(hb:0<=b /\ b < 4294967296):zm P (.bin .xor x y) E M=some (.val (.int .i64 (xorZ a b)) M):=by
 obtain⟨m,rfl⟩:=Int.eq_ofNat_of_zero_le ha.1
 obtain⟨n,rfl⟩:=Int.eq_ofNat_of_zero_le hb.1
 show ob (xval E x) _=_
 rw[hx,za,hy,za]
 show guard' true (ob (mkI .i64 (wr .i64 (BitVec.ofInt 64 (m:Int) ^^^ BitVec.ofInt 64 (n:Int)).toNat)) _)=_
 have h1:(BitVec.ofInt 64 (m:Int) ^^^ BitVec.ofInt 64 (n:Int)).toNat=m ^^^ n:=by rw[BitVec.toNat_xor,z23 (by omega),z23 (by omega)]
 have h2:m ^^^ n < 4294967296:=zsg (by omega) (by omega)
 rw[h1,zd,z60 (by omega),za];rfl
theorem zpz{kk:IntKind}(hx:xval E x=some (.int .i64 a))(hy:xval E y=some (.int kk b))(ha:0<=a /\ a<=1000000)(hb:0<=b /\ b<=20):zm P (.bin .shl x y) E M=some (.val (.int .i64 (shlZ a b)) M):=by
 have hbd:=znj ha hb
 obtain⟨n,rfl⟩:=Int.eq_ofNat_of_zero_le hb.1
 show ob (xval E x) _=_
 rw[hx,za,hy,za]
 show guard' true (ob (mkI .i64 (wr .i64 (a*((2 ^ (Nat.min n 64):Nat):Int)))) _)=_
 have hm:Nat.min n 64=n:=Nat.min_eq_left (by omega)
 rw[hm,zd]
 have e:a*((2 ^ n:Nat):Int)=shlZ a n:=rfl
 rw[e,z60 (by omega),za];rfl
theorem zq0{kk:IntKind}(hx:xval E x=some (.int .i64 a))(hy:xval E y=some (.int kk b))(ha:0<=a /\ a<=1000000000)(hb:0<=b /\ b<=20):zm P (.bin .shr x y) E M=some (.val (.int .i64 (shrZ a b)) M):=by
 obtain⟨n,rfl⟩:=Int.eq_ofNat_of_zero_le hb.1
 show ob (xval E x) _=_
 rw[hx,za,hy,za]
 show guard' true (ob (mkI .i64 (a.fdiv ((2 ^ (Nat.min n 64):Nat):Int))) _)=_
 have hm:Nat.min n 64=n:=Nat.min_eq_left (by omega)
 rw[hm,zd,z1a,za,Int.fdiv_eq_ediv_of_nonneg _ (Int.natCast_nonneg _)];rfl
theorem zmj{kk:IntKind}(hx:xval E x=some (.int kk a))(h:-9223372036854775808<=a /\ a<=9223372036854775807):zm P (.conv .i64 x) E M=some (.val (.int .i64 a) M):=by
 refine z1e ?_ M
 show ob (xval E x) _=_
 rw[hx]
 show some (LV.int .i64 (IntKind.wrap .i64 a))=_
 rw[z4a h]
theorem wrap8{a:Int}(h:0<=a /\ a<=255):IntKind.wrap .u8 a=a:=by
 unfold IntKind.wrap
 simp only[IntKind.signed,IntKind.bits,Bool.false_and,Bool.false_eq_true,if_false]
 omega
theorem zmi{kk:IntKind}(hx:xval E x=some (.int kk a))(h:0<=a /\ a<=255):zm P (.conv .u8 x) E M=some (.val (.int .u8 a) M):=by
 refine z1e ?_ M
 show ob (xval E x) _=_
 rw[hx]
 show some (LV.int .u8 (IntKind.wrap .u8 a))=_
 rw[wrap8 h]
theorem zjz{s:ByteArray}{k:Nat}(hx:xval E x=some (.str s))(hy:xval E y=some (.int .i64 (k:Int)))(h:k < s.size):zm P (.idxS x y) E M=some (.val (.int .u8 (byteAt s k:Int)) M):=by
 show ob (xval E x) _=_
 rw[hx,za,hy,za]
 show ob s[k]? _=_
 have e:s[k]?=some s[k]:=by simp[h]
 rw[e,za]
 have:byteAt s k=s[k].toNat:=by
  unfold byteAt
  have hl:k < s.data.toList.length:=by simpa using h
  rw[List.getD_eq_getElem?_getD,List.getElem?_eq_getElem hl,Option.getD_some]
  rfl
 rw[this]
theorem z34{s t:ByteArray}(hx:xval E x=some (.str s))(hy:xval E y=some (.str t))(h:s.size+t.size<=140737488355328):zm P (.bin .add x y) E M=some (.val (.str (s ++ t)) M):=by
 show ob (xval E x) _=_
 rw[hx,za,hy,za]
 show guard' true (ob (guard' (Nat.ble (s.size+t.size) 140737488355328) (some (LV.str (s ++ t)))) _)=_
 rw[Nat.ble_eq_true_of_le h];rfl
def z0f(l:List UInt8):List LV:=l.map byteL
theorem z2a:∀(l:List UInt8),bytesL (z0f l)=some l
 | []=>rfl
 | b :: l=>by
  show ob (u8L (byteL b)) _=_
  have:u8L (byteL b)=some b:=by
   show guard' (kEq .u8 .u8) (some (UInt8.ofNat b.toNat))=_
   rw[z3i.2 rfl,zd]
   simp
  rw[this,za]
  show ob (bytesL (z0f l)) _=_
  rw[z2a l];rfl
theorem ze8{i o n:Nat}{f:Bool}{e:Nat}{l:List UInt8}(hx:xval E x=some (.slice (some (i,o)) n f e))(h:Rd M i o n (z0f l)):zm P (.bstr x) E M=some (.val (.str ⟨⟨l⟩⟩) M):=by
 show ob (xval E x) _=_
 rw[hx,za]
 show ob (strOf M (some (i,o)) n) _=_
 unfold strOf
 cases hb:Nat.beq n 0 with
 | true =>
  obtain rfl:=Nat.eq_of_beq_eq_true hb
  have h0:l=[]:=by
   obtain⟨h1,_⟩:=h
   unfold loadN atCells at h1
   obtain⟨lb,h2,h3⟩:=zb.1 h1
   cases lb with
   | cells own cs ty =>
    obtain⟨h4,h5⟩:=z1z.1 (show take' 0 (drop' o cs)=some (z0f l) from h3)
    cases l with
    | nil=>rfl
    | cons b l=>simp[z0f] at h5
   | _=>cases h3
  subst h0;rfl
 | false =>
  rw[zh,za]
  show ob (ob (loadN M i o n) _) _=_
  rw[h.1,za,z2a];rfl
end
end PvL
end
section
namespace PvL
set_option linter.unusedSectionVars false
set_option linter.unusedVariables false
open Go
variable {μ:Md}
theorem Rd.nth{M:Mem}{i o n j:Nat}{l:List LV}{v:LV}(h:Rd M i o n l)(hj:PvL.nth l j=some v):Rd1 M i (o+j) v:=by
 obtain⟨h1,h2⟩:=h
 refine⟨?_,h2⟩
 unfold loadN atCells at h1
 unfold load1 atCells
 obtain⟨lb,h3,h4⟩:=zb.1 h1
 rw[h3,za]
 cases lb with
 | cells own cs ty =>
  have h4:take' n (drop' o cs)=some l:=h4
  obtain⟨h5,h6⟩:=z1z.1 h4
  show PvL.nth cs (o+j)=some v
  rw[z4w] at hj ⊢
  subst h6
  rw[z1o] at hj
  have hlt:j < n:=by
   have:=(List.getElem?_eq_some_iff.1 hj).1
   rw[List.length_take] at this;omega
  rw[List.getElem?_take_of_lt hlt,List.getElem?_drop] at hj
  exact hj
 | _=>cases h4
theorem xm{p:Prop}(h:p:=by((repeat' (first|assumption|exact Rd1.of_at (by assumption) rfl|exact Rd.of_at (by assumption) rfl|exact Rd1.of_at (At.new_same (by assumption)) rfl|exact Rd.of_at (At.new_same (by assumption)) rfl|exact At.new_same (by assumption)|(with_reducible apply At.new_old (by assumption))|(with_reducible apply At.upd_ne (by assumption) (by omega))|(with_reducible apply At.grow (by assumption))|(with_reducible apply At.keep (by assumption) (by first|assumption|omega|(intro hh;dsimp only at hh;omega)))|(with_reducible apply At.kill (by assumption) (by omega))|(with_reducible apply Rd.kill (by assumption) (by omega))|(with_reducible apply Rd1.kill (by assumption) (by omega))|(with_reducible apply Rd.new_old (by assumption))|(with_reducible apply Rd1.new_old (by assumption))|(with_reducible apply Rd.upd_ne (by assumption) (by omega))|(with_reducible apply Rd1.upd_ne (by assumption) (by omega))|(with_reducible apply Rd.grow (by assumption))|(with_reducible apply Rd1.grow (by assumption))|(with_reducible apply Rd.keep (by assumption) (by first|assumption|omega|(intro hh;dsimp only at hh;omega)))|(with_reducible apply Rd1.keep (by assumption) (by first|assumption|omega|(intro hh;dsimp only at hh;omega)))));first|done|fail)):p:=h
theorem xg{p:Prop}(h:p:=by((repeat' (first|(with_reducible exact Grow.refl _)|assumption|(with_reducible refine Grow.new ?_ (by assumption))|(with_reducible refine Grow.upd ?_ (by assumption) (by omega))|(with_reducible refine Grow.kill ?_ (by assumption) (by omega))|(with_reducible refine Grow.trans ?_ (by assumption))|(with_reducible refine Keep.to_grow' ?_ (by assumption) (by intro i hi;(try dsimp only at hi);omega))));first|done|fail)):p:=h
theorem xk{p:Prop}(h:p:=by((repeat' (first|(with_reducible exact Keep.refl _ _)|assumption|(with_reducible refine Keep.new ?_ (by assumption))|(with_reducible refine Keep.upd ?_ (by assumption) (by first|(left;exact rfl)|(left;constructor<;>omega)|(left;exact⟨by omega,by omega,by omega⟩)|(left;exact⟨by omega,by omega,by omega,by omega⟩)|(left;omega)|(left;assumption)|(left;simp;done)|(right;omega)))|(with_reducible refine Keep.kill ?_ (by assumption) (by first|(left;exact rfl)|(right;omega)|(left;omega)))|(with_reducible refine Keep.grow ?_ (by assumption))|(with_reducible refine Keep.trans ?_ (by assumption) (by intro i hi;(try dsimp only at hi);first|exact .inl hi|(left;omega)|(right;omega)|omega))));first|done|fail)):p:=h
class BN (q:Bool) (T F:outParam Prop):Prop where
 t:q=true->T
 f:q=false->F
instance (priority:=low) {q:Bool}:BN q (q=true) (q=false):=⟨id,id⟩
instance {p:Prop} [Decidable p]:BN (decide p) p (¬ p):=⟨of_decide_eq_true,of_decide_eq_false⟩
instance (priority:=high) {a b:Int}:BN (decide (a<=b)) (a<=b) (b < a):=⟨of_decide_eq_true,fun h=>Int.not_le.1 (of_decide_eq_false h)⟩
instance (priority:=high) {a b:Int}:BN (decide (a < b)) (a < b) (b<=a):=⟨of_decide_eq_true,fun h=>Int.not_lt.1 (of_decide_eq_false h)⟩
instance (priority:=high) {p:Prop} [Decidable p]:BN (decide (¬ p)) (¬ p) p:=⟨of_decide_eq_true,fun h=>Decidable.not_not.1 (of_decide_eq_false h)⟩
instance {q:Bool} {T F:Prop} [BN q T F]:BN (!q) F T:=⟨fun h=>BN.f (q:=q) (by simpa using h),fun h=>BN.t (q:=q) (by simpa using h)⟩
instance {q r:Bool} {T F T' F':Prop} [BN q T F] [BN r T' F']:BN (q && r) (T /\ T') (F ∨ F'):=⟨fun h=>⟨BN.t (q:=q) (by revert h;cases q<;>simp),BN.t (q:=r) (by revert h;cases q<;>simp)⟩,fun h=>by
 cases hq:q with
 | false=>exact .inl (BN.f (q:=q) hq)
 | true=>exact .inr (BN.f (q:=r) (by rw[hq] at h;simpa using h))⟩
theorem znu{q r:Bool}{T F T' F':Prop}[BN q T F][BN r T' F'](h:(q || r)=true):T ∨ T':=by
 cases hq:q with
 | true=>exact .inl (BN.t (q:=q) hq)
 | false=>exact .inr (BN.t (q:=r) (by rw[hq] at h;simpa using h))
theorem znt{q r:Bool}{T F T' F':Prop}[BN q T F][BN r T' F'](h:(q || r)=false):F /\ F' :=
 ⟨BN.f (q:=q) (by revert h;cases q<;>simp),BN.f (q:=r) (by revert h;cases q<;>simp)⟩
instance {q r:Bool} {T F T' F':Prop} [BN q T F] [BN r T' F']:BN (q || r) (T ∨ T') (F /\ F'):=⟨znu,znt⟩
instance (priority:=high) {α:Type}:BN (Option.isSome (none:Option α)) False True:=⟨fun h=>(by cases h),fun _=>trivial⟩
instance (priority:=high) {α:Type} {a:α}:BN (Option.isSome (some a)) True False:=⟨fun _=>trivial,fun h=>(by cases h)⟩
instance (priority:=high) {q:Bool} {T F:Prop} [BN q T F]:BN (q && true) T F:=⟨fun h=>BN.t (q:=q) (by simpa using h),fun h=>BN.f (q:=q) (by simpa using h)⟩
instance (priority:=high) {q r:Bool} {T F:Prop} [BN q T F]:BN (ifb true q r) T F:=⟨fun h=>BN.t (q:=q) h,fun h=>BN.f (q:=q) h⟩
instance (priority:=high) {q r:Bool} {T F:Prop} [BN r T F]:BN (ifb false q r) T F:=⟨fun h=>BN.t (q:=r) h,fun h=>BN.f (q:=r) h⟩
class IsB (P:Program) (t:TypeId):Prop where
 h:P.underlying t=some .bool
theorem zr8{P:Program}{t:TypeId}[hb:IsB P t](p q:Bool):eqV P t (.bool p) (.bool q)=some (decide (p=q)):=by
 show ifb false none (eqL P Op.maxDepth t (.bool p) (.bool q))=_
 rw[zh]
 show eqL P (Op.maxDepth - 1+1) t (.bool p) (.bool q)=_
 unfold eqL
 rw[hb.h]
 cases p<;>cases q<;>rfl
theorem zsq{P:Program}{t:TypeId}[IsB P t]{E:Env}{M:Mem}{x y:XO}{p q:Bool}(hx:xval E x=some (.bool p))(hy:xval E y=some (.bool q)):zm P (.eqg true t x y) E M=some (.val (.bool (!(decide (p=q)))) M):=by
 show ob (xval E x) _=_
 rw[hx,za,hy,za]
 show guard' true (ob (eqV P t (.bool p) (.bool q)) _)=_
 rw[zr8,zd,za]
 cases p<;>cases q<;>rfl
theorem zsn{P:Program}{t:TypeId}[IsB P t]{E:Env}{M:Mem}{x y:XO}{p q:Bool}(hx:xval E x=some (.bool p))(hy:xval E y=some (.bool q)):zm P (.eqg false t x y) E M=some (.val (.bool (decide (p=q))) M):=by
 show ob (xval E x) _=_
 rw[hx,za,hy,za]
 show guard' true (ob (eqV P t (.bool p) (.bool q)) _)=_
 rw[zr8,zd,za]
 cases p<;>cases q<;>rfl
instance (priority:=high):BN true True False:=⟨fun _=>trivial,fun h=>(by cases h)⟩
instance (priority:=high):BN false False True:=⟨fun h=>(by cases h),fun _=>trivial⟩
section
variable {P:Program} [Orc P] {sz:Nat} {E:Env} {M:Mem} {K:Env->Mem->Prop} {l:List XG} {d:Nat} {g:Option (Nat × Bool)} {x y a:XO} {i o n t:Nat} {v:LV} {ls:List LV} {st:List Mem} {k:Nat} {xs:List (Nat × Nat × (Mem->Prop))} {ld:List (XG × XK)}
theorem x_l1(hg:GOn E g)(ha:xval E a=some (.ptr (some (i,o))))(h:Rd1 M i o v)(hk:XW μ P sz l ((d,v) :: E) M K):XW μ P sz (⟨some d,.ld1 a,g⟩ :: l) E M K:=z00 hg (zk0 ha h) hk
theorem x_lN(hg:GOn E g)(ha:xval E a=some (.ptr (some (i,o))))(h:Rd M i o n ls)(hk:XW μ P sz l ((d,.agg ls) :: E) M K):XW μ P sz (⟨some d,.ldN n a,g⟩ :: l) E M K:=z00 hg (zff ha h) hk
theorem gd(h:GOn E g:=by first|exact zrd|exact g_on rfl):GOn E g:=h
theorem gx(h:GOff E g:=by first|exact ztm rfl|exact ztn rfl):GOff E g:=h
theorem sx{p:Prop}(h:p:=by(first|((with_reducible apply zsi);exact rfl;exact rfl;omega)|((with_reducible apply zsy);exact rfl;exact rfl;omega)|((with_reducible apply zsp);exact rfl;exact rfl;omega)|((with_reducible apply zsr);exact rfl;omega)|((with_reducible apply xs_conv);exact rfl;omega)|((with_reducible apply zss);exact rfl;exact rfl;omega;omega)|((with_reducible apply zst);exact rfl;exact rfl;omega;omega)|((with_reducible apply zk2);exact rfl;exact rfl;omega;omega)|((with_reducible apply zk3);exact rfl;exact rfl;omega)|((with_reducible apply znn);exact rfl;exact rfl;omega)|((with_reducible apply zgx);exact rfl;exact rfl;omega)|((with_reducible apply zpv);exact rfl;exact rfl;omega)|((with_reducible apply zso);exact rfl;exact rfl;omega;exact rfl)|((with_reducible apply zsq);exact rfl;exact rfl)|((with_reducible apply zsn);exact rfl;exact rfl)|((with_reducible apply zsj);exact rfl;exact rfl;omega;omega)|((with_reducible apply zu9);exact rfl;exact rfl;omega;omega)|((with_reducible apply xs_andn);exact rfl;exact rfl;omega;omega)|((with_reducible apply zsv);exact rfl;exact rfl;omega;omega)|((with_reducible apply zsw);exact rfl;exact rfl;omega;omega)|((with_reducible apply zpu);exact rfl)|((with_reducible apply zmk);exact rfl)|((with_reducible apply zsz);exact rfl;exact rfl;omega;omega)|((with_reducible apply zpz);exact rfl;exact rfl;omega;omega)|((with_reducible apply zq0);exact rfl;exact rfl;omega;omega)|((with_reducible apply zmj);exact rfl;omega)|((with_reducible apply zmi);exact rfl;omega)|((with_reducible apply zjz);exact rfl;exact rfl;omega)|((with_reducible apply z34);exact rfl;exact rfl;omega)|exact zpx rfl)):p:=h
theorem rx{p:Prop}(h:p:=by((repeat' (first|exact ResX.nil|((with_reducible apply ResX.tmp);exact rfl)|((with_reducible apply resN);exact rfl)|((with_reducible apply res1);exact rfl)|assumption|exact Rd1.of_at (by assumption) rfl|exact Rd.of_at (by assumption) rfl|exact Rd1.of_at (At.new_same (by assumption)) rfl|exact Rd.of_at (At.new_same (by assumption)) rfl|exact At.new_same (by assumption)|(with_reducible apply At.new_old (by assumption))|(with_reducible apply At.upd_ne (by assumption) (by omega))|(with_reducible apply At.grow (by assumption))|(with_reducible apply At.keep (by assumption) (by first|assumption|omega|(intro hh;dsimp only at hh;omega)))|(with_reducible apply At.kill (by assumption) (by omega))|(with_reducible apply Rd.kill (by assumption) (by omega))|(with_reducible apply Rd1.kill (by assumption) (by omega))|(with_reducible apply Rd.new_old (by assumption))|(with_reducible apply Rd1.new_old (by assumption))|(with_reducible apply Rd.upd_ne (by assumption) (by omega))|(with_reducible apply Rd1.upd_ne (by assumption) (by omega))|(with_reducible apply Rd.grow (by assumption))|(with_reducible apply Rd1.grow (by assumption))|(with_reducible apply Rd.keep (by assumption) (by first|assumption|omega|(intro hh;dsimp only at hh;omega)))|(with_reducible apply Rd1.keep (by assumption) (by first|assumption|omega|(intro hh;dsimp only at hh;omega)))));first|done|fail)):p:=h
end
section
variable {P:Program} [Orc P] {fn:FuncId} {ro:Option Nat} {sz:Nat} {E:Env} {ms:List Dfr} {M:Mem} {K:Ex->Env->List Dfr->Mem->Prop}
theorem zn3{E:Env}{K:Env->Mem->Prop}{st:List Mem}{k:Nat}{xs:List (Nat × Nat × (Mem->Prop))}(ho:ObAll st k xs)(h:K E M):XD P sz [] E M st k xs K:=zti h ho
theorem wc{x:XO}{a b:XC}{q:Bool}{T F:Prop}(hx:xval E x=some (.bool q))(hbn:BN q T F)(h1:T->W μ P fn ro sz a E ms M K)(h0:F->W μ P fn ro sz b E ms M K):W μ P fn ro sz (.cond x a b) E ms M K:=zs9 hx (fun h=>h1 (hbn.t h)) (fun h=>h0 (hbn.f h))
variable {K':Env->Mem->Prop} {l:List XG} {d t:Nat} {g:Option (Nat × Bool)} {st:List Mem} {k:Nat} {xs:List (Nat × Nat × (Mem->Prop))} {ld:List (XG × XK)} {w b:Bool} {T F:Prop} {q:XI} {dd:Option Nat} {kd:XK} {c:Nat} {y z:XO}
theorem xgd(ht:look E t=some (.bool b))(hbn:BN b T F)(h1:T->XW μ P sz (⟨dd,q,some (t,w)⟩ :: l) ((t,.bool true) :: E) M K')(h0:F->XW μ P sz (⟨dd,q,some (t,w)⟩ :: l) ((t,.bool false) :: E) M K'):XW μ P sz (⟨dd,q,some (t,w)⟩ :: l) E M K':=zpp ht (fun h=>h1 (hbn.t h)) (fun h=>h0 (hbn.f h))
theorem dgd(ht:look E t=some (.bool b))(hbn:BN b T F)(h1:T->XD P sz ((⟨dd,q,some (t,w)⟩,kd) :: ld) ((t,.bool true) :: E) M st k xs K')(h0:F->XD P sz ((⟨dd,q,some (t,w)⟩,kd) :: ld) ((t,.bool false) :: E) M st k xs K'):XD P sz ((⟨dd,q,some (t,w)⟩,kd) :: ld) E M st k xs K':=zoi ht (fun h=>h1 (hbn.t h)) (fun h=>h0 (hbn.f h))
end
theorem ox{p:Prop}(h:p:=by((repeat' (first|(with_reducible first|apply zrj|apply zp2|apply zin)|((with_reducible apply zio);exact rfl)|(with_reducible apply zla)|exact xm));first|done|fail)):p:=h
theorem sv{G G':Prop}(h':G')(hs:G'->G:=by first|((with_reducible first|apply z7b|apply zpk|apply zsa|apply zjo|apply w_scope|apply zu2|apply zsb|apply zsc|apply z43|apply zi7|apply zg8|apply zi6|apply zdi|apply z1s|apply zg7|apply zdk|apply zg9|apply zdm|apply zt1))|((with_reducible first|apply z00|apply z3x);exact gd;exact sx)|((with_reducible first|apply x_l1|apply x_lN|apply ztf|apply ztg);exact gd;exact rfl;exact xm)|((with_reducible first|apply x_st|apply d_st);exact gd;exact rfl;exact rfl;exact xm;exact rfl;exact rfl;exact rfl)|((with_reducible first|apply zu5|apply ztd|apply zu6|apply zte);exact gd;exact rfl;exact rfl)|((with_reducible first|apply zu7|apply zth);exact gd;exact rfl)|((with_reducible first|apply zpq|apply d_mkmap);exact gd)|((with_reducible first|apply zu8|apply x_off0|apply ztj|apply zfw|apply d_off_new|apply zbw);exact gx)|((with_reducible apply zn3);exact ox)|((with_reducible apply zdh);exact rfl)|((with_reducible first|apply zl3|apply zop|apply zdl|apply k_round_exit);exact xm)):G:=hs h'
theorem su{G G':Prop}(h':G')(hs:G'->G:=by with_reducible first|apply znk|apply zrf):G:=hs h'
theorem sc{G G1 G2:Prop}(h1:G1)(h2:G2)(hs:G1->G2->G:=by((with_reducible apply wc);exact rfl;infer_instance)):G:=hs h1 h2
theorem sg{G G1 G2:Prop}(h1:G1)(h2:G2)(hs:G1->G2->G:=by((with_reducible first|apply xgd|apply dgd|apply xpk|apply dpk);exact rfl;infer_instance)):G:=hs h1 h2
end PvL
end
section
namespace PvL
open Go
variable {μ:Md}
set_option linter.unusedVariables false
structure NT (c:Prop):Prop
theorem nt1:NT True:=⟨⟩
theorem nt2{c:Prop}:NT c:=⟨⟩
theorem sz{c G:Prop}(h:c)(hn:¬ c:=by first|exact fun h=>h|exact fun h=>h rfl|omega):G:=absurd h hn
structure NS (c G:Prop):Prop
theorem ns1{G:Prop}:NS True G:=⟨⟩
theorem ns2{c G:Prop}:NS c G:=⟨⟩
theorem nw{P:Program}[Orc P]{c:Prop}{fn:FuncId}{ro:Option Nat}{sz:Nat}{x:XC}{E:Env}{ms:List Dfr}{M:Mem}{K:Ex->Env->List Dfr->Mem->Prop}:NS c (W μ P fn ro sz x E ms M K):=⟨⟩
theorem sy{c G:Prop}(h:c)(g:G)(hn:NS c G:=by first|(with_reducible exact nw)|((fail_if_success exact ns1);exact ns2)):G:=g
theorem ss{G G1 G2:Prop}(h1:G1)(h2:G2)(hs:G1->G2->G:=by first|((with_reducible apply wc);exact rfl;infer_instance)|((with_reducible first|apply xgd|apply dgd|apply xpk|apply dpk);exact rfl;infer_instance)):G:=hs h1 h2
theorem sq{p:Prop}(h:p:=by first|assumption|exact xm|exact rfl):p:=h
theorem kf{E:Env}{M:Mem}{res:List XR}{Q:LV->Mem->Prop}{vs:List LV}{e:Ex}(hq:Q (packed vs) M)(he:e=.ret ∨ e=.norm:=by first|exact .inl rfl|exact .inr rfl)(hr:ResX E M res vs:=by exact rx):KFun res Q e E [] M:=by
 rcases he with rfl|rfl
 ·exact zdj hr hq
 ·exact zg5 hr hq
