/-
 Rules by which a function's code is walked,symbol by symbol. No condition.
-/
import Derived.Test.YtegiepfebnaebaaGreatDoorPvF
section
namespace PvL
set_option linter.unusedSectionVars false
open Go
inductive Md where
 | det|gen
 | die (D:LV->Mem->Prop)
variable {μ:Md}

def CallOk (P:Program) [Orc P] (f:FuncId) (args:List LV) (M:Mem) (Q:LV->Mem->Prop):Prop:=∃ v M',om P (.call f args M)=some (.call v M') /\ Q v M'
def RoundOk (P:Program) [Orc P] (l:Nat) (args:List LV) (M:Mem) (Q:LV->Mem->Prop):Prop:=∃ v M',om P (.round l args M)=some (.call v M') /\ Q v M'
def AppOk (P:Program) [Orc P] (f:LV) (args:List LV) (M:Mem) (Q:LV->Mem->Prop):Prop :=
 match f with
 | .func (.func g) fi ca=>CallOk P g (fi ++ args ++ ca) M Q
 | .func (.yield l) [] []=>RoundOk P l args M Q
 | _=>False
section
variable {P:Program} [Orc P]
theorem CallOk.mono {f:FuncId} {args:List LV} {M:Mem} {Q Q':LV->Mem->Prop} (h:CallOk P f args M Q) (hq:∀ v M',Q v M'->Q' v M'):CallOk P f args M Q' :=
 let ⟨v,M',h1,h2⟩:=h;⟨v,M',h1,hq _ _ h2⟩
theorem AppOk.mono {f:LV} {args:List LV} {M:Mem} {Q Q':LV->Mem->Prop} (h:AppOk P f args M Q) (hq:∀ v M',Q v M'->Q' v M'):AppOk P f args M Q':=by
 unfold AppOk at h ⊢
 split at h
 ·exact h.mono hq
 ·exact let ⟨v,M',h1,h2⟩:=h;⟨v,M',h1,hq _ _ h2⟩
 ·exact h.elim
def RTo (P:Program) [Orc P] (r:R1) (v:LV) (M':Mem):Prop :=
 match r with
 | .val v' m'=>v'=v /\ m'=M'
 | .skip m'=>lundef=v /\ m'=M'
 | .enter f as m=>om P (.call f as m)=some (.call v M')
 | .round l as m=>om P (.round l as m)=some (.call v M')
 | .boom _ _=>False
theorem RTo.opFin {r:R1} {v:LV} {M':Mem} (h:RTo P r v M') {α:Type} (T:Tm) (d:Option Nat) (k:Tm->Mem->Option α):opFin (om P) T d r k=ob (T.put d v) fun T=>k T M':=by
 cases r with
 | val v' m'=>obtain ⟨rfl,rfl⟩:=h;rfl
 | skip m'=>obtain ⟨rfl,rfl⟩:=h;rfl
 | enter f as m=>show outCall (om P _) _=_;rw [show om P (.call f as m)=_ from h];rfl
 | round l as m=>show outCall (om P _) _=_;rw [show om P (.round l as m)=_ from h];rfl
 | boom _ _=>exact h.elim
theorem RTo.ops {r:R1} {v:LV} {M M':Mem} (h:RTo P r v M') {ro:Option Nat} {all:List Oper} {o:Oper} {os:List Oper} {T T':Tm} {ms:List Dfr} (hw:wanted all T o.guard=some true) (hd:isDefer o.op=none) (hA:opA P o.op T M=some r) (hp:T.put o.dst v=some T') :
  opsRun P ro (om P) all (o :: os) T ms M=opsRun P ro (om P) all os T' ms M':=by
 obtain ⟨dst,op,a1,a2,a3,g⟩:=o
 show ob (wanted all T g) _=_
 have hw:wanted all T g=some true:=hw
 have hd:isDefer op=none:=hd
 have hA:opA P op T M=some r:=hA
 have hp:T.put dst v=some T':=hp
 rw [hw]
 show oe (isDefer op) _ _=_
 rw [hd]
 show ob (opA P op T M) _=_
 rw [hA]
 cases r with
 | val v' m'=>obtain ⟨rfl,rfl⟩:=h;show ob (T.put dst v') _=_;rw [hp];rfl
 | skip m'=>obtain ⟨rfl,rfl⟩:=h;show ob (T.put dst lundef) _=_;rw [hp];rfl
 | enter f as m=>show outCallD (om P _) _ _=_;rw [show om P (.call f as m)=_ from h];show ob (T.put dst v) _=_;rw [hp];rfl
 | round l as m=>show outCallD (om P _) _ _=_;rw [show om P (.round l as m)=_ from h];show ob (T.put dst v) _=_;rw [hp];rfl
 | boom _ _=>exact h.elim
theorem AppOk.opFin {f:LV} {args:List LV} {M:Mem} {Q:LV->Mem->Prop} (h:AppOk P f args M Q):∃ r v M',callV f args M=some r /\ Q v M' /\ RTo P r v M':=by
 unfold AppOk at h
 split at h
 ·obtain ⟨v,M',h1,h2⟩:=h
  exact ⟨_,v,M',rfl,h2,h1⟩
 ·obtain ⟨v,M',h1,h2⟩:=h
  exact ⟨_,v,M',rfl,h2,h1⟩
 ·exact h.elim

variable {sz:Nat}
def XW (μ:Md) (P:Program) [Orc P] (sz:Nat) (l:List XG) (E:Env) (M:Mem) (K:Env->Mem->Prop):Prop :=
 match μ with
 | .det=>∀ (all os:List Oper) (T:Tm) (ro:Option Nat) (ms:List Dfr),cOps P sz all os=some l->EnvRel sz E T->∃ T' M',opsRun P ro (om P) all os T ms M=some (.code .norm T' ms M') /\ ∃ E',EnvRel sz E' T' /\ K E' M'
 | .die D=>∀ (all os:List Oper) (T:Tm) (ro:Option Nat) (ms:List Dfr),cOps P sz all os=some l->EnvRel sz E T->(∃ T' M',opsRun P ro (om P) all os T ms M=some (.code .norm T' ms M') /\ ∃ E',EnvRel sz E' T' /\ K E' M') ∨ (∃ v T' M',opsRun P ro (om P) all os T ms M=some (.boom v T' ms M') /\ D v M')
 | .gen=>∀ (ops:Array Oper) (os:List Oper) (i:Nat) (T:Tm) (ro:Option Nat) (ms:List Dfr),(∀ j,os[j]?=ops[i+j]?)->cOps P sz ops.toList os=some l->EnvRel sz E T->OmOk P ->
   OpsE P ops ro i os.length T ms M (fun e T' ms' M'=>e=.norm /\ ms'=ms /\ ∃ E',EnvRel sz E' T' /\ K E' M') (fun _ _ _ _=>False)
def GOn (E:Env):Option (Nat × Bool)->Prop|none=>True|some (d,w)=>look E d=some (.bool w)
def GOff (E:Env):Option (Nat × Bool)->Prop|none=>False|some (d,w)=>look E d=some (.bool (!w)) ∨ look E d=some lundef

theorem z1p {all os:List Oper} {g:XG} {l:List XG} (h:cOps P sz all os=some (g :: l)):∃ o os',os=o :: os' /\ cOperA P sz all o=some g /\ cOps P sz all os'=some l:=by
 cases os with
 | nil=>cases h
 | cons o os =>
  simp only [cOps] at h
  split at h
  ·rename_i g' l' h1 h2;cases h;exact ⟨o,os,rfl,h1,h2⟩
  ·cases h
theorem zbe {all:List Oper} {o:Oper} {d:Option Nat} {i:XI} {g:Option (Nat × Bool)} (h:cOper P sz all o=some ⟨d,i,g⟩):o.dst=d /\ cOp P o.op=some i /\ cGuard all o.guard=some g /\ dstIn sz d=true:=by
 unfold cOper at h
 split at h
 ·rename_i i' g' h1 h2 h3;cases h;exact ⟨rfl,h1,h2,h3⟩
 ·cases h
theorem z1o {all:List Oper} {o:Oper} {d:Option Nat} {i:XI} {g:Option (Nat × Bool)} (h:cOperA P sz all o=some ⟨d,i,g⟩):o.dst=d /\ cOpA P o.op=some i /\ cGuard all o.guard=some g /\ dstIn sz d=true:=by
 unfold cOperA at h
 split at h
 ·rename_i i' g' h1 h2 h3;cases h;exact ⟨rfl,h1,h2,h3⟩
 ·cases h
theorem za8 {o:Op} {i:XI} (h:cOpA P o=some i):isDefer o=none:=by
 cases o<;>first|rfl|cases h
theorem z4a {all:List Oper} {g:Option (Nat × Bool)} {g':Option (Nat × Bool)} (hg:cGuard all g=some g') {E:Env} {T:Tm} (h:EnvRel sz E T) (ho:GOn E g'):wanted all T g=some true:=by
 cases g with
 | none=>rfl
 | some p =>
  obtain ⟨j,w⟩:=p
  unfold cGuard at hg
  simp only at hg
  split at hg
  ·rename_i d hd
   cases hg
   show oe ((all[j]?).bind (·.dst)) _ _=_
   rw [hd,z19,h.look _ _ ho]
   show some (bEq w w)=_
   cases w<;>rfl
  ·cases hg
theorem z2x {all:List Oper} {g:Option (Nat × Bool)} {g':Option (Nat × Bool)} (hg:cGuard all g=some g') {E:Env} {T:Tm} (h:EnvRel sz E T) (ho:GOff E g'):wanted all T g=some false:=by
 cases g with
 | none=>cases hg;exact ho.elim
 | some p =>
  obtain ⟨j,w⟩:=p
  unfold cGuard at hg
  simp only at hg
  split at hg
  ·rename_i d hd
   cases hg
   show oe ((all[j]?).bind (·.dst)) _ _=_
   rw [hd,z19]
   rcases ho with ho|ho
   ·rw [h.look _ _ ho]
    show some (bEq (!w) w)=_
    cases w<;>rfl
   ·rw [h.look _ _ ho];rfl
  ·cases hg

section ops
variable {E:Env} {M:Mem} {K:Env->Mem->Prop} {l:List XG} {d:Option Nat} {i:XI} {g:Option (Nat × Bool)}
theorem zms (h:K E M):XW μ P sz [] E M K:=by
 cases μ with
 | det =>
  intro all os T ro ms hc he
  cases os with
  | nil=>exact ⟨T,M,rfl,E,he,h⟩
  | cons o os =>
   simp only [cOps] at hc
   split at hc<;>cases hc
 | die D =>
  intro all os T ro ms hc he
  cases os with
  | nil=>exact .inl ⟨T,M,rfl,E,he,h⟩
  | cons o os =>
   simp only [cOps] at hc
   split at hc<;>cases hc
 | gen =>
  intro ops os i T ro ms hos hc he hO
  cases os with
  | nil=>exact zgv ⟨rfl,rfl,E,he,h⟩
  | cons o os =>
   simp only [cOps] at hc
   split at hc<;>cases hc
theorem RTo.stepR {r:R1} {v:LV} {M':Mem} (h:RTo P r v M') {X:Option R1} (hX:X=some r) {T T':Tm} {dst:Option Tmp} (hp:T.put dst v=some T'):OpStepR (om P) X T dst T' M':=by
 subst hX
 cases r with
 | val v' m'=>obtain ⟨rfl,rfl⟩:=h;exact .val rfl hp
 | skip m'=>obtain ⟨rfl,rfl⟩:=h;exact .skip rfl hp
 | enter f as m=>exact .enter rfl h hp
 | round l as m=>exact .round rfl h hp
 | boom _ _=>exact h.elim
theorem zi0 {ops:Array Oper} {o:Oper} {os:List Oper} {i:Nat} (hos:∀ j,(o :: os)[j]?=ops[i+j]?):ops[i]?=some o /\ ∀ j,os[j]?=ops[i+1+j]? :=
 ⟨by have:=hos 0;simpa using this.symm,fun j=>by have:=hos (j+1);simp only [List.getElem?_cons_succ] at this;rw [this];congr 1;omega⟩
theorem zfv (hg:GOn E g) {r:R1} (hs:xstep P i E M=some r) {v:LV} {M':Mem}
  (hf:RTo P r v M') (hk:XW μ P sz l (putE E d v) M' K):XW μ P sz (⟨d,i,g⟩ :: l) E M K:=by
 cases μ with
 | det =>
  intro all os T ro ms hc he
  obtain ⟨o,os',rfl,h1,h2⟩:=z1p hc
  obtain ⟨h3,h4,h5,h6⟩:=z1o h1
  have h7:=z4k he h4 hs
  obtain ⟨T1,hT1,he1⟩:=he.put h6 v
  obtain ⟨T',M2,h8,h9⟩:=hk all os' T1 ro ms h2 he1
  refine ⟨T',M2,?_,h9⟩
  rw [hf.ops (z4a h5 he hg) (za8 h4) h7 (by rw [h3];exact hT1)];exact h8
 | die D =>
  intro all os T ro ms hc he
  obtain ⟨o,os',rfl,h1,h2⟩:=z1p hc
  obtain ⟨h3,h4,h5,h6⟩:=z1o h1
  have h7:=z4k he h4 hs
  obtain ⟨T1,hT1,he1⟩:=he.put h6 v
  rw [hf.ops (z4a h5 he hg) (za8 h4) h7 (by rw [h3];exact hT1)]
  exact hk all os' T1 ro ms h2 he1
 | gen =>
  intro ops os j T ro ms hos hc he hO
  obtain ⟨o,os',rfl,h1,h2⟩:=z1p hc
  obtain ⟨h3,h4,h5,h6⟩:=z1o h1
  have h7:=z4k he h4 hs
  obtain ⟨T1,hT1,he1⟩:=he.put h6 v
  obtain ⟨ho,hos'⟩:=zi0 hos
  exact zgu hO ho (z4a h5 he hg) (za8 h4) (hf.stepR h7 (by rw [h3];exact hT1)) (hk ops os' (j+1) T1 ro ms hos' h2 he1 hO)
theorem z7u (hg:GOn E g) {v:LV} {M':Mem} (hs:xstep P i E M=some (.val v M')) (hk:XW μ P sz l (putE E d v) M' K):XW μ P sz (⟨d,i,g⟩ :: l) E M K :=
 zfv hg hs ⟨rfl,rfl⟩ hk
theorem zk8 (hg:GOn E g) {M':Mem} (hs:xstep P i E M=some (.skip M')) (hk:XW μ P sz l (putE E d lundef) M' K):XW μ P sz (⟨d,i,g⟩ :: l) E M K :=
 zfv hg hs ⟨rfl,rfl⟩ hk
theorem zi9 (hg:GOff E g) (hk:XW μ P sz l (putE E d lundef) M K):XW μ P sz (⟨d,i,g⟩ :: l) E M K:=by
 cases μ with
 | det =>
  intro all os T ro ms hc he
  obtain ⟨o,os',rfl,h1,h2⟩:=z1p hc
  obtain ⟨h3,h4,h5,h6⟩:=z1o h1
  obtain ⟨T1,hT1,he1⟩:=he.put h6 lundef
  obtain ⟨T',M2,h8,h9⟩:=hk all os' T1 ro ms h2 he1
  refine ⟨T',M2,?_,h9⟩
  rw [z4r (z2x h5 he hg) (by rw [h3];exact hT1)];exact h8
 | die D =>
  intro all os T ro ms hc he
  obtain ⟨o,os',rfl,h1,h2⟩:=z1p hc
  obtain ⟨h3,h4,h5,h6⟩:=z1o h1
  obtain ⟨T1,hT1,he1⟩:=he.put h6 lundef
  rw [z4r (z2x h5 he hg) (by rw [h3];exact hT1)]
  exact hk all os' T1 ro ms h2 he1
 | gen =>
  intro ops os j T ro ms hos hc he hO
  obtain ⟨o,os',rfl,h1,h2⟩:=z1p hc
  obtain ⟨h3,h4,h5,h6⟩:=z1o h1
  obtain ⟨T1,hT1,he1⟩:=he.put h6 lundef
  obtain ⟨ho,hos'⟩:=zi0 hos
  exact zgw ho (z2x h5 he hg) (by rw [h3];exact hT1) (hk ops os' (j+1) T1 ro ms hos' h2 he1 hO)
theorem z6t (hg:GOn E g) {f:XO} {as:List XO} {fv:LV} {vs:List LV} (hf:xval E f=some fv) (has:xvals E as=some vs) {Q:LV->Mem->Prop} (h:AppOk P fv vs M Q)
  (hk:∀ v M',Q v M'->XW μ P sz l (putE E d v) M' K):XW μ P sz (⟨d,.call f as,g⟩ :: l) E M K:=by
 obtain ⟨r,v,M',h1,h2,h3⟩:=h.opFin
 refine zfv hg (r:=r) (v:=v) (M':=M') ?_ h3 (hk v M' h2)
 show ob (xvals E as) _=_
 rw [has,z0,hf];exact h1
theorem zmt {E':Env} (hs:∀ t v,look E' t=some v->look E t=some v) (h:XW μ P sz l E' M K):XW μ P sz l E M K:=by
 cases μ with
 | det=>exact fun all os T ro ms hc he=>h all os T ro ms hc (he.sub hs)
 | die D=>exact fun all os T ro ms hc he=>h all os T ro ms hc (he.sub hs)
 | gen=>exact fun ops os j T ro ms hos hc he hO=>h ops os j T ro ms hos hc (he.sub hs) hO
theorem zfw {t:Nat} {v v':LV} (ht:look E t=some v) (hv:v=v') (h:XW μ P sz l ((t,v') :: E) M K):XW μ P sz l E M K:=by
 subst hv
 refine zmt (fun u w hu=>?_) h
 have hu:(match Nat.beq t u with|true=>some v|false=>look E u)=some w:=hu
 cases hb:Nat.beq t u with
 | true=>rw [hb] at hu;obtain rfl:=Nat.eq_of_beq_eq_true hb;rw [ht];exact hu
 | false=>rw [hb] at hu;exact hu
def CallN (P:Program) [Orc P] (f:FuncId) (args:List LV) (M:Mem) (Q:LV->Mem->Prop):Prop:=(∃ fd,fnOf P f=some fd) /\ (OmOk P->CallE P f args M Q fun _ _=>False)
theorem CallN.mono {f:FuncId} {args:List LV} {M:Mem} {Q Q':LV->Mem->Prop} (h:CallN P f args M Q) (hq:∀ v M',Q v M'->Q' v M'):CallN P f args M Q':=⟨h.1,fun hO=>(h.2 hO).mono hq fun _ _ h=>h⟩
theorem zcd {t:Nat} {b:Bool} (ht:look E t=some (.bool b)) (h1:b=true->XW μ P sz l ((t,.bool true) :: E) M K) (h0:b=false->XW μ P sz l ((t,.bool false) :: E) M K):XW μ P sz l E M K:=by
 cases hb:b with
 | true=>exact zfw ht (by rw [hb]) (h1 hb)
 | false=>exact zfw ht (by rw [hb]) (h0 hb)
end ops

def ObAt (lo hi:Nat) (q:Mem->Prop):List Mem->Nat->Prop
 | [],_=>True
 | m :: ms,k=>((Nat.ble lo k && Nat.ble k hi)=true->q m) /\ ObAt lo hi q ms (k - 1)
def ObAll (st:List Mem) (k:Nat):List (Nat × Nat × (Mem->Prop))->Prop
 | []=>True
 |(lo,hi,q) :: ps=>ObAt lo hi q st k /\ ObAll st k ps
theorem zes {lo hi k:Nat} {q:Mem->Prop}:ObAt lo hi q [] k:=trivial
theorem zgo {lo hi k:Nat} {q:Mem->Prop} {m:Mem} {ms:List Mem} (h:q m) (h':ObAt lo hi q ms (k - 1)):ObAt lo hi q (m :: ms) k:=⟨fun _=>h,h'⟩
theorem zet {lo hi k:Nat} {q:Mem->Prop} {m:Mem} {ms:List Mem} (h:(Nat.ble lo k && Nat.ble k hi)=false) (h':ObAt lo hi q ms (k - 1)):ObAt lo hi q (m :: ms) k:=⟨fun h2=>(by rw [h] at h2;cases h2),h'⟩
theorem zlh {st:List Mem} {k:Nat}:ObAll st k []:=trivial
theorem zj9 {st:List Mem} {k lo hi:Nat} {q:Mem->Prop} {ps:List (Nat × Nat × (Mem->Prop))} (h:ObAt lo hi q st k) (h':ObAll st k ps):ObAll st k ((lo,hi,q) :: ps):=⟨h,h'⟩

def Cov (P:Program) [Orc P] (ps:List Pend) (xs:List (Nat × Nat × (Mem->Prop))):Prop:=∀ st k,ObAll st k xs->pendAll P st k ps=true
def XD (P:Program) [Orc P] (sz:Nat) (l:List (XG × XK)) (E:Env) (M:Mem) (st:List Mem) (k:Nat) (xs:List (Nat × Nat × (Mem->Prop))) (K:Env->Mem->Prop):Prop :=
 ∀ (all:List Oper) (ds:List Nat) (os:List Oper) (n:Nat) (T:Tm) (ps:List Pend),cDrawn P sz all ds os n=some l->EnvRel sz E T->Cov P ps xs ->
  ∃ s,drawRun P (om P) all ds os n ⟨T,M,st,k,ps⟩=some s /\ pendAll P s.st s.k s.ps=true /\ ∃ E',EnvRel sz E' s.T /\ K E' s.m
theorem z5o {all os:List Oper} {ds:List Nat} {n:Nat} {g:XG} {kd:XK} {l:List (XG × XK)} (h:cDrawn P sz all ds os n=some ((g,kd) :: l)) :
  ∃ o os',os=o :: os' /\ cOper P sz all o=some g /\ kd=cKind P all ds n o g.i /\ cDrawn P sz all ds os' (n+1)=some l:=by
 cases os with
 | nil=>cases h
 | cons o os =>
  simp only [cDrawn] at h
  split at h
  ·rename_i g' l' h1 h2;cases h;exact ⟨o,os,rfl,h1,rfl,h2⟩
  ·cases h
theorem z6g (p:Pend) (q:Mem->Prop) (hq:∀ m,q m->pendHere P p m=true):∀ (st:List Mem) (k:Nat),ObAt p.lo p.hi q st k->pendAt P p st k=true
 | [],_,_=>rfl
 | m :: ms,k,h=>by
  show (ifb (Nat.ble p.lo k && Nat.ble k p.hi) (pendHere P p m) true && pendAt P p ms (k - 1))=true
  rw [z6g p q hq ms (k - 1) h.2,Bool.and_true]
  cases hb:(Nat.ble p.lo k && Nat.ble k p.hi) with
  | true=>exact hq m (h.1 hb)
  | false=>rfl
theorem zd8 (p:Pend) (hq:∀ m,pendHere P p m=true) (st:List Mem) (k:Nat):pendAt P p st k=true :=
 z6g p (fun _=>True) (fun m _=>hq m) st k (by
  induction st generalizing k with
  | nil=>trivial
  | cons m ms ih=>exact ⟨fun _=>trivial,ih _⟩)
theorem zdf {i:XI} (h:xCalm i=true) {E:Env} {M M1:Mem} {v:LV} (hs:xstep P i E M=some (.val v M1)) (M':Mem):xstep P i E M'=some (.val v M'):=by
 cases i with
 | max xs =>
  obtain ⟨a,h1,h2⟩:=za.1 (show ob (xvals E xs) _=_ from hs)
  cases a with
  | nil=>cases h2
  | cons a as =>
   obtain ⟨b,h3,h4⟩:=za.1 (show ob (foldL max2L as a) _=_ from h2)
   cases h4
   show ob (xvals E xs) _=_
   rw [h1,z0];show ob (foldL max2L as a) _=_;rw [h3];rfl
 | min xs =>
  obtain ⟨a,h1,h2⟩:=za.1 (show ob (xvals E xs) _=_ from hs)
  cases a with
  | nil=>cases h2
  | cons a as =>
   obtain ⟨b,h3,h4⟩:=za.1 (show ob (foldL min2L as a) _=_ from h2)
   cases h4
   show ob (xvals E xs) _=_
   rw [h1,z0];show ob (foldL min2L as a) _=_;rw [h3];rfl
 | len k x =>
  obtain ⟨a,h1,h2⟩:=za.1 (show ob (xval E x) _=_ from hs)
  show ob (xval E x) _=_
  rw [h1,z0]
  cases k with
  | map=>cases h
  | str=>obtain ⟨b,h3,h4⟩:=za.1 (show ob (asStr a fun s=>mkN s.size) _=_ from h2);cases h4;show ob (asStr a fun s=>mkN s.size) _=_;rw [h3];rfl
  | sl=>obtain ⟨b,h3,h4⟩:=za.1 (show ob (asSlice a fun _ n _ _=>mkN n) _=_ from h2);cases h4;show ob (asSlice a fun _ n _ _=>mkN n) _=_;rw [h3];rfl
  | arr n=>obtain ⟨b,h3,h4⟩:=za.1 (show ob (mkN n) _=_ from h2);cases h4;show ob (mkN n) _=_;rw [h3];rfl
 | conv q x =>
  obtain ⟨a,h1,h2⟩:=za.1 (show ob (xval E x) _=_ from hs)
  obtain ⟨k,n,rfl,h3⟩:=zf.1 h2
  cases h3
  show ob (xval E x) _=_
  rw [h1];rfl
 | convS x =>
  obtain ⟨a,h1,h2⟩:=za.1 (show ob (xval E x) _=_ from hs)
  obtain ⟨n,rfl,h3⟩:=zu.1 h2
  cases h3
  show ob (xval E x) _=_
  rw [h1];rfl
 | slc n x lo hi mx =>
  obtain ⟨a,h1,h2⟩:=za.1 (show ob (xval E x) _=_ from hs)
  obtain ⟨b,h3,h4⟩:=za.1 h2
  obtain ⟨c,h5,h6⟩:=za.1 h4
  obtain ⟨d,h7,h8⟩:=za.1 h6
  obtain ⟨p,len,full,es,rfl,h9⟩:=zw.1 h8
  obtain ⟨w,h10,h11⟩:=za.1 h9
  cases h11
  show ob (xval E x) _=_
  rw [h1,z0,h3,z0,h5,z0,h7,z0]
  show ob (sliceSl n p len full es b c d) _=_
  rw [h10];rfl
 | slS x lo hi mx =>
  obtain ⟨a,h1,h2⟩:=za.1 (show ob (xval E x) _=_ from hs)
  obtain ⟨b,h3,h4⟩:=za.1 h2
  obtain ⟨c,h5,h6⟩:=za.1 h4
  obtain ⟨d,h7,h8⟩:=za.1 h6
  obtain ⟨s,rfl,h9⟩:=zu.1 h8
  obtain ⟨h10,h11⟩:=zb.1 h9
  show ob (xval E x) _=_
  rw [h1,z0,h3,z0,h5,z0,h7,z0]
  show guard' d.isNone _=_
  rw [h10,zd]
  have key:∀ {z:Option LV} {most dd:Nat} {k k':Nat->Option R1} {r r':R1},optBound z most dd k=some r->(∀ n,k n=some r->k' n=some r')->optBound z most dd k'=some r':=by
   intro z most dd k k' r r' h hk
   cases z with
   | none=>exact hk _ h
   | some z =>
    obtain ⟨q,n,rfl,h2⟩:=zf.1 (show asInt z _=some r from h)
    obtain ⟨i,rfl,h3⟩:=nat?_eq.1 h2
    obtain ⟨h4,h5⟩:=zb.1 h3
    show guard' (Nat.ble i most) _=_
    rw [h4];exact hk _ h5
  exact key h11 fun n hn=>key hn fun m hm=>by cases hm;rfl
 | _=>cases h

def KdOk (P:Program) [Orc P] (kd:XK) (E:Env) (M:Mem) (i:XI) (d:Option Nat) (r:R1) (v:LV) (M':Mem) (st:List Mem) (k:Nat) (xs:List (Nat × Nat × (Mem->Prop))) (st':List Mem) (k':Nat) (xs':List (Nat × Nat × (Mem->Prop))):Prop :=
 match kd with
 | .calm=>st'=st /\ k'=k /\ xs'=xs /\ r=R1.val v M /\ M'=M /\ d.isSome=true
 | .new=>st'=st /\ k'=k /\ xs'=xs
 | .anchor=>st'=M' :: st /\ k'=k+1 /\ xs'=xs
 | .reads lo hi=>st'=st /\ k'=k /\ M'=M /\ ∃ q:Mem->Prop,xs'=(lo,hi,q) :: xs /\ d.isSome=true /\ ∀ m,q m->xstep P i E m=some (.val v m)
section drawn
variable {E:Env} {M:Mem} {K:Env->Mem->Prop} {l:List (XG × XK)} {d:Option Nat} {i:XI} {g:Option (Nat × Bool)} {st:List Mem} {k:Nat} {xs:List (Nat × Nat × (Mem->Prop))}
theorem zm8 (ho:ObAll st k xs) (h:K E M):XD P sz [] E M st k xs K:=fun all ds os n T ps hc he hcov=>by
 cases os with
 | nil=>exact ⟨_,rfl,hcov _ _ ho,E,he,h⟩
 | cons o os =>
  simp only [cDrawn] at hc
  split at hc<;>cases hc
theorem z6s {kd:XK} (hg:GOn E g) {r:R1} (hs:xstep P i E M=some r) {v:LV} {M':Mem}
  (hf:RTo P r v M')
  {st':List Mem} {k':Nat} {xs':List (Nat × Nat × (Mem->Prop))}
  (hkd:KdOk P kd E M i d r v M' st k xs st' k' xs')
  (hk:XD P sz l (putE E d v) M' st' k' xs' K):XD P sz ((⟨d,i,g⟩,kd) :: l) E M st k xs K:=fun all ds os n T ps hc he hcov=>by
 obtain ⟨o,os',rfl,h1,h2,h2'⟩:=z5o hc
 obtain ⟨h3,h4,h5,h6⟩:=zbe h1
 have h7:=z3p he h4 hs
 obtain ⟨T1,hT1,he1⟩:=he.put h6 v
 obtain ⟨dst,op,a1,a2,a3,gd⟩:=o
 have h3:d=dst:=h3.symm
 subst h3
 have hrun:∀ (k:Tm->Mem->Option DS),opFull P (om P) T M op d k=k T1 M':=fun k=>by
  show ob (op1 P op T M) _=_
  rw [h7,z0,hf.opFin,hT1];rfl
 have hpend:∀ m,xstep P i E m=some (.val v m)->d.isSome=true->∀ lo hi,pendHere P { op:=op,T:=T,v:=dstV T1 d,lo:=lo,hi:=hi } m=true:=fun m hm hd lo hi=>by
  unfold pendHere
  have:=z3p he h4 hm
  have e:op1 P ({ op:=op,T:=T,v:=dstV T1 d,lo:=lo,hi:=hi }:Pend).op ({ op:=op,T:=T,v:=dstV T1 d,lo:=lo,hi:=hi }:Pend).T m=some (.val v m):=this
  rw [e]
  cases d with
  | none=>cases hd
  | some d =>
   show lvEq v (T1.get d)=true
   rw [Tm.get_set hT1,if_pos rfl];exact z6b v
 unfold drawRun
 simp only
 rw [z4a h5 he hg,z0,zy,hrun]
 unfold cKind at h2
 simp only at h2
 cases hcl:cls P op with
 | mover =>
  rw [hcl] at h2
  simp only at h2 ⊢
  cases hr:(readsMem op && !(xCalm i)) with
  | true =>
   rw [hr] at h2
   simp only [Bool.and_eq_true] at hr
   rw [if_pos rfl] at h2
   subst h2
   obtain ⟨rfl,rfl,rfl,q,rfl,hd,hq⟩:=hkd
   rw [hr.1,zy]
   refine hk all ds os' (n+1) T1 _ h2' he1 fun st k ho=>?_
   show (pendAt P _ st k && pendAll P st k ps)=true
   rw [hcov st k ho.2,Bool.and_true]
   exact z6g _ q (fun m hm=>hpend m (hq m hm) hd _ _) st k ho.1
  | false =>
   rw [hr] at h2
   rw [if_neg (by decide)] at h2
   subst h2
   obtain ⟨rfl,rfl,rfl,rfl,rfl,hd⟩:=hkd
   cases hrm:readsMem op with
   | false =>
    rw [ze]
    exact hk all ds os' (n+1) T1 _ h2' he1 hcov
   | true =>
    rw [zy]
    rw [hrm] at hr
    have hcalm:xCalm i=true:=by simpa using hr
    refine hk all ds os' (n+1) T1 _ h2' he1 fun st k ho=>?_
    show (pendAt P _ st k && pendAll P st k ps)=true
    rw [hcov st k ho,Bool.and_true]
    exact zd8 _ (fun m=>hpend m (zdf hcalm hs m) hd _ _) st k
 | new =>
  rw [hcl] at h2
  subst h2
  obtain ⟨rfl,rfl,rfl⟩:=hkd
  exact hk all ds os' (n+1) T1 _ h2' he1 hcov
 | calm =>
  rw [hcl] at h2
  subst h2
  obtain ⟨rfl,rfl,rfl⟩:=hkd
  exact hk all ds os' (n+1) T1 _ h2' he1 hcov
 | anchor =>
  rw [hcl] at h2
  subst h2
  obtain ⟨rfl,rfl,rfl⟩:=hkd
  exact hk all ds os' (n+1) T1 _ h2' he1 hcov
end drawn
end
end PvL
end
section
namespace PvL
set_option linter.unusedSectionVars false
open Go
variable {μ:Md}
section
variable {P:Program} [Orc P] {sz:Nat}
section drawn
variable {E:Env} {M:Mem} {K:Env->Mem->Prop} {l:List (XG × XK)} {d:Nat} {od:Option Nat} {i:XI} {g:Option (Nat × Bool)} {st:List Mem} {k:Nat} {xs:List (Nat × Nat × (Mem->Prop))}
theorem zma (hg:GOn E g) {v:LV} (hs:xstep P i E M=some (.val v M)) (hk:XD P sz l ((d,v) :: E) M st k xs K):XD P sz ((⟨some d,i,g⟩,.calm) :: l) E M st k xs K :=
 z6s hg hs ⟨rfl,rfl⟩ (by exact ⟨rfl,rfl,rfl,rfl,rfl,rfl⟩) hk
theorem zfo {lo hi:Nat} (hg:GOn E g) {v:LV} (hs:xstep P i E M=some (.val v M)) (q:Mem->Prop) (hq:∀ m,q m->xstep P i E m=some (.val v m)) (hk:XD P sz l ((d,v) :: E) M st k ((lo,hi,q) :: xs) K) :
  XD P sz ((⟨some d,i,g⟩,.reads lo hi) :: l) E M st k xs K :=
 z6s hg hs ⟨rfl,rfl⟩ (by exact ⟨rfl,rfl,rfl,q,rfl,rfl,hq⟩) hk
theorem zc7 (hg:GOn E g) {v:LV} {M':Mem} (hs:xstep P i E M=some (.val v M')) (hk:XD P sz l (putE E od v) M' st k xs K):XD P sz ((⟨od,i,g⟩,.new) :: l) E M st k xs K :=
 z6s hg hs ⟨rfl,rfl⟩ (by exact ⟨rfl,rfl,rfl⟩) hk
theorem zfm (hg:GOn E g) {v:LV} {M':Mem} (hs:xstep P i E M=some (.val v M')) (hk:XD P sz l (putE E od v) M' (M' :: st) (k+1) xs K):XD P sz ((⟨od,i,g⟩,.anchor) :: l) E M st k xs K :=
 z6s hg hs ⟨rfl,rfl⟩ (by exact ⟨rfl,rfl,rfl⟩) hk
theorem zjt (hg:GOn E g) {M':Mem} (hs:xstep P i E M=some (.skip M')) (hk:XD P sz l (putE E od lundef) M' (M' :: st) (k+1) xs K):XD P sz ((⟨od,i,g⟩,.anchor) :: l) E M st k xs K :=
 z6s hg hs ⟨rfl,rfl⟩ (by exact ⟨rfl,rfl,rfl⟩) hk
theorem z8q (hg:GOn E g) {f:XO} {as:List XO} {fv:LV} {vs:List LV} (hf:xval E f=some fv) (has:xvals E as=some vs) {Q:LV->Mem->Prop} (h:AppOk P fv vs M Q)
  (hk:∀ v M',Q v M'->XD P sz l (putE E od v) M' (M' :: st) (k+1) xs K):XD P sz ((⟨od,.call f as,g⟩,.anchor) :: l) E M st k xs K:=by
 obtain ⟨r,v,M',h1,h2,h3⟩:=h.opFin
 refine z6s hg (r:=r) (v:=v) (M':=M') ?_ h3 (by exact ⟨rfl,rfl,rfl⟩) (hk v M' h2)
 show ob (xvals E as) _=_
 rw [has,z0,hf];exact h1
theorem zc6 (hg:GOn E g) {f:XO} {as:List XO} {fv:LV} {vs:List LV} (hf:xval E f=some fv) (has:xvals E as=some vs) {Q:LV->Mem->Prop} (h:AppOk P fv vs M Q)
  (hk:∀ v M',Q v M'->XD P sz l (putE E od v) M' st k xs K):XD P sz ((⟨od,.call f as,g⟩,.new) :: l) E M st k xs K:=by
 obtain ⟨r,v,M',h1,h2,h3⟩:=h.opFin
 refine z6s hg (r:=r) (v:=v) (M':=M') ?_ h3 (by exact ⟨rfl,rfl,rfl⟩) (hk v M' h2)
 show ob (xvals E as) _=_
 rw [has,z0,hf];exact h1
theorem zc8 {kd:XK} (hg:GOff E g) {st':List Mem} {k':Nat} (hkd:match kd with | .anchor=>st'=M :: st /\ k'=k+1|_=>st'=st /\ k'=k) (hk:XD P sz l (putE E od lundef) M st' k' xs K) :
  XD P sz ((⟨od,i,g⟩,kd) :: l) E M st k xs K:=fun all ds os n T ps hc he hcov=>by
 obtain ⟨o,os',rfl,h1,h2,h2'⟩:=z5o hc
 obtain ⟨h3,h4,h5,h6⟩:=zbe h1
 obtain ⟨T1,hT1,he1⟩:=he.put h6 lundef
 obtain ⟨dst,op,a1,a2,a3,gd⟩:=o
 have h3:od=dst:=h3.symm
 subst h3
 unfold drawRun
 simp only
 rw [z2x h5 he hg,z0,ze,hT1,z0]
 unfold cKind at h2
 simp only at h2
 cases hcl:cls P op with
 | mover =>
  rw [hcl] at h2
  simp only at h2 ⊢
  cases hr:(readsMem op && !(xCalm i)) with
  | true =>
   rw [hr,if_pos rfl] at h2
   subst h2
   obtain ⟨rfl,rfl⟩:=hkd
   exact hk all ds os' (n+1) T1 _ h2' he1 hcov
  | false =>
   rw [hr,if_neg (by decide)] at h2
   subst h2
   obtain ⟨rfl,rfl⟩:=hkd
   exact hk all ds os' (n+1) T1 _ h2' he1 hcov
 | new =>
  rw [hcl] at h2
  subst h2
  obtain ⟨rfl,rfl⟩:=hkd
  exact hk all ds os' (n+1) T1 _ h2' he1 hcov
 | calm =>
  rw [hcl] at h2
  subst h2
  obtain ⟨rfl,rfl⟩:=hkd
  exact hk all ds os' (n+1) T1 _ h2' he1 hcov
 | anchor =>
  rw [hcl] at h2
  subst h2
  obtain ⟨rfl,rfl⟩:=hkd
  exact hk all ds os' (n+1) T1 _ h2' he1 hcov
theorem zm9 {E':Env} (hs:∀ t v,look E' t=some v->look E t=some v) (h:XD P sz l E' M st k xs K):XD P sz l E M st k xs K:=fun all ds os n T ps hc he hcov=>h all ds os n T ps hc (he.sub hs) hcov
theorem zej {t:Nat} {v:LV} (ht:look E t=some v):∀ u w,look ((t,v) :: E) u=some w->look E u=some w:=fun u w hu=>by
 have hu:(match Nat.beq t u with|true=>some v|false=>look E u)=some w:=hu
 cases hb:Nat.beq t u with
 | true=>rw [hb] at hu;obtain rfl:=Nat.eq_of_beq_eq_true hb;rw [ht];exact hu
 | false=>rw [hb] at hu;exact hu
theorem zfn {t:Nat} {v v':LV} (ht:look E t=some v) (hv:v=v') (h:XD P sz l ((t,v') :: E) M st k xs K):XD P sz l E M st k xs K:=by
 subst hv
 exact zm9 (zej ht) h
theorem zc9 {t:Nat} {b:Bool} (ht:look E t=some (.bool b)) (h1:b=true->XD P sz l ((t,.bool true) :: E) M st k xs K) (h0:b=false->XD P sz l ((t,.bool false) :: E) M st k xs K):XD P sz l E M st k xs K:=by
 cases hb:b with
 | true=>exact zfn ht (by rw [hb]) (h1 hb)
 | false=>exact zfn ht (by rw [hb]) (h0 hb)
end drawn

def W (μ:Md) (P:Program) [Orc P] (fn:FuncId) (ro:Option Nat) (sz:Nat) (c:XC) (E:Env) (ms:List Dfr) (M:Mem) (K:Ex->Env->List Dfr->Mem->Prop):Prop :=
 match μ with
 | .det=>∀ (code:Code) (T:Tm),cCode P sz code=some c->EnvRel sz E T->∃ e T' ms' M',om P (.code fn ro code T ms M)=some (.code e T' ms' M') /\ ∃ E',EnvRel sz E' T' /\ K e E' ms' M'
 | .die D=>∀ (code:Code) (T:Tm),cCode P sz code=some c->EnvRel sz E T->(∃ e T' ms' M',om P (.code fn ro code T ms M)=some (.code e T' ms' M') /\ ∃ E',EnvRel sz E' T' /\ K e E' ms' M') ∨ (∃ v T' M',om P (.code fn ro code T ms M)=some (.boom v T' [] M') /\ D v M')
 | .gen=>∀ (code:Code) (T:Tm),cCode P sz code=some c->EnvRel sz E T->OmOk P->CodeE P fn ro code T ms M (fun e T' ms' M'=>∃ E',EnvRel sz E' T' /\ K e E' ms' M') (fun _ _ _ _=>False)
def KSeq (μ:Md) (P:Program) [Orc P] (fn:FuncId) (ro:Option Nat) (sz:Nat) (b:XC) (K:Ex->Env->List Dfr->Mem->Prop) (e:Ex) (E:Env) (ms:List Dfr) (M:Mem):Prop :=
 match e with | .norm=>W μ P fn ro sz b E ms M K | .ret=>K .ret E ms M | .exit id=>K (.exit id) E ms M
def KBlock (id:Nat) (K:Ex->Env->List Dfr->Mem->Prop) (e:Ex) (E:Env) (ms:List Dfr) (M:Mem):Prop :=
 match e with | .norm=>K .norm E ms M | .ret=>K .ret E ms M | .exit id'=>if id'=id then K .norm E ms M else K (.exit id') E ms M
def KLoop (μ:Md) (P:Program) [Orc P] (fn:FuncId) (ro:Option Nat) (sz:Nat) (b:XC) (K:Ex->Env->List Dfr->Mem->Prop) (e:Ex) (E:Env) (ms:List Dfr) (M:Mem):Prop :=
 match e with | .norm=>W μ P fn ro sz (.loop b) E ms M K | .ret=>K .ret E ms M | .exit id=>K (.exit id) E ms M
inductive ResX (E:Env) (M:Mem):List XR->List LV->Prop
 | nil:ResX E M [] []
 | tmp {t:Nat} {v:LV} {rs:List XR} {vs:List LV} (h:look E t=some v) (hr:ResX E M rs vs):ResX E M (.tmp t :: rs) (v :: vs)
 | cell1 {t i o:Nat} {v:LV} {rs:List XR} {vs:List LV} (h:look E t=some (.ptr (some (i,o)))) (hv:load1 M i o=some v) (hr:ResX E M rs vs):ResX E M (.cell1 t :: rs) (v :: vs)
 | cellN {t n i o:Nat} {l:List LV} {rs:List XR} {vs:List LV} (h:look E t=some (.ptr (some (i,o)))) (hv:loadN M i o n=some l) (hr:ResX E M rs vs):ResX E M (.cellN t n :: rs) (.agg l :: vs)
def Marks:List Dfr->Mem->Mem->Prop
 | [],M,M'=>M'=M
 | .mark d :: ds,M,M'=>M.get d=some .defr /\ Marks ds (M.upd d none) M'
 | .call _ _ :: _,_,_=>False
def KFun (res:List XR) (Q:LV->Mem->Prop) (e:Ex) (E:Env) (ms:List Dfr) (M:Mem):Prop :=
 match e with
 | .exit _=>False
 | _=>∃ M',Marks ms M M' /\ ∃ vs,ResX E M' res vs /\ Q (packed vs) M'

section code
variable {fn:FuncId} {ro:Option Nat} {E:Env} {ms:List Dfr} {M:Mem} {K:Ex->Env->List Dfr->Mem->Prop}
theorem w_of {c:XC} (h:∀ code T,cCode P sz code=some c->EnvRel sz E T->∃ e T' ms' M',stCode P (om P) fn ro code T ms M=some (.code e T' ms' M') /\ ∃ E',EnvRel sz E' T' /\ K e E' ms' M'):W .det P fn ro sz c E ms M K:=fun code T hc he=>by
 obtain ⟨e,T',ms',M',h1,h2⟩:=h code T hc he
 refine ⟨e,T',ms',M',?_,h2⟩
 rw [z8g];exact h1
theorem zhb {c:XC} (h:W .det P fn ro sz c E ms M K):W μ P fn ro sz c E ms M K:=by
 cases μ with
 | det=>exact h
 | die D=>exact fun code T hc he=>.inl (h code T hc he)
 | gen =>
  intro code T hc he hO
  obtain ⟨e,T',ms',M',h1,h2⟩:=h code T hc he
  exact zg6 hO h1 h2
theorem zhf (h:K .norm E ms M):W .det P fn ro sz .skip E ms M K:=w_of fun code T hc he=>by
 cases code with
 | skip|label l=>exact ⟨.norm,T,ms,M,rfl,E,he,h⟩
 | region _ _ d=>cases d<;>simp only [cCode] at hc<;>(repeat' split at hc)<;>cases hc
 | ret|exit|goto|refuse=>cases hc
 | _=>simp only [cCode] at hc;split at hc<;>cases hc
theorem zm4 (h:K .norm E ms M):W μ P fn ro sz .skip E ms M K:=zhb (zhf h)
theorem zjo (h:K .ret E ms M):W .det P fn ro sz .ret E ms M K:=w_of fun code T hc he=>by
 cases code with
 | ret=>exact ⟨.ret,T,ms,M,rfl,E,he,h⟩
 | region _ _ d=>cases d<;>simp only [cCode] at hc<;>(repeat' split at hc)<;>cases hc
 | skip|label|exit|goto|refuse=>cases hc
 | _=>simp only [cCode] at hc;split at hc<;>cases hc
theorem znp (h:K .ret E ms M):W μ P fn ro sz .ret E ms M K:=zhb (zjo h)
theorem zhd {id:Nat} (h:K (.exit id) E ms M):W .det P fn ro sz (.exit id) E ms M K:=w_of fun code T hc he=>by
 cases code with
 | exit i=>cases hc;exact ⟨.exit id,T,ms,M,rfl,E,he,h⟩
 | region _ _ d=>cases d<;>simp only [cCode] at hc<;>(repeat' split at hc)<;>cases hc
 | skip|label|ret|goto|refuse=>cases hc
 | _=>simp only [cCode] at hc;split at hc<;>cases hc
theorem zm2 {id:Nat} (h:K (.exit id) E ms M):W μ P fn ro sz (.exit id) E ms M K:=zhb (zhd h)
theorem zjn {l:List XG} (h:XW .det P sz l E M fun E M=>K .norm E ms M):W .det P fn ro sz (.ops l) E ms M K:=w_of fun code T hc he=>by
 cases code with
 | region i ops d =>
  cases d with
  | false =>
   simp only [cCode] at hc
   split at hc
   ·rename_i l' hl
    cases hc
    obtain ⟨T',M',h1,h2⟩:=h _ _ T ro ms hl he
    exact ⟨.norm,T',ms,M',h1,h2⟩
   ·cases hc
  | true=>simp only [cCode] at hc;(repeat' split at hc)<;>cases hc
 | skip|label|ret|goto|refuse|exit=>cases hc
 | _=>simp only [cCode] at hc;split at hc<;>cases hc
theorem z2w {D:LV->Mem->Prop} {c:XC} (h:∀ code T,cCode P sz code=some c->EnvRel sz E T->(∃ e T' ms' M',stCode P (om P) fn ro code T ms M=some (.code e T' ms' M') /\ ∃ E',EnvRel sz E' T' /\ K e E' ms' M') ∨ (∃ v T' M',stCode P (om P) fn ro code T ms M=some (.boom v T' [] M') /\ D v M')):W (.die D) P fn ro sz c E ms M K:=fun code T hc he=>by
 rw [z8g];exact h code T hc he
class DOk (μ:Md) (ms:List Dfr):Prop where
 h:∀ D,μ=.die D->ms=[]
instance {ms:List Dfr}:DOk .det ms:=⟨fun _ h=>by cases h⟩
instance {ms:List Dfr}:DOk .gen ms:=⟨fun _ h=>by cases h⟩
instance {D:LV->Mem->Prop}:DOk (.die D) []:=⟨fun _ _=>rfl⟩
theorem zno {l:List XG} [hms:DOk μ ms] (h:XW μ P sz l E M fun E M=>K .norm E ms M):W μ P fn ro sz (.ops l) E ms M K:=by
 cases μ with
 | det=>exact zjn h
 | die D =>
  obtain rfl:=hms.h D rfl
  refine z2w fun code T hc he=>?_
  cases code with
  | region i ops d =>
   cases d with
   | false =>
    simp only [cCode] at hc
    split at hc
    ·rename_i l' hl
     cases hc
     rcases h _ _ T ro [] hl he with ⟨T',M',h1,h2⟩|h1
     ·exact .inl ⟨.norm,T',[],M',h1,h2⟩
     ·exact .inr h1
    ·cases hc
   | true=>simp only [cCode] at hc;(repeat' split at hc)<;>cases hc
  | skip|label|ret|goto|refuse|exit=>cases hc
  | _=>simp only [cCode] at hc;split at hc<;>cases hc
 | gen =>
  intro code T hc he hO
  cases code with
  | region i ops d =>
   cases d with
   | false =>
    simp only [cCode] at hc
    split at hc
    ·rename_i l' hl
     cases hc
     have h1:=h ops ops.toList 0 T ro ms (fun j=>by simp) hl he hO
     rw [show ops.toList.length=ops.size by simp] at h1
     exact z99 (h1.mono (fun e T' ms' M' h2=>by obtain ⟨rfl,rfl,h3⟩:=h2;exact h3) (fun _ _ _ _ h=>h))
    ·cases hc
   | true=>simp only [cCode] at hc;(repeat' split at hc)<;>cases hc
  | skip|label|ret|goto|refuse|exit=>cases hc
  | _=>simp only [cCode] at hc;split at hc<;>cases hc
theorem zhc {l:List (XG × XK)} {ds:List Nat} (h:XD P sz l E M [M] 0 [] fun E M=>K .norm E ms M):W .det P fn ro sz (.draw l ds) E ms M K:=w_of fun code T hc he=>by
 cases code with
 | region i ops d =>
  cases d with
  | true =>
   simp only [cCode] at hc
   split at hc
   ·rename_i hok
    split at hc
    ·rename_i l' hl
     cases hc
     obtain ⟨s,h1,h2,h3⟩:=h _ _ _ 0 T [] hl he (fun st k _=>rfl)
     obtain ⟨T',M',st',k',ps'⟩:=s
     refine ⟨.norm,T',ms,M',?_,h3⟩
     show cDraw P (om P) ops T ms M=_
     unfold cDraw
     rw [hok,zy]
     unfold cDrawG
     rw [h1,z19]
     show guard' (pendAll P st' k' ps') _=_
     rw [show pendAll P st' k' ps'=true from h2];rfl
    ·cases hc
   ·cases hc
  | false=>simp only [cCode] at hc;(repeat' split at hc)<;>cases hc
 | skip|label|ret|goto|refuse|exit=>cases hc
 | _=>simp only [cCode] at hc;split at hc<;>cases hc
theorem zm1 {l:List (XG × XK)} {ds:List Nat} (h:XD P sz l E M [M] 0 [] fun E M=>K .norm E ms M):W μ P fn ro sz (.draw l ds) E ms M K:=zhb (zhc h)
theorem zjq {a b:XC} (h:W .det P fn ro sz a E ms M (KSeq .det P fn ro sz b K)):W .det P fn ro sz (.seq a b) E ms M K:=w_of fun code T hc he=>by
 cases code with
 | seq a' b' =>
  simp only [cCode] at hc
  split at hc
  ·rename_i x y hx hy
   cases hc
   obtain ⟨e,T',ms',M',h1,E',h2,h3⟩:=h a' T hx he
   show ∃ e T' ms' M',outCode (om P _) _=_ /\ _
   rw [h1]
   cases e with
   | norm=>exact h3 b' T' hy h2
   | ret=>exact ⟨.ret,T',ms',M',rfl,E',h2,h3⟩
   | exit i=>exact ⟨.exit i,T',ms',M',rfl,E',h2,h3⟩
  ·cases hc
 | region _ _ d=>cases d<;>simp only [cCode] at hc<;>(repeat' split at hc)<;>cases hc
 | skip|label|ret|goto|refuse|exit=>cases hc
 | _=>simp only [cCode] at hc;split at hc<;>cases hc
theorem znq {a b:XC} (h:W μ P fn ro sz a E ms M (KSeq μ P fn ro sz b K)):W μ P fn ro sz (.seq a b) E ms M K:=by
 cases μ with
 | det=>exact zjq h
 | die D =>
  refine z2w fun code T hc he=>?_
  cases code with
  | seq a' b' =>
   simp only [cCode] at hc
   split at hc
   ·rename_i x y hx hy
    cases hc
    show (∃ e T' ms' M',outCode (om P _) _=_ /\ _) ∨ (∃ v T' M',outCode (om P _) _=_ /\ _)
    rcases h a' T hx he with ⟨e,T',ms',M',h1,E',h2,h3⟩|⟨v,T',M',h1,h2⟩
    ·rw [h1]
     cases e with
     | norm=>exact h3 b' T' hy h2
     | ret=>exact .inl ⟨.ret,T',ms',M',rfl,E',h2,h3⟩
     | exit i=>exact .inl ⟨.exit i,T',ms',M',rfl,E',h2,h3⟩
    ·rw [h1];exact .inr ⟨v,T',M',rfl,h2⟩
   ·cases hc
  | region _ _ d=>cases d<;>simp only [cCode] at hc<;>(repeat' split at hc)<;>cases hc
  | skip|label|ret|goto|refuse|exit=>cases hc
  | _=>simp only [cCode] at hc;split at hc<;>cases hc
 | gen =>
  intro code T hc he hO
  cases code with
  | seq a' b' =>
   simp only [cCode] at hc
   split at hc
   ·rename_i x y hx hy
    cases hc
    refine zds ((h a' T hx he hO).mono (fun e T' ms' M' h2=>?_) (fun _ _ _ _ h=>h))
    obtain ⟨E',h3,h4⟩:=h2
    cases e with
    | norm=>exact h4 b' T' hy h3 hO
    | ret=>exact ⟨E',h3,h4⟩
    | exit i=>exact ⟨E',h3,h4⟩
   ·cases hc
  | region _ _ d=>cases d<;>simp only [cCode] at hc<;>(repeat' split at hc)<;>cases hc
  | skip|label|ret|goto|refuse|exit=>cases hc
  | _=>simp only [cCode] at hc;split at hc<;>cases hc
theorem zha {x:XO} {a b:XC} {q:Bool} (hx:xval E x=some (.bool q)) (h1:q=true->W .det P fn ro sz a E ms M K) (h0:q=false->W .det P fn ro sz b E ms M K):W .det P fn ro sz (.cond x a b) E ms M K:=w_of fun code T hc he=>by
 cases code with
 | cond x' a' b' =>
  simp only [cCode] at hc
  split at hc
  ·rename_i y z w hy hz hw
   cases hc
   show ∃ e T' ms' M',ob (ev T x') _=_ /\ _
   rw [zo he hy hx]
   cases q with
   | true=>exact h1 rfl a' T hz he
   | false=>exact h0 rfl b' T hw he
  ·cases hc
 | region _ _ d=>cases d<;>simp only [cCode] at hc<;>(repeat' split at hc)<;>cases hc
 | skip|label|ret|goto|refuse|exit=>cases hc
 | _=>simp only [cCode] at hc;split at hc<;>cases hc
theorem zm0 {x:XO} {a b:XC} {q:Bool} (hx:xval E x=some (.bool q)) (h1:q=true->W μ P fn ro sz a E ms M K) (h0:q=false->W μ P fn ro sz b E ms M K):W μ P fn ro sz (.cond x a b) E ms M K:=by
 cases μ with
 | det=>exact zha hx h1 h0
 | die D =>
  refine z2w fun code T hc he=>?_
  cases code with
  | cond x' a' b' =>
   simp only [cCode] at hc
   split at hc
   ·rename_i y z w hy hz hw
    cases hc
    show (∃ e T' ms' M',ob (ev T x') _=_ /\ _) ∨ (∃ v T' M',ob (ev T x') _=_ /\ _)
    rw [zo he hy hx]
    cases q with
    | true=>exact h1 rfl a' T hz he
    | false=>exact h0 rfl b' T hw he
   ·cases hc
  | region _ _ d=>cases d<;>simp only [cCode] at hc<;>(repeat' split at hc)<;>cases hc
  | skip|label|ret|goto|refuse|exit=>cases hc
  | _=>simp only [cCode] at hc;split at hc<;>cases hc
 | gen =>
  intro code T hc he hO
  cases code with
  | cond x' a' b' =>
   simp only [cCode] at hc
   split at hc
   ·rename_i y z w hy hz hw
    cases hc
    exact zcl (zo he hy hx) (fun hq=>h1 hq a' T hz he hO) (fun hq=>h0 hq b' T hw he hO)
   ·cases hc
  | region _ _ d=>cases d<;>simp only [cCode] at hc<;>(repeat' split at hc)<;>cases hc
  | skip|label|ret|goto|refuse|exit=>cases hc
  | _=>simp only [cCode] at hc;split at hc<;>cases hc
theorem zfj {id:Nat} {b:XC} (h:W .det P fn ro sz b E ms M (KBlock id K)):W .det P fn ro sz (.block id b) E ms M K:=w_of fun code T hc he=>by
 cases code with
 | block i b' =>
  simp only [cCode] at hc
  split at hc
  ·rename_i y hy
   cases hc
   obtain ⟨e,T',ms',M',h1,E',h2,h3⟩:=h b' T hy he
   show ∃ e T' ms' M',outCode (om P _) _=_ /\ _
   rw [h1]
   cases e with
   | norm=>exact ⟨.norm,T',ms',M',rfl,E',h2,h3⟩
   | ret=>exact ⟨.ret,T',ms',M',rfl,E',h2,h3⟩
   | exit i =>
    have h3:if i=id then K .norm E' ms' M' else K (.exit i) E' ms' M':=h3
    show ∃ e T'' ms'' M'',ifb (Nat.beq i id) (some (Out.code .norm T' ms' M')) (some (.code (.exit i) T' ms' M'))=_ /\ _
    by_cases hi:i=id
    ·rw [if_pos hi] at h3
     rw [show Nat.beq i id=true by simp [hi]]
     exact ⟨.norm,T',ms',M',rfl,E',h2,h3⟩
    ·rw [if_neg hi] at h3
     rw [show Nat.beq i id=false by
      cases hb:Nat.beq i id with
      | false=>rfl
      | true=>exact absurd (Nat.eq_of_beq_eq_true hb) hi]
     exact ⟨.exit i,T',ms',M',rfl,E',h2,h3⟩
  ·cases hc
 | region _ _ d=>cases d<;>simp only [cCode] at hc<;>(repeat' split at hc)<;>cases hc
 | skip|label|ret|goto|refuse|exit=>cases hc
 | _=>simp only [cCode] at hc;split at hc<;>cases hc
theorem zjm {id:Nat} {b:XC} (h:W μ P fn ro sz b E ms M (KBlock id K)):W μ P fn ro sz (.block id b) E ms M K:=by
 cases μ with
 | det=>exact zfj h
 | die D =>
  refine z2w fun code T hc he=>?_
  cases code with
  | block i b' =>
   simp only [cCode] at hc
   split at hc
   ·rename_i y hy
    cases hc
    show (∃ e T' ms' M',outCode (om P _) _=_ /\ _) ∨ (∃ v T' M',outCode (om P _) _=_ /\ _)
    rcases h b' T hy he with ⟨e,T',ms',M',h1,E',h2,h3⟩|⟨v,T',M',h1,h2⟩
    ·rw [h1]
     cases e with
     | norm=>exact .inl ⟨.norm,T',ms',M',rfl,E',h2,h3⟩
     | ret=>exact .inl ⟨.ret,T',ms',M',rfl,E',h2,h3⟩
     | exit i =>
      have h3:if i=id then K .norm E' ms' M' else K (.exit i) E' ms' M':=h3
      left
      show ∃ e T'' ms'' M'',ifb (Nat.beq i id) (some (Out.code .norm T' ms' M')) (some (.code (.exit i) T' ms' M'))=_ /\ _
      by_cases hi:i=id
      ·rw [if_pos hi] at h3
       rw [show Nat.beq i id=true by simp [hi]]
       exact ⟨.norm,T',ms',M',rfl,E',h2,h3⟩
      ·rw [if_neg hi] at h3
       rw [show Nat.beq i id=false by
        cases hb:Nat.beq i id with
        | false=>rfl
        | true=>exact absurd (Nat.eq_of_beq_eq_true hb) hi]
       exact ⟨.exit i,T',ms',M',rfl,E',h2,h3⟩
    ·rw [h1];exact .inr ⟨v,T',M',rfl,h2⟩
   ·cases hc
  | region _ _ d=>cases d<;>simp only [cCode] at hc<;>(repeat' split at hc)<;>cases hc
  | skip|label|ret|goto|refuse|exit=>cases hc
  | _=>simp only [cCode] at hc;split at hc<;>cases hc
 | gen =>
  intro code T hc he hO
  cases code with
  | block i b' =>
   simp only [cCode] at hc
   split at hc
   ·rename_i y hy
    cases hc
    refine zad ((h b' T hy he hO).mono (fun e T' ms' M' h2=>?_) (fun _ _ _ _ h=>h))
    obtain ⟨E',h3,h4⟩:=h2
    cases e with
    | norm=>exact ⟨E',h3,h4⟩
    | ret=>exact ⟨E',h3,h4⟩
    | exit i' =>
     have h4:if i'=id then K .norm E' ms' M' else K (.exit i') E' ms' M':=h4
     by_cases hi:i'=id
     ·rw [if_pos hi] at h4
      show if i'=id then _ else _
      rw [if_pos hi];exact ⟨E',h3,h4⟩
     ·rw [if_neg hi] at h4
      show if i'=id then _ else _
      rw [if_neg hi];exact ⟨E',h3,h4⟩
   ·cases hc
  | region _ _ d=>cases d<;>simp only [cCode] at hc<;>(repeat' split at hc)<;>cases hc
  | skip|label|ret|goto|refuse|exit=>cases hc
  | _=>simp only [cCode] at hc;split at hc<;>cases hc
theorem zhe {b:XC} (h:W .det P fn ro sz b E ms M (KLoop .det P fn ro sz b K)):W .det P fn ro sz (.loop b) E ms M K:=w_of fun code T hc he=>by
 cases code with
 | loop b' =>
  have hc0:=hc
  simp only [cCode] at hc
  split at hc
  ·rename_i y hy
   cases hc
   obtain ⟨e,T',ms',M',h1,E',h2,h3⟩:=h b' T hy he
   show ∃ e T' ms' M',outCode (om P _) _=_ /\ _
   rw [h1]
   cases e with
   | norm=>exact h3 (.loop b') T' hc0 h2
   | ret=>exact ⟨.ret,T',ms',M',rfl,E',h2,h3⟩
   | exit i=>exact ⟨.exit i,T',ms',M',rfl,E',h2,h3⟩
  ·cases hc
 | region _ _ d=>cases d<;>simp only [cCode] at hc<;>(repeat' split at hc)<;>cases hc
 | skip|label|ret|goto|refuse|exit=>cases hc
 | _=>simp only [cCode] at hc;split at hc<;>cases hc
theorem zi2 {b:XC} (h:W μ P fn ro sz b E ms M (KLoop μ P fn ro sz b K)):W μ P fn ro sz (.loop b) E ms M K:=by
 cases μ with
 | det=>exact zhe h
 | die D =>
  refine z2w fun code T hc he=>?_
  cases code with
  | loop b' =>
   have hc0:=hc
   simp only [cCode] at hc
   split at hc
   ·rename_i y hy
    cases hc
    show (∃ e T' ms' M',outCode (om P _) _=_ /\ _) ∨ (∃ v T' M',outCode (om P _) _=_ /\ _)
    rcases h b' T hy he with ⟨e,T',ms',M',h1,E',h2,h3⟩|⟨v,T',M',h1,h2⟩
    ·rw [h1]
     cases e with
     | norm=>exact h3 (.loop b') T' hc0 h2
     | ret=>exact .inl ⟨.ret,T',ms',M',rfl,E',h2,h3⟩
     | exit i=>exact .inl ⟨.exit i,T',ms',M',rfl,E',h2,h3⟩
    ·rw [h1];exact .inr ⟨v,T',M',rfl,h2⟩
   ·cases hc
  | region _ _ d=>cases d<;>simp only [cCode] at hc<;>(repeat' split at hc)<;>cases hc
  | skip|label|ret|goto|refuse|exit=>cases hc
  | _=>simp only [cCode] at hc;split at hc<;>cases hc
 | gen =>
  intro code T hc he hO
  cases code with
  | loop b' =>
   have hc0:=hc
   simp only [cCode] at hc
   split at hc
   ·rename_i y hy
    cases hc
    refine zcm ((h b' T hy he hO).mono (fun e T' ms' M' h2=>?_) (fun _ _ _ _ h=>h))
    obtain ⟨E',h3,h4⟩:=h2
    cases e with
    | norm=>exact h4 (.loop b') T' hc0 h3 hO
    | ret=>exact ⟨E',h3,h4⟩
    | exit i=>exact ⟨E',h3,h4⟩
   ·cases hc
  | region _ _ d=>cases d<;>simp only [cCode] at hc<;>(repeat' split at hc)<;>cases hc
  | skip|label|ret|goto|refuse|exit=>cases hc
  | _=>simp only [cCode] at hc;split at hc<;>cases hc
theorem zfk {b:XC} (h:W .det P fn ro sz b E ms M K):W .det P fn ro sz (.scope b) E ms M K:=w_of fun code T hc he=>by
 cases code with
 | scope b' =>
  simp only [cCode] at hc
  split at hc
  ·rename_i y hy;cases hc;exact h b' T hy he
  ·cases hc
 | region _ _ d=>cases d<;>simp only [cCode] at hc<;>(repeat' split at hc)<;>cases hc
 | skip|label|ret|goto|refuse|exit=>cases hc
 | _=>simp only [cCode] at hc;split at hc<;>cases hc
theorem zjp {b:XC} (h:W μ P fn ro sz b E ms M K):W μ P fn ro sz (.scope b) E ms M K:=by
 cases μ with
 | det=>exact zfk h
 | die D =>
  refine z2w fun code T hc he=>?_
  cases code with
  | scope b' =>
   simp only [cCode] at hc
   split at hc
   ·rename_i y hy;cases hc;exact h b' T hy he
   ·cases hc
  | region _ _ d=>cases d<;>simp only [cCode] at hc<;>(repeat' split at hc)<;>cases hc
  | skip|label|ret|goto|refuse|exit=>cases hc
  | _=>simp only [cCode] at hc;split at hc<;>cases hc
 | gen =>
  intro code T hc he hO
  cases code with
  | scope b' =>
   simp only [cCode] at hc
   split at hc
   ·rename_i y hy;cases hc;exact zae (h b' T hy he hO)
   ·cases hc
  | region _ _ d=>cases d<;>simp only [cCode] at hc<;>(repeat' split at hc)<;>cases hc
  | skip|label|ret|goto|refuse|exit=>cases hc
  | _=>simp only [cCode] at hc;split at hc<;>cases hc
theorem zm3 {c:XC} {K':Ex->Env->List Dfr->Mem->Prop} (h:W μ P fn ro sz c E ms M K) (hk:∀ e E ms M,K e E ms M->K' e E ms M):W μ P fn ro sz c E ms M K':=by
 cases μ with
 | det=>exact fun code T hc he=>let ⟨e,T',ms',M',h1,E',h2,h3⟩:=h code T hc he;⟨e,T',ms',M',h1,E',h2,hk _ _ _ _ h3⟩
 | die D=>exact fun code T hc he=>(h code T hc he).imp (fun ⟨e,T',ms',M',h1,E',h2,h3⟩=>⟨e,T',ms',M',h1,E',h2,hk _ _ _ _ h3⟩) (fun h=>h)
 | gen=>exact fun code T hc he hO=>(h code T hc he hO).mono (fun e T ms m ⟨E',h1,h2⟩=>⟨E',h1,hk _ _ _ _ h2⟩) (fun _ _ _ _ h=>h)
theorem znr {c:XC} {E':Env} (hs:∀ t v,look E' t=some v->look E t=some v) (h:W μ P fn ro sz c E' ms M K):W μ P fn ro sz c E ms M K:=by
 cases μ with
 | det=>exact fun code T hc he=>h code T hc (he.sub hs)
 | die D=>exact fun code T hc he=>h code T hc (he.sub hs)
 | gen=>exact fun code T hc he hO=>h code T hc (he.sub hs) hO
inductive Has (E:Env):Env->Prop
 | nil:Has E []
 | cons {t:Nat} {v:LV} {E':Env} (h:look E t=some v) (h':Has E E'):Has E ((t,v) :: E')
theorem Has.sub {E E':Env} (h:Has E E'):∀ t v,look E' t=some v->look E t=some v:=by
 induction h with
 | nil=>intro t v h;cases h
 | cons h1 h2 ih =>
  rename_i t v E'
  intro u w hu
  have hu:(match Nat.beq t u with|true=>some v|false=>look E' u)=some w:=hu
  cases hb:Nat.beq t u with
  | true=>rw [hb] at hu;obtain rfl:=Nat.eq_of_beq_eq_true hb;rw [h1];exact hu
  | false=>rw [hb] at hu;exact ih u w hu
theorem z3l {c:XC} {E':Env} (hs:Has E E') (h:W μ P fn ro sz c E' ms M K):W μ P fn ro sz c E ms M K:=znr hs.sub h

theorem znd {b:XC} (h:W μ P fn ro sz b E ms M K):KSeq μ P fn ro sz b K .norm E ms M:=h
theorem zed {b:XC} (h:K .ret E ms M):KSeq μ P fn ro sz b K .ret E ms M:=h
theorem zcv {b:XC} {i:Nat} (h:K (.exit i) E ms M):KSeq μ P fn ro sz b K (.exit i) E ms M:=h
theorem ziz {id:Nat} (h:K .norm E ms M):KBlock id K .norm E ms M:=h
theorem zao {id:Nat} (h:K .ret E ms M):KBlock id K .ret E ms M:=h
theorem z9m {id:Nat} (h:K .norm E ms M):KBlock id K (.exit id) E ms M:=by unfold KBlock;simp only [if_true];exact h
theorem zan {id i:Nat} (hi:Nat.beq i id=false) (h:K (.exit i) E ms M):KBlock id K (.exit i) E ms M:=by
 unfold KBlock
 simp only
 rw [if_neg (fun e=>by subst e;simp at hi)];exact h
theorem zlb {b:XC} (h:W μ P fn ro sz (.loop b) E ms M K):KLoop μ P fn ro sz b K .norm E ms M:=h
theorem zcu {b:XC} (h:K .ret E ms M):KLoop μ P fn ro sz b K .ret E ms M:=h
theorem zap {b:XC} {i:Nat} (h:K (.exit i) E ms M):KLoop μ P fn ro sz b K (.exit i) E ms M:=h
theorem zh {res:List XR} {Q:LV->Mem->Prop} {vs:List LV} (hr:ResX E M res vs) (hq:Q (packed vs) M):KFun res Q .ret E [] M:=⟨M,rfl,vs,hr,hq⟩
theorem zc {res:List XR} {Q:LV->Mem->Prop} {vs:List LV} (hr:ResX E M res vs) (hq:Q (packed vs) M):KFun res Q .norm E [] M:=⟨M,rfl,vs,hr,hq⟩
end code

def zipE:Nat->List LV->Env
 | _,[]=>[]
 | i,v :: vs=>(i,v) :: zipE (i+1) vs
theorem zek {i:Nat} {vs:List LV} {t:Nat} {v:LV} (h:look (zipE i vs) t=some v):i<=t /\ vs[t - i]?=some v:=by
 induction vs generalizing i with
 | nil=>cases h
 | cons a as ih =>
  have h:(match Nat.beq i t with|true=>some a|false=>look (zipE (i+1) as) t)=some v:=h
  cases hb:Nat.beq i t with
  | true=>rw [hb] at h;obtain rfl:=Nat.eq_of_beq_eq_true hb;cases h;exact ⟨Nat.le_refl _,by simp⟩
  | false =>
   rw [hb] at h
   obtain ⟨h1,h2⟩:=ih h
   refine ⟨by omega,?_⟩
   rw [show t - i=(t - (i+1))+1 by omega];simpa using h2
theorem z7p:∀ (vs:List LV) (i:Nat) (T:Tm),i+vs.length<=T.size->∃ T',Tm.setAll vs i T=some T' /\ T'.size=T.size /\ ∀ t,T'.get t=if i<=t /\ t < i+vs.length then (vs[t - i]?).getD .unk else T.get t
 | [],i,T,h=>⟨T,rfl,rfl,fun t=>by rw [if_neg (by simp)]⟩
 | v :: vs,i,T,h=>by
  have h:i+(vs.length+1)<=T.size:=h
  have hs:T.set i v=some ⟨T.size,T.tr.set i (some v)⟩:=Tm.set_eq.2 ⟨by omega,rfl⟩
  obtain ⟨T',h1,h2,h3⟩:=z7p vs (i+1) ⟨T.size,T.tr.set i (some v)⟩ (by show i+1+vs.length<=T.size;omega)
  refine ⟨T',by show ob (T.set i v) _=_;rw [hs];exact h1,h2,fun t=>?_⟩
  rw [h3 t]
  by_cases hc:i+1<=t /\ t < i+1+vs.length
  ·rw [if_pos hc,if_pos (by simp;omega),show t - i=(t - (i+1))+1 by omega];simp
  ·rw [if_neg hc,Tm.get_set hs]
   by_cases e:t=i
   ·subst e;rw [if_pos rfl,if_pos (by simp),Nat.sub_self]
    rfl
   ·rw [if_neg e,if_neg (by simp;omega)]
theorem z9t {rec:Task->Option Out} {fd:Func} {T:Tm}:∀ {ms:List Dfr} {M M':Mem},Marks ms M M'->finRet P rec fd T ms M=finRet P rec fd T [] M'
 | [],M,M',h=>by cases h;rfl
 | .mark d :: ds,M,M',h=>by
  show atDefr M d (finRet P rec fd T ds (M.upd d none))=_
  unfold atDefr
  rw [h.1,z0]
  exact z9t h.2
 | .call _ _ :: _,_,_,h=>h.elim
theorem z2u {E:Env} {T:Tm} (he:EnvRel sz E T) {M:Mem}:∀ {rs:List ResultVar} {xs:List XR} {vs:List LV},cRes P rs=some xs->ResX E M xs vs->resultsOf P T M rs=some vs
 | [],xs,vs,hc,h=>by cases hc;cases h;rfl
 | .tmp t :: rs,xs,vs,hc,h=>by
  simp only [cRes] at hc
  split at hc
  ·rename_i l hl
   cases hc
   cases h with
   | tmp h1 h2 =>
    show ob (evT T t) _=_
    rw [he.look _ _ h1,z0,z2u he hl h2];rfl
  ·cases hc
 | .cell a t :: rs,xs,vs,hc,h=>by
  simp only [cRes] at hc
  split at hc
  ·rename_i l hag hl
   cases hc
   cases h with
   | cell1 h1 h2 h3 =>
    show ob (ob (evT T a) fun a=>loadT P t M a) _=_
    rw [he.look _ _ h1,z0]
    unfold loadT
    show ob (ob (aggSz P t) _) _=_
    rw [hag,z0,z3h,h2,z0,z2u he hl h3];rfl
  ·rename_i n l hag hl
   cases hc
   cases h with
   | cellN h1 h2 h3 =>
    show ob (ob (evT T a) fun a=>loadT P t M a) _=_
    rw [he.look _ _ h1,z0]
    unfold loadT
    show ob (ob (aggSz P t) _) _=_
    rw [hag,z0,z19,h2,z0,z0,z2u he hl h3];rfl
  ·cases hc
theorem zck {f:FuncId} {n:Nat} {c:XC} {res:List XR} (hf:cFn P f=some ⟨n,c,res⟩) {args:List LV} {M:Mem} {Q:LV->Mem->Prop} (hn:Nat.ble args.length n=true)
  (h:W .det P f none n c (zipE 0 args) [] M (KFun res Q)) (hask:Orc.ask P f args M=none):CallOk P f args M Q:=by
 unfold cFn at hf
 split at hf
 ·cases hf
 ·rename_i fd hfd
  split at hf
  ·cases hf
  ·rename_i code hcode
   split at hf
   ·rename_i c' r' hc hr
    cases hf
    rw [Nat.ble_eq] at hn
    obtain ⟨T,h1,h2,h3⟩:=z7p args 0 ⟨fd.ntmps,.nil⟩ (by show 0+args.length<=fd.ntmps;omega)
    have hT:Tm.ofList fd.ntmps args=some T:=by
     unfold Tm.ofList
     rw [z0m]
     show Tm.setAll args 0 ⟨max fd.ntmps args.length,.nil⟩=_
     rw [Nat.max_eq_left hn];exact h1
    have he:EnvRel fd.ntmps (zipE 0 args) T:=⟨h2,fun d v hd=>by
     obtain ⟨_,h5⟩:=zek hd
     rw [z2d,h3 d,if_pos (by have:=(List.getElem?_eq_some_iff.1 h5).1;omega),h5];rfl⟩
    obtain ⟨e,T',ms',M',h5,E',h6,h7⟩:=h code T hc he
    cases e with
    | exit i=>exact h7.elim
    | _ =>
     obtain ⟨M2,h8,vs,h9,h10⟩:=h7
     refine ⟨_,M2,?_,h10⟩
     rw [zjc hask]
     show ob (fnOf P f) _=_
     rw [hfd,z0,hT,z0,hcode,z0]
     show outFrame (om P (.code f none code T [] M)) _ _=_
     rw [h5]
     show finRet P (om P) fd T' ms' M'=_
     rw [z9t h8]
     show ob (resultsOf P T' M2 fd.results.toList) _=_
     rw [z2u h6 hr h9];rfl
   ·cases hf
theorem zg {f:FuncId} {xf:XF} (hf:cFn P f=some xf) {args:List LV} {M:Mem} {Q:LV->Mem->Prop} (hn:Nat.ble args.length xf.ntmps=true)
  (h:W .det P f none xf.ntmps xf.body (zipE 0 args) [] M (KFun xf.res Q)) (hask:Orc.ask P f args M=none:=by rfl):CallOk P f args M Q:=zck (n:=xf.ntmps) (c:=xf.body) (res:=xf.res) hf hn h hask
end
end PvL
end
section
namespace PvL
set_option linter.unusedSectionVars false
open Go
variable {μ:Md}

structure New (M:Mem) (n:Nat) (lb:LB) (M':Mem):Prop where
 eq:M'=M.push lb
 name:n=M.next
structure Upd (M:Mem) (i:Nat) (lb:LB) (M':Mem):Prop where
 eq:M'=M.upd i (some lb)
structure Grow (M M':Mem):Prop where
 le:M.next<=M'.next
 old:∀ i,i < M.next->M'.get i=M.get i
structure Keep (F:Nat->Prop) (M M':Mem):Prop where
 le:M.next<=M'.next
 old:∀ i,i < M.next->¬ F i->M'.get i=M.get i
def At (M:Mem) (i:Nat) (lb:LB):Prop:=M.get i=some lb /\ i < M.next
def Rd (M:Mem) (i o n:Nat) (l:List LV):Prop:=loadN M i o n=some l /\ i < M.next
def Rd1 (M:Mem) (i o:Nat) (v:LV):Prop:=load1 M i o=some v /\ i < M.next
section
variable {M M':Mem} {i j n o:Nat} {lb lb':LB}
theorem New.next (h:New M n lb M'):M'.next=M.next+1:=by rw [h.eq];rfl
theorem Upd.next (h:Upd M i lb M'):M'.next=M.next:=by rw [h.eq];exact Mem.next_upd _ _ _
theorem At.new_same (h:New M n lb M'):At M' n lb:=by
 refine ⟨?_,by rw [h.next,h.name];omega⟩
 rw [h.eq,h.name,Mem.get_push,if_pos rfl]
theorem At.new_old (h:New M n lb M') (ha:At M i lb'):At M' i lb':=by
 refine ⟨?_,by rw [h.next];have:=ha.2;omega⟩
 rw [h.eq,Mem.get_push,if_neg (by have:=ha.2;omega)];exact ha.1
theorem At.upd_same (h:Upd M i lb M') (ha:At M i lb'):At M' i lb:=by
 refine ⟨?_,by rw [h.next];exact ha.2⟩
 rw [h.eq,Mem.get_upd,if_pos rfl]
theorem At.upd_ne (h:Upd M j lb M') (hne:i ≠ j) (ha:At M i lb'):At M' i lb':=by
 refine ⟨?_,by rw [h.next];exact ha.2⟩
 rw [h.eq,Mem.get_upd,if_neg hne];exact ha.1
theorem At.grow (h:Grow M M') (ha:At M i lb):At M' i lb:=⟨by rw [h.old i ha.2];exact ha.1,Nat.lt_of_lt_of_le ha.2 h.le⟩
theorem At.keep {F:Nat->Prop} (h:Keep F M M') (hf:¬ F i) (ha:At M i lb):At M' i lb:=⟨by rw [h.old i ha.2 hf];exact ha.1,Nat.lt_of_lt_of_le ha.2 h.le⟩
variable {l:List LV} {v:LV}
theorem z40 (h:M'.get i=M.get i):loadN M' i o n=loadN M i o n:=by unfold loadN atCells;rw [h]
theorem z68 (h:M'.get i=M.get i):load1 M' i o=load1 M i o:=by unfold load1 atCells;rw [h]
theorem Rd.of_at {own:Bool} {cs:List LV} {ty:TypeId} (ha:At M i (.cells own cs ty)) (h:take' n (drop' o cs)=some l):Rd M i o n l :=
 ⟨by unfold loadN atCells;rw [ha.1];exact h,ha.2⟩
theorem Rd1.of_at {own:Bool} {cs:List LV} {ty:TypeId} (ha:At M i (.cells own cs ty)) (h:nth cs o=some v):Rd1 M i o v :=
 ⟨by unfold load1 atCells;rw [ha.1];exact h,ha.2⟩
theorem Grow.refl (M:Mem):Grow M M:=⟨Nat.le_refl _,fun _ _=>rfl⟩
theorem Grow.trans {M2:Mem} (h:Grow M M') (h':Grow M' M2):Grow M M2:=⟨Nat.le_trans h.le h'.le,fun i hi=>by rw [h'.old i (Nat.lt_of_lt_of_le hi h.le),h.old i hi]⟩
theorem New.grow (h:New M n lb M'):Grow M M':=⟨by rw [h.next];omega,fun i hi=>by rw [h.eq,Mem.get_push,if_neg (by omega)]⟩
theorem Grow.new {M0:Mem} (h:Grow M0 M) (h':New M n lb M'):Grow M0 M':=h.trans h'.grow
theorem Grow.upd {M0:Mem} (h:Grow M0 M) (h':Upd M i lb M') (hi:M0.next<=i):Grow M0 M' :=
 ⟨by rw [h'.next];exact h.le,fun j hj=>by rw [h'.eq,Mem.get_upd,if_neg (by omega)];exact h.old j hj⟩
theorem Grow.drop {M0:Mem} (h:Grow M0 M) (hi:M0.next<=i):Grow M0 (M.upd i none) :=
 ⟨by rw [Mem.next_upd];exact h.le,fun j hj=>by rw [Mem.get_upd,if_neg (by omega)];exact h.old j hj⟩
theorem Grow.keep {M0:Mem} {F:Nat->Prop} (h:Grow M0 M) (h':Keep F M M') (hF:∀ i,F i->M0.next<=i):Grow M0 M' :=
 ⟨Nat.le_trans h.le h'.le,fun j hj=>by rw [h'.old j (Nat.lt_of_lt_of_le hj h.le) (fun hf=>absurd (hF j hf) (by omega))];exact h.old j hj⟩
theorem Rd.grow (h:Grow M M') (ha:Rd M i o n l):Rd M' i o n l:=⟨by rw [z40 (h.old i ha.2)];exact ha.1,Nat.lt_of_lt_of_le ha.2 h.le⟩
theorem Rd1.grow (h:Grow M M') (ha:Rd1 M i o v):Rd1 M' i o v:=⟨by rw [z68 (h.old i ha.2)];exact ha.1,Nat.lt_of_lt_of_le ha.2 h.le⟩
theorem Rd.new_old (h:New M j lb M') (ha:Rd M i o n l):Rd M' i o n l:=ha.grow h.grow
theorem Rd1.new_old (h:New M j lb M') (ha:Rd1 M i o v):Rd1 M' i o v:=ha.grow h.grow
theorem z4x (h:Upd M j lb M') (hne:i ≠ j):M'.get i=M.get i:=by rw [h.eq,Mem.get_upd,if_neg hne]
theorem Rd.upd_ne (h:Upd M j lb M') (hne:i ≠ j) (ha:Rd M i o n l):Rd M' i o n l:=⟨by rw [z40 (z4x h hne)];exact ha.1,by rw [h.next];exact ha.2⟩
theorem Rd1.upd_ne (h:Upd M j lb M') (hne:i ≠ j) (ha:Rd1 M i o v):Rd1 M' i o v:=⟨by rw [z68 (z4x h hne)];exact ha.1,by rw [h.next];exact ha.2⟩
theorem Rd.keep {F:Nat->Prop} (h:Keep F M M') (hf:¬ F i) (ha:Rd M i o n l):Rd M' i o n l:=⟨by rw [z40 (h.old i ha.2 hf)];exact ha.1,Nat.lt_of_lt_of_le ha.2 h.le⟩
theorem Rd1.keep {F:Nat->Prop} (h:Keep F M M') (hf:¬ F i) (ha:Rd1 M i o v):Rd1 M' i o v:=⟨by rw [z68 (h.old i ha.2 hf)];exact ha.1,Nat.lt_of_lt_of_le ha.2 h.le⟩
end

section
variable {P:Program} [Orc P] {sz:Nat} {E:Env} {M:Mem} {K:Env->Mem->Prop} {l:List XG} {d:Nat} {g:Option (Nat × Bool)} {x y a:XO} {i o n t:Nat} {v:LV} {ls:List LV}
theorem zl9:GOn E none:=trivial
theorem g_on {t:Nat} {w:Bool} (h:look E t=some (.bool w)):GOn E (some (t,w)):=h
theorem zna {t:Nat} {w:Bool} (h:look E t=some (.bool (!w))):GOff E (some (t,w)):=.inl h
theorem znb {t:Nat} {w:Bool} (h:look E t=some (.tup [])):GOff E (some (t,w)):=.inr h
theorem zk2 {i:XI} (h:xpure i E=some v):xstep P i E M=some (.val v M):=z08 h M
theorem zfq (ha:xval E a=some (.ptr (some (i,o)))) (h:Rd1 M i o v):xstep P (.ld1 a) E M=some (.val v M):=by
 show ob (xval E a) _=_
 rw [ha,z0]
 show ob (load1 M i o) _=_
 rw [h.1];rfl
theorem zfr (ha:xval E a=some (.ptr (some (i,o)))) (h:Rd M i o n ls):xstep P (.ldN n a) E M=some (.val (.agg ls) M):=by
 show ob (xval E a) _=_
 rw [ha,z0]
 show ob (loadN M i o n) _=_
 rw [h.1];rfl
theorem zi8 {z:List LV} (hf:allFlat z=true):xstep P (.new t z) E M=some (.val (.ptr (some (M.next,0))) (M.push (.cells true z t))):=by
 show guard' (allFlat z) _=_
 rw [hf];rfl
theorem zi5 (hx:xval E x=some v) (hf:allFlat v.cells=true):xstep P (.box t x) E M=some (.val (.ptr (some (M.next,0))) (M.push (.cells true v.cells t))):=by
 show ob (xval E x) _=_
 rw [hx,z0]
 show guard' (allFlat v.cells) _=_
 rw [hf];rfl
theorem zi6 {len:Nat} {z cs:List LV} {ps:List (Nat × Nat × XO)} {vs:List (Nat × Nat × LV)} (hp:xParts E ps=some vs) (hc:fillX vs (rep len z)=some cs) :
  xstep P (.bsl t n len z ps) E M=some (.val (.slice (some (M.next,0)) len true n) (M.push (.cells true cs t))):=by
 show ob (xParts E ps) _=_
 rw [hp,z0,hc];rfl
theorem zca:xstep P .mkmap E M=some (.val (.map (some M.next)) (M.push (.map [] [] 0))):=rfl
theorem zmp {cs cs':List LV} {ty:TypeId} (ha:xval E a=some (.ptr (some (i,o)))) (hx:xval E x=some v) (hm:At M i (.cells true cs ty)) (hn:Nat.beq v.cells.length n=true) (hf:allFlat v.cells=true) (hs:setList cs o v.cells=some cs') :
  xstep P (.st n a x) E M=some (.skip (M.upd i (some (.cells true cs' ty)))):=by
 show ob (xval E a) _=_
 rw [ha,z0,hx,z0]
 show guard' _ (guard' _ (ob (storeCs M i o v.cells) _))=_
 rw [hn,hf,zd,zd]
 unfold storeCs atCells
 rw [hm.1,z0]
 show ob (guard' true (ob (setList cs o v.cells) _)) _=_
 rw [hs];rfl
theorem zi7 {b:Nat} {len:Nat} {f:Bool} {e:Nat} {q:IntKind} {k:Nat} (hx:xval E x=some (.slice (some (i,o)) len f e)) (hy:xval E y=some (.int q (k:Int))) (hk:k < len) :
  xstep P (.iad none b x y) E M=some (.val (.ptr (some (i,o+k*b))) M):=by
 show ob (xval E x) _=_
 rw [hx,z0,hy,z0]
 show ob (guard' (Nat.ble (k+1) len) (fN (o+k*b) _)) _=_
 rw [Nat.ble_eq_true_of_le hk,zd,z0m];rfl
theorem zdh {b:Nat} {len:Nat} {f:Bool} {e:Nat} {q:IntKind} {k:Int} (hx:xval E x=some (.slice (some (i,o)) len f e)) (hy:xval E y=some (.int q k)) (hk:0<=k /\ k < len) :
  xstep P (.iad none b x y) E M=some (.val (.ptr (some (i,o+k.toNat*b))) M):=by
 obtain ⟨m,rfl⟩:=Int.eq_ofNat_of_zero_le hk.1
 exact zi7 hx hy (by omega)
theorem zjz {b:Nat} {len:Nat} {q:IntKind} {k:Int} (hx:xval E x=some (.ptr (some (i,o)))) (hy:xval E y=some (.int q k)) (hk:0<=k /\ k < len) :
  xstep P (.iad (some len) b x y) E M=some (.val (.ptr (some (i,o+k.toNat*b))) M):=by
 obtain ⟨m,rfl⟩:=Int.eq_ofNat_of_zero_le hk.1
 show ob (xval E x) _=_
 rw [hx,z0,hy,z0]
 show ob (guard' (Nat.ble (m+1) len) (fN (o+m*b) _)) _=_
 rw [Nat.ble_eq_true_of_le (by omega),zd,z0m];rfl
theorem zmh {b len:Nat} {ag:Bool} {cs:List LV} {q:IntKind} {k:Int} (hx:xval E x=some (.agg cs)) (hy:xval E y=some (.int q k)) (hk:0<=k /\ k < len) (hp:partL ag b (k.toNat*b) cs=some v) :
  xstep P (.idx len b ag x y) E M=some (.val v M):=by
 obtain ⟨m,rfl⟩:=Int.eq_ofNat_of_zero_le hk.1
 show ob (xval E x) _=_
 rw [hx,z0,hy,z0]
 show guard' (Nat.ble (m+1) len) (ob (partL ag b (m*b) cs) _)=_
 rw [Nat.ble_eq_true_of_le (by omega),zd,show partL ag b (m*b) cs=some v from hp];rfl

theorem znv {z:List LV} (hg:GOn E g) (hf:allFlat z=true) (hk:∀ n M',New M n (.cells true z t) M'->n=M.next->M'.next=M.next+1->XW μ P sz l ((d,.ptr (some (n,0))) :: E) M' K):XW μ P sz (⟨some d,.new t z,g⟩ :: l) E M K :=
 z7u hg (zi8 hf) (hk _ _ ⟨rfl,rfl⟩ rfl rfl)
theorem znt (hg:GOn E g) (hx:xval E x=some v) (hf:allFlat v.cells=true) (hk:∀ n M',New M n (.cells true v.cells t) M'->n=M.next->M'.next=M.next+1->XW μ P sz l ((d,.ptr (some (n,0))) :: E) M' K):XW μ P sz (⟨some d,.box t x,g⟩ :: l) E M K :=
 z7u hg (zi5 hx hf) (hk _ _ ⟨rfl,rfl⟩ rfl rfl)
theorem znu {len:Nat} {z cs:List LV} {ps:List (Nat × Nat × XO)} {vs:List (Nat × Nat × LV)} (hg:GOn E g) (hp:xParts E ps=some vs) (hc:fillX vs (rep len z)=some cs)
  (hk:∀ n' M',New M n' (.cells true cs t) M'->n'=M.next->M'.next=M.next+1->XW μ P sz l ((d,.slice (some (n',0)) len true n) :: E) M' K):XW μ P sz (⟨some d,.bsl t n len z ps,g⟩ :: l) E M K :=
 z7u hg (zi6 hp hc) (hk _ _ ⟨rfl,rfl⟩ rfl rfl)
theorem zjs (hg:GOn E g) (hk:∀ n M',New M n (.map [] [] 0) M'->n=M.next->M'.next=M.next+1->XW μ P sz l ((d,.map (some n)) :: E) M' K):XW μ P sz (⟨some d,.mkmap,g⟩ :: l) E M K :=
 z7u hg zca (hk _ _ ⟨rfl,rfl⟩ rfl rfl)
theorem x_st {cs cs':List LV} {ty:TypeId} (hg:GOn E g) (ha:xval E a=some (.ptr (some (i,o)))) (hx:xval E x=some v) (hm:At M i (.cells true cs ty)) (hn:Nat.beq v.cells.length n=true) (hf:allFlat v.cells=true) (hs:setList cs o v.cells=some cs')
  (hk:∀ M',Upd M i (.cells true cs' ty) M'->M'.next=M.next->At M' i (.cells true cs' ty)->XW μ P sz l E M' K):XW μ P sz (⟨none,.st n a x,g⟩ :: l) E M K :=
 zk8 hg (zmp ha hx hm hn hf hs) (hk _ ⟨rfl⟩ (Mem.next_upd _ _ _) (At.upd_same ⟨rfl⟩ hm))
theorem z05 {f:XO} {as:List XO} {gf:FuncId} {fi ca vs:List LV} (hg:GOn E g) (hf:xval E f=some (.func (.func gf) fi ca)) (has:xvals E as=some vs) (h:CallOk P gf (fi ++ vs ++ ca) M fun w M'=>w=v /\ M'=M)
  (hk:XW μ P sz l ((d,v) :: E) M K):XW μ P sz (⟨some d,.call f as,g⟩ :: l) E M K :=
 z6t hg hf has (Q:=fun w M'=>w=v /\ M'=M) h fun w M' ⟨h1,h2⟩=>by subst h1;subst h2;exact hk
theorem zn {f:XO} {as:List XO} {gf:FuncId} {fi ca vs:List LV} (hg:GOn E g) (hf:xval E f=some (.func (.func gf) fi ca)) (has:xvals E as=some vs) (h:CallOk P gf (fi ++ vs ++ ca) M fun w M'=>w=v /\ Grow M M')
  (hk:∀ M',Grow M M'->M.next<=M'.next->XW μ P sz l ((d,v) :: E) M' K):XW μ P sz (⟨some d,.call f as,g⟩ :: l) E M K :=
 z6t hg hf has (Q:=fun w M'=>w=v /\ Grow M M') h fun w M' ⟨h1,h2⟩=>by subst h1;exact hk M' h2 h2.le
theorem z0t {f:XO} {as:List XO} {fv:LV} {vs:List LV} {Q:LV->Mem->Prop} (hg:GOn E g) (hf:xval E f=some fv) (has:xvals E as=some vs) (h:AppOk P fv vs M Q)
  (hk:∀ w M',Q w M'->XW μ P sz l ((d,w) :: E) M' K):XW μ P sz (⟨some d,.call f as,g⟩ :: l) E M K:=z6t hg hf has h hk
theorem z1e {f:XO} {as:List XO} {fv:LV} {vs:List LV} {Q:LV->Mem->Prop} (hg:GOn E g) (hf:xval E f=some fv) (has:xvals E as=some vs) (h:AppOk P fv vs M Q)
  (hk:∀ w M',Q w M'->XW μ P sz l E M' K):XW μ P sz (⟨none,.call f as,g⟩ :: l) E M K:=z6t hg hf has h hk
theorem zl {i:XI} {v:LV} (hg:GOn E g) (hs:xstep P i E M=some (.val v M)) (hk:XW μ P sz l ((d,v) :: E) M K):XW μ P sz (⟨some d,i,g⟩ :: l) E M K:=z7u hg hs hk
theorem znw {i:XI} (hg:GOff E g) (hk:XW μ P sz l ((d,.tup []) :: E) M K):XW μ P sz (⟨some d,i,g⟩ :: l) E M K:=zi9 hg hk
theorem zm6 {i:XI} (hg:GOff E g) (hk:XW μ P sz l E M K):XW μ P sz (⟨none,i,g⟩ :: l) E M K:=zi9 hg hk

variable {st:List Mem} {k:Nat} {xs:List (Nat × Nat × (Mem->Prop))} {ld:List (XG × XK)}
theorem z5u {i:XI} {v:LV} (hg:GOn E g) (hs:xstep P i E M=some (.val v M)) (hk:XD P sz ld ((d,v) :: E) M st k xs K):XD P sz ((⟨some d,i,g⟩,.calm) :: ld) E M st k xs K:=zma hg hs hk
theorem zn2 {lo hi:Nat} (hg:GOn E g) (ha:xval E a=some (.ptr (some (i,o)))) (h:Rd1 M i o v) (hk:XD P sz ld ((d,v) :: E) M st k ((lo,hi,fun m=>Rd1 m i o v) :: xs) K) :
  XD P sz ((⟨some d,.ld1 a,g⟩,.reads lo hi) :: ld) E M st k xs K:=zfo hg (zfq ha h) _ (fun _ hm=>zfq ha hm) hk
theorem zn3 {lo hi:Nat} (hg:GOn E g) (ha:xval E a=some (.ptr (some (i,o)))) (h:Rd M i o n ls) (hk:XD P sz ld ((d,.agg ls) :: E) M st k ((lo,hi,fun m=>Rd m i o n ls) :: xs) K) :
  XD P sz ((⟨some d,.ldN n a,g⟩,.reads lo hi) :: ld) E M st k xs K:=zfo hg (zfr ha h) _ (fun _ hm=>zfr ha hm) hk
theorem zn4 {z:List LV} (hg:GOn E g) (hf:allFlat z=true) (hk:∀ n M',New M n (.cells true z t) M'->n=M.next->M'.next=M.next+1->XD P sz ld ((d,.ptr (some (n,0))) :: E) M' st k xs K):XD P sz ((⟨some d,.new t z,g⟩,.new) :: ld) E M st k xs K :=
 zc7 hg (zi8 hf) (hk _ _ ⟨rfl,rfl⟩ rfl rfl)
theorem zn0 (hg:GOn E g) (hx:xval E x=some v) (hf:allFlat v.cells=true) (hk:∀ n M',New M n (.cells true v.cells t) M'->n=M.next->M'.next=M.next+1->XD P sz ld ((d,.ptr (some (n,0))) :: E) M' st k xs K):XD P sz ((⟨some d,.box t x,g⟩,.new) :: ld) E M st k xs K :=
 zc7 hg (zi5 hx hf) (hk _ _ ⟨rfl,rfl⟩ rfl rfl)
theorem zn1 {len:Nat} {z cs:List LV} {ps:List (Nat × Nat × XO)} {vs:List (Nat × Nat × LV)} (hg:GOn E g) (hp:xParts E ps=some vs) (hc:fillX vs (rep len z)=some cs)
  (hk:∀ n' M',New M n' (.cells true cs t) M'->n'=M.next->M'.next=M.next+1->XD P sz ld ((d,.slice (some (n',0)) len true n) :: E) M' st k xs K):XD P sz ((⟨some d,.bsl t n len z ps,g⟩,.new) :: ld) E M st k xs K :=
 zc7 hg (zi6 hp hc) (hk _ _ ⟨rfl,rfl⟩ rfl rfl)
theorem zis (hg:GOn E g) (hk:∀ n M',New M n (.map [] [] 0) M'->n=M.next->M'.next=M.next+1->XD P sz ld ((d,.map (some n)) :: E) M' st k xs K):XD P sz ((⟨some d,.mkmap,g⟩,.new) :: ld) E M st k xs K :=
 zc7 hg zca (hk _ _ ⟨rfl,rfl⟩ rfl rfl)
theorem d_st {cs cs':List LV} {ty:TypeId} (hg:GOn E g) (ha:xval E a=some (.ptr (some (i,o)))) (hx:xval E x=some v) (hm:At M i (.cells true cs ty)) (hn:Nat.beq v.cells.length n=true) (hf:allFlat v.cells=true) (hs:setList cs o v.cells=some cs')
  (hk:∀ M',Upd M i (.cells true cs' ty) M'->M'.next=M.next->At M' i (.cells true cs' ty)->XD P sz ld E M' (M' :: st) (k+1) xs K):XD P sz ((⟨none,.st n a x,g⟩,.anchor) :: ld) E M st k xs K :=
 zjt hg (zmp ha hx hm hn hf hs) (hk _ ⟨rfl⟩ (Mem.next_upd _ _ _) (At.upd_same ⟨rfl⟩ hm))
theorem z04 {f:XO} {as:List XO} {gf:FuncId} {fi ca vs:List LV} (hg:GOn E g) (hf:xval E f=some (.func (.func gf) fi ca)) (has:xvals E as=some vs) (h:CallOk P gf (fi ++ vs ++ ca) M fun w M'=>w=v /\ M'=M)
  (hk:XD P sz ld ((d,v) :: E) M (M :: st) (k+1) xs K):XD P sz ((⟨some d,.call f as,g⟩,.anchor) :: ld) E M st k xs K :=
 z8q hg hf has (Q:=fun w M'=>w=v /\ M'=M) h fun w M' ⟨h1,h2⟩=>by subst h1;subst h2;exact hk
theorem zm {f:XO} {as:List XO} {gf:FuncId} {fi ca vs:List LV} (hg:GOn E g) (hf:xval E f=some (.func (.func gf) fi ca)) (has:xvals E as=some vs) (h:CallOk P gf (fi ++ vs ++ ca) M fun w M'=>w=v /\ Grow M M')
  (hk:∀ M',Grow M M'->M.next<=M'.next->XD P sz ld ((d,v) :: E) M' (M' :: st) (k+1) xs K):XD P sz ((⟨some d,.call f as,g⟩,.anchor) :: ld) E M st k xs K :=
 z8q hg hf has (Q:=fun w M'=>w=v /\ Grow M M') h fun w M' ⟨h1,h2⟩=>by subst h1;exact hk M' h2 h2.le
theorem z1q {f:XO} {as:List XO} {fv:LV} {vs:List LV} {Q:LV->Mem->Prop} (hg:GOn E g) (hf:xval E f=some fv) (has:xvals E as=some vs) (h:AppOk P fv vs M Q)
  (hk:∀ w M',Q w M'->XD P sz ld ((d,w) :: E) M' (M' :: st) (k+1) xs K):XD P sz ((⟨some d,.call f as,g⟩,.anchor) :: ld) E M st k xs K:=z8q hg hf has h hk
theorem zt {f:XO} {as:List XO} {gf:FuncId} {fi ca vs:List LV} (hg:GOn E g) (hf:xval E f=some (.func (.func gf) fi ca)) (has:xvals E as=some vs) (h:CallOk P gf (fi ++ vs ++ ca) M fun w M'=>w=v /\ M'=M)
  (hk:XD P sz ld ((d,v) :: E) M st k xs K):XD P sz ((⟨some d,.call f as,g⟩,.new) :: ld) E M st k xs K :=
 zc6 hg hf has (Q:=fun w M'=>w=v /\ M'=M) h fun w M' ⟨h1,h2⟩=>by subst h1;subst h2;exact hk
theorem zi {f:XO} {as:List XO} {gf:FuncId} {fi ca vs:List LV} (hg:GOn E g) (hf:xval E f=some (.func (.func gf) fi ca)) (has:xvals E as=some vs) (h:CallOk P gf (fi ++ vs ++ ca) M fun w M'=>w=v /\ Grow M M')
  (hk:∀ M',Grow M M'->M.next<=M'.next->XD P sz ld ((d,v) :: E) M' st k xs K):XD P sz ((⟨some d,.call f as,g⟩,.new) :: ld) E M st k xs K :=
 zc6 hg hf has (Q:=fun w M'=>w=v /\ Grow M M') h fun w M' ⟨h1,h2⟩=>by subst h1;exact hk M' h2 h2.le
theorem zn6 {i:XI} {lo hi:Nat} (hg:GOff E g) (hk:XD P sz ld ((d,.tup []) :: E) M st k xs K):XD P sz ((⟨some d,i,g⟩,.reads lo hi) :: ld) E M st k xs K:=zc8 hg ⟨rfl,rfl⟩ hk
theorem zcn {i:XI} (hg:GOff E g) (hk:XD P sz ld ((d,.tup []) :: E) M st k xs K):XD P sz ((⟨some d,i,g⟩,.calm) :: ld) E M st k xs K:=zc8 hg ⟨rfl,rfl⟩ hk
theorem zdv {i:XI} (hg:GOff E g) (hk:XD P sz ld ((d,.tup []) :: E) M st k xs K):XD P sz ((⟨some d,i,g⟩,.new) :: ld) E M st k xs K:=zc8 hg ⟨rfl,rfl⟩ hk
theorem z9a {i:XI} (hg:GOff E g) (hk:XD P sz ld ((d,.tup []) :: E) M (M :: st) (k+1) xs K):XD P sz ((⟨some d,i,g⟩,.anchor) :: ld) E M st k xs K:=zc8 hg ⟨rfl,rfl⟩ hk
theorem zjr {w b:Bool} {i:XI} {dd:Option Nat} (ht:look E t=some (.bool b)) (h1:b=true->XW μ P sz (⟨dd,i,some (t,w)⟩ :: l) ((t,.bool true) :: E) M K) (h0:b=false->XW μ P sz (⟨dd,i,some (t,w)⟩ :: l) ((t,.bool false) :: E) M K):XW μ P sz (⟨dd,i,some (t,w)⟩ :: l) E M K:=zcd ht h1 h0
theorem zir {w b:Bool} {i:XI} {dd:Option Nat} {kd:XK} (ht:look E t=some (.bool b)) (h1:b=true->XD P sz ((⟨dd,i,some (t,w)⟩,kd) :: ld) ((t,.bool true) :: E) M st k xs K) (h0:b=false->XD P sz ((⟨dd,i,some (t,w)⟩,kd) :: ld) ((t,.bool false) :: E) M st k xs K):XD P sz ((⟨dd,i,some (t,w)⟩,kd) :: ld) E M st k xs K:=zc9 ht h1 h0
theorem zm7 {c:Nat} {b:Bool} {y z:XO} (ht:look E c=some (.bool b)) (h1:b=true->XW μ P sz (⟨some d,.pick (.t c) y z,g⟩ :: l) ((c,.bool true) :: E) M K) (h0:b=false->XW μ P sz (⟨some d,.pick (.t c) y z,g⟩ :: l) ((c,.bool false) :: E) M K):XW μ P sz (⟨some d,.pick (.t c) y z,g⟩ :: l) E M K:=zcd ht h1 h0
theorem zl3 {c:Nat} {b:Bool} {y z:XO} {kd:XK} (ht:look E c=some (.bool b)) (h1:b=true->XD P sz ((⟨some d,.pick (.t c) y z,g⟩,kd) :: ld) ((c,.bool true) :: E) M st k xs K) (h0:b=false->XD P sz ((⟨some d,.pick (.t c) y z,g⟩,kd) :: ld) ((c,.bool false) :: E) M st k xs K):XD P sz ((⟨some d,.pick (.t c) y z,g⟩,kd) :: ld) E M st k xs K:=zc9 ht h1 h0
theorem zn5 (h:K E M) (ho:ObAll st k xs):XD P sz [] E M st k xs K:=zm8 ho h
end
theorem zlg {a b A B:Int} (ha:-A<=a /\ a<=A) (hb:-B<=b /\ b<=B):-(A*B)<=a*b /\ a*b<=A*B:=by
 have h0:0<=A:=by omega
 have h1:0<=B:=by omega
 have h2:(a*b).natAbs<=A.natAbs*B.natAbs:=by
  rw [Int.natAbs_mul]
  exact Nat.mul_le_mul (by omega) (by omega)
 have h3:((A.natAbs*B.natAbs:Nat):Int)=A*B:=by
  rw [Int.natCast_mul,Int.natAbs_of_nonneg h0,Int.natAbs_of_nonneg h1]
 omega
end PvL
end
section
namespace PvL
set_option linter.unusedSectionVars false
open Go
section
variable {P:Program} [Orc P] {sz:Nat} {fn:FuncId} {E:Env} {ms:List Dfr} {M:Mem} {K:Ex->Env->List Dfr->Mem->Prop}

structure LoopSt (P:Program) [Orc P] (fn:FuncId) (sz:Nat) (E:Env) (ps:List Tmp) (a b:XC) (lb:LoopState->Option Code->LB):Prop where
 is:∃ T ca cb d,EnvRel sz E T /\ cCode P sz ca=some a /\ cCode P sz cb=some b /\ (ps.all fun t=>Nat.ble (t+1) sz)=true /\ lb=fun st pend=>.loop st pend fn T ps ca cb d
def zipP:List Tmp->List LV->Env->Env
 | t :: ts,v :: vs,E=>zipP ts vs ((t,v) :: E)
 | _,_,E=>E
def KIter (l:Nat) (lb:LoopState->Option Code->LB) (E:Env) (ms:List Dfr) (K:Ex->Env->List Dfr->Mem->Prop) (_:LV) (M:Mem):Prop :=
 ∃ st pend,At M l (lb st pend) /\ st ≠ .busy /\ ∀ M',Upd M l (lb .exhausted pend) M'->M'.next=M.next->At M' l (lb .exhausted pend) ->
  match pend with|none=>K .norm E ms M' | some .ret=>K .ret E ms M' | some (.exit id)=>K (.exit id) E ms M' | _=>False
def KRound (l:Nat) (lb:LoopState->Option Code->LB) (Q:LV->Mem->Prop) (e:Ex) (_:Env) (_:List Dfr) (M:Mem):Prop :=
 ∃ st pend,At M l (lb st pend) /\
  match e with
  | .norm=>∀ M',Upd M l (lb .ready none) M'->M'.next=M.next->At M' l (lb .ready none)->Q (.bool true) M'
  | .ret=>∀ M',Upd M l (lb .done (some .ret)) M'->M'.next=M.next->At M' l (lb .done (some .ret))->Q (.bool false) M'
  | .exit id=>∀ M',Upd M l (lb .done (some (.exit id))) M'->M'.next=M.next->At M' l (lb .done (some (.exit id)))->Q (.bool false) M'
def KAssign (P:Program) [Orc P] (fn:FuncId) (sz:Nat) (l:Nat) (lb:LoopState->Option Code->LB) (b:XC) (Q:LV->Mem->Prop) (e:Ex) (E:Env) (ms:List Dfr) (M:Mem):Prop :=
 e=.norm /\ ∃ pend,At M l (lb .ready pend) /\ ∀ M',Upd M l (lb .busy pend) M'->M'.next=M.next->At M' l (lb .busy pend)->W .det P fn (some l) sz b E ms M' (KRound l lb Q)

theorem z5d:∀ {ps:List Tmp} {vs:List LV} {E:Env} {T:Tm},EnvRel sz E T->(ps.all fun t=>Nat.ble (t+1) sz)=true->vs.length=ps.length->∃ T',setParams ps vs T=some T' /\ EnvRel sz (zipP ps vs E) T'
 | [],[],E,T,he,_,_=>⟨T,rfl,he⟩
 | [],v :: vs,E,T,he,_,hl=>by cases hl
 | t :: ts,[],E,T,he,_,hl=>by cases hl
 | t :: ts,v :: vs,E,T,he,hp,hl=>by
  simp only [List.all_cons,Bool.and_eq_true] at hp
  obtain ⟨T1,h1,he1⟩:=he.cons (d:=t) (by have:=hp.1;rw [Nat.ble_eq] at this;exact this) v
  obtain ⟨T2,h2,he2⟩:=z5d he1 hp.2 (by simpa using hl)
  exact ⟨T2,by show ob (T.set t v) _=_;rw [h1];exact h2,he2⟩
theorem zib {α:Type} {lb:LoopState->Option Code->LB} {ps:List Tmp} {a b:XC} (hlb:LoopSt P fn sz E ps a b lb) {l:Nat} {st:LoopState} {pend:Option Code} (ha:At M l (lb st pend)) :
  ∃ T ca cb d,EnvRel sz E T /\ cCode P sz ca=some a /\ cCode P sz cb=some b /\ (ps.all fun t=>Nat.ble (t+1) sz)=true /\ (∀ st pend,lb st pend=.loop st pend fn T ps ca cb d) /\
   ∀ (k:LoopState->Option Code->FuncId->Tm->List Tmp->Code->Code->Nat->Option α),atLoop M l k=k st pend fn T ps ca cb d:=by
 obtain ⟨T,ca,cb,d,h1,h2,h3,h4,rfl⟩:=hlb.is
 refine ⟨T,ca,cb,d,h1,h2,h3,h4,fun _ _=>rfl,fun k=>?_⟩
 unfold atLoop
 rw [ha.1];rfl
theorem z6a {α:Type} {lb:LoopState->Option Code->LB} {T:Tm} {ps:List Tmp} {ca cb:Code} {d:Nat} (hlb:∀ st pend,lb st pend=.loop st pend fn T ps ca cb d) {l:Nat} {st:LoopState} {pend:Option Code} (ha:At M l (lb st pend))
  (k:LoopState->Option Code->FuncId->Tm->List Tmp->Code->Code->Nat->Option α):atLoop M l k=k st pend fn T ps ca cb d:=by
 unfold atLoop
 rw [ha.1,hlb];rfl
theorem zc0 {lb:LoopState->Option Code->LB} {ps:List Tmp} {a b:XC} (hlb:LoopSt P fn sz E ps a b lb) {l:Nat} {pend:Option Code} (ha:At M l (lb .ready pend)) {args:List LV} (hn:args.length=ps.length) {Q:LV->Mem->Prop}
  (h:W .det P fn (some l) sz a (zipP ps args E) [] M (KAssign P fn sz l lb b Q)):RoundOk P l args M Q:=by
 obtain ⟨T,ca,cb,d,h1,h2,h3,h4,h5,h6⟩:=zib (α:=Out) hlb ha
 obtain ⟨T1,h7,h8⟩:=z5d h1 h4 hn
 obtain ⟨e,T2,ms2,M2,h9,E2,h10,h11⟩:=h ca T1 h2 h8
 obtain ⟨rfl,pend2,h12,h13⟩:=h11
 have hu:Upd M2 l (lb .busy pend2) (M2.upd l (some (lb .busy pend2))):=⟨rfl⟩
 obtain ⟨e3,T3,ms3,M3,h14,E3,h15,st3,pend3,h16,h17⟩:=h13 _ hu (Mem.next_upd _ _ _) (At.upd_same hu h12) cb T2 h3 h10
 have key:∀ v M',roundEnd l e3 M3=some (.call v M')->om P (.round l args M)=some (.call v M'):=fun v M' hv=>by
  rw [zgr]
  show atLoop M l _=_
  rw [h6]
  show ob (setParams ps args T) _=_
  rw [h7,z0,h9]
  show atLoop M2 l _=_
  rw [z6a h5 h12]
  show outFrame (om P (.code fn (some l) cb T2 ms2 (M2.upd l (some (LB.loop .busy pend2 fn T ps ca cb d))))) _ _=_
  rw [<-h5,h14];exact hv
 have hend:∀ (o:Option Out),(match e3 with | .norm=>some (Out.call (.bool true) (M3.upd l (some (lb .ready none)))) | .ret=>some (Out.call (.bool false) (M3.upd l (some (lb .done (some .ret))))) | .exit id=>some (Out.call (.bool false) (M3.upd l (some (lb .done (some (.exit id)))))))=o->roundEnd l e3 M3=o:=fun o ho=>by
  rw [<-ho]
  unfold roundEnd
  rw [z6a h5 h16]
  cases e3<;>simp only [h5]<;>rfl
 cases e3 with
 | norm=>exact ⟨_,_,key _ _ (hend _ rfl),h17 _ ⟨rfl⟩ (Mem.next_upd _ _ _) (At.upd_same ⟨rfl⟩ h16)⟩
 | ret=>exact ⟨_,_,key _ _ (hend _ rfl),h17 _ ⟨rfl⟩ (Mem.next_upd _ _ _) (At.upd_same ⟨rfl⟩ h16)⟩
 | exit id=>exact ⟨_,_,key _ _ (hend _ rfl),h17 _ ⟨rfl⟩ (Mem.next_upd _ _ _) (At.upd_same ⟨rfl⟩ h16)⟩
theorem zlr {ro:Option Nat} {T:Tm} {lb:LoopState->Option Code->LB} {T':Tm} {ps:List Tmp} {ca cb:Code} {d l:Nat} (h5:∀ st pend,lb st pend=.loop st pend fn T' ps ca cb d) (he:EnvRel sz E T) {v:LV} (h:KIter l lb E ms K v M) :
  ∃ e T' ms' M',rfEnd (om P) fn ro l T ms M=some (.code e T' ms' M') /\ ∃ E',EnvRel sz E' T' /\ K e E' ms' M':=by
 obtain ⟨st,pend,h1,h2,h3⟩:=h
 have h3:=h3 _ ⟨rfl⟩ (Mem.next_upd _ _ _) (At.upd_same ⟨rfl⟩ h1)
 unfold rfEnd
 rw [z6a h5 h1]
 have hb:∀ {α:Type} (k:Option α),notBusy st k=k:=fun k=>by cases st<;>first|rfl|exact absurd rfl h2
 rw [hb]
 unfold rfFin
 cases pend with
 | none=>rw [z3h,<- h5];exact ⟨.norm,T,ms,_,rfl,E,he,h3⟩
 | some c =>
  rw [z19,<- h5]
  cases c with
  | ret=>exact ⟨.ret,T,ms,_,by rw [z8g];rfl,E,he,h3⟩
  | exit id=>exact ⟨.exit id,T,ms,_,by rw [z8g];rfl,E,he,h3⟩
  | _=>exact h3.elim
theorem zci {code:Code} {f:XO} {ps:List Tmp} {a b:XC} (hc:cCode P sz code=some (.rfun f ps a b)):∃ f' ps' a' b',code=.rangeFunc f' ps' a' b' /\ cX f'=some f /\ ps'.toList=ps /\ cCode P sz a'=some a /\ cCode P sz b'=some b /\ (ps.all fun t=>Nat.ble (t+1) sz)=true:=by
 cases code with
 | rangeFunc f' ps' a' b' =>
  simp only [cCode] at hc
  split at hc
  ·rename_i h1 h2 h3 h4;cases hc;exact ⟨f',ps',a',b',rfl,h1,rfl,h2,h3,h4⟩
  ·cases hc
 | region _ _ d=>cases d<;>simp only [cCode] at hc<;>(repeat' split at hc)<;>cases hc
 | skip|label|ret|goto|refuse|exit=>cases hc
 | _=>simp only [cCode] at hc;split at hc<;>cases hc
theorem zjg {ro:Option Nat} {f:XO} {ps:List Tmp} {a b:XC} {gf:FuncId} {fi ca:List LV} (hf:xval E f=some (.func (.func gf) fi ca)) {f':Operand} {ps':Array Tmp} {a' b':Code} {T:Tm}
  (h1:cX f'=some f) (h2:ps'.toList=ps) (h3:cCode P sz a'=some a) (h4:cCode P sz b'=some b) (h5:(ps.all fun t=>Nat.ble (t+1) sz)=true) (he:EnvRel sz E T) (d:Nat)
  (h:∀ lb l M2,LoopSt P fn sz E ps a b lb->New M l (lb .ready none) M2->l=M.next->M2.next=M.next+1->CallOk P gf (fi ++ [.func (.yield l) [] []] ++ ca) M2 (KIter l lb E ms K)) :
  ∃ e T' ms' M',rfCall (om P) fn ro f' ps' a' b' d T ms M=some (.code e T' ms' M') /\ ∃ E',EnvRel sz E' T' /\ K e E' ms' M':=by
 have hlb:LoopSt P fn sz E ps a b (fun st pend=>.loop st pend fn T ps a' b' d):=⟨T,a',b',d,he,h3,h4,h5,rfl⟩
 obtain ⟨v,M3,h6,h7⟩:=h _ M.next _ hlb ⟨rfl,rfl⟩ rfl rfl
 unfold rfCall
 rw [Mem.new_eq,zo he h1 hf,z0,h2]
 show ∃ e T' ms' M',outCallD (om P _) _ _=_ /\ _
 rw [h6]
 exact zlr (fun _ _=>rfl) he h7
theorem zi3 {f:XO} {ps:List Tmp} {a b:XC} {gf:FuncId} {fi ca:List LV} (hf:xval E f=some (.func (.func gf) fi ca))
  (h:∀ lb d l M1 M2,LoopSt P fn sz E ps a b lb->New M d .defr M1->d=M.next->M1.next=M.next+1->New M1 l (lb .ready none) M2->l=M1.next->M2.next=M1.next+1 ->
   CallOk P gf (fi ++ [.func (.yield l) [] []] ++ ca) M2 (KIter l lb E (.mark d :: ms) K)):W .det P fn none sz (.rfun f ps a b) E ms M K:=w_of fun code T hc he=>by
 obtain ⟨f',ps',a',b',rfl,h1,h2,h3,h4,h5⟩:=zci hc
 show ∃ e T' ms' M',cRangeFunc (om P) fn none f' ps' a' b' T ms M=_ /\ _
 unfold cRangeFunc
 rw [z3h,Mem.new_eq]
 exact zjg hf h1 h2 h3 h4 h5 he M.next fun lb l M2 hlb hn e1 e2=>h lb M.next l _ M2 hlb ⟨rfl,rfl⟩ rfl rfl hn e1 e2
theorem zgi {l:Nat} {lb:LoopState->Option Code->LB} {b:XC} {Q:LV->Mem->Prop} {pend:Option Code} (ha:At M l (lb .ready pend)) (h:∀ M',Upd M l (lb .busy pend) M'->M'.next=M.next->At M' l (lb .busy pend)->W .det P fn (some l) sz b E ms M' (KRound l lb Q)):KAssign P fn sz l lb b Q .norm E ms M:=⟨rfl,pend,ha,h⟩
theorem zj0 {l:Nat} {lb:LoopState->Option Code->LB} {Q:LV->Mem->Prop} {st:LoopState} {pend:Option Code} (ha:At M l (lb st pend)) (h:∀ M',Upd M l (lb .ready none) M'->M'.next=M.next->At M' l (lb .ready none)->Q (.bool true) M'):KRound l lb Q .norm E ms M:=⟨st,pend,ha,h⟩
theorem zaq {l:Nat} {lb:LoopState->Option Code->LB} {Q:LV->Mem->Prop} {st:LoopState} {pend:Option Code} (ha:At M l (lb st pend)) (h:∀ M',Upd M l (lb .done (some .ret)) M'->M'.next=M.next->At M' l (lb .done (some .ret))->Q (.bool false) M'):KRound l lb Q .ret E ms M:=⟨st,pend,ha,h⟩
theorem z9n {l id:Nat} {lb:LoopState->Option Code->LB} {Q:LV->Mem->Prop} {st:LoopState} {pend:Option Code} (ha:At M l (lb st pend)) (h:∀ M',Upd M l (lb .done (some (.exit id))) M'->M'.next=M.next->At M' l (lb .done (some (.exit id)))->Q (.bool false) M'):KRound l lb Q (.exit id) E ms M:=⟨st,pend,ha,h⟩

def Yields (P:Program) [Orc P] (gf:FuncId) (fi ca:List LV) (S:Nat->Prop) (xs:List (List LV)) (M0:Mem):Prop :=
 ∀ (l:Nat) (A:Nat->Prop) (I:Nat->Mem->Prop) (D:Mem->Prop),
  (∀ i,A i->i < M0.next)->(∀ i,S i->¬ A i) ->
  (∀ k M M',I k M->M.next<=M'.next->(∀ i,i < M0.next->M'.get i=M.get i)->I k M') ->
  (∀ M M',D M->M.next<=M'.next->(∀ i,i < M0.next->M'.get i=M.get i)->D M') ->
  (∀ k x,xs[k]?=some x->∀ M,M0.next<=M.next->I k M->RoundOk P l x M fun v M'=>Keep A M M' /\ ((v=.bool true /\ I (k+1) M') ∨ (v=.bool false /\ D M'))) ->
  I 0 M0->CallOk P gf (fi ++ [.func (.yield l) [] []] ++ ca) M0 fun _ M'=>Keep A M0 M' /\ (I xs.length M' ∨ D M')
end
abbrev I (n:Int):LV:=.int .i64 n
theorem zld {X Y:Prop} [Decidable X] [Decidable Y] (h:X ↔ Y):packed [LV.bool (decide X)]=LV.bool (decide Y):=congrArg LV.bool (decide_eq_decide.2 h)
theorem lb_f {Y:Prop} [Decidable Y] (h:¬ Y):packed [LV.bool false]=LV.bool (decide Y):=congrArg LV.bool (decide_eq_false h).symm
theorem lb_t {Y:Prop} [Decidable Y] (h:Y):packed [LV.bool true]=LV.bool (decide Y):=congrArg LV.bool (decide_eq_true h).symm
theorem resN {E:Env} {M:Mem} {t n i o:Nat} {l:List LV} {rs:List XR} {vs:List LV} (h:look E t=some (.ptr (some (i,o)))) (hv:Rd M i o n l) (hr:ResX E M rs vs):ResX E M (.cellN t n :: rs) (.agg l :: vs):=.cellN h hv.1 hr
theorem res1 {E:Env} {M:Mem} {t i o:Nat} {v:LV} {rs:List XR} {vs:List LV} (h:look E t=some (.ptr (some (i,o)))) (hv:Rd1 M i o v) (hr:ResX E M rs vs):ResX E M (.cell1 t :: rs) (v :: vs):=.cell1 h hv.1 hr
end PvL
end
section
namespace PvL
set_option linter.unusedSectionVars false
open Go
variable {μ:Md}
section
variable {M M' M0:Mem} {i j n o:Nat} {lb lb':LB} {F G:Nat->Prop}
theorem At.same (ha:At M i lb) (hle:M.next<=M'.next) (h:M'.get i=M.get i):At M' i lb:=⟨by rw [h];exact ha.1,Nat.lt_of_lt_of_le ha.2 hle⟩
theorem Rd.same {l:List LV} (ha:Rd M i o n l) (hle:M.next<=M'.next) (h:M'.get i=M.get i):Rd M' i o n l:=⟨by rw [z40 h];exact ha.1,Nat.lt_of_lt_of_le ha.2 hle⟩
theorem At.lt (ha:At M i lb):i < M.next:=ha.2
theorem Keep.refl (F:Nat->Prop) (M:Mem):Keep F M M:=⟨Nat.le_refl _,fun _ _ _=>rfl⟩
theorem Keep.trans (h:Keep F M0 M) (h':Keep G M M') (hg:∀ i,G i->F i ∨ M0.next<=i):Keep F M0 M' :=
 ⟨Nat.le_trans h.le h'.le,fun i hi hf=>by
  rw [h'.old i (Nat.lt_of_lt_of_le hi h.le) (fun hgi=>(hg i hgi).elim hf (fun hl=>absurd hi (by omega)))]
  exact h.old i hi hf⟩
theorem Keep.weaken (h:Keep F M M') (hg:∀ i,F i->G i):Keep G M M':=⟨h.le,fun i hi hf=>h.old i hi fun hF=>hf (hg i hF)⟩
theorem Keep.new (h:Keep F M0 M) (h':New M n lb M'):Keep F M0 M' :=
 ⟨by rw [h'.next];exact Nat.le_succ_of_le h.le,fun i hi hf=>by rw [h'.grow.old i (Nat.lt_of_lt_of_le hi h.le)];exact h.old i hi hf⟩
theorem Keep.upd (h:Keep F M0 M) (h':Upd M i lb M') (hi:F i ∨ M0.next<=i):Keep F M0 M' :=
 ⟨by rw [h'.next];exact h.le,fun j hj hf=>by
  rw [z4x h' (fun e=>by subst e;exact hi.elim hf (fun hl=>absurd hj (by omega)))];exact h.old j hj hf⟩
theorem Keep.grow (h:Keep F M0 M) (h':Grow M M'):Keep F M0 M' :=
 ⟨Nat.le_trans h.le h'.le,fun i hi hf=>by rw [h'.old i (Nat.lt_of_lt_of_le hi h.le)];exact h.old i hi hf⟩
theorem Keep.to_grow (h:Keep F M0 M) (hF:∀ i,F i->M0.next<=i):Grow M0 M:=⟨h.le,fun i hi=>h.old i hi fun hf=>absurd (hF i hf) (by omega)⟩
theorem Grow.to_keep (h:Grow M M') (F:Nat->Prop):Keep F M M':=⟨h.le,fun i hi _=>h.old i hi⟩
theorem Keep.at {F:Nat->Prop} (h:Keep F M M') (ha:At M i lb) (hf:¬ F i):At M' i lb:=ha.keep h hf
@[reducible,simp] def dnat:List Dfr->List Nat
 | []=>[]
 | .mark d :: ds=>d :: dnat ds
 | .call _ _ :: ds=>dnat ds
@[reducible,simp] def onlyMarks:List Dfr->Bool
 | []=>true
 | .mark _ :: ds=>onlyMarks ds
 | .call _ _ :: _=>false
theorem zbs:∀ {ms:List Dfr} {M:Mem},onlyMarks ms=true->(dnat ms).Nodup->(∀ d ∈ dnat ms,At M d .defr)->∃ M',Marks ms M M' /\ M'.next=M.next /\ ∀ i,i ∉ dnat ms->M'.get i=M.get i
 | [],M,_,_,_=>⟨M,rfl,rfl,fun _ _=>rfl⟩
 | .call _ _ :: _,_,ho,_,_=>by cases ho
 | .mark d :: ds,M,ho,hn,hd=>by
  have hn:(d :: dnat ds).Nodup:=hn
  have hd:∀ e ∈ d :: dnat ds,At M e .defr:=hd
  rw [List.nodup_cons] at hn
  have h1:=hd d List.mem_cons_self
  have hget:∀ i,i ≠ d->(M.upd d none).get i=M.get i:=fun i hi=>by rw [Mem.get_upd,if_neg hi]
  obtain ⟨M',h3,h5,h6⟩:=zbs (ms:=ds) (M:=M.upd d none) ho hn.2 (fun e he=>by
   have k1:=hd e (List.mem_cons_of_mem _ he)
   have hne:e ≠ d:=fun h=>by subst h;exact hn.1 he
   exact ⟨by rw [hget e hne];exact k1.1,by rw [Mem.next_upd];exact k1.2⟩)
  refine ⟨M',⟨h1.1,h3⟩,by rw [h5,Mem.next_upd],fun i hi=>?_⟩
  have hi:i ∉ d :: dnat ds:=hi
  rw [h6 i (fun h=>hi (List.mem_cons_of_mem _ h)),hget i (fun h=>hi (by rw [h];exact List.mem_cons_self))]
structure Unmark (ms:List Nat) (M M':Mem):Prop where
 next:M'.next=M.next
 get:∀ i,i ∉ ms->M'.get i=M.get i
theorem Keep.unmark {ms:List Nat} (h:Keep F M0 M) (h':Unmark ms M M') (hms:∀ d ∈ ms,F d ∨ M0.next<=d):Keep F M0 M' :=
 ⟨by rw [h'.next];exact h.le,fun i hi hf=>by rw [h'.get i (fun hm=>(hms i hm).elim hf fun hl=>absurd hl (by omega))];exact h.old i hi hf⟩
theorem Grow.unmark {ms:List Nat} (h:Grow M0 M) (h':Unmark ms M M') (hms:∀ d ∈ ms,M0.next<=d):Grow M0 M' :=
 ⟨by rw [h'.next];exact h.le,fun i hi=>by rw [h'.get i (fun hm=>absurd (hms i hm) (by omega))];exact h.old i hi⟩
theorem At.unmark {ms:List Nat} (h':Unmark ms M M') (hi:i ∉ ms) (ha:At M i lb):At M' i lb:=ha.same (by rw [h'.next];exact Nat.le_refl _) (h'.get i hi)
end
section
variable {P:Program} [Orc P] {sz:Nat} {fn:FuncId} {E:Env} {ms:List Dfr} {M:Mem}
theorem z65 {res:List XR} {Q:LV->Mem->Prop} {e:Ex} (he:e=.norm ∨ e=.ret) (hn:(dnat ms).Nodup) (hd:∀ d ∈ dnat ms,At M d .defr)
  (h:∀ M',Unmark (dnat ms) M M'->∃ vs,ResX E M' res vs /\ Q (packed vs) M') (ho:onlyMarks ms=true:=by rfl):KFun res Q e E ms M:=by
 obtain ⟨M',h1,h3,h4⟩:=zbs ho hn hd
 obtain ⟨vs,h5,h6⟩:=h M' ⟨h3,h4⟩
 rcases he with rfl|rfl
 ·exact ⟨M',h1,vs,h5,h6⟩
 ·exact ⟨M',h1,vs,h5,h6⟩
def KStep (Inv:Nat->Env->List Dfr->Mem->Prop) (n:Nat) (K:Ex->Env->List Dfr->Mem->Prop) (e:Ex) (E:Env) (ms:List Dfr) (M:Mem):Prop :=
 match e with | .norm=>∃ m,m < n /\ Inv m E ms M | .ret=>K .ret E ms M | .exit id=>K (.exit id) E ms M
theorem zx {ro:Option Nat} {b:XC} {K:Ex->Env->List Dfr->Mem->Prop} (Inv:Nat->Env->List Dfr->Mem->Prop) (hstep:∀ n E ms M,Inv n E ms M->W μ P fn ro sz b E ms M (KStep Inv n K)) :
  ∀ n E ms M,Inv n E ms M->W μ P fn ro sz (.loop b) E ms M K:=by
 intro n
 induction n using Nat.strongRecOn with
 | ind n ih =>
  intro E ms M h
  refine zi2 (zm3 (hstep n E ms M h) fun e E ms M hk=>?_)
  cases e with
  | norm=>obtain ⟨m,h1,h2⟩:=hk;exact ih m h1 E ms M h2
  | ret=>exact hk
  | exit i=>exact hk
theorem z1h {Inv:Nat->Env->List Dfr->Mem->Prop} {n:Nat} {K:Ex->Env->List Dfr->Mem->Prop} (m:Nat) (hm:m < n) (h:Inv m E ms M):KStep Inv n K .norm E ms M:=⟨m,hm,h⟩
theorem zcw {Inv:Nat->Env->List Dfr->Mem->Prop} {n:Nat} {K:Ex->Env->List Dfr->Mem->Prop} (h:K .ret E ms M):KStep Inv n K .ret E ms M:=h
theorem zar {Inv:Nat->Env->List Dfr->Mem->Prop} {n i:Nat} {K:Ex->Env->List Dfr->Mem->Prop} (h:K (.exit i) E ms M):KStep Inv n K (.exit i) E ms M:=h
end
section
variable {l:Nat} {lb:LoopState->Option Code->LB} {E:Env} {ms:List Dfr} {K:Ex->Env->List Dfr->Mem->Prop} {v:LV} {M:Mem} {st:LoopState}
theorem zhv (ha:At M l (lb st none)) (hst:st ≠ .busy) (h:∀ M',Upd M l (lb .exhausted none) M'->M'.next=M.next->At M' l (lb .exhausted none)->K .norm E ms M'):KIter l lb E ms K v M:=⟨st,none,ha,hst,h⟩
theorem zct (ha:At M l (lb st (some .ret))) (hst:st ≠ .busy) (h:∀ M',Upd M l (lb .exhausted (some .ret)) M'->M'.next=M.next->At M' l (lb .exhausted (some .ret))->K .ret E ms M'):KIter l lb E ms K v M:=⟨st,some .ret,ha,hst,h⟩
end
def MkAt (V:Nat->LV) (lb:LB) (M:Mem) (w:LV) (M':Mem):Prop:=∃ p,w=V p /\ At M' p lb /\ M.next<=p /\ p < M'.next /\ Grow M M'
section
variable {P:Program} [Orc P] {sz:Nat} {E:Env} {M:Mem} {K:Env->Mem->Prop} {l:List XG} {d:Nat} {g:Option (Nat × Bool)} {st:List Mem} {k:Nat} {xs:List (Nat × Nat × (Mem->Prop))} {ld:List (XG × XK)}
theorem zi4 {f:XO} {as:List XO} {gf:FuncId} {fi ca vs:List LV} {V:Nat->LV} {lb:LB} (hg:GOn E g) (hf:xval E f=some (.func (.func gf) fi ca)) (has:xvals E as=some vs) (h:CallOk P gf (fi ++ vs ++ ca) M (MkAt V lb M))
  (hk:∀ p M',At M' p lb->M.next<=p->p < M'.next->Grow M M'->M.next<=M'.next->XW μ P sz l ((d,V p) :: E) M' K):XW μ P sz (⟨some d,.call f as,g⟩ :: l) E M K :=
 z6t hg hf has (Q:=MkAt V lb M) h fun w M' ⟨p,h1,h2,h3,h4,h5⟩=>by subst h1;exact hk p M' h2 h3 h4 h5 h5.le
theorem zhq {f:XO} {as:List XO} {gf:FuncId} {fi ca vs:List LV} {V:Nat->LV} {lb:LB} (hg:GOn E g) (hf:xval E f=some (.func (.func gf) fi ca)) (has:xvals E as=some vs) (h:CallOk P gf (fi ++ vs ++ ca) M (MkAt V lb M))
  (hk:∀ p M',At M' p lb->M.next<=p->p < M'.next->Grow M M'->M.next<=M'.next->XD P sz ld ((d,V p) :: E) M' (M' :: st) (k+1) xs K):XD P sz ((⟨some d,.call f as,g⟩,.anchor) :: ld) E M st k xs K :=
 z8q hg hf has (Q:=MkAt V lb M) h fun w M' ⟨p,h1,h2,h3,h4,h5⟩=>by subst h1;exact hk p M' h2 h3 h4 h5 h5.le
end
end PvL
end
section
namespace PvL
set_option linter.unusedSectionVars false
set_option linter.unusedVariables false
open Go
variable {μ:Md}

structure Kill (M:Mem) (j:Nat) (n:Nat) (lb:LB) (M':Mem):Prop where
 eq:M'=(M.upd j none).push lb
 name:n=M.next
section
variable {M M' M0:Mem} {i j n o:Nat} {lb lb':LB} {F G:Nat->Prop}
theorem Kill.next (h:Kill M j n lb M'):M'.next=M.next+1:=by rw [h.eq];show (M.upd j none).next+1=_;rw [Mem.next_upd]
theorem Kill.same (h:Kill M j n lb M'):At M' n lb:=by
 refine ⟨?_,by rw [h.next,h.name];omega⟩
 rw [h.eq,h.name,Mem.get_push,Mem.next_upd,if_pos rfl]
theorem Kill.keep (h:Kill M j n lb M'):Keep (fun i=>i=j) M M':=by
 refine ⟨by rw [h.next];omega,fun i hi hne=>?_⟩
 rw [h.eq,Mem.get_push,Mem.next_upd,if_neg (by omega),Mem.get_upd,if_neg hne]
theorem Keep.to_grow' {M1:Mem} (h:Grow M0 M) (h':Keep F M M1) (hF:∀ i,F i->M0.next<=i):Grow M0 M1 :=
 ⟨Nat.le_trans h.le h'.le,fun i hi=>by rw [h'.old i (Nat.lt_of_lt_of_le hi h.le) (fun hf=>absurd (hF i hf) (by omega))];exact h.old i hi⟩
end

theorem z7t {n:Nat} {l:List LV} (h:n<=l.length):take' n l=some (l.take n):=z0s.2 ⟨h,rfl⟩
theorem z2g {sz n i o:Nat} {f:Bool} {e len:Nat} {M:Mem} {own:Bool} {cs:List LV} {ty:TypeId} (ha:At M i (.cells own cs ty)) (h:o+n*sz<=cs.length) :
  firstL sz n (.slice (some (i,o)) len f e) M=some ((cs.drop o).take (n*sz)):=by
 show ifb (Nat.beq n 0) (some []) (loadN M i o (n*sz))=_
 by_cases hn:n=0
 ·subst hn
  rw [show Nat.beq 0 0=true from rfl,zy,Nat.zero_mul,List.take_zero]
 ·rw [show Nat.beq n 0=false by cases hb:Nat.beq n 0 with|false=>rfl|true=>exact absurd (Nat.eq_of_beq_eq_true hb) hn,ze]
  unfold loadN atCells
  rw [ha.1,z0]
  show take' (n*sz) (drop' o cs)=_
  rw [z0b,z7t (by rw [List.length_drop];omega)]
theorem ze3 {α:Type} {sz:Nat} {enc:α->List LV} {l:List α} {M:Mem} {i o:Nat} {len:Nat} {f:Bool} {e:Nat} (henc:∀ x ∈ l,(enc x).length=sz)
  (h:∀ k (hk:k < l.length),Rd M i (o+k*sz) sz (enc l[k])):firstL sz l.length (.slice (some (i,o)) len f e) M=some (l.flatMap enc):=by
 cases l with
 | nil=>rfl
 | cons x xs =>
  obtain ⟨h0,hi⟩:=h 0 (by simp)
  unfold loadN atCells at h0
  obtain ⟨lb,h1,h2⟩:=za.1 h0
  cases lb with
  | cells own cs ty =>
   have ha:At M i (.cells own cs ty):=⟨h1,hi⟩
   have hp:∀ k (hk:k < (x :: xs).length),o+k*sz+sz<=cs.length /\ (cs.drop (o+k*sz)).take sz=enc (x :: xs)[k] ∨ sz=0:=fun k hk=>by
    obtain ⟨g0,_⟩:=h k hk
    unfold loadN atCells at g0
    rw [h1,z0] at g0
    have g0:take' sz (drop' (o+k*sz) cs)=some (enc (x :: xs)[k]):=g0
    obtain ⟨g1,g2⟩:=z0s.1 g0
    rw [z0b,List.length_drop] at g1
    rw [z0b] at g2
    by_cases hz:sz=0
    ·exact .inr hz
    ·exact .inl ⟨by omega,g2.symm⟩
   by_cases hz:sz=0
   ·subst hz
    have e0:(x :: xs).flatMap enc=[]:=by
     rw [List.flatMap_eq_nil_iff]
     intro y hy
     exact List.eq_nil_of_length_eq_zero (henc y hy)
    rw [e0]
    show ifb (Nat.beq (x :: xs).length 0) (some []) (loadN M i o ((x :: xs).length*0))=_
    rw [show Nat.beq (x :: xs).length 0=false from rfl,ze,Nat.mul_zero]
    unfold loadN atCells
    rw [h1,z0];rfl
   ·have hp:∀ k (hk:k < (x :: xs).length),o+k*sz+sz<=cs.length /\ (cs.drop (o+k*sz)).take sz=enc (x :: xs)[k]:=fun k hk=>(hp k hk).resolve_right hz
    have hend:o+(x :: xs).length*sz<=cs.length:=by
     have:=(hp xs.length (by simp)).1
     simp only [List.length_cons,Nat.add_mul,Nat.one_mul];omega
    rw [z2g ha hend]
    congr 1
    have key:∀ n,n<=(x :: xs).length->(cs.drop o).take (n*sz)=((x :: xs).take n).flatMap enc:=by
     intro n
     induction n with
     | zero=>intro _;simp
     | succ n ih =>
      intro hn
      rw [Nat.add_mul,Nat.one_mul,List.take_add,ih (by omega),List.drop_drop,(hp n (by omega)).2,List.take_succ_eq_append_getElem (by omega),List.flatMap_append]
      simp
    have:=key (x :: xs).length (Nat.le_refl _)
    rw [List.take_length] at this
    exact this
  | _=>cases h2

section
variable {P:Program} [Orc P] {sz:Nat} {E:Env} {M:Mem} {K:Env->Mem->Prop} {l:List XG} {d:Nat} {g:Option (Nat × Bool)} {s x a y z':XO} {i o n t:Nat} {v:LV} {ls:List LV}
 {st:List Mem} {k:Nat} {xs:List (Nat × Nat × (Mem->Prop))} {ld:List (XG × XK)}
theorem beq0 {n:Nat} (h:0 < n):Nat.beq n 0=false:=by cases hb:Nat.beq n 0 with|false=>rfl|true=>exact absurd (Nat.eq_of_beq_eq_true hb) (by omega)
theorem zbb {len n by':Nat} (hb:(2*(len+n)+2048)*by'<=140737488355328):(5*(len+n) / 4+2048)*by'<=281474976710656:=by
 have:(5*(len+n) / 4+2048)*by'<=(2*(len+n)+2048)*by':=Nat.mul_le_mul_right _ (by omega)
 omega
theorem z4y {e q by':Nat} {z:List LV} {aa:Option (Nat × Nat)} {len:Nat} {f:Bool} {es n:Nat} {xv:LV} {old new:List LV} (hs:xval E s=some (.slice aa len f es)) (hx:xval E x=some xv) (hn:lenOfL xv=some n) (h0:0 < n)
  (hb:(2*(len+n)+2048)*by'<=140737488355328) (hz:(Nat.ble 1 q && (Nat.ble 1 by' && Nat.beq z.length q))=true) (ho:firstL q len (.slice aa len f es) M=some old) (hw:firstL q n xv M=some new) (hf:allFlat new=true)
  (hfull:aa=none ∨ f=true):xstep P (.app e q by' z s x) E M=some (.val (.slice (some (M.next,0)) (len+n) false q) (M.push (.cells true (old ++ new) (apE e)))):=by
 show ob (xval E s) _=_
 rw [hs,z0,hx,z0]
 show ob (lenOfL xv) _=_
 rw [hn,z0,beq0 h0,ze,hz,Nat.ble_eq_true_of_le (zbb hb)]
 show ob (firstL q len _ M) _=_
 rw [ho,z0,hw,z0,hf,zd]
 rcases hfull with rfl|rfl
 ·rfl
 ·cases aa<;>rfl
theorem z3m {e q by':Nat} {z:List LV} {j off len n:Nat} {xv:LV} {old new cs:List LV} {ty:TypeId} (hs:xval E s=some (.slice (some (j,off)) len false q)) (hx:xval E x=some xv) (hn:lenOfL xv=some n) (h0:0 < n)
  (hb:(2*(len+n)+2048)*by'<=140737488355328) (hz:(Nat.ble 1 q && (Nat.ble 1 by' && Nat.beq z.length q))=true) (ho:firstL q len (.slice (some (j,off)) len false q) M=some old) (hw:firstL q n xv M=some new) (hf:allFlat new=true)
  (ha:At M j (.cells true cs ty)) (hty:(Nat.beq ty e || Nat.beq ty (apE e))=true:=by rfl):xstep P (.app e q by' z s x) E M=some (.val (.slice (some (M.next,0)) (len+n) false q) ((M.upd j none).push (.cells true (old ++ new) (apE e)))):=by
 show ob (xval E s) _=_
 rw [hs,z0,hx,z0]
 show ob (lenOfL xv) _=_
 rw [hn,z0,beq0 h0,ze,hz,Nat.ble_eq_true_of_le (zbb hb)]
 show ob (firstL q len _ M) _=_
 rw [ho,z0,hw,z0,hf,zd]
 show guard' (Nat.beq q q) (atCells M j _)=_
 rw [show Nat.beq q q=true by simp,zd]
 unfold atCells
 rw [ha.1,z0]
 show guard' (true && (Nat.beq ty e || Nat.beq ty (apE e))) _=_
 rw [hty,Bool.and_self,zd]
 show some (R1.val (.slice (some ((M.upd j none).next,0)) _ _ _) _)=_
 rw [Mem.next_upd]
theorem zk1 {q by':Nat} {z:List LV} {nl nc:Nat} {k1 k2:IntKind} (hx:xval E x=some (.int k1 (nl:Int))) (hy:xval E y=some (.int k2 (nc:Int))) (h1:nl<=nc) (h2:by' * nc<=140737488355328) (h3:nc<=4294967296) :
  xstep P (.mksl t q by' z x y) E M=some (.val (.slice (some (M.next,0)) nl (Nat.beq nl nc) q) (M.push (.cells true (rep nl z) t))):=by
 show ob (xval E x) _=_
 rw [hx,z0,hy,z0]
 show guard' (Nat.ble nl nc && (Nat.ble (by' * nc) 140737488355328 && Nat.ble nc 4294967296)) _=_
 rw [Nat.ble_eq_true_of_le h1,Nat.ble_eq_true_of_le h2,Nat.ble_eq_true_of_le h3];rfl
theorem zdg {i:XI} {v:LV} {M':Mem} (hg:GOn E g) (hs:xstep P i E M=some (.val v M')) (hk:XW μ P sz l ((d,v) :: E) M' K):XW μ P sz (⟨some d,i,g⟩ :: l) E M K:=z7u hg hs hk
theorem zbj {i:XI} {v:LV} {M':Mem} (hg:GOn E g) (hs:xstep P i E M=some (.val v M')) (hk:XD P sz ld ((d,v) :: E) M' (M' :: st) (k+1) xs K):XD P sz ((⟨some d,i,g⟩,.anchor) :: ld) E M st k xs K:=zfm hg hs hk
end

def Put1 (v:LV) (p:Nat) (lb:LB) (M:Mem) (w:LV) (M':Mem):Prop:=w=v /\ Keep (fun i=>i=p) M M' /\ At M' p lb
section
variable {P:Program} [Orc P] {sz:Nat} {E:Env} {M:Mem} {K:Env->Mem->Prop} {l:List XG} {d:Nat} {g:Option (Nat × Bool)} {st:List Mem} {k:Nat} {xs:List (Nat × Nat × (Mem->Prop))} {ld:List (XG × XK)}
end

section
variable {P:Program} {κ β:Type} [DecidableEq κ] {ek:κ->LV} {ev:β->LV} {kt:TypeId}
def encM (ek:κ->LV) (ev:β->LV) (L:List (κ × β)):List (LV × LV):=L.map fun p=>(ek p.1,ev p.2)
end

def Vec {α:Type} (b sz:Nat) (ty:TypeId) (enc:α->List LV) (M:Mem) (v:LV) (l:List α):Prop :=
 (l=[] /\ v=.slice none 0 true 0) ∨ ∃ i,v=.slice (some (i,0)) l.length false sz /\ At M i (.cells true (l.flatMap enc) (apE ty)) /\ b<=i
section
variable {α:Type} {b sz:Nat} {ty:TypeId} {enc:α->List LV} {M M':Mem} {v:LV} {l:List α}
theorem Vec.nil:Vec b sz ty enc M (.slice none 0 true 0) []:=.inl ⟨rfl,rfl⟩
theorem Vec.grow (h:Vec b sz ty enc M v l) (hg:Grow M M'):Vec b sz ty enc M' v l:=h.imp id fun ⟨i,h1,h2,h3⟩=>⟨i,h1,h2.grow hg,h3⟩
theorem Vec.keep {F:Nat->Prop} (h:Vec b sz ty enc M v l) (hk:Keep F M M') (hF:∀ i,F i->i < b):Vec b sz ty enc M' v l :=
 h.imp id fun ⟨i,h1,h2,h3⟩=>⟨i,h1,h2.keep hk (fun hf=>by have:=hF i hf;omega),h3⟩
theorem Vec.shape (h:Vec b sz ty enc M v l):∃ a f e,v=.slice a l.length f e:=by
 rcases h with ⟨rfl,rfl⟩|⟨i,rfl,_⟩
 ·exact ⟨_,_,_,rfl⟩
 ·exact ⟨_,_,_,rfl⟩
theorem z18 {l:List α} (henc:∀ x ∈ l,(enc x).length=sz):(l.flatMap enc).length=l.length*sz:=by
 induction l with
 | nil=>simp
 | cons x xs ih =>
  rw [List.flatMap_cons,List.length_append,henc x List.mem_cons_self,ih (fun y hy=>henc y (List.mem_cons_of_mem _ hy)),List.length_cons,Nat.add_mul,Nat.one_mul,Nat.add_comm]
theorem zcp {l:List α} (henc:∀ x ∈ l,(enc x).length=sz):∀ {k:Nat} (hk:k < l.length),((l.flatMap enc).drop (k*sz)).take sz=enc l[k]:=by
 induction l with
 | nil=>intro k hk;cases hk
 | cons x xs ih =>
  intro k hk
  have hx:=henc x List.mem_cons_self
  cases k with
  | zero =>
   rw [Nat.zero_mul,List.drop_zero,List.flatMap_cons,List.take_append_of_le_length (by omega),List.take_of_length_le (by omega)];rfl
  | succ k =>
   rw [List.flatMap_cons,Nat.add_mul,Nat.one_mul,Nat.add_comm,<- List.drop_drop,List.drop_append_of_le_length (by omega),List.drop_of_length_le (l:=enc x) (by omega),List.nil_append]
   exact ih (fun y hy=>henc y (List.mem_cons_of_mem _ hy)) (by simpa using hk)
theorem zf0 {own:Bool} {i:Nat} (ha:At M i (.cells own (l.flatMap enc) ty)) (henc:∀ x ∈ l,(enc x).length=sz) {k:Nat} (hk:k < l.length):Rd M i (0+k*sz) sz (enc l[k]):=by
 refine Rd.of_at ha ?_
 have hle:k*sz+sz<=l.length*sz:=by
  have:(k+1)*sz<=l.length*sz:=Nat.mul_le_mul_right _ hk
  rw [Nat.add_mul,Nat.one_mul] at this;exact this
 rw [z0b,Nat.zero_add,z7t (by rw [List.length_drop,z18 henc];omega),zcp henc hk]
theorem Vec.rd (h:Vec b sz ty enc M v l) (henc:∀ x ∈ l,(enc x).length=sz):∃ a f e,v=.slice a l.length f e /\ (l=[] ∨ ∃ i o,a=some (i,o) /\ ∀ k (hk:k < l.length),Rd M i (o+k*sz) sz (enc l[k])):=by
 rcases h with ⟨rfl,rfl⟩|⟨i,rfl,h2,h3⟩
 ·exact ⟨_,_,_,rfl,.inl rfl⟩
 ·exact ⟨_,_,_,rfl,.inr ⟨i,0,rfl,fun k hk=>zf0 h2 henc hk⟩⟩
theorem z30:∀ {a c:List LV},allFlat (a ++ c)=(allFlat a && allFlat c)
 | [],c=>by rw [List.nil_append];rfl
 | x :: xs,c=>by
  show ifb x.flat (allFlat (xs ++ c)) false=(ifb x.flat (allFlat xs) false && allFlat c)
  rw [z30]
  cases x.flat<;>rfl
theorem z17 {l:List α} (h:∀ x ∈ l,allFlat (enc x)=true):allFlat (l.flatMap enc)=true:=by
 induction l with
 | nil=>rfl
 | cons x xs ih=>rw [List.flatMap_cons,z30,h x List.mem_cons_self,ih (fun y hy=>h y (List.mem_cons_of_mem _ hy))];rfl
theorem Vec.app {P:Program} [Orc P] {E:Env} {s x:XO} {by':Nat} {z:List LV} {l':List α} {xv:LV} (h:Vec b sz ty enc M v l) (hs:xval E s=some v) (hx:xval E x=some xv) (hn:lenOfL xv=some l'.length) (h0:0 < l'.length)
  (hb:(2*(l.length+l'.length)+2048)*by'<=140737488355328) (hz:(Nat.ble 1 sz && (Nat.ble 1 by' && Nat.beq z.length sz))=true) (hw:firstL sz l'.length xv M=some (l'.flatMap enc))
  (henc:∀ x,(enc x).length=sz) (hfl:∀ x,allFlat (enc x)=true) (hbM:b<=M.next) :
  ∃ v' M',xstep P (.app ty sz by' z s x) E M=some (.val v' M') /\ Vec b sz ty enc M' v' (l ++ l') /\ M'.next=M.next+1 /\ Keep (fun i=>b<=i /\ ∃ o n f e,v=.slice (some (i,o)) n f e) M M':=by
 have hf:=z17 (l:=l') (enc:=enc) (fun x _=>hfl x)
 rcases h with ⟨rfl,rfl⟩|⟨i,rfl,h2,h3⟩
 ·refine ⟨_,_,z4y hs hx hn h0 (by simpa using hb) hz rfl hw hf (.inl rfl),.inr ⟨M.next,?_,?_,hbM⟩,rfl,?_⟩
  ·rw [List.nil_append,Nat.zero_add]
  ·rw [List.nil_append,List.nil_append];exact ⟨by rw [Mem.get_push,if_pos rfl],Nat.lt_succ_self _⟩
  ·have hN:New M M.next (.cells true ([] ++ l'.flatMap enc) (apE ty)) (M.push (.cells true ([] ++ l'.flatMap enc) (apE ty))):=⟨rfl,rfl⟩
   exact hN.grow.to_keep _
 ·have ho:firstL sz l.length (.slice (some (i,0)) l.length false sz) M=some (l.flatMap enc):=by
   rw [z2g h2 (by rw [z18 (fun x _=>henc x)];omega),List.drop_zero,List.take_of_length_le (by rw [z18 (fun x _=>henc x)];omega)]
  have hK:Kill M i M.next (.cells true (l.flatMap enc ++ l'.flatMap enc) (apE ty)) ((M.upd i none).push (.cells true (l.flatMap enc ++ l'.flatMap enc) (apE ty))):=⟨rfl,rfl⟩
  refine ⟨_,_,z3m hs hx hn h0 hb hz ho hw hf h2 (by rw [show Nat.beq (apE ty) (apE ty)=true by simp,Bool.or_true]),.inr ⟨M.next,by rw [List.length_append],?_,hbM⟩,hK.next,hK.keep.weaken fun j hj=>?_⟩
  ·rw [List.flatMap_append];exact hK.same
  ·subst hj;exact ⟨h3,_,_,_,_,rfl⟩
end
end PvL
end
section
namespace PvL
set_option linter.unusedSectionVars false
set_option linter.unusedVariables false
open Go
variable {μ:Md}
def shlZ (a b:Int):Int:=a*((2 ^ b.toNat:Nat):Int)
def shrZ (a b:Int):Int:=a / ((2 ^ b.toNat:Nat):Int)
def andZ (a b:Int):Int:=((a.toNat &&& b.toNat:Nat):Int)
def orZ (a b:Int):Int:=((a.toNat ||| b.toNat:Nat):Int)
def andnZ (a b:Int):Int:=a - andZ a b
theorem z09 {n:Nat} (h:n < 2 ^ 64):(BitVec.ofInt 64 (n:Int)).toNat=n:=by
 rw [BitVec.ofInt_natCast,BitVec.toNat_ofNat,Nat.mod_eq_of_lt h]
theorem z2y {n:Int} (h:-9223372036854775808<=n /\ n<=9223372036854775807):mkI .i64 (wr .i64 n)=some (.int .i64 n):=by
 rw [z0c,z1g,z27 h]
section
variable {P:Program} {E:Env} {M:Mem} {x y:XO} {a b:Int}
theorem zmd (hx:xval E x=some (.int .i64 a)) (hy:xval E y=some (.int .i64 b)) (ha:0<=a /\ a<=4294967296) (hb:0<=b /\ b<=4294967296):xstep P (.bin .and x y) E M=some (.val (.int .i64 (andZ a b)) M):=by
 obtain ⟨m,rfl⟩:=Int.eq_ofNat_of_zero_le ha.1
 obtain ⟨n,rfl⟩:=Int.eq_ofNat_of_zero_le hb.1
 show ob (xval E x) _=_
 rw [hx,z0,hy,z0]
 show guard' true (ob (mkI .i64 (wr .i64 (BitVec.ofInt 64 (m:Int) &&& BitVec.ofInt 64 (n:Int)).toNat)) _)=_
 have h1:(BitVec.ofInt 64 (m:Int) &&& BitVec.ofInt 64 (n:Int)).toNat=m &&& n:=by rw [BitVec.toNat_and,z09 (by omega),z09 (by omega)]
 have h2:m &&& n<=m:=Nat.and_le_left
 rw [h1,zd,z2y (by omega),z0];rfl
theorem znh {m n:Nat} (hm:m < 4294967296) (hn:n < 4294967296):m ||| n < 4294967296:=Nat.or_lt_two_pow (n:=32) hm hn
theorem znx (hx:xval E x=some (.int .i64 a)) (hy:xval E y=some (.int .i64 b)) (ha:0<=a /\ a < 4294967296) (hb:0<=b /\ b < 4294967296):xstep P (.bin .or x y) E M=some (.val (.int .i64 (orZ a b)) M):=by
 obtain ⟨m,rfl⟩:=Int.eq_ofNat_of_zero_le ha.1
 obtain ⟨n,rfl⟩:=Int.eq_ofNat_of_zero_le hb.1
 show ob (xval E x) _=_
 rw [hx,z0,hy,z0]
 show guard' true (ob (mkI .i64 (wr .i64 (BitVec.ofInt 64 (m:Int) ||| BitVec.ofInt 64 (n:Int)).toNat)) _)=_
 have h1:(BitVec.ofInt 64 (m:Int) ||| BitVec.ofInt 64 (n:Int)).toNat=m ||| n:=by rw [BitVec.toNat_or,z09 (by omega),z09 (by omega)]
 have h2:m ||| n < 4294967296:=znh (by omega) (by omega)
 rw [h1,zd,z2y (by omega),z0];rfl
theorem zfx {m n:Nat} (hm:m < 2 ^ 64) (hn:n < 2 ^ 64):(BitVec.ofInt 64 (m:Int) &&& ~~~(BitVec.ofInt 64 (n:Int))).toNat=m - (m &&& n):=by
 have h:(BitVec.ofInt 64 (m:Int) &&& ~~~(BitVec.ofInt 64 (n:Int)))+(BitVec.ofInt 64 (m:Int) &&& BitVec.ofInt 64 (n:Int))=BitVec.ofInt 64 (m:Int):=by
  rw [BitVec.add_eq_or_of_and_eq_zero]
  ·ext i hi
   simp only [BitVec.getElem_or,BitVec.getElem_and,BitVec.getElem_not]
   cases (BitVec.ofInt 64 (m:Int))[i]<;>cases (BitVec.ofInt 64 (n:Int))[i]<;>rfl
  ·ext i hi
   simp only [BitVec.getElem_and,BitVec.getElem_not,BitVec.getElem_zero]
   cases (BitVec.ofInt 64 (m:Int))[i]<;>cases (BitVec.ofInt 64 (n:Int))[i]<;>rfl
 have h2:(BitVec.ofInt 64 (m:Int) &&& BitVec.ofInt 64 (n:Int)).toNat=m &&& n:=by rw [BitVec.toNat_and,z09 hm,z09 hn]
 have h3:(BitVec.ofInt 64 (m:Int) &&& ~~~(BitVec.ofInt 64 (n:Int))).toNat<=m:=by
  rw [BitVec.toNat_and,z09 hm];exact Nat.and_le_left
 have h4:=congrArg BitVec.toNat h
 rw [BitVec.toNat_add,h2,z09 hm] at h4
 have h5:m &&& n<=m:=Nat.and_le_left
 generalize (BitVec.ofInt 64 (m:Int) &&& ~~~(BitVec.ofInt 64 (n:Int))).toNat=z at *
 by_cases hz:z+(m &&& n) < 2 ^ 64
 ·rw [Nat.mod_eq_of_lt hz] at h4;omega
 ·rw [Nat.mod_eq_sub_mod (by omega),Nat.mod_eq_of_lt (by omega)] at h4
  omega
theorem zju (hx:xval E x=some (.int .i64 a)) (hy:xval E y=some (.int .i64 b)) (ha:0<=a /\ a<=4294967296) (hb:0<=b /\ b<=4294967296):xstep P (.bin .andNot x y) E M=some (.val (.int .i64 (andnZ a b)) M):=by
 obtain ⟨m,rfl⟩:=Int.eq_ofNat_of_zero_le ha.1
 obtain ⟨n,rfl⟩:=Int.eq_ofNat_of_zero_le hb.1
 show ob (xval E x) _=_
 rw [hx,z0,hy,z0]
 show guard' true (ob (mkI .i64 (wr .i64 (BitVec.ofInt 64 (m:Int) &&& ~~~(BitVec.ofInt 64 (n:Int))).toNat)) _)=_
 have h2:m &&& n<=m:=Nat.and_le_left
 rw [zfx (by omega) (by omega),zd,z2y (by omega),z0]
 show some (R1.val (LV.int .i64 ((m - (m &&& n):Nat):Int)) M)=some (R1.val (LV.int .i64 ((m:Int) - ((m &&& n:Nat):Int))) M)
 rw [Int.ofNat_sub h2]
theorem zlk {b:Nat} (h:b<=20):1<=2 ^ b /\ 2 ^ b<=1048576:=⟨Nat.one_le_two_pow,by have:=Nat.pow_le_pow_right (n:=2) (by omega) h;omega⟩
theorem zi1 (ha:0<=a /\ a<=1000000) (hb:0<=b /\ b<=20):0<=shlZ a b /\ shlZ a b<=1048576000000:=by
 have hp:=zlk (b:=b.toNat) (by omega)
 have:=zlg (a:=a) (b:=((2 ^ b.toNat:Nat):Int)) (A:=1000000) (B:=1048576) (by omega) (by omega)
 unfold shlZ
 have h0:0<=a*((2 ^ b.toNat:Nat):Int):=Int.mul_nonneg ha.1 (by omega)
 omega
theorem zmn (hx:xval E x=some (.int .i64 a)) (hy:xval E y=some (.int .i64 b)) (ha:0<=a /\ a<=1000000) (hb:0<=b /\ b<=20):xstep P (.bin .shl x y) E M=some (.val (.int .i64 (shlZ a b)) M):=by
 have hbd:=zi1 ha hb
 obtain ⟨n,rfl⟩:=Int.eq_ofNat_of_zero_le hb.1
 show ob (xval E x) _=_
 rw [hx,z0,hy,z0]
 show guard' true (ob (mkI .i64 (wr .i64 (a*((2 ^ (Nat.min n 64):Nat):Int)))) _)=_
 have hm:Nat.min n 64=n:=Nat.min_eq_left (by omega)
 rw [hm,zd]
 have e:a*((2 ^ n:Nat):Int)=shlZ a n:=rfl
 rw [e,z2y (by omega),z0];rfl
theorem zmo (hx:xval E x=some (.int .i64 a)) (hy:xval E y=some (.int .i64 b)) (ha:0<=a /\ a<=1000000000) (hb:0<=b /\ b<=20):xstep P (.bin .shr x y) E M=some (.val (.int .i64 (shrZ a b)) M):=by
 obtain ⟨n,rfl⟩:=Int.eq_ofNat_of_zero_le hb.1
 show ob (xval E x) _=_
 rw [hx,z0,hy,z0]
 show guard' true (ob (mkI .i64 (a.fdiv ((2 ^ (Nat.min n 64):Nat):Int))) _)=_
 have hm:Nat.min n 64=n:=Nat.min_eq_left (by omega)
 rw [hm,zd,z0c,z0,Int.fdiv_eq_ediv_of_nonneg _ (Int.natCast_nonneg _)];rfl
end

section
variable {α:Type} {P:Program} [Orc P]
structure Taker (P:Program) [Orc P] (items:List α) (R:α->List LV->(Nat->Prop)->Mem->Prop) (l:Nat) (A Wr:Nat->Prop) (I:List α->(Nat->Prop)->Mem->Prop) (D:(Nat->Prop)->Mem->Prop) (N0:Nat):Prop where
 lt:∀ i,A i->i < N0
 stab:∀ d T M M',I d T M->M.next<=M'.next->(∀ i,(i < N0 /\ ¬ Wr i) ∨ T i->M'.get i=M.get i)->I d T M'
 stabD:∀ T M M',D T M->M.next<=M'.next->(∀ i,(i < N0 /\ ¬ Wr i) ∨ T i->M'.get i=M.get i)->D T M'
 step:∀ d x rest v (U T:Nat->Prop) M,items=d ++ x :: rest->R x v U M->N0<=M.next->(∀ i,T i->N0<=i /\ i < M.next)->(∀ i,U i->N0<=i /\ i < M.next /\ ¬ T i)->I d T M ->
  RoundOk P l v M fun w M'=>Keep (fun i=>A i ∨ T i ∨ U i) M M' /\ ∃ T':Nat->Prop,(∀ i,T' i->(T i ∨ U i ∨ M.next<=i) /\ i < M'.next) /\ ((w=.bool true /\ I (d ++ [x]) T' M') ∨ (w=.bool false /\ D T' M'))
def YieldsS (P:Program) [Orc P] (gf:FuncId) (fi ca:List LV) (S Wr:Nat->Prop) (Fin:Mem->Prop) (items:List α) (R:α->List LV->(Nat->Prop)->Mem->Prop) (M0:Mem):Prop :=
 ∀ (l:Nat) (A:Nat->Prop) (I:List α->(Nat->Prop)->Mem->Prop) (D:(Nat->Prop)->Mem->Prop),
  Taker P items R l A Wr I D M0.next->(∀ i,S i->¬ A i)->I [] (fun _=>False) M0 ->
  CallOk P gf (fi ++ [.func (.yield l) [] []] ++ ca) M0 fun _ M'=>Keep (fun i=>A i ∨ Wr i) M0 M' /\ Fin M' /\ ∃ T':Nat->Prop,(∀ i,T' i->M0.next<=i /\ i < M'.next) /\ (I items T' M' ∨ D T' M')
def Took (A Wr T:Nat->Prop) (Fin:Mem->Prop) (I:List α->(Nat->Prop)->Mem->Prop) (D:(Nat->Prop)->Mem->Prop) (d:List α) (M:Mem) (v:LV) (M':Mem):Prop :=
 Keep (fun i=>A i ∨ T i ∨ Wr i) M M' /\ Fin M' /\ ∃ T':Nat->Prop,(∀ i,T' i->(T i ∨ M.next<=i) /\ i < M'.next) /\ ((v=.bool true /\ I d T' M') ∨ (v=.bool false /\ D T' M'))
end
section
variable {M M' M0:Mem} {i j n o k:Nat} {lb lb':LB} {F:Nat->Prop} {l:List LV} {v:LV}
theorem At.kill (h:Kill M j n lb M') (hne:i ≠ j) (ha:At M i lb'):At M' i lb':=ha.keep h.keep hne
theorem Rd.kill (h:Kill M j n lb M') (hne:i ≠ j) (ha:Rd M i o k l):Rd M' i o k l:=ha.keep h.keep hne
theorem Rd1.kill (h:Kill M j n lb M') (hne:i ≠ j) (ha:Rd1 M i o v):Rd1 M' i o v:=ha.keep h.keep hne
theorem Keep.kill (h:Keep F M0 M) (h':Kill M j n lb M') (hj:F j ∨ M0.next<=j):Keep F M0 M':=h.trans h'.keep fun i hi=>by subst hi;exact hj
theorem Grow.kill (h:Grow M0 M) (h':Kill M j n lb M') (hj:M0.next<=j):Grow M0 M':=Keep.to_grow' h h'.keep fun i hi=>by subst hi;exact hj
end
class IsSl (P:Program) (t:TypeId):Prop where
 h:∃ e,P.underlying t=some (.slice e)
section
variable {P:Program} [Orc P] {t:TypeId} [hs:IsSl P t] {E:Env} {M:Mem} {x:XO} {a:Nat × Nat} {n n':Nat} {f f':Bool} {e e':Nat}
theorem zhs (a:Option (Nat × Nat)):eqV P t (.slice a n f e) (.slice none n' f' e')=some a.isNone:=by
 obtain ⟨et,ht⟩:=hs.h
 show ifb false none (eqL P Op.maxDepth t _ _)=_
 rw [ze]
 show eqL P (Op.maxDepth - 1+1) t _ _=_
 unfold eqL
 rw [ht]
 cases a<;>rfl
theorem zjy (hx:xval E x=some (.slice (some a) n f e)):xstep P (.eqg false t x (.c (.slice none n' f' e'))) E M=some (.val (.bool false) M):=by
 show ob (xval E x) _=_
 rw [hx,z0]
 show ob (xval E (.c _)) _=_
 rw [show xval E (.c (.slice none n' f' e'))=some (.slice none n' f' e') from rfl,z0]
 show guard' true (ob (eqV P t (.slice (some a) n f e) (.slice none n' f' e')) _)=_
 rw [zhs,zd,z0];rfl
theorem zhi (hx:xval E x=some (.slice none n f e)):xstep P (.eqg false t x (.c (.slice none n' f' e'))) E M=some (.val (.bool true) M):=by
 show ob (xval E x) _=_
 rw [hx,z0]
 show ob (xval E (.c _)) _=_
 rw [show xval E (.c (.slice none n' f' e'))=some (.slice none n' f' e') from rfl,z0]
 show guard' true (ob (eqV P t (.slice none n f e) (.slice none n' f' e')) _)=_
 rw [zhs,zd,z0];rfl
end
section
variable {P:Program} [Orc P] {sz:Nat} {E:Env} {M:Mem} {K:Env->Mem->Prop} {l:List XG} {d:Nat} {g:Option (Nat × Bool)} {s x:XO} {st:List Mem} {k:Nat} {xs:List (Nat × Nat × (Mem->Prop))} {ld:List (XG × XK)}
 {e q by':Nat} {z:List LV} {aa:Option (Nat × Nat)} {len:Nat} {f:Bool} {es n:Nat} {xv:LV} {old new:List LV} {j off:Nat} {cs:List LV} {ty:TypeId}
end
end PvL
namespace PvL
open Go
end PvL
end
section
namespace PvL
set_option linter.unusedSectionVars false
set_option linter.unusedVariables false
open Go
variable {μ:Md}
def xorZ (a b:Int):Int:=((a.toNat ^^^ b.toNat:Nat):Int)
theorem zmb {m n:Nat} (hm:m < 4294967296) (hn:n < 4294967296):m ^^^ n < 4294967296:=Nat.xor_lt_two_pow (n:=32) hm hn
def byteAt (s:ByteArray) (k:Nat):Nat:=(s.data.toList.getD k 0).toNat
theorem zdn (s:ByteArray) (k:Nat):byteAt s k < 256:=UInt8.toNat_lt _
section
variable {P:Program} {E:Env} {M:Mem} {x y:XO} {a b:Int}
theorem zmr (hx:xval E x=some (.int .i64 a)) (hy:xval E y=some (.int .i64 b)) (ha:0<=a /\ a < 4294967296) (hb:0<=b /\ b < 4294967296):xstep P (.bin .xor x y) E M=some (.val (.int .i64 (xorZ a b)) M):=by
 obtain ⟨m,rfl⟩:=Int.eq_ofNat_of_zero_le ha.1
 obtain ⟨n,rfl⟩:=Int.eq_ofNat_of_zero_le hb.1
 show ob (xval E x) _=_
 rw [hx,z0,hy,z0]
 show guard' true (ob (mkI .i64 (wr .i64 (BitVec.ofInt 64 (m:Int) ^^^ BitVec.ofInt 64 (n:Int)).toNat)) _)=_
 have h1:(BitVec.ofInt 64 (m:Int) ^^^ BitVec.ofInt 64 (n:Int)).toNat=m ^^^ n:=by rw [BitVec.toNat_xor,z09 (by omega),z09 (by omega)]
 have h2:m ^^^ n < 4294967296:=zmb (by omega) (by omega)
 rw [h1,zd,z2y (by omega),z0];rfl
theorem zk4 {kk:IntKind} (hx:xval E x=some (.int .i64 a)) (hy:xval E y=some (.int kk b)) (ha:0<=a /\ a<=1000000) (hb:0<=b /\ b<=20):xstep P (.bin .shl x y) E M=some (.val (.int .i64 (shlZ a b)) M):=by
 have hbd:=zi1 ha hb
 obtain ⟨n,rfl⟩:=Int.eq_ofNat_of_zero_le hb.1
 show ob (xval E x) _=_
 rw [hx,z0,hy,z0]
 show guard' true (ob (mkI .i64 (wr .i64 (a*((2 ^ (Nat.min n 64):Nat):Int)))) _)=_
 have hm:Nat.min n 64=n:=Nat.min_eq_left (by omega)
 rw [hm,zd]
 have e:a*((2 ^ n:Nat):Int)=shlZ a n:=rfl
 rw [e,z2y (by omega),z0];rfl
theorem zk5 {kk:IntKind} (hx:xval E x=some (.int .i64 a)) (hy:xval E y=some (.int kk b)) (ha:0<=a /\ a<=1000000000) (hb:0<=b /\ b<=20):xstep P (.bin .shr x y) E M=some (.val (.int .i64 (shrZ a b)) M):=by
 obtain ⟨n,rfl⟩:=Int.eq_ofNat_of_zero_le hb.1
 show ob (xval E x) _=_
 rw [hx,z0,hy,z0]
 show guard' true (ob (mkI .i64 (a.fdiv ((2 ^ (Nat.min n 64):Nat):Int))) _)=_
 have hm:Nat.min n 64=n:=Nat.min_eq_left (by omega)
 rw [hm,zd,z0c,z0,Int.fdiv_eq_ediv_of_nonneg _ (Int.natCast_nonneg _)];rfl
theorem zhh {kk:IntKind} (hx:xval E x=some (.int kk a)) (h:-9223372036854775808<=a /\ a<=9223372036854775807):xstep P (.conv .i64 x) E M=some (.val (.int .i64 a) M):=by
 refine z08 ?_ M
 show ob (xval E x) _=_
 rw [hx]
 show some (LV.int .i64 (IntKind.wrap .i64 a))=_
 rw [z27 h]
theorem wrap8 {a:Int} (h:0<=a /\ a<=255):IntKind.wrap .u8 a=a:=by
 unfold IntKind.wrap
 simp only [IntKind.signed,IntKind.bits,Bool.false_and,Bool.false_eq_true,if_false]
 omega
theorem zhg {kk:IntKind} (hx:xval E x=some (.int kk a)) (h:0<=a /\ a<=255):xstep P (.conv .u8 x) E M=some (.val (.int .u8 a) M):=by
 refine z08 ?_ M
 show ob (xval E x) _=_
 rw [hx]
 show some (LV.int .u8 (IntKind.wrap .u8 a))=_
 rw [wrap8 h]
theorem zk0 {s:ByteArray} {k:Nat} (hx:xval E x=some (.str s)) (hy:xval E y=some (.int .i64 (k:Int))) (h:k < s.size):xstep P (.idxS x y) E M=some (.val (.int .u8 (byteAt s k:Int)) M):=by
 show ob (xval E x) _=_
 rw [hx,z0,hy,z0]
 show ob s[k]? _=_
 have e:s[k]?=some s[k]:=by simp [h]
 rw [e,z0]
 have:byteAt s k=s[k].toNat:=by
  unfold byteAt
  have hl:k < s.data.toList.length:=by simpa using h
  rw [List.getD_eq_getElem?_getD,List.getElem?_eq_getElem hl,Option.getD_some]
  rfl
 rw [this]
theorem z2m {s t:ByteArray} (hx:xval E x=some (.str s)) (hy:xval E y=some (.str t)) (h:s.size+t.size<=140737488355328):xstep P (.bin .add x y) E M=some (.val (.str (s ++ t)) M):=by
 show ob (xval E x) _=_
 rw [hx,z0,hy,z0]
 show guard' true (ob (guard' (Nat.ble (s.size+t.size) 140737488355328) (some (LV.str (s ++ t)))) _)=_
 rw [Nat.ble_eq_true_of_le h];rfl
def bytesC (l:List UInt8):List LV:=l.map byteL
theorem z11:∀ (l:List UInt8),bytesL (bytesC l)=some l
 | []=>rfl
 | b :: l=>by
  show ob (u8L (byteL b)) _=_
  have:u8L (byteL b)=some b:=by
   show guard' (kEq .u8 .u8) (some (UInt8.ofNat b.toNat))=_
   rw [z21.2 rfl,zd]
   simp
  rw [this,z0]
  show ob (bytesL (bytesC l)) _=_
  rw [z11 l];rfl
theorem z8r {i o n:Nat} {f:Bool} {e:Nat} {l:List UInt8} (hx:xval E x=some (.slice (some (i,o)) n f e)) (h:Rd M i o n (bytesC l)):xstep P (.bstr x) E M=some (.val (.str ⟨⟨l⟩⟩) M):=by
 show ob (xval E x) _=_
 rw [hx,z0]
 show ob (strOf M (some (i,o)) n) _=_
 unfold strOf
 cases hb:Nat.beq n 0 with
 | true =>
  obtain rfl:=Nat.eq_of_beq_eq_true hb
  have h0:l=[]:=by
   obtain ⟨h1,_⟩:=h
   unfold loadN atCells at h1
   obtain ⟨lb,h2,h3⟩:=za.1 h1
   cases lb with
   | cells own cs ty =>
    obtain ⟨h4,h5⟩:=z0s.1 (show take' 0 (drop' o cs)=some (bytesC l) from h3)
    cases l with
    | nil=>rfl
    | cons b l=>simp [bytesC] at h5
   | _=>cases h3
  subst h0;rfl
 | false =>
  rw [ze,z0]
  show ob (ob (loadN M i o n) _) _=_
  rw [h.1,z0,z11];rfl
end
end PvL
end
section
namespace PvL
set_option linter.unusedSectionVars false
set_option linter.unusedVariables false
open Go
variable {μ:Md}
theorem Rd.nth {M:Mem} {i o n j:Nat} {l:List LV} {v:LV} (h:Rd M i o n l) (hj:PvL.nth l j=some v):Rd1 M i (o+j) v:=by
 obtain ⟨h1,h2⟩:=h
 refine ⟨?_,h2⟩
 unfold loadN atCells at h1
 unfold load1 atCells
 obtain ⟨lb,h3,h4⟩:=za.1 h1
 rw [h3,z0]
 cases lb with
 | cells own cs ty =>
  have h4:take' n (drop' o cs)=some l:=h4
  obtain ⟨h5,h6⟩:=z0s.1 h4
  show PvL.nth cs (o+j)=some v
  rw [z42] at hj ⊢
  subst h6
  rw [z0b] at hj
  have hlt:j < n:=by
   have:=(List.getElem?_eq_some_iff.1 hj).1
   rw [List.length_take] at this;omega
  rw [List.getElem?_take_of_lt hlt,List.getElem?_drop] at hj
  exact hj
 | _=>cases h4
theorem xm {p:Prop} (h:p:=by ((repeat' (first|assumption|exact Rd1.of_at (by assumption) rfl|exact Rd.of_at (by assumption) rfl|exact Rd1.of_at (At.new_same (by assumption)) rfl|exact Rd.of_at (At.new_same (by assumption)) rfl|exact At.new_same (by assumption)|(with_reducible apply At.new_old (by assumption))|(with_reducible apply At.upd_ne (by assumption) (by omega))|(with_reducible apply At.grow (by assumption))|(with_reducible apply At.keep (by assumption) (by first|assumption|omega|(intro hh;dsimp only at hh;omega)))|(with_reducible apply At.kill (by assumption) (by omega))|(with_reducible apply Rd.kill (by assumption) (by omega))|(with_reducible apply Rd1.kill (by assumption) (by omega))|(with_reducible apply Rd.new_old (by assumption))|(with_reducible apply Rd1.new_old (by assumption))|(with_reducible apply Rd.upd_ne (by assumption) (by omega))|(with_reducible apply Rd1.upd_ne (by assumption) (by omega))|(with_reducible apply Rd.grow (by assumption))|(with_reducible apply Rd1.grow (by assumption))|(with_reducible apply Rd.keep (by assumption) (by first|assumption|omega|(intro hh;dsimp only at hh;omega)))|(with_reducible apply Rd1.keep (by assumption) (by first|assumption|omega|(intro hh;dsimp only at hh;omega)))));first|done|fail)):p:=h
theorem xg {p:Prop} (h:p:=by ((repeat' (first|(with_reducible exact Grow.refl _)|assumption|(with_reducible refine Grow.new ?_ (by assumption))|(with_reducible refine Grow.upd ?_ (by assumption) (by omega))|(with_reducible refine Grow.kill ?_ (by assumption) (by omega))|(with_reducible refine Grow.trans ?_ (by assumption))|(with_reducible refine Keep.to_grow' ?_ (by assumption) (by intro i hi;(try dsimp only at hi);omega))));first|done|fail)):p:=h
theorem xk {p:Prop} (h:p:=by ((repeat' (first|(with_reducible exact Keep.refl _ _)|assumption|(with_reducible refine Keep.new ?_ (by assumption))|(with_reducible refine Keep.upd ?_ (by assumption) (by first|(left;exact rfl)|(left;constructor<;>omega)|(left;exact ⟨by omega,by omega,by omega⟩)|(left;exact ⟨by omega,by omega,by omega,by omega⟩)|(left;omega)|(left;assumption)|(left;simp;done)|(right;omega)))|(with_reducible refine Keep.kill ?_ (by assumption) (by first|(left;exact rfl)|(right;omega)|(left;omega)))|(with_reducible refine Keep.grow ?_ (by assumption))|(with_reducible refine Keep.trans ?_ (by assumption) (by intro i hi;(try dsimp only at hi);first|exact .inl hi|(left;omega)|(right;omega)|omega))));first|done|fail)):p:=h
class BN (q:Bool) (T F:outParam Prop):Prop where
 t:q=true->T
 f:q=false->F
instance (priority:=low) {q:Bool}:BN q (q=true) (q=false):=⟨id,id⟩
instance {p:Prop} [Decidable p]:BN (decide p) p (¬ p):=⟨of_decide_eq_true,of_decide_eq_false⟩
instance (priority:=high) {a b:Int}:BN (decide (a<=b)) (a<=b) (b < a):=⟨of_decide_eq_true,fun h=>Int.not_le.1 (of_decide_eq_false h)⟩
instance (priority:=high) {a b:Int}:BN (decide (a < b)) (a < b) (b<=a):=⟨of_decide_eq_true,fun h=>Int.not_lt.1 (of_decide_eq_false h)⟩
instance (priority:=high) {p:Prop} [Decidable p]:BN (decide (¬ p)) (¬ p) p:=⟨of_decide_eq_true,fun h=>Decidable.not_not.1 (of_decide_eq_false h)⟩
instance {q:Bool} {T F:Prop} [BN q T F]:BN (!q) F T:=⟨fun h=>BN.f (q:=q) (by simpa using h),fun h=>BN.t (q:=q) (by simpa using h)⟩
instance {q r:Bool} {T F T' F':Prop} [BN q T F] [BN r T' F']:BN (q && r) (T /\ T') (F ∨ F'):=⟨fun h=>⟨BN.t (q:=q) (by revert h;cases q<;>simp),BN.t (q:=r) (by revert h;cases q<;>simp)⟩,fun h=>by
 cases hq:q with
 | false=>exact .inl (BN.f (q:=q) hq)
 | true=>exact .inr (BN.f (q:=r) (by rw [hq] at h;simpa using h))⟩
theorem zie {q r:Bool} {T F T' F':Prop} [BN q T F] [BN r T' F'] (h:(q || r)=true):T ∨ T':=by
 cases hq:q with
 | true=>exact .inl (BN.t (q:=q) hq)
 | false=>exact .inr (BN.t (q:=r) (by rw [hq] at h;simpa using h))
theorem zid {q r:Bool} {T F T' F':Prop} [BN q T F] [BN r T' F'] (h:(q || r)=false):F /\ F' :=
 ⟨BN.f (q:=q) (by revert h;cases q<;>simp),BN.f (q:=r) (by revert h;cases q<;>simp)⟩
instance {q r:Bool} {T F T' F':Prop} [BN q T F] [BN r T' F']:BN (q || r) (T ∨ T') (F /\ F'):=⟨zie,zid⟩
instance (priority:=high) {α:Type}:BN (Option.isSome (none:Option α)) False True:=⟨fun h=>(by cases h),fun _=>trivial⟩
instance (priority:=high) {α:Type} {a:α}:BN (Option.isSome (some a)) True False:=⟨fun _=>trivial,fun h=>(by cases h)⟩
instance (priority:=high) {q:Bool} {T F:Prop} [BN q T F]:BN (q && true) T F:=⟨fun h=>BN.t (q:=q) (by simpa using h),fun h=>BN.f (q:=q) (by simpa using h)⟩
instance (priority:=high) {q r:Bool} {T F:Prop} [BN q T F]:BN (ifb true q r) T F:=⟨fun h=>BN.t (q:=q) h,fun h=>BN.f (q:=q) h⟩
instance (priority:=high) {q r:Bool} {T F:Prop} [BN r T F]:BN (ifb false q r) T F:=⟨fun h=>BN.t (q:=r) h,fun h=>BN.f (q:=r) h⟩
class IsB (P:Program) (t:TypeId):Prop where
 h:P.underlying t=some .bool
theorem zl4 {P:Program} {t:TypeId} [hb:IsB P t] (p q:Bool):eqV P t (.bool p) (.bool q)=some (decide (p=q)):=by
 show ifb false none (eqL P Op.maxDepth t (.bool p) (.bool q))=_
 rw [ze]
 show eqL P (Op.maxDepth - 1+1) t (.bool p) (.bool q)=_
 unfold eqL
 rw [hb.h]
 cases p<;>cases q<;>rfl
theorem zmj {P:Program} {t:TypeId} [IsB P t] {E:Env} {M:Mem} {x y:XO} {p q:Bool} (hx:xval E x=some (.bool p)) (hy:xval E y=some (.bool q)):xstep P (.eqg true t x y) E M=some (.val (.bool (!(decide (p=q)))) M):=by
 show ob (xval E x) _=_
 rw [hx,z0,hy,z0]
 show guard' true (ob (eqV P t (.bool p) (.bool q)) _)=_
 rw [zl4,zd,z0]
 cases p<;>cases q<;>rfl
theorem zmg {P:Program} {t:TypeId} [IsB P t] {E:Env} {M:Mem} {x y:XO} {p q:Bool} (hx:xval E x=some (.bool p)) (hy:xval E y=some (.bool q)):xstep P (.eqg false t x y) E M=some (.val (.bool (decide (p=q))) M):=by
 show ob (xval E x) _=_
 rw [hx,z0,hy,z0]
 show guard' true (ob (eqV P t (.bool p) (.bool q)) _)=_
 rw [zl4,zd,z0]
 cases p<;>cases q<;>rfl
instance (priority:=high):BN true True False:=⟨fun _=>trivial,fun h=>(by cases h)⟩
instance (priority:=high):BN false False True:=⟨fun h=>(by cases h),fun _=>trivial⟩
section
variable {P:Program} [Orc P] {sz:Nat} {E:Env} {M:Mem} {K:Env->Mem->Prop} {l:List XG} {d:Nat} {g:Option (Nat × Bool)} {x y a:XO} {i o n t:Nat} {v:LV} {ls:List LV} {st:List Mem} {k:Nat} {xs:List (Nat × Nat × (Mem->Prop))} {ld:List (XG × XK)}
theorem x_l1 (hg:GOn E g) (ha:xval E a=some (.ptr (some (i,o)))) (h:Rd1 M i o v) (hk:XW μ P sz l ((d,v) :: E) M K):XW μ P sz (⟨some d,.ld1 a,g⟩ :: l) E M K:=zl hg (zfq ha h) hk
theorem x_lN (hg:GOn E g) (ha:xval E a=some (.ptr (some (i,o)))) (h:Rd M i o n ls) (hk:XW μ P sz l ((d,.agg ls) :: E) M K):XW μ P sz (⟨some d,.ldN n a,g⟩ :: l) E M K:=zl hg (zfr ha h) hk
theorem gd (h:GOn E g:=by first|exact zl9|exact g_on rfl):GOn E g:=h
theorem gx (h:GOff E g:=by first|exact zna rfl|exact znb rfl):GOff E g:=h
theorem sx {p:Prop} (h:p:=by (first|((with_reducible apply zmc);exact rfl;exact rfl;omega)|((with_reducible apply zmq);exact rfl;exact rfl;omega)|((with_reducible apply zmi);exact rfl;exact rfl;omega)|((with_reducible apply zmk);exact rfl;omega)|((with_reducible apply zjw);exact rfl;omega)|((with_reducible apply zml);exact rfl;exact rfl;omega;omega)|((with_reducible apply zmm);exact rfl;exact rfl;omega;omega)|((with_reducible apply zft);exact rfl;exact rfl;omega;omega)|((with_reducible apply zfu);exact rfl;exact rfl;omega)|((with_reducible apply zi7);exact rfl;exact rfl;omega)|((with_reducible apply zdh);exact rfl;exact rfl;omega)|((with_reducible apply zjz);exact rfl;exact rfl;omega)|((with_reducible apply zmh);exact rfl;exact rfl;omega;exact rfl)|((with_reducible apply zmj);exact rfl;exact rfl)|((with_reducible apply zmg);exact rfl;exact rfl)|((with_reducible apply zmd);exact rfl;exact rfl;omega;omega)|((with_reducible apply znx);exact rfl;exact rfl;omega;omega)|((with_reducible apply zju);exact rfl;exact rfl;omega;omega)|((with_reducible apply zmn);exact rfl;exact rfl;omega;omega)|((with_reducible apply zmo);exact rfl;exact rfl;omega;omega)|((with_reducible apply zjy);exact rfl)|((with_reducible apply zhi);exact rfl)|((with_reducible apply zmr);exact rfl;exact rfl;omega;omega)|((with_reducible apply zk4);exact rfl;exact rfl;omega;omega)|((with_reducible apply zk5);exact rfl;exact rfl;omega;omega)|((with_reducible apply zhh);exact rfl;omega)|((with_reducible apply zhg);exact rfl;omega)|((with_reducible apply zk0);exact rfl;exact rfl;omega)|((with_reducible apply z2m);exact rfl;exact rfl;omega)|exact zk2 rfl)):p:=h
theorem rx {p:Prop} (h:p:=by ((repeat' (first|exact ResX.nil|((with_reducible apply ResX.tmp);exact rfl)|((with_reducible apply resN);exact rfl)|((with_reducible apply res1);exact rfl)|assumption|exact Rd1.of_at (by assumption) rfl|exact Rd.of_at (by assumption) rfl|exact Rd1.of_at (At.new_same (by assumption)) rfl|exact Rd.of_at (At.new_same (by assumption)) rfl|exact At.new_same (by assumption)|(with_reducible apply At.new_old (by assumption))|(with_reducible apply At.upd_ne (by assumption) (by omega))|(with_reducible apply At.grow (by assumption))|(with_reducible apply At.keep (by assumption) (by first|assumption|omega|(intro hh;dsimp only at hh;omega)))|(with_reducible apply At.kill (by assumption) (by omega))|(with_reducible apply Rd.kill (by assumption) (by omega))|(with_reducible apply Rd1.kill (by assumption) (by omega))|(with_reducible apply Rd.new_old (by assumption))|(with_reducible apply Rd1.new_old (by assumption))|(with_reducible apply Rd.upd_ne (by assumption) (by omega))|(with_reducible apply Rd1.upd_ne (by assumption) (by omega))|(with_reducible apply Rd.grow (by assumption))|(with_reducible apply Rd1.grow (by assumption))|(with_reducible apply Rd.keep (by assumption) (by first|assumption|omega|(intro hh;dsimp only at hh;omega)))|(with_reducible apply Rd1.keep (by assumption) (by first|assumption|omega|(intro hh;dsimp only at hh;omega)))));first|done|fail)):p:=h
end
section
variable {P:Program} [Orc P] {fn:FuncId} {ro:Option Nat} {sz:Nat} {E:Env} {ms:List Dfr} {M:Mem} {K:Ex->Env->List Dfr->Mem->Prop}
theorem zl2 {E:Env} {K:Env->Mem->Prop} {st:List Mem} {k:Nat} {xs:List (Nat × Nat × (Mem->Prop))} (ho:ObAll st k xs) (h:K E M):XD P sz [] E M st k xs K:=zn5 h ho
theorem wc {x:XO} {a b:XC} {q:Bool} {T F:Prop} (hx:xval E x=some (.bool q)) (hbn:BN q T F) (h1:T->W μ P fn ro sz a E ms M K) (h0:F->W μ P fn ro sz b E ms M K):W μ P fn ro sz (.cond x a b) E ms M K:=zm0 hx (fun h=>h1 (hbn.t h)) (fun h=>h0 (hbn.f h))
variable {K':Env->Mem->Prop} {l:List XG} {d t:Nat} {g:Option (Nat × Bool)} {st:List Mem} {k:Nat} {xs:List (Nat × Nat × (Mem->Prop))} {ld:List (XG × XK)} {w b:Bool} {T F:Prop} {q:XI} {dd:Option Nat} {kd:XK} {c:Nat} {y z:XO}
theorem xgd (ht:look E t=some (.bool b)) (hbn:BN b T F) (h1:T->XW μ P sz (⟨dd,q,some (t,w)⟩ :: l) ((t,.bool true) :: E) M K') (h0:F->XW μ P sz (⟨dd,q,some (t,w)⟩ :: l) ((t,.bool false) :: E) M K'):XW μ P sz (⟨dd,q,some (t,w)⟩ :: l) E M K':=zjr ht (fun h=>h1 (hbn.t h)) (fun h=>h0 (hbn.f h))
theorem dgd (ht:look E t=some (.bool b)) (hbn:BN b T F) (h1:T->XD P sz ((⟨dd,q,some (t,w)⟩,kd) :: ld) ((t,.bool true) :: E) M st k xs K') (h0:F->XD P sz ((⟨dd,q,some (t,w)⟩,kd) :: ld) ((t,.bool false) :: E) M st k xs K'):XD P sz ((⟨dd,q,some (t,w)⟩,kd) :: ld) E M st k xs K':=zir ht (fun h=>h1 (hbn.t h)) (fun h=>h0 (hbn.f h))
theorem xpk (ht:look E c=some (.bool b)) (hbn:BN b T F) (h1:T->XW μ P sz (⟨some d,.pick (.t c) y z,g⟩ :: l) ((c,.bool true) :: E) M K') (h0:F->XW μ P sz (⟨some d,.pick (.t c) y z,g⟩ :: l) ((c,.bool false) :: E) M K'):XW μ P sz (⟨some d,.pick (.t c) y z,g⟩ :: l) E M K':=zm7 ht (fun h=>h1 (hbn.t h)) (fun h=>h0 (hbn.f h))
theorem dpk (ht:look E c=some (.bool b)) (hbn:BN b T F) (h1:T->XD P sz ((⟨some d,.pick (.t c) y z,g⟩,kd) :: ld) ((c,.bool true) :: E) M st k xs K') (h0:F->XD P sz ((⟨some d,.pick (.t c) y z,g⟩,kd) :: ld) ((c,.bool false) :: E) M st k xs K'):XD P sz ((⟨some d,.pick (.t c) y z,g⟩,kd) :: ld) E M st k xs K':=zl3 ht (fun h=>h1 (hbn.t h)) (fun h=>h0 (hbn.f h))
end
theorem ox {p:Prop} (h:p:=by ((repeat' (first|(with_reducible first|apply zlh|apply zj9|apply zes)|((with_reducible apply zet);exact rfl)|(with_reducible apply zgo)|exact xm));first|done|fail)):p:=h
theorem sv {G G':Prop} (h':G') (hs:G'->G:=by first|((with_reducible first|apply znq|apply zno|apply zm1|apply zjm|apply zjp|apply znp|apply zm2|apply zm4|apply znd|apply zed|apply zcv|apply ziz|apply zao|apply z9m|apply zcu|apply zap|apply zcw|apply zar|apply zms))|((with_reducible first|apply zl|apply z5u);exact gd;exact sx)|((with_reducible first|apply x_l1|apply x_lN|apply zn2|apply zn3);exact gd;exact rfl;exact xm)|((with_reducible first|apply x_st|apply d_st);exact gd;exact rfl;exact rfl;exact xm;exact rfl;exact rfl;exact rfl)|((with_reducible first|apply znt|apply zn0|apply znu|apply zn1);exact gd;exact rfl;exact rfl)|((with_reducible first|apply znv|apply zn4);exact gd;exact rfl)|((with_reducible first|apply zjs|apply zis);exact gd)|((with_reducible first|apply znw|apply zm6|apply zn6|apply zcn|apply zdv|apply z9a);exact gx)|((with_reducible apply zl2);exact ox)|((with_reducible apply zan);exact rfl)|((with_reducible first|apply zgi|apply zj0|apply zaq|apply z9n);exact xm)):G:=hs h'
theorem su {G G':Prop} (h':G') (hs:G'->G:=by with_reducible first|apply zi2|apply zlb):G:=hs h'
theorem sc {G G1 G2:Prop} (h1:G1) (h2:G2) (hs:G1->G2->G:=by ((with_reducible apply wc);exact rfl;infer_instance)):G:=hs h1 h2
theorem sg {G G1 G2:Prop} (h1:G1) (h2:G2) (hs:G1->G2->G:=by ((with_reducible first|apply xgd|apply dgd|apply xpk|apply dpk);exact rfl;infer_instance)):G:=hs h1 h2
end PvL
end
section
namespace PvL
open Go
variable {μ:Md}
set_option linter.unusedVariables false
structure NT (c:Prop):Prop
theorem nt1:NT True:=⟨⟩
theorem nt2 {c:Prop}:NT c:=⟨⟩
theorem sz {c G:Prop} (h:c) (hn:¬ c:=by first|exact fun h=>h|exact fun h=>h rfl|omega):G:=absurd h hn
theorem sy {c G:Prop} (h:c) (g:G) (hn:NT c:=by ((fail_if_success exact nt1);exact nt2)):G:=g
theorem sq {p:Prop} (h:p:=by first|assumption|exact xm|exact rfl):p:=h
theorem kf {E:Env} {M:Mem} {res:List XR} {Q:LV->Mem->Prop} {vs:List LV} {e:Ex} (hq:Q (packed vs) M) (he:e=.ret ∨ e=.norm:=by first|exact .inl rfl|exact .inr rfl) (hr:ResX E M res vs:=by exact rx):KFun res Q e E [] M:=by
 rcases he with rfl|rfl
 ·exact zh hr hq
 ·exact zc hr hq
end PvL
end
