/-
 Rules by which code is walked that may die;a function that puts off a call that recovers. No condition.
-/
import Derived.Test.YtbfnnllgdioccaaGreatDoorPvH
import Derived.Test.YtbfnnllgdioccaaGreatDoorPvG
section
namespace PvL
set_option linter.unusedSectionVars false
set_option linter.unusedVariables false
open Go
section
variable {P:Program} [Orc P]
def CallB(P:Program)[Orc P](f:FuncId)(args:List LV)(M:Mem)(Q D:LV->Mem->Prop):Prop :=
 (∃ v M',om P (.call f args M)=some (.call v M') /\ Q v M') ∨ ∃ v M',om P (.call f args M)=some (.die v M') /\ D v M'
theorem CallB.mono{f:FuncId}{args:List LV}{M:Mem}{Q D Q' D':LV->Mem->Prop}(h:CallB P f args M Q D)(hq:∀ v M',Q v M'->Q' v M')(hd:∀ v M',D v M'->D' v M'):CallB P f args M Q' D' :=
 h.imp (fun⟨v,M',h1,h2⟩=>⟨v,M',h1,hq _ _ h2⟩) (fun⟨v,M',h1,h2⟩=>⟨v,M',h1,hd _ _ h2⟩)
theorem CallB.ok{f:FuncId}{args:List LV}{M:Mem}{Q D:LV->Mem->Prop}(h:CallB P f args M Q D)(hd:∀ v M',¬ D v M'):za P f args M Q:=h.elim id fun⟨v,M',_,h2⟩=>(hd _ _ h2).elim
variable {sz:Nat} {E:Env} {M:Mem} {K:Env->Mem->Prop} {l:List XG} {d:Option Nat} {dd:Nat} {i:XI} {g:Option (Nat × Bool)} {D D1:LV->Mem->Prop}
theorem zib{ro:Option Nat}{all:List Oper}{o:Oper}{os:List Oper}{T:Tm}{ms:List Dfr}{f:FuncId}{as:List LV}{v:LV}{M' M1:Mem}(hw:wanted all T o.guard=some true)(hd:isDefer o.op=none)(hA:opA P o.op T M=some (.enter f as M1))(h:om P (.call f as M1)=some (.die v M')) :
  zr P ro (om P) all (o :: os) T ms M=some (.boom v T ms M'):=by
 obtain⟨dst,op,a1,a2,a3,g⟩:=o
 show ob (wanted all T g) _=_
 have hw:wanted all T g=some true:=hw
 have hd:isDefer op=none:=hd
 have hA:opA P op T M=some (.enter f as M1):=hA
 rw[hw]
 show oe (isDefer op) _ _=_
 rw[hd]
 show ob (opA P op T M) _=_
 rw[hA]
 show z0l (om P _) _ _=_
 rw[h];rfl
theorem zkf{ro:Option Nat}{all:List Oper}{o:Oper}{os:List Oper}{T:Tm}{ms:List Dfr}{v:LV}{M':Mem}(hw:wanted all T o.guard=some true)(hd:isDefer o.op=none)(hA:opA P o.op T M=some (.boom v M')) :
  zr P ro (om P) all (o :: os) T ms M=some (.boom v T ms M'):=by
 obtain⟨dst,op,a1,a2,a3,g⟩:=o
 show ob (wanted all T g) _=_
 have hw:wanted all T g=some true:=hw
 have hd:isDefer op=none:=hd
 have hA:opA P op T M=some (.boom v M'):=hA
 rw[hw]
 show oe (isDefer op) _ _=_
 rw[hd]
 show ob (opA P op T M) _=_
 rw[hA];rfl
theorem zb8(hg:GOn E g){f:XO}{as:List XO}{gf:FuncId}{fi ca vs:List LV}(hf:xval E f=some (.func (.func gf) fi ca))(has:z0g E as=some vs){Q:LV->Mem->Prop}(h:CallB P gf (fi ++ vs ++ ca) M Q D1)
  (hd:∀ v M',D1 v M'->D v M') (hk:∀ v M',Q v M'->XW (.die D) P sz l (putE E d v) M' K):XW (.die D) P sz (⟨d,.call f as,g⟩ :: l) E M K:=by
 have hs:ze P (.call f as) E M=some (.enter gf (fi ++ vs ++ ca) M):=by
  show ob (z0g E as) _=_
  rw[has,z0,hf];rfl
 rcases h with⟨v,M',h1,h2⟩|⟨v,M',h1,h2⟩
 ·exact zf1 hg hs (r:=.enter gf (fi ++ vs ++ ca) M) h1 (hk v M' h2)
 ·intro all os T ro ms hc he
  obtain⟨o,os',rfl,g1,g2⟩:=z1f hc
  obtain⟨h3,h4,h5,h6⟩:=z0p g1
  exact .inr ⟨v,T,M',zib (z0m h5 he hg) (z2t h4) (z0y he h4 hs) h1,hd _ _ h2⟩
theorem zob(hg:GOn E g){v:LV}{M':Mem}(hs:ze P i E M=some (.boom v M'))(hd:D v M'):XW (.die D) P sz (⟨d,i,g⟩ :: l) E M K:=by
 intro all os T ro ms hc he
 obtain⟨o,os',rfl,g1,g2⟩:=z1f hc
 obtain⟨h3,h4,h5,h6⟩:=z0p g1
 exact .inr ⟨v,T,M',zkf (z0m h5 he hg) (z2t h4) (z0y he h4 hs),hd⟩
theorem zny{f:XO}{as:List XO}{gf:FuncId}{fi ca vs:List LV}{Q:LV->Mem->Prop}(hg:GOn E g)(hf:xval E f=some (.func (.func gf) fi ca))(has:z0g E as=some vs)(h:CallB P gf (fi ++ vs ++ ca) M Q D)
  (hk:∀ v M',Q v M'->XW (.die D) P sz l ((dd,v) :: E) M' K):XW (.die D) P sz (⟨some dd,.call f as,g⟩ :: l) E M K:=zb8 hg hf has h (fun _ _ h=>h) hk
theorem zd5{f:FuncId}{n:Nat}{c:XC}{res:List XR}(hf:cFn P f=some ⟨n,c,res⟩){args:List LV}{M:Mem}{Q:LV->Mem->Prop}(hn:Nat.ble args.length n=true)
  (h:W (.die D) P f none n c (zipE 0 args) [] M (KFun res Q)) (hask:Orc.ask P f args M=none):CallB P f args M Q D:=by
 unfold cFn at hf
 split at hf
 ·cases hf
 ·rename_i fd hfd
  split at hf
  ·cases hf
  ·rename_i code hcode
   split at hf
   ·rename_i c' r' hc hr
    cases hf
    rw[Nat.ble_eq] at hn
    obtain⟨T,h1,h2,h3⟩:=z35 args 0 ⟨fd.ntmps,.nil⟩ (by show 0+args.length<=fd.ntmps;omega)
    have hT:Tm.ofList fd.ntmps args=some T:=by
     unfold Tm.ofList
     rw[z13]
     show Tm.setAll args 0 ⟨max fd.ntmps args.length,.nil⟩=_
     rw[Nat.max_eq_left hn];exact h1
    have he:zg fd.ntmps (zipE 0 args) T:=⟨h2,fun d v hd=>by
     obtain⟨_,h5⟩:=z5o hd
     rw[z2o,h3 d,if_pos (by have:=(List.getElem?_eq_some_iff.1 h5).1;omega),h5];rfl⟩
    have key:∀ o,(∃ out,om P (.code f none code T [] M)=some out /\ z0w (some out) (fun e T ms m=>exE e (finRet P (om P) fd T ms m) (finRet P (om P) fd T ms m) (fun _=>none)) (fun v T ms m=>finDie P (om P) fd T v ms m)=some o)->om P (.call f args M)=some o:=fun o ⟨out,g1,g2⟩=>by
     rw[zdi hask]
     show ob (fnOf P f) _=_
     rw[hfd,z0,hT,z0,hcode,z0]
     show z0w (om P (.code f none code T [] M)) _ _=_
     rw[g1];exact g2
    rcases h code T hc he with⟨e,T',ms',M',h5,E',h6,h7⟩|⟨v,T',M',h5,h6⟩
    ·left
     cases e with
     | exit i=>exact h7.elim
     | _ =>
      obtain⟨M2,h8,vs,h9,h10⟩:=h7
      refine⟨_,M2,key _ ⟨_,h5,?_⟩,h10⟩
      show finRet P (om P) fd T' ms' M'=_
      rw[z43 h8]
      show ob (z05 P T' M2 fd.results.toList) _=_
      rw[z1a h6 hr h9];rfl
    ·exact .inr ⟨v,M',key _ ⟨_,h5,rfl⟩,h6⟩
   ·cases hf
theorem z2n{f:FuncId}{xf:XF}(hf:cFn P f=some xf){args:List LV}{M:Mem}{Q:LV->Mem->Prop}(hn:Nat.ble args.length xf.ntmps=true)
  (h:W (.die D) P f none xf.ntmps xf.body (zipE 0 args) [] M (KFun xf.res Q)) (hask:Orc.ask P f args M=none:=by rfl):CallB P f args M Q D:=zd5 (n:=xf.ntmps) (c:=xf.body) (res:=xf.res) hf hn h hask
end
end PvL
end
section
namespace PvL
set_option linter.unusedSectionVars false
set_option linter.unusedVariables false
open Go
section
variable {P:Program} [Orc P]
def RunAt(P:Program)[Orc P](sz:Nat)(all:List Oper)(ds:List Nat)(os:List Oper)(n:Nat)(s0:DS)(K:Env->Mem->Prop):Prop :=
 ∃ s,zm P (om P) all ds os n s0=some s /\ z07 P s.st s.k s.ps=true /\ ∃ E',zg sz E' s.T /\ K E' s.m
def DieAt(P:Program)[Orc P](all:List Oper)(ds:List Nat)(os:List Oper)(n:Nat)(s0:DS)(D:LV->Mem->Prop):Prop :=
 zm P (om P) all ds os n s0=none /\ ∃ v m2 s,zo P (om P) all ds os n s0=some (v,m2,s) /\ z07 P s.st s.k s.ps=true /\ D v ⟨s.m.next,m2.tr⟩
def XB(P:Program)[Orc P](sz:Nat)(ds:List Nat)(n:Nat)(l:List (XG × XK))(E:Env)(M:Mem)(st:List Mem)(k:Nat)(xs:List (Nat × Nat × (Mem->Prop)))(K:Env->Mem->Prop)(D:LV->Mem->Prop):Prop :=
 ∀(all os:List Oper) (T:Tm) (ps:List Pend),cDrawn P sz all ds os n=some l->zg sz E T->Cov P ps xs->RunAt P sz all ds os n ⟨T,M,st,k,ps⟩ K ∨ DieAt P all ds os n ⟨T,M,st,k,ps⟩ D
def XRst(P:Program)[Orc P](sz:Nat)(ds:List Nat)(j0 n:Nat)(l:List (XG × XK))(E:Env)(M:Mem)(st:List Mem)(k:Nat)(xs:List (Nat × Nat × (Mem->Prop)))(Q:Mem->Prop):Prop :=
 ∀(all os:List Oper) (T:Tm) (ps:List Pend),cDrawn P sz all ds os n=some l->zg sz E T->Cov P ps xs->∃ s,zz P (om P) all ds j0 os n ⟨T,M,st,k,ps⟩=some s /\ z07 P s.st s.k s.ps=true /\ Q s.m
variable {sz:Nat} {E:Env} {M:Mem} {K:Env->Mem->Prop} {l:List (XG × XK)} {d:Option Nat} {dd:Nat} {i:XI} {g:Option (Nat × Bool)} {st:List Mem} {k:Nat} {xs:List (Nat × Nat × (Mem->Prop))} {ds:List Nat} {n j0:Nat} {D D1:LV->Mem->Prop} {kd:XK}
theorem zbs(hg:GOn E g){r:R1}(hs:ze P i E M=some r){v:LV}{M':Mem}(hf:RTo P r v M')
  {st':List Mem} {k':Nat} {xs':List (Nat × Nat × (Mem->Prop))} (hkd:KdOk P kd E M i d r v M' st k xs st' k' xs')
  {all:List Oper} {os:List Oper} {T:Tm} {ps:List Pend} (hc:cDrawn P sz all ds os n=some ((⟨d,i,g⟩,kd) :: l)) (he:zg sz E T) (hcov:Cov P ps xs) :
  ∃ os' T1 ps',cDrawn P sz all ds os' (n+1)=some l /\ zg sz (putE E d v) T1 /\ Cov P ps' xs' /\ zm P (om P) all ds os n ⟨T,M,st,k,ps⟩=zm P (om P) all ds os' (n+1) ⟨T1,M',st',k',ps'⟩ /\
   zo P (om P) all ds os n ⟨T,M,st,k,ps⟩=zo P (om P) all ds os' (n+1) ⟨T1,M',st',k',ps'⟩ /\
   ∀ j0,Nat.testBit (ds.getD n 0) j0=false->kd ≠ .anchor->zz P (om P) all ds j0 os n ⟨T,M,st,k,ps⟩=zz P (om P) all ds j0 os' (n+1) ⟨T1,M',st',k',ps'⟩:=by
 obtain⟨o,os',rfl,h1,h2,h2'⟩:=z2d hc
 obtain⟨h3,h4,h5,h6⟩:=z5a h1
 have h7:=z2e he h4 hs
 obtain⟨T1,hT1,he1⟩:=he.put h6 v
 obtain⟨dst,op,a1,a2,a3,gd⟩:=o
 have h3:d=dst:=h3.symm
 subst h3
 have hrun:∀(k:Tm->Mem->Option DS),opFull P (om P) T M op d k=k T1 M':=fun k=>by
  show ob (op1 P op T M) _=_
  rw[h7,z0,hf.opFin,hT1];rfl
 have hdie:∀(k:Tm->Mem->Option (LV × Mem × DS)) (kd1:LV->Mem->Option (LV × Mem × DS)),r1E r (fun v m=>ob (T.put d v) fun T=>k T m) (fun m=>ob (T.put d zk) fun T=>k T m)
     (fun f args m1=>z0l (om P (.call f args m1)) (fun v m=>ob (T.put d v) fun T=>k T m) kd1)
     (fun l args m1=>z1c (om P (.round l args m1)) fun v m=>ob (T.put d v) fun T=>k T m) (fun _ _=>none)=k T1 M':=fun k kd1=>by
  cases r with
  | val v' m'=>obtain⟨rfl,rfl⟩:=hf;show ob (T.put d v') _=_;rw[hT1];rfl
  | skip m'=>obtain⟨rfl,rfl⟩:=hf;show ob (T.put d zk) _=_;rw[hT1];rfl
  | enter f as m=>show z0l (om P _) _ _=_;rw[show om P (.call f as m)=_ from hf];show ob (T.put d v) _=_;rw[hT1];rfl
  | round l as m=>show z1c (om P _) _=_;rw[show om P (.round l as m)=_ from hf];show ob (T.put d v) _=_;rw[hT1];rfl
  | boom _ _=>exact hf.elim
 have hpend:∀ m,ze P i E m=some (.val v m)->d.isSome=true->∀ lo hi,z19 P { op:=op,T:=T,v:=dstV T1 d,lo:=lo,hi:=hi } m=true:=fun m hm hd lo hi=>by
  unfold z19
  have:=z2e he h4 hm
  have e:op1 P ({ op:=op,T:=T,v:=dstV T1 d,lo:=lo,hi:=hi }:Pend).op ({ op:=op,T:=T,v:=dstV T1 d,lo:=lo,hi:=hi }:Pend).T m=some (.val v m):=this
  rw[e]
  cases d with
  | none=>cases hd
  | some d =>
   show lvEq v (T1.get d)=true
   rw[Tm.get_set hT1,if_pos rfl];exact z42 v
 have hw:=z0m h5 he hg
 have hall:∀ ps',Cov P ps' xs'->(match cls P op with
   | .mover=>(st',k',ps')=(st,k,ifb (z04 op) ({ op:=op,T:=T,v:=dstV T1 d,lo:=z0a P (ds.getD n 0) all 0,hi:=zn P n all ds } :: ps) ps)
   | .new=>(st',k',ps')=(st,k,ps)
   | .calm=>(st',k',ps')=(st,k,ps)
   | .anchor=>(st',k',ps')=(M' :: st,k+1,ps) /\ kd=.anchor)->∃ os'' T1 ps',cDrawn P sz all ds os'' (n+1)=some l /\ zg sz (putE E d v) T1 /\ Cov P ps' xs' /\ zm P (om P) all ds (⟨d,op,a1,a2,a3,gd⟩ :: os') n ⟨T,M,st,k,ps⟩=zm P (om P) all ds os'' (n+1) ⟨T1,M',st',k',ps'⟩ /\
   zo P (om P) all ds (⟨d,op,a1,a2,a3,gd⟩ :: os') n ⟨T,M,st,k,ps⟩=zo P (om P) all ds os'' (n+1) ⟨T1,M',st',k',ps'⟩ /\
   ∀ j0,Nat.testBit (ds.getD n 0) j0=false->kd ≠ .anchor->zz P (om P) all ds j0 (⟨d,op,a1,a2,a3,gd⟩ :: os') n ⟨T,M,st,k,ps⟩=zz P (om P) all ds j0 os'' (n+1) ⟨T1,M',st',k',ps'⟩:=by
  intro ps' hcv heq
  refine⟨os',T1,ps',h2',he1,hcv,?_,?_,fun j0 hb hna=>?_⟩
  ·conv=>lhs;unfold zm
   simp only
   rw[hw,z0,zf,hrun]
   cases hcl:cls P op with
   | anchor=>rw[hcl] at heq;obtain⟨heq,_⟩:=heq;cases heq;rfl
   | _=>rw[hcl] at heq;cases heq;rfl
  ·conv=>lhs;unfold zo
   simp only
   rw[hw,z0,zf,h7,z0,hdie]
   cases hcl:cls P op with
   | anchor=>rw[hcl] at heq;obtain⟨heq,_⟩:=heq;cases heq;rfl
   | _=>rw[hcl] at heq;cases heq;rfl
  ·conv=>lhs;unfold zz
   simp only
   rw[hb,z8,hw,z0,zf,hrun]
   cases hcl:cls P op with
   | anchor=>rw[hcl] at heq;exact absurd heq.2 hna
   | _=>rw[hcl] at heq;cases heq;rfl
 unfold cKind at h2
 simp only at h2
 cases hcl:cls P op with
 | mover =>
  rw[hcl] at h2
  simp only at h2
  cases hr:(z04 op && !(xCalm i)) with
  | true =>
   rw[hr] at h2
   simp only[Bool.and_eq_true] at hr
   rw[if_pos rfl] at h2
   subst h2
   obtain⟨rfl,rfl,rfl,q,rfl,hd,hq⟩:=hkd
   refine hall ({ op:=op,T:=T,v:=dstV T1 d,lo:=z0a P (ds.getD n 0) all 0,hi:=zn P n all ds } :: ps) (fun st k ho=>?_) (by rw[hcl];simp only;rw[hr.1,zf])
   show(pendAt P _ st k && z07 P st k ps)=true
   rw[hcov st k ho.2,Bool.and_true]
   exact z5s _ q (fun m hm=>hpend m (hq m hm) hd _ _) st k ho.1
  | false =>
   rw[hr] at h2
   rw[if_neg (by decide)] at h2
   subst h2
   obtain⟨rfl,rfl,rfl,rfl,rfl,hd⟩:=hkd
   cases hrm:z04 op with
   | false=>exact hall ps hcov (by rw[hcl];simp only;rw[hrm,z8])
   | true =>
    rw[hrm] at hr
    have hcalm:xCalm i=true:=by simpa using hr
    refine hall ({ op:=op,T:=T,v:=dstV T1 d,lo:=z0a P (ds.getD n 0) all 0,hi:=zn P n all ds } :: ps) (fun st k ho=>?_) (by rw[hcl];simp only;rw[hrm,zf])
    show(pendAt P _ st k && z07 P st k ps)=true
    rw[hcov st k ho,Bool.and_true]
    exact z9p _ (fun m=>hpend m (za0 hcalm hs m) hd _ _) st k
 | new =>
  rw[hcl] at h2
  subst h2
  obtain⟨rfl,rfl,rfl⟩:=hkd
  exact hall ps hcov (by rw[hcl])
 | calm =>
  rw[hcl] at h2
  subst h2
  obtain⟨rfl,rfl,rfl⟩:=hkd
  exact hall ps hcov (by rw[hcl])
 | anchor =>
  rw[hcl] at h2
  subst h2
  obtain⟨rfl,rfl,rfl⟩:=hkd
  exact hall ps hcov (by rw[hcl];exact⟨rfl,rfl⟩)
theorem zq0{l:List (XG × XK)}(h:XD P sz l E M st k xs K):XB P sz ds n l E M st k xs K D:=fun all os T ps hc he hcov=>.inl (h all ds os n T ps hc he hcov)
theorem zez(hg:GOn E g){r:R1}(hs:ze P i E M=some r){v:LV}{M':Mem}(hf:RTo P r v M')
  {st':List Mem} {k':Nat} {xs':List (Nat × Nat × (Mem->Prop))} (hkd:KdOk P kd E M i d r v M' st k xs st' k' xs') (hk:XB P sz ds (n+1) l (putE E d v) M' st' k' xs' K D):XB P sz ds n ((⟨d,i,g⟩,kd) :: l) E M st k xs K D:=fun all os T ps hc he hcov=>by
 obtain⟨os',T1,ps',h1,h2,h3,h4,h5,_⟩:=zbs hg hs hf hkd hc he hcov
 rcases hk all os' T1 ps' h1 h2 h3 with⟨s,h6⟩|⟨h6,h7⟩
 ·exact .inl ⟨s,by rw[h4];exact h6⟩
 ·refine .inr ⟨by rw[h4];exact h6,?_⟩
  rw[h5];exact h7
theorem zq6{Q:Mem->Prop}(ho:ObAll st k xs)(h:Q M):XRst P sz ds j0 n [] E M st k xs Q:=fun all os T ps hc he hcov=>by
 cases os with
 | nil=>exact⟨_,rfl,hcov _ _ ho,h⟩
 | cons o os =>
  simp only[cDrawn] at hc
  split at hc<;>cases hc
theorem zq5{Q:Mem->Prop}(hb:Nat.testBit (ds.getD n 0) j0=false)(hna:kd ≠ .anchor)(hg:GOn E g){r:R1}(hs:ze P i E M=some r){v:LV}{M':Mem}(hf:RTo P r v M')
  {st':List Mem} {k':Nat} {xs':List (Nat × Nat × (Mem->Prop))} (hkd:KdOk P kd E M i d r v M' st k xs st' k' xs') (hk:XRst P sz ds j0 (n+1) l (putE E d v) M' st' k' xs' Q):XRst P sz ds j0 n ((⟨d,i,g⟩,kd) :: l) E M st k xs Q:=fun all os T ps hc he hcov=>by
 obtain⟨os',T1,ps',h1,h2,h3,_,_,h6⟩:=zbs hg hs hf hkd hc he hcov
 rw[h6 j0 hb hna]
 exact hk all os' T1 ps' h1 h2 h3
theorem zm8{Q:Mem->Prop}(hb:Nat.testBit (ds.getD n 0) j0=true){st':List Mem}{k':Nat}(hkd:match kd with | .anchor=>st'=M :: st /\ k'=k+1|_=>st'=st /\ k'=k)
  (hk:XRst P sz ds j0 (n+1) l (putE E d .unk) M st' k' xs Q):XRst P sz ds j0 n ((⟨d,i,g⟩,kd) :: l) E M st k xs Q:=fun all os T ps hc he hcov=>by
 obtain⟨o,os',rfl,h1,h2,h2'⟩:=z2d hc
 obtain⟨h3,h4,h5,h6⟩:=z5a h1
 obtain⟨T1,hT1,he1⟩:=he.put h6 .unk
 obtain⟨dst,op,a1,a2,a3,gd⟩:=o
 have h3:d=dst:=h3.symm
 subst h3
 have hT1:T.put d .unk=some T1:=hT1
 conv=>enter [1,s];unfold zz
 simp only
 rw[hb,zf,hT1,z0]
 unfold cKind at h2
 simp only at h2
 cases hcl:cls P op with
 | anchor =>
  rw[hcl] at h2
  subst h2
  obtain⟨rfl,rfl⟩:=hkd
  exact hk all os' T1 ps h2' he1 hcov
 | mover =>
  have hkk:st'=st /\ k'=k:=by
   rw[hcl] at h2
   simp only at h2
   split at h2<;>(subst h2;exact hkd)
  obtain⟨rfl,rfl⟩:=hkk
  exact hk all os' T1 ps h2' he1 hcov
 | new =>
  rw[hcl] at h2
  subst h2
  obtain⟨rfl,rfl⟩:=hkd
  exact hk all os' T1 ps h2' he1 hcov
 | calm =>
  rw[hcl] at h2
  subst h2
  obtain⟨rfl,rfl⟩:=hkd
  exact hk all os' T1 ps h2' he1 hcov
theorem zl2(hg:GOn E g){f:XO}{as:List XO}{gf:FuncId}{fi ca vs:List LV}(hf:xval E f=some (.func (.func gf) fi ca))(has:z0g E as=some vs){Q:LV->Mem->Prop}(h:CallB P gf (fi ++ vs ++ ca) M Q D1)
  (hd:∀ v M',D1 v M'->XRst P sz ds n (n+1) l (putE E d .unk) ⟨M'.next,M.tr⟩ (⟨M'.next,M.tr⟩ :: st) (k+1) xs (fun m=>D v ⟨m.next,M'.tr⟩))
  (hk:∀ v M',Q v M'->XB P sz ds (n+1) l (putE E d v) M' (M' :: st) (k+1) xs K D):XB P sz ds n ((⟨d,.call f as,g⟩,.anchor) :: l) E M st k xs K D:=by
 have hs:ze P (.call f as) E M=some (.enter gf (fi ++ vs ++ ca) M):=by
  show ob (z0g E as) _=_
  rw[has,z0,hf];rfl
 rcases h with⟨v,M',h1,h2⟩|⟨v,M',h1,h2⟩
 ·exact zez hg hs (r:=.enter gf (fi ++ vs ++ ca) M) h1 (by exact⟨rfl,rfl,rfl⟩) (hk v M' h2)
 ·intro all os T ps hc he hcov
  obtain⟨o,os',rfl,g1,g2,g2'⟩:=z2d hc
  obtain⟨h3,h4,h5,h6⟩:=z5a g1
  have h7:=z2e he h4 hs
  obtain⟨T1,hT1,he1⟩:=he.put h6 .unk
  obtain⟨dst,op,a1,a2,a3,gd⟩:=o
  have h3:d=dst:=h3.symm
  subst h3
  have hT1:T.put d .unk=some T1:=hT1
  have hw:=z0m h5 he hg
  have hanch:z7 P op=true:=by
   unfold z7
   unfold cKind at g2
   simp only at g2
   cases hcl:cls P op with
   | anchor=>rfl
   | mover =>
    rw[hcl] at g2
    simp only at g2
    split at g2<;>cases g2
   | new=>rw[hcl] at g2;cases g2
   | calm=>rw[hcl] at g2;cases g2
  obtain⟨s,k1,k2,k3⟩:=hd v M' h2 all os' T1 ps g2' he1 hcov
  refine .inr ⟨?_,v,M',s,?_,k2,k3⟩
  ·unfold zm
   simp only
   rw[hw,z0,zf]
   show ob (op1 P op T M) _=_
   rw[h7,z0]
   show z1c (om P _) _=_
   rw[h1];rfl
  ·unfold zo
   simp only
   rw[hw,z0,zf,h7,z0]
   show z0l (om P _) _ _=_
   rw[h1]
   show guard' (z7 P op) (ob (T.put d .unk) fun T'=>ob (zz P (om P) all ds n os' (n+1) ⟨T',⟨M'.next,M.tr⟩,⟨M'.next,M.tr⟩ :: st,k+1,ps⟩) fun d=>some (v,M',d))=_
   rw[hanch,z6,hT1,z0,k1];rfl
variable {fn:FuncId} {ro:Option Nat} {KC:Ex->Env->List Dfr->Mem->Prop}
theorem znt{l:List (XG × XK)}{ds:List Nat}(h:XB P sz ds 0 l E M [M] 0 [] (fun E M=>KC .norm E [] M) D):W (.die D) P fn ro sz (.draw l ds) E [] M KC:=z4g fun code T hc he=>by
 cases code with
 | region i ops d =>
  cases d with
  | true =>
   simp only[zh] at hc
   split at hc
   ·rename_i hok
    split at hc
    ·rename_i l' hl
     cases hc
     rcases h _ _ T [] hl he (fun st k _=>rfl) with⟨s,h1,h2,h3⟩|⟨h1,v,m2,s,h2,h3,h4⟩
     ·left
      obtain⟨T',M',st',k',ps'⟩:=s
      refine⟨.norm,T',[],M',?_,h3⟩
      show cDraw P (om P) ops T [] M=_
      unfold cDraw
      rw[hok,zf]
      unfold cDrawG
      rw[h1,z21]
      show guard' (z07 P st' k' ps') _=_
      rw[show z07 P st' k' ps'=true from h2];rfl
     ·right
      obtain⟨T',M',st',k',ps'⟩:=s
      refine⟨v,⟨T.size,.nil⟩,⟨M'.next,m2.tr⟩,?_,h4⟩
      show cDraw P (om P) ops T [] M=_
      unfold cDraw
      rw[hok,zf]
      unfold cDrawG
      rw[h1,z2v,h2,z0]
      show guard' (z07 P st' k' ps') _=_
      rw[show z07 P st' k' ps'=true from h3];rfl
    ·cases hc
   ·cases hc
  | false=>simp only[zh] at hc;(repeat' split at hc)<;>cases hc
 | skip|label|ret|goto|refuse|exit=>cases hc
 | _=>simp only[zh] at hc;split at hc<;>cases hc
end
end PvL
end
section
namespace PvL
set_option linter.unusedSectionVars false
set_option linter.unusedVariables false
open Go
section
variable {P:Program} [Orc P] {sz:Nat} {E:Env} {M:Mem} {K:Env->Mem->Prop} {l:List (XG × XK)} {od:Option Nat} {d:Nat} {i:XI} {g:Option (Nat × Bool)} {st:List Mem} {k:Nat} {xs:List (Nat × Nat × (Mem->Prop))} {ds:List Nat} {n j0:Nat} {D:LV->Mem->Prop} {kd:XK}
variable {x y a:XO} {o nn t:Nat} {v:LV} {ls:List LV} {lo hi ii:Nat}
theorem zoi(hg:GOn E g)(hs:ze P i E M=some (.val v M))(hk:XB P sz ds (n+1) l ((d,v) :: E) M st k xs K D):XB P sz ds n ((⟨some d,i,g⟩,.calm) :: l) E M st k xs K D :=
 zez hg hs ⟨rfl,rfl⟩ (by exact⟨rfl,rfl,rfl,rfl,rfl,rfl⟩) hk
theorem zqp(hg:GOn E g)(ha:xval E a=some (.ptr (some (ii,o))))(h:Rd1 M ii o v)(hk:XB P sz ds (n+1) l ((d,v) :: E) M st k ((lo,hi,fun m=>Rd1 m ii o v) :: xs) K D) :
  XB P sz ds n ((⟨some d,.ld1 a,g⟩,.reads lo hi) :: l) E M st k xs K D :=
 zez hg (zcu ha h) ⟨rfl,rfl⟩ (by exact⟨rfl,rfl,rfl,_,rfl,rfl,fun _ hm=>zcu ha hm⟩) hk
variable {q:XI} {dd:Option Nat} {b w:Bool} {T F:Prop} {c:Nat} {z:XO}
theorem zoh(ho:ObAll st k xs)(h:K E M):XB P sz ds n [] E M st k xs K D:=zq0 (zp2 h ho)
theorem zog{f:XO}{as:List XO}{gf:FuncId}{fi ca vs:List LV}{Q:LV->Mem->Prop}(hg:GOn E g)(hf:xval E f=some (.func (.func gf) fi ca))(has:z0g E as=some vs)(h:za P gf (fi ++ vs ++ ca) M Q)
  (hk:∀ w M',Q w M'->XB P sz ds (n+1) l ((d,w) :: E) M' (M' :: st) (k+1) xs K D):XB P sz ds n ((⟨some d,.call f as,g⟩,.anchor) :: l) E M st k xs K D:=by
 obtain⟨v,M',h1,h2⟩:=h
 refine zez hg (r:=.enter gf (fi ++ vs ++ ca) M) ?_ h1 (by exact⟨rfl,rfl,rfl⟩) (hk v M' h2)
 show ob (z0g E as) _=_
 rw[has,z0,hf];rfl
theorem zbe{f:XO}{as:List XO}{gf:FuncId}{fi ca vs:List LV}(hg:GOn E g)(hf:xval E f=some (.func (.func gf) fi ca))(has:z0g E as=some vs)(h:za P gf (fi ++ vs ++ ca) M fun w M'=>w=v /\ M'=M)
  (hk:XB P sz ds (n+1) l ((d,v) :: E) M (M :: st) (k+1) xs K D):XB P sz ds n ((⟨some d,.call f as,g⟩,.anchor) :: l) E M st k xs K D :=
 zog hg hf has h fun w M' ⟨h1,h2⟩=>by subst h1;subst h2;exact hk
variable {Q:Mem->Prop}
theorem zpm(ho:ObAll st k xs)(h:Q M):XRst P sz ds j0 n [] E M st k xs Q:=zq6 ho h
theorem zrb{z:List LV}(hb:Nat.testBit (ds.getD n 0) j0=false)(hg:GOn E g)(hf:zc z=true)(hk:∀ m M',New M m (.cells true z t) M'->m=M.next->M'.next=M.next+1->XRst P sz ds j0 (n+1) l ((d,.ptr (some (m,0))) :: E) M' st k xs Q):XRst P sz ds j0 n ((⟨some d,.new t z,g⟩,.new) :: l) E M st k xs Q :=
 zq5 hb (fun h=>by cases h) hg (zj2 hf) ⟨rfl,rfl⟩ (by exact⟨rfl,rfl,rfl⟩) (hk _ _ ⟨rfl,rfl⟩ rfl rfl)
theorem zra(hb:Nat.testBit (ds.getD n 0) j0=true)(hk:XRst P sz ds j0 (n+1) l ((d,.unk) :: E) M st k xs Q):XRst P sz ds j0 n ((⟨some d,i,g⟩,.calm) :: l) E M st k xs Q:=zm8 hb ⟨rfl,rfl⟩ hk
theorem zav(hb:Nat.testBit (ds.getD n 0) j0=true)(hk:XRst P sz ds j0 (n+1) l E M (M :: st) (k+1) xs Q):XRst P sz ds j0 n ((⟨none,i,g⟩,.anchor) :: l) E M st k xs Q:=zm8 (d:=none) hb ⟨rfl,rfl⟩ hk
end
def RdOk{β:Type}(enc:β->LV)(a:Nat)(lb:Nat->LB)(r:Option (β × Nat))(M:Mem)(w:LV)(M':Mem):Prop:=∃ b p',r=some (b,p') /\ Put1 (enc b) a (lb p') M w M'
def RdNo{β:Type}(a:Nat)(lb:Nat->LB)(r:Option (β × Nat))(bk:LV)(M:Mem)(v:LV)(M':Mem):Prop:=r=none /\ v=bk /\ Keep (fun i=>i=a) M M' /\ ∃ p',At M' a (lb p')
section
variable {P:Program} [Orc P] {sz:Nat} {E:Env} {M:Mem} {K:Env->Mem->Prop} {l:List XG} {d:Nat} {g:Option (Nat × Bool)} {st:List Mem} {k:Nat} {xs:List (Nat × Nat × (Mem->Prop))} {ld:List (XG × XK)} {D:LV->Mem->Prop} {ds:List Nat} {n:Nat}
variable {β:Type} {enc:β->LV} {a:Nat} {lb:Nat->LB} {r:Option (β × Nat)} {bk:LV} {f:XO} {as:List XO} {gf:FuncId} {fi ca vs:List LV}
theorem x_rd(hg:GOn E g)(hf:xval E f=some (.func (.func gf) fi ca))(has:z0g E as=some vs)(h:CallB P gf (fi ++ vs ++ ca) M (RdOk enc a lb r M) (RdNo a lb r bk M))
  (hd:r=none->∀ M',Keep (fun i=>i=a) M M'->M.next<=M'.next->∀ p',At M' a (lb p')->D bk M')
  (hk:∀ b p',r=some (b,p')->∀ M',Keep (fun i=>i=a) M M'->M.next<=M'.next->At M' a (lb p')->XW (.die D) P sz l ((d,enc b) :: E) M' K):XW (.die D) P sz (⟨some d,.call f as,g⟩ :: l) E M K :=
 zb8 hg hf has h (fun v M' ⟨h1,h2,h3,p',h4⟩=>by subst h2;exact hd h1 M' h3 h3.le p' h4) fun w M' ⟨b,p',h1,h2,h3,h4⟩=>by subst h2;exact hk b p' h1 M' h3 h3.le h4
def MuOk(q:Bool)(M:Mem)(w:LV)(M':Mem):Prop:=q=true /\ w=.tup [] /\ M'=M
def MuNo(q:Bool)(bk:LV)(M:Mem)(v:LV)(M':Mem):Prop:=q=false /\ v=bk /\ M'=M
variable {q:Bool} {T F:Prop}
theorem x_mu(hg:GOn E g)(hf:xval E f=some (.func (.func gf) fi ca))(has:z0g E as=some vs)(h:CallB P gf (fi ++ vs ++ ca) M (MuOk q M) (MuNo q bk M))(hbn:BN q T F)
  (hd:F->D bk M) (hk:T->XW (.die D) P sz l ((d,.tup []) :: E) M K):XW (.die D) P sz (⟨some d,.call f as,g⟩ :: l) E M K :=
 zb8 hg hf has h (fun v M' ⟨h1,h2,h3⟩=>by subst h2;subst h3;exact hd (hbn.f h1)) fun w M' ⟨h1,h2,h3⟩=>by subst h2;subst h3;exact hk (hbn.t h1)
end
theorem svb{G G':Prop}(h':G')(hs:G'->G:=by first|((with_reducible first|apply z6i|apply zkx|apply znt|apply zdt|apply w_scope|apply zps|apply zm3|apply zm5|apply z3p|apply zc5|apply z9c|apply zdd|apply z7w|apply z14|apply z9b|apply z7x|apply z9d|apply z7y|apply zmb))|((with_reducible first|apply z3m|apply zoi);exact gd;exact sx)|((with_reducible first|apply x_l1|apply x_lN|apply zqp|apply b_ldN);exact gd;exact rfl;exact xm)|((with_reducible first|apply x_st);exact gd;exact rfl;exact rfl;exact xm;exact rfl;exact rfl;exact rfl)|((with_reducible first|apply zpw|apply zpx);exact gd;exact rfl;exact rfl)|((with_reducible first|apply zpy);exact gd;exact rfl)|((with_reducible first|apply ziu);exact gd)|((with_reducible first|apply zpz|apply x_off0|apply b_off|apply b_off_calm|apply b_off_new|apply b_off_anchor);exact gx)|((with_reducible first|apply zoh|apply zpm);exact ox)|((with_reducible apply r_val);exact rfl;exact gd;exact sx)|((with_reducible apply zrb);exact rfl;exact gd;exact rfl)|((with_reducible first|apply zra|apply r_dep_new|apply r_dep_anchor|apply zav);exact rfl)|((with_reducible apply z7v);exact rfl)|((with_reducible first|apply zef|apply zhf|apply k_round_ret|apply k_round_exit);exact xm)):G:=hs h'
theorem sgb{G G1 G2:Prop}(h1:G1)(h2:G2)(hs:G1->G2->G:=by((with_reducible first|apply xgd|apply bgd|apply xpk|apply bpk);exact rfl;infer_instance)):G:=hs h1 h2
end PvL
end
section
namespace PvL
set_option linter.unusedSectionVars false
set_option linter.unusedVariables false
open Go
structure XRead where
 ntmps:Nat
 o0:List XG
 d1:Option Nat
 i1:XI
 dd:Option Nat
 cf:XO
 cas:List XO
 d2:Option Nat
 i2:XI
 d3:Option Nat
 f3:XO
 as3:List XO
 o3:List XG
 res:List XR
structure XRec where
 ntmps:Nat
 d:Nat
 e:Option Nat
 body:XC
section
variable (P:Program)
noncomputable def cRead(f:FuncId):Option XRead :=
 match fnOf P f with
 | none=>none
 | some fn=>match fn.body with
  | some (.seq (.region _ r0 false) (.seq (.region _ r1 false) (.seq (.region _ r2 false) (.seq (.region _ r3 false) .ret)))) =>
   match r1.toList,r2.toList with
   | [a,b],[a2,b2]=>match isDefer b.op,b.guard,dstIn fn.ntmps b.dst with
    | some c,none,true=>match c.callee with
     | .value cf=>match cOps P fn.ntmps r0.toList r0.toList,cOperA P fn.ntmps [a,b] a,cX cf,cXs c.args.toList,cOperA P fn.ntmps [a2,b2] a2,cOperA P fn.ntmps [a2,b2] b2,cOps P fn.ntmps r3.toList r3.toList,cRes P fn.results.toList with
      | some o0,some ⟨d1,i1,none⟩,some cf,some cas,some ⟨d2,i2,none⟩,some ⟨d3,.call f3 as3,none⟩,some o3,some res=>some ⟨fn.ntmps,o0,d1,i1,b.dst,cf,cas,d2,i2,d3,f3,as3,o3,res⟩
      | _,_,_,_,_,_,_,_=>none
     | _=>none
    | _,_,_=>none
   | _,_=>none
  | _=>none
noncomputable def cRec(f:FuncId):Option XRec :=
 match fnOf P f with
 | none=>none
 | some fn=>match fn.body with
  | none=>none
  | some c=>match recHead c,fn.results.isEmpty with
   | some (some d,e,c'),true=>match zh P fn.ntmps c',dstIn fn.ntmps (some d),dstIn fn.ntmps e with
    | some b,true,true=>some ⟨fn.ntmps,d,e,b⟩
    | _,_,_=>none
   | _,_=>none
end
section
variable {P:Program} [Orc P]
def DfrOk(P:Program)[Orc P](g:FuncId)(as:List LV)(pv:LV)(M:Mem)(R:Mem->Prop):Prop:=∃ M',dfrRun P (om P) g as pv M=some M' /\ R M'
theorem z9n{n:Nat}{args:List LV}(hn:Nat.ble args.length n=true):∃ T,Tm.ofList n args=some T /\ zg n (zipE 0 args) T:=by
 rw[Nat.ble_eq] at hn
 obtain⟨T,h1,h2,h3⟩:=z35 args 0 ⟨n,.nil⟩ (by show 0+args.length<=n;omega)
 refine⟨T,?_,h2,fun d v hd=>?_⟩
 ·unfold Tm.ofList
  rw[z13]
  show Tm.setAll args 0 ⟨max n args.length,.nil⟩=_
  rw[Nat.max_eq_left hn];exact h1
 ·obtain⟨_,h5⟩:=z5o hd
  rw[z2o,h3 d,if_pos (by have:=(List.getElem?_eq_some_iff.1 h5).1;omega),h5];rfl
theorem zln{g:FuncId}{x:XRec}(hx:cRec P g=some x){as:List LV}{pv:LV}{M:Mem}{R:Mem->Prop}(hn:Nat.ble as.length x.ntmps=true)
  (h:W .det P g none x.ntmps x.body (putE ((x.d,pv) :: zipE 0 as) x.e pv) [] M (fun e E ms M'=>(∀ i,e ≠ .exit i) /\ ms=[] /\ R M')):DfrOk P g as pv M R:=by
 unfold cRec at hx
 split at hx
 ·cases hx
 ·rename_i fn hfn
  split at hx
  ·cases hx
  ·rename_i c hc
   split at hx
   ·rename_i d e c' hr hres
    split at hx
    ·rename_i b hb hd he
     cases hx
     obtain⟨T,hT,hE⟩:=z9n hn
     obtain⟨T1,hT1,hE1⟩:=hE.put hd pv
     obtain⟨T2,hT2,hE2⟩:=hE1.put he pv
     obtain⟨ex,T',ms',M',h1,E',h2,h3,h4,h5⟩:=h _ T2 hb hE2
     refine⟨M',?_,h5⟩
     unfold dfrRun
     rw[hfn,z0,hT,z0,hc,z0,hr,z0]
     show ob (T.put (some d) pv) _=_
     rw[hT1,z0]
     show ob (T1.put e pv) _=_
     rw[hT2,z0,hres]
     show z0w (om P (.code g none c' T2 [] M)) _ _=_
     rw[h1]
     subst h4
     cases ex with
     | exit i=>exact absurd rfl (h3 i)
     | norm=>rfl
     | ret=>rfl
    ·cases hx
   ·cases hx
theorem z34{f:FuncId}{ro:Option Nat}{i:Nat}{ops:Array Oper}{T:Tm}{ms:List Dfr}{M:Mem}:om P (.code f ro (.region i ops false) T ms M)=zr P ro (om P) ops.toList ops.toList T ms M:=by
 rw[z44];rfl
theorem zia{all:List Oper}{o:Oper}{os:List Oper}{T T':Tm}{ms:List Dfr}{M:Mem}{c:Call}{d:Dfr}(hw:wanted all T o.guard=some true)(hd:isDefer o.op=some c)(hc:dfrOf c T=some d)(hT:T.put o.dst zk=some T') :
  zr P none (om P) all (o :: os) T ms M=zr P none (om P) all os T' (d :: ms) M:=by
 obtain⟨dst,op,a1,a2,a3,g⟩:=o
 show ob (wanted all T g) _=_
 have hw:wanted all T g=some true:=hw
 have hd:isDefer op=some c:=hd
 have hT:T.put dst zk=some T':=hT
 rw[hw]
 show oe (isDefer op) _ _=_
 rw[hd]
 show guard' true (ob (dfrOf c T) fun d=>ob (T.put dst zk) fun T=>zr P none (om P) all os T (d :: ms) M)=_
 rw[hc,z6,z0,hT,z0]
theorem z6f{f:FuncId}{ro:Option Nat}{a b:Code}{T T':Tm}{ms ms':List Dfr}{M M':Mem}{o:Out}(h:om P (.code f ro a T ms M)=some (.code .norm T' ms' M'))(h2:om P (.code f ro b T' ms' M')=some o):om P (.code f ro (.seq a b) T ms M)=some o:=by
 rw[z44]
 show z0j (om P (.code f ro a T ms M)) _=_
 rw[h]
 exact h2
theorem zcn{f:FuncId}{ro:Option Nat}{a b:Code}{T T':Tm}{ms ms':List Dfr}{M M':Mem}{v:LV}(h:om P (.code f ro a T ms M)=some (.boom v T' ms' M')):om P (.code f ro (.seq a b) T ms M)=some (.boom v T' ms' M'):=by
 rw[z44]
 show z0j (om P (.code f ro a T ms M)) _=_
 rw[h];rfl
theorem znj{f:FuncId}{x:XRead}(hx:cRead P f=some x){args:List LV}{M:Mem}{Q:LV->Mem->Prop}(hn:Nat.ble args.length x.ntmps=true)
  (h:XW .det P x.ntmps x.o0 (zipE 0 args) M fun E M=>∃ v1 v2 g fi ca vs g3 fi3 ca3 vs3,ze P x.i1 E M=some (.val v1 M) /\ xval (putE E x.d1 v1) x.cf=some (.func (.func g) fi ca) /\ z0g (putE E x.d1 v1) x.cas=some vs /\
   ze P x.i2 (putE (putE E x.d1 v1) x.dd zk) M=some (.val v2 M) /\ xval (putE (putE (putE E x.d1 v1) x.dd zk) x.d2 v2) x.f3=some (.func (.func g3) fi3 ca3) /\ z0g (putE (putE (putE E x.d1 v1) x.dd zk) x.d2 v2) x.as3=some vs3 /\
   CallB P g3 (fi3 ++ vs3 ++ ca3) M
    (fun w M'=>XW .det P x.ntmps x.o3 (putE (putE (putE (putE E x.d1 v1) x.dd zk) x.d2 v2) x.d3 w) M' fun E M'=>DfrOk P g (fi ++ vs ++ ca) .nilIface M' fun M2=>∃ vs,ResX E M2 x.res vs /\ Q (packed vs) M2)
    (fun pv M'=>DfrOk P g (fi ++ vs ++ ca) pv M' fun M2=>∃ vs,ResX (putE (putE (putE E x.d1 v1) x.dd zk) x.d2 v2) M2 x.res vs /\ Q (packed vs) M2))
  (hask:Orc.ask P f args M=none:=by rfl):za P f args M Q:=by
 unfold cRead at hx
 split at hx
 ·cases hx
 ·rename_i fn hfn
  split at hx
  ·rename_i n0 r0 n1 r1 n2 r2 n3 r3 hbody
   split at hx
   ·rename_i a b a2 b2 hr1 hr2
    split at hx
    ·rename_i c hb hbg hbd
     split at hx
     ·rename_i cf hcal
      split at hx
      ·rename_i o0 d1 i1 cf' cas d2 i2 d3 f3 as3 o3 res e0 ea ecf ecas ea2 eb2 e3 er
       cases hx
       obtain⟨T,hT,hE⟩:=z9n hn
       obtain⟨T1,M1,g1,E1,hE1,v1,v2,g,fi,ca,vs,g3,fi3,ca3,vs3,k1,k2,k3,k4,k5,k6,k7⟩:=h _ _ T none [] e0 hE
       obtain⟨p1,p2,p3,p4⟩:=z0p ea
       obtain⟨T2,hT2,hE2⟩:=hE1.put p4 v1
       obtain⟨T3,hT3,hE3⟩:=hE2.put hbd zk
       obtain⟨q1,q2,q3,q4⟩:=z0p ea2
       obtain⟨T4,hT4,hE4⟩:=hE3.put q4 v2
       obtain⟨s1,s2,s3,s4⟩:=z0p eb2
       have hd1:zr P none (om P) [a,b] [a,b] T1 [] M1=some (.code .norm T3 [.call g (fi ++ vs ++ ca)] M1):=by
        rw[RTo.ops (P:=P) (r:=.val v1 M1) (v:=v1) (M':=M1) ⟨rfl,rfl⟩ (z0m p3 hE1 trivial) (z2t p2) (z0y hE1 p2 k1) (by rw[p1];exact hT2)]
        refine(zia (T':=T3) (by rw[hbg];rfl) hb (d:=.call g (fi ++ vs ++ ca)) ?_ hT3).trans rfl
        unfold dfrOf
        rw[hcal]
        show ob (ev T2 cf) _=_
        rw[zy hE2 ecf k2,z0,z92 hE2 ecas k3,z0]
       have hs3:ze P (.call f3 as3) (putE (putE (putE E1 d1 v1) b.dst zk) d2 v2) M1=some (.enter g3 (fi3 ++ vs3 ++ ca3) M1):=by
        show ob (z0g _ as3) _=_
        rw[k6,z0]
        show ob (xval _ f3) _=_
        rw[k5];rfl
       have e2:zr P none (om P) [a2,b2] [a2,b2] T3 [.call g (fi ++ vs ++ ca)] M1=zr P none (om P) [a2,b2] [b2] T4 [.call g (fi ++ vs ++ ca)] M1 :=
        RTo.ops (P:=P) (r:=.val v2 M1) (v:=v2) (M':=M1) ⟨rfl,rfl⟩ (z0m q3 hE3 trivial) (z2t q2) (z0y hE3 q2 k4) (by rw[q1];exact hT4)
       have key:∀ o,(∃ out,om P (.code f none (.seq (.region n0 r0 false) (.seq (.region n1 r1 false) (.seq (.region n2 r2 false) (.seq (.region n3 r3 false) .ret)))) T [] M)=some out /\
         z0w (some out) (fun e T ms m=>exE e (finRet P (om P) fn T ms m) (finRet P (om P) fn T ms m) (fun _=>none)) (fun v T ms m=>finDie P (om P) fn T v ms m)=some o)->om P (.call f args M)=some o:=fun o ⟨out,g1,g2⟩=>by
        rw[zdi hask]
        show ob (fnOf P f) _=_
        rw[hfn,z0,hT,z0,hbody,z0]
        show z0w (om P (.code f none _ T [] M)) _ _=_
        rw[g1];exact g2
       have f0:om P (.code f none (.region n0 r0 false) T [] M)=some (.code .norm T1 [] M1):=by rw[z34];exact g1
       have f1:om P (.code f none (.region n1 r1 false) T1 [] M1)=some (.code .norm T3 [.call g (fi ++ vs ++ ca)] M1):=by rw[z34,hr1];exact hd1
       rcases k7 with⟨w,M2,j1,j2⟩|⟨pv,M2,j1,j2⟩
       ·obtain⟨T5,hT5,hE5⟩:=hE4.put s4 w
        have hd2:zr P none (om P) [a2,b2] [a2,b2] T3 [.call g (fi ++ vs ++ ca)] M1=some (.code .norm T5 [.call g (fi ++ vs ++ ca)] M2):=by
         rw[e2,RTo.ops (P:=P) (r:=.enter g3 (fi3 ++ vs3 ++ ca3) M1) (v:=w) (M':=M2) j1 (z0m s3 hE4 trivial) (z2t s2) (z0y hE4 s2 hs3) (by rw[s1];exact hT5)]
         rfl
        obtain⟨T6,M3,u1,E6,hE6,M4,u2,vals,u3,u4⟩:=j2 _ _ T5 none [.call g (fi ++ vs ++ ca)] e3 hE5
        refine⟨_,M4,key (.call (packed vals) M4) ⟨.code .ret T6 [.call g (fi ++ vs ++ ca)] M3,?_,?_⟩,u4⟩
        ·refine z6f f0 (z6f f1 (z6f (T':=T5) (ms':=[.call g (fi ++ vs ++ ca)]) (M':=M2) (by rw[z34,hr2];exact hd2) (z6f (T':=T6) (ms':=[.call g (fi ++ vs ++ ca)]) (M':=M3) (by rw[z34];exact u1) ?_)))
         rw[z44];rfl
        ·show ob (dfrRun P (om P) g (fi ++ vs ++ ca) .nilIface M3) _=_
         rw[u2,z0]
         show ob (z05 P T6 M4 fn.results.toList) _=_
         rw[z1a hE6 er u3];rfl
       ·have hd2:zr P none (om P) [a2,b2] [a2,b2] T3 [.call g (fi ++ vs ++ ca)] M1=some (.boom pv T4 [.call g (fi ++ vs ++ ca)] M2):=by
         rw[e2]
         exact zib (z0m s3 hE4 trivial) (z2t s2) (z0y hE4 s2 hs3) j1
        obtain⟨M4,u2,vals,u3,u4⟩:=j2
        refine⟨_,M4,key (.call (packed vals) M4) ⟨.boom pv T4 [.call g (fi ++ vs ++ ca)] M2,?_,?_⟩,u4⟩
        ·exact z6f f0 (z6f f1 (zcn (by rw[z34,hr2];exact hd2)))
        ·show ob (dfrRun P (om P) g (fi ++ vs ++ ca) pv M2) _=_
         rw[u2,z0]
         show ob (z05 P T4 M4 fn.results.toList) _=_
         rw[z1a hE4 er u3];rfl
      ·cases hx
     ·cases hx
    ·cases hx
   ·cases hx
  ·cases hx
