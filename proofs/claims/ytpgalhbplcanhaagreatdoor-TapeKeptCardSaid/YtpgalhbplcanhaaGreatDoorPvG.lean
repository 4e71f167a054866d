/-
 Rules by which a function's code is walked,symbol by symbol. No condition.
-/
import Derived.Test.YtpgalhbplcanhaaGreatDoorPvF
set_option linter.unusedVariables false
section
namespace PvL
set_option linter.unusedSectionVars false
open Go
variable {all os:List Oper} {o:Oper} {d:Option Nat} {g g':Option (Nat × Bool)} {t lo hi k:Nat}
inductive Md where
 | det|gen
 | die (D:LV->Mem->Prop)
variable {μ:Md}
def zc (P:Program)[Orc P](f:FuncId)(args:List LV)(M:Mem)(Q:LV->Mem->Prop):Prop:=∃ v M',om P (.call f args M)=some (.call v M')/\Q v M'
def RoundOk (P:Program)[Orc P](l:Nat)(args:List LV)(M:Mem)(Q:LV->Mem->Prop):Prop:=∃ v M',om P (.round l args M)=some (.call v M')/\Q v M'
def AppOk (P:Program)[Orc P](f:LV)(args:List LV)(M:Mem)(Q:LV->Mem->Prop):Prop :=
 match f with
 | .func (.func g) fi h=>zc P g (fi++args++h) M Q
 | .func (.yield l) [] []=>RoundOk P l args M Q
 | _=>False
section
variable {P:Program} [Orc P]
theorem zc.mono {f:FuncId}{args:List LV}{M:Mem}{Q m:LV->Mem->Prop}(h:zc P f args M Q)(D:∀ v M',Q v M'->m v M'):zc P f args M m :=
 let ⟨v,M',u,C⟩:=h;⟨v,M',u,D _ _ C⟩
def RTo (P:Program)[Orc P](r:R1)(v:LV)(M':Mem):Prop :=
 match r with
 | .val v' h=>v'=v/\h=M'
 | .skip h=>z00=v/\h=M'
 | .enter f as m=>om P (.call f as m)=some (.call v M')
 | .round l as m=>om P (.round l as m)=some (.call v M')
 | .boom _ _=>False
theorem RTo.opFin {r:R1}{v:LV}{M':Mem}(h:RTo P r v M'){α:Type}(T:Tm)(d:Option Nat)(k:Tm->Mem->Option α):opFin (om P) T d r k=ob (T.put d v) fun T=>k T M':=by
 cases r with
 | val D C=>obtain⟨rfl,rfl⟩:=h;rfl
 | skip C=>obtain⟨rfl,rfl⟩:=h;rfl
 | enter f u m=>show z1v (om P _) _=_;rw[show om P (.call f u m)=_ from h];rfl
 | round l u m=>show z1v (om P _) _=_;rw[show om P (.round l u m)=_ from h];rfl
 | boom _ _=>exact h.elim
theorem RTo.ops {r:R1}{v:LV}{M M':Mem}(h:RTo P r v M'){ro:Option Nat}{T T':Tm}{ms:List Dfr}(N:wanted all T o.guard=some true)(L:isDefer o.op=none)(J:opA P o.op T M=some r)(C:T.put o.dst v=some T') :
  z0c P ro (om P) all (o::os) T ms M=z0c P ro (om P) all os T' ms M':=by
 obtain⟨u,D,R,S,U,g⟩:=o
 show ob (wanted all T g) _=_
 have N:wanted all T g=some true:=N
 have L:isDefer D=none:=L
 have J:opA P D T M=some r:=J
 have C:T.put u v=some T':=C
 rw[N]
 show oe (isDefer D) _ _=_
 rw[L]
 show ob (opA P D T M) _=_
 rw[J]
 cases r with
 | val Q O=>obtain⟨rfl,rfl⟩:=h;show ob (T.put u Q) _=_;rw[C];rfl
 | skip O=>obtain⟨rfl,rfl⟩:=h;show ob (T.put u z00) _=_;rw[C];rfl
 | enter f H m=>show z15 (om P _) _ _=_;rw[show om P (.call f H m)=_ from h];show ob (T.put u v) _=_;rw[C];rfl
 | round l H m=>show z15 (om P _) _ _=_;rw[show om P (.round l H m)=_ from h];show ob (T.put u v) _=_;rw[C];rfl
 | boom _ _=>exact h.elim
theorem AppOk.opFin {f:LV}{args:List LV}{M:Mem}{Q:LV->Mem->Prop}(h:AppOk P f args M Q):∃ r v M',callV f args M=some r/\Q v M'/\RTo P r v M':=by
 unfold AppOk at h
 split at h
 ·obtain⟨v,M',m,u⟩:=h
  exact⟨_,v,M',rfl,u,m⟩
 ·obtain⟨v,M',m,u⟩:=h
  exact⟨_,v,M',rfl,u,m⟩
 ·exact h.elim
variable {sz:Nat}
def XW (μ:Md)(P:Program)[Orc P](sz:Nat)(l:List XG)(E:Env)(M:Mem)(K:Env->Mem->Prop):Prop :=
 match μ with
 | .det=>∀(all os:List Oper) (T:Tm) (ro:Option Nat) (ms:List Dfr),cOps P sz all os=some l->zt sz E T->∃ h M',z0c P ro (om P) all os T ms M=some (.code .norm h ms M') /\ ∃ m,zt sz m h/\K m M'
 | .die D=>∀(all os:List Oper) (T:Tm) (ro:Option Nat) (ms:List Dfr),cOps P sz all os=some l->zt sz E T->(∃ h M',z0c P ro (om P) all os T ms M=some (.code .norm h ms M') /\ ∃ m,zt sz m h/\K m M') ∨(∃ v h M',z0c P ro (om P) all os T ms M=some (.boom v h ms M')/\D v M')
 | .gen=>∀(ops:Array Oper) (os:List Oper) (i:Nat) (T:Tm) (ro:Option Nat) (ms:List Dfr),(∀ j,os[j]?=ops[i+j]?)->cOps P sz ops.toList os=some l->zt sz E T->OmOk P ->
   OpsE P ops ro i os.length T ms M (fun e h u M'=>e=.norm/\u=ms /\ ∃ m,zt sz m h/\K m M') (fun _ _ _ _=>False)
def GOn (E:Env):Option (Nat×Bool)->Prop|none=>True|some (d,w)=>look E d=some (.bool w)
def GOff (E:Env):Option (Nat×Bool)->Prop|none=>False|some (d,w)=>look E d=some (.bool (!w))∨look E d=some z00
theorem z1n {g:XG}{l:List XG}(h:cOps P sz all os=some (g::l)):∃ o m,os=o::m/\cOperA P sz all o=some g/\cOps P sz all m=some l:=by
 cases os with
 | nil=>cases h
 | cons o os=>
  simp only[cOps] at h
  split at h
  ·rename_i g' D u C;cases h;exact⟨o,os,rfl,u,C⟩
  ·cases h
theorem z3u {i:XI}(h:cOper P sz all o=some ⟨d,i,g⟩):o.dst=d/\cOp P o.op=some i/\cGuard all o.guard=some g/\dstIn sz d=true:=by
 unfold cOper at h
 split at h
 ·rename_i D g' m u C;cases h;exact⟨rfl,m,u,C⟩
 ·cases h
theorem z13 {i:XI}(h:cOperA P sz all o=some ⟨d,i,g⟩):o.dst=d/\cOpA P o.op=some i/\cGuard all o.guard=some g/\dstIn sz d=true:=by
 unfold cOperA at h
 split at h
 ·rename_i D g' m u C;cases h;exact⟨rfl,m,u,C⟩
 ·cases h
theorem z2u {o:Op}{i:XI}(h:cOpA P o=some i):isDefer o=none:=by
 cases o<;>first|rfl|cases h
theorem z0u (m:cGuard all g=some g'){E:Env}{T:Tm}(h:zt sz E T)(C:GOn E g'):wanted all T g=some true:=by
 cases g with
 | none=>rfl
 | some p=>
  obtain⟨j,w⟩:=p
  unfold cGuard at m
  simp only at m
  split at m
  ·rename_i d u
   cases m
   show oe ((all[j]?).bind (·.dst)) _ _=_
   rw[u,z2j,h.look _ _ C]
   show some (bEq w w)=_
   cases w<;>rfl
  ·cases m
theorem z5h (m:cGuard all g=some g'){E:Env}{T:Tm}(h:zt sz E T)(u:GOff E g'):wanted all T g=some false:=by
 cases g with
 | none=>cases m;exact u.elim
 | some p=>
  obtain⟨j,w⟩:=p
  unfold cGuard at m
  simp only at m
  split at m
  ·rename_i d C
   cases m
   show oe ((all[j]?).bind (·.dst)) _ _=_
   rw[C,z2j]
   rcases u with u|u
   ·rw[h.look _ _ u]
    show some (bEq (!w) w)=_
    cases w<;>rfl
   ·rw[h.look _ _ u];rfl
  ·cases m
section ops
variable {E:Env} {M:Mem} {K:Env->Mem->Prop} {l:List XG} {d:Option Nat} {i:XI} {g:Option (Nat × Bool)}
theorem zqw (h:K E M):XW μ P sz [] E M K:=by
 cases μ with
 | det=>
  intro all os T ro ms m u
  cases os with
  | nil=>exact⟨T,M,rfl,E,u,h⟩
  | cons o os=>
   simp only[cOps] at m
   split at m<;>cases m
 | die D=>
  intro all os T ro ms m u
  cases os with
  | nil=>exact .inl ⟨T,M,rfl,E,u,h⟩
  | cons o os=>
   simp only[cOps] at m
   split at m<;>cases m
 | gen=>
  intro ops os i T ro ms C m u H
  cases os with
  | nil=>exact zoj ⟨rfl,rfl,E,u,h⟩
  | cons o os=>
   simp only[cOps] at m
   split at m<;>cases m
theorem RTo.stepR {r:R1}{v:LV}{M':Mem}(h:RTo P r v M'){X:Option R1}(D:X=some r){T T':Tm}{dst:Option Tmp}(u:T.put dst v=some T'):z1c (om P) X T dst T' M':=by
 subst D
 cases r with
 | val J H=>obtain⟨rfl,rfl⟩:=h;exact .val rfl u
 | skip H=>obtain⟨rfl,rfl⟩:=h;exact .skip rfl u
 | enter f C m=>exact .enter rfl h u
 | round l C m=>exact .round rfl h u
 | boom _ _=>exact h.elim
theorem ze6 {ops:Array Oper}{i:Nat}(h:∀ j,(o::os)[j]?=ops[i+j]?):ops[i]?=some o /\ ∀ j,os[j]?=ops[i+1+j]? :=
 ⟨by have:=h 0;simpa using this.symm,fun j=>by have:=h (j+1);simp only[List.getElem?_cons_succ] at this;rw[this];congr 1;omega⟩
theorem zht (V:GOn E g){r:R1}(hs:zl P i E M=some r){v:LV}{M':Mem}(hf:RTo P r v M')(X:XW μ P sz l (putE E d v) M' K):XW μ P sz (⟨d,i,g⟩::l) E M K:=by
 cases μ with
 | det=>
  intro all os T ro ms S m
  obtain⟨o,C,rfl,L,N⟩:=z1n S
  obtain⟨O,H,h5,Q⟩:=z13 L
  have R:=z1f m H hs
  obtain⟨J,h,u⟩:=m.put Q v
  obtain⟨T',M2,h8,h9⟩:=X all C J ro ms N u
  refine⟨T',M2,?_,h9⟩
  rw[hf.ops (z0u h5 m V) (z2u H) R (by rw[O];exact h)];exact h8
 | die D=>
  intro all os T ro ms S m
  obtain⟨o,C,rfl,L,N⟩:=z1n S
  obtain⟨O,H,h5,Q⟩:=z13 L
  have R:=z1f m H hs
  obtain⟨J,h,u⟩:=m.put Q v
  rw[hf.ops (z0u h5 m V) (z2u H) R (by rw[O];exact h)]
  exact X all C J ro ms N u
 | gen=>
  intro ops os j T ro ms Y S m Z
  obtain⟨o,C,rfl,L,N⟩:=z1n S
  obtain⟨O,H,h5,Q⟩:=z13 L
  have R:=z1f m H hs
  obtain⟨J,h,u⟩:=m.put Q v
  obtain⟨ho,U⟩:=ze6 Y
  exact zoi Z ho (z0u h5 m V) (z2u H) (hf.stepR R (by rw[O];exact h)) (X ops C (j+1) J ro ms U N u Z)
theorem z2m (h:GOn E g){v:LV}{M':Mem}(hs:zl P i E M=some (.val v M'))(m:XW μ P sz l (putE E d v) M' K):XW μ P sz (⟨d,i,g⟩::l) E M K :=
 zht h hs ⟨rfl,rfl⟩ m
theorem zmy (h:GOn E g){M':Mem}(hs:zl P i E M=some (.skip M'))(m:XW μ P sz l (putE E d z00) M' K):XW μ P sz (⟨d,i,g⟩::l) E M K :=
 zht h hs ⟨rfl,rfl⟩ m
theorem zwn (S:GOff E g)(U:XW μ P sz l (putE E d z00) M K):XW μ P sz (⟨d,i,g⟩::l) E M K:=by
 cases μ with
 | det=>
  intro all os T ro ms Q C
  obtain⟨o,u,rfl,J,L⟩:=z1n Q
  obtain⟨N,X,h5,O⟩:=z13 J
  obtain⟨H,h,m⟩:=C.put O z00
  obtain⟨Z,Y,h8,h9⟩:=U all u H ro ms L m
  refine⟨Z,Y,?_,h9⟩
  rw[z78 (z5h h5 C S) (by rw[N];exact h)];exact h8
 | die D=>
  intro all os T ro ms Q C
  obtain⟨o,u,rfl,J,L⟩:=z1n Q
  obtain⟨N,X,h5,O⟩:=z13 J
  obtain⟨H,h,m⟩:=C.put O z00
  rw[z78 (z5h h5 C S) (by rw[N];exact h)]
  exact U all u H ro ms L m
 | gen=>
  intro ops os j T ro ms V Q C hO
  obtain⟨o,u,rfl,J,L⟩:=z1n Q
  obtain⟨N,X,h5,O⟩:=z13 J
  obtain⟨H,h,m⟩:=C.put O z00
  obtain⟨ho,R⟩:=ze6 V
  exact zok ho (z5h h5 C S) (by rw[N];exact h) (U ops u (j+1) H ro ms R L m hO)
theorem zab (L:GOn E g){f:XO}{m:List XO}{C:LV}{vs:List LV}(hf:xval E f=some C)(u:z0i E m=some vs){Q:LV->Mem->Prop}(h:AppOk P C vs M Q)(N:∀ v M',Q v M'->XW μ P sz l (putE E d v) M' K):XW μ P sz (⟨d,.call f m,g⟩::l) E M K:=by
 obtain⟨r,v,M',D,H,J⟩:=h.opFin
 refine zht L (r:=r) (v:=v) (M':=M') ?_ J (N v M' H)
 show ob (z0i E m) _=_
 rw[u,z8,hf];exact D
theorem zwo {H:Env}(hs:∀ t v,look H t=some v->look E t=some v)(h:XW μ P sz l H M K):XW μ P sz l E M K:=by
 cases μ with
 | det=>exact fun all os T ro ms m u=>h all os T ro ms m (u.sub hs)
 | die D=>exact fun all os T ro ms m u=>h all os T ro ms m (u.sub hs)
 | gen=>exact fun ops os j T ro ms C m u J=>h ops os j T ro ms C m (u.sub hs) J
theorem zmx {v v':LV}(D:look E t=some v)(H:v=v')(h:XW μ P sz l ((t,v')::E) M K):XW μ P sz l E M K:=by
 subst H
 refine zwo (fun u w m=>?_) h
 have m:(match Nat.beq t u with|true=>some v|false=>look E u)=some w:=m
 cases C:Nat.beq t u with
 | true=>rw[C] at m;obtain rfl:=Nat.eq_of_beq_eq_true C;rw[D];exact m
 | false=>rw[C] at m;exact m
def CallN (P:Program)[Orc P](f:FuncId)(args:List LV)(M:Mem)(Q:LV->Mem->Prop):Prop:=(∃ h,fnOf P f=some h)/\(OmOk P->CallE P f args M Q fun _ _=>False)
theorem CallN.mono {f:FuncId}{args:List LV}{M:Mem}{Q m:LV->Mem->Prop}(h:CallN P f args M Q)(C:∀ v M',Q v M'->m v M'):CallN P f args M m:=⟨h.1,fun u=>(h.2 u).mono C fun _ _ h=>h⟩
theorem zpq (hg:GOn E g){f:XO}{u:List XO}{gf:FuncId}{fi ca vs:List LV}(hf:xval E f=some (.func (.func gf) fi ca))(D:z0i E u=some vs){Q:LV->Mem->Prop}(h:CallN P gf (fi++vs++ca) M Q)(hk:∀ v M',Q v M'->XW .gen P sz l (putE E d v) M' K):XW .gen P sz (⟨d,.call f u,g⟩::l) E M K:=by
 intro ops os j T ro ms L Z H S
 obtain⟨o,N,rfl,U,V⟩:=z1n Z
 obtain⟨X,R,h5,Y⟩:=z13 U
 obtain⟨ho,m⟩:=ze6 L
 have hs:zl P (.call f u) E M=some (.enter gf (fi++vs++ca) M):=by
  show ob (z0i E u) _=_
  rw[D,z8,hf];rfl
 refine zlt h.1 ho (z0u h5 H hg) (z2u R) (z1f H R hs) (h.2 S) (fun v m' hq=>?_) (fun _ _ h=>h.elim)
 obtain⟨O,C,J⟩:=H.put Y v
 exact⟨O,by rw[X];exact C,hk v m' hq ops N (j+1) O ro ms m V J S⟩
theorem zpr {b:Bool}(m:look E t=some (.bool b))(h1:b=true->XW μ P sz l ((t,.bool true)::E) M K)(u:b=false->XW μ P sz l ((t,.bool false)::E) M K):XW μ P sz l E M K:=by
 cases h:b with
 | true=>exact zmx m (by rw[h]) (h1 h)
 | false=>exact zmx m (by rw[h]) (u h)
end ops
def ObAt (lo hi:Nat)(q:Mem->Prop):List Mem->Nat->Prop
 | [],_=>True
 | m::ms,k=>((Nat.ble lo k&&Nat.ble k hi)=true->q m)/\ObAt lo hi q ms (k-1)
def ObAll (st:List Mem)(k:Nat):List (Nat×Nat×(Mem->Prop))->Prop
 | []=>True
 |(lo,hi,q)::h=>ObAt lo hi q st k/\ObAll st k h
theorem zln {q:Mem->Prop}:ObAt lo hi q [] k:=trivial
theorem zoc {q:Mem->Prop}{m:Mem}{ms:List Mem}(h:q m)(u:ObAt lo hi q ms (k-1)):ObAt lo hi q (m::ms) k:=⟨fun _=>h,u⟩
theorem zlo {q:Mem->Prop}{m:Mem}{ms:List Mem}(h:(Nat.ble lo k&&Nat.ble k hi)=false)(C:ObAt lo hi q ms (k-1)):ObAt lo hi q (m::ms) k:=⟨fun u=>(by rw[h] at u;cases u),C⟩
theorem zvc {st:List Mem}:ObAll st k []:=trivial
theorem zsk {st:List Mem}{q:Mem->Prop}{m:List (Nat×Nat×(Mem->Prop))}(h:ObAt lo hi q st k)(u:ObAll st k m):ObAll st k ((lo,hi,q)::m):=⟨h,u⟩
def Cov (P:Program)[Orc P](h:List Pend)(xs:List (Nat×Nat×(Mem->Prop))):Prop:=∀ st k,ObAll st k xs->z0q P st k h=true
def XD (P:Program)[Orc P](sz:Nat)(l:List (XG×XK))(E:Env)(M:Mem)(st:List Mem)(k:Nat)(xs:List (Nat×Nat×(Mem->Prop)))(K:Env->Mem->Prop):Prop :=
 ∀(all:List Oper) (m:List Nat) (os:List Oper) (n:Nat) (T:Tm) (u:List Pend),cDrawn P sz all m os n=some l->zt sz E T->Cov P u xs ->
  ∃ s,z04 P (om P) all m os n ⟨T,M,st,k,u⟩=some s/\z0q P s.st s.k s.ps=true /\ ∃ h,zt sz h s.T/\K h s.m
theorem z2t {ds:List Nat}{n:Nat}{g:XG}{kd:XK}{l:List (XG×XK)}(h:cDrawn P sz all ds os n=some ((g,kd)::l)) :
  ∃ o m,os=o::m/\cOper P sz all o=some g/\kd=cKind P all ds n o g.i/\cDrawn P sz all ds m (n+1)=some l:=by
 cases os with
 | nil=>cases h
 | cons o os=>
  simp only[cDrawn] at h
  split at h
  ·rename_i g' D u C;cases h;exact⟨o,os,rfl,u,rfl,C⟩
  ·cases h
theorem z6p (p:Pend)(q:Mem->Prop)(u:∀ m,q m->z1t P p m=true):∀(st:List Mem) (k:Nat),ObAt p.lo p.hi q st k->pendAt P p st k=true
 | [],_,_=>rfl
 | m::ms,k,h=>by
  show(ifb (Nat.ble p.lo k&&Nat.ble k p.hi) (z1t P p m) true&&pendAt P p ms (k-1))=true
  rw[z6p p q u ms (k-1) h.2,Bool.and_true]
  cases C:(Nat.ble p.lo k&&Nat.ble k p.hi) with
  | true=>exact u m (h.1 C)
  | false=>rfl
theorem zbd (p:Pend)(h:∀ m,z1t P p m=true)(st:List Mem)(k:Nat):pendAt P p st k=true :=
 z6p p (fun _=>True) (fun m _=>h m) st k (by
  induction st generalizing k with
  | nil=>trivial
  | cons m ms u=>exact⟨fun _=>trivial,u _⟩)
theorem zbm {i:XI}(h:xCalm i=true){E:Env}{M M1:Mem}{v:LV}(hs:zl P i E M=some (.val v M1))(M':Mem):zl P i E M'=some (.val v M'):=by
 cases i with
 | max xs=>
  obtain⟨a,J,u⟩:=z9.1 (show ob (z0i E xs) _=_ from hs)
  cases a with
  | nil=>cases u
  | cons a O=>
   obtain⟨b,C,D⟩:=z9.1 (show ob (foldL max2L O a) _=_ from u)
   cases D
   show ob (z0i E xs) _=_
   rw[J,z8];show ob (foldL max2L O a) _=_;rw[C];rfl
 | min xs=>
  obtain⟨a,J,u⟩:=z9.1 (show ob (z0i E xs) _=_ from hs)
  cases a with
  | nil=>cases u
  | cons a O=>
   obtain⟨b,C,D⟩:=z9.1 (show ob (foldL min2L O a) _=_ from u)
   cases D
   show ob (z0i E xs) _=_
   rw[J,z8];show ob (foldL min2L O a) _=_;rw[C];rfl
 | len k x=>
  obtain⟨a,J,u⟩:=z9.1 (show ob (xval E x) _=_ from hs)
  show ob (xval E x) _=_
  rw[J,z8]
  cases k with
  | map=>cases h
  | str=>obtain⟨b,C,D⟩:=z9.1 (show ob (asStr a fun s=>mkN s.size) _=_ from u);cases D;show ob (asStr a fun s=>mkN s.size) _=_;rw[C];rfl
  | sl=>obtain⟨b,C,D⟩:=z9.1 (show ob (asSlice a fun _ n _ _=>mkN n) _=_ from u);cases D;show ob (asSlice a fun _ n _ _=>mkN n) _=_;rw[C];rfl
  | arr n=>obtain⟨b,C,D⟩:=z9.1 (show ob (mkN n) _=_ from u);cases D;show ob (mkN n) _=_;rw[C];rfl
 | conv q x=>
  obtain⟨a,J,u⟩:=z9.1 (show ob (xval E x) _=_ from hs)
  obtain⟨k,n,rfl,C⟩:=zj.1 u
  cases C
  show ob (xval E x) _=_
  rw[J];rfl
 | convS x=>
  obtain⟨a,J,u⟩:=z9.1 (show ob (xval E x) _=_ from hs)
  obtain⟨n,rfl,C⟩:=z0g.1 u
  cases C
  show ob (xval E x) _=_
  rw[J];rfl
 | slc n x lo hi mx=>
  obtain⟨a,J,u⟩:=z9.1 (show ob (xval E x) _=_ from hs)
  obtain⟨b,C,D⟩:=z9.1 u
  obtain⟨c,h5,S⟩:=z9.1 D
  obtain⟨d,U,V⟩:=z9.1 S
  obtain⟨p,len,Q,es,rfl,X⟩:=z0m.1 V
  obtain⟨w,L,N⟩:=z9.1 X
  cases N
  show ob (xval E x) _=_
  rw[J,z8,C,z8,h5,z8,U,z8]
  show ob (sliceSl n p len Q es b c d) _=_
  rw[L];rfl
 | slS x lo hi mx=>
  obtain⟨a,J,u⟩:=z9.1 (show ob (xval E x) _=_ from hs)
  obtain⟨b,C,D⟩:=z9.1 u
  obtain⟨c,h5,S⟩:=z9.1 D
  obtain⟨d,U,V⟩:=z9.1 S
  obtain⟨s,rfl,X⟩:=z0g.1 V
  obtain⟨L,N⟩:=za.1 X
  show ob (xval E x) _=_
  rw[J,z8,C,z8,h5,z8,U,z8]
  show guard' d.isNone _=_
  rw[L,zb]
  have R:∀ {z:Option LV} {H dd:Nat} {k Y:Nat->Option R1} {r Z:R1},z0d z H dd k=some r->(∀ n,k n=some r->Y n=some Z)->z0d z H dd Y=some Z:=by
   intro z H dd k Y r Z h hk
   cases z with
   | none=>exact hk _ h
   | some z=>
    obtain⟨q,n,rfl,u⟩:=zj.1 (show asInt z _=some r from h)
    obtain⟨i,rfl,C⟩:=nat?_eq.1 u
    obtain⟨D,h5⟩:=za.1 C
    show guard' (Nat.ble i H) _=_
    rw[D];exact hk _ h5
  exact R N fun n hn=>R hn fun m hm=>by cases hm;rfl
 | _=>cases h
def KdOk (P:Program)[Orc P](kd:XK)(E:Env)(M:Mem)(i:XI)(d:Option Nat)(r:R1)(v:LV)(M':Mem)(st:List Mem)(k:Nat)(xs:List (Nat×Nat×(Mem->Prop)))(st':List Mem)(u:Nat)(h:List (Nat×Nat×(Mem->Prop))):Prop :=
 match kd with
 | .calm=>st'=st/\u=k/\h=xs/\r=R1.val v M/\M'=M/\d.isSome=true
 | .new=>st'=st/\u=k/\h=xs
 | .anchor=>st'=M'::st/\u=k+1/\h=xs
 | .reads lo hi=>st'=st/\u=k/\M'=M /\ ∃ q:Mem->Prop,h=(lo,hi,q)::xs/\d.isSome=true /\ ∀ m,q m->zl P i E m=some (.val v m)
section drawn
variable {E:Env} {M:Mem} {K:Env->Mem->Prop} {l:List (XG × XK)} {d:Option Nat} {i:XI} {g:Option (Nat × Bool)} {st:List Mem} {k:Nat} {xs:List (Nat × Nat × (Mem->Prop))}
theorem zw2 (D:ObAll st k xs)(h:K E M):XD P sz [] E M st k xs K:=fun all H os n T J u C m=>by
 cases os with
 | nil=>exact⟨_,rfl,m _ _ D,E,C,h⟩
 | cons o os=>
  simp only[cDrawn] at u
  split at u<;>cases u
theorem za9 {kd:XK}(hg:GOn E g){r:R1}(hs:zl P i E M=some r){v:LV}{M':Mem}(hf:RTo P r v M'){st':List Mem}{k':Nat}{a0:List (Nat×Nat×(Mem->Prop))}(L:KdOk P kd E M i d r v M' st k xs st' k' a0)(U:XD P sz l (putE E d v) M' st' k' a0 K):XD P sz ((⟨d,i,g⟩,kd)::l) E M st k xs K:=fun all S os n T ps hc he h=>by
 obtain⟨o,H,rfl,h1,u,C⟩:=z2t hc
 obtain⟨h3,h4,h5,h6⟩:=z3u h1
 have h7:=z2f he h4 hs
 obtain⟨J,X,D⟩:=he.put h6 v
 obtain⟨a4,O,a1,a2,a3,gd⟩:=o
 have h3:d=a4:=h3.symm
 subst h3
 have Z:∀(k:Tm->Mem->Option DS),opFull P (om P) T M O d k=k J M':=fun k=>by
  show ob (op1 P O T M) _=_
  rw[h7,z8,hf.opFin,X];rfl
 have N:∀ m,zl P i E m=some (.val v m)->d.isSome=true->∀ lo hi,z1t P { op:=O,T:=T,v:=dstV J d,lo:=lo,hi:=hi } m=true:=fun m hm Y lo hi=>by
  unfold z1t
  have:=z2f he h4 hm
  have e:op1 P ({ op:=O,T:=T,v:=dstV J d,lo:=lo,hi:=hi }:Pend).op ({ op:=O,T:=T,v:=dstV J d,lo:=lo,hi:=hi }:Pend).T m=some (.val v m):=this
  rw[e]
  cases d with
  | none=>cases Y
  | some d=>
   show lvEq v (J.get d)=true
   rw[Tm.get_set X,if_pos rfl];exact z4u v
 unfold z04
 simp only
 rw[z0u h5 he hg,z8,zq,Z]
 unfold cKind at u
 simp only at u
 cases Q:cls P O with
 | mover=>
  rw[Q] at u
  simp only at u ⊢
  cases V:(z0o O && !(xCalm i)) with
  | true=>
   rw[V] at u
   simp only[Bool.and_eq_true] at V
   rw[if_pos rfl] at u
   subst u
   obtain⟨rfl,rfl,rfl,q,rfl,Y,hq⟩:=L
   rw[V.1,zq]
   refine U all S H (n+1) J _ C D fun st k ho=>?_
   show(pendAt P _ st k&&z0q P st k ps)=true
   rw[h st k ho.2,Bool.and_true]
   exact z6p _ q (fun m hm=>N m (hq m hm) Y _ _) st k ho.1
  | false=>
   rw[V] at u
   rw[if_neg (by decide)] at u
   subst u
   obtain⟨rfl,rfl,rfl,rfl,rfl,Y⟩:=L
   cases a5:z0o O with
   | false=>
    rw[ze]
    exact U all S H (n+1) J _ C D h
   | true=>
    rw[zq]
    rw[a5] at V
    have R:xCalm i=true:=by simpa using V
    refine U all S H (n+1) J _ C D fun st k ho=>?_
    show(pendAt P _ st k&&z0q P st k ps)=true
    rw[h st k ho,Bool.and_true]
    exact zbd _ (fun m=>N m (zbm R hs m) Y _ _) st k
 | new=>
  rw[Q] at u
  subst u
  obtain⟨rfl,rfl,rfl⟩:=L
  exact U all S H (n+1) J _ C D h
 | calm=>
  rw[Q] at u
  subst u
  obtain⟨rfl,rfl,rfl⟩:=L
  exact U all S H (n+1) J _ C D h
 | anchor=>
  rw[Q] at u
  subst u
  obtain⟨rfl,rfl,rfl⟩:=L
  exact U all S H (n+1) J _ C D h
end drawn
end
end PvL
end
section
namespace PvL
set_option linter.unusedSectionVars false
open Go
variable {μ:Md}
variable {t id i n:Nat} {f:FuncId}
section
variable {P:Program} [Orc P] {sz:Nat}
section drawn
variable {E:Env} {M:Mem} {K:Env->Mem->Prop} {l:List (XG × XK)} {d:Nat} {od:Option Nat} {i:XI} {g:Option (Nat × Bool)} {st:List Mem} {k:Nat} {xs:List (Nat × Nat × (Mem->Prop))}
theorem zw4 (h:GOn E g){v:LV}(hs:zl P i E M=some (.val v M))(m:XD P sz l ((d,v)::E) M st k xs K):XD P sz ((⟨some d,i,g⟩,.calm)::l) E M st k xs K :=
 za9 h hs ⟨rfl,rfl⟩ (by exact⟨rfl,rfl,rfl,rfl,rfl,rfl⟩) m
theorem z63 {lo hi:Nat}(h:GOn E g){v:LV}(hs:zl P i E M=some (.val v M))(q:Mem->Prop)(C:∀ m,q m->zl P i E m=some (.val v m))(u:XD P sz l ((d,v)::E) M st k ((lo,hi,q)::xs) K) :
  XD P sz ((⟨some d,i,g⟩,.reads lo hi)::l) E M st k xs K :=
 za9 h hs ⟨rfl,rfl⟩ (by exact⟨rfl,rfl,rfl,q,rfl,rfl,C⟩) u
theorem zqq (h:GOn E g){v:LV}{M':Mem}(hs:zl P i E M=some (.val v M'))(m:XD P sz l (putE E od v) M' st k xs K):XD P sz ((⟨od,i,g⟩,.new)::l) E M st k xs K :=
 za9 h hs ⟨rfl,rfl⟩ (by exact⟨rfl,rfl,rfl⟩) m
theorem zmo (h:GOn E g){v:LV}{M':Mem}(hs:zl P i E M=some (.val v M'))(m:XD P sz l (putE E od v) M' (M'::st) (k+1) xs K):XD P sz ((⟨od,i,g⟩,.anchor)::l) E M st k xs K :=
 za9 h hs ⟨rfl,rfl⟩ (by exact⟨rfl,rfl,rfl⟩) m
theorem zmq (h:GOn E g){M':Mem}(hs:zl P i E M=some (.skip M'))(m:XD P sz l (putE E od z00) M' (M'::st) (k+1) xs K):XD P sz ((⟨od,i,g⟩,.anchor)::l) E M st k xs K :=
 za9 h hs ⟨rfl,rfl⟩ (by exact⟨rfl,rfl,rfl⟩) m
theorem zcp (L:GOn E g){f:XO}{m:List XO}{C:LV}{vs:List LV}(hf:xval E f=some C)(u:z0i E m=some vs){Q:LV->Mem->Prop}(h:AppOk P C vs M Q)(N:∀ v M',Q v M'->XD P sz l (putE E od v) M' (M'::st) (k+1) xs K):XD P sz ((⟨od,.call f m,g⟩,.anchor)::l) E M st k xs K:=by
 obtain⟨r,v,M',D,H,J⟩:=h.opFin
 refine za9 L (r:=r) (v:=v) (M':=M') ?_ J (by exact⟨rfl,rfl,rfl⟩) (N v M' H)
 show ob (z0i E m) _=_
 rw[u,z8,hf];exact D
theorem zho (L:GOn E g){f:XO}{m:List XO}{C:LV}{vs:List LV}(hf:xval E f=some C)(u:z0i E m=some vs){Q:LV->Mem->Prop}(h:AppOk P C vs M Q)(N:∀ v M',Q v M'->XD P sz l (putE E od v) M' st k xs K):XD P sz ((⟨od,.call f m,g⟩,.new)::l) E M st k xs K:=by
 obtain⟨r,v,M',D,H,J⟩:=h.opFin
 refine za9 L (r:=r) (v:=v) (M':=M') ?_ J (by exact⟨rfl,rfl,rfl⟩) (N v M' H)
 show ob (z0i E m) _=_
 rw[u,z8,hf];exact D
theorem zhp {kd:XK}(hg:GOff E g){st':List Mem}{U:Nat}(D:match kd with | .anchor=>st'=M::st/\U=k+1|_=>st'=st/\U=k)(O:XD P sz l (putE E od z00) M st' U xs K) :
  XD P sz ((⟨od,i,g⟩,kd)::l) E M st k xs K:=fun all N os n T ps hc V h=>by
 obtain⟨o,H,rfl,Z,m,u⟩:=z2t hc
 obtain⟨R,h4,h5,h6⟩:=z3u Z
 obtain⟨L,S,C⟩:=V.put h6 z00
 obtain⟨Q,Y,a1,a2,a3,gd⟩:=o
 have R:od=Q:=R.symm
 subst R
 unfold z04
 simp only
 rw[z5h h5 V hg,z8,ze,S,z8]
 unfold cKind at m
 simp only at m
 cases J:cls P Y with
 | mover=>
  rw[J] at m
  simp only at m ⊢
  cases X:(z0o Y && !(xCalm i)) with
  | true=>
   rw[X,if_pos rfl] at m
   subst m
   obtain⟨rfl,rfl⟩:=D
   exact O all N H (n+1) L _ u C h
  | false=>
   rw[X,if_neg (by decide)] at m
   subst m
   obtain⟨rfl,rfl⟩:=D
   exact O all N H (n+1) L _ u C h
 | new=>
  rw[J] at m
  subst m
  obtain⟨rfl,rfl⟩:=D
  exact O all N H (n+1) L _ u C h
 | calm=>
  rw[J] at m
  subst m
  obtain⟨rfl,rfl⟩:=D
  exact O all N H (n+1) L _ u C h
 | anchor=>
  rw[J] at m
  subst m
  obtain⟨rfl,rfl⟩:=D
  exact O all N H (n+1) L _ u C h
theorem zw3 {u:Env}(hs:∀ t v,look u t=some v->look E t=some v)(h:XD P sz l u M st k xs K):XD P sz l E M st k xs K:=fun all C os n T J D H m=>h all C os n T J D (H.sub hs) m
theorem zlf {v:LV}(C:look E t=some v):∀ u w,look ((t,v)::E) u=some w->look E u=some w:=fun u w h=>by
 have h:(match Nat.beq t u with|true=>some v|false=>look E u)=some w:=h
 cases m:Nat.beq t u with
 | true=>rw[m] at h;obtain rfl:=Nat.eq_of_beq_eq_true m;rw[C];exact h
 | false=>rw[m] at h;exact h
theorem zmp {v v':LV}(m:look E t=some v)(u:v=v')(h:XD P sz l ((t,v')::E) M st k xs K):XD P sz l E M st k xs K:=by
 subst u
 exact zw3 (zlf m) h
theorem zpg {b:Bool}(m:look E t=some (.bool b))(h1:b=true->XD P sz l ((t,.bool true)::E) M st k xs K)(u:b=false->XD P sz l ((t,.bool false)::E) M st k xs K):XD P sz l E M st k xs K:=by
 cases h:b with
 | true=>exact zmp m (by rw[h]) (h1 h)
 | false=>exact zmp m (by rw[h]) (u h)
end drawn
def W (μ:Md)(P:Program)[Orc P](fn:FuncId)(ro:Option Nat)(sz:Nat)(c:XC)(E:Env)(ms:List Dfr)(M:Mem)(K:Ex->Env->List Dfr->Mem->Prop):Prop :=
 match μ with
 | .det=>∀(code:Code) (T:Tm),zy P sz code=some c->zt sz E T->∃ e m h M',om P (.code fn ro code T ms M)=some (.code e m h M') /\ ∃ u,zt sz u m/\K e u h M'
 | .die D=>∀(code:Code) (T:Tm),zy P sz code=some c->zt sz E T->(∃ e m h M',om P (.code fn ro code T ms M)=some (.code e m h M') /\ ∃ u,zt sz u m/\K e u h M') ∨(∃ v m M',om P (.code fn ro code T ms M)=some (.boom v m [] M')/\D v M')
 | .gen=>∀(code:Code) (T:Tm),zy P sz code=some c->zt sz E T->OmOk P->CodeE P fn ro code T ms M (fun e m h M'=>∃ u,zt sz u m/\K e u h M') (fun _ _ _ _=>False)
def KSeq (μ:Md)(P:Program)[Orc P](fn:FuncId)(ro:Option Nat)(sz:Nat)(b:XC)(K:Ex->Env->List Dfr->Mem->Prop)(e:Ex)(E:Env)(ms:List Dfr)(M:Mem):Prop :=
 match e with | .norm=>W μ P fn ro sz b E ms M K | .ret=>K .ret E ms M | .exit id=>K (.exit id) E ms M
def KBlock (id:Nat)(K:Ex->Env->List Dfr->Mem->Prop)(e:Ex)(E:Env)(ms:List Dfr)(M:Mem):Prop :=
 match e with | .norm=>K .norm E ms M | .ret=>K .ret E ms M | .exit h=>if h=id then K .norm E ms M else K (.exit h) E ms M
def KLoop (μ:Md)(P:Program)[Orc P](fn:FuncId)(ro:Option Nat)(sz:Nat)(b:XC)(K:Ex->Env->List Dfr->Mem->Prop)(e:Ex)(E:Env)(ms:List Dfr)(M:Mem):Prop :=
 match e with | .norm=>W μ P fn ro sz (.loop b) E ms M K | .ret=>K .ret E ms M | .exit id=>K (.exit id) E ms M
inductive ResX (E:Env) (M:Mem):List XR->List LV->Prop
 | nil:ResX E M [] []
 | tmp {t:Nat} {v:LV} {rs:List XR} {vs:List LV} (h:look E t=some v) (hr:ResX E M rs vs):ResX E M (.tmp t :: rs) (v :: vs)
 | cell1 {t i o:Nat} {v:LV} {rs:List XR} {vs:List LV} (h:look E t=some (.ptr (some (i,o)))) (hv:load1 M i o=some v) (hr:ResX E M rs vs):ResX E M (.cell1 t :: rs) (v :: vs)
 | cellN {t n i o:Nat} {l:List LV} {rs:List XR} {vs:List LV} (h:look E t=some (.ptr (some (i,o)))) (hv:loadN M i o n=some l) (hr:ResX E M rs vs):ResX E M (.cellN t n :: rs) (.agg l :: vs)
def Marks:List Dfr->Mem->Mem->Prop
 | [],M,M'=>M'=M
 | .mark d::ds,M,M'=>M.get d=some .defr/\Marks ds (M.upd d none) M'
 | .call _ _::_,_,_=>False
def KFun (res:List XR)(Q:LV->Mem->Prop)(e:Ex)(E:Env)(ms:List Dfr)(M:Mem):Prop :=
 match e with
 | .exit _=>False
 | _=>∃ M',Marks ms M M' /\ ∃ vs,ResX E M' res vs/\Q (packed vs) M'
section code
variable {fn:FuncId} {ro:Option Nat} {E:Env} {ms:List Dfr} {M:Mem} {K:Ex->Env->List Dfr->Mem->Prop}
theorem w_of {c:XC}(h:∀ code T,zy P sz code=some c->zt sz E T->∃ e T' ms' M',stCode P (om P) fn ro code T ms M=some (.code e T' ms' M') /\ ∃ m,zt sz m T'/\K e m ms' M'):W .det P fn ro sz c E ms M K:=fun code T D H=>by
 obtain⟨e,T',ms',M',u,C⟩:=h code T D H
 refine⟨e,T',ms',M',?_,C⟩
 rw[z50];exact u
theorem zp7 {c:XC}(h:W .det P fn ro sz c E ms M K):W μ P fn ro sz c E ms M K:=by
 cases μ with
 | det=>exact h
 | die D=>exact fun code T m u=>.inl (h code T m u)
 | gen=>
  intro code T m u J
  obtain⟨e,N,L,M',C,H⟩:=h code T m u
  exact znq J C H
theorem zpb (h:K .norm E ms M):W .det P fn ro sz .skip E ms M K:=w_of fun code T m u=>by
 cases code with
 | skip|label l=>exact⟨.norm,T,ms,M,rfl,E,u,h⟩
 | region _ _ d=>cases d<;>simp only[zy] at m<;>(repeat' split at m)<;>cases m
 | ret|exit|goto|refuse=>cases m
 | _=>simp only[zy] at m;split at m<;>cases m
theorem zqn (h:K .norm E ms M):W μ P fn ro sz .skip E ms M K:=zp7 (zpb h)
theorem zta (h:K .ret E ms M):W .det P fn ro sz .ret E ms M K:=w_of fun code T m u=>by
 cases code with
 | ret=>exact⟨.ret,T,ms,M,rfl,E,u,h⟩
 | region _ _ d=>cases d<;>simp only[zy] at m<;>(repeat' split at m)<;>cases m
 | skip|label|exit|goto|refuse=>cases m
 | _=>simp only[zy] at m;split at m<;>cases m
theorem zvu (h:K .ret E ms M):W μ P fn ro sz .ret E ms M K:=zp7 (zta h)
theorem zp9 (h:K (.exit id) E ms M):W .det P fn ro sz (.exit id) E ms M K:=w_of fun code T m u=>by
 cases code with
 | exit i=>cases m;exact⟨.exit id,T,ms,M,rfl,E,u,h⟩
 | region _ _ d=>cases d<;>simp only[zy] at m<;>(repeat' split at m)<;>cases m
 | skip|label|ret|goto|refuse=>cases m
 | _=>simp only[zy] at m;split at m<;>cases m
theorem zql (h:K (.exit id) E ms M):W μ P fn ro sz (.exit id) E ms M K:=zp7 (zp9 h)
theorem zt9 {l:List XG}(h:XW .det P sz l E M fun E M=>K .norm E ms M):W .det P fn ro sz (.ops l) E ms M K:=w_of fun code T m H=>by
 cases code with
 | region i ops d=>
  cases d with
  | false=>
   simp only[zy] at m
   split at m
   ·rename_i L J
    cases m
    obtain⟨u,M',C,D⟩:=h _ _ T ro ms J H
    exact⟨.norm,u,ms,M',C,D⟩
   ·cases m
  | true=>simp only[zy] at m;(repeat' split at m)<;>cases m
 | skip|label|ret|goto|refuse|exit=>cases m
 | _=>simp only[zy] at m;split at m<;>cases m
theorem z5g {D:LV->Mem->Prop}{c:XC}(h:∀ code T,zy P sz code=some c->zt sz E T->(∃ e T' ms' M',stCode P (om P) fn ro code T ms M=some (.code e T' ms' M') /\ ∃ m,zt sz m T'/\K e m ms' M') ∨(∃ v T' M',stCode P (om P) fn ro code T ms M=some (.boom v T' [] M')/\D v M')):W (.die D) P fn ro sz c E ms M K:=fun code T u C=>by
 rw[z50];exact h code T u C
class DOk (μ:Md) (ms:List Dfr):Prop where
 h:∀ D,μ=.die D->ms=[]
instance {ms:List Dfr}:DOk .det ms:=⟨fun _ h=>by cases h⟩
instance {ms:List Dfr}:DOk .gen ms:=⟨fun _ h=>by cases h⟩
instance {D:LV->Mem->Prop}:DOk (.die D) []:=⟨fun _ _=>rfl⟩
theorem zen {l:List XG}[L:DOk μ ms](h:XW μ P sz l E M fun E M=>K .norm E ms M):W μ P fn ro sz (.ops l) E ms M K:=by
 cases μ with
 | det=>exact zt9 h
 | die D=>
  obtain rfl:=L.h D rfl
  refine z5g fun code T m H=>?_
  cases code with
  | region i ops d=>
   cases d with
   | false=>
    simp only[zy] at m
    split at m
    ·rename_i R J
     cases m
     rcases h _ _ T ro [] J H with⟨N,M',u,C⟩|u
     ·exact .inl ⟨.norm,N,[],M',u,C⟩
     ·exact .inr u
    ·cases m
   | true=>simp only[zy] at m;(repeat' split at m)<;>cases m
  | skip|label|ret|goto|refuse|exit=>cases m
  | _=>simp only[zy] at m;split at m<;>cases m
 | gen=>
  intro code T m H Q
  cases code with
  | region i ops d=>
   cases d with
   | false=>
    simp only[zy] at m
    split at m
    ·rename_i R J
     cases m
     have u:=h ops ops.toList 0 T ro ms (fun j=>by simp) J H Q
     rw[show ops.toList.length=ops.size by simp] at u
     exact zdg (u.mono (fun e N S M' C=>by obtain⟨rfl,rfl,O⟩:=C;exact O) (fun _ _ _ _ h=>h))
    ·cases m
   | true=>simp only[zy] at m;(repeat' split at m)<;>cases m
  | skip|label|ret|goto|refuse|exit=>cases m
  | _=>simp only[zy] at m;split at m<;>cases m
theorem zp8 {l:List (XG×XK)}{ds:List Nat}(h:XD P sz l E M [M] 0 [] fun E M=>K .norm E ms M):W .det P fn ro sz (.draw l ds) E ms M K:=w_of fun code T m Q=>by
 cases code with
 | region i ops d=>
  cases d with
  | true=>
   simp only[zy] at m
   split at m
   ·rename_i D
    split at m
    ·rename_i S R
     cases m
     obtain⟨s,L,N,O⟩:=h _ _ _ 0 T [] R Q (fun st k _=>rfl)
     obtain⟨J,M',C,H,u⟩:=s
     refine⟨.norm,J,ms,M',?_,O⟩
     show cDraw P (om P) ops T ms M=_
     unfold cDraw
     rw[D,zq]
     unfold cDrawG
     rw[L,z2j]
     show guard' (z0q P C H u) _=_
     rw[show z0q P C H u=true from N];rfl
    ·cases m
   ·cases m
  | false=>simp only[zy] at m;(repeat' split at m)<;>cases m
 | skip|label|ret|goto|refuse|exit=>cases m
 | _=>simp only[zy] at m;split at m<;>cases m
theorem zvt {l:List (XG×XK)}{ds:List Nat}(h:XD P sz l E M [M] 0 [] fun E M=>K .norm E ms M):W μ P fn ro sz (.draw l ds) E ms M K:=zp7 (zp8 h)
theorem ztb {a b:XC}(h:W .det P fn ro sz a E ms M (KSeq .det P fn ro sz b K)):W .det P fn ro sz (.seq a b) E ms M K:=w_of fun code T m Q=>by
 cases code with
 | seq L N=>
  simp only[zy] at m
  split at m
  ·rename_i x y R S
   cases m
   obtain⟨e,C,u,M',O,J,D,H⟩:=h L T R Q
   show ∃ e C u M',z11 (om P _) _=_/\_
   rw[O]
   cases e with
   | norm=>exact H N C S D
   | ret=>exact⟨.ret,C,u,M',rfl,J,D,H⟩
   | exit i=>exact⟨.exit i,C,u,M',rfl,J,D,H⟩
  ·cases m
 | region _ _ d=>cases d<;>simp only[zy] at m<;>(repeat' split at m)<;>cases m
 | skip|label|ret|goto|refuse|exit=>cases m
 | _=>simp only[zy] at m;split at m<;>cases m
theorem z54 {a b:XC}(h:W μ P fn ro sz a E ms M (KSeq μ P fn ro sz b K)):W μ P fn ro sz (.seq a b) E ms M K:=by
 cases μ with
 | det=>exact ztb h
 | die D=>
  refine z5g fun code T m S=>?_
  cases code with
  | seq N O=>
   simp only[zy] at m
   split at m
   ·rename_i x y U V
    cases m
    show(∃ e u C M',z11 (om P _) _=_/\_) ∨(∃ v u M',z11 (om P _) _=_/\_)
    rcases h N T U S with⟨e,u,C,M',Q,L,H,J⟩|⟨v,u,M',Q,H⟩
    ·rw[Q]
     cases e with
     | norm=>exact J O u V H
     | ret=>exact .inl ⟨.ret,u,C,M',rfl,L,H,J⟩
     | exit i=>exact .inl ⟨.exit i,u,C,M',rfl,L,H,J⟩
    ·rw[Q];exact .inr ⟨v,u,M',rfl,H⟩
   ·cases m
  | region _ _ d=>cases d<;>simp only[zy] at m<;>(repeat' split at m)<;>cases m
  | skip|label|ret|goto|refuse|exit=>cases m
  | _=>simp only[zy] at m;split at m<;>cases m
 | gen=>
  intro code T m S X
  cases code with
  | seq N O=>
   simp only[zy] at m
   split at m
   ·rename_i x y U V
    cases m
    refine zkc ((h N T U S X).mono (fun e u C M' H=>?_) (fun _ _ _ _ h=>h))
    obtain⟨L,J,R⟩:=H
    cases e with
    | norm=>exact R O u V J X
    | ret=>exact⟨L,J,R⟩
    | exit i=>exact⟨L,J,R⟩
   ·cases m
  | region _ _ d=>cases d<;>simp only[zy] at m<;>(repeat' split at m)<;>cases m
  | skip|label|ret|goto|refuse|exit=>cases m
  | _=>simp only[zy] at m;split at m<;>cases m
theorem zp6 {x:XO}{a b:XC}{q:Bool}(J:xval E x=some (.bool q))(h1:q=true->W .det P fn ro sz a E ms M K)(D:q=false->W .det P fn ro sz b E ms M K):W .det P fn ro sz (.cond x a b) E ms M K:=w_of fun code T h m=>by
 cases code with
 | cond O u C=>
  simp only[zy] at h
  split at h
  ·rename_i y z w L hz H
   cases h
   show ∃ e Q N M',ob (ev T O) _=_/\_
   rw[z08 m L J]
   cases q with
   | true=>exact h1 rfl u T hz m
   | false=>exact D rfl C T H m
  ·cases h
 | region _ _ d=>cases d<;>simp only[zy] at h<;>(repeat' split at h)<;>cases h
 | skip|label|ret|goto|refuse|exit=>cases h
 | _=>simp only[zy] at h;split at h<;>cases h
theorem zvs {x:XO}{a b:XC}{q:Bool}(N:xval E x=some (.bool q))(h1:q=true->W μ P fn ro sz a E ms M K)(H:q=false->W μ P fn ro sz b E ms M K):W μ P fn ro sz (.cond x a b) E ms M K:=by
 cases μ with
 | det=>exact zp6 N h1 H
 | die D=>
  refine z5g fun code T h m=>?_
  cases code with
  | cond Q u C=>
   simp only[zy] at h
   split at h
   ·rename_i y z w O hz L
    cases h
    show(∃ e S U M',ob (ev T Q) _=_/\_) ∨(∃ v S M',ob (ev T Q) _=_/\_)
    rw[z08 m O N]
    cases q with
    | true=>exact h1 rfl u T hz m
    | false=>exact H rfl C T L m
   ·cases h
  | region _ _ d=>cases d<;>simp only[zy] at h<;>(repeat' split at h)<;>cases h
  | skip|label|ret|goto|refuse|exit=>cases h
  | _=>simp only[zy] at h;split at h<;>cases h
 | gen=>
  intro code T h m R
  cases code with
  | cond Q u C=>
   simp only[zy] at h
   split at h
   ·rename_i y z w O hz L
    cases h
    exact zia (z08 m O N) (fun J=>h1 J u T hz m R) (fun J=>H J C T L m R)
   ·cases h
  | region _ _ d=>cases d<;>simp only[zy] at h<;>(repeat' split at h)<;>cases h
  | skip|label|ret|goto|refuse|exit=>cases h
  | _=>simp only[zy] at h;split at h<;>cases h
theorem zmj {b:XC}(h:W .det P fn ro sz b E ms M (KBlock id K)):W .det P fn ro sz (.block id b) E ms M K:=w_of fun code T u U=>by
 cases code with
 | block i Q=>
  simp only[zy] at u
  split at u
  ·rename_i y V
   cases u
   obtain⟨e,D,m,M',R,H,J,C⟩:=h Q T V U
   show ∃ e D m M',z11 (om P _) _=_/\_
   rw[R]
   cases e with
   | norm=>exact⟨.norm,D,m,M',rfl,H,J,C⟩
   | ret=>exact⟨.ret,D,m,M',rfl,H,J,C⟩
   | exit i=>
    have C:if i=id then K .norm H m M' else K (.exit i) H m M':=C
    show ∃ e O L N,ifb (Nat.beq i id) (some (Out.code .norm D m M')) (some (.code (.exit i) D m M'))=_/\_
    by_cases hi:i=id
    ·rw[if_pos hi] at C
     rw[show Nat.beq i id=true by simp[hi]]
     exact⟨.norm,D,m,M',rfl,H,J,C⟩
    ·rw[if_neg hi] at C
     rw[show Nat.beq i id=false by
      cases S:Nat.beq i id with
      | false=>rfl
      | true=>exact absurd (Nat.eq_of_beq_eq_true S) hi]
     exact⟨.exit i,D,m,M',rfl,H,J,C⟩
  ·cases u
 | region _ _ d=>cases d<;>simp only[zy] at u<;>(repeat' split at u)<;>cases u
 | skip|label|ret|goto|refuse|exit=>cases u
 | _=>simp only[zy] at u;split at u<;>cases u
theorem zg1 {b:XC}(h:W μ P fn ro sz b E ms M (KBlock id K)):W μ P fn ro sz (.block id b) E ms M K:=by
 cases μ with
 | det=>exact zmj h
 | die D=>
  refine z5g fun code T u S=>?_
  cases code with
  | block i Q=>
   simp only[zy] at u
   split at u
   ·rename_i y U
    cases u
    show(∃ e J m M',z11 (om P _) _=_/\_) ∨(∃ v J M',z11 (om P _) _=_/\_)
    rcases h Q T U S with⟨e,J,m,M',R,C,L,H⟩|⟨v,J,M',R,L⟩
    ·rw[R]
     cases e with
     | norm=>exact .inl ⟨.norm,J,m,M',rfl,C,L,H⟩
     | ret=>exact .inl ⟨.ret,J,m,M',rfl,C,L,H⟩
     | exit i=>
      have H:if i=id then K .norm C m M' else K (.exit i) C m M':=H
      left
      show ∃ e Y V X,ifb (Nat.beq i id) (some (Out.code .norm J m M')) (some (.code (.exit i) J m M'))=_/\_
      by_cases hi:i=id
      ·rw[if_pos hi] at H
       rw[show Nat.beq i id=true by simp[hi]]
       exact⟨.norm,J,m,M',rfl,C,L,H⟩
      ·rw[if_neg hi] at H
       rw[show Nat.beq i id=false by
        cases hb:Nat.beq i id with
        | false=>rfl
        | true=>exact absurd (Nat.eq_of_beq_eq_true hb) hi]
       exact⟨.exit i,J,m,M',rfl,C,L,H⟩
    ·rw[R];exact .inr ⟨v,J,M',rfl,L⟩
   ·cases u
  | region _ _ d=>cases d<;>simp only[zy] at u<;>(repeat' split at u)<;>cases u
  | skip|label|ret|goto|refuse|exit=>cases u
  | _=>simp only[zy] at u;split at u<;>cases u
 | gen=>
  intro code T u S Z
  cases code with
  | block i Q=>
   simp only[zy] at u
   split at u
   ·rename_i y U
    cases u
    refine zf7 ((h Q T U S Z).mono (fun e J m M' L=>?_) (fun _ _ _ _ h=>h))
    obtain⟨C,H,N⟩:=L
    cases e with
    | norm=>exact⟨C,H,N⟩
    | ret=>exact⟨C,H,N⟩
    | exit O=>
     have N:if O=id then K .norm C m M' else K (.exit O) C m M':=N
     by_cases hi:O=id
     ·rw[if_pos hi] at N
      show if O=id then _ else _
      rw[if_pos hi];exact⟨C,H,N⟩
     ·rw[if_neg hi] at N
      show if O=id then _ else _
      rw[if_neg hi];exact⟨C,H,N⟩
   ·cases u
  | region _ _ d=>cases d<;>simp only[zy] at u<;>(repeat' split at u)<;>cases u
  | skip|label|ret|goto|refuse|exit=>cases u
  | _=>simp only[zy] at u;split at u<;>cases u
theorem zpa {b:XC}(h:W .det P fn ro sz b E ms M (KLoop .det P fn ro sz b K)):W .det P fn ro sz (.loop b) E ms M K:=w_of fun code T m Q=>by
 cases code with
 | loop N=>
  have J:=m
  simp only[zy] at m
  split at m
  ·rename_i y R
   cases m
   obtain⟨e,C,u,M',O,L,D,H⟩:=h N T R Q
   show ∃ e C u M',z11 (om P _) _=_/\_
   rw[O]
   cases e with
   | norm=>exact H (.loop N) C J D
   | ret=>exact⟨.ret,C,u,M',rfl,L,D,H⟩
   | exit i=>exact⟨.exit i,C,u,M',rfl,L,D,H⟩
  ·cases m
 | region _ _ d=>cases d<;>simp only[zy] at m<;>(repeat' split at m)<;>cases m
 | skip|label|ret|goto|refuse|exit=>cases m
 | _=>simp only[zy] at m;split at m<;>cases m
theorem zqm {b:XC}(h:W μ P fn ro sz b E ms M (KLoop μ P fn ro sz b K)):W μ P fn ro sz (.loop b) E ms M K:=by
 cases μ with
 | det=>exact zpa h
 | die D=>
  refine z5g fun code T m S=>?_
  cases code with
  | loop O=>
   have L:=m
   simp only[zy] at m
   split at m
   ·rename_i y U
    cases m
    show(∃ e u C M',z11 (om P _) _=_/\_) ∨(∃ v u M',z11 (om P _) _=_/\_)
    rcases h O T U S with⟨e,u,C,M',Q,N,H,J⟩|⟨v,u,M',Q,H⟩
    ·rw[Q]
     cases e with
     | norm=>exact J (.loop O) u L H
     | ret=>exact .inl ⟨.ret,u,C,M',rfl,N,H,J⟩
     | exit i=>exact .inl ⟨.exit i,u,C,M',rfl,N,H,J⟩
    ·rw[Q];exact .inr ⟨v,u,M',rfl,H⟩
   ·cases m
  | region _ _ d=>cases d<;>simp only[zy] at m<;>(repeat' split at m)<;>cases m
  | skip|label|ret|goto|refuse|exit=>cases m
  | _=>simp only[zy] at m;split at m<;>cases m
 | gen=>
  intro code T m S V
  cases code with
  | loop O=>
   have L:=m
   simp only[zy] at m
   split at m
   ·rename_i y U
    cases m
    refine zib ((h O T U S V).mono (fun e u C M' H=>?_) (fun _ _ _ _ h=>h))
    obtain⟨N,J,R⟩:=H
    cases e with
    | norm=>exact R (.loop O) u L J V
    | ret=>exact⟨N,J,R⟩
    | exit i=>exact⟨N,J,R⟩
   ·cases m
  | region _ _ d=>cases d<;>simp only[zy] at m<;>(repeat' split at m)<;>cases m
  | skip|label|ret|goto|refuse|exit=>cases m
  | _=>simp only[zy] at m;split at m<;>cases m
theorem z2k {c:XC}{K':Ex->Env->List Dfr->Mem->Prop}(h:W μ P fn ro sz c E ms M K)(R:∀ e E ms M,K e E ms M->K' e E ms M):W μ P fn ro sz c E ms M K':=by
 cases μ with
 | det=>exact fun code T L N=>let ⟨e,O,u,M',H,C,J,Q⟩:=h code T L N;⟨e,O,u,M',H,C,J,R _ _ _ _ Q⟩
 | die D=>exact fun code T L N=>(h code T L N).imp (fun⟨e,O,u,M',H,C,J,Q⟩=>⟨e,O,u,M',H,C,J,R _ _ _ _ Q⟩) (fun h=>h)
 | gen=>exact fun code T L N S=>(h code T L N S).mono (fun e T ms m ⟨C,H,J⟩=>⟨C,H,R _ _ _ _ J⟩) (fun _ _ _ _ h=>h)
theorem zxt {c:XC}{C:Env}(hs:∀ t v,look C t=some v->look E t=some v)(h:W μ P fn ro sz c C ms M K):W μ P fn ro sz c E ms M K:=by
 cases μ with
 | det=>exact fun code T m u=>h code T m (u.sub hs)
 | die D=>exact fun code T m u=>h code T m (u.sub hs)
 | gen=>exact fun code T m u H=>h code T m (u.sub hs) H
inductive Has (E:Env):Env->Prop
 | nil:Has E []
 | cons {t:Nat} {v:LV} {E':Env} (h:look E t=some v) (h':Has E E'):Has E ((t,v) :: E')
theorem Has.sub {E C:Env}(h:Has E C):∀ t v,look C t=some v->look E t=some v:=by
 induction h with
 | nil=>intro t v h;cases h
 | cons H L J=>
  rename_i t v C
  intro u w m
  have m:(match Nat.beq t u with|true=>some v|false=>look C u)=some w:=m
  cases D:Nat.beq t u with
  | true=>rw[D] at m;obtain rfl:=Nat.eq_of_beq_eq_true D;rw[H];exact m
  | false=>rw[D] at m;exact J u w m
theorem z06 {c:XC}{m:Env}(hs:Has E m)(h:W μ P fn ro sz c m ms M K):W μ P fn ro sz c E ms M K:=zxt hs.sub h
theorem z42 {b:XC}(h:W μ P fn ro sz b E ms M K):KSeq μ P fn ro sz b K .norm E ms M:=h
theorem zdv {b:XC}(h:K .ret E ms M):KSeq μ P fn ro sz b K .ret E ms M:=h
theorem zb0 {b:XC}(h:K (.exit i) E ms M):KSeq μ P fn ro sz b K (.exit i) E ms M:=h
theorem zfg (h:K .norm E ms M):KBlock id K .norm E ms M:=h
theorem z9b (h:K .ret E ms M):KBlock id K .ret E ms M:=h
theorem z1p (h:K .norm E ms M):KBlock id K (.exit id) E ms M:=by unfold KBlock;simp only[if_true];exact h
theorem z9a (hi:Nat.beq i id=false)(h:K (.exit i) E ms M):KBlock id K (.exit i) E ms M:=by
 unfold KBlock
 simp only
 rw[if_neg (fun e=>by subst e;simp at hi)];exact h
theorem zv1 {b:XC}(h:W μ P fn ro sz (.loop b) E ms M K):KLoop μ P fn ro sz b K .norm E ms M:=h
theorem zaz {b:XC}(h:K .ret E ms M):KLoop μ P fn ro sz b K .ret E ms M:=h
theorem z9d {b:XC}(h:K (.exit i) E ms M):KLoop μ P fn ro sz b K (.exit i) E ms M:=h
theorem zl0 {res:List XR}{Q:LV->Mem->Prop}{vs:List LV}(m:ResX E M res vs)(h:Q (packed vs) M):KFun res Q .ret E [] M:=⟨M,rfl,vs,m,h⟩
theorem zin {res:List XR}{Q:LV->Mem->Prop}{vs:List LV}(m:ResX E M res vs)(h:Q (packed vs) M):KFun res Q .norm E [] M:=⟨M,rfl,vs,m,h⟩
end code
def zipE:Nat->List LV->Env
 | _,[]=>[]
 | i,v::vs=>(i,v)::zipE (i+1) vs
theorem z6n {vs:List LV}{v:LV}(h:look (zipE i vs) t=some v):i<=t/\vs[t-i]?=some v:=by
 induction vs generalizing i with
 | nil=>cases h
 | cons a u D=>
  have h:(match Nat.beq i t with|true=>some a|false=>look (zipE (i+1) u) t)=some v:=h
  cases m:Nat.beq i t with
  | true=>rw[m] at h;obtain rfl:=Nat.eq_of_beq_eq_true m;cases h;exact⟨Nat.le_refl _,by simp⟩
  | false=>
   rw[m] at h
   obtain⟨H,C⟩:=D h
   refine⟨by omega,?_⟩
   rw[show t-i=(t-(i+1))+1 by omega];simpa using C
theorem z3p:∀(vs:List LV) (i:Nat) (T:Tm),i+vs.length<=T.size->∃ T',Tm.setAll vs i T=some T'/\T'.size=T.size /\ ∀ t,T'.get t=if i<=t/\t<i+vs.length then(vs[t-i]?).getD .unk else T.get t
 | [],i,T,h=>⟨T,rfl,rfl,fun t=>by rw[if_neg (by simp)]⟩
 | v::vs,i,T,h=>by
  have h:i+(vs.length+1)<=T.size:=h
  have hs:T.set i v=some ⟨T.size,T.tr.set i (some v)⟩:=Tm.set_eq.2 ⟨by omega,rfl⟩
  obtain⟨T',u,C,D⟩:=z3p vs (i+1) ⟨T.size,T.tr.set i (some v)⟩ (by show i+1+vs.length<=T.size;omega)
  refine⟨T',by show ob (T.set i v) _=_;rw[hs];exact u,C,fun t=>?_⟩
  rw[D t]
  by_cases m:i+1<=t/\t<i+1+vs.length
  ·rw[if_pos m,if_pos (by simp;omega),show t-i=(t-(i+1))+1 by omega];simp
  ·rw[if_neg m,Tm.get_set hs]
   by_cases e:t=i
   ·subst e;rw[if_pos rfl,if_pos (by simp),Nat.sub_self]
    rfl
   ·rw[if_neg e,if_neg (by simp;omega)]
theorem z4w {rec:Task->Option Out}{fd:Func}{T:Tm}:∀ {ms:List Dfr} {M M':Mem},Marks ms M M'->finRet P rec fd T ms M=finRet P rec fd T [] M'
 | [],M,M',h=>by cases h;rfl
 | .mark d::ds,M,M',h=>by
  show atDefr M d (finRet P rec fd T ds (M.upd d none))=_
  unfold atDefr
  rw[h.1,z8]
  exact z4w h.2
 | .call _ _::_,_,_,h=>h.elim
theorem z1u {E:Env}{T:Tm}(C:zt sz E T){M:Mem}:∀ {J:List ResultVar} {xs:List XR} {vs:List LV},cRes P J=some xs->ResX E M xs vs->z0p P T M J=some vs
 | [],xs,vs,m,h=>by cases m;cases h;rfl
 | .tmp t::J,xs,vs,m,h=>by
  simp only[cRes] at m
  split at m
  ·rename_i l H
   cases m
   cases h with
   | tmp h1 D=>
    show ob (evT T t) _=_
    rw[C.look _ _ h1,z8,z1u C H D];rfl
  ·cases m
 | .cell a t::J,xs,vs,m,h=>by
  simp only[cRes] at m
  split at m
  ·rename_i l u H
   cases m
   cases h with
   | cell1 h1 D L=>
    show ob (ob (evT T a) fun a=>loadT P t M a) _=_
    rw[C.look _ _ h1,z8]
    unfold loadT
    show ob (ob (aggSz P t) _) _=_
    rw[u,z8,z47,D,z8,z1u C H L];rfl
  ·rename_i n l u H
   cases m
   cases h with
   | cellN h1 D L=>
    show ob (ob (evT T a) fun a=>loadT P t M a) _=_
    rw[C.look _ _ h1,z8]
    unfold loadT
    show ob (ob (aggSz P t) _) _=_
    rw[u,z8,z2j,D,z8,z8,z1u C H L];rfl
  ·cases m
theorem zi9 {c:XC}{res:List XR}(hf:cFn P f=some ⟨n,c,res⟩){args:List LV}{M:Mem}{Q:LV->Mem->Prop}(R:Nat.ble args.length n=true)(h:W .det P f none n c (zipE 0 args) [] M (KFun res Q))(C:Orc.ask P f args M=none):zc P f args M Q:=by
 unfold cFn at hf
 split at hf
 ·cases hf
 ·rename_i m H
  split at hf
  ·cases hf
  ·rename_i code u
   split at hf
   ·rename_i c' r' hc hr
    cases hf
    rw[Nat.ble_eq] at R
    obtain⟨T,S,U,V⟩:=z3p args 0 ⟨m.ntmps,.nil⟩ (by show 0+args.length<=m.ntmps;omega)
    have hT:Tm.ofList m.ntmps args=some T:=by
     unfold Tm.ofList
     rw[z19]
     show Tm.setAll args 0 ⟨max m.ntmps args.length,.nil⟩=_
     rw[Nat.max_eq_left R];exact S
    have he:zt m.ntmps (zipE 0 args) T:=⟨U,fun d v hd=>by
     obtain⟨_,h5⟩:=z6n hd
     rw[z39,V d,if_pos (by have:=(List.getElem?_eq_some_iff.1 h5).1;omega),h5];rfl⟩
    obtain⟨e,N,J,M',h5,E',X,O⟩:=h code T hc he
    cases e with
    | exit i=>exact O.elim
    | _=>
     obtain⟨L,Y,vs,Z,D⟩:=O
     refine⟨_,L,?_,D⟩
     rw[zfo C]
     show ob (fnOf P f) _=_
     rw[H,z8,hT,z8,u,z8]
     show z1k (om P (.code f none code T [] M)) _ _=_
     rw[h5]
     show finRet P (om P) m N J M'=_
     rw[z4w Y]
     show ob (z0p P N L m.results.toList) _=_
     rw[z1u X hr Z];rfl
   ·cases hf
theorem zd {xf:XF}(hf:cFn P f=some xf){args:List LV}{M:Mem}{Q:LV->Mem->Prop}(u:Nat.ble args.length xf.ntmps=true)(h:W .det P f none xf.ntmps xf.body (zipE 0 args) [] M (KFun xf.res Q))(m:Orc.ask P f args M=none:=by rfl):zc P f args M Q:=zi9 (n:=xf.ntmps) (c:=xf.body) (res:=xf.res) hf u h m
theorem zf4 {c:XC}{res:List XR}(hf:cFn P f=some ⟨n,c,res⟩){args:List LV}{M:Mem}{Q:LV->Mem->Prop}(U:Nat.ble args.length n=true)(h:W .gen P f none n c (zipE 0 args) [] M (KFun res Q)):CallN P f args M Q:=by
 unfold cFn at hf
 split at hf
 ·cases hf
 ·rename_i m H
  split at hf
  ·cases hf
  ·rename_i code C
   split at hf
   ·rename_i c' r' hc V
    cases hf
    rw[Nat.ble_eq] at U
    obtain⟨T,X,Y,Z⟩:=z3p args 0 ⟨m.ntmps,.nil⟩ (by show 0+args.length<=m.ntmps;omega)
    have hT:Tm.ofList m.ntmps args=some T:=by
     unfold Tm.ofList
     rw[z19]
     show Tm.setAll args 0 ⟨max m.ntmps args.length,.nil⟩=_
     rw[Nat.max_eq_left U];exact X
    have he:zt m.ntmps (zipE 0 args) T:=⟨Y,fun d v hd=>by
     obtain⟨_,h5⟩:=z6n hd
     rw[z39,Z d,if_pos (by have:=(List.getElem?_eq_some_iff.1 h5).1;omega),h5];rfl⟩
    refine⟨⟨m,H⟩,fun S=>znm S H hT C ((h code T hc he S).mono (fun e O a0 M' h5=>?_) (fun _ _ _ _ h=>h.elim))⟩
    obtain⟨E',R,J⟩:=h5
    cases e with
    | exit i=>exact J.elim
    | norm=>
     obtain⟨D,L,vs,N,u⟩:=J
     refine⟨.inl rfl,_,D,?_,u⟩
     rw[z4w L]
     show ob (z0p P O D m.results.toList) _=_
     rw[z1u R V N];rfl
    | ret=>
     obtain⟨D,L,vs,N,u⟩:=J
     refine⟨.inr rfl,_,D,?_,u⟩
     rw[z4w L]
     show ob (z0p P O D m.results.toList) _=_
     rw[z1u R V N];rfl
   ·cases hf
theorem z1z {xf:XF}(hf:cFn P f=some xf){args:List LV}{M:Mem}{Q:LV->Mem->Prop}(m:Nat.ble args.length xf.ntmps=true)(h:W .gen P f none xf.ntmps xf.body (zipE 0 args) [] M (KFun xf.res Q)):CallN P f args M Q:=zf4 (n:=xf.ntmps) (c:=xf.body) (res:=xf.res) hf m h
end
end PvL
end
section
namespace PvL
set_option linter.unusedSectionVars false
open Go
variable {μ:Md}
variable {own w f:Bool} {ty:TypeId} {t len b e lo hi:Nat} {k:Int} {gf:FuncId} {dd:Option Nat}
structure New (M:Mem) (n:Nat) (lb:LB) (M':Mem):Prop where
 eq:M'=M.push lb
 name:n=M.next
structure Upd (M:Mem) (i:Nat) (lb:LB) (M':Mem):Prop where
 eq:M'=M.upd i (some lb)
structure Grow (M M':Mem):Prop where
 le:M.next<=M'.next
 old:∀ i,i < M.next->M'.get i=M.get i
structure Keep (F:Nat->Prop) (M M':Mem):Prop where
 le:M.next<=M'.next
 old:∀ i,i < M.next->¬ F i->M'.get i=M.get i
def At (M:Mem)(i:Nat)(lb:LB):Prop:=M.get i=some lb/\i<M.next
def Rd (M:Mem)(i o n:Nat)(l:List LV):Prop:=loadN M i o n=some l/\i<M.next
def Rd1 (M:Mem)(i o:Nat)(v:LV):Prop:=load1 M i o=some v/\i<M.next
section
variable {M M':Mem} {i j n o:Nat} {lb lb':LB}
theorem New.next (h:New M n lb M'):M'.next=M.next+1:=by rw[h.eq];rfl
theorem Upd.next (h:Upd M i lb M'):M'.next=M.next:=by rw[h.eq];exact Mem.next_upd _ _ _
theorem At.new_same (h:New M n lb M'):At M' n lb:=by
 refine⟨?_,by rw[h.next,h.name];omega⟩
 rw[h.eq,h.name,Mem.get_push,if_pos rfl]
theorem At.new_old (h:New M n lb M')(m:At M i lb'):At M' i lb':=by
 refine⟨?_,by rw[h.next];have:=m.2;omega⟩
 rw[h.eq,Mem.get_push,if_neg (by have:=m.2;omega)];exact m.1
theorem At.upd_same (h:Upd M i lb M')(m:At M i lb'):At M' i lb:=by
 refine⟨?_,by rw[h.next];exact m.2⟩
 rw[h.eq,Mem.get_upd,if_pos rfl]
theorem At.upd_ne (h:Upd M j lb M')(m:i≠j)(u:At M i lb'):At M' i lb':=by
 refine⟨?_,by rw[h.next];exact u.2⟩
 rw[h.eq,Mem.get_upd,if_neg m];exact u.1
theorem At.grow (h:Grow M M')(m:At M i lb):At M' i lb:=⟨by rw[h.old i m.2];exact m.1,Nat.lt_of_lt_of_le m.2 h.le⟩
theorem At.keep {F:Nat->Prop}(h:Keep F M M')(hf:¬ F i)(m:At M i lb):At M' i lb:=⟨by rw[h.old i m.2 hf];exact m.1,Nat.lt_of_lt_of_le m.2 h.le⟩
variable {l:List LV} {v:LV}
theorem z9l (h:M'.get i=M.get i):loadN M' i o n=loadN M i o n:=by unfold loadN atCells;rw[h]
theorem z9k (h:M'.get i=M.get i):load1 M' i o=load1 M i o:=by unfold load1 atCells;rw[h]
theorem Rd.of_at {cs:List LV}(m:At M i (.cells own cs ty))(h:take' n (drop' o cs)=some l):Rd M i o n l :=
 ⟨by unfold loadN atCells;rw[m.1];exact h,m.2⟩
theorem Rd1.of_at {cs:List LV}(m:At M i (.cells own cs ty))(h:nth cs o=some v):Rd1 M i o v :=
 ⟨by unfold load1 atCells;rw[m.1];exact h,m.2⟩
theorem Grow.refl (M:Mem):Grow M M:=⟨Nat.le_refl _,fun _ _=>rfl⟩
theorem Grow.trans {m:Mem}(h:Grow M M')(u:Grow M' m):Grow M m:=⟨Nat.le_trans h.le u.le,fun i hi=>by rw[u.old i (Nat.lt_of_lt_of_le hi h.le),h.old i hi]⟩
theorem New.grow (h:New M n lb M'):Grow M M':=⟨by rw[h.next];omega,fun i hi=>by rw[h.eq,Mem.get_push,if_neg (by omega)]⟩
theorem Grow.new {M0:Mem}(h:Grow M0 M)(m:New M n lb M'):Grow M0 M':=h.trans m.grow
theorem Grow.upd {M0:Mem}(h:Grow M0 M)(m:Upd M i lb M')(hi:M0.next<=i):Grow M0 M' :=
 ⟨by rw[m.next];exact h.le,fun j u=>by rw[m.eq,Mem.get_upd,if_neg (by omega)];exact h.old j u⟩
theorem Rd.grow (h:Grow M M')(m:Rd M i o n l):Rd M' i o n l:=⟨by rw[z9l (h.old i m.2)];exact m.1,Nat.lt_of_lt_of_le m.2 h.le⟩
theorem Rd1.grow (h:Grow M M')(m:Rd1 M i o v):Rd1 M' i o v:=⟨by rw[z9k (h.old i m.2)];exact m.1,Nat.lt_of_lt_of_le m.2 h.le⟩
theorem Rd.new_old (h:New M j lb M')(m:Rd M i o n l):Rd M' i o n l:=m.grow h.grow
theorem Rd1.new_old (h:New M j lb M')(m:Rd1 M i o v):Rd1 M' i o v:=m.grow h.grow
theorem z3q (h:Upd M j lb M')(m:i≠j):M'.get i=M.get i:=by rw[h.eq,Mem.get_upd,if_neg m]
theorem Rd.upd_ne (h:Upd M j lb M')(m:i≠j)(u:Rd M i o n l):Rd M' i o n l:=⟨by rw[z9l (z3q h m)];exact u.1,by rw[h.next];exact u.2⟩
theorem Rd1.upd_ne (h:Upd M j lb M')(m:i≠j)(u:Rd1 M i o v):Rd1 M' i o v:=⟨by rw[z9k (z3q h m)];exact u.1,by rw[h.next];exact u.2⟩
theorem Rd.keep {F:Nat->Prop}(h:Keep F M M')(hf:¬ F i)(m:Rd M i o n l):Rd M' i o n l:=⟨by rw[z9l (h.old i m.2 hf)];exact m.1,Nat.lt_of_lt_of_le m.2 h.le⟩
theorem Rd1.keep {F:Nat->Prop}(h:Keep F M M')(hf:¬ F i)(m:Rd1 M i o v):Rd1 M' i o v:=⟨by rw[z9k (h.old i m.2 hf)];exact m.1,Nat.lt_of_lt_of_le m.2 h.le⟩
end
section
variable {P:Program} [Orc P] {sz:Nat} {E:Env} {M:Mem} {K:Env->Mem->Prop} {l:List XG} {d:Nat} {g:Option (Nat × Bool)} {x y a:XO} {i o n t:Nat} {v:LV} {ls:List LV}
theorem zuy:GOn E none:=trivial
theorem g_on (h:look E t=some (.bool w)):GOn E (some (t,w)):=h
theorem zxh (h:look E t=some (.bool (!w))):GOff E (some (t,w)):=.inl h
theorem zxi (h:look E t=some (.tup [])):GOff E (some (t,w)):=.inr h
theorem ztk {i:XI}(h:xpure i E=some v):zl P i E M=some (.val v M):=z23 h M
theorem zeq (m:xval E a=some (.ptr (some (i,o))))(h:Rd1 M i o v):zl P (.ld1 a) E M=some (.val v M):=by
 show ob (xval E a) _=_
 rw[m,z8]
 show ob (load1 M i o) _=_
 rw[h.1];rfl
theorem zer (m:xval E a=some (.ptr (some (i,o))))(h:Rd M i o n ls):zl P (.ldN n a) E M=some (.val (.agg ls) M):=by
 show ob (xval E a) _=_
 rw[m,z8]
 show ob (loadN M i o n) _=_
 rw[h.1];rfl
theorem zhq {z:List LV}(hf:zn z=true):zl P (.new t z) E M=some (.val (.ptr (some (M.next,0))) (M.push (.cells true z t))):=by
 show guard' (zn z) _=_
 rw[hf];rfl
theorem zwa (h:xval E x=some v)(hf:zn v.cells=true):zl P (.box t x) E M=some (.val (.ptr (some (M.next,0))) (M.push (.cells true v.cells t))):=by
 show ob (xval E x) _=_
 rw[h,z8]
 show guard' (zn v.cells) _=_
 rw[hf];rfl
theorem zqt {z cs:List LV}{h:List (Nat×Nat×XO)}{vs:List (Nat×Nat×LV)}(u:xParts E h=some vs)(m:fillX vs (rep len z)=some cs) :
  zl P (.bsl t n len z h) E M=some (.val (.slice (some (M.next,0)) len true n) (M.push (.cells true cs t))):=by
 show ob (xParts E h) _=_
 rw[u,z8,m];rfl
theorem zpm:zl P .mkmap E M=some (.val (.map (some M.next)) (M.push (.map [] [] 0))):=rfl
theorem ztp {cs h:List LV}(m:xval E a=some (.ptr (some (i,o))))(D:xval E x=some v)(u:At M i (.cells true cs ty))(C:Nat.beq v.cells.length n=true)(hf:zn v.cells=true)(hs:z0t cs o v.cells=some h) :
  zl P (.st n a x) E M=some (.skip (M.upd i (some (.cells true h ty)))):=by
 show ob (xval E a) _=_
 rw[m,z8,D,z8]
 show guard' _ (guard' _ (ob (storeCs M i o v.cells) _))=_
 rw[C,hf,zb,zb]
 unfold storeCs atCells
 rw[u.1,z8]
 show ob (guard' true (ob (z0t cs o v.cells) _)) _=_
 rw[hs];rfl
theorem zqu {q:IntKind}{k:Nat}(m:xval E x=some (.slice (some (i,o)) len f e))(u:xval E y=some (.int q (k:Int)))(h:k<len) :
  zl P (.iad none b x y) E M=some (.val (.ptr (some (i,o+k*b))) M):=by
 show ob (xval E x) _=_
 rw[m,z8,u,z8]
 show ob (guard' (Nat.ble (k+1) len) (fN (o+k*b) _)) _=_
 rw[Nat.ble_eq_true_of_le h,zb,z19];rfl
theorem zje {q:IntKind}(u:xval E x=some (.slice (some (i,o)) len f e))(C:xval E y=some (.int q k))(h:0<=k/\k<len) :
  zl P (.iad none b x y) E M=some (.val (.ptr (some (i,o+k.toNat*b))) M):=by
 obtain⟨m,rfl⟩:=Int.eq_ofNat_of_zero_le h.1
 exact zqu u C (by omega)
theorem zti {q:IntKind}(u:xval E x=some (.ptr (some (i,o))))(C:xval E y=some (.int q k))(h:0<=k/\k<len) :
  zl P (.iad (some len) b x y) E M=some (.val (.ptr (some (i,o+k.toNat*b))) M):=by
 obtain⟨m,rfl⟩:=Int.eq_ofNat_of_zero_le h.1
 show ob (xval E x) _=_
 rw[u,z8,C,z8]
 show ob (guard' (Nat.ble (m+1) len) (fN (o+m*b) _)) _=_
 rw[Nat.ble_eq_true_of_le (by omega),zb,z19];rfl
theorem zwc {ag:Bool}{cs:List LV}{q:IntKind}(C:xval E x=some (.agg cs))(D:xval E y=some (.int q k))(h:0<=k/\k<len)(u:partL ag b (k.toNat*b) cs=some v) :
  zl P (.idx len b ag x y) E M=some (.val v M):=by
 obtain⟨m,rfl⟩:=Int.eq_ofNat_of_zero_le h.1
 show ob (xval E x) _=_
 rw[C,z8,D,z8]
 show guard' (Nat.ble (m+1) len) (ob (partL ag b (m*b) cs) _)=_
 rw[Nat.ble_eq_true_of_le (by omega),zb,show partL ag b (m*b) cs=some v from u];rfl
theorem zvy {z:List LV}(h:GOn E g)(hf:zn z=true)(m:∀ n M',New M n (.cells true z t) M'->n=M.next->M'.next=M.next+1->XW μ P sz l ((d,.ptr (some (n,0)))::E) M' K):XW μ P sz (⟨some d,.new t z,g⟩::l) E M K :=
 z2m h (zhq hf) (m _ _ ⟨rfl,rfl⟩ rfl rfl)
theorem zvv (h:GOn E g)(u:xval E x=some v)(hf:zn v.cells=true)(m:∀ n M',New M n (.cells true v.cells t) M'->n=M.next->M'.next=M.next+1->XW μ P sz l ((d,.ptr (some (n,0)))::E) M' K):XW μ P sz (⟨some d,.box t x,g⟩::l) E M K :=
 z2m h (zwa u hf) (m _ _ ⟨rfl,rfl⟩ rfl rfl)
theorem zvw {z cs:List LV}{h:List (Nat×Nat×XO)}{vs:List (Nat×Nat×LV)}(u:GOn E g)(D:xParts E h=some vs)(m:fillX vs (rep len z)=some cs)(C:∀ n' M',New M n' (.cells true cs t) M'->n'=M.next->M'.next=M.next+1->XW μ P sz l ((d,.slice (some (n',0)) len true n)::E) M' K):XW μ P sz (⟨some d,.bsl t n len z h,g⟩::l) E M K :=
 z2m u (zqt D m) (C _ _ ⟨rfl,rfl⟩ rfl rfl)
theorem zmn (h:GOn E g)(m:∀ n M',New M n (.map [] [] 0) M'->n=M.next->M'.next=M.next+1->XW μ P sz l ((d,.map (some n))::E) M' K):XW μ P sz (⟨some d,.mkmap,g⟩::l) E M K :=
 z2m h zpm (m _ _ ⟨rfl,rfl⟩ rfl rfl)
theorem x_st {cs h:List LV}(C:GOn E g)(u:xval E a=some (.ptr (some (i,o))))(J:xval E x=some v)(m:At M i (.cells true cs ty))(H:Nat.beq v.cells.length n=true)(hf:zn v.cells=true)(hs:z0t cs o v.cells=some h)(D:∀ M',Upd M i (.cells true h ty) M'->M'.next=M.next->At M' i (.cells true h ty)->XW μ P sz l E M' K):XW μ P sz (⟨none,.st n a x,g⟩::l) E M K :=
 zmy C (ztp u J m H hf hs) (D _ ⟨rfl⟩ (Mem.next_upd _ _ _) (At.upd_same ⟨rfl⟩ m))
theorem z01 {f:XO}{u:List XO}{fi ca vs:List LV}(H:GOn E g)(hf:xval E f=some (.func (.func gf) fi ca))(m:z0i E u=some vs)(h:zc P gf (fi++vs++ca) M fun w M'=>w=v/\M'=M)(J:XW μ P sz l ((d,v)::E) M K):XW μ P sz (⟨some d,.call f u,g⟩::l) E M K :=
 zab H hf m (Q:=fun w M'=>w=v/\M'=M) h fun w M' ⟨C,D⟩=>by subst C;subst D;exact J
theorem zw {f:XO}{u:List XO}{fi ca vs:List LV}(H:GOn E g)(hf:xval E f=some (.func (.func gf) fi ca))(m:z0i E u=some vs)(h:zc P gf (fi++vs++ca) M fun w M'=>w=v/\Grow M M')(J:∀ M',Grow M M'->M.next<=M'.next->XW μ P sz l ((d,v)::E) M' K):XW μ P sz (⟨some d,.call f u,g⟩::l) E M K :=
 zab H hf m (Q:=fun w M'=>w=v/\Grow M M') h fun w M' ⟨D,C⟩=>by subst D;exact J M' C C.le
theorem zk {f:XO}{u:List XO}{C:LV}{vs:List LV}{Q:LV->Mem->Prop}(D:GOn E g)(hf:xval E f=some C)(m:z0i E u=some vs)(h:AppOk P C vs M Q)(H:∀ w M',Q w M'->XW μ P sz l ((d,w)::E) M' K):XW μ P sz (⟨some d,.call f u,g⟩::l) E M K:=zab D hf m h H
theorem zh {f:XO}{u:List XO}{C:LV}{vs:List LV}{Q:LV->Mem->Prop}(D:GOn E g)(hf:xval E f=some C)(m:z0i E u=some vs)(h:AppOk P C vs M Q)(H:∀ w M',Q w M'->XW μ P sz l E M' K):XW μ P sz (⟨none,.call f u,g⟩::l) E M K:=zab D hf m h H
theorem z35 {i:XI}{v:LV}(h:GOn E g)(hs:zl P i E M=some (.val v M))(m:XW μ P sz l ((d,v)::E) M K):XW μ P sz (⟨some d,i,g⟩::l) E M K:=z2m h hs m
theorem zvz {i:XI}(h:GOff E g)(m:XW μ P sz l ((d,.tup [])::E) M K):XW μ P sz (⟨some d,i,g⟩::l) E M K:=zwn h m
variable {st:List Mem} {k:Nat} {xs:List (Nat × Nat × (Mem->Prop))} {ld:List (XG × XK)}
theorem zf9 {i:XI}{v:LV}(h:GOn E g)(hs:zl P i E M=some (.val v M))(m:XD P sz ld ((d,v)::E) M st k xs K):XD P sz ((⟨some d,i,g⟩,.calm)::ld) E M st k xs K:=zw4 h hs m
theorem zxc (C:GOn E g)(u:xval E a=some (.ptr (some (i,o))))(h:Rd1 M i o v)(D:XD P sz ld ((d,v)::E) M st k ((lo,hi,fun m=>Rd1 m i o v)::xs) K) :
  XD P sz ((⟨some d,.ld1 a,g⟩,.reads lo hi)::ld) E M st k xs K:=z63 C (zeq u h) _ (fun _ H=>zeq u H) D
theorem zxd (C:GOn E g)(u:xval E a=some (.ptr (some (i,o))))(h:Rd M i o n ls)(D:XD P sz ld ((d,.agg ls)::E) M st k ((lo,hi,fun m=>Rd m i o n ls)::xs) K) :
  XD P sz ((⟨some d,.ldN n a,g⟩,.reads lo hi)::ld) E M st k xs K:=z63 C (zer u h) _ (fun _ H=>zer u H) D
theorem zxe {z:List LV}(h:GOn E g)(hf:zn z=true)(m:∀ n M',New M n (.cells true z t) M'->n=M.next->M'.next=M.next+1->XD P sz ld ((d,.ptr (some (n,0)))::E) M' st k xs K):XD P sz ((⟨some d,.new t z,g⟩,.new)::ld) E M st k xs K :=
 zqq h (zhq hf) (m _ _ ⟨rfl,rfl⟩ rfl rfl)
theorem zxb {z cs:List LV}{h:List (Nat×Nat×XO)}{vs:List (Nat×Nat×LV)}(u:GOn E g)(D:xParts E h=some vs)(m:fillX vs (rep len z)=some cs)(C:∀ n' M',New M n' (.cells true cs t) M'->n'=M.next->M'.next=M.next+1->XD P sz ld ((d,.slice (some (n',0)) len true n)::E) M' st k xs K):XD P sz ((⟨some d,.bsl t n len z h,g⟩,.new)::ld) E M st k xs K :=
 zqq u (zqt D m) (C _ _ ⟨rfl,rfl⟩ rfl rfl)
theorem d_st {cs h:List LV}(C:GOn E g)(u:xval E a=some (.ptr (some (i,o))))(J:xval E x=some v)(m:At M i (.cells true cs ty))(H:Nat.beq v.cells.length n=true)(hf:zn v.cells=true)(hs:z0t cs o v.cells=some h)(D:∀ M',Upd M i (.cells true h ty) M'->M'.next=M.next->At M' i (.cells true h ty)->XD P sz ld E M' (M'::st) (k+1) xs K):XD P sz ((⟨none,.st n a x,g⟩,.anchor)::ld) E M st k xs K :=
 zmq C (ztp u J m H hf hs) (D _ ⟨rfl⟩ (Mem.next_upd _ _ _) (At.upd_same ⟨rfl⟩ m))
theorem z05 {f:XO}{u:List XO}{fi ca vs:List LV}(H:GOn E g)(hf:xval E f=some (.func (.func gf) fi ca))(m:z0i E u=some vs)(h:zc P gf (fi++vs++ca) M fun w M'=>w=v/\M'=M)(J:XD P sz ld ((d,v)::E) M (M::st) (k+1) xs K):XD P sz ((⟨some d,.call f u,g⟩,.anchor)::ld) E M st k xs K :=
 zcp H hf m (Q:=fun w M'=>w=v/\M'=M) h fun w M' ⟨C,D⟩=>by subst C;subst D;exact J
theorem zx {f:XO}{u:List XO}{fi ca vs:List LV}(H:GOn E g)(hf:xval E f=some (.func (.func gf) fi ca))(m:z0i E u=some vs)(h:zc P gf (fi++vs++ca) M fun w M'=>w=v/\Grow M M')(J:∀ M',Grow M M'->M.next<=M'.next->XD P sz ld ((d,v)::E) M' (M'::st) (k+1) xs K):XD P sz ((⟨some d,.call f u,g⟩,.anchor)::ld) E M st k xs K :=
 zcp H hf m (Q:=fun w M'=>w=v/\Grow M M') h fun w M' ⟨D,C⟩=>by subst D;exact J M' C C.le
theorem zp {f:XO}{u:List XO}{C:LV}{vs:List LV}{Q:LV->Mem->Prop}(D:GOn E g)(hf:xval E f=some C)(m:z0i E u=some vs)(h:AppOk P C vs M Q)(H:∀ w M',Q w M'->XD P sz ld ((d,w)::E) M' (M'::st) (k+1) xs K):XD P sz ((⟨some d,.call f u,g⟩,.anchor)::ld) E M st k xs K:=zcp D hf m h H
theorem zr {f:XO}{u:List XO}{fi ca vs:List LV}(H:GOn E g)(hf:xval E f=some (.func (.func gf) fi ca))(m:z0i E u=some vs)(h:zc P gf (fi++vs++ca) M fun w M'=>w=v/\M'=M)(J:XD P sz ld ((d,v)::E) M st k xs K):XD P sz ((⟨some d,.call f u,g⟩,.new)::ld) E M st k xs K :=
 zho H hf m (Q:=fun w M'=>w=v/\M'=M) h fun w M' ⟨C,D⟩=>by subst C;subst D;exact J
theorem zm {f:XO}{u:List XO}{fi ca vs:List LV}(H:GOn E g)(hf:xval E f=some (.func (.func gf) fi ca))(m:z0i E u=some vs)(h:zc P gf (fi++vs++ca) M fun w M'=>w=v/\Grow M M')(J:∀ M',Grow M M'->M.next<=M'.next->XD P sz ld ((d,v)::E) M' st k xs K):XD P sz ((⟨some d,.call f u,g⟩,.new)::ld) E M st k xs K :=
 zho H hf m (Q:=fun w M'=>w=v/\Grow M M') h fun w M' ⟨D,C⟩=>by subst D;exact J M' C C.le
theorem zxf {i:XI}(h:GOff E g)(m:XD P sz ld ((d,.tup [])::E) M st k xs K):XD P sz ((⟨some d,i,g⟩,.reads lo hi)::ld) E M st k xs K:=zhp h ⟨rfl,rfl⟩ m
theorem zic {i:XI}(h:GOff E g)(m:XD P sz ld ((d,.tup [])::E) M st k xs K):XD P sz ((⟨some d,i,g⟩,.calm)::ld) E M st k xs K:=zhp h ⟨rfl,rfl⟩ m
theorem zkh {i:XI}(h:GOff E g)(m:XD P sz ld ((d,.tup [])::E) M st k xs K):XD P sz ((⟨some d,i,g⟩,.new)::ld) E M st k xs K:=zhp h ⟨rfl,rfl⟩ m
theorem zdh {i:XI}(h:GOff E g)(m:XD P sz ld ((d,.tup [])::E) M (M::st) (k+1) xs K):XD P sz ((⟨some d,i,g⟩,.anchor)::ld) E M st k xs K:=zhp h ⟨rfl,rfl⟩ m
theorem ztd {b:Bool}{i:XI}(m:look E t=some (.bool b))(h1:b=true->XW μ P sz (⟨dd,i,some (t,w)⟩::l) ((t,.bool true)::E) M K)(h:b=false->XW μ P sz (⟨dd,i,some (t,w)⟩::l) ((t,.bool false)::E) M K):XW μ P sz (⟨dd,i,some (t,w)⟩::l) E M K:=zpr m h1 h
theorem zrs {b:Bool}{i:XI}{kd:XK}(m:look E t=some (.bool b))(h1:b=true->XD P sz ((⟨dd,i,some (t,w)⟩,kd)::ld) ((t,.bool true)::E) M st k xs K)(h:b=false->XD P sz ((⟨dd,i,some (t,w)⟩,kd)::ld) ((t,.bool false)::E) M st k xs K):XD P sz ((⟨dd,i,some (t,w)⟩,kd)::ld) E M st k xs K:=zpg m h1 h
theorem zur (h:K E M)(m:ObAll st k xs):XD P sz [] E M st k xs K:=zw2 m h
end
theorem zv9 {a b A B:Int}(D:-A<=a/\a<=A)(H:-B<=b/\b<=B):-(A*B)<=a*b/\a*b<=A*B:=by
 have h:0<=A:=by omega
 have m:0<=B:=by omega
 have u:(a*b).natAbs<=A.natAbs*B.natAbs:=by
  rw[Int.natAbs_mul]
  exact Nat.mul_le_mul (by omega) (by omega)
 have C:((A.natAbs*B.natAbs:Nat):Int)=A*B:=by
  rw[Int.natCast_mul,Int.natAbs_of_nonneg h,Int.natAbs_of_nonneg m]
 omega
end PvL
end
section
namespace PvL
set_option linter.unusedSectionVars false
open Go
variable {l d:Nat} {ro:Option Nat}
section
variable {P:Program} [Orc P] {sz:Nat} {fn:FuncId} {E:Env} {ms:List Dfr} {M:Mem} {K:Ex->Env->List Dfr->Mem->Prop}
structure LoopSt (P:Program) [Orc P] (fn:FuncId) (sz:Nat) (E:Env) (ps:List Tmp) (a b:XC) (lb:LoopState->Option Code->LB):Prop where
 is:∃ T ca cb d,zt sz E T /\ zy P sz ca=some a /\ zy P sz cb=some b /\ (ps.all fun t=>Nat.ble (t+1) sz)=true /\ lb=fun st pend=>.loop st pend fn T ps ca cb d
def zipP:List Tmp->List LV->Env->Env
 | t::h,v::vs,E=>zipP h vs ((t,v)::E)
 | _,_,E=>E
def KIter (l:Nat)(lb:LoopState->Option Code->LB)(E:Env)(ms:List Dfr)(K:Ex->Env->List Dfr->Mem->Prop)(_:LV)(M:Mem):Prop :=
 ∃ st h,At M l (lb st h)/\st≠.busy /\ ∀ M',Upd M l (lb .exhausted h) M'->M'.next=M.next->At M' l (lb .exhausted h) ->
  match h with|none=>K .norm E ms M' | some .ret=>K .ret E ms M' | some (.exit id)=>K (.exit id) E ms M' | _=>False
def KRound (l:Nat)(lb:LoopState->Option Code->LB)(Q:LV->Mem->Prop)(e:Ex)(_:Env)(_:List Dfr)(M:Mem):Prop :=
 ∃ st h,At M l (lb st h) /\
  match e with
  | .norm=>∀ M',Upd M l (lb .ready none) M'->M'.next=M.next->At M' l (lb .ready none)->Q (.bool true) M'
  | .ret=>∀ M',Upd M l (lb .done (some .ret)) M'->M'.next=M.next->At M' l (lb .done (some .ret))->Q (.bool false) M'
  | .exit id=>∀ M',Upd M l (lb .done (some (.exit id))) M'->M'.next=M.next->At M' l (lb .done (some (.exit id)))->Q (.bool false) M'
def KAssign (μ:Md)(P:Program)[Orc P](fn:FuncId)(sz:Nat)(l:Nat)(lb:LoopState->Option Code->LB)(b:XC)(Q:LV->Mem->Prop)(e:Ex)(E:Env)(ms:List Dfr)(M:Mem):Prop :=
 e=.norm /\ ∃ h,At M l (lb .ready h) /\ ∀ M',Upd M l (lb .busy h) M'->M'.next=M.next->At M' l (lb .busy h)->W μ P fn (some l) sz b E ms M' (KRound l lb Q)
theorem z53:∀ {u:List Tmp} {vs:List LV} {E:Env} {T:Tm},zt sz E T->(u.all fun t=>Nat.ble (t+1) sz)=true->vs.length=u.length->∃ T',setParams u vs T=some T'/\zt sz (zipP u vs E) T'
 | [],[],E,T,h,_,_=>⟨T,rfl,h⟩
 | [],v::vs,E,T,h,_,m=>by cases m
 | t::N,[],E,T,h,_,m=>by cases m
 | t::N,v::vs,E,T,h,H,m=>by
  simp only[List.all_cons,Bool.and_eq_true] at H
  obtain⟨O,h1,C⟩:=h.cons (d:=t) (by have:=H.1;rw[Nat.ble_eq] at this;exact this) v
  obtain⟨J,L,D⟩:=z53 C H.2 (by simpa using m)
  exact⟨J,by show ob (T.set t v) _=_;rw[h1];exact L,D⟩
theorem zr0 {α:Type}{lb:LoopState->Option Code->LB}{u:List Tmp}{a b:XC}(C:LoopSt P fn sz E u a b lb){st:LoopState}{h:Option Code}(N:At M l (lb st h)) :
  ∃ T ca m d,zt sz E T/\zy P sz ca=some a/\zy P sz m=some b/\(u.all fun t=>Nat.ble (t+1) sz)=true/\(∀ st h,lb st h=.loop st h fn T u ca m d) /\
   ∀(k:LoopState->Option Code->FuncId->Tm->List Tmp->Code->Code->Nat->Option α),atLoop M l k=k st h fn T u ca m d:=by
 obtain⟨T,ca,m,d,D,H,J,L,rfl⟩:=C.is
 refine⟨T,ca,m,d,D,H,J,L,fun _ _=>rfl,fun k=>?_⟩
 unfold atLoop
 rw[N.1];rfl
theorem z9n {α:Type}{lb:LoopState->Option Code->LB}{T:Tm}{C:List Tmp}{ca u:Code}(m:∀ st h,lb st h=.loop st h fn T C ca u d){st:LoopState}{h:Option Code}(D:At M l (lb st h))(k:LoopState->Option Code->FuncId->Tm->List Tmp->Code->Code->Nat->Option α):atLoop M l k=k st h fn T C ca u d:=by
 unfold atLoop
 rw[D.1,m];rfl
theorem z5e {lb:LoopState->Option Code->LB}{R:List Tmp}{a b:XC}(a0:LoopSt P fn sz E R a b lb){O:Option Code}(ha:At M l (lb .ready O)){args:List LV}(hn:args.length=R.length){Q:LV->Mem->Prop}(h:W .det P fn (some l) sz a (zipP R args E) [] M (KAssign .det P fn sz l lb b Q)):RoundOk P l args M Q:=by
 obtain⟨T,ca,U,d,h1,h2,h3,h4,h5,h6⟩:=zr0 (α:=Out) a0 ha
 obtain⟨T1,h7,h8⟩:=z53 h1 h4 hn
 obtain⟨e,T2,a1,S,h9,E2,V,X⟩:=h ca T1 h2 h8
 obtain⟨rfl,m,N,Y⟩:=X
 have hu:Upd S l (lb .busy m) (S.upd l (some (lb .busy m))):=⟨rfl⟩
 obtain⟨L,T3,a4,J,Z,E3,a3,a5,a2,C,D⟩:=Y _ hu (Mem.next_upd _ _ _) (At.upd_same hu N) U T2 h3 V
 have H:∀ v M',roundEnd l L J=some (.call v M')->om P (.round l args M)=some (.call v M'):=fun v M' hv=>by
  rw[zof]
  show atLoop M l _=_
  rw[h6]
  show ob (setParams R args T) _=_
  rw[h7,z8,h9]
  show atLoop S l _=_
  rw[z9n h5 N]
  show z1k (om P (.code fn (some l) U T2 a1 (S.upd l (some (LB.loop .busy m fn T R ca U d))))) _ _=_
  rw[<-h5,Z];exact hv
 have u:∀(o:Option Out),(match L with | .norm=>some (Out.call (.bool true) (J.upd l (some (lb .ready none)))) | .ret=>some (Out.call (.bool false) (J.upd l (some (lb .done (some .ret))))) | .exit id=>some (Out.call (.bool false) (J.upd l (some (lb .done (some (.exit id)))))))=o->roundEnd l L J=o:=fun o ho=>by
  rw[<-ho]
  unfold roundEnd
  rw[z9n h5 C]
  cases L<;>simp only[h5]<;>rfl
 cases L with
 | norm=>exact⟨_,_,H _ _ (u _ rfl),D _ ⟨rfl⟩ (Mem.next_upd _ _ _) (At.upd_same ⟨rfl⟩ C)⟩
 | ret=>exact⟨_,_,H _ _ (u _ rfl),D _ ⟨rfl⟩ (Mem.next_upd _ _ _) (At.upd_same ⟨rfl⟩ C)⟩
 | exit id=>exact⟨_,_,H _ _ (u _ rfl),D _ ⟨rfl⟩ (Mem.next_upd _ _ _) (At.upd_same ⟨rfl⟩ C)⟩
theorem zqe {T:Tm}{lb:LoopState->Option Code->LB}{T':Tm}{O:List Tmp}{ca J:Code}(h5:∀ st m,lb st m=.loop st m fn T' O ca J d)(C:zt sz E T){v:LV}(h:KIter l lb E ms K v M) :
  ∃ e T' ms' M',rfEnd (om P) fn ro l T ms M=some (.code e T' ms' M') /\ ∃ D,zt sz D T'/\K e D ms' M':=by
 obtain⟨st,m,H,L,u⟩:=h
 have u:=u _ ⟨rfl⟩ (Mem.next_upd _ _ _) (At.upd_same ⟨rfl⟩ H)
 unfold rfEnd
 rw[z9n h5 H]
 have N:∀ {α:Type} (k:Option α),notBusy st k=k:=fun k=>by cases st<;>first|rfl|exact absurd rfl L
 rw[N]
 unfold rfFin
 cases m with
 | none=>rw[z47,<- h5];exact⟨.norm,T,ms,_,rfl,E,C,u⟩
 | some c=>
  rw[z2j,<- h5]
  cases c with
  | ret=>exact⟨.ret,T,ms,_,by rw[z50];rfl,E,C,u⟩
  | exit id=>exact⟨.exit id,T,ms,_,by rw[z50];rfl,E,C,u⟩
  | _=>exact u.elim
theorem zan {code:Code}{f:XO}{u:List Tmp}{a b:XC}(h:zy P sz code=some (.rfun f u a b)):∃ f' m a' b',code=.rangeFunc f' m a' b'/\cX f'=some f/\m.toList=u/\zy P sz a'=some a/\zy P sz b'=some b/\(u.all fun t=>Nat.ble (t+1) sz)=true:=by
 cases code with
 | rangeFunc f' m a' b'=>
  simp only[zy] at h
  split at h
  ·rename_i C D H J;cases h;exact⟨f',m,a',b',rfl,C,rfl,D,H,J⟩
  ·cases h
 | region _ _ d=>cases d<;>simp only[zy] at h<;>(repeat' split at h)<;>cases h
 | skip|label|ret|goto|refuse|exit=>cases h
 | _=>simp only[zy] at h;split at h<;>cases h
theorem zsx {f:XO}{u:List Tmp}{a b:XC}{gf:FuncId}{fi ca:List LV}(hf:xval E f=some (.func (.func gf) fi ca)){f':Operand}{C:Array Tmp}{a' b':Code}{T:Tm}(h1:cX f'=some f)(N:C.toList=u)(O:zy P sz a'=some a)(Q:zy P sz b'=some b)(h5:(u.all fun t=>Nat.ble (t+1) sz)=true)(H:zt sz E T)(d:Nat)(h:∀ lb l D,LoopSt P fn sz E u a b lb->New M l (lb .ready none) D->l=M.next->D.next=M.next+1->zc P gf (fi++[.func (.yield l) [] []]++ca) D (KIter l lb E ms K)) :
  ∃ e T' ms' M',rfCall (om P) fn ro f' C a' b' d T ms M=some (.code e T' ms' M') /\ ∃ L,zt sz L T'/\K e L ms' M':=by
 have J:LoopSt P fn sz E u a b (fun st m=>.loop st m fn T u a' b' d):=⟨T,a',b',d,H,O,Q,h5,rfl⟩
 obtain⟨v,U,R,S⟩:=h _ M.next _ J ⟨rfl,rfl⟩ rfl rfl
 unfold rfCall
 rw[Mem.new_eq,z08 H h1 hf,z8,N]
 show ∃ e T' ms' M',z15 (om P _) _ _=_/\_
 rw[R]
 exact zqe (fun _ _=>rfl) H S
theorem zeo {f:XO}{H:List Tmp}{a b:XC}{gf:FuncId}{fi ca:List LV}(hf:xval E f=some (.func (.func gf) fi ca))(h:∀ lb d l m u,LoopSt P fn sz E H a b lb->New M d .defr m->d=M.next->m.next=M.next+1->New m l (lb .ready none) u->l=m.next->u.next=m.next+1 ->
   zc P gf (fi++[.func (.yield l) [] []]++ca) u (KIter l lb E (.mark d::ms) K)):W .det P fn none sz (.rfun f H a b) E ms M K:=w_of fun code T V X=>by
 obtain⟨f',D,J,L,rfl,Q,R,S,U,h5⟩:=zan V
 show ∃ e T' Z M',cRangeFunc (om P) fn none f' D J L T ms M=_/\_
 unfold cRangeFunc
 rw[z47,Mem.new_eq]
 exact zsx hf Q R S U h5 X M.next fun lb l u C Y N O=>h lb M.next l _ u C ⟨rfl,rfl⟩ rfl rfl Y N O
theorem zh2 {μ:Md}{lb:LoopState->Option Code->LB}{b:XC}{Q:LV->Mem->Prop}{m:Option Code}(u:At M l (lb .ready m))(h:∀ M',Upd M l (lb .busy m) M'->M'.next=M.next->At M' l (lb .busy m)->W μ P fn (some l) sz b E ms M' (KRound l lb Q)):KAssign μ P fn sz l lb b Q .norm E ms M:=⟨rfl,m,u,h⟩
theorem zl1 {lb:LoopState->Option Code->LB}{Q:LV->Mem->Prop}{st:LoopState}{m:Option Code}(u:At M l (lb st m))(h:∀ M',Upd M l (lb .ready none) M'->M'.next=M.next->At M' l (lb .ready none)->Q (.bool true) M'):KRound l lb Q .norm E ms M:=⟨st,m,u,h⟩
theorem z9e {lb:LoopState->Option Code->LB}{Q:LV->Mem->Prop}{st:LoopState}{m:Option Code}(u:At M l (lb st m))(h:∀ M',Upd M l (lb .done (some .ret)) M'->M'.next=M.next->At M' l (lb .done (some .ret))->Q (.bool false) M'):KRound l lb Q .ret E ms M:=⟨st,m,u,h⟩
def Yields (P:Program)[Orc P](gf:FuncId)(fi ca:List LV)(S:Nat->Prop)(xs:List (List LV))(M0:Mem):Prop :=
 ∀(l:Nat) (A:Nat->Prop) (I:Nat->Mem->Prop) (D:Mem->Prop),
  (∀ i,A i->i<M0.next)->(∀ i,S i->¬ A i) ->
  (∀ k M M',I k M->M.next<=M'.next->(∀ i,i<M0.next->M'.get i=M.get i)->I k M') ->
  (∀ M M',D M->M.next<=M'.next->(∀ i,i<M0.next->M'.get i=M.get i)->D M') ->
  (∀ k x,xs[k]?=some x->∀ M,M0.next<=M.next->I k M->RoundOk P l x M fun v M'=>Keep A M M'/\((v=.bool true/\I (k+1) M') ∨(v=.bool false/\D M'))) ->
  I 0 M0->zc P gf (fi++[.func (.yield l) [] []]++ca) M0 fun _ M'=>Keep A M0 M'/\(I xs.length M'∨D M')
end
abbrev I (n:Int):LV:=.int .i64 n
theorem zl9 {X Y:Prop}[Decidable X][Decidable Y](h:X↔Y):packed [LV.bool (decide X)]=LV.bool (decide Y):=congrArg LV.bool (decide_eq_decide.2 h)
theorem lb_f {Y:Prop}[Decidable Y](h:¬ Y):packed [LV.bool false]=LV.bool (decide Y):=congrArg LV.bool (decide_eq_false h).symm
theorem lb_t {Y:Prop}[Decidable Y](h:Y):packed [LV.bool true]=LV.bool (decide Y):=congrArg LV.bool (decide_eq_true h).symm
theorem resN {E:Env}{M:Mem}{t n i o:Nat}{l:List LV}{m:List XR}{vs:List LV}(h:look E t=some (.ptr (some (i,o))))(C:Rd M i o n l)(u:ResX E M m vs):ResX E M (.cellN t n::m) (.agg l::vs):=.cellN h C.1 u
end PvL
end
section
namespace PvL
set_option linter.unusedSectionVars false
open Go
variable {μ:Md}
variable {ms:List Nat} {n:Nat}
section
variable {M M' M0:Mem} {i j n o:Nat} {lb lb':LB} {F G:Nat->Prop}
theorem At.same (u:At M i lb)(m:M.next<=M'.next)(h:M'.get i=M.get i):At M' i lb:=⟨by rw[h];exact u.1,Nat.lt_of_lt_of_le u.2 m⟩
theorem At.lt (h:At M i lb):i<M.next:=h.2
theorem Keep.refl (F:Nat->Prop)(M:Mem):Keep F M M:=⟨Nat.le_refl _,fun _ _ _=>rfl⟩
theorem Keep.trans (h:Keep F M0 M)(u:Keep G M M')(D:∀ i,G i->F i∨M0.next<=i):Keep F M0 M' :=
 ⟨Nat.le_trans h.le u.le,fun i hi C=>by
  rw[u.old i (Nat.lt_of_lt_of_le hi h.le) (fun m=>(D i m).elim C (fun H=>absurd hi (by omega)))]
  exact h.old i hi C⟩
theorem Keep.weaken (h:Keep F M M')(C:∀ i,F i->G i):Keep G M M':=⟨h.le,fun i hi u=>h.old i hi fun m=>u (C i m)⟩
theorem Keep.new (h:Keep F M0 M)(m:New M n lb M'):Keep F M0 M' :=
 ⟨by rw[m.next];exact Nat.le_succ_of_le h.le,fun i hi u=>by rw[m.grow.old i (Nat.lt_of_lt_of_le hi h.le)];exact h.old i hi u⟩
theorem Keep.upd (h:Keep F M0 M)(m:Upd M i lb M')(hi:F i∨M0.next<=i):Keep F M0 M' :=
 ⟨by rw[m.next];exact h.le,fun j C u=>by
  rw[z3q m (fun e=>by subst e;exact hi.elim u (fun D=>absurd C (by omega)))];exact h.old j C u⟩
theorem Keep.grow (h:Keep F M0 M)(m:Grow M M'):Keep F M0 M' :=
 ⟨Nat.le_trans h.le m.le,fun i hi u=>by rw[m.old i (Nat.lt_of_lt_of_le hi h.le)];exact h.old i hi u⟩
theorem Keep.to_grow (h:Keep F M0 M)(m:∀ i,F i->M0.next<=i):Grow M0 M:=⟨h.le,fun i hi=>h.old i hi fun u=>absurd (m i u) (by omega)⟩
theorem Grow.to_keep (h:Grow M M')(F:Nat->Prop):Keep F M M':=⟨h.le,fun i hi _=>h.old i hi⟩
theorem Keep.at {F:Nat->Prop}(h:Keep F M M')(m:At M i lb)(hf:¬ F i):At M' i lb:=m.keep h hf
@[reducible,simp] def dnat:List Dfr->List Nat
 | []=>[]
 | .mark d::ds=>d::dnat ds
 | .call _ _::ds=>dnat ds
@[reducible,simp] def onlyMarks:List Dfr->Bool
 | []=>true
 | .mark _::ds=>onlyMarks ds
 | .call _ _::_=>false
theorem zh7:∀ {ms:List Dfr} {M:Mem},onlyMarks ms=true->(dnat ms).Nodup->(∀ d∈dnat ms,At M d .defr)->∃ M',Marks ms M M'/\M'.next=M.next /\ ∀ i,i∉dnat ms->M'.get i=M.get i
 | [],M,_,_,_=>⟨M,rfl,rfl,fun _ _=>rfl⟩
 | .call _ _::_,_,H,_,_=>by cases H
 | .mark d::ds,M,H,u,C=>by
  have u:(d::dnat ds).Nodup:=u
  have C:∀ e∈d::dnat ds,At M e .defr:=C
  rw[List.nodup_cons] at u
  have N:=C d List.mem_cons_self
  have m:∀ i,i≠d->(M.upd d none).get i=M.get i:=fun i hi=>by rw[Mem.get_upd,if_neg hi]
  obtain⟨M',O,h5,Q⟩:=zh7 (ms:=ds) (M:=M.upd d none) H u.2 (fun e J=>by
   have L:=C e (List.mem_cons_of_mem _ J)
   have D:e≠d:=fun h=>by subst h;exact u.1 J
   exact⟨by rw[m e D];exact L.1,by rw[Mem.next_upd];exact L.2⟩)
  refine⟨M',⟨N.1,O⟩,by rw[h5,Mem.next_upd],fun i hi=>?_⟩
  have hi:i∉d::dnat ds:=hi
  rw[Q i (fun h=>hi (List.mem_cons_of_mem _ h)),m i (fun h=>hi (by rw[h];exact List.mem_cons_self))]
structure Unmark (ms:List Nat) (M M':Mem):Prop where
 next:M'.next=M.next
 get:∀ i,i ∉ ms->M'.get i=M.get i
theorem Keep.unmark (h:Keep F M0 M)(u:Unmark ms M M')(m:∀ d∈ms,F d∨M0.next<=d):Keep F M0 M' :=
 ⟨by rw[u.next];exact h.le,fun i hi C=>by rw[u.get i (fun H=>(m i H).elim C fun D=>absurd D (by omega))];exact h.old i hi C⟩
theorem Grow.unmark (h:Grow M0 M)(u:Unmark ms M M')(m:∀ d∈ms,M0.next<=d):Grow M0 M' :=
 ⟨by rw[u.next];exact h.le,fun i hi=>by rw[u.get i (fun C=>absurd (m i C) (by omega))];exact h.old i hi⟩
theorem At.unmark (h:Unmark ms M M')(hi:i∉ms)(m:At M i lb):At M' i lb:=m.same (by rw[h.next];exact Nat.le_refl _) (h.get i hi)
end
section
variable {P:Program} [Orc P] {sz:Nat} {fn:FuncId} {E:Env} {ms:List Dfr} {M:Mem}
theorem z1y {res:List XR}{Q:LV->Mem->Prop}{e:Ex}(J:e=.norm∨e=.ret)(L:(dnat ms).Nodup)(H:∀ d∈dnat ms,At M d .defr)(h:∀ M',Unmark (dnat ms) M M'->∃ vs,ResX E M' res vs/\Q (packed vs) M')(N:onlyMarks ms=true:=by rfl):KFun res Q e E ms M:=by
 obtain⟨M',m,C,D⟩:=zh7 N L H
 obtain⟨vs,h5,u⟩:=h M' ⟨C,D⟩
 rcases J with rfl|rfl
 ·exact⟨M',m,vs,h5,u⟩
 ·exact⟨M',m,vs,h5,u⟩
def KStep (Inv:Nat->Env->List Dfr->Mem->Prop)(n:Nat)(K:Ex->Env->List Dfr->Mem->Prop)(e:Ex)(E:Env)(ms:List Dfr)(M:Mem):Prop :=
 match e with | .norm=>∃ m,m<n/\Inv m E ms M | .ret=>K .ret E ms M | .exit id=>K (.exit id) E ms M
theorem zg {ro:Option Nat}{b:XC}{K:Ex->Env->List Dfr->Mem->Prop}(Inv:Nat->Env->List Dfr->Mem->Prop)(hstep:∀ n E ms M,Inv n E ms M->W μ P fn ro sz b E ms M (KStep Inv n K)) :
  ∀ n E ms M,Inv n E ms M->W μ P fn ro sz (.loop b) E ms M K:=by
 intro n
 induction n using Nat.strongRecOn with
 | ind n H=>
  intro E ms M h
  refine zqm (z2k (hstep n E ms M h) fun e E ms M u=>?_)
  cases e with
  | norm=>obtain⟨m,C,D⟩:=u;exact H m C E ms M D
  | ret=>exact u
  | exit i=>exact u
theorem zi {Inv:Nat->Env->List Dfr->Mem->Prop}{K:Ex->Env->List Dfr->Mem->Prop}(m:Nat)(u:m<n)(h:Inv m E ms M):KStep Inv n K .norm E ms M:=⟨m,u,h⟩
theorem zb1 {Inv:Nat->Env->List Dfr->Mem->Prop}{K:Ex->Env->List Dfr->Mem->Prop}(h:K .ret E ms M):KStep Inv n K .ret E ms M:=h
theorem z9f {Inv:Nat->Env->List Dfr->Mem->Prop}{i:Nat}{K:Ex->Env->List Dfr->Mem->Prop}(h:K (.exit i) E ms M):KStep Inv n K (.exit i) E ms M:=h
end
section
variable {l:Nat} {lb:LoopState->Option Code->LB} {E:Env} {ms:List Dfr} {K:Ex->Env->List Dfr->Mem->Prop} {v:LV} {M:Mem} {st:LoopState}
theorem z9c (u:At M l (lb st none))(m:st≠.busy)(h:∀ M',Upd M l (lb .exhausted none) M'->M'.next=M.next->At M' l (lb .exhausted none)->K .norm E ms M'):KIter l lb E ms K v M:=⟨st,none,u,m,h⟩
theorem z77 (u:At M l (lb st (some .ret)))(m:st≠.busy)(h:∀ M',Upd M l (lb .exhausted (some .ret)) M'->M'.next=M.next->At M' l (lb .exhausted (some .ret))->K .ret E ms M'):KIter l lb E ms K v M:=⟨st,some .ret,u,m,h⟩
end
def MkAt (V:Nat->LV)(lb:LB)(M:Mem)(w:LV)(M':Mem):Prop:=∃ p,w=V p/\At M' p lb/\M.next<=p/\p<M'.next/\Grow M M'
section
variable {P:Program} [Orc P] {sz:Nat} {E:Env} {M:Mem} {K:Env->Mem->Prop} {l:List XG} {d:Nat} {g:Option (Nat × Bool)} {st:List Mem} {k:Nat} {xs:List (Nat × Nat × (Mem->Prop))} {ld:List (XG × XK)}
theorem za8 {f:XO}{u:List XO}{gf:FuncId}{fi ca vs:List LV}{V:Nat->LV}{lb:LB}(L:GOn E g)(hf:xval E f=some (.func (.func gf) fi ca))(m:z0i E u=some vs)(h:zc P gf (fi++vs++ca) M (MkAt V lb M))(N:∀ p M',At M' p lb->M.next<=p->p<M'.next->Grow M M'->M.next<=M'.next->XW μ P sz l ((d,V p)::E) M' K):XW μ P sz (⟨some d,.call f u,g⟩::l) E M K :=
 zab L hf m (Q:=MkAt V lb M) h fun w M' ⟨p,C,D,H,J,h5⟩=>by subst C;exact N p M' D H J h5 h5.le
theorem z8u {f:XO}{u:List XO}{gf:FuncId}{fi ca vs:List LV}{V:Nat->LV}{lb:LB}(L:GOn E g)(hf:xval E f=some (.func (.func gf) fi ca))(m:z0i E u=some vs)(h:zc P gf (fi++vs++ca) M (MkAt V lb M))(N:∀ p M',At M' p lb->M.next<=p->p<M'.next->Grow M M'->M.next<=M'.next->XD P sz ld ((d,V p)::E) M' (M'::st) (k+1) xs K):XD P sz ((⟨some d,.call f u,g⟩,.anchor)::ld) E M st k xs K :=
 zcp L hf m (Q:=MkAt V lb M) h fun w M' ⟨p,C,D,H,J,h5⟩=>by subst C;exact N p M' D H J h5 h5.le
end
end PvL
end
section
namespace PvL
set_option linter.unusedSectionVars false
open Go
variable {μ:Md}
variable {n sz i o e len by' q:Nat} {f own:Bool}
structure Kill (M:Mem) (j:Nat) (n:Nat) (lb:LB) (M':Mem):Prop where
 eq:M'=(M.upd j none).push lb
 name:n=M.next
section
variable {M M' M0:Mem} {i j n o:Nat} {lb lb':LB} {F G:Nat->Prop}
theorem Kill.next (h:Kill M j n lb M'):M'.next=M.next+1:=by rw[h.eq];show(M.upd j none).next+1=_;rw[Mem.next_upd]
theorem Kill.same (h:Kill M j n lb M'):At M' n lb:=by
 refine⟨?_,by rw[h.next,h.name];omega⟩
 rw[h.eq,h.name,Mem.get_push,Mem.next_upd,if_pos rfl]
theorem Kill.keep (h:Kill M j n lb M'):Keep (fun i=>i=j) M M':=by
 refine⟨by rw[h.next];omega,fun i hi m=>?_⟩
 rw[h.eq,Mem.get_push,Mem.next_upd,if_neg (by omega),Mem.get_upd,if_neg m]
theorem Keep.to_grow' {m:Mem}(h:Grow M0 M)(u:Keep F M m)(C:∀ i,F i->M0.next<=i):Grow M0 m :=
 ⟨Nat.le_trans h.le u.le,fun i hi=>by rw[u.old i (Nat.lt_of_lt_of_le hi h.le) (fun D=>absurd (C i D) (by omega))];exact h.old i hi⟩
end
theorem zbl {l:List LV}(h:n<=l.length):take' n l=some (l.take n):=z2p.2 ⟨h,rfl⟩
theorem z2g {M:Mem}{cs:List LV}{ty:TypeId}(u:At M i (.cells own cs ty))(h:o+n*sz<=cs.length) :
  zz sz n (.slice (some (i,o)) len f e) M=some ((cs.drop o).take (n*sz)):=by
 show ifb (Nat.beq n 0) (some []) (loadN M i o (n*sz))=_
 by_cases m:n=0
 ·subst m
  rw[show Nat.beq 0 0=true from rfl,zq,Nat.zero_mul,List.take_zero]
 ·rw[show Nat.beq n 0=false by cases C:Nat.beq n 0 with|false=>rfl|true=>exact absurd (Nat.eq_of_beq_eq_true C) m,ze]
  unfold loadN atCells
  rw[u.1,z8]
  show take' (n*sz) (drop' o cs)=_
  rw[z1r,zbl (by rw[List.length_drop];omega)]
theorem z1g {α:Type}{enc:α->List LV}{l:List α}{M:Mem}(u:∀ x∈l,(enc x).length=sz)(h:∀ k (m:k<l.length),Rd M i (o+k*sz) sz (enc l[k])):zz sz l.length (.slice (some (i,o)) len f e) M=some (l.flatMap enc):=by
 cases l with
 | nil=>rfl
 | cons x xs=>
  obtain⟨N,hi⟩:=h 0 (by simp)
  unfold loadN atCells at N
  obtain⟨lb,H,R⟩:=z9.1 N
  cases lb with
  | cells own cs ty=>
   have S:At M i (.cells own cs ty):=⟨H,hi⟩
   have D:∀ k (m:k <(x::xs).length),o+k*sz+sz<=cs.length/\(cs.drop (o+k*sz)).take sz=enc (x::xs)[k]∨sz=0:=fun k m=>by
    obtain⟨g0,_⟩:=h k m
    unfold loadN atCells at g0
    rw[H,z8] at g0
    have g0:take' sz (drop' (o+k*sz) cs)=some (enc (x::xs)[k]):=g0
    obtain⟨Q,L⟩:=z2p.1 g0
    rw[z1r,List.length_drop] at Q
    rw[z1r] at L
    by_cases hz:sz=0
    ·exact .inr hz
    ·exact .inl ⟨by omega,L.symm⟩
   by_cases hz:sz=0
   ·subst hz
    have O:(x::xs).flatMap enc=[]:=by
     rw[List.flatMap_eq_nil_iff]
     intro y U
     exact List.eq_nil_of_length_eq_zero (u y U)
    rw[O]
    show ifb (Nat.beq (x::xs).length 0) (some []) (loadN M i o ((x::xs).length*0))=_
    rw[show Nat.beq (x::xs).length 0=false from rfl,ze,Nat.mul_zero]
    unfold loadN atCells
    rw[H,z8];rfl
   ·have D:∀ k (m:k <(x::xs).length),o+k*sz+sz<=cs.length/\(cs.drop (o+k*sz)).take sz=enc (x::xs)[k]:=fun k m=>(D k m).resolve_right hz
    have C:o+(x::xs).length*sz<=cs.length:=by
     have:=(D xs.length (by simp)).1
     simp only[List.length_cons,Nat.add_mul,Nat.one_mul];omega
    rw[z2g S C]
    congr 1
    have J:∀ n,n<=(x::xs).length->(cs.drop o).take (n*sz)=((x::xs).take n).flatMap enc:=by
     intro n
     induction n with
     | zero=>intro _;simp
     | succ n V=>
      intro X
      rw[Nat.add_mul,Nat.one_mul,List.take_add,V (by omega),List.drop_drop,(D n (by omega)).2,List.take_succ_eq_append_getElem (by omega),List.flatMap_append]
      simp
    have:=J (x::xs).length (Nat.le_refl _)
    rw[List.take_length] at this
    exact this
  | _=>cases R
section
variable {P:Program} [Orc P] {sz:Nat} {E:Env} {M:Mem} {K:Env->Mem->Prop} {l:List XG} {d:Nat} {g:Option (Nat × Bool)} {s x a y z':XO} {i o n t:Nat} {v:LV} {ls:List LV}
 {st:List Mem} {k:Nat} {xs:List (Nat × Nat × (Mem->Prop))} {ld:List (XG × XK)}
theorem beq0 (h:0<n):Nat.beq n 0=false:=by cases m:Nat.beq n 0 with|false=>rfl|true=>exact absurd (Nat.eq_of_beq_eq_true m) (by omega)
theorem zgc (h:(2*(len+n)+2048)*by'<=140737488355328):(5*(len+n)/4+2048)*by'<=281474976710656:=by
 have:(5*(len+n)/4+2048)*by'<=(2*(len+n)+2048)*by':=Nat.mul_le_mul_right _ (by omega)
 omega
theorem z3t {z:List LV}{aa:Option (Nat×Nat)}{es:Nat}{xv:LV}{old new:List LV}(hs:xval E s=some (.slice aa len f es))(J:xval E x=some xv)(C:z0x xv=some n)(m:0<n)(u:(2*(len+n)+2048)*by'<=140737488355328)(hz:(Nat.ble 1 q&&(Nat.ble 1 by'&&Nat.beq z.length q))=true)(D:zz q len (.slice aa len f es) M=some old)(H:zz q n xv M=some new)(hf:zn new=true)(h:aa=none∨f=true):zl P (.app e q by' z s x) E M=some (.val (.slice (some (M.next,0)) (len+n) false q) (M.push (.cells true (old++new) (apE e)))):=by
 show ob (xval E s) _=_
 rw[hs,z8,J,z8]
 show ob (z0x xv) _=_
 rw[C,z8,beq0 m,ze,hz,Nat.ble_eq_true_of_le (zgc u)]
 show ob (zz q len _ M) _=_
 rw[D,z8,H,z8,hf,zb]
 rcases h with rfl|rfl
 ·rfl
 ·cases aa<;>rfl
theorem z4g {z:List LV}{j off:Nat}{xv:LV}{old new cs:List LV}{ty:TypeId}(hs:xval E s=some (.slice (some (j,off)) len false q))(L:xval E x=some xv)(D:z0x xv=some n)(m:0<n)(C:(2*(len+n)+2048)*by'<=140737488355328)(hz:(Nat.ble 1 q&&(Nat.ble 1 by'&&Nat.beq z.length q))=true)(H:zz q len (.slice (some (j,off)) len false q) M=some old)(J:zz q n xv M=some new)(hf:zn new=true)(u:At M j (.cells true cs ty))(h:(Nat.beq ty e||Nat.beq ty (apE e))=true:=by rfl):zl P (.app e q by' z s x) E M=some (.val (.slice (some (M.next,0)) (len+n) false q) ((M.upd j none).push (.cells true (old++new) (apE e)))):=by
 show ob (xval E s) _=_
 rw[hs,z8,L,z8]
 show ob (z0x xv) _=_
 rw[D,z8,beq0 m,ze,hz,Nat.ble_eq_true_of_le (zgc C)]
 show ob (zz q len _ M) _=_
 rw[H,z8,J,z8,hf,zb]
 show guard' (Nat.beq q q) (atCells M j _)=_
 rw[show Nat.beq q q=true by simp,zb]
 unfold atCells
 rw[u.1,z8]
 show guard' (true&&(Nat.beq ty e||Nat.beq ty (apE e))) _=_
 rw[h,Bool.and_self,zb]
 show some (R1.val (.slice (some ((M.upd j none).next,0)) _ _ _) _)=_
 rw[Mem.next_upd]
theorem zg2 {i:XI}{v:LV}{M':Mem}(h:GOn E g)(hs:zl P i E M=some (.val v M'))(m:XW μ P sz l ((d,v)::E) M' K):XW μ P sz (⟨some d,i,g⟩::l) E M K:=z2m h hs m
theorem zw0 {i:XI}{M':Mem}(h:GOn E g)(hs:zl P i E M=some (.skip M'))(m:XW μ P sz l E M' K):XW μ P sz (⟨none,i,g⟩::l) E M K:=zmy h hs m
theorem zpz {i:XI}{v:LV}{M':Mem}(h:GOn E g)(hs:zl P i E M=some (.val v M'))(m:XD P sz ld ((d,v)::E) M' (M'::st) (k+1) xs K):XD P sz ((⟨some d,i,g⟩,.anchor)::ld) E M st k xs K:=zmo h hs m
end
def Put1 (v:LV)(p:Nat)(lb:LB)(M:Mem)(w:LV)(M':Mem):Prop:=w=v/\Keep (fun i=>i=p) M M'/\At M' p lb
section
variable {P:Program} [Orc P] {sz:Nat} {E:Env} {M:Mem} {K:Env->Mem->Prop} {l:List XG} {d:Nat} {g:Option (Nat × Bool)} {st:List Mem} {k:Nat} {xs:List (Nat × Nat × (Mem->Prop))} {ld:List (XG × XK)}
end
section
variable {P:Program} {κ β:Type} [DecidableEq κ] {ek:κ->LV} {ev:β->LV} {kt:TypeId}
def encM (ek:κ->LV)(ev:β->LV)(L:List (κ×β)):List (LV×LV):=L.map fun p=>(ek p.1,ev p.2)
end
def Vec {α:Type}(b sz:Nat)(ty:TypeId)(enc:α->List LV)(M:Mem)(v:LV)(l:List α):Prop :=
 (l=[]/\v=.slice none 0 true 0) ∨ ∃ i,v=.slice (some (i,0)) l.length false sz/\At M i (.cells true (l.flatMap enc) (apE ty))/\b<=i
section
variable {α:Type} {b sz:Nat} {ty:TypeId} {enc:α->List LV} {M M':Mem} {v:LV} {l:List α}
theorem Vec.nil:Vec b sz ty enc M (.slice none 0 true 0) []:=.inl ⟨rfl,rfl⟩
theorem Vec.grow (h:Vec b sz ty enc M v l)(D:Grow M M'):Vec b sz ty enc M' v l:=h.imp id fun⟨i,m,u,C⟩=>⟨i,m,u.grow D,C⟩
theorem Vec.keep {F:Nat->Prop}(h:Vec b sz ty enc M v l)(J:Keep F M M')(D:∀ i,F i->i<b):Vec b sz ty enc M' v l :=
 h.imp id fun⟨i,m,u,C⟩=>⟨i,m,u.keep J (fun H=>by have:=D i H;omega),C⟩
theorem Vec.shape (h:Vec b sz ty enc M v l):∃ a f e,v=.slice a l.length f e:=by
 rcases h with⟨rfl,rfl⟩|⟨i,rfl,_⟩
 ·exact⟨_,_,_,rfl⟩
 ·exact⟨_,_,_,rfl⟩
theorem z17 {l:List α}(h:∀ x∈l,(enc x).length=sz):(l.flatMap enc).length=l.length*sz:=by
 induction l with
 | nil=>simp
 | cons x xs u=>
  rw[List.flatMap_cons,List.length_append,h x List.mem_cons_self,u (fun y m=>h y (List.mem_cons_of_mem _ m)),List.length_cons,Nat.add_mul,Nat.one_mul,Nat.add_comm]
theorem zif {l:List α}(h:∀ x∈l,(enc x).length=sz):∀ {k:Nat} (m:k<l.length),((l.flatMap enc).drop (k*sz)).take sz=enc l[k]:=by
 induction l with
 | nil=>intro k m;cases m
 | cons x xs C=>
  intro k m
  have D:=h x List.mem_cons_self
  cases k with
  | zero=>
   rw[Nat.zero_mul,List.drop_zero,List.flatMap_cons,List.take_append_of_le_length (by omega),List.take_of_length_le (by omega)];rfl
  | succ k=>
   rw[List.flatMap_cons,Nat.add_mul,Nat.one_mul,Nat.add_comm,<- List.drop_drop,List.drop_append_of_le_length (by omega),List.drop_of_length_le (l:=enc x) (by omega),List.nil_append]
   exact C (fun y u=>h y (List.mem_cons_of_mem _ u)) (by simpa using m)
theorem z18 (u:At M i (.cells own (l.flatMap enc) ty))(h:∀ x∈l,(enc x).length=sz){k:Nat}(m:k<l.length):Rd M i (0+k*sz) sz (enc l[k]):=by
 refine Rd.of_at u ?_
 have C:k*sz+sz<=l.length*sz:=by
  have:(k+1)*sz<=l.length*sz:=Nat.mul_le_mul_right _ m
  rw[Nat.add_mul,Nat.one_mul] at this;exact this
 rw[z1r,Nat.zero_add,zbl (by rw[List.length_drop,z17 h];omega),zif h m]
theorem Vec.rd (h:Vec b sz ty enc M v l)(m:∀ x∈l,(enc x).length=sz):∃ a f e,v=.slice a l.length f e/\(l=[] ∨ ∃ i o,a=some (i,o) /\ ∀ k (u:k<l.length),Rd M i (o+k*sz) sz (enc l[k])):=by
 rcases h with⟨rfl,rfl⟩|⟨i,rfl,C,D⟩
 ·exact⟨_,_,_,rfl,.inl rfl⟩
 ·exact⟨_,_,_,rfl,.inr ⟨i,0,rfl,fun k u=>z18 C m u⟩⟩
theorem z5j:∀ {a c:List LV},zn (a++c)=(zn a&&zn c)
 | [],c=>by rw[List.nil_append];rfl
 | x::xs,c=>by
  show ifb x.flat (zn (xs++c)) false=(ifb x.flat (zn xs) false&&zn c)
  rw[z5j]
  cases x.flat<;>rfl
theorem z0j {l:List α}(h:∀ x∈l,zn (enc x)=true):zn (l.flatMap enc)=true:=by
 induction l with
 | nil=>rfl
 | cons x xs u=>rw[List.flatMap_cons,z5j,h x List.mem_cons_self,u (fun y m=>h y (List.mem_cons_of_mem _ m))];rfl
theorem Vec.app {P:Program}[Orc P]{E:Env}{s x:XO}{z:List LV}{l':List α}{xv:LV}(h:Vec b sz ty enc M v l)(hs:xval E s=some v)(R:xval E x=some xv)(O:z0x xv=some l'.length)(H:0<l'.length)(L:(2*(l.length+l'.length)+2048)*by'<=140737488355328)(hz:(Nat.ble 1 sz&&(Nat.ble 1 by'&&Nat.beq z.length sz))=true)(Q:zz sz l'.length xv M=some (l'.flatMap enc))(m:∀ x,(enc x).length=sz)(D:∀ x,zn (enc x)=true)(u:b<=M.next) :
  ∃ v' M',zl P (.app ty sz by' z s x) E M=some (.val v' M')/\Vec b sz ty enc M' v' (l++l')/\M'.next=M.next+1/\Keep (fun i=>b<=i /\ ∃ o n f e,v=.slice (some (i,o)) n f e) M M':=by
 have N:=z0j (l:=l') (enc:=enc) (fun x _=>D x)
 rcases h with⟨rfl,rfl⟩|⟨i,rfl,J,S⟩
 ·refine⟨_,_,z3t hs R O H (by simpa using L) hz rfl Q N (.inl rfl),.inr ⟨M.next,?_,?_,u⟩,rfl,?_⟩
  ·rw[List.nil_append,Nat.zero_add]
  ·rw[List.nil_append,List.nil_append];exact⟨by rw[Mem.get_push,if_pos rfl],Nat.lt_succ_self _⟩
  ·have U:New M M.next (.cells true ([]++l'.flatMap enc) (apE ty)) (M.push (.cells true ([]++l'.flatMap enc) (apE ty))):=⟨rfl,rfl⟩
   exact U.grow.to_keep _
 ·have X:zz sz l.length (.slice (some (i,0)) l.length false sz) M=some (l.flatMap enc):=by
   rw[z2g J (by rw[z17 (fun x _=>m x)];omega),List.drop_zero,List.take_of_length_le (by rw[z17 (fun x _=>m x)];omega)]
  have C:Kill M i M.next (.cells true (l.flatMap enc++l'.flatMap enc) (apE ty)) ((M.upd i none).push (.cells true (l.flatMap enc++l'.flatMap enc) (apE ty))):=⟨rfl,rfl⟩
  refine⟨_,_,z4g hs R O H L hz X Q N J (by rw[show Nat.beq (apE ty) (apE ty)=true by simp,Bool.or_true]),.inr ⟨M.next,by rw[List.length_append],?_,u⟩,C.next,C.keep.weaken fun j V=>?_⟩
  ·rw[List.flatMap_append];exact C.same
  ·subst V;exact⟨S,_,_,_,_,rfl⟩
end
end PvL
end
section
namespace PvL
set_option linter.unusedSectionVars false
open Go
variable {μ:Md}
def shlZ(a b:Int):Int:=a*((2^b.toNat:Nat):Int)
def shrZ(a b:Int):Int:=a/((2^b.toNat:Nat):Int)
def andZ(a b:Int):Int:=((a.toNat &&& b.toNat:Nat):Int)
def orZ(a b:Int):Int:=((a.toNat ||| b.toNat:Nat):Int)
def andnZ(a b:Int):Int:=a-andZ a b
theorem z3n{n:Nat}(h:n<2^64):(BitVec.ofInt 64 (n:Int)).toNat=n:=by
 rw[BitVec.ofInt_natCast,BitVec.toNat_ofNat,Nat.mod_eq_of_lt h]
theorem z6u{n:Int}(h:-9223372036854775808<=n/\n<=9223372036854775807):mkI .i64 (wr .i64 n)=some (.int .i64 n):=by
 rw[z2e,z3r,z61 h]
section
variable {P:Program} {E:Env} {M:Mem} {x y:XO} {a b:Int}
theorem zw9(D:xval E x=some (.int .i64 a))(H:xval E y=some (.int .i64 b))(u:0<=a/\a<=4294967296)(C:0<=b/\b<=4294967296):zl P (.bin .and x y) E M=some (.val (.int .i64 (andZ a b)) M):=by
 obtain⟨m,rfl⟩:=Int.eq_ofNat_of_zero_le u.1
 obtain⟨n,rfl⟩:=Int.eq_ofNat_of_zero_le C.1
 show ob (xval E x) _=_
 rw[D,z8,H,z8]
 show guard' true (ob (mkI .i64 (wr .i64 (BitVec.ofInt 64 (m:Int) &&& BitVec.ofInt 64 (n:Int)).toNat)) _)=_
 have h:(BitVec.ofInt 64 (m:Int) &&& BitVec.ofInt 64 (n:Int)).toNat=m &&& n:=by rw[BitVec.toNat_and,z3n (by omega),z3n (by omega)]
 have J:m &&& n<=m:=Nat.and_le_left
 rw[h,zb,z6u (by omega),z8];rfl
theorem zxo{m n:Nat}(h:m<4294967296)(u:n<4294967296):m ||| n<4294967296:=Nat.or_lt_two_pow (n:=32) h u
theorem zxw(D:xval E x=some (.int .i64 a))(H:xval E y=some (.int .i64 b))(u:0<=a/\a<4294967296)(C:0<=b/\b<4294967296):zl P (.bin .or x y) E M=some (.val (.int .i64 (orZ a b)) M):=by
 obtain⟨m,rfl⟩:=Int.eq_ofNat_of_zero_le u.1
 obtain⟨n,rfl⟩:=Int.eq_ofNat_of_zero_le C.1
 show ob (xval E x) _=_
 rw[D,z8,H,z8]
 show guard' true (ob (mkI .i64 (wr .i64 (BitVec.ofInt 64 (m:Int) ||| BitVec.ofInt 64 (n:Int)).toNat)) _)=_
 have h:(BitVec.ofInt 64 (m:Int) ||| BitVec.ofInt 64 (n:Int)).toNat=m ||| n:=by rw[BitVec.toNat_or,z3n (by omega),z3n (by omega)]
 have J:m ||| n<4294967296:=zxo (by omega) (by omega)
 rw[h,zb,z6u (by omega),z8];rfl
theorem zvf{b:Nat}(h:b<=20):1<=2^b/\2^b<=1048576:=⟨Nat.one_le_two_pow,by have:=Nat.pow_le_pow_right (n:=2) (by omega) h;omega⟩
theorem zqg(h:0<=a/\a<=1000000)(u:0<=b/\b<=20):0<=shlZ a b/\shlZ a b<=1048576000000:=by
 have C:=zvf (b:=b.toNat) (by omega)
 have:=zv9 (a:=a) (b:=((2^b.toNat:Nat):Int)) (A:=1000000) (B:=1048576) (by omega) (by omega)
 unfold shlZ
 have m:0<=a*((2^b.toNat:Nat):Int):=Int.mul_nonneg h.1 (by omega)
 omega
theorem zwj(D:xval E x=some (.int .i64 a))(H:xval E y=some (.int .i64 b))(m:0<=a/\a<=1000000)(h:0<=b/\b<=20):zl P (.bin .shl x y) E M=some (.val (.int .i64 (shlZ a b)) M):=by
 have u:=zqg m h
 obtain⟨n,rfl⟩:=Int.eq_ofNat_of_zero_le h.1
 show ob (xval E x) _=_
 rw[D,z8,H,z8]
 show guard' true (ob (mkI .i64 (wr .i64 (a*((2^(Nat.min n 64):Nat):Int)))) _)=_
 have C:Nat.min n 64=n:=Nat.min_eq_left (by omega)
 rw[C,zb]
 have e:a*((2^n:Nat):Int)=shlZ a n:=rfl
 rw[e,z6u (by omega),z8];rfl
theorem zwk(u:xval E x=some (.int .i64 a))(C:xval E y=some (.int .i64 b))(D:0<=a/\a<=1000000000)(h:0<=b/\b<=20):zl P (.bin .shr x y) E M=some (.val (.int .i64 (shrZ a b)) M):=by
 obtain⟨n,rfl⟩:=Int.eq_ofNat_of_zero_le h.1
 show ob (xval E x) _=_
 rw[u,z8,C,z8]
 show guard' true (ob (mkI .i64 (a.fdiv ((2^(Nat.min n 64):Nat):Int))) _)=_
 have m:Nat.min n 64=n:=Nat.min_eq_left (by omega)
 rw[m,zb,z2e,z8,Int.fdiv_eq_ediv_of_nonneg _ (Int.natCast_nonneg _)];rfl
end
section
variable {α:Type} {P:Program} [Orc P]
structure Taker (P:Program) [Orc P] (items:List α) (R:α->List LV->(Nat->Prop)->Mem->Prop) (l:Nat) (A Wr:Nat->Prop) (I:List α->(Nat->Prop)->Mem->Prop) (D:(Nat->Prop)->Mem->Prop) (N0:Nat):Prop where
 lt:∀ i,A i->i < N0
 stab:∀ d T M M',I d T M->M.next<=M'.next->(∀ i,(i < N0 /\ ¬ Wr i) ∨ T i->M'.get i=M.get i)->I d T M'
 stabD:∀ T M M',D T M->M.next<=M'.next->(∀ i,(i < N0 /\ ¬ Wr i) ∨ T i->M'.get i=M.get i)->D T M'
 step:∀ d x rest v (U T:Nat->Prop) M,items=d ++ x :: rest->R x v U M->N0<=M.next->(∀ i,T i->N0<=i /\ i < M.next)->(∀ i,U i->N0<=i /\ i < M.next /\ ¬ T i)->I d T M ->
  RoundOk P l v M fun w M'=>Keep (fun i=>A i ∨ T i ∨ U i) M M' /\ ∃ T':Nat->Prop,(∀ i,T' i->(T i ∨ U i ∨ M.next<=i) /\ i < M'.next) /\ ((w=.bool true /\ I (d ++ [x]) T' M') ∨(w=.bool false /\ D T' M'))
def YieldsS(P:Program)[Orc P](gf:FuncId)(fi ca:List LV)(S C:Nat->Prop)(m:Mem->Prop)(h:List α)(R:α->List LV->(Nat->Prop)->Mem->Prop)(M0:Mem):Prop :=
 ∀(l:Nat) (A:Nat->Prop) (I:List α->(Nat->Prop)->Mem->Prop) (D:(Nat->Prop)->Mem->Prop),
  Taker P h R l A C I D M0.next->(∀ i,S i->¬ A i)->I [] (fun _=>False) M0 ->
  zc P gf (fi++[.func (.yield l) [] []]++ca) M0 fun _ M'=>Keep (fun i=>A i∨C i) M0 M'/\m M' /\ ∃ u:Nat->Prop,(∀ i,u i->M0.next<=i/\i<M'.next)/\(I h u M'∨D u M')
def Took(A u T:Nat->Prop)(h:Mem->Prop)(I:List α->(Nat->Prop)->Mem->Prop)(D:(Nat->Prop)->Mem->Prop)(d:List α)(M:Mem)(v:LV)(M':Mem):Prop :=
 Keep (fun i=>A i∨T i∨u i) M M'/\h M' /\ ∃ m:Nat->Prop,(∀ i,m i->(T i∨M.next<=i)/\i<M'.next)/\((v=.bool true/\I d m M') ∨(v=.bool false/\D m M'))
end
section
variable {M M' M0:Mem} {i j n o k:Nat} {lb lb':LB} {F:Nat->Prop} {l:List LV} {v:LV}
end
class IsSl (P:Program) (t:TypeId):Prop where
 h:∃ e,P.underlying t=some (.slice e)
section
variable {P:Program} [Orc P] {t:TypeId} [hs:IsSl P t] {E:Env} {M:Mem} {x:XO} {a:Nat × Nat} {n n':Nat} {f f':Bool} {e e':Nat}
theorem zq2(a:Option (Nat×Nat)):eqV P t (.slice a n f e) (.slice none n' f' e')=some a.isNone:=by
 obtain⟨m,h⟩:=hs.h
 show ifb false none (eqL P Op.maxDepth t _ _)=_
 rw[ze]
 show eqL P (Op.maxDepth-1+1) t _ _=_
 unfold eqL
 rw[h]
 cases a<;>rfl
theorem ztg(h:xval E x=some (.slice (some a) n f e)):zl P (.eqg false t x (.c (.slice none n' f' e'))) E M=some (.val (.bool false) M):=by
 show ob (xval E x) _=_
 rw[h,z8]
 show ob (xval E (.c _)) _=_
 rw[show xval E (.c (.slice none n' f' e'))=some (.slice none n' f' e') from rfl,z8]
 show guard' true (ob (eqV P t (.slice (some a) n f e) (.slice none n' f' e')) _)=_
 rw[zq2,zb,z8];rfl
theorem zpk(h:xval E x=some (.slice none n f e)):zl P (.eqg false t x (.c (.slice none n' f' e'))) E M=some (.val (.bool true) M):=by
 show ob (xval E x) _=_
 rw[h,z8]
 show ob (xval E (.c _)) _=_
 rw[show xval E (.c (.slice none n' f' e'))=some (.slice none n' f' e') from rfl,z8]
 show guard' true (ob (eqV P t (.slice none n f e) (.slice none n' f' e')) _)=_
 rw[zq2,zb,z8];rfl
end
section
variable {P:Program} [Orc P] {sz:Nat} {E:Env} {M:Mem} {K:Env->Mem->Prop} {l:List XG} {d:Nat} {g:Option (Nat × Bool)} {s x:XO} {st:List Mem} {k:Nat} {xs:List (Nat × Nat × (Mem->Prop))} {ld:List (XG × XK)}
 {e q by':Nat} {z:List LV} {aa:Option (Nat × Nat)} {len:Nat} {f:Bool} {es n:Nat} {xv:LV} {old new:List LV} {j off:Nat} {cs:List LV} {ty:TypeId}
theorem z6v(D:GOn E g)(hs:xval E s=some (.slice aa len f es))(O:xval E x=some xv)(J:z0x xv=some n)(u:0<n)
  (C:(2*(len+n)+2048)*by'<=140737488355328) (hz:(Nat.ble 1 q&&(Nat.ble 1 by'&&Nat.beq z.length q))=true) (L:zz q len (.slice aa len f es) M=some old) (N:zz q n xv M=some new) (hf:zn new=true) (h:aa=none∨f=true)
  (H:∀ m M',New M m (.cells true (old++new) (apE e)) M'->m=M.next->M'.next=M.next+1->XW μ P sz l ((d,.slice (some (m,0)) (len+n) false q)::E) M' K):XW μ P sz (⟨some d,.app e q by' z s x,g⟩::l) E M K :=
 zg2 D (z3t hs O J u C hz L N hf h) (H _ _ ⟨rfl,rfl⟩ rfl rfl)
end
end PvL
namespace PvL
open Go
end PvL
end
section
namespace PvL
set_option linter.unusedSectionVars false
open Go
variable {μ:Md}
def xorZ(a b:Int):Int:=((a.toNat ^^^ b.toNat:Nat):Int)
theorem zw5{m n:Nat}(h:m<4294967296)(u:n<4294967296):m ^^^ n<4294967296:=Nat.xor_lt_two_pow (n:=32) h u
def byteAt(s:ByteArray)(k:Nat):Nat:=(s.data.toList.getD k 0).toNat
theorem z3h(s:ByteArray)(k:Nat):byteAt s k<256:=UInt8.toNat_lt _
section
variable {P:Program} {E:Env} {M:Mem} {x y:XO} {a b:Int}
theorem zwm(D:xval E x=some (.int .i64 a))(H:xval E y=some (.int .i64 b))(u:0<=a/\a<4294967296)(C:0<=b/\b<4294967296):zl P (.bin .xor x y) E M=some (.val (.int .i64 (xorZ a b)) M):=by
 obtain⟨m,rfl⟩:=Int.eq_ofNat_of_zero_le u.1
 obtain⟨n,rfl⟩:=Int.eq_ofNat_of_zero_le C.1
 show ob (xval E x) _=_
 rw[D,z8,H,z8]
 show guard' true (ob (mkI .i64 (wr .i64 (BitVec.ofInt 64 (m:Int) ^^^ BitVec.ofInt 64 (n:Int)).toNat)) _)=_
 have h:(BitVec.ofInt 64 (m:Int) ^^^ BitVec.ofInt 64 (n:Int)).toNat=m ^^^ n:=by rw[BitVec.toNat_xor,z3n (by omega),z3n (by omega)]
 have J:m ^^^ n<4294967296:=zw5 (by omega) (by omega)
 rw[h,zb,z6u (by omega),z8];rfl
theorem ztm{J:IntKind}(D:xval E x=some (.int .i64 a))(H:xval E y=some (.int J b))(m:0<=a/\a<=1000000)(h:0<=b/\b<=20):zl P (.bin .shl x y) E M=some (.val (.int .i64 (shlZ a b)) M):=by
 have u:=zqg m h
 obtain⟨n,rfl⟩:=Int.eq_ofNat_of_zero_le h.1
 show ob (xval E x) _=_
 rw[D,z8,H,z8]
 show guard' true (ob (mkI .i64 (wr .i64 (a*((2^(Nat.min n 64):Nat):Int)))) _)=_
 have C:Nat.min n 64=n:=Nat.min_eq_left (by omega)
 rw[C,zb]
 have e:a*((2^n:Nat):Int)=shlZ a n:=rfl
 rw[e,z6u (by omega),z8];rfl
theorem ztn{D:IntKind}(u:xval E x=some (.int .i64 a))(C:xval E y=some (.int D b))(H:0<=a/\a<=1000000000)(h:0<=b/\b<=20):zl P (.bin .shr x y) E M=some (.val (.int .i64 (shrZ a b)) M):=by
 obtain⟨n,rfl⟩:=Int.eq_ofNat_of_zero_le h.1
 show ob (xval E x) _=_
 rw[u,z8,C,z8]
 show guard' true (ob (mkI .i64 (a.fdiv ((2^(Nat.min n 64):Nat):Int))) _)=_
 have m:Nat.min n 64=n:=Nat.min_eq_left (by omega)
 rw[m,zb,z2e,z8,Int.fdiv_eq_ediv_of_nonneg _ (Int.natCast_nonneg _)];rfl
theorem zpj{u:IntKind}(m:xval E x=some (.int u a))(h:-9223372036854775808<=a/\a<=9223372036854775807):zl P (.conv .i64 x) E M=some (.val (.int .i64 a) M):=by
 refine z23 ?_ M
 show ob (xval E x) _=_
 rw[m]
 show some (LV.int .i64 (IntKind.wrap .i64 a))=_
 rw[z61 h]
theorem wrap8{a:Int}(h:0<=a/\a<=255):IntKind.wrap .u8 a=a:=by
 unfold IntKind.wrap
 simp only[IntKind.signed,IntKind.bits,Bool.false_and,Bool.false_eq_true,if_false]
 omega
theorem zpi{u:IntKind}(m:xval E x=some (.int u a))(h:0<=a/\a<=255):zl P (.conv .u8 x) E M=some (.val (.int .u8 a) M):=by
 refine z23 ?_ M
 show ob (xval E x) _=_
 rw[m]
 show some (LV.int .u8 (IntKind.wrap .u8 a))=_
 rw[wrap8 h]
theorem zms{s:ByteArray}{k:Nat}(u:xval E x=some (.str s))(C:xval E y=some (.int .i64 (k:Int)))(h:k<s.size):zl P (.idxS x y) E M=some (.val (.int .u8 (byteAt s k:Int)) M):=by
 show ob (xval E x) _=_
 rw[u,z8,C,z8]
 show ob s[k]? _=_
 have e:s[k]?=some s[k]:=by simp[h]
 rw[e,z8]
 have:byteAt s k=s[k].toNat:=by
  unfold byteAt
  have m:k<s.data.toList.length:=by simpa using h
  rw[List.getD_eq_getElem?_getD,List.getElem?_eq_getElem m,Option.getD_some]
  rfl
 rw[this]
theorem zg5{s t:ByteArray}(m:xval E x=some (.str s))(u:xval E y=some (.str t))(h:s.size+t.size<=140737488355328):zl P (.bin .add x y) E M=some (.val (.str (s++t)) M):=by
 show ob (xval E x) _=_
 rw[m,z8,u,z8]
 show guard' true (ob (guard' (Nat.ble (s.size+t.size) 140737488355328) (some (LV.str (s++t)))) _)=_
 rw[Nat.ble_eq_true_of_le h];rfl
def z0b(l:List UInt8):List LV:=l.map byteL
theorem z68:∀(l:List UInt8),bytesL (z0b l)=some l
 | []=>rfl
 | b::l=>by
  show ob (u8L (byteL b)) _=_
  have:u8L (byteL b)=some b:=by
   show guard' (kEq .u8 .u8) (some (UInt8.ofNat b.toNat))=_
   rw[z2b.2 rfl,zb]
   simp
  rw[this,z8]
  show ob (bytesL (z0b l)) _=_
  rw[z68 l];rfl
theorem ztf{i o n:Nat}{f:Bool}{e:Nat}{l:List UInt8}(H:xval E x=some (.slice (some (i,o)) n f e))(h:Rd M i o n (z0b l)):zl P (.bstr x) E M=some (.val (.str ⟨⟨l⟩⟩) M):=by
 show ob (xval E x) _=_
 rw[H,z8]
 show ob (strOf M (some (i,o)) n) _=_
 unfold strOf
 cases D:Nat.beq n 0 with
 | true=>
  obtain rfl:=Nat.eq_of_beq_eq_true D
  have C:l=[]:=by
   obtain⟨m,_⟩:=h
   unfold loadN atCells at m
   obtain⟨lb,J,u⟩:=z9.1 m
   cases lb with
   | cells own cs ty=>
    obtain⟨L,h5⟩:=z2p.1 (show take' 0 (drop' o cs)=some (z0b l) from u)
    cases l with
    | nil=>rfl
    | cons b l=>simp[z0b] at h5
   | _=>cases u
  subst C;rfl
 | false=>
  rw[ze,z8]
  show ob (ob (loadN M i o n) _) _=_
  rw[h.1,z8,z68];rfl
end
end PvL
end
section
namespace PvL
set_option linter.unusedSectionVars false
open Go
variable {μ:Md}
variable {q r p:Bool} {t:TypeId}
theorem Rd.nth {M:Mem}{i o n j:Nat}{l:List LV}{v:LV}(h:Rd M i o n l)(m:PvL.nth l j=some v):Rd1 M i (o+j) v:=by
 obtain⟨D,H⟩:=h
 refine⟨?_,H⟩
 unfold loadN atCells at D
 unfold load1 atCells
 obtain⟨lb,J,u⟩:=z9.1 D
 rw[J,z8]
 cases lb with
 | cells own cs ty=>
  have u:take' n (drop' o cs)=some l:=u
  obtain⟨h5,L⟩:=z2p.1 u
  show PvL.nth cs (o+j)=some v
  rw[z7s] at m ⊢
  subst L
  rw[z1r] at m
  have C:j<n:=by
   have:=(List.getElem?_eq_some_iff.1 m).1
   rw[List.length_take] at this;omega
  rw[List.getElem?_take_of_lt C,List.getElem?_drop] at m
  exact m
 | _=>cases u
theorem xm {p:Prop}(h:p:=by((repeat' (first|assumption|exact Rd1.of_at (by assumption) rfl|exact Rd.of_at (by assumption) rfl|exact Rd1.of_at (At.new_same (by assumption)) rfl|exact Rd.of_at (At.new_same (by assumption)) rfl|exact At.new_same (by assumption)|(with_reducible apply At.new_old (by assumption))|(with_reducible apply At.upd_ne (by assumption) (by omega))|(with_reducible apply At.grow (by assumption))|(with_reducible apply At.keep (by assumption) (by first|assumption|omega|(intro m;dsimp only at m;omega)))|(with_reducible apply At.kill (by assumption) (by omega))|(with_reducible apply Rd.kill (by assumption) (by omega))|(with_reducible apply Rd1.kill (by assumption) (by omega))|(with_reducible apply Rd.new_old (by assumption))|(with_reducible apply Rd1.new_old (by assumption))|(with_reducible apply Rd.upd_ne (by assumption) (by omega))|(with_reducible apply Rd1.upd_ne (by assumption) (by omega))|(with_reducible apply Rd.grow (by assumption))|(with_reducible apply Rd1.grow (by assumption))|(with_reducible apply Rd.keep (by assumption) (by first|assumption|omega|(intro m;dsimp only at m;omega)))|(with_reducible apply Rd1.keep (by assumption) (by first|assumption|omega|(intro m;dsimp only at m;omega)))));first|done|fail)):p:=h
theorem xg {p:Prop}(h:p:=by((repeat' (first|(with_reducible exact Grow.refl _)|assumption|(with_reducible refine Grow.new ?_ (by assumption))|(with_reducible refine Grow.upd ?_ (by assumption) (by omega))|(with_reducible refine Grow.kill ?_ (by assumption) (by omega))|(with_reducible refine Grow.trans ?_ (by assumption))|(with_reducible refine Keep.to_grow' ?_ (by assumption) (by intro i hi;(try dsimp only at hi);omega))));first|done|fail)):p:=h
theorem xk {p:Prop}(h:p:=by((repeat' (first|(with_reducible exact Keep.refl _ _)|assumption|(with_reducible refine Keep.new ?_ (by assumption))|(with_reducible refine Keep.upd ?_ (by assumption) (by first|(left;exact rfl)|(left;constructor<;>omega)|(left;exact⟨by omega,by omega,by omega⟩)|(left;exact⟨by omega,by omega,by omega,by omega⟩)|(left;omega)|(left;assumption)|(left;simp;done)|(right;omega)))|(with_reducible refine Keep.kill ?_ (by assumption) (by first|(left;exact rfl)|(right;omega)|(left;omega)))|(with_reducible refine Keep.grow ?_ (by assumption))|(with_reducible refine Keep.trans ?_ (by assumption) (by intro i hi;(try dsimp only at hi);first|exact .inl hi|(left;omega)|(right;omega)|omega))));first|done|fail)):p:=h
class BN (q:Bool) (T F:outParam Prop):Prop where
 t:q=true->T
 f:q=false->F
instance (priority:=low) {q:Bool}:BN q (q=true) (q=false):=⟨id,id⟩
instance {p:Prop} [Decidable p]:BN (decide p) p (¬ p):=⟨of_decide_eq_true,of_decide_eq_false⟩
instance (priority:=high) {a b:Int}:BN (decide (a<=b)) (a<=b) (b<a):=⟨of_decide_eq_true,fun h=>Int.not_le.1 (of_decide_eq_false h)⟩
instance (priority:=high) {a b:Int}:BN (decide (a<b)) (a<b) (b<=a):=⟨of_decide_eq_true,fun h=>Int.not_lt.1 (of_decide_eq_false h)⟩
instance (priority:=high) {p:Prop} [Decidable p]:BN (decide (¬ p)) (¬ p) p:=⟨of_decide_eq_true,fun h=>Decidable.not_not.1 (of_decide_eq_false h)⟩
instance {q:Bool} {T F:Prop} [BN q T F]:BN (!q) F T:=⟨fun h=>BN.f (q:=q) (by simpa using h),fun h=>BN.t (q:=q) (by simpa using h)⟩
instance {q r:Bool} {T F T' m:Prop} [BN q T F] [BN r T' m]:BN (q&&r) (T/\T') (F∨m):=⟨fun h=>⟨BN.t (q:=q) (by revert h;cases q<;>simp),BN.t (q:=r) (by revert h;cases q<;>simp)⟩,fun h=>by
 cases u:q with
 | false=>exact .inl (BN.f (q:=q) u)
 | true=>exact .inr (BN.f (q:=r) (by rw[u] at h;simpa using h))⟩
theorem zr3 {T F T' u:Prop}[BN q T F][BN r T' u](h:(q||r)=true):T∨T':=by
 cases m:q with
 | true=>exact .inl (BN.t (q:=q) m)
 | false=>exact .inr (BN.t (q:=r) (by rw[m] at h;simpa using h))
theorem zr2 {q:Bool}{T F T' m:Prop}[BN q T F][BN r T' m](h:(q||r)=false):F/\m :=
 ⟨BN.f (q:=q) (by revert h;cases q<;>simp),BN.f (q:=r) (by revert h;cases q<;>simp)⟩
instance {q r:Bool} {T F T' h:Prop} [BN q T F] [BN r T' h]:BN (q||r) (T∨T') (F/\h):=⟨zr3,zr2⟩
instance (priority:=high) {α:Type}:BN (Option.isSome (none:Option α)) False True:=⟨fun h=>(by cases h),fun _=>trivial⟩
instance (priority:=high) {α:Type} {a:α}:BN (Option.isSome (some a)) True False:=⟨fun _=>trivial,fun h=>(by cases h)⟩
instance (priority:=high) {q:Bool} {T F:Prop} [BN q T F]:BN (q&&true) T F:=⟨fun h=>BN.t (q:=q) (by simpa using h),fun h=>BN.f (q:=q) (by simpa using h)⟩
instance (priority:=high) {q r:Bool} {T F:Prop} [BN q T F]:BN (ifb true q r) T F:=⟨fun h=>BN.t (q:=q) h,fun h=>BN.f (q:=q) h⟩
instance (priority:=high) {q r:Bool} {T F:Prop} [BN r T F]:BN (ifb false q r) T F:=⟨fun h=>BN.t (q:=r) h,fun h=>BN.f (q:=r) h⟩
class IsB (P:Program) (t:TypeId):Prop where
 h:P.underlying t=some .bool
theorem zut {P:Program}[h:IsB P t](p q:Bool):eqV P t (.bool p) (.bool q)=some (decide (p=q)):=by
 show ifb false none (eqL P Op.maxDepth t (.bool p) (.bool q))=_
 rw[ze]
 show eqL P (Op.maxDepth-1+1) t (.bool p) (.bool q)=_
 unfold eqL
 rw[h.h]
 cases p<;>cases q<;>rfl
theorem zwe {P:Program}[IsB P t]{E:Env}{M:Mem}{x y:XO}(h:xval E x=some (.bool p))(m:xval E y=some (.bool q)):zl P (.eqg true t x y) E M=some (.val (.bool (!(decide (p=q)))) M):=by
 show ob (xval E x) _=_
 rw[h,z8,m,z8]
 show guard' true (ob (eqV P t (.bool p) (.bool q)) _)=_
 rw[zut,zb,z8]
 cases p<;>cases q<;>rfl
theorem zwb {P:Program}[IsB P t]{E:Env}{M:Mem}{x y:XO}(h:xval E x=some (.bool p))(m:xval E y=some (.bool q)):zl P (.eqg false t x y) E M=some (.val (.bool (decide (p=q))) M):=by
 show ob (xval E x) _=_
 rw[h,z8,m,z8]
 show guard' true (ob (eqV P t (.bool p) (.bool q)) _)=_
 rw[zut,zb,z8]
 cases p<;>cases q<;>rfl
instance (priority:=high):BN true True False:=⟨fun _=>trivial,fun h=>(by cases h)⟩
instance (priority:=high):BN false False True:=⟨fun h=>(by cases h),fun _=>trivial⟩
section
variable {P:Program} [Orc P] {sz:Nat} {E:Env} {M:Mem} {K:Env->Mem->Prop} {l:List XG} {d:Nat} {g:Option (Nat × Bool)} {x y a:XO} {i o n t:Nat} {v:LV} {ls:List LV} {st:List Mem} {k:Nat} {xs:List (Nat × Nat × (Mem->Prop))} {ld:List (XG × XK)}
theorem x_l1 (u:GOn E g)(m:xval E a=some (.ptr (some (i,o))))(h:Rd1 M i o v)(C:XW μ P sz l ((d,v)::E) M K):XW μ P sz (⟨some d,.ld1 a,g⟩::l) E M K:=z35 u (zeq m h) C
theorem x_lN (u:GOn E g)(m:xval E a=some (.ptr (some (i,o))))(h:Rd M i o n ls)(C:XW μ P sz l ((d,.agg ls)::E) M K):XW μ P sz (⟨some d,.ldN n a,g⟩::l) E M K:=z35 u (zer m h) C
theorem gd (h:GOn E g:=by first|exact zuy|exact g_on rfl):GOn E g:=h
theorem gx (h:GOff E g:=by first|exact zxh rfl|exact zxi rfl):GOff E g:=h
theorem sx {p:Prop}(h:p:=by(first|((with_reducible apply zw8);exact rfl;exact rfl;omega)|((with_reducible apply zwl);exact rfl;exact rfl;omega)|((with_reducible apply zwd);exact rfl;exact rfl;omega)|((with_reducible apply zwf);exact rfl;omega)|((with_reducible apply xs_conv);exact rfl;omega)|((with_reducible apply zwg);exact rfl;exact rfl;omega;omega)|((with_reducible apply zwh);exact rfl;exact rfl;omega;omega)|((with_reducible apply zmv);exact rfl;exact rfl;omega;omega)|((with_reducible apply zmw);exact rfl;exact rfl;omega)|((with_reducible apply zqu);exact rfl;exact rfl;omega)|((with_reducible apply zje);exact rfl;exact rfl;omega)|((with_reducible apply zti);exact rfl;exact rfl;omega)|((with_reducible apply zwc);exact rfl;exact rfl;omega;exact rfl)|((with_reducible apply zwe);exact rfl;exact rfl)|((with_reducible apply zwb);exact rfl;exact rfl)|((with_reducible apply zw9);exact rfl;exact rfl;omega;omega)|((with_reducible apply zxw);exact rfl;exact rfl;omega;omega)|((with_reducible apply xs_andn);exact rfl;exact rfl;omega;omega)|((with_reducible apply zwj);exact rfl;exact rfl;omega;omega)|((with_reducible apply zwk);exact rfl;exact rfl;omega;omega)|((with_reducible apply ztg);exact rfl)|((with_reducible apply zpk);exact rfl)|((with_reducible apply zwm);exact rfl;exact rfl;omega;omega)|((with_reducible apply ztm);exact rfl;exact rfl;omega;omega)|((with_reducible apply ztn);exact rfl;exact rfl;omega;omega)|((with_reducible apply zpj);exact rfl;omega)|((with_reducible apply zpi);exact rfl;omega)|((with_reducible apply zms);exact rfl;exact rfl;omega)|((with_reducible apply zg5);exact rfl;exact rfl;omega)|exact ztk rfl)):p:=h
theorem rx {p:Prop}(h:p:=by((repeat' (first|exact ResX.nil|((with_reducible apply ResX.tmp);exact rfl)|((with_reducible apply resN);exact rfl)|((with_reducible apply res1);exact rfl)|assumption|exact Rd1.of_at (by assumption) rfl|exact Rd.of_at (by assumption) rfl|exact Rd1.of_at (At.new_same (by assumption)) rfl|exact Rd.of_at (At.new_same (by assumption)) rfl|exact At.new_same (by assumption)|(with_reducible apply At.new_old (by assumption))|(with_reducible apply At.upd_ne (by assumption) (by omega))|(with_reducible apply At.grow (by assumption))|(with_reducible apply At.keep (by assumption) (by first|assumption|omega|(intro m;dsimp only at m;omega)))|(with_reducible apply At.kill (by assumption) (by omega))|(with_reducible apply Rd.kill (by assumption) (by omega))|(with_reducible apply Rd1.kill (by assumption) (by omega))|(with_reducible apply Rd.new_old (by assumption))|(with_reducible apply Rd1.new_old (by assumption))|(with_reducible apply Rd.upd_ne (by assumption) (by omega))|(with_reducible apply Rd1.upd_ne (by assumption) (by omega))|(with_reducible apply Rd.grow (by assumption))|(with_reducible apply Rd1.grow (by assumption))|(with_reducible apply Rd.keep (by assumption) (by first|assumption|omega|(intro m;dsimp only at m;omega)))|(with_reducible apply Rd1.keep (by assumption) (by first|assumption|omega|(intro m;dsimp only at m;omega)))));first|done|fail)):p:=h
end
section
variable {P:Program} [Orc P] {fn:FuncId} {ro:Option Nat} {sz:Nat} {E:Env} {ms:List Dfr} {M:Mem} {K:Ex->Env->List Dfr->Mem->Prop}
theorem zq0 {E:Env}{K:Env->Mem->Prop}{st:List Mem}{k:Nat}{xs:List (Nat×Nat×(Mem->Prop))}(m:ObAll st k xs)(h:K E M):XD P sz [] E M st k xs K:=zur h m
theorem wc {x:XO}{a b:XC}{T F:Prop}(C:xval E x=some (.bool q))(m:BN q T F)(h1:T->W μ P fn ro sz a E ms M K)(u:F->W μ P fn ro sz b E ms M K):W μ P fn ro sz (.cond x a b) E ms M K:=zvs C (fun h=>h1 (m.t h)) (fun h=>u (m.f h))
variable {K':Env->Mem->Prop} {l:List XG} {d t:Nat} {g:Option (Nat × Bool)} {st:List Mem} {k:Nat} {xs:List (Nat × Nat × (Mem->Prop))} {ld:List (XG × XK)} {w b:Bool} {T F:Prop} {q:XI} {dd:Option Nat} {kd:XK} {c:Nat} {y z:XO}
theorem xgd (C:look E t=some (.bool b))(m:BN b T F)(h1:T->XW μ P sz (⟨dd,q,some (t,w)⟩::l) ((t,.bool true)::E) M K')(u:F->XW μ P sz (⟨dd,q,some (t,w)⟩::l) ((t,.bool false)::E) M K'):XW μ P sz (⟨dd,q,some (t,w)⟩::l) E M K':=ztd C (fun h=>h1 (m.t h)) (fun h=>u (m.f h))
theorem dgd (C:look E t=some (.bool b))(m:BN b T F)(h1:T->XD P sz ((⟨dd,q,some (t,w)⟩,kd)::ld) ((t,.bool true)::E) M st k xs K')(u:F->XD P sz ((⟨dd,q,some (t,w)⟩,kd)::ld) ((t,.bool false)::E) M st k xs K'):XD P sz ((⟨dd,q,some (t,w)⟩,kd)::ld) E M st k xs K':=zrs C (fun h=>h1 (m.t h)) (fun h=>u (m.f h))
end
theorem ox {p:Prop}(h:p:=by((repeat' (first|(with_reducible first|apply zvc|apply zsk|apply zln)|((with_reducible apply zlo);exact rfl)|(with_reducible apply zoc)|exact xm));first|done|fail)):p:=h
theorem sv {G G':Prop}(h:G')(hs:G'->G:=by first|((with_reducible first|apply z54|apply zen|apply zvt|apply zg1|apply w_scope|apply zvu|apply zql|apply zqn|apply z42|apply zdv|apply zb0|apply zfg|apply z9b|apply z1p|apply zaz|apply z9d|apply zb1|apply z9f|apply zqw))|((with_reducible first|apply z35|apply zf9);exact gd;exact sx)|((with_reducible first|apply x_l1|apply x_lN|apply zxc|apply zxd);exact gd;exact rfl;exact xm)|((with_reducible first|apply x_st|apply d_st);exact gd;exact rfl;exact rfl;exact xm;exact rfl;exact rfl;exact rfl)|((with_reducible first|apply zvv|apply d_box|apply zvw|apply zxb);exact gd;exact rfl;exact rfl)|((with_reducible first|apply zvy|apply zxe);exact gd;exact rfl)|((with_reducible first|apply zmn|apply d_mkmap);exact gd)|((with_reducible first|apply zvz|apply x_off0|apply zxf|apply zic|apply zkh|apply zdh);exact gx)|((with_reducible apply zq0);exact ox)|((with_reducible apply z9a);exact rfl)|((with_reducible first|apply zh2|apply zl1|apply z9e|apply k_round_exit);exact xm)):G:=hs h
theorem su {G G':Prop}(h:G')(hs:G'->G:=by with_reducible first|apply zqm|apply zv1):G:=hs h
theorem sc {G h m:Prop}(h1:h)(u:m)(hs:h->m->G:=by((with_reducible apply wc);exact rfl;infer_instance)):G:=hs h1 u
theorem sg {G h m:Prop}(h1:h)(u:m)(hs:h->m->G:=by((with_reducible first|apply xgd|apply dgd|apply xpk|apply dpk);exact rfl;infer_instance)):G:=hs h1 u
end PvL
end
section
namespace PvL
open Go
variable {μ:Md}
structure NT (c:Prop):Prop
theorem nt1:NT True:=⟨⟩
theorem nt2{c:Prop}:NT c:=⟨⟩
theorem sz{c G:Prop}(h:c)(m:¬ c:=by first|exact fun h=>h|exact fun h=>h rfl|omega):G:=absurd h m
structure NS (c G:Prop):Prop
theorem ns1{G:Prop}:NS True G:=⟨⟩
theorem ns2{c G:Prop}:NS c G:=⟨⟩
theorem nw{P:Program}[Orc P]{c:Prop}{fn:FuncId}{ro:Option Nat}{sz:Nat}{x:XC}{E:Env}{ms:List Dfr}{M:Mem}{K:Ex->Env->List Dfr->Mem->Prop}:NS c (W μ P fn ro sz x E ms M K):=⟨⟩
theorem sy{c G:Prop}(h:c)(g:G)(m:NS c G:=by first|(with_reducible exact nw)|((fail_if_success exact ns1);exact ns2)):G:=g
theorem ss{G h m:Prop}(h1:h)(u:m)(hs:h->m->G:=by first|((with_reducible apply wc);exact rfl;infer_instance)|((with_reducible first|apply xgd|apply dgd|apply xpk|apply dpk);exact rfl;infer_instance)):G:=hs h1 u
theorem sq{p:Prop}(h:p:=by first|assumption|exact xm|exact rfl):p:=h
theorem kf{E:Env}{M:Mem}{res:List XR}{Q:LV->Mem->Prop}{vs:List LV}{e:Ex}(h:Q (packed vs) M)(u:e=.ret∨e=.norm:=by first|exact .inl rfl|exact .inr rfl)(m:ResX E M res vs:=by exact rx):KFun res Q e E [] M:=by
 rcases u with rfl|rfl
 ·exact zl0 m h
 ·exact zin m h
theorem hz{E:Env}{l:List (Nat×LV)}(h:Has E l:=by repeat' first|exact Has.nil|refine Has.cons rfl ?_|fail):Has E l:=h
structure WMk (G:Prop):Prop where
 o:G
theorem Wmd{A B:Prop}(_:WMk A)(b:B):B:=b
theorem Wty{c G:Prop}(g:c->G)(h:NS c G:=by first|(with_reducible exact nw)|((fail_if_success exact ns1);exact ns2)):c->G:=g
variable {A B G G':Prop}
theorem Wg(k:G')(hs:WMk G'->G:=by
 intro _
 repeat' first|with_reducible intro _|refine sv ?_|(refine ss ?_ ?_<;>first|exact fun h=>sz h|refine Wty ?_)|exact sq|fail
 all_goals try(exfalso;omega)
 all_goals (repeat (rename_i x;first|exact WMk.o x|(refine Wmd x ?_;clear x)|revert x))):G:=hs ⟨k⟩
theorem Wh(k:G')(hs:WMk G'->G:=by
 intro _
 repeat' first|with_reducible intro _|refine sv ?_|(refine ss ?_ ?_<;>first|exact fun h=>sz h|refine Wty ?_)|exact sq|fail
 all_goals (repeat (rename_i x;first|exact WMk.o x|(refine Wmd x ?_;clear x)|revert x))):G:=hs ⟨k⟩
theorem Wsg(a:A)(k:G')(hs:A->WMk G'->G:=by
 intro a _
 repeat' first|with_reducible intro _|refine sv ?_|((with_reducible first|apply z01|apply z05|apply zr);exact gd;exact rfl;exact rfl;first|exact a|exact a _|exact a _ xg|exact a _ _|fail)|(refine ss ?_ ?_<;>first|exact fun h=>sz h|refine Wty ?_)|exact sq|fail
 all_goals try(exfalso;omega)
 all_goals (repeat (rename_i x;first|exact WMk.o x|(refine Wmd x ?_;clear x)|revert x))):G:=hs a ⟨k⟩
theorem Wsh(a:A)(k:G')(hs:A->WMk G'->G:=by
 intro a _
 repeat' first|with_reducible intro _|refine sv ?_|((with_reducible first|apply z01|apply z05|apply zr);exact gd;exact rfl;exact rfl;first|exact a|exact a _|exact a _ xg|exact a _ _|fail)|(refine ss ?_ ?_<;>first|exact fun h=>sz h|refine Wty ?_)|exact sq|fail
 all_goals (repeat (rename_i x;first|exact WMk.o x|(refine Wmd x ?_;clear x)|revert x))):G:=hs a ⟨k⟩
theorem Wpg(a:A)(k:G')(hs:A->WMk G'->G:=by
 intro a _
 repeat' first|with_reducible intro _|refine sv ?_|((with_reducible first|apply zw|apply zx|apply zm);exact gd;exact rfl;exact rfl;first|exact a|exact a _|exact a _ xg|exact a _ _|fail)|(refine ss ?_ ?_<;>first|exact fun h=>sz h|refine Wty ?_)|exact sq|fail
 all_goals try(exfalso;omega)
 all_goals (repeat (rename_i x;first|exact WMk.o x|(refine Wmd x ?_;clear x)|revert x))):G:=hs a ⟨k⟩
theorem Wph(a:A)(k:G')(hs:A->WMk G'->G:=by
 intro a _
 repeat' first|with_reducible intro _|refine sv ?_|((with_reducible first|apply zw|apply zx|apply zm);exact gd;exact rfl;exact rfl;first|exact a|exact a _|exact a _ xg|exact a _ _|fail)|(refine ss ?_ ?_<;>first|exact fun h=>sz h|refine Wty ?_)|exact sq|fail
 all_goals (repeat (rename_i x;first|exact WMk.o x|(refine Wmd x ?_;clear x)|revert x))):G:=hs a ⟨k⟩
theorem Wp2g(a:A)(b:B)(k:G')(hs:A->B->WMk G'->G:=by
 intro a b _
 repeat' first|with_reducible intro _|refine sv ?_|((with_reducible first|apply zw|apply zx|apply zm);exact gd;exact rfl;exact rfl;first|exact a|exact a _|exact a _ xg|exact a _ _|exact b|exact b _|exact b _ xg|exact b _ _|fail)|(refine ss ?_ ?_<;>first|exact fun h=>sz h|refine Wty ?_)|exact sq|fail
 all_goals try(exfalso;omega)
 all_goals (repeat (rename_i x;first|exact WMk.o x|(refine Wmd x ?_;clear x)|revert x))):G:=hs a b ⟨k⟩
theorem Wlg(a:A)(k:G')(hs:A->WMk G'->G:=by
 intro a _
 repeat' first|with_reducible intro _|refine sv ?_|((with_reducible first|apply zk|apply zp|apply zh);exact gd;exact rfl;exact rfl;first|exact a|exact a _|exact a _ xg|exact a _ _|fail)|(refine ss ?_ ?_<;>first|exact fun h=>sz h|refine Wty ?_)|exact sq|fail
 all_goals try(exfalso;omega)
 all_goals (repeat (rename_i x;first|exact WMk.o x|(refine Wmd x ?_;clear x)|revert x))):G:=hs a ⟨k⟩
theorem Wlh(a:A)(k:G')(hs:A->WMk G'->G:=by
 intro a _
 repeat' first|with_reducible intro _|refine sv ?_|((with_reducible first|apply zk|apply zp|apply zh);exact gd;exact rfl;exact rfl;first|exact a|exact a _|exact a _ xg|exact a _ _|fail)|(refine ss ?_ ?_<;>first|exact fun h=>sz h|refine Wty ?_)|exact sq|fail
 all_goals (repeat (rename_i x;first|exact WMk.o x|(refine Wmd x ?_;clear x)|revert x))):G:=hs a ⟨k⟩