/-
 The same of operations in any drawn order;closed calls by their entries. No condition.
-/
import Derived.Test.YtpgalhbplcanhaaGreatDoorPvD
import Derived.RowKit3
import Derived.WideKeyArgs
import Derived.Handed
import Derived.SizedLaws
import Derived.ProofKit
import Derived.Lib.LaidTab
import Derived.Stop.LaidErr
section
namespace PvL
open Go
variable {n i:Nat} {all:List Oper} {ds:List Nat} {o:Oper}
section prot
variable {Pt:Prot} {ρ:Rho} {m:Mem} {w:World}
def Prot.hide (Pt:Prot)(b:Nat)(o:Obj):Prot:=⟨fun x=>if x=b then some o else Pt x,Pt.ro,fun x c=>by
 by_cases e:x=b
 ·simp[e]
 ·simp only[e,if_false];exact Pt.sub x c,Pt.base,Pt.os,Pt.out⟩
def Prot.free (Pt:Prot)(b:Nat)(d:¬Pt.ro b):Prot:=⟨fun x=>if x=b then none else Pt x,Pt.ro,fun x c=>by
 by_cases e:x=b
 ·subst e;exact absurd c d
 ·simp only[e,if_false];exact Pt.sub x c,Pt.base,Pt.os,Pt.out⟩
def Prot.Le (A B:Prot):Prop:=(∀ x o,A x=some o->B x=some o)/\A.ro=B.ro/\A.base=B.base/\A.os=B.os/\A.out=B.out
theorem Rel.weaken {Pt':Prot}(g:Pt.Le Pt')(h:Rel Pt' ρ m w):Rel Pt ρ m w:=by
 refine⟨fun r o t=>h.keep r o (g.1 r o t),fun i v z=>?_,h.inj,by rw[g.2.2.2.1,g.2.2.2.2];exact h.still⟩
 obtain⟨B,b,s,c,o,e,x,y,d⟩:=h.live i v z
 refine⟨B,b,s,c,o,e,x,y,?_⟩
 cases t:isRo v with
 | true=>
  rw[t] at d
  have d:Pt' b=some o/\Pt'.ro b:=d
  rw[<-g.2.1] at d
  refine⟨?_,d.2⟩
  cases p:Pt b with
  | none=>exact absurd p (Pt.sub b d.2)
  | some u=>rw[g.1 b u p] at d;exact d.1
 | false=>
  rw[t] at d
  have d:Pt' b=none:=d
  show Pt b=none
  cases p:Pt b with
  | none=>rfl
  | some u=>rw[g.1 b u p] at d;cases d
theorem Rel.bump (h:Rel Pt ρ m w)(e:m.next<=n):Rel Pt ρ ⟨n,m.tr⟩ w :=
 ⟨h.keep,fun i g c=>by
  obtain⟨d,r⟩:=h.live i g c
  exact⟨Nat.lt_of_lt_of_le d e,r⟩,h.inj,h.still⟩
theorem Rel.out {M:Mem}{lb:LB}(hn:n<=M.next)(B:∀ i lb,M.get i=some lb->i<n)(h:Rel Pt ρ (M.push lb) w)(E:isRo lb=false) :
  ∃ b s c o,ρ M.next=some (b,s,c)/\BR ρ lb o s c/\Pt b=none/\Rel (Pt.hide b o) ρ ⟨n,M.tr⟩ w:=by
 have K:(M.push lb).get M.next=some lb:=by rw[Mem.get_push,if_pos rfl]
 have g:∀ i l,M.get i=some l->(M.push lb).get i=some l/\i≠M.next:=fun i l u=>by
  have C:i≠M.next:=fun e=>by have:=B i l u;omega
  rw[Mem.get_push,if_neg C];exact⟨u,C⟩
 obtain⟨_,b,s,c,o,e,S,V,z⟩:=h.live _ _ K
 rw[E] at z
 have z:Pt b=none:=z
 refine⟨b,s,c,o,e,S,z,fun r v d=>?_,fun i l u=>?_,fun i j l N x y u X=>?_,h.still⟩
 ·by_cases F:r=b
  ·have d:(if r=b then some o else Pt r)=some v:=d
   rw[if_pos F] at d;cases d;rw[F];exact V
  ·have d:(if r=b then some o else Pt r)=some v:=d
   rw[if_neg F] at d;exact h.keep r v d
 ·obtain⟨J,R⟩:=g i l u
  obtain⟨_,t,s',O,v,G,Y,Z,p⟩:=h.live i l J
  refine⟨B i l u,t,s',O,v,G,Y,Z,?_⟩
  cases d:isRo l with
  | true=>
   rw[d] at p
   have p:Pt t=some v/\Pt.ro t:=p
   refine⟨?_,p.2⟩
   show(if t=b then some o else Pt t)=some v
   rw[if_neg (fun e=>by rw[e,z] at p;cases p.1)];exact p.1
  | false=>
   rw[d] at p
   have p:Pt t=none:=p
   show(if t=b then some o else Pt t)=none
   rw[if_neg (fun Q=>R (h.inj i M.next l lb _ _ J K d E G e Q))];exact p
 ·exact h.inj i j l N x y (g i l u).1 (g j N X).1
theorem Rel.back (h:Rel Pt ρ m w){lb:LB}{b s c:Nat}{o:Obj}(u:ρ m.next=some (b,s,c))(hb:BR ρ lb o s c)(X:Pt b=some o)(Q:isRo lb=false)(E:¬Pt.ro b) :
  Rel (Pt.free b E) ρ (m.push lb) w:=by
 refine⟨fun r v p=>?_,fun i l t=>?_,fun i j l Y x y t C S V J K N=>?_,h.still⟩
 ·have p:(if r=b then none else Pt r)=some v:=p
  by_cases e:r=b
  ·rw[if_pos e] at p;cases p
  ·rw[if_neg e] at p;exact h.keep r v p
 ·rw[Mem.get_push] at t
  by_cases e:i=m.next
  ·rw[if_pos e] at t;cases t
   refine⟨by show i<m.next+1;omega,b,s,c,o,by rw[e];exact u,hb,h.keep b o X,?_⟩
   rw[Q]
   show(if b=b then none else Pt b)=none
   rw[if_pos rfl]
  ·rw[if_neg e] at t
   obtain⟨hl,g,Z,R,v,G,k1,k2,d⟩:=h.live i l t
   refine⟨Nat.lt_succ_of_lt hl,g,Z,R,v,G,k1,k2,?_⟩
   cases p:isRo l with
   | true=>
    rw[p] at d
    have d:Pt g=some v/\Pt.ro g:=d
    refine⟨?_,d.2⟩
    show(if g=b then none else Pt g)=some v
    have O:g≠b:=fun e=>E (e▸d.2)
    rw[if_neg O];exact d.1
   | false=>
    rw[p] at d
    have d:Pt g=none:=d
    show(if g=b then none else Pt g)=none
    by_cases e:g=b
    ·rw[if_pos e]
    ·rw[if_neg e];exact d
 ·rw[Mem.get_push] at t C
  have F:∀ k M z,m.get k=some M->isRo M=false->ρ k=some z->z.1≠b:=fun k M z hk p hz e=>by
   obtain⟨_,g,Z,R,v,G,_,_,d⟩:=h.live k M hk
   rw[p] at d
   have d:Pt g=none:=d
   rw[hz] at G;cases G
   have e:g=b:=e
   rw[e,X] at d;cases d
  by_cases e:i=m.next
  ·by_cases B:j=m.next
   ·rw[e,B]
   ·rw[if_neg B] at C
    rw[e,u] at J;cases J
    exact absurd N.symm (F j Y y C V K)
  ·rw[if_neg e] at t
   by_cases B:j=m.next
   ·rw[B,u] at K;cases K
    exact absurd N (F i l x t S J)
   ·rw[if_neg B] at C
    exact h.inj i j l Y x y t C S V J K N
end prot
section puts
theorem Tm.put_eq {T T':Tm}{d:Option Tmp}{v:LV}(h:T.put d v=some T'):T'.size=T.size/\(∀ t,d=some t->T'.get t=v) /\ ∀ t,d≠some t->T'.get t=T.get t:=by
 cases d with
 | none=>
  cases h
  refine⟨rfl,?_,?_⟩
  ·intro t e;cases e
  ·intro t _;rfl
 | some d=>
  have h:T.set d v=some T':=h
  refine⟨by obtain⟨_,rfl⟩:=Tm.set_eq.1 h;rfl,fun t e=>?_,fun t e=>?_⟩
  ·cases e;rw[Tm.get_set h,if_pos rfl]
  ·rw[Tm.get_set h,if_neg (fun c=>e (by rw[c]))]
theorem Tm.put_other {T T' U:Tm}{d:Option Tmp}{v:LV}(h:T.put d v=some T')(g:U.size=T.size)(v':LV):∃ c,U.put d v'=some c:=by
 cases d with
 | none=>exact⟨U,rfl⟩
 | some d=>
  obtain⟨e,_⟩:=Tm.set_eq.1 (show T.set d v=some T' from h)
  exact⟨_,Tm.set_eq.2 ⟨by rw[g];exact e,rfl⟩⟩
variable {P:Program} {rec:Task->Option Out}
def Puts (T T':Tm)(d:Option Tmp):Prop:=T'.size=T.size /\ ∀ t,d≠some t->T'.get t=T.get t
theorem z1c.puts {X:Option R1}{T T':Tm}{e:Mem}{d:Option Tmp}(h:z1c rec X T d T' e):Puts T T' d:=by
 cases h with
 | val _ c=>have:=Tm.put_eq c;exact⟨this.1,this.2.2⟩
 | skip _ c=>have:=Tm.put_eq c;exact⟨this.1,this.2.2⟩
 | enter _ _ c=>have:=Tm.put_eq c;exact⟨this.1,this.2.2⟩
 | round _ _ c=>have:=Tm.put_eq c;exact⟨this.1,this.2.2⟩
theorem z1c.congr {X:Option R1}{T T' U:Tm}{x:Mem}{d:Option Tmp}(h:z1c rec X T d T' x)(y:U.size=T.size) :
  ∃ c,z1c rec X U d c x/\Puts U c d /\ ∀ t,d=some t->c.get t=T'.get t:=by
 have r:∀ v,T.put d v=some T'->∃ c,U.put d v=some c/\Puts U c d /\ ∀ t,d=some t->c.get t=T'.get t:=fun v p=>by
  obtain⟨c,g⟩:=Tm.put_other p y v
  exact⟨c,g,⟨(Tm.put_eq g).1,(Tm.put_eq g).2.2⟩,fun t e=>by rw[(Tm.put_eq g).2.1 t e,(Tm.put_eq p).2.1 t e]⟩
 cases h with
 | val h p=>obtain⟨c,g,s⟩:=r _ p;exact⟨c,.val h g,s⟩
 | skip h p=>obtain⟨c,g,s⟩:=r _ p;exact⟨c,.skip h g,s⟩
 | enter h u p=>obtain⟨c,g,s⟩:=r _ p;exact⟨c,.enter h u g,s⟩
 | round h u p=>obtain⟨c,g,s⟩:=r _ p;exact⟨c,.round h u g,s⟩
theorem OpStep.congr {T T' U:Tm}{m g:Mem}{op:Op}{d:Option Tmp}(h:OpStep P rec T m op d T' g)(e:op1 P op T m=op1 P op U m)(p:U.size=T.size) :
  ∃ c,OpStep P rec U m op d c g/\Puts U c d /\ ∀ t,d=some t->c.get t=T'.get t:=by
 have:=z1c.congr h p
 rw[e] at this
 exact this
end puts
section trace
variable {P:Program} {rec:Task->Option Out}
theorem DStep.mono {dd e:Nat->Prop}{s r:DS}(h:DStep P rec dd all ds o i s r)(p:∀ i,dd i->e i):DStep P rec e all ds o i s r:=by
 cases h with
 | mover d h c=>exact .mover d h c
 | new d h c=>exact .new d h c
 | anchor d h c=>exact .anchor d h c
 | calm d h c=>exact .calm d h c
 | offA d h c=>exact .offA d h c
 | off d h c=>exact .off d h c
 | deadA g h c t=>exact .deadA (p _ g) h c t
 | dead g h c=>exact .dead (p _ g) h c
theorem z5f {dd:Nat->Prop}{os:List Oper}{s e q:DS}(h1:DStep P rec dd all ds o i s e){D:Nat->DS}(g:D (i+1)=e)(h:D (i+1+os.length)=q)(p:∀ j o,os[j]?=some o->DStep P rec dd all ds o (i+1+j) (D (i+1+j)) (D (i+1+j+1))) :
  ∃ c:Nat->DS,c i=s/\c (i+(o::os).length)=q/\(∀ j o',(o::os)[j]?=some o'->DStep P rec dd all ds o' (i+j) (c (i+j)) (c (i+j+1))) /\ ∀ k,k≠i->c k=D k:=by
 refine⟨fun k=>if k=i then s else D k,by simp,?_,fun j o' d=>?_,fun k r=>by simp[r]⟩
 ·show(if i+(os.length+1)=i then s else D (i+(os.length+1)))=q
  rw[if_neg (by omega),<- h,show i+(os.length+1)=i+1+os.length by omega]
 ·cases j with
  | zero=>
   cases d
   show DStep P rec dd all ds o i (if i=i then s else D i) (if i+1=i then s else D (i+1))
   rw[if_pos rfl,if_neg (by omega),g];exact h1
  | succ j=>
   show DStep P rec dd all ds o' (i+(j+1)) (if i+(j+1)=i then s else D (i+(j+1))) (if i+(j+1)+1=i then s else D (i+(j+1)+1))
   rw[if_neg (by omega),if_neg (by omega)]
   have:=p j o' (by simpa using d)
   rw[show i+1+j=i+(j+1) by omega] at this
   exact this
theorem z6h {dd:Nat->Prop}:∀(os:List Oper) (i:Nat) (s q:DS),z04 P rec all ds os i s=some q ->
  ∃ D:Nat->DS,D i=s/\D (i+os.length)=q /\ ∀ j o,os[j]?=some o->DStep P rec dd all ds o (i+j) (D (i+j)) (D (i+j+1))
 | [],i,s,q,h=>by cases h;exact⟨fun _=>s,rfl,rfl,fun j o h=>by cases h⟩
 | o::os,i,s,q,h=>by
  obtain⟨v,h1,u⟩:=z7m h
  obtain⟨D,d,e,g⟩:=z6h os (i+1) v q u
  obtain⟨c,p,r,t,_⟩:=z5f h1 d e g
  exact⟨c,p,r,t⟩
theorem z5m {c:Nat}:∀(os:List Oper) (i:Nat) (s q:DS),z0k P rec all ds c os i s=some q ->
  ∃ D:Nat->DS,D i=s/\D (i+os.length)=q /\ ∀ j o,os[j]?=some o->DStep P rec (fun i=>Nat.testBit (ds.getD i 0) c=true) all ds o (i+j) (D (i+j)) (D (i+j+1))
 | [],i,s,q,h=>by cases h;exact⟨fun _=>s,rfl,rfl,fun j o h=>by cases h⟩
 | o::os,i,s,q,h=>by
  obtain⟨x,h1,v⟩:=z6f h
  obtain⟨D,e,g,p⟩:=z5m os (i+1) x q v
  obtain⟨d,r,t,u,_⟩:=z5f h1 e g p
  exact⟨d,r,t,u⟩
def Dead (ds:List Nat)(c:Nat)(i:Nat):Prop:=i=c∨Nat.testBit (ds.getD i 0) c=true
theorem z6e (F:z0n rec):∀(os:List Oper) (i:Nat) (s:DS) (q:LV×Mem×DS),z0a P rec all ds os i s=some q ->
  ∃(D:Nat->DS) (c:Nat) (d:Oper),D i=s/\D (i+os.length)=q.2.2/\i<=c/\os[c-i]?=some d/\(∀ j o,os[j]?=some o->DStep P rec (Dead ds c) all ds o (i+j) (D (i+j)) (D (i+j+1))) /\
   wanted all (D c).T d.guard=some true/\zf P d.op=true/\(∃ f p u,op1 P d.op (D c).T (D c).m=some (.enter f p u)/\rec (.call f p u)=some (.die q.1 q.2.1))/\(D (c+1)).m.next=q.2.1.next
 | [],i,s,q,h=>by cases h
 | o::os,i,s,q,h=>by
  cases z7l h with
  | go h1 t=>
   rename_i Y
   obtain⟨D,c,d,r,x,C,J,K,M,N,O,Q⟩:=z6e F os (i+1) Y q t
   obtain⟨v,e,y,z,g⟩:=z5f (h1.mono fun _ h=>h.elim) r x K
   refine⟨v,c,d,e,y,by omega,?_,z,?_,N,?_,?_⟩
   ·rw[show c-i=(c-(i+1))+1 by omega,List.getElem?_cons_succ];exact J
   ·rw[g c (by omega)];exact M
   ·rw[g c (by omega)];exact O
   ·rw[g (c+1) (by omega)];exact Q
  | die X E h1 t R S=>
   rename_i f p u G
   obtain⟨D,r,x,C⟩:=z5m os (i+1) _ _ S
   have B:s.m.next<=q.2.1.next:=Nat.le_trans (z48 o.op _ h1) (F _ _ t)
   have hstep:DStep P rec (Dead ds i) all ds o i s ⟨G,⟨q.2.1.next,s.m.tr⟩,⟨q.2.1.next,s.m.tr⟩::s.st,s.k+1,s.ps⟩:=.deadA (.inl rfl) R E B
   obtain⟨v,e,y,z,g⟩:=z5f hstep r x fun j o V=>(C j o V).mono fun _ h=>.inr h
   refine⟨v,i,o,e,y,Nat.le_refl _,by rw[Nat.sub_self];rfl,z,by rw[e];exact X,by rw[zf,E],⟨f,p,u,by rw[e];exact h1,t⟩,?_⟩
   rw[g (i+1) (by omega),r]
theorem z9v {p:Pend}:∀(pre:List Mem) (c:Mem) (rest:List Mem) (K:Nat),pendAt P p (pre++c::rest) K=true->pre.length<=K->p.lo<=K-pre.length->K-pre.length<=p.hi->z1t P p c=true
 | [],c,rest,K,h,_,h1,d=>by
  obtain⟨e,_⟩:=(Bool.and_eq_true _ _▸h:ifb (Nat.ble p.lo K&&Nat.ble K p.hi) (z1t P p c) true=true/\pendAt P p rest (K-1)=true)
  rw[show Nat.ble p.lo K=true from by rw[Nat.ble_eq];simpa using h1,show Nat.ble K p.hi=true from by rw[Nat.ble_eq];simpa using d] at e
  exact e
 | x::pre,c,rest,K,h,g,h1,d=>by
  obtain⟨_,e⟩:=(Bool.and_eq_true _ _▸h:ifb (Nat.ble p.lo K&&Nat.ble K p.hi) (z1t P p x) true=true/\pendAt P p (pre++c::rest) (K-1)=true)
  simp only[List.length_cons] at g h1 d
  exact z9v pre c rest (K-1) e (by omega) (by rw[show K-1-pre.length=K-(pre.length+1) by omega];exact h1) (by rw[show K-1-pre.length=K-(pre.length+1) by omega];exact d)
theorem z7u {st:List Mem}{k:Nat}:∀(d:List Pend),z0q P st k d=true->∀ p∈d,pendAt P p st k=true
 | [],_,p,h=>by cases h
 | x::xs,h,p,c=>by
  obtain⟨h1,e⟩:=(Bool.and_eq_true _ _▸h:pendAt P x st k=true/\z0q P st k xs=true)
  rcases List.mem_cons.1 c with rfl|c
  ·exact h1
  ·exact z7u xs e p c
theorem DStep.facts {dd:Nat->Prop}{s d:DS}(h:DStep P rec dd all ds o i s d) :
  Puts s.T d.T o.dst/\d.k=s.k+ifb (zf P o.op) 1 0/\(if zf P o.op then d.st=d.m::s.st else d.st=s.st)/\(∃ r,d.ps=r++s.ps):=by
 cases h with
 | mover e h c=>
  refine⟨h.puts,by simp[zf,c,ifb],by simp[zf,c],?_⟩
  cases u:z0o o.op with
  | true=>exact⟨[_],rfl⟩
  | false=>exact⟨[],rfl⟩
 | calm e h c=>exact⟨h.puts,by simp[zf,c,ifb],by simp[zf,c],[],rfl⟩
 | new e h c=>exact⟨h.puts,by simp[zf,c,ifb],by simp[zf,c],[],rfl⟩
 | anchor e h c=>exact⟨h.puts,by simp[zf,c,ifb],by simp[zf,c],[],rfl⟩
 | offA e h c=>exact⟨⟨(Tm.put_eq h).1,(Tm.put_eq h).2.2⟩,by simp[zf,c,ifb],by simp[zf,c],[],rfl⟩
 | off e h c=>
  have:zf P o.op=false:=by
   unfold zf
   cases g:cls P o.op<;>first|rfl|exact absurd g c
  exact⟨⟨(Tm.put_eq h).1,(Tm.put_eq h).2.2⟩,by simp[this,ifb],by simp[this],[],rfl⟩
 | deadA p h c t=>exact⟨⟨(Tm.put_eq h).1,(Tm.put_eq h).2.2⟩,by simp[zf,c,ifb],by simp[zf,c],[],rfl⟩
 | dead p h c=>
  have:zf P o.op=false:=by
   unfold zf
   cases g:cls P o.op<;>first|rfl|exact absurd g c
  exact⟨⟨(Tm.put_eq h).1,(Tm.put_eq h).2.2⟩,by simp[this,ifb],by simp[this],[],rfl⟩
end trace
end PvL
end
section
namespace PvL
open Go
variable {f:FuncId} {o:Oper} {ro:Option Nat} {all os:List Oper} {op:Op} {j q:Nat}
section pure
variable {P:Program} {rec:Task->Option Out} {call:FuncId->Bool}
def PureCalls (rec:Task->Option Out)(call:FuncId->Bool):Prop :=
 ∀ f,call f=true->∀ c m o,rec (.call f c m)=some o->∃ v,o=.call v m /\ ∀ M,rec (.call f c M)=some (.call v M)
def PCode (rec:Task->Option Out)(call:FuncId->Bool):Prop:=∀ c,z0r call c=true->∀ h ro T p m o,rec (.code h ro c T p m)=some o ->
 ∃ e g,o=.code e g p m /\ ∀ d M,rec (.code h ro c T d M)=some (.code e g d M)
def RecPure (P:Program)(rec:Task->Option Out):Prop:=∀ d,d<=3->PureCalls rec (z1i P d)/\PCode rec (z1i P d)
theorem zc5 {a b:Bool}(h:ifb a b false=true):a=true/\b=true:=by
 cases a with
 | true=>exact⟨rfl,h⟩
 | false=>cases h
def NoSame (P:Program)(call:FuncId->Bool):Prop:=∀ f,call f=true->extK P f=0
theorem zrz {fn:Func}(h:fnOf P f=some fn):extK P f=0:=by
 obtain⟨e,d,_⟩:=z41 h
 unfold extK
 rw[e]
 cases c:fn.body with
 | none=>rw[c] at d;cases d
 | some _=>show ifb (fn.body).isNone _ _=_;rw[c];rfl
theorem zm0 {d:Nat}(h:z1i P d f=true):∃ fn,fnOf P f=some fn:=by
 cases d with
 | zero=>cases h
 | succ d=>
  have e:oe (fnOf P f) false (fun fn=>oe fn.body false fun c=>ifb (z0r (z1i P d) c) (pureRes fn.results.toList) false)=true:=h
  cases g:fnOf P f with
  | none=>rw[g] at e;cases e
  | some fn=>exact⟨fn,rfl⟩
theorem z9o (d:Nat):NoSame P (z1i P d):=fun f h=>by
 obtain⟨c,h⟩:=zm0 h
 exact zrz h
theorem z4z {α:Type}(x:Option α):oe x none some=x:=by cases x<;>rfl
theorem zm1 (u:NoSame P call){o:Op}{T:Tm}(h:pureOp call o=true):isDefer o=none/\((∃ X:Option LV,∀ m,opA P o T m=ob X (rv m)) ∨ ∃ f,call f=true /\ ∃ A:Option (List LV),∀ m,opA P o T m=ob A fun e=>some (.enter f e m)):=by
 have gen:∀(o:Op),(match cls0 o with | .mover=>!(z0o o) && !(onlyX o)|_=>false)=true->(∀ m,opA P o T m=oe (op1 P o T m) (opX P o T m) some)->isDefer o=none/\((∃ X:Option LV,∀ m,opA P o T m=ob X (rv m)) ∨ ∃ f,call f=true /\ ∃ A:Option (List LV),∀ m,opA P o T m=ob A fun e=>some (.enter f e m)):=fun o h E=>by
  cases t:cls0 o with
  | mover=>
   rw[t] at h
   obtain⟨X,F,J⟩:=zls (P:=P) (T:=T) o t
   have h:(!(z0o o) && !(onlyX o))=true:=h
   simp only[Bool.and_eq_true,Bool.not_eq_true'] at h
   obtain⟨z,B⟩:=h
   have v:∀ m,opX P o T m=none:=fun m=>by cases o<;>first|rfl|(cases B;done)|(cases z;done)
   have G:isDefer o=none:=by cases o<;>first|rfl|(cases B;done)
   refine⟨G,.inl ⟨X ⟨0,.nil⟩,fun m=>?_⟩⟩
   rw[E,v,F,J z m ⟨0,.nil⟩]
   cases X ⟨0,.nil⟩<;>rfl
  | _=>rw[t] at h;cases h
 cases o
 case call c=>
  obtain⟨p,d,s⟩:=c
  cases p with
  | value f=>
   cases f with
   | func g=>
    have h:call g=true:=h
    refine⟨rfl,.inr ⟨g,h,ob (evs T d.toList) fun e=>some ([]++e++[]),fun m=>?_⟩⟩
    have C:op1 P (.call ⟨.value (.func g),d,s⟩) T m=ob (evs T d.toList) fun e=>callV (.func (.func g) [] []) e m:=by
     show ob (evs T d.toList) (fun e=>nE (extK P g) (ob (ev T (.func g)) fun f=>callV f e m) fun k=>extL (Nat.succ k) (extE P g) e m)=_
     rw[u g h];rfl
    show oe (op1 P (.call ⟨.value (.func g),d,s⟩) T m) none some=_
    rw[C,z0l,z4z]
    cases evs T d.toList<;>rfl
   | _=>cases h
  | invoke r n=>cases h
  | builtin b=>
   cases b<;>first|(cases h;done)|skip
   all_goals (
    first
    |(refine⟨rfl,.inl ⟨ob (evs T d.toList) fun e=>lE e none fun x y=>foldL max2L y x,fun m=>?_⟩⟩
      rw[z0l]
      show oe (ob (evs T d.toList) _) none some=_
      rw[z4z]
      congr 1
      funext e
      cases e<;>rfl)
    |(refine⟨rfl,.inl ⟨ob (evs T d.toList) fun e=>lE e none fun x y=>foldL min2L y x,fun m=>?_⟩⟩
      rw[z0l]
      show oe (ob (evs T d.toList) _) none some=_
      rw[z4z]
      congr 1
      funext e
      cases e<;>rfl))
 all_goals exact gen _ h fun m=>rfl
theorem zj1 {T T':Tm}{ms:List Dfr}{m r:Mem}{v:LV}(p:wanted all T o.guard=some true)(e:isDefer o.op=none)(d:opA P o.op T m=some (.val v r))(h:T.put o.dst v=some T') :
  z0c P ro rec all (o::os) T ms m=z0c P ro rec all os T' ms r:=by
 obtain⟨c,op,s,t,u,g⟩:=o
 show ob (wanted all T g) _=_
 have p:wanted all T g=some true:=p
 have e:isDefer op=none:=e
 have d:opA P op T m=some (.val v r):=d
 have h:T.put c v=some T':=h
 rw[p]
 show oe (isDefer op) _ _=_
 rw[e]
 show ob (opA P op T m) _=_
 rw[d]
 show ob (T.put c v) _=_
 rw[h];rfl
theorem ze5 {T T':Tm}{ms:List Dfr}{m e t:Mem}{d:List LV}{v:LV}(s:wanted all T o.guard=some true)(p:isDefer o.op=none)(h:opA P o.op T m=some (.enter f d e))(u:rec (.call f d e)=some (.call v t))(r:T.put o.dst v=some T') :
  z0c P ro rec all (o::os) T ms m=z0c P ro rec all os T' ms t:=by
 obtain⟨c,op,x,y,z,g⟩:=o
 show ob (wanted all T g) _=_
 have s:wanted all T g=some true:=s
 have p:isDefer op=none:=p
 have h:opA P op T m=some (.enter f d e):=h
 have r:T.put c v=some T':=r
 rw[s]
 show oe (isDefer op) _ _=_
 rw[p]
 show ob (opA P op T m) _=_
 rw[h]
 show z15 (rec (.call f d e)) _ _=_
 rw[u]
 show ob (T.put c v) _=_
 rw[r];rfl
theorem z78 {T T':Tm}{ms:List Dfr}{m:Mem}(e:wanted all T o.guard=some false)(d:T.put o.dst z00=some T') :
  z0c P ro rec all (o::os) T ms m=z0c P ro rec all os T' ms m:=by
 obtain⟨c,op,h,p,r,g⟩:=o
 show ob (wanted all T g) _=_
 have e:wanted all T g=some false:=e
 have d:T.put c z00=some T':=d
 rw[e]
 show ob (T.put c z00) _=_
 rw[d];rfl
theorem z4a (y:PureCalls rec call)(p:NoSame P call):∀(os:List Oper) (T:Tm) (ms:List Dfr) (m:Mem) (q:Out),pureOps call os=true->z0c P ro rec all os T ms m=some q ->
  ∃ T',q=.code .norm T' ms m /\ ∀ ms' M,z0c P ro rec all os T ms' M=some (.code .norm T' ms' M)
 | [],T,ms,m,q,_,h=>by cases h;exact⟨T,rfl,fun _ _=>rfl⟩
 | o::os,T,ms,m,q,u,h=>by
  obtain⟨J,t⟩:=zc5 (show ifb (pureOp call o.op) (pureOps call os) false=true from u)
  obtain⟨B,g⟩:=zm1 (P:=P) (T:=T) p J
  cases z5z h with
  | off x c C=>
   obtain⟨T',e,d⟩:=z4a y p os _ ms m q t C
   exact⟨T',e,fun ms' M=>by rw[z78 x c];exact d ms' M⟩
  | dfr x z _ _ _ _=>rw[z] at B;cases B
  | boom x z s e=>
   exfalso
   rcases g with⟨X,F⟩|⟨f,G,A,E⟩
   ·rw[F] at s
    cases s with
    | boom h=>obtain⟨v,_,e⟩:=z9.1 h;cases e
    | enter h r=>obtain⟨v,_,e⟩:=z9.1 h;cases e
    | round h r=>obtain⟨v,_,e⟩:=z9.1 h;cases e
   ·rw[E] at s
    cases s with
    | boom h=>obtain⟨v,_,e⟩:=z9.1 h;cases e
    | enter h r=>obtain⟨v,_,e⟩:=z9.1 h;cases e;obtain⟨v,e,_⟩:=y f G _ _ _ r;cases e
    | round h r=>obtain⟨v,_,e⟩:=z9.1 h;cases e
  | on x z s C=>
   rcases g with⟨X,F⟩|⟨f,G,A,E⟩
   ·rw[F] at s
    cases s with
    | val h c=>
     obtain⟨v,K,e⟩:=z9.1 h;cases e
     obtain⟨T',e,d⟩:=z4a y p os _ ms _ q t C
     exact⟨T',e,fun ms' M=>by rw[zj1 x z (by rw[F,K];rfl) c];exact d ms' M⟩
    | skip h u=>obtain⟨v,_,e⟩:=z9.1 h;cases e
    | enter h r u=>obtain⟨v,_,e⟩:=z9.1 h;cases e
    | round h r u=>obtain⟨v,_,e⟩:=z9.1 h;cases e
   ·rw[E] at s
    cases s with
    | val h c=>obtain⟨v,_,e⟩:=z9.1 h;cases e
    | skip h u=>obtain⟨v,_,e⟩:=z9.1 h;cases e
    | enter h r c=>
     obtain⟨O,K,e⟩:=z9.1 h;cases e
     obtain⟨v,e,N⟩:=y f G _ _ _ r
     cases e
     obtain⟨T',e,d⟩:=z4a y p os _ ms _ q t C
     exact⟨T',e,fun ms' M=>by rw[ze5 x z (by rw[E,K];rfl) (N M) c];exact d ms' M⟩
    | round h r u=>obtain⟨v,_,e⟩:=z9.1 h;cases e
theorem zcc (O:PureCalls rec call)(G:NoSame P call)(B:PCode rec call):∀ c,z0r call c=true->∀ fn ro T ms m o,stCode P rec fn ro c T ms m=some o ->
  ∃ e T',o=.code e T' ms m /\ ∀ ms' M,stCode P rec fn ro c T ms' M=some (.code e T' ms' M):=by
 intro c y fn ro T ms m o h
 cases c with
 | skip=>cases h;exact⟨_,_,rfl,fun _ _=>rfl⟩
 | label l=>cases h;exact⟨_,_,rfl,fun _ _=>rfl⟩
 | ret=>cases h;exact⟨_,_,rfl,fun _ _=>rfl⟩
 | exit id=>cases h;exact⟨_,_,rfl,fun _ _=>rfl⟩
 | seq a b=>
  obtain⟨F,t⟩:=zc5 (show ifb (z0r call a) (z0r call b) false=true from y)
  obtain⟨K,z,h⟩:=z9.1 (show ob (rec (.code fn ro a T ms m)) _=some o from h)
  obtain⟨u,g,rfl,d⟩:=B a F _ _ _ _ _ _ z
  cases u with
  | norm=>
   obtain⟨E,C,rfl,s⟩:=B b t _ _ _ _ _ _ (show rec (.code fn ro b g ms m)=some o from h)
   refine⟨E,C,rfl,fun ms' M=>?_⟩
   show ob (rec (.code fn ro a T ms' M)) _=_
   rw[d];exact s ms' M
  | ret=>
   cases h
   refine⟨_,g,rfl,fun ms' M=>?_⟩
   show ob (rec (.code fn ro a T ms' M)) _=_
   rw[d];rfl
  | exit id=>
   cases h
   refine⟨_,g,rfl,fun ms' M=>?_⟩
   show ob (rec (.code fn ro a T ms' M)) _=_
   rw[d];rfl
 | cond x a b=>
  obtain⟨F,t⟩:=zc5 (show ifb (z0r call a) (z0r call b) false=true from y)
  obtain⟨v,z,h⟩:=z9.1 (show ob (ev T x) _=some o from h)
  cases v<;>first|(cases h;done)|skip
  case bool c=>
   cases c with
   | true=>
    obtain⟨u,g,rfl,d⟩:=B a F _ _ _ _ _ _ (show rec (.code fn ro a T ms m)=some o from h)
    refine⟨u,g,rfl,fun ms' M=>?_⟩
    show ob (ev T x) _=_
    rw[z];exact d ms' M
   | false=>
    obtain⟨u,g,rfl,d⟩:=B b t _ _ _ _ _ _ (show rec (.code fn ro b T ms m)=some o from h)
    refine⟨u,g,rfl,fun ms' M=>?_⟩
    show ob (ev T x) _=_
    rw[z];exact d ms' M
 | block id b=>
  have t:z0r call b=true:=y
  obtain⟨K,z,h⟩:=z9.1 (show ob (rec (.code fn ro b T ms m)) _=some o from h)
  obtain⟨u,g,rfl,d⟩:=B b t _ _ _ _ _ _ z
  have p:∀ ms' M,stCode P rec fn ro (.block id b) T ms' M=exE u (some (.code .norm g ms' M)) (some (.code .ret g ms' M)) (fun r=>ifb (Nat.beq r id) (some (.code .norm g ms' M)) (some (.code (.exit r) g ms' M))):=fun ms' M=>by
   show ob (rec (.code fn ro b T ms' M)) _=_
   rw[d];rfl
  cases u with
  | norm=>cases h;exact⟨_,_,rfl,p⟩
  | ret=>cases h;exact⟨_,_,rfl,p⟩
  | exit r=>
   have h:ifb (Nat.beq r id) (some (Out.code .norm g ms m)) (some (.code (.exit r) g ms m))=some o:=h
   have p:∀ ms' M,stCode P rec fn ro (.block id b) T ms' M=ifb (Nat.beq r id) (some (.code .norm g ms' M)) (some (.code (.exit r) g ms' M)):=p
   cases J:Nat.beq r id with
   | true=>rw[J] at h p;cases h;exact⟨_,_,rfl,p⟩
   | false=>rw[J] at h p;cases h;exact⟨_,_,rfl,p⟩
 | loop b=>
  have t:z0r call b=true:=y
  obtain⟨K,z,h⟩:=z9.1 (show ob (rec (.code fn ro b T ms m)) _=some o from h)
  obtain⟨u,g,rfl,d⟩:=B b t _ _ _ _ _ _ z
  cases u with
  | norm=>
   obtain⟨E,C,rfl,s⟩:=B (.loop b) y _ _ _ _ _ _ (show rec (.code fn ro (.loop b) g ms m)=some o from h)
   refine⟨E,C,rfl,fun ms' M=>?_⟩
   show ob (rec (.code fn ro b T ms' M)) _=_
   rw[d];exact s ms' M
  | ret=>
   cases h
   refine⟨_,g,rfl,fun ms' M=>?_⟩
   show ob (rec (.code fn ro b T ms' M)) _=_
   rw[d];rfl
  | exit id=>
   cases h
   refine⟨_,g,rfl,fun ms' M=>?_⟩
   show ob (rec (.code fn ro b T ms' M)) _=_
   rw[d];rfl
 | scope b=>
  have t:z0r call b=true:=y
  exact B b t _ _ _ _ _ _ h
 | region id ops N=>
  cases N with
  | true=>cases y
  | false=>
   have t:pureOps call ops.toList=true:=y
   obtain⟨g,e,d⟩:=z4a O G _ _ _ _ _ t (show z0c P ro rec ops.toList ops.toList T ms m=some o from h)
   exact⟨_,g,e,fun ms' M=>d ms' M⟩
 | _=>cases y
theorem zbf {T:Tm}:∀(c:List ResultVar),pureRes c=true->∀ m M,z0p P T m c=z0p P T M c
 | [],_,_,_=>rfl
 | .tmp t::c,h,m,M=>by
  show ob (evT T t) _=ob (evT T t) _
  rw[show z0p P T m c=z0p P T M c from zbf c h m M]
 | .cell x t::c,h,_,_=>by cases h
theorem z52 (C:RecPure P rec):RecPure P (stepT P rec):=fun d J=>by
  refine⟨fun f t p m o h=>?_,fun c E g ro T r m o h=>zcc (C d J).1 (z9o d) (C d J).2 c E g ro T r m o h⟩
  cases d with
  | zero=>cases t
  | succ d=>
   have h:ob (fnOf P f) (fun g=>ob (Tm.ofList g.ntmps p) fun T=>ob g.body fun c=>z1k (rec (.code f none c T [] m)) (fun e T r m=>exE e (finRet P rec g T r m) (finRet P rec g T r m) (fun _=>none)) fun v T r m=>finDie P rec g T v r m)=some o:=h
   have t:oe (fnOf P f) false (fun g=>oe g.body false fun c=>ifb (z0r (z1i P d) c) (pureRes g.results.toList) false)=true:=t
   obtain⟨g,F,h⟩:=z9.1 h
   rw[F] at t
   have t:oe g.body false (fun c=>ifb (z0r (z1i P d) c) (pureRes g.results.toList) false)=true:=t
   obtain⟨T,N,h⟩:=z9.1 h
   obtain⟨c,G,h⟩:=z9.1 h
   rw[G] at t
   obtain⟨E,Q⟩:=zc5 (show ifb (z0r (z1i P d) c) (pureRes g.results.toList) false=true from t)
   obtain⟨R,O,h⟩:=z9.1 (show ob (rec (.code f none c T [] m)) _=some o from h)
   obtain⟨e,u,rfl,x⟩:=(C d (by omega)).2 c E _ _ _ _ _ _ O
   have y:∀ M,stepT P rec (.call f p M)=exE e (finRet P rec g u [] M) (finRet P rec g u [] M) (fun _=>none):=fun M=>by
    show ob (fnOf P f) (fun g=>ob (Tm.ofList g.ntmps p) fun T=>ob g.body fun c=>z1k (rec (.code f none c T [] M)) (fun e T r m=>exE e (finRet P rec g T r m) (finRet P rec g T r m) (fun _=>none)) fun v T r m=>finDie P rec g T v r m)=_
    rw[F]
    show ob (Tm.ofList g.ntmps p) _=_
    rw[N]
    show ob g.body _=_
    rw[G]
    show ob (rec (.code f none c T [] M)) _=_
    rw[x];rfl
   have s:finRet P rec g u [] m=some o->∃ v,o=.call v m /\ ∀ M,finRet P rec g u [] M=some (.call v M):=fun h=>by
    have K:∀ M,finRet P rec g u [] M=ob (z0p P u M g.results.toList) fun vs=>some (.call (packed vs) M):=fun _=>rfl
    rw[K] at h
    obtain⟨vs,h5,h⟩:=z9.1 h
    cases h
    exact⟨_,rfl,fun M=>by rw[K,zbf _ Q M _,h5];rfl⟩
   cases e with
   | norm=>
    obtain⟨v,z,B⟩:=s h
    exact⟨v,z,fun M=>by rw[y];exact B M⟩
   | ret=>
    obtain⟨v,z,B⟩:=s h
    exact⟨v,z,fun M=>by rw[y];exact B M⟩
   | exit id=>cases h
theorem run_pure:∀ n,RecPure P (run P n)
 | 0=>fun d _=>⟨fun f _ args m o h=>by(cases h),fun c _ fn ro T ms m o h=>by(cases h)⟩
 | n+1=>z52 (run_pure n)
end pure
section
variable {P:Program} {rec:Task->Option Out} {dd:Nat->Prop} {ops:Array Oper} {D:Nat->DS}
theorem zlk {T T':Tm}{m s:Mem}{d:Option Tmp}(u:cls P op=.mover)(h:OpStep P rec T m op d T' s) :
  ∃ v,op1 P op T m=some (.val v m)/\T.put d v=some T'/\s=m:=by
 obtain⟨X,t,_⟩:=zls (P:=P) (T:=T) op (zdf u)
 have c:∀ r,op1 P op T m=some r->∃ v,r=.val v m:=fun r p=>by
  rw[t m] at p
  obtain⟨v,_,x⟩:=z9.1 p
  exact⟨v,(Option.some.inj x).symm⟩
 cases h with
 | val h g=>obtain⟨v,e⟩:=c _ h;cases e;exact⟨_,h,g,rfl⟩
 | skip h g=>obtain⟨v,e⟩:=c _ h;cases e
 | enter h p g=>obtain⟨v,e⟩:=c _ h;cases e
 | round h p g=>obtain⟨v,e⟩:=c _ h;cases e
theorem zhd {T T':Tm}{m p:Mem}{d:Option Tmp}(c:cls P op=.new)(h:OpStep P rec T m op d T' p) :
  ∃ v lb,T.put d v=some T'/\p=m.push lb/\isRo lb=false /\ ∀ M:Mem,M.next=m.next->op1 P op T M=some (.val v (M.push lb)):=by
 cases h with
 | val h g=>obtain⟨v,lb,e,r,s⟩:=zcb op (zc1 c) h;cases e;exact⟨_,lb,g,rfl,r,s⟩
 | skip h g=>obtain⟨v,lb,e,_⟩:=zcb op (zc1 c) h;cases e
 | enter h t g=>obtain⟨v,lb,e,_⟩:=zcb op (zc1 c) h;cases e
 | round h t g=>obtain⟨v,lb,e,_⟩:=zcb op (zc1 c) h;cases e
theorem zdb (y:RecPure P rec){T T':Tm}{m C:Mem}{d:Option Tmp}(J:cls P op=.calm)(h:OpStep P rec T m op d T' C) :
  C=m /\ ∀ M,OpStep P rec T M op d T' M:=by
 obtain⟨f,c,s,rfl,B⟩:=zno J
 have p:∀(m:Mem) (r:R1),op1 P (.call ⟨.value (.func f),c,s⟩) T m=some r->∃ g,r=.enter f g m /\ ∀ M,op1 P (.call ⟨.value (.func f),c,s⟩) T M=some (.enter f g M):=fun m r x=>by
  have z:∀ m,op1 P (.call ⟨.value (.func f),c,s⟩) T m=ob (evs T c.toList) fun g=>callV (.func (.func f) [] []) g m:=fun m=>by
   show ob (evs T c.toList) (fun g=>nE (extK P f) (ob (ev T (.func f)) fun f=>callV f g m) fun k=>extL (Nat.succ k) (extE P f) g m)=_
   rw[z9o 3 f B];rfl
  rw[z] at x
  obtain⟨g,E,F⟩:=z9.1 x
  refine⟨[]++g++[],(Option.some.inj F).symm,fun M=>?_⟩
  rw[z,E];rfl
 cases h with
 | val h y=>obtain⟨g,e,_⟩:=p _ _ h;cases e
 | skip h y=>obtain⟨g,e,_⟩:=p _ _ h;cases e
 | round h x y=>obtain⟨g,e,_⟩:=p _ _ h;cases e
 | enter h x u=>
  obtain⟨g,e,G⟩:=p _ _ h
  cases e
  obtain⟨v,e,t⟩:=(y 3 (Nat.le_refl _)).1 f B _ _ _ x
  cases e
  exact⟨rfl,fun M=>.enter (G M) (t M) u⟩
theorem DStep.mem (p:RecPure P rec){dd:Nat->Prop}{ds:List Nat}{i:Nat}{s r:DS}(h:DStep P rec dd all ds o i s r)(g:zf P o.op=false) :
  r.m=s.m ∨(isNew P o.op=true /\ ∃ lb,isRo lb=false/\r.m=s.m.push lb):=by
 cases h with
 | mover d h c=>obtain⟨_,_,_,e⟩:=zlk c h;exact .inl e
 | new d h c=>obtain⟨v,lb,_,e,u,_⟩:=zhd c h;exact .inr ⟨by simp[isNew,c],lb,u,e⟩
 | anchor d h c=>simp[zf,c] at g
 | calm d h c=>exact .inl (zdb p c h).1
 | offA d h c=>simp[zf,c] at g
 | off d h c=>exact .inl rfl
 | deadA t h c x=>simp[zf,c] at g
 | dead t h c=>exact .inl rfl
structure Tr (P:Program) (rec:Task->Option Out) (dd:Nat->Prop) (ops:Array Oper) (D:Nat->DS):Prop where
 ok:RegOk P ops
 mono:z0n rec
 pure:RecPure P rec
 step:∀ j o,ops[j]?=some o->DStep P rec dd ops.toList (deps ops) o j (D j) (D (j+1))
 st0:(D 0).st=[(D 0).m]
 k0:(D 0).k=0
 pend:z0q P (D ops.size).st (D ops.size).k (D ops.size).ps=true
theorem Tr.at_ (h:Tr P rec dd ops D)(c:j<ops.size):∃ o,ops[j]?=some o/\DStep P rec dd ops.toList (deps ops) o j (D j) (D (j+1)) :=
 ⟨ops[j],Array.getElem?_eq_getElem c,h.step j _ (Array.getElem?_eq_getElem c)⟩
theorem z14 (h:ops[j]?=some o):j<ops.size:=(Array.getElem?_eq_some_iff.1 h).1
theorem Tr.size (h:Tr P rec dd ops D):∀ j,j<=ops.size->(D j).T.size=(D 0).T.size
 | 0,_=>rfl
 | j+1,d=>by
  obtain⟨o,_,c⟩:=h.at_ (j:=j) (by omega)
  rw[c.facts.1.1,h.size j (by omega)]
theorem Tr.before (h:Tr P rec dd ops D){t:Tmp}:∀ j,j<=ops.size->(∀ i o,i<j->ops[i]?=some o->o.dst≠some t)->(D j).T.get t=(D 0).T.get t
 | 0,_,_=>rfl
 | j+1,p,c=>by
  obtain⟨o,d,e⟩:=h.at_ (j:=j) (by omega)
  rw[e.facts.1.2 t (c j o (by omega) d),h.before j (by omega) fun i o g=>c i o (by omega)]
theorem Tr.after (h:Tr P rec dd ops D){t:Tmp}:∀(d j:Nat),j+d=ops.size->(∀ i o,j<=i->ops[i]?=some o->o.dst≠some t)->(D ops.size).T.get t=(D j).T.get t
 | 0,j,e,_=>by rw[<-e];rfl
 | d+1,j,e,c=>by
  obtain⟨o,g,p⟩:=h.at_ (j:=j) (by omega)
  rw[h.after d (j+1) (by omega) fun i o r=>c i o (by omega),p.facts.1.2 t (c j o (by omega) g)]
theorem Tr.next (h:Tr P rec dd ops D):∀(d i:Nat),i+d<=ops.size->(D i).m.next<=(D (i+d)).m.next
 | 0,_,_=>Nat.le_refl _
 | d+1,i,e=>by
  obtain⟨o,_,c⟩:=h.at_ (j:=i+d) (by omega)
  exact Nat.le_trans (h.next d i (by omega)) (c.next h.mono)
theorem Tr.cnt (h:Tr P rec dd ops D):∀ j,j<=ops.size->(D j).k=acnt P (fun x=>Nat.blt x j) ops.toList 0
 | 0,_=>by
  rw[h.k0,z6w (q:=fun _=>false),z6x]
  intro j o _ _
  cases c:Nat.blt (0+j) 0 with
  | false=>rfl
  | true=>rw[Nat.blt_eq] at c;omega
 | j+1,g=>by
  obtain⟨o,d,e⟩:=h.at_ (j:=j) (by omega)
  rw[e.facts.2.1,h.cnt j (by omega),zcu j ops.toList 0 j o (by omega) (by simpa using d)]
theorem Tr.stk (h:Tr P rec dd ops D):∀(d j:Nat),j+d=ops.size->∃ pre,(D ops.size).st=pre ++(D j).st/\pre.length+(D j).k=(D ops.size).k
 | 0,j,e=>by rw[<-e];exact⟨[],rfl,by simp⟩
 | d+1,j,e=>by
  obtain⟨o,u,s⟩:=h.at_ (j:=j) (by omega)
  obtain⟨pre,p,t⟩:=h.stk d (j+1) (by omega)
  obtain⟨_,g,c,_⟩:=s.facts
  cases r:zf P o.op with
  | true=>
   rw[r] at c g
   have c:(D (j+1)).st=(D (j+1)).m ::(D j).st:=c
   have g:(D (j+1)).k=(D j).k+1:=g
   exact⟨pre++[(D (j+1)).m],by rw[p,c];simp,by simp;omega⟩
  | false=>
   rw[r] at c g
   have c:(D (j+1)).st=(D j).st:=c
   have g:(D (j+1)).k=(D j).k+0:=g
   exact⟨pre,by rw[p,c],by omega⟩
theorem Tr.pss (h:Tr P rec dd ops D):∀(d j:Nat),j+d=ops.size->∃ pre,(D ops.size).ps=pre ++(D j).ps
 | 0,j,e=>by rw[<-e];exact⟨[],rfl⟩
 | d+1,j,e=>by
  obtain⟨o,s,p⟩:=h.at_ (j:=j) (by omega)
  obtain⟨pre,c⟩:=h.pss d (j+1) (by omega)
  obtain⟨_,_,_,r,g⟩:=p.facts
  exact⟨pre++r,by rw[c,g];simp⟩
def AtEnd (P:Program)(ops:Array Oper)(q:Nat):Prop:=q=0 ∨ ∃ o,ops[q-1]?=some o/\zf P o.op=true/\0<q
theorem Tr.head (h:Tr P rec dd ops D)(g:AtEnd P ops q):∃ l,(D q).st=(D q).m::l:=by
 rcases g with rfl|⟨o,e,d,p⟩
 ·exact⟨[],h.st0⟩
 ·have c:=(h.step (q-1) o e).facts.2.2.1
  rw[d,show q-1+1=q by omega] at c
  exact⟨_,c⟩
theorem Tr.looked (h:Tr P rec dd ops D)(t:AtEnd P ops q)(u:q<=ops.size)(x:j<ops.size){p:Pend}(s:p∈(D (j+1)).ps)(r:p.lo<=(D q).k)(e:(D q).k<=p.hi):z1t P p (D q).m=true:=by
 obtain⟨l,g⟩:=h.head t
 obtain⟨pre,c,v⟩:=h.stk (ops.size-q) q (by omega)
 obtain⟨y,d⟩:=h.pss (ops.size-(j+1)) (j+1) (by omega)
 have:=z7u _ h.pend p (by rw[d];exact List.mem_append_right _ s)
 rw[c,g] at this
 exact z9v pre _ l _ this (by omega) (by omega) (by omega)
variable {Pt:Prot} {ρ0:Rho}
def News (P:Program)(ops:Array Oper)(D:Nat->DS)(L:Array Bool)(q:Nat)(Pt Pt':Prot)(ρ:Rho):Prop :=
 ∀ i o d,ops[i]?=some o->L.getD i false=true->q<=i->isNew P o.op=true->(D (i+1)).m=(D i).m.push d ->
  ∃ b s c ob,ρ (D i).m.next=some (b,s,c)/\BR ρ d ob s c/\Pt' b=some ob/\Pt b=none
def Dist (P:Program)(ops:Array Oper)(D:Nat->DS)(L:Array Bool)(q:Nat)(ρ:Rho):Prop :=
 ∀ i c o e h d x g,ops[i]?=some o->ops[c]?=some e->L.getD i false=true->L.getD c false=true->q<=i->q<=c->isNew P o.op=true->isNew P e.op=true ->
  (D (i+1)).m=(D i).m.push h->(D (c+1)).m=(D c).m.push d->i≠c->ρ (D i).m.next=some x->ρ (D c).m.next=some g->x.1≠g.1
structure Inv (P:Program) (ops:Array Oper) (D:Nat->DS) (Pt:Prot) (ρ0:Rho) (df:List Deferred) (L:Array Bool) (q:Nat) (U:Tm) (Pt':Prot) (ρ:Rho) (w:World) (a:Act):Prop where
 sizeL:L.size=ops.size
 qn:q<=ops.size
 hq:AtEnd P ops q
 anch:∀ i o,ops[i]?=some o->zf P o.op=true->(L.getD i false=true ↔ i < q)
 down:∀ j o,ops[j]?=some o->L.getD j false=true->∀ e ∈ o.after,Region.binds .any e=true->L.getD e.on false=true
 sz:U.size=(D 0).T.size
 tmp:∀(i:Nat) (o:Oper) (d:Tmp),ops[i]?=some o->o.dst=some d->U.get d=if L.getD i false=true then(D ops.size).T.get d else(D 0).T.get d
 tmp0:∀(d:Tmp),(∀(i:Nat) (o:Oper),ops[i]?=some o->o.dst ≠ some d)->U.get d=(D 0).T.get d
 hT:TR ρ U a.tmps
 hd:a.defers=df
 rel:Rel Pt' ρ (D q).m w
 le:Pt.Le Pt'
 news:News P ops D L q Pt Pt' ρ
 dist:Dist P ops D L q ρ
 fresh:∀ i,i < ops.size->L.getD i false=false->Fresh ρ (D i).m.next (D (i+1)).m.next
 same:Same ρ0 ρ (D 0).m.next (D ops.size).m.next
theorem Inv.adopt (h:Tr P rec dd ops D){df:List Deferred}{L:Array Bool}{U:Tm}{Pt':Prot}{ρ:Rho}{w:World}{a:Act}(hi:Inv P ops D Pt ρ0 df L q U Pt' ρ w a) :
  ∀(d:Nat),q+d<=ops.size->(∀ i o,q<=i->i<q+d->ops[i]?=some o->(isNew P o.op=true->L.getD i false=true)/\zf P o.op=false) ->
   ∃ g,Rel g ρ (D (q+d)).m w/\Pt.Le g/\News P ops D L (q+d) Pt g ρ
 | 0,_,_=>⟨Pt',hi.rel,hi.le,hi.news⟩
 | d+1,hn,S=>by
  obtain⟨t,h1,F,K⟩:=hi.adopt h d (by omega) fun i o a b=>S i o a (by omega)
  obtain⟨o,N,hs⟩:=h.at_ (j:=q+d) (by omega)
  obtain⟨p,M⟩:=S (q+d) o (by omega) (by omega) N
  rcases hs.mem h.pure M with e|⟨G,J,O,e⟩
  ·refine⟨t,?_,F,fun i o J C E g3=>K i o J C E (by omega)⟩
   show Rel t ρ (D (q+d+1)).m w
   rw[e];exact h1
  ·obtain⟨b,s,c,ob,X,k2,k3,Y⟩:=K (q+d) o J N (p G) (Nat.le_refl _) G e
   have u:¬t.ro b:=fun V=>by rw[<-F.2.1] at V;exact Pt.sub b V Y
   refine⟨t.free b u,?_,⟨fun x y Q=>?_,F.2⟩,fun i y v C E g3 g4 R=>?_⟩
   ·show Rel _ ρ (D (q+d+1)).m w
    rw[e];exact h1.back X k2 k3 O u
   ·show(if x=b then none else t x)=some y
    have r:x≠b:=fun eb=>by rw[eb,Y] at Q;cases Q
    rw[if_neg r];exact F.1 x y Q
   ·obtain⟨B,s',c',z,Z,l2,l3,l4⟩:=K i y v C E (by omega) g4 R
    have r:B≠b:=hi.dist i (q+d) y o v J _ _ C N E (p G) (by omega) (by omega) g4 G R e (by omega) Z X
    refine⟨B,s',c',z,Z,l2,?_,l4⟩
    show(if B=b then none else t B)=some z
    rw[if_neg r];exact l3
end
end PvL
end
section
namespace PvL
open Go
variable {all:List Oper} {q':Nat}
section
variable {P:Program} {rec:Task->Option Out} {dd:Nat->Prop} {ops:Array Oper} {D:Nat->DS} {Pt Pt':Prot} {ρ0 ρ:Rho} {df:List Deferred} {L:Array Bool} {q:Nat} {U:Tm} {w:World} {a:Act}
 {j:Nat} {o:Oper}
theorem z1s {L:Array Bool}{j:Nat}(c:j<L.size)(i:Nat):(L.setIfInBounds j true).getD i false=if i=j then true else L.getD i false:=by
 by_cases e:i=j
 ·subst e;simp[c]
 ·rw[if_neg e,getD_set_ne false (Ne.symm e)]
theorem Inv.deps (hi:Inv P ops D Pt ρ0 df L q U Pt' ρ w a)(d:ops[j]?=some o)(g:∀ e∈o.after,Region.binds .any e=true->L.getD e.on false=true){i:Nat}(c:Nat.testBit ((deps ops).getD j 0) i=true):L.getD i false=true :=
 z5t (S:=fun i=>L.getD i false=true) hi.down (j+1) j (Nat.lt_succ_self _) o d g i c
theorem Inv.look (h:Tr P rec dd ops D)(hi:Inv P ops D Pt ρ0 df L q U Pt' ρ w a)(y:ops[j]?=some o)(F:L.getD j false=false)(M:∀ e∈o.after,Region.binds .any e=true->L.getD e.on false=true){t:Tmp}(O:t∈looks ops.toList o):(D j).T.get t=U.get t:=by
 have G:=z14 y
 by_cases z:∃(i:Nat) (d:Oper),ops[i]?=some d/\d.dst=some t
 ·obtain⟨i,d,c,p⟩:=z
  obtain⟨K,B,C⟩:=h.ok.pair j i o d t y c p O
  rw[hi.tmp i d t c p]
  by_cases J:i<j
  ·rw[if_pos (hi.deps y M (B J))]
   exact(h.after (ops.size-j) j (by omega) fun s u v g e=>by
    have:=h.ok.uniq i s d u t c g p e
    omega).symm
  ·have x:j<i:=by omega
   rw[if_neg (fun N=>?_)]
   ·exact h.before j (by omega) fun s u v g e=>by
     have:=h.ok.uniq i s d u t c g p e
     omega
   ·have:=hi.deps c (hi.down i d c N) (C x)
    rw[F] at this;cases this
 ·have r:∀(i:Nat) (d:Oper),ops[i]?=some d->d.dst≠some t:=fun i d c E=>z ⟨i,d,c,E⟩
  rw[hi.tmp0 t r]
  exact h.before j (by omega) fun s u _ g=>r s u g
theorem z80 {T U:Tm}{o:Oper}(h:∀ t∈looks all o,T.get t=U.get t):wanted all T o.guard=wanted all U o.guard:=by
 cases g:o.guard with
 | none=>rfl
 | some p=>
  obtain⟨j,c⟩:=p
  show oe ((all[j]?).bind (·.dst)) _ _=oe ((all[j]?).bind (·.dst)) _ _
  cases e:(all[j]?).bind (·.dst) with
  | none=>rfl
  | some d=>
   have:d∈looks all o:=by
    unfold looks
    rw[g]
    simp only[e]
    simp
   show ob (evT T d) _=ob (evT U d) _
   rw[z39,z39,h d this]
theorem z6o {T U:Tm}{o:Oper}(m:Mem)(h:∀ t∈looks all o,T.get t=U.get t):op1 P o.op T m=op1 P o.op U m :=
 zlr o.op m fun t c=>h t (List.mem_append_left _ (List.mem_filterMap.2 ⟨.tmp t,by simpa using c,rfl⟩))
theorem Same.any {ρ c:Rho}{n:Nat}(h:Same ρ c n n)(x y:Nat):Same ρ c x y:=⟨h.1,fun i _=>h.2 i (by omega)⟩
theorem Inv.fin (h:Tr P rec dd ops D)(hi:Inv P ops D Pt ρ0 df L q U Pt' ρ w a)(C:ops[j]?=some o)(hr:∀ e∈o.after,Region.binds .any e=true->L.getD e.on false=true){F:Tm}{g:Prot}{r:Rho}{w':World}{a':Act}(R:Puts U F o.dst)(hv:∀ t,o.dst=some t->F.get t=(D (j+1)).T.get t)(X:Same ρ r (D j).m.next (D (j+1)).m.next)(V:q'<=ops.size)(S:AtEnd P ops q')(y:∀ i v,ops[i]?=some v->zf P v.op=true->((i=j∨L.getD i false=true)↔i<q'))(J:TR r F a'.tmps)(K:a'.defers=df)(E:Rel g r (D q').m w')(O:Pt.Le g)(B:News P ops D (L.setIfInBounds j true) q' Pt g r)(z:Dist P ops D (L.setIfInBounds j true) q' r) :
  Inv P ops D Pt ρ0 df (L.setIfInBounds j true) q' F g r w' a':=by
 have N:=z14 C
 have p:=z1s (L:=L) (j:=j) (by rw[hi.sizeL];exact N)
 refine⟨by simp[hi.sizeL],V,S,fun i v c ha=>?_,fun i v c s e he hb=>?_,by rw[R.1,hi.sz],fun i v d c G=>?_,fun d hn=>?_,J,K,E,O,B,z,fun i M s=>?_,?_⟩
 ·rw[p,<- y i v c ha]
  by_cases e:i=j
  ·simp[e]
  ·simp[e]
 ·rw[p] at s
  by_cases u:i=j
  ·subst u
   rw[C] at c;cases c
   exact getD_set_true (hr e he hb)
  ·rw[if_neg u] at s
   exact getD_set_true (hi.down i v c s e he hb)
 ·rw[p]
  by_cases u:i=j
  ·subst u
   rw[C] at c;cases c
   rw[if_pos rfl,if_pos rfl,hv d G]
   exact(h.after (ops.size-(i+1)) (i+1) (by omega) fun i' o' a0 Q e=>by
    have:=h.ok.uniq i i' o o' d C Q G e
    omega).symm
  ·rw[if_neg u,R.2 d (fun e=>u (h.ok.uniq i j v o d c C G e)),hi.tmp i v d c G]
 ·rw[R.2 d (hn j o C),hi.tmp0 d hn]
 ·rw[p] at s
  by_cases u:i=j
  ·rw[if_pos u] at s;cases s
  ·rw[if_neg u] at s
   have:=hi.fresh i M s
   intro x Y Z
   rw[X.2 x ?_]
   ·exact this x Y Z
   ·by_cases s:i<j
    ·have:=h.next (j-(i+1)) (i+1) (by omega)
     rw[show i+1+(j-(i+1))=j by omega] at this
     exact .inl (by omega)
    ·have:=h.next (i-(j+1)) (j+1) (by omega)
     rw[show j+1+(i-(j+1))=i by omega] at this
     exact .inr (by omega)
 ·refine⟨hi.same.1.trans X.1,fun i hx=>?_⟩
  have h1:=h.next j 0 (by omega)
  have h2:=h.next (ops.size-(j+1)) (j+1) (by omega)
  rw[show 0+j=j by omega] at h1
  rw[show j+1+(ops.size-(j+1))=ops.size by omega] at h2
  rw[X.2 i (by omega),hi.same.2 i hx]
theorem News.keep {r:Rho}{d:Prot}(t:j<L.size)(B:ops[j]?=some o)(z:News P ops D L q' Pt d ρ)(h:RLe ρ r)(v:∀ lb,isNew P o.op=true->q'<=j->(D (j+1)).m ≠(D j).m.push lb) :
  News P ops D (L.setIfInBounds j true) q' Pt d r:=fun i J lb g u p y e=>by
 rw[z1s t] at u
 by_cases x:i=j
 ·subst x
  rw[B] at g;cases g
  exact absurd e (v lb y p)
 ·rw[if_neg x] at u
  obtain⟨b,s,c,ob,C,E,F,G⟩:=z i J lb g u p y e
  exact⟨b,s,c,ob,h _ _ C,E.mono h,F,G⟩
theorem Dist.keep {F:Rho}{u:Prot}(M:j<L.size)(S:ops[j]?=some o)(R:News P ops D L q' Pt u ρ)(hd:Dist P ops D L q ρ)(a0:q<=q')(v:RLe ρ F)(y:∀ lb,isNew P o.op=true->q'<=j->(D (j+1)).m ≠(D j).m.push lb) :
  Dist P ops D (L.setIfInBounds j true) q' F:=fun i Q Y E lb t x x' h d G g z p N r e J O V B=>by
 rw[z1s M] at G g
 have Z:i≠j:=fun K=>by
  subst K
  rw[S] at h;cases h
  exact absurd e (y lb N z)
 have h2:Q≠j:=fun K=>by
  subst K
  rw[S] at d;cases d
  exact absurd J (y t r p)
 rw[if_neg Z] at G
 rw[if_neg h2] at g
 obtain⟨b,s,c,ob,X,_⟩:=R i Y lb h G z N e
 obtain⟨b',s',c',a1,C,_⟩:=R Q E t d g p r J
 rw[v _ _ X] at V
 rw[v _ _ C] at B
 cases V;cases B
 exact hd i Q Y E lb t _ _ h d G g (by omega) (by omega) N r e J O X C
end
end PvL
end
section
namespace PvL
open Go
section
variable {P:Program} {rec:Task->Option Out} {dd:Nat->Prop} {ops:Array Oper} {D:Nat->DS} {Pt Pt':Prot} {ρ0 ρ:Rho} {df:List Deferred} {L:Array Bool} {q:Nat} {U:Tm} {w:World} {a:Act}
 {j:Nat} {o:Oper}
theorem Inv.behind(h:Tr P rec dd ops D)(hi:Inv P ops D Pt ρ0 df L q U Pt' ρ w a)(u:ops[j]?=some o)(p:L.getD j false=false)(t:(zf P o.op||isNew P o.op)=true):q<=j:=by
 rcases Nat.lt_or_ge j q with r|r
 ·rcases hi.hq with e|⟨s,c,d,v⟩
  ·omega
  ·have g:L.getD (q-1) false=true:=(hi.anch (q-1) s c d).2 (by omega)
   by_cases e:j=q-1
   ·subst e;rw[p] at g;cases g
   ·have:=hi.deps c (hi.down _ _ c g) (h.ok.anch (q-1) s c d j o (by omega) u t)
    rw[p] at this;cases this
 ·exact r
theorem Inv.turnA(h:Tr P rec dd ops D)(hi:Inv P ops D Pt ρ0 df L q U Pt' ρ w a)(s:ops[j]?=some o)(z:L.getD j false=false)(C:∀ e∈o.after,Region.binds .any e=true->L.getD e.on false=true)(x:zf P o.op=true) :
  q<=j/\(∀ i d,ops[i]?=some d->zf P d.op=true->((i=j∨L.getD i false=true)↔i<j+1)) /\ ∃ g,Rel g ρ (D j).m w/\Pt.Le g/\News P ops D L j Pt g ρ:=by
 have B:=z14 s
 have v:=hi.behind h s z (by rw[x];rfl)
 have r:∀ i d,i<j->ops[i]?=some d->(zf P d.op||isNew P d.op)=true->L.getD i false=true:=fun i d y c t=>hi.deps s C (h.ok.anch j o s x i d y c t)
 refine⟨v,fun i d c p=>⟨fun u=>?_,fun y=>?_⟩,?_⟩
 ·rcases u with e|E
  ·omega
  ·have:=(hi.anch i d c p).1 E;omega
 ·by_cases e:i=j
  ·exact .inl e
  ·exact .inr (r i d (by omega) c (by rw[p];rfl))
 ·have:=hi.adopt h (j-q) (by omega) fun i d F G c=>⟨fun t=>r i d (by omega) c (by rw[t,Bool.or_true]),by
   cases p:zf P d.op with
   | false=>rfl
   | true=>
    have:=(hi.anch i d c p).1 (r i d (by omega) c (by rw[p];rfl))
    omega⟩
  rw[show q+(j-q)=j by omega] at this
  exact this
theorem Mem.eta(m:Mem):(⟨m.next,m.tr⟩:Mem)=m:=by cases m;rfl
theorem zop{m:Mem}{lb lb':LB}(h:m.push lb=m.push lb'):lb=lb':=by
 have c:(m.push lb).get m.next=some lb:=by rw[Mem.get_push,if_pos rfl]
 rw[h,Mem.get_push,if_pos rfl] at c
 exact(Option.some.inj c).symm
theorem Inv.step(b0:RecSim P rec)(a0:RecFn P rec)(h:Tr P rec dd ops D)(hi:Inv P ops D Pt ρ0 df L q U Pt' ρ w a)
  (G:ops[j]?=some o) (e6:¬dd j) (hj:L.getD j false=false) (hr:∀ e∈o.after,Region.binds .any e=true->L.getD e.on false=true) {A:Array Oper} {i0:Nat} {oA:Oper} (hA:A[i0]?=some oA) (e2:o.dst=oA.dst) (c9:o.op=oA.op) (f7:Region.wanted oA (yielded A a.tmps)=Region.wanted o (yielded ops a.tmps)) (b:Frame) (rest:List Nat) (k:List Item) (cs:List Frame) :
  ∃ q' Z d8 K w' a',Inv P ops D Pt ρ0 df (L.setIfInBounds j true) q' Z d8 K w' a' /\
   Steps P (lone (b.atR a (.inRegion A (i0::rest)::k)) cs w) (lone (b.atR a' (.inRegion A rest::k)) cs w'):=by
 obtain⟨dA,f9,tA,pA,d9,gA⟩:=oA
 simp only at e2 c9
 subst e2 c9
 have d0:=z14 G
 have B:j<L.size:=by rw[hi.sizeL];exact d0
 have O:∀ t∈looks ops.toList o,(D j).T.get t=U.get t:=fun t ht=>hi.look h G hj hr ht
 have c3:U.size=(D j).T.size:=by rw[hi.sz,h.size j (by omega)]
 have E:∀ x,wanted ops.toList (D j).T o.guard=some x->Region.wanted ⟨o.dst,o.op,tA,pA,d9,gA⟩ (yielded A a.tmps)=x:=fun x hx=>f7.trans <| z0y (by rw[<-z80 O];exact hx) hi.hT
 have N:zf P o.op=false->∀ i J,ops[i]?=some J->zf P J.op=true->((i=j∨L.getD i false=true)↔i<q):=fun a1 i J d a6=>by
  rw[<-hi.anch i J d a6]
  constructor
  ·rintro(e|V)
   ·subst e;rw[G] at d;cases d;rw[a1] at a6;cases a6
   ·exact V
  ·exact .inr
 have c8:∀ {T':Tm},(D j).T.put o.dst z00=some T'->∃ Z,U.put o.dst z00=some Z/\Puts U Z o.dst /\ ∀ t,o.dst=some t->Z.get t=T'.get t:=fun hp=>by
  obtain⟨Z,hu⟩:=Tm.put_other hp c3 z00
  exact⟨Z,hu,⟨(Tm.put_eq hu).1,(Tm.put_eq hu).2.2⟩,fun t e=>by rw[(Tm.put_eq hu).2.1 t e,(Tm.put_eq hp).2.1 t e]⟩
 have c0:Region.wanted ⟨o.dst,o.op,tA,pA,d9,gA⟩ (yielded A a.tmps)=false->Steps P (lone (b.atR a (.inRegion A (i0::rest)::k)) cs w) (lone (b.atR (a.put o.dst undef) (.inRegion A rest::k)) cs w):=fun hw=>by
  have:=stepR_op_skip (P:=P) (b:=b) (a:=a) (k:=k) (cs:=cs) (w:=w) (ops:=A) (i:=i0) (rest:=rest) (by rw[hA];exact hw)
  rw[hA] at this
  exact .one this
 have c5:=hi.fresh j d0 hj
 have f1:=h.step j o G
 generalize r:D (j+1)=s' at f1
 cases f1 with
 | deadA hd _ _ _=>exact absurd hd e6
 | dead hd _ _=>exact absurd hd e6
 | mover hw Q Y=>
  rename_i T' m'
  have a1:zf P o.op=false:=by simp[zf,Y]
  have C:isNew P o.op=false:=by simp[isNew,Y]
  obtain⟨v,h1,hp,rfl⟩:=zlk Y Q
  have f8:∃ v',op1 P o.op (D j).T (D q).m=some (.val v' (D q).m) /\ ∀ t,o.dst=some t->v'=T'.get t:=by
   obtain⟨X,hX,d2⟩:=zls (P:=P) (T:=(D j).T) o.op (zdf Y)
   have f3:X (D j).m=some v:=by
    rw[hX] at h1
    obtain⟨v2,e,h2⟩:=z9.1 h1
    cases h2;exact e
   cases f0:z0o o.op with
   | false=>
    refine⟨v,?_,fun t e=>((Tm.put_eq hp).2.1 t e).symm⟩
    rw[hX,d2 f0 _ (D j).m,f3];rfl
   | true=>
    have e5:({ op:=o.op,T:=(D j).T,v:=dstV T' o.dst,lo:=z0s P ((PvL.deps ops).getD j 0) ops.toList 0,hi:=z07 P j ops.toList (PvL.deps ops) }:Pend)∈(D (j+1)).ps:=by
     rw[r,f0];exact List.mem_cons_self
    have f4:(PvL.deps ops).length=0+ops.toList.length:=by
     unfold PvL.deps
     obtain⟨_,h2,_⟩:=z96 (F:=fun f2 o=>o.after.foldl (init:=0) fun s e=>if Region.binds .any e then s ||| 2^e.on ||| f2.getD e.on 0 else s) ops.toList #[]
     unfold Region.before
     rw[<-Array.foldl_toList]
     simpa using h2
    have S:=h.looked hi.hq hi.qn d0 e5 (by
     rw[h.cnt q hi.qn]
     show z0s P _ _ _<=_
     rw[z7h]
     refine z4i _ _ fun i J d a6 hb=>?_
     rw[Nat.zero_add] at hb ⊢
     rw[Nat.blt_eq]
     exact(hi.anch i J (by simpa using d) a6).1 (hi.deps G hr hb)) (by
     rw[h.cnt q hi.qn]
     show _<=z07 P j ops.toList (PvL.deps ops)
     have:=z5k (P:=P) (m:=j) (ds:=PvL.deps ops) ops.toList 0 f4
     rw[List.drop_zero] at this
     rw[this]
     refine z4i _ _ fun i J d a6 hb=>?_
     rw[Nat.zero_add] at hb ⊢
     rw[Nat.blt_eq] at hb
     have d:ops[i]?=some J:=by simpa using d
     have V:=(hi.anch i J d a6).2 hb
     cases ht:Nat.testBit ((PvL.deps ops).getD i 0) j with
     | false=>rfl
     | true=>
      have:=hi.deps d (hi.down i J d V) ht
      rw[hj] at this;cases this)
    unfold z1t at S
    have S:(match op1 P o.op (D j).T (D q).m with|some (.val v _)=>lvEq v (dstV T' o.dst)|_=>false)=true:=S
    rw[hX] at S ⊢
    cases hx:X (D q).m with
    | none=>rw[hx] at S;cases S
    | some v'=>
     rw[hx] at S
     have S:lvEq v' (dstV T' o.dst)=true:=S
     refine⟨v',rfl,fun t e=>?_⟩
     rw[z2c.1 _ _ S,e];rfl
  obtain⟨v',a4,f6⟩:=f8
  rw[z6o _ O] at a4
  obtain⟨Z,hu⟩:=Tm.put_other hp c3 v'
  obtain⟨K,d7,w',V,a5,y,g⟩:=z5b h.mono b0 hA (.val a4 hu) a0 (b:=b) rest k cs (E true hw) hi.hT hi.rel (fun i h1 h2=>by omega)
  refine⟨q,Z,Pt',K,w',_,?_,g⟩
  refine hi.fin h G hr ⟨(Tm.put_eq hu).1,(Tm.put_eq hu).2.2⟩ (fun t e=>?_) (Same.any V _ _) hi.qn hi.hq (N a1) a5 (by rw[z0f];exact hi.hd) y hi.le
   (News.keep B G hi.news V.1 fun lb p=>by rw[C] at p;cases p) (Dist.keep B G hi.news hi.dist (Nat.le_refl _) V.1 fun lb p=>by rw[C] at p;cases p)
  rw[(Tm.put_eq hu).2.1 t e,r];exact f6 t e
 | new hw Q Y=>
  rename_i T' m'
  have a1:zf P o.op=false:=by simp[zf,Y]
  have C:isNew P o.op=true:=by simp[isNew,Y]
  have e9:=hi.behind h G hj (by rw[C,Bool.or_true])
  obtain⟨v,lb,hp,rfl,f5,hM⟩:=zhd Y Q
  have e8:(D q).m.next<=(D j).m.next:=by
   have:=h.next (j-q) q (by omega)
   rw[show q+(j-q)=j by omega] at this;exact this
  have a4:=hM ⟨(D j).m.next,(D q).m.tr⟩ rfl
  rw[z6o _ O] at a4
  obtain⟨Z,hu⟩:=Tm.put_other hp c3 v
  have e3:Fresh ρ (D j).m.next ((D j).m.next+1):=by rw[r] at c5;exact c5
  obtain⟨K,d7,w',V,a5,y,g⟩:=z5b h.mono b0 hA (.val a4 hu) a0 (b:=b) rest k cs (E true hw) hi.hT (hi.rel.bump e8) e3
  obtain⟨bb,s,c,ob,k1,k2,k3,k4⟩:=Rel.out (M:=⟨(D j).m.next,(D q).m.tr⟩) (n:=(D q).m.next) e8 (fun i lb hg=>(hi.rel.live i lb hg).1) y f5
  rw[Mem.eta] at k4
  have k1:K (D j).m.next=some (bb,s,c):=k1
  have e1:Pt bb=none:=by
   cases hp:Pt bb with
   | none=>rfl
   | some o'=>rw[hi.le.1 bb o' hp] at k3;cases k3
  refine⟨q,Z,Pt'.hide bb ob,K,w',_,?_,g⟩
  have e4:Pt.Le (Pt'.hide bb ob):=⟨fun x o' hx=>by
   show(if x=bb then some ob else Pt' x)=some o'
   have b6:x≠bb:=fun e=>by rw[e,e1] at hx;cases hx
   rw[if_neg b6];exact hi.le.1 x o' hx,hi.le.2⟩
  have b8:∀ i J a9,ops[i]?=some J->(L.setIfInBounds j true).getD i false=true->i≠j->q<=i->isNew P J.op=true->(D (i+1)).m=(D i).m.push a9 ->
    ∃ b' s' c' a3,K (D i).m.next=some (b',s',c')/\BR K a9 a3 s' c'/\Pt' b'=some a3/\Pt b'=none/\b'≠bb:=fun i J a9 d hl b6 a8 p e=>by
   rw[z1s B,if_neg b6] at hl
   obtain⟨b',s',c',a3,l1,l2,l3,l4⟩:=hi.news i J a9 d hl a8 p e
   exact⟨b',s',c',a3,V.1 _ _ l1,l2.mono V.1,l3,l4,fun e=>by rw[e,k3] at l3;cases l3⟩
  refine hi.fin h G hr ⟨(Tm.put_eq hu).1,(Tm.put_eq hu).2.2⟩ (fun t e=>?_) (by rw[r];exact V) hi.qn hi.hq (N a1) a5 (by rw[z0f];exact hi.hd) k4 e4 ?_ ?_
  ·rw[(Tm.put_eq hu).2.1 t e,r];exact((Tm.put_eq hp).2.1 t e).symm
  ·intro i J a9 d hl a8 p e
   by_cases ei:i=j
   ·subst ei
    rw[r] at e
    have e:(D i).m.push lb=(D i).m.push a9:=e
    cases zop e
    refine⟨bb,s,c,ob,k1,k2,?_,e1⟩
    show(if bb=bb then some ob else Pt' bb)=some ob
    rw[if_pos rfl]
   ·obtain⟨b',s',c',a3,l1,l2,l3,l4,l5⟩:=b8 i J a9 d hl ei a8 p e
    refine⟨b',s',c',a3,l1,l2,?_,l4⟩
    show(if b'=bb then some ob else Pt' b')=some a3
    rw[if_neg l5];exact l3
  ·intro i i' J d6 d4 d5 x x' d b7 hl c7 a8 b9 p d1 e e' b6 hx b3
   by_cases ei:i=j
   ·by_cases c4:i'=j
    ·omega
    ·obtain⟨b',s',c',a3,l1,_,_,_,l5⟩:=b8 i' d6 d5 b7 c7 c4 b9 d1 e'
     rw[ei,k1] at hx;cases hx
     rw[l1] at b3;cases b3
     exact fun e=>l5 e.symm
   ·obtain⟨b',s',c',a3,l1,_,_,_,l5⟩:=b8 i J d4 d hl ei a8 p e
    by_cases c4:i'=j
    ·rw[c4,k1] at b3;cases b3
     rw[l1] at hx;cases hx
     exact l5
    ·rw[z1s B,if_neg ei] at hl
     rw[z1s B,if_neg c4] at c7
     obtain⟨b1,s1,c1,g5,m1,_⟩:=hi.news i J d4 d hl a8 p e
     obtain⟨b2,s2,c2,g7,m2,_⟩:=hi.news i' d6 d5 b7 c7 b9 d1 e'
     rw[V.1 _ _ m1] at hx
     rw[V.1 _ _ m2] at b3
     cases hx;cases b3
     exact hi.dist i i' J d6 d4 d5 _ _ d b7 hl c7 a8 b9 p d1 e e' b6 m1 m2
 | anchor hw Q Y=>
  rename_i T' m'
  have ha:zf P o.op=true:=by simp[zf,Y]
  have C:isNew P o.op=false:=by simp[isNew,Y]
  obtain⟨e9,a7,b4,d3,b5,a2⟩:=hi.turnA h G hj hr ha
  obtain⟨Z,hstep,u,R⟩:=Q.congr (z6o _ O) c3
  rw[r] at c5
  obtain⟨K,d7,w',V,a5,y,g⟩:=z5b h.mono b0 hA hstep a0 (b:=b) rest k cs (E true hw) hi.hT d3 c5
  have z:News P ops D L (j+1) Pt b4 ρ:=fun i J lb g1 g2 g3=>a2 i J lb g1 g2 (by omega)
  refine⟨j+1,Z,b4,K,w',_,?_,g⟩
  exact hi.fin h G hr u (fun t e=>by rw[R t e,r]) (by rw[r];exact V) (by omega) (.inr ⟨o,G,ha,by omega⟩) a7 a5 (by rw[z0f];exact hi.hd) (by rw[r];exact y) b5
   (News.keep B G z V.1 fun lb p=>by rw[C] at p;cases p) (Dist.keep B G z hi.dist (by omega) V.1 fun lb p=>by rw[C] at p;cases p)
 | calm hw Q Y=>
  rename_i T' m'
  have a1:zf P o.op=false:=by simp[zf,Y]
  have C:isNew P o.op=false:=by simp[isNew,Y]
  obtain⟨rfl,e0⟩:=zdb h.pure Y Q
  obtain⟨Z,hstep,u,R⟩:=(e0 (D q).m).congr (z6o _ O) c3
  obtain⟨K,d7,w',V,a5,y,g⟩:=z5b h.mono b0 hA hstep a0 (b:=b) rest k cs (E true hw) hi.hT hi.rel (fun i h1 h2=>by omega)
  refine⟨q,Z,Pt',K,w',_,?_,g⟩
  exact hi.fin h G hr u (fun t e=>by rw[R t e,r]) (Same.any V _ _) hi.qn hi.hq (N a1) a5 (by rw[z0f];exact hi.hd) y hi.le
   (News.keep B G hi.news V.1 fun lb p=>by rw[C] at p;cases p) (Dist.keep B G hi.news hi.dist (Nat.le_refl _) V.1 fun lb p=>by rw[C] at p;cases p)
 | offA hw Q Y=>
  rename_i T'
  have ha:zf P o.op=true:=by simp[zf,Y]
  have C:isNew P o.op=false:=by simp[isNew,Y]
  obtain⟨e9,a7,b4,d3,b5,a2⟩:=hi.turnA h G hj hr ha
  obtain⟨Z,hu,u,R⟩:=c8 Q
  have z:News P ops D L (j+1) Pt b4 ρ:=fun i J lb g1 g2 g3=>a2 i J lb g1 g2 (by omega)
  refine⟨j+1,Z,b4,ρ,w,_,?_,c0 (E false hw)⟩
  exact hi.fin h G hr u (fun t e=>by rw[R t e,r]) (Same.refl _ _ _) (by omega) (.inr ⟨o,G,ha,by omega⟩) a7 (hi.hT.put hu (.tup .nil)) (by rw[z0f];exact hi.hd) (by rw[r];exact d3) b5
   (News.keep B G z (RLe.refl _) fun lb p=>by rw[C] at p;cases p) (Dist.keep B G z hi.dist (by omega) (RLe.refl _) fun lb p=>by rw[C] at p;cases p)
 | off hw Q Y=>
  rename_i T'
  have a1:zf P o.op=false:=by
   unfold zf
   cases p:cls P o.op<;>first|rfl|exact absurd p Y
  obtain⟨Z,hu,u,R⟩:=c8 Q
  have e7:∀ lb,isNew P o.op=true->q<=j->(D (j+1)).m ≠(D j).m.push lb:=fun lb _ _ e=>by
   rw[r] at e
   have:(D j).m.next=(D j).m.next+1:=congrArg Mem.next (show(D j).m=(D j).m.push lb from e)
   omega
  refine⟨q,Z,Pt',ρ,w,_,?_,c0 (E false hw)⟩
  exact hi.fin h G hr u (fun t e=>by rw[R t e,r]) (Same.refl _ _ _) hi.qn hi.hq (N a1) (hi.hT.put hu (.tup .nil)) (by rw[z0f];exact hi.hd) hi.rel hi.le
   (News.keep B G hi.news (RLe.refl _) e7) (Dist.keep B G hi.news hi.dist (Nat.le_refl _) (RLe.refl _) e7)
end
end PvL
end
section
namespace PvL
open Go
variable {w:World} {A ops:Array Oper}
section
variable {P:Program} {rec:Task->Option Out} {dd:Nat->Prop} {ops:Array Oper} {D:Nat->DS} {Pt:Prot} {ρ0:Rho} {df:List Deferred}
def unl (L:Array Bool):Nat->Nat
 | 0=>0
 | i+1=>unl L i+(if L.getD i false then 0 else 1)
theorem zhm (L:Array Bool):∀ n,unl L n<=n
 | 0=>Nat.le_refl _
 | n+1=>by
  have:=zhm L n
  show unl L n+(if L.getD n false=true then 0 else 1)<=n+1
  split<;>omega
theorem z8b {L:Array Bool}:∀ n,unl L n=0->∀ i,i<n->L.getD i false=true
 | 0,_,i,hi=>absurd hi (Nat.not_lt_zero _)
 | n+1,h,i,hi=>by
  have h:unl L n+(if L.getD n false=true then 0 else 1)=0:=h
  by_cases e:i=n
  ·subst e
   by_cases c:L.getD i false=true
   ·exact c
   ·rw[if_neg c] at h;omega
  ·exact z8b n (by omega) i (by omega)
theorem zcn {L:Array Bool}{j:Nat}(c:j<L.size)(d:L.getD j false=false):∀ n,(n<=j->unl (L.setIfInBounds j true) n=unl L n)/\(j<n->unl (L.setIfInBounds j true) n+1=unl L n)
 | 0=>⟨fun _=>rfl,fun h=>absurd h (Nat.not_lt_zero _)⟩
 | n+1=>by
  obtain⟨h1,g⟩:=zcn c d n
  show(_->unl _ n+(if (L.setIfInBounds j true).getD n false=true then 0 else 1)=unl L n+(if L.getD n false=true then 0 else 1))/\(_->unl _ n+(if (L.setIfInBounds j true).getD n false=true then 0 else 1)+1=unl L n+(if L.getD n false=true then 0 else 1))
  rw[z1s c]
  refine⟨fun h=>?_,fun h=>?_⟩
  ·rw[if_neg (show ¬(n=j) by omega),h1 (by omega)]
  ·by_cases e:n=j
   ·subst e
    rw[if_pos rfl,d,h1 (Nat.le_refl _)]
    simp
   ·rw[if_neg e]
    have:=g (by omega)
    omega
theorem Inv.ends (h:Tr P rec dd ops D){L:Array Bool}{q:Nat}{U:Tm}{Pt':Prot}{ρ:Rho}{a:Act}(hi:Inv P ops D Pt ρ0 df L q U Pt' ρ w a)(e:∀ i,i<ops.size->L.getD i false=true) :
  Same ρ0 ρ (D 0).m.next (D ops.size).m.next/\TR ρ (D ops.size).T a.tmps/\a.defers=df/\Rel Pt ρ (D ops.size).m w:=by
 refine⟨hi.same,⟨by rw[hi.hT.1,hi.sz,h.size ops.size (Nat.le_refl _)],fun t=>?_,hi.hT.3⟩,hi.hd,?_⟩
 ·have y:=hi.hT.2 t
  have:U.get t=(D ops.size).T.get t:=by
   by_cases u:∃(i:Nat) (d:Oper),ops[i]?=some d/\d.dst=some t
   ·obtain⟨i,d,c,v⟩:=u
    rw[hi.tmp i d t c v,if_pos (e i (z14 c))]
   ·have p:∀(i:Nat) (d:Oper),ops[i]?=some d->d.dst≠some t:=fun i d g r=>u ⟨i,d,g,r⟩
    rw[hi.tmp0 t p,h.before ops.size (Nat.le_refl _) fun i o _ x=>p i o x]
  rw[<-this];exact y
 ·obtain⟨z,g,r,_⟩:=hi.adopt h (ops.size-q) (by have:=hi.qn;omega) fun i d g r c=>⟨fun _=>e i (z14 c),by
   cases s:zf P d.op with
   | false=>rfl
   | true=>
    have:=(hi.anch i d c s).1 (e i (z14 c))
    omega⟩
  rw[show q+(ops.size-q)=ops.size by have:=hi.qn;omega] at g
  exact g.weaken r
theorem Inv.none_ready (h:Tr P rec dd ops D){L:Array Bool}{q:Nat}{U:Tm}{Pt':Prot}{ρ:Rho}{a:Act}(hi:Inv P ops D Pt ρ0 df L q U Pt' ρ w a)(r:Region.ready .any ops L=[]) :
  ∀ n i,i<n->i<ops.size->L.getD i false=true
 | 0,i,g,_=>absurd g (Nat.not_lt_zero _)
 | n+1,i,g,d=>by
  have p:ops[i]?=some ops[i]:=Array.getElem?_eq_getElem d
  cases s:L.getD i false with
  | true=>rfl
  | false=>
   have c:i∈Region.ready .any ops L:=by
    rw[mem_ready]
    refine⟨?_,ops[i],p,fun e u t=>?_⟩
    ·have v:i<L.size:=by rw[hi.sizeL];exact d
     simp[v] at s ⊢;exact s
    ·have:=h.ok.edge i _ p e u t
     exact hi.none_ready h r n e.on (by omega) (by omega)
   rw[r] at c;cases c
theorem Reord.wanted {y d:Nat->Nat}(c:Reord A ops y d){o h:Oper}(t:o.guard=h.guard.map fun q=>(d q.1,q.2))(e:Array Value):Region.wanted h (yielded A e)=Region.wanted o (yielded ops e):=by
 have v:∀ j,yielded ops e (d j)=yielded A e j:=fun j=>by
  unfold yielded
  have:(ops[d j]?).bind (·.dst)=(A[j]?).bind (·.dst):=by
   by_cases u:j<A.size
   ·obtain⟨g,s⟩:=c.ts j u
    have p:d j<ops.size:=by rw[c.size];exact g
    obtain⟨x,r,h5,_⟩:=c.at_ (d j) _ (Array.getElem?_eq_getElem p)
    rw[s] at r
    rw[Array.getElem?_eq_getElem p,r]
    exact h5
   ·have g:=c.out j (by omega)
    rw[Array.getElem?_eq_none (by rw[c.size];exact g),Array.getElem?_eq_none (by omega)]
  rw[this]
 unfold Region.wanted
 rw[t]
 cases h.guard with
 | none=>rfl
 | some q=>
  obtain⟨j,w⟩:=q
  simp only[Option.map_some,v]
structure LRel (A:Array Oper) (σ:Nat->Nat) (LA L:Array Bool):Prop where
 size:LA.size=A.size
 at_:∀ k,k < A.size->LA.getD (σ k) false=L.getD k false
theorem LRel.set {d g:Nat->Nat}(c:Reord A ops d g){p L:Array Bool}(h:LRel A d p L){i:Nat}(hi:i<A.size)(v:L.size=A.size):LRel A d (p.setIfInBounds i true) (L.setIfInBounds (g i) true):=by
 obtain⟨t,u⟩:=c.ts i hi
 refine⟨by simp[h.size],fun k r=>?_⟩
 rw[z1s (by rw[h.size];exact hi),z1s (by rw[v];exact t)]
 by_cases e:k=g i
 ·rw[if_pos e,if_pos (by rw[e];exact u)]
 ·rw[if_neg e,if_neg (fun s=>e (by rw[<-s];exact(c.st k r).2.symm))]
  exact h.at_ k r
theorem LRel.ready {K d:Nat->Nat}(g:Reord A ops K d){r L:Array Bool}(h:LRel A K r L)(_:L.size=A.size){i:Nat}(hi:i∈Region.ready .any A r) :
  ∃ o s,ops[d i]?=some o/\A[i]?=some s/\o.dst=s.dst/\o.op=s.op/\(o.guard=s.guard.map fun q=>(d q.1,q.2))/\i<A.size/\L.getD (d i) false=false /\ ∀ e∈o.after,Region.binds .any e=true->L.getD e.on false=true:=by
 obtain⟨J,s,z,R⟩:=mem_ready.1 hi
 have p:=z14 z
 obtain⟨E,F⟩:=g.ts i p
 have G:d i<ops.size:=by rw[g.size];exact E
 obtain⟨a0,C,M,N,g4,O⟩:=g.at_ (d i) _ (Array.getElem?_eq_getElem G)
 rw[F,z] at C;cases C
 have S:i<r.size:=by rw[h.size];exact p
 have x:r.getD i false=false:=by simp[S] at J ⊢;exact J
 refine⟨_,s,Array.getElem?_eq_getElem G,z,M,N,O,p,by rw[<-h.at_ (d i) E,F];exact x,fun e t Q=>?_⟩
 have t:e∈(ops[d i]).after.toList:=by simpa using t
 rw[g4] at t
 obtain⟨c,V,rfl⟩:=List.mem_map.1 t
 have u:Region.binds .any c=true:=by
  have:Region.binds .any (⟨d c.on,c.ground⟩:Edge)=Region.binds .any c:=rfl
  rw[<-this];exact Q
 have B:=R c (by simpa using V) u
 have X:c.on<A.size:=by
  rcases Nat.lt_or_ge c.on r.size with y|v
  ·rw[<-h.size];exact y
  ·rw[show r.getD c.on false=false by simp[Array.getElem?_eq_none v]] at B;cases B
 obtain⟨Y,Z⟩:=g.ts c.on X
 show L.getD (d c.on) false=true
 rw[<-h.at_ _ Y,Z];exact B
theorem LRel.none {u r:Nat->Nat}(c:Reord A ops u r){s L:Array Bool}(h:LRel A u s L)(C:L.size=A.size)(K:Region.ready .any A s=[]):Region.ready .any ops L=[]:=by
 cases M:Region.ready .any ops L with
 | nil=>rfl
 | cons k ks=>
  exfalso
  have G:k∈Region.ready .any ops L:=by rw[M];exact List.mem_cons_self
  obtain⟨y,o,z,x⟩:=mem_ready.1 G
  have g:k<A.size:=by have:=z14 z;rw[c.size] at this;exact this
  obtain⟨S,B,X,Y,g4,Z⟩:=c.at_ k o z
  obtain⟨V,s2⟩:=c.st k g
  have v:L.getD k false=false:=by simp[show k<L.size by rw[C];exact g] at y ⊢;exact y
  have:u k∈Region.ready .any A s:=by
   refine mem_ready.2 ⟨?_,S,B,fun e F E=>?_⟩
   ·have:=h.at_ k g
    rw[v] at this
    have N:u k<s.size:=by rw[h.size];exact V
    simp[N] at this ⊢;exact this
   ·have J:(⟨r e.on,e.ground⟩:Edge)∈o.after:=by
     have:(⟨r e.on,e.ground⟩:Edge)∈o.after.toList:=by rw[g4];exact List.mem_map.2 ⟨e,by simpa using F,rfl⟩
     simpa using this
    have t:L.getD (r e.on) false=true:=x _ J E
    have k3:r e.on<L.size:=by
     rcases Nat.lt_or_ge (r e.on) L.size with p|d
     ·exact p
     ·rw[show L.getD (r e.on) false=false by simp[Array.getElem?_eq_none d]] at t;cases t
    have O:e.on<A.size:=by
     rcases Nat.lt_or_ge e.on A.size with p|d
     ·exact p
     ·have:=c.out _ d;omega
    obtain⟨Q,R⟩:=c.ts _ O
    rw[<-h.at_ _ Q,R] at t;exact t
  rw[K] at this;cases this
theorem z44 {c:Array Bool}{t:Nat}(e:(Region.ready .any A c)[t%(Region.ready .any A c).length]?=none):Region.ready .any A c=[]:=by
 cases h:Region.ready .any A c with
 | nil=>rfl
 | cons x g=>
  rw[h] at e
  have d:t%(x::g).length <(x::g).length:=Nat.mod_lt _ (by simp)
  simp at e
  simp at d
  omega
theorem zkk {Q R:Nat->Nat}(d:Reord A ops Q R)(u:RecSim P rec)(g:RecFn P rec)(h:Tr P rec (fun _=>False) ops D)(b:Frame)(k:List Item)(cs:List Frame) :
  ∀(fuel t:Nat) (c L:Array Bool) (q:Nat) (U:Tm) (Pt':Prot) (ρ:Rho) (w:World) (a:Act),LRel A Q c L->Inv P ops D Pt ρ0 df L q U Pt' ρ w a->unl L ops.size<=fuel ->
   ∃ p a' w',Same ρ0 p (D 0).m.next (D ops.size).m.next/\TR p (D ops.size).T a'.tmps/\a'.defers=df/\Rel Pt p (D ops.size).m w' /\
    Steps P (lone (b.atR a (.inRegion A (Region.linearise.go .any A fuel t c [])::k)) cs w) (lone (b.atR a' k) cs w')
 | 0,t,c,L,q,U,Pt',ρ,w,a,s,hi,hu=>by
  obtain⟨h1,z,B,C⟩:=hi.ends h (z8b _ (by omega))
  exact⟨ρ,a,w,h1,z,B,C,.one stepR_region_end⟩
 | fuel+1,t,c,L,q,U,Pt',ρ,w,a,s,hi,hu=>by
  have e:Region.linearise.go .any A (fuel+1) t c []=match (Region.ready .any A c)[t%(Region.ready .any A c).length]? with
   | some i=>Region.linearise.go .any A fuel (t/(Region.ready .any A c).length) (c.setIfInBounds i true) [i]
   | none=>[].reverse:=rfl
  have v:L.size=A.size:=by rw[hi.sizeL,d.size]
  rw[e]
  cases O:(Region.ready .any A c)[t%(Region.ready .any A c).length]? with
  | none=>
   have y:=s.none d v (z44 O)
   obtain⟨h1,z,B,C⟩:=hi.ends h (fun i r=>hi.none_ready h y (i+1) i (by omega) r)
   exact⟨ρ,a,w,h1,z,B,C,.one stepR_region_end⟩
  | some i=>
   obtain⟨o,oA,N,hA,hd,G,hg,F,M,hr⟩:=s.ready d v (List.mem_of_getElem? O)
   have r:=z14 N
   have hs:R i<L.size:=by rw[hi.sizeL];exact r
   obtain⟨q',S,x,p,w',a',E,J⟩:=hi.step u g h N id M hr hA hd G (d.wanted hg _) b (Region.linearise.go .any A fuel (t/(Region.ready .any A c).length) (c.setIfInBounds i true) []) k cs
   have a0:=(zcn hs M ops.size).2 r
   obtain⟨K,V,w2,X,Y,Z,g4,g5⟩:=zkk d u g h b k cs fuel (t/(Region.ready .any A c).length) _ _ q' S x p w' a' (s.set d F v) E (by omega)
   refine⟨K,V,w2,X,Y,Z,g4,?_⟩
   show Steps P (lone (b.atR a (.inRegion A (Region.linearise.go .any A fuel _ (c.setIfInBounds i true) [i])::k)) cs w) _
   rw[linearise_go_acc,List.reverse_singleton,List.singleton_append]
   exact J.trans g5
theorem z8w {σ τ:Nat->Nat}(u:Reord A ops σ τ)(E:RecSim P rec)(s:RecFn P rec){d:Nat}{S:Oper}(h:Tr P rec (Dead (deps ops) d) ops D)(y:ops[d]?=some S)(a7:wanted ops.toList (D d).T S.guard=some true)(Z:zf P S.op=true){v:LV}{m2:Mem}{f:FuncId}{as:List LV}{m1:Mem}(K:op1 P S.op (D d).T (D d).m=some (.enter f as m1))(a4:rec (.call f as m1)=some (.die v m2))(N:(D (d+1)).m.next=m2.next)(b:Frame)(k:List Item)(cs:List Frame) :
  ∀(fuel t:Nat) (g L:Array Bool) (q:Nat) (U:Tm) (Pt':Prot) (ρ:Rho) (w:World) (a:Act),LRel A σ g L->Inv P ops D Pt ρ0 df L q U Pt' ρ w a->L.getD d false=false->unl L ops.size<=fuel ->
   ∃ p a' w' v' k1,Same ρ0 p (D 0).m.next (D ops.size).m.next/\a'.tmps.size=(D 0).T.size/\a'.defers=df/\VR p v v'/\Rel Pt p m2 w' /\
    Steps P (lone (b.atR a (.inRegion A (Region.linearise.go .any A fuel t g [])::k)) cs w) (lone (Frame.boom (b.atR a' k1) v') cs w')
 | 0,t,g,L,q,U,Pt',ρ,w,a,J,hi,z,hu=>by
  have:=z8b _ (by omega:unl L ops.size=0) d (z14 y)
  rw[z] at this;cases this
 | fuel+1,t,g,L,q,U,Pt',ρ,w,a,J,hi,z,hu=>by
  have e:Region.linearise.go .any A (fuel+1) t g []=match (Region.ready .any A g)[t%(Region.ready .any A g).length]? with
   | some i=>Region.linearise.go .any A fuel (t/(Region.ready .any A g).length) (g.setIfInBounds i true) [i]
   | none=>[].reverse:=rfl
  have M:L.size=A.size:=by rw[hi.sizeL,u.size]
  rw[e]
  cases hx:(Region.ready .any A g)[t%(Region.ready .any A g).length]? with
  | none=>
   have a3:=J.none u M (z44 hx)
   have:=hi.none_ready h a3 (d+1) d (by omega) (z14 y)
   rw[z] at this;cases this
  | some i=>
   obtain⟨o,oA,ho,hA,hd,C,hg,b1,V,X⟩:=J.ready u M (List.mem_of_getElem? hx)
   have G:=z14 ho
   have hs:τ i<L.size:=by rw[hi.sizeL];exact G
   show ∃ p a' w' v' k1,_/\_/\_/\_/\_/\Steps P (lone (b.atR a (.inRegion A (Region.linearise.go .any A fuel _ (g.setIfInBounds i true) [i])::k)) cs w) _
   rw[linearise_go_acc,List.reverse_singleton,List.singleton_append]
   by_cases F:τ i=d
   ·rw[F,y] at ho;cases ho
    rw[F] at V G hs
    have B:∀ t∈looks ops.toList S,(D d).T.get t=U.get t:=fun t ht=>hi.look h y V X ht
    obtain⟨b9,a9,b7,a5,a1,a8⟩:=hi.turnA h y V X Z
    have O:op1 P S.op U (D d).m=some (.enter f as m1):=by rw[<-z6o _ B];exact K
    have a0:=hi.fresh d G V
    rw[N] at a0
    have b4:=(u.wanted hg a.tmps).trans (z0y (by rw[<-z80 B];exact a7) hi.hT)
    obtain⟨dA,b6,tA,pA,b8,gA⟩:=oA
    simp only at hd C
    subst hd C
    obtain⟨p,v',w',a6,b3,Q,R⟩:=zbc (b:=b) (a:=a) h.mono E hA (.enter O a4) s (fun r X hf=>z9s X hi.hT a5 hf) (fun c e=>by
      have e:S.op=.defer c:=e
      rw[e] at O;cases O)
     (Region.linearise.go .any A fuel (t/(Region.ready .any A g).length) (g.setIfInBounds i true) []) k cs b4 hi.hT a5 a0
    refine⟨p,a,w',v',_,⟨hi.same.1.trans a6.1,fun x hx=>?_⟩,by rw[<-hi.sz];exact hi.hT.1,hi.hd,b3,Q.weaken a1,R⟩
    have h1:=h.next d 0 (by omega)
    have h2:=h.next (ops.size-(d+1)) (d+1) (by omega)
    rw[show 0+d=d by omega] at h1
    rw[show d+1+(ops.size-(d+1))=ops.size by omega,N] at h2
    rw[a6.2 x (by omega),hi.same.2 x hx]
   ·have b2:¬Dead (deps ops) d (τ i):=fun hd=>by
     rcases hd with e|hb
     ·exact F e
     ·have:=hi.deps ho X hb
      rw[z] at this;cases this
    obtain⟨q',U',Y,p,w',a',b0,R⟩:=hi.step E s h ho b2 V X hA hd C (u.wanted hg _) b (Region.linearise.go .any A fuel (t/(Region.ready .any A g).length) (g.setIfInBounds i true) []) k cs
    have c0:=(zcn hs V ops.size).2 G
    obtain⟨b5,a2,w2,v2,k2,g1,g2,g3,g4,g5,g6⟩:=z8w u E s h y a7 Z K a4 N b k cs fuel (t/(Region.ready .any A g).length) _ _ q' U' Y p w' a' (J.set u b1 M) b0 (by rw[z1s hs,if_neg (Ne.symm F)];exact z) (by omega)
    exact⟨b5,a2,w2,v2,k2,g1,g2,g3,g4,g5,R.trans g6⟩
theorem Inv.start (h:Tr P rec dd ops D){T:Tm}{m:Mem}{n:Nat}(g:(D 0).T=T)(p:(D 0).m=m)(t:(D ops.size).m.next=n){ρ:Rho}{a:Act}(s:TR ρ T a.tmps)(r:Rel Pt ρ m w)(hf:Fresh ρ m.next n) :
  Inv P ops D Pt ρ a.defers (Array.replicate ops.size false) 0 T Pt ρ { w with drawn:=w.drawn+1 } a:=by
 have c:∀ i,(Array.replicate ops.size false).getD i false=false:=fun i=>by
  by_cases u:i<ops.size
  ·simp[u]
  ·simp[Array.getElem?_eq_none (show(Array.replicate ops.size false).size<=i by simp;omega)]
 exact
  {sizeL:=by simp
   qn:=Nat.zero_le _
   hq:=.inl rfl
   anch:=fun i o _ _=>by rw[c];simp
   down:=fun j o _ e=>by rw[c] at e;cases e
   sz:=by rw[g]
   tmp:=fun i o d _ _=>by rw[c,g];simp
   tmp0:=fun d _=>by rw[g]
   hT:=s
   hd:=rfl
   rel:=by rw[p];exact r.of_heap rfl
   le:=⟨fun _ _ h=>h,rfl,rfl,rfl,rfl⟩
   news:=fun i o y _ e=>by rw[c] at e;cases e
   dist:=fun i G o J y z x K _ _ e=>by rw[c] at e;cases e
   fresh:=fun i v _ x E F=>by
    have B:=h.next i 0 (by omega)
    have C:=h.next (ops.size-(i+1)) (i+1) (by omega)
    rw[show 0+i=i by omega,p] at B
    rw[show i+1+(ops.size-(i+1))=ops.size by omega,t] at C
    exact hf x (by omega) (by omega)
   same:=Same.refl _ _ _ }
theorem zgq (N:P.follows .mixedOrders=true)(hm:z0n rec)(s:RecPure P rec)(z:RecSim P rec)(r:RecFn P rec):DrawSim P rec:=by
 have B:∀(ops:Array Oper) (t:Nat),Region.schedule (P.follows .mixedOrders) ops t=Region.linearise.go .any ops ops.size t (Array.replicate ops.size false) []:=fun ops t=>by
  simp only[Region.schedule,N,Bool.true_or,if_true];rfl
 have x:∀(A ops:Array Oper) (G J:Nat->Nat),Reord A ops G J->LRel A G (Array.replicate A.size false) (Array.replicate ops.size false):=fun A ops G J c=>by
  have hr:∀(n i:Nat),(Array.replicate n false).getD i false=false:=fun n i=>by
   by_cases C:i<n
   ·simp[C]
   ·simp[Array.getElem?_eq_none (show(Array.replicate n false).size<=i by simp;omega)]
  exact⟨by simp,fun k hk=>by rw[hr,hr]⟩
 refine⟨?_,?_⟩
 ·intro A ops G J T T' m m' st kk ps c E y e Pt ρ b id k Y w a hT u hf
  obtain⟨D,g,p,hstep⟩:=z6h (dd:=fun _=>False) _ _ _ _ y
  rw[Nat.zero_add,Array.length_toList] at p
  have h:Tr P rec (fun _=>False) ops D:=⟨z4b E,hm,s,fun j o ho=>by
   have:=hstep j o (by simpa using ho)
   rw[Nat.zero_add] at this;exact this,by rw[g],by rw[g],by rw[p];exact e⟩
  have C:=Inv.start h (T:=T) (m:=m) (n:=m'.next) (by rw[g]) (by rw[g]) (by rw[p]) hT u hf
  obtain⟨F,X,w',K,M,Z,S,h5⟩:=zkk c z r h b k Y A.size (w.tape w.drawn (.order b.fn id)) _ _ 0 T Pt ρ _ a (x A ops G J c) C (by rw[<-c.size];exact zhm _ _)
  rw[g,p] at K
  rw[p] at M S
  refine⟨F,X,w',K,M,Z,S,.head stepR_region_draw ?_⟩
  rw[B]
  exact h5
 ·intro A ops G J T m v m2 d c E y e Pt ρ b id k Y w a hT u hf
  obtain⟨D,V,o0,g,p,a4,O,hstep,a3,a0,⟨f,as,m1,Q,a2⟩,a1⟩:=z6e hm _ _ _ _ y
  rw[Nat.zero_add,Array.length_toList] at p
  rw[Nat.sub_zero] at O
  have p:D ops.size=d:=p
  have h:Tr P rec (Dead (deps ops) V) ops D:=⟨z4b E,hm,s,fun j o ho=>by
   have:=hstep j o (by simpa using ho)
   rw[Nat.zero_add] at this;exact this,by rw[g],by rw[g],by rw[p];exact e⟩
  have C:=Inv.start h (T:=T) (m:=m) (n:=d.m.next) (by rw[g]) (by rw[g]) (by rw[p]) hT u hf
  have R:(Array.replicate ops.size false).getD V false=false:=by
   by_cases C:V<ops.size
   ·simp[C]
   ·simp[Array.getElem?_eq_none (show(Array.replicate ops.size false).size<=V by simp;omega)]
  obtain⟨F,X,w',v',k1,K,M,Z,S,h5,h6⟩:=z8w c z r h (by simpa using O) a3 a0 Q a2 a1 b k Y A.size (w.tape w.drawn (.order b.fn id)) _ _ 0 T Pt ρ _ a (x A ops G J c) C R (by rw[<-c.size];exact zhm _ _)
  rw[g,p] at K
  rw[g] at M
  refine⟨F,X,w',v',k1,K,M,Z,S,h5,.head stepR_region_draw ?_⟩
  rw[B]
  exact h6
def Prot.old (w:World):Prot:=⟨fun b=>w.heap[b]?,fun b=>w.heap[b]? ≠ none,fun _ h=>h,w.heap.size,w.os,w.output⟩
theorem Rel.empty (w:World)(ρ:Rho)(n:Nat):Rel (.old w) ρ ⟨n,.nil⟩ w :=
 ⟨fun _ _ h=>h,fun i c h=>(by rw[Mem.get_mk,PT.get_nil] at h;cases h),fun i j c d x y h=>(by rw[Mem.get_mk,PT.get_nil] at h;cases h),⟨rfl,rfl⟩⟩
end
end PvL
end
section
namespace PvL
open Go
variable {w:World}
structure Entry where
 f:FuncId
 args:List LV
 k0:Nat
 pre:List (Nat × List LV × TypeId)
 v:LV
 next:Nat
 post:List (Nat × List LV × TypeId)
noncomputable def cellsAre (b:Option LB)(cs:List LV)(ty:TypeId):Bool:=match b with|some (.cells _ cs' c)=>Nat.beq c ty&&lvEqs cs' cs|_=>false
noncomputable def ownCellsAre (b:Option LB)(cs:List LV)(ty:TypeId):Bool:=match b with|some (.cells true cs' c)=>Nat.beq c ty&&lvEqs cs' cs|_=>false
noncomputable def preOk (m:Mem):List (Nat×List LV×TypeId)->Bool
 | []=>true
 | x::xs=>cellsAre (m.get x.1) x.2.1 x.2.2&&preOk m xs
noncomputable def postOk (k:Nat)(m:Mem):List (Nat×List LV×TypeId)->Bool
 | []=>true
 | x::xs=>Nat.ble k x.1&&(ownCellsAre (m.get x.1) x.2.1 x.2.2&&postOk k m xs)
noncomputable def laid (own:Bool):List (Nat×List LV×TypeId)->Mem->Mem
 | [],m=>m
 | x::xs,m=>laid own xs (m.upd x.1 (some (.cells own x.2.1 x.2.2)))
noncomputable def Entry.start (e:Entry):Mem:=laid false e.pre ⟨e.k0,.nil⟩
noncomputable def Entry.apply (e:Entry)(m:Mem):Mem:=laid true e.post ⟨e.next,m.tr⟩
noncomputable def lookE (e:Entry)(f:FuncId)(args:List LV)(m:Mem):Option Out :=
 ifb (Nat.beq f e.f&&(Nat.beq m.next e.k0&&(lvEqs args e.args&&preOk m e.pre))) (some (.call e.v (e.apply m))) none
noncomputable def lookAll (f:FuncId)(args:List LV)(m:Mem):List Entry->Option Out
 | []=>none
 | e::es=>oe (lookE e f args m) (lookAll f args m es) some
section
variable (P:Program) (tbl:List Entry)
noncomputable def stepTT (rec:Task->Option Out)(t:Task):Option Out :=
 taskE t (fun f r c T e m=>stepT P rec (.code f r c T e m)) (fun f d m=>oe (lookAll f d m tbl) (stepT P rec (.call f d m)) some) (fun l d m=>stepT P rec (.round l d m))
noncomputable def runT (n:Nat):Task->Option Out :=
 @Nat.rec (fun _=>Task->Option Out) (fun _=>none) (fun _ c t=>stepTT P tbl c t) n
noncomputable def chk (n:Nat)(e:Entry):Bool :=
 match runT P tbl n (.call e.f e.args e.start) with
 | some (.call v c)=>(!(z1i P 1 e.f)&&(!(z1i P 2 e.f) && !(z1i P 3 e.f)))&&(lvEq v e.v&&(Nat.beq c.next e.next&&(Nat.ble e.k0 e.next&&postOk e.k0 c e.post)))
 | _=>false
end
section
variable {P:Program} {tbl:List Entry}
structure Entry.Ok (P:Program) (e:Entry):Prop where
 le:e.k0<=e.next
 fn:∃ fn,fnOf P e.f=some fn
 imp:∀ d,d<=3->z1i P d e.f=false
 sim:∀ m,m.next=e.k0->preOk m e.pre=true->Sim P (.call e.f e.args m) (.call e.v (e.apply m))
theorem z2h {own:Bool}:∀(l:List (Nat×List LV×TypeId)) (m:Mem),(laid own l m).next=m.next
 | [],_=>rfl
 | x::xs,m=>by show(laid own xs _).next=_;rw[z2h xs,Mem.next_upd]
theorem z4t {f:FuncId}{args:List LV}{m:Mem}{o:Out}:∀(tbl:List Entry),lookAll f args m tbl=some o->∃ e∈tbl,f=e.f/\args=e.args/\m.next=e.k0/\preOk m e.pre=true/\o=.call e.v (e.apply m)
 | [],h=>by cases h
 | e::es,h=>by
  have h:oe (lookE e f args m) (lookAll f args m es) some=some o:=h
  cases d:lookE e f args m with
  | none=>
   rw[d] at h
   obtain⟨g,r,p⟩:=z4t es h
   exact⟨g,List.mem_cons_of_mem _ r,p⟩
  | some s=>
   rw[d] at h
   cases h
   unfold lookE at d
   cases c:(Nat.beq f e.f&&(Nat.beq m.next e.k0&&(lvEqs args e.args&&preOk m e.pre))) with
   | false=>rw[c] at d;cases d
   | true=>
    rw[c] at d
    cases d
    simp only[Bool.and_eq_true] at c
    exact⟨e,List.mem_cons_self,Nat.eq_of_beq_eq_true c.1,z2c.2 _ _ c.2.2.1,Nat.eq_of_beq_eq_true c.2.1,c.2.2.2,rfl⟩
structure Good (P:Program) (rec:Task->Option Out):Prop where
 mono:z0n rec
 sim:RecSim P rec
 fn:RecFn P rec
 pure:RecPure P rec
theorem zeb (s:P.follows .mixedOrders=true)(B:∀ e∈tbl,e.Ok P):∀ n,Good P (runT P tbl n)
 | 0=>⟨fun t o h=>(by cases h),fun t o h=>(by cases h),fun _ _ _ _ h=>(by cases h),fun d _=>⟨fun f _ args m o h=>(by cases h),fun c _ fn ro T ms m o h=>(by cases h)⟩⟩
 | n+1=>by
  have p:=zeb s B n
  have O:=zei p.mono p.sim p.fn (zgq s p.mono p.pure p.sim p.fn)
  have J:=zbk (P:=P) p.mono
  have x:∀ f g m o,runT P tbl (n+1) (.call f g m)=some o->(∃ e∈tbl,f=e.f/\g=e.args/\m.next=e.k0/\preOk m e.pre=true/\o=.call e.v (e.apply m))∨stepT P (runT P tbl n) (.call f g m)=some o:=by
   intro f g m o h
   have h:oe (lookAll f g m tbl) (stepT P (runT P tbl n) (.call f g m)) some=some o:=h
   cases y:lookAll f g m tbl with
   | none=>rw[y] at h;exact .inr h
   | some V=>rw[y] at h;cases h;exact .inl (z4t tbl y)
  refine⟨fun t o h=>?_,fun t o h=>?_,fun f g Q o h=>?_,fun d C=>⟨fun f E g m o h=>?_,fun c N fn ro T ms m o h=>(z52 p.pure d C).2 c N fn ro T ms m o h⟩⟩
  ·cases t with
   | code f r c T ms m=>exact J _ _ h
   | round l g m=>exact J _ _ h
   | call f g m=>
    rcases x f g m o h with⟨e,u,rfl,rfl,G,_,rfl⟩|h
    ·show m.next<=(e.apply m).next
     unfold Entry.apply
     rw[z2h,G];exact(B e u).le
    ·exact J _ _ h
  ·cases t with
   | code f r c T ms m=>exact O _ _ h
   | round l g m=>exact O _ _ h
   | call f g m=>
    rcases x f g m o h with⟨e,u,rfl,rfl,G,N,rfl⟩|h
    ·exact(B e u).sim m G N
    ·exact O _ _ h
  ·rcases x f g Q _ h with⟨e,u,rfl,_⟩|h
   ·exact(B e u).fn
   ·obtain⟨fn,F,_⟩:=z9.1 (show stCall P (runT P tbl n) f g Q=some _ from h)
    exact⟨fn,F⟩
  ·have K:∀ M,lookAll f g M tbl=none:=fun M=>by
    cases y:lookAll f g M tbl with
    | none=>rfl
    | some o=>
     obtain⟨e,u,rfl,_⟩:=z4t tbl y
     rw[(B e u).imp d C] at E;cases E
   have z:∀ M,runT P tbl (n+1) (.call f g M)=stepT P (runT P tbl n) (.call f g M):=fun M=>by
    show oe (lookAll f g M tbl) (stepT P (runT P tbl n) (.call f g M)) some=_
    rw[K M];rfl
   rw[z] at h
   obtain⟨v,R,S⟩:=(z52 p.pure d C).1 f E g m o h
   exact⟨v,R,fun M=>by rw[z];exact S M⟩
theorem z3a {own:Bool}:∀(l:List (Nat×List LV×TypeId)) (m:Mem) (i:Nat) (lb:LB),(laid own l m).get i=some lb->m.get i=some lb ∨ ∃ x∈l,i=x.1/\lb=.cells own x.2.1 x.2.2
 | [],m,i,lb,h=>.inl h
 | x::xs,m,i,lb,h=>by
  rcases z3a xs _ i lb h with h|⟨y,c,h⟩
  ·rw[Mem.get_upd] at h
   by_cases e:i=x.1
   ·rw[if_pos e] at h;cases h;exact .inr ⟨x,List.mem_cons_self,e,rfl⟩
   ·rw[if_neg e] at h;exact .inl h
  ·exact .inr ⟨y,List.mem_cons_of_mem _ c,h⟩
theorem z51 {m:Mem}:∀(l:List (Nat×List LV×TypeId)),preOk m l=true->∀ x∈l,∃ own,m.get x.1=some (.cells own x.2.1 x.2.2)
 | [],_,x,c=>by cases c
 | y::d,h,x,c=>by
  obtain⟨h1,g⟩:=(Bool.and_eq_true _ _▸h:cellsAre (m.get y.1) y.2.1 y.2.2=true/\preOk m d=true)
  rcases List.mem_cons.1 c with rfl|c
  ·unfold cellsAre at h1
   split at h1
   ·rename_i own p r e
    simp only[Bool.and_eq_true] at h1
    rw[Nat.eq_of_beq_eq_true h1.1,z2c.2 _ _ h1.2] at e
    exact⟨own,e⟩
   ·cases h1
  ·exact z51 d g x c
theorem zbe {k:Nat}{m:Mem}:∀(l:List (Nat×List LV×TypeId)),postOk k m l=true->∀ x∈l,k<=x.1/\m.get x.1=some (.cells true x.2.1 x.2.2)
 | [],_,x,c=>by cases c
 | y::d,h,x,c=>by
  obtain⟨g,h1,p⟩:=(by simpa only [Bool.and_eq_true] using(show(Nat.ble k y.1&&(ownCellsAre (m.get y.1) y.2.1 y.2.2&&postOk k m d))=true from h):Nat.ble k y.1=true/\ownCellsAre (m.get y.1) y.2.1 y.2.2=true/\postOk k m d=true)
  rcases List.mem_cons.1 c with rfl|c
  ·unfold ownCellsAre at h1
   split at h1
   ·rename_i r s e
    simp only[Bool.and_eq_true] at h1
    rw[Nat.eq_of_beq_eq_true h1.1,z2c.2 _ _ h1.2] at e
    exact⟨by rw[Nat.ble_eq] at g;exact g,e⟩
   ·cases h1
  ·exact zbe d p x c
def Prot.all (Pt:Prot)(w:World):Prot:=⟨fun b=>w.heap[b]?,fun b=>w.heap[b]? ≠ none,fun _ h=>h,Pt.base,Pt.os,Pt.out⟩
theorem znv (a5:P.follows .mixedOrders=true)(ht:∀ e∈tbl,e.Ok P){n:Nat}{e:Entry}(h:chk P tbl n e=true):e.Ok P:=by
 unfold chk at h
 have hg:=zeb a5 ht n
 split at h
 ·rename_i v m1 a0
  simp only[Bool.and_eq_true] at h
  obtain⟨h0,h1,h2,h3,h4⟩:=h
  have h1:=z2c.1 _ _ h1
  have h2:=Nat.eq_of_beq_eq_true h2
  have h3:e.k0<=e.next:=by rw[Nat.ble_eq] at h3;exact h3
  subst h1
  have a4:∀ d,d<=3->z1i P d e.f=false:=fun d hd=>by
   simp only[Bool.not_eq_true'] at h0
   match d,hd with
   | 0,_=>rfl
   | 1,_=>exact h0.1
   | 2,_=>exact h0.2.1
   | 3,_=>exact h0.2.2
  refine⟨h3,hg.fn _ _ _ _ a0,a4,fun m hm a6 Pt ρ w a8 cs a9 hG t hf=>?_⟩
  have a3:=z51 _ a6
  have a2:=zbe _ h4
  have X:Rel (Pt.all w) ρ e.start w:=by
   refine⟨fun r o hr=>hr,fun i p g=>?_,fun i j p B x y g K z=>?_,t.still⟩
   ·rcases z3a _ _ _ _ g with g|⟨x,M,rfl,rfl⟩
    ·rw[Mem.get_mk,PT.get_nil] at g;cases g
    ·obtain⟨own,b1⟩:=a3 x M
     obtain⟨hl,b,s,c,o,E,⟨C,e',fr,R,S,J,k5⟩,k6,k7⟩:=t.live _ _ b1
     have b0:false=true->Thaw fr c/\TyR x.2.2 e' s:=fun hh=>nomatch hh
     refine⟨by unfold Entry.start;rw[z2h];show x.1<e.k0;omega,b,s,c,o,E,⟨C,e',fr,R,b0,J,k5⟩,k6,?_⟩
     exact⟨k6,fun hh=>by rw[k6] at hh;cases hh⟩
   ·rcases z3a _ _ _ _ g with g|⟨x,M,rfl,rfl⟩
    ·rw[Mem.get_mk,PT.get_nil] at g;cases g
    ·cases z
  have a1:(e.apply m).next=m1.next:=by unfold Entry.apply;rw[z2h];exact h2.symm
  have a7:e.start.next=m.next:=by unfold Entry.start;rw[z2h];exact hm.symm
  rw[a1] at hf ⊢
  obtain⟨V,v',w',hs,hv,u,Y⟩:=hg.sim _ _ a0 (Pt.all w) ρ w a8 cs a9 hG X (by rw[a7];exact hf)
  rw[a7] at hs
  refine⟨V,v',w',hs,hv,?_,Y⟩
  have N:∀ b o,w.heap[b]?=some o->w'.heap[b]?=some o:=fun b o hb=>u.keep b o hb
  have F:∀ i p,(e.apply m).get i=some p->m.get i=some p ∨(m.next<=i/\isRo p=false/\m1.get i=some p):=fun i p g=>by
   rcases z3a _ _ _ _ g with g|⟨x,M,rfl,rfl⟩
   ·exact .inl g
   ·obtain⟨E,R⟩:=a2 x M
    exact .inr ⟨by omega,rfl,R⟩
  have G:∀ i p,m.get i=some p->∃ b s c o,ρ i=some (b,s,c)/\V i=some (b,s,c)/\BR V p o s c/\w.heap[b]?=some o/\(if isRo p then Pt b=some o/\Pt.ro b else Pt b=none):=fun i p g=>by
   obtain⟨_,b,s,c,o,E,R,S,J⟩:=t.live i p g
   exact⟨b,s,c,o,E,hs.1 _ _ E,R.mono hs.1,S,J⟩
  have O:∀ i p,isRo p=false->m1.get i=some p->∃ b s c o,V i=some (b,s,c)/\BR V p o s c/\w'.heap[b]?=some o/\w.heap[b]?=none:=fun i p z g=>by
   obtain⟨_,b,s,c,o,E,R,S,J⟩:=u.live i p g
   rw[z] at J
   exact⟨b,s,c,o,E,R,S,J⟩
  refine⟨fun r o hr=>N r o (t.keep r o hr),fun i p g=>?_,fun i j p B x y g K z Q M hy Z=>?_,u.still⟩
  ·rcases F i p g with g|⟨_,z,g⟩
   ·obtain⟨b,s,c,o,_,E,R,S,J⟩:=G i p g
    have:=(t.live i p g).1
    exact⟨by rw[a1];omega,b,s,c,o,E,R,N _ _ S,J⟩
   ·obtain⟨b,s,c,o,E,R,S,J⟩:=O i p z g
    refine⟨by rw[a1];exact(u.live i p g).1,b,s,c,o,E,R,S,?_⟩
    rw[z]
    show Pt b=none
    cases hp:Pt b with
    | none=>rfl
    | some o'=>rw[t.keep b o' hp] at J;cases J
  ·rcases F i p g with g|⟨_,_,g⟩
   ·obtain⟨b,s,c,o,k0,E,_,S,_⟩:=G i p g
    rcases F j B K with K|⟨_,_,K⟩
    ·obtain⟨b',s',c',o',l0,l1,_⟩:=G j B K
     rw[E] at M;rw[l1] at hy;cases M;cases hy
     exact t.inj i j p B _ _ g K z Q k0 l0 Z
    ·obtain⟨b',s',c',o',l1,_,_,l4⟩:=O j B Q K
     rw[E] at M;rw[l1] at hy;cases M;cases hy
     have Z:b=b':=Z
     rw[Z,l4] at S;cases S
   ·obtain⟨b,s,c,o,E,_,_,J⟩:=O i p z g
    rcases F j B K with K|⟨_,_,K⟩
    ·obtain⟨b',s',c',o',l0,l1,_,l3,_⟩:=G j B K
     rw[E] at M;rw[l1] at hy;cases M;cases hy
     have Z:b=b':=Z
     rw[<-Z,J] at l3;cases l3
    ·exact u.inj i j p B x y g K z Q M hy Z
 ·cases h
def GrownO (W w':World):Prop:=W.keptBut w' (fun _=>False)/\(∀ a:Addr,a.block<W.heap.size->w'.frozen? a=W.frozen? a)/\W.heap.size<=w'.heap.size
theorem zdr {w':World}{ρ:Rho}{m:Mem}(h:Rel (.old w) ρ m w'):GrownO w w':=by
 have d:∀ b o,w.heap[b]?=some o->w'.heap[b]?=some o:=fun b o c=>h.keep b o c
 refine⟨⟨h.still.1,h.still.2,fun i p=>?_⟩,fun a c=>?_,?_⟩
 ·have e:w.heap[i]?=some w.heap[i]:=Array.getElem?_eq_getElem p
  rw[d i _ e,e]
  cases w.heap[i]<;>simp
 ·unfold World.frozen?
  have e:w.heap[a.block]?=some w.heap[a.block]:=Array.getElem?_eq_getElem c
  rw[d _ _ e,e]
 ·rcases Nat.eq_zero_or_pos w.heap.size with g|g
  ·omega
  ·have e:w.heap[w.heap.size-1]?=some w.heap[w.heap.size-1]:=Array.getElem?_eq_getElem (by omega)
   have:=(Array.getElem?_eq_some_iff.1 (d _ _ e)).1
   omega
abbrev Tab:=List (Nat×List LV×TypeId)
def isIntC:LV->Bool | .int _ _=>true | .iface _ .unk=>true | .func (.func _) [] []=>true|_=>false
def tabsOk:Tab->Bool
 | []=>true
 | x::xs=>Nat.blt x.1 64&&(x.2.1.all isIntC&&tabsOk xs)
theorem z7f:∀ {l:Tab},tabsOk l=true->∀ x∈l,x.1<64 /\ ∀ v∈x.2.1,isIntC v=true
 | [],_,x,c=>by cases c
 | y::d,h,x,c=>by
  simp only[tabsOk,Bool.and_eq_true] at h
  rcases List.mem_cons.1 c with rfl|c
  ·exact⟨by have:=h.1;rw[Nat.blt_eq] at this;exact this,List.all_eq_true.1 h.2.1⟩
  ·exact z7f h.2.2 x c
theorem zkx {ρ c:Rho}{v:LV}{v':Value}(hi:isIntC v=true)(h:VR ρ v v'):VR c v v':=by
 cases v with
 | int k n=>cases h;exact .int ..
 | iface t x=>
  cases x<;>first|(cases hi;done)|skip
  cases h
  exact .iface (.unk _)
 | func g a b=>
  cases g<;>first|(cases hi;done)|skip
  cases a<;>first|(cases hi;done)|skip
  cases b<;>first|(cases hi;done)|skip
  cases h with
  | func d e=>
   refine .func ?_ ?_
   ·generalize Array.toList _=l at d ⊢;cases d;exact .nil
   ·generalize Array.toList _=l at e ⊢;cases e;exact .nil
 | _=>cases hi
def TabW (l:Tab)(w:World):Prop:=∀ x∈l,∃ C e fr,w.heap[x.1]?=some (.cells C e fr)/\CellsR (fun _=>none) x.2.1 C 0
noncomputable def Mem.base (l:Tab):Mem:=laid false l ⟨64,.nil⟩
def objSize:Option Obj->Nat|some (.cells C _ _)=>C.size|_=>0
def rho0 (w:World):Rho:=fun g=>if g<64 then some (g,0,objSize w.heap[g]?) else none
theorem zm5 (w:World):GlobOk (rho0 w):=fun _ c=>⟨_,if_pos c⟩
theorem zm6 {i:Nat}(h:64<=i):rho0 w i=none:=if_neg (by omega)
theorem Rel.base {l:Tab}(G:tabsOk l=true)(K:TabW l w):Rel (.old w) (rho0 w) (Mem.base l) w:=by
 refine⟨fun r o J=>J,fun i M c=>?_,fun i j M N x y c Q p=>?_,⟨rfl,rfl⟩⟩
 ·rcases z3a _ _ _ _ c with c|⟨x,s,rfl,rfl⟩
  ·rw[Mem.get_mk,PT.get_nil] at c;cases c
  ·obtain⟨t,E⟩:=z7f G x s
   obtain⟨C,e,fr,g,F⟩:=K x s
   have h:false=true->Thaw fr C.size/\TyR x.2.2 e 0:=fun d=>nomatch d
   refine⟨by unfold Mem.base;rw[z2h];exact t,x.1,0,C.size,_,by unfold rho0;rw[if_pos t,g];rfl,⟨C,e,fr,rfl,h,rfl,fun k v u=>?_⟩,g,?_⟩
   ·obtain⟨O,z,B⟩:=F k v u
    exact⟨O,z,zkx (E v (List.mem_of_getElem? u)) B⟩
   ·exact⟨g,fun d=>by
     have d:w.heap[x.1]?=none:=d
     rw[g] at d;cases d⟩
 ·rcases z3a _ _ _ _ c with c|⟨x,s,rfl,rfl⟩
  ·rw[Mem.get_mk,PT.get_nil] at c;cases c
  ·cases p
theorem z8c (l:Tab):(Mem.base l).next=64:=by unfold Mem.base;rw[z2h]
theorem zam (s:ByteArray):(s==s)=true:=by
 show(s.data==s.data)=true
 simp
mutual
theorem z4u:∀ v:LV,lvEq v v=true
 | .int k n=>by unfold lvEq;simp[z2b,z4r]
 | .bool b=>by unfold lvEq;cases b<;>rfl
 | .str s=>by unfold lvEq;exact zam s
 | .ptr none=>by unfold lvEq;rfl
 | .ptr (some (a,b))=>by unfold lvEq;simp
 | .slice none n f e=>by unfold lvEq;cases f<;>simp[bEq]
 | .slice (some (a,b)) n f e=>by unfold lvEq;cases f<;>simp[bEq]
 | .map none=>by unfold lvEq;rfl
 | .map (some a)=>by unfold lvEq;simp
 | .func f a b=>by unfold lvEq;simp[z2r a,z2r b]
 | .nilFunc=>by unfold lvEq;rfl
 | .nilIface=>by unfold lvEq;rfl
 | .iface t v=>by unfold lvEq;simp[z4u v]
 | .agg a=>by unfold lvEq;exact z2r a
 | .tup a=>by unfold lvEq;exact z2r a
 | .unk=>by unfold lvEq;rfl
theorem z2r:∀ v:List LV,lvEqs v v=true
 | []=>by unfold lvEqs;rfl
 | a::c=>by unfold lvEqs;rw[z4u a,z2r c];rfl
end
theorem z7a:∀(l:Tab),l.Pairwise (fun x y=>x.1≠y.1)->∀(m:Mem),preOk (laid false l m) l=true
 | [],_,_=>rfl
 | x::xs,e,m=>by
  rw[List.pairwise_cons] at e
  have c:∀(l:Tab),(∀ y∈l,x.1≠y.1)->∀(m:Mem) d,m.get x.1=some d->(laid false l m).get x.1=some d:=by
   intro l
   induction l with
   | nil=>intro _ m d h;exact h
   | cons y r p=>
    intro g m d h
    refine p (fun z hz=>g z (List.mem_cons_of_mem _ hz)) _ _ ?_
    rw[Mem.get_upd,if_neg (g y List.mem_cons_self)];exact h
  show(cellsAre _ _ _&&preOk _ xs)=true
  rw[Bool.and_eq_true]
  refine⟨?_,z7a xs e.2 _⟩
  show cellsAre ((laid false xs (m.upd x.1 (some (.cells false x.2.1 x.2.2)))).get x.1) x.2.1 x.2.2=true
  rw[c xs e.1 _ (.cells false x.2.1 x.2.2) (by rw[Mem.get_upd,if_pos rfl])]
  simp[cellsAre,z2r]
end
end PvL
end
section
namespace PvL
open Go Go.ChangeShapes Go.RowKit
section
variable {P:Program} {H:Type} {enc:TypeId × Value->H}
theorem zfr{f:Func}{s:ChangeSpec}{c fresh d B:Bool}{W z:World}{args:Array Value}{v:Value}{ds E:List (DataW H)}{before pa pv:List MemPlace}
  (F:DataW.Whole enc P f.params.toList s.vars c W args.toList ds E before)
  (y:∀(b:Nat) (C:Nat->Bool) (O:Bool),DataW.TrodAll enc P z b C O f.resultTypes.toList (v.resultList f.resultTypes.size) (s.fn H (ds++E)).results [])
  (e:∀ C:Nat->Bool,(∀ p∈before,C p.block=true)->DataW.TrodAll enc P z 0 C true f.params.toList args.toList (s.fn H (ds++E)).args pa)
  (g:∀ C:Nat->Bool,(∀ p∈before,C p.block=true)->DataW.TrodVars enc P z C s.vars (s.fn H (ds++E)).vars pv)
  (u:before=pa++pv) (Q:W.keptBut z (· ∈ before)) (G:∀ a:Addr,a.block<W.heap.size->z.frozen? a=W.frozen? a)
  (K:∀(j:Nat) (t:TypeId) (r:Value),f.resultTypes[j]?=some t->(v.resultList f.resultTypes.size)[j]?=some r->Value.okWide P z .any 0 t r) :
  s.post enc P f c fresh d B W args v z:=by
 have x:∀ p∈before,(fun b=>decide (b<W.heap.size)) p.block=true:=fun p h=>by simpa using F.lt p h
 have J:=F.lt
 refine⟨ds,E,before,[],pa,pv,F,y _ _ _,e _ x,g _ x,World.keptBut_mono (fun p h=>⟨h,?_⟩) Q,fun _=>?_⟩
 ·rw[u,List.mem_append] at h
  exact Or.inr h
 ·obtain⟨_,_,_,_,_,hz,R⟩:=F
  refine⟨K,_,_,([]++pa)++pv,⟨[]++pa,pv,trodAll_append (e _ (fun _ _=>rfl)) (y _ _ _),g _ (fun _ _=>rfl),rfl,?_,?_⟩,?_⟩
  ·intro b off h
   have M:MemPlace.cell b off∈before:=by rw[u];simpa using h
   rw[G _ (J _ M)]
   exact hz b off M
  ·intro N
   have:=R N
   rw[u] at this
   simpa using this
  ·intro p h _
   rw[u]
   simpa using h
def intsL(k:IntKind)(c:List Int):List LV:=c.map fun z=>.int k z
theorem zf5{k:IntKind}{d:List Int}:CellsR (fun _=>none) (intsL k d) (d.map fun z=>Value.int k z).toArray 0:=fun i v c=>by
 unfold intsL at c
 rw[List.getElem?_map] at c
 obtain⟨z,hz,rfl⟩:=Option.map_eq_some_iff.1 c
 exact⟨.int k z,by simp[hz],.int k z⟩
theorem za7{W:World}{name:String}{g:Nat}{k:IntKind}{d:List Int}{ty:TypeId}{l:Tab}(h:Lib.TabIs P W name k d)(p:P.globalNamed name=some g)(s:TabW l W):TabW ((g,intsL k d,ty)::l) W:=fun x c=>by
 rcases List.mem_cons.1 c with rfl|c
 ·unfold Lib.TabIs World.var? at h
  rw[p] at h
  have h:(match W.heap[g]? with|some (.cells e _ _)=>some e|_=>none)=some (d.map fun z=>Value.int k z).toArray:=h
  split at h
  ·rename_i e t fr r
   cases h
   exact⟨_,t,fr,r,zf5⟩
  ·cases h
 ·exact s x c
theorem zp3{W:World}:TabW [] W:=fun _ c=>nomatch c
