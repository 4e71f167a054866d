/-
 The same of operations in any drawn order;closed calls by their entries. No condition.
-/
import Derived.Test.YtpgalhbplcanhaaGreatDoorPvD
import Derived.RowKit3
import Derived.WideKeyArgs
import Derived.Handed
import Derived.SizedLaws
import Derived.ProofKit
import Derived.Lib.LaidTab
import Derived.Stop.LaidErr
section
namespace PvL
open Go
section prot
variable {Pt:Prot} {ρ:Rho} {m:Mem} {w:World}
def Prot.hide(Pt:Prot)(b:Nat)(o:Obj):Prot:=⟨fun x=>if x=b then some o else Pt x,Pt.ro,fun x hx=>by
 by_cases e:x=b
 ·simp[e]
 ·simp only[e,if_false];exact Pt.sub x hx,Pt.base,Pt.os,Pt.out⟩
def Prot.free(Pt:Prot)(b:Nat)(hb:¬Pt.ro b):Prot:=⟨fun x=>if x=b then none else Pt x,Pt.ro,fun x hx=>by
 by_cases e:x=b
 ·subst e;exact absurd hx hb
 ·simp only[e,if_false];exact Pt.sub x hx,Pt.base,Pt.os,Pt.out⟩
def Prot.Le(A B:Prot):Prop:=(∀ x o,A x=some o->B x=some o) /\ A.ro=B.ro /\ A.base=B.base /\ A.os=B.os /\ A.out=B.out
theorem Rel.weaken{Pt':Prot}(hle:Pt.Le Pt')(h:Rel Pt' ρ m w):Rel Pt ρ m w:=by
 refine⟨fun r o hr=>h.keep r o (hle.1 r o hr),fun i lb hi=>?_,h.inj,by rw[hle.2.2.2.1,hle.2.2.2.2];exact h.still⟩
 obtain⟨hl,b,s,c,o,e,h1,h2,h3⟩:=h.live i lb hi
 refine⟨hl,b,s,c,o,e,h1,h2,?_⟩
 cases hr:isRo lb with
 | true =>
  rw[hr] at h3
  have h3:Pt' b=some o /\ Pt'.ro b:=h3
  rw[<-hle.2.1] at h3
  refine⟨?_,h3.2⟩
  cases hp:Pt b with
  | none=>exact absurd hp (Pt.sub b h3.2)
  | some o'=>rw[hle.1 b o' hp] at h3;exact h3.1
 | false =>
  rw[hr] at h3
  have h3:Pt' b=none:=h3
  show Pt b=none
  cases hp:Pt b with
  | none=>rfl
  | some o'=>rw[hle.1 b o' hp] at h3;cases h3
theorem Rel.bump{n:Nat}(h:Rel Pt ρ m w)(hn:m.next<=n):Rel Pt ρ ⟨n,m.tr⟩ w :=
 ⟨h.keep,fun i lb hi=>by
  obtain⟨hl,r⟩:=h.live i lb hi
  exact⟨Nat.lt_of_lt_of_le hl hn,r⟩,h.inj,h.still⟩
theorem Rel.out{M:Mem}{lb:LB}{n:Nat}(hn:n<=M.next)(hlt:∀ i lb,M.get i=some lb->i < n)(h:Rel Pt ρ (M.push lb) w)(hro:isRo lb=false) :
  ∃ b s c o,ρ M.next=some (b,s,c) /\ BR ρ lb o s c /\ Pt b=none /\ Rel (Pt.hide b o) ρ ⟨n,M.tr⟩ w:=by
 have hg:(M.push lb).get M.next=some lb:=by rw[Mem.get_push,if_pos rfl]
 have hold:∀ i l,M.get i=some l->(M.push lb).get i=some l /\ i ≠ M.next:=fun i l hi=>by
  have hne:i ≠ M.next:=fun e=>by have:=hlt i l hi;omega
  rw[Mem.get_push,if_neg hne];exact⟨hi,hne⟩
 obtain⟨_,b,s,c,o,e,h1,h2,h3⟩:=h.live _ _ hg
 rw[hro] at h3
 have h3:Pt b=none:=h3
 refine⟨b,s,c,o,e,h1,h3,fun r o' hr=>?_,fun i l hi=>?_,fun i j l l' x y hi hj=>?_,h.still⟩
 ·by_cases hb:r=b
  ·have hr:(if r=b then some o else Pt r)=some o':=hr
   rw[if_pos hb] at hr;cases hr;rw[hb];exact h2
  ·have hr:(if r=b then some o else Pt r)=some o':=hr
   rw[if_neg hb] at hr;exact h.keep r o' hr
 ·obtain⟨g1,g2⟩:=hold i l hi
  obtain⟨_,b',s',c',o',e',k1,k2,k3⟩:=h.live i l g1
  refine⟨hlt i l hi,b',s',c',o',e',k1,k2,?_⟩
  cases hr:isRo l with
  | true =>
   rw[hr] at k3
   have k3:Pt b'=some o' /\ Pt.ro b':=k3
   refine⟨?_,k3.2⟩
   show(if b'=b then some o else Pt b')=some o'
   rw[if_neg (fun e=>by rw[e,h3] at k3;cases k3.1)];exact k3.1
  | false =>
   rw[hr] at k3
   have k3:Pt b'=none:=k3
   show(if b'=b then some o else Pt b')=none
   rw[if_neg (fun eb=>g2 (h.inj i M.next l lb _ _ g1 hg hr hro e' e eb))];exact k3
 ·exact h.inj i j l l' x y (hold i l hi).1 (hold j l' hj).1
theorem Rel.back(h:Rel Pt ρ m w){lb:LB}{b s c:Nat}{o:Obj}(hρ:ρ m.next=some (b,s,c))(hb:BR ρ lb o s c)(hp:Pt b=some o)(hro:isRo lb=false)(hnr:¬Pt.ro b) :
  Rel (Pt.free b hnr) ρ (m.push lb) w:=by
 refine⟨fun r o' hr=>?_,fun i l hi=>?_,fun i j l l' x y hi hj h1 h2 hx hy he=>?_,h.still⟩
 ·have hr:(if r=b then none else Pt r)=some o':=hr
  by_cases e:r=b
  ·rw[if_pos e] at hr;cases hr
  ·rw[if_neg e] at hr;exact h.keep r o' hr
 ·rw[Mem.get_push] at hi
  by_cases e:i=m.next
  ·rw[if_pos e] at hi;cases hi
   refine⟨by show i < m.next+1;omega,b,s,c,o,by rw[e];exact hρ,hb,h.keep b o hp,?_⟩
   rw[hro]
   show(if b=b then none else Pt b)=none
   rw[if_pos rfl]
  ·rw[if_neg e] at hi
   obtain⟨hl,b',s',c',o',e',k1,k2,k3⟩:=h.live i l hi
   refine⟨Nat.lt_succ_of_lt hl,b',s',c',o',e',k1,k2,?_⟩
   cases hr:isRo l with
   | true =>
    rw[hr] at k3
    have k3:Pt b'=some o' /\ Pt.ro b':=k3
    refine⟨?_,k3.2⟩
    show(if b'=b then none else Pt b')=some o'
    have hne:b' ≠ b:=fun e=>hnr (e ▸ k3.2)
    rw[if_neg hne];exact k3.1
   | false =>
    rw[hr] at k3
    have k3:Pt b'=none:=k3
    show(if b'=b then none else Pt b')=none
    by_cases e:b'=b
    ·rw[if_pos e]
    ·rw[if_neg e];exact k3
 ·rw[Mem.get_push] at hi hj
  have key:∀ k lk z,m.get k=some lk->isRo lk=false->ρ k=some z->z.1 ≠ b:=fun k lk z hk hr hz e=>by
   obtain⟨_,b',s',c',o',e',_,_,k3⟩:=h.live k lk hk
   rw[hr] at k3
   have k3:Pt b'=none:=k3
   rw[hz] at e';cases e'
   have e:b'=b:=e
   rw[e,hp] at k3;cases k3
  by_cases e:i=m.next
  ·by_cases e2:j=m.next
   ·rw[e,e2]
   ·rw[if_neg e2] at hj
    rw[e,hρ] at hx;cases hx
    exact absurd he.symm (key j l' y hj h2 hy)
  ·rw[if_neg e] at hi
   by_cases e2:j=m.next
   ·rw[e2,hρ] at hy;cases hy
    exact absurd he (key i l x hi h1 hx)
   ·rw[if_neg e2] at hj
    exact h.inj i j l l' x y hi hj h1 h2 hx hy he
end prot
section puts
theorem Tm.put_eq{T T':Tm}{d:Option Tmp}{v:LV}(h:T.put d v=some T'):T'.size=T.size /\ (∀ t,d=some t->T'.get t=v) /\ ∀ t,d ≠ some t->T'.get t=T.get t:=by
 cases d with
 | none=>
  cases h
  refine⟨rfl,?_,?_⟩
  ·intro t e;cases e
  ·intro t _;rfl
 | some d =>
  have h:T.set d v=some T':=h
  refine⟨by obtain⟨_,rfl⟩:=Tm.set_eq.1 h;rfl,fun t e=>?_,fun t e=>?_⟩
  ·cases e;rw[Tm.get_set h,if_pos rfl]
  ·rw[Tm.get_set h,if_neg (fun e'=>e (by rw[e']))]
theorem Tm.put_other{T T' U:Tm}{d:Option Tmp}{v:LV}(h:T.put d v=some T')(hs:U.size=T.size)(v':LV):∃ U',U.put d v'=some U':=by
 cases d with
 | none=>exact⟨U,rfl⟩
 | some d=>
  obtain⟨hl,_⟩:=Tm.set_eq.1 (show T.set d v=some T' from h)
  exact⟨_,Tm.set_eq.2 ⟨by rw[hs];exact hl,rfl⟩⟩
variable {P:Program} {rec:Task->Option Out}
def Puts(T T':Tm)(d:Option Tmp):Prop:=T'.size=T.size /\ ∀ t,d ≠ some t->T'.get t=T.get t
theorem z11.puts{X:Option R1}{T T':Tm}{m':Mem}{d:Option Tmp}(h:z11 rec X T d T' m'):Puts T T' d:=by
 cases h with
 | val _ hp=>have:=Tm.put_eq hp;exact⟨this.1,this.2.2⟩
 | skip _ hp=>have:=Tm.put_eq hp;exact⟨this.1,this.2.2⟩
 | enter _ _ hp=>have:=Tm.put_eq hp;exact⟨this.1,this.2.2⟩
 | round _ _ hp=>have:=Tm.put_eq hp;exact⟨this.1,this.2.2⟩
theorem z11.congr{X:Option R1}{T T' U:Tm}{m':Mem}{d:Option Tmp}(h:z11 rec X T d T' m')(hs:U.size=T.size) :
  ∃ U',z11 rec X U d U' m' /\ Puts U U' d /\ ∀ t,d=some t->U'.get t=T'.get t:=by
 have key:∀ v,T.put d v=some T'->∃ U',U.put d v=some U' /\ Puts U U' d /\ ∀ t,d=some t->U'.get t=T'.get t:=fun v hp=>by
  obtain⟨U',hu⟩:=Tm.put_other hp hs v
  exact⟨U',hu,⟨(Tm.put_eq hu).1,(Tm.put_eq hu).2.2⟩,fun t e=>by rw[(Tm.put_eq hu).2.1 t e,(Tm.put_eq hp).2.1 t e]⟩
 cases h with
 | val h hp=>obtain⟨U',hu,h1⟩:=key _ hp;exact⟨U',.val h hu,h1⟩
 | skip h hp=>obtain⟨U',hu,h1⟩:=key _ hp;exact⟨U',.skip h hu,h1⟩
 | enter h hr hp=>obtain⟨U',hu,h1⟩:=key _ hp;exact⟨U',.enter h hr hu,h1⟩
 | round h hr hp=>obtain⟨U',hu,h1⟩:=key _ hp;exact⟨U',.round h hr hu,h1⟩
theorem OpStep.congr{T T' U:Tm}{m m':Mem}{op:Op}{d:Option Tmp}(h:OpStep P rec T m op d T' m')(hop:op1 P op T m=op1 P op U m)(hs:U.size=T.size) :
  ∃ U',OpStep P rec U m op d U' m' /\ Puts U U' d /\ ∀ t,d=some t->U'.get t=T'.get t:=by
 have:=z11.congr h hs
 rw[hop] at this
 exact this
end puts
section trace
variable {P:Program} {rec:Task->Option Out}
theorem DStep.mono{dd dd':Nat->Prop}{all:List Oper}{ds:List Nat}{o:Oper}{i:Nat}{s s':DS}(h:DStep P rec dd all ds o i s s')(hd:∀ i,dd i->dd' i):DStep P rec dd' all ds o i s s':=by
 cases h with
 | mover hw h hc=>exact .mover hw h hc
 | new hw h hc=>exact .new hw h hc
 | anchor hw h hc=>exact .anchor hw h hc
 | calm hw h hc=>exact .calm hw h hc
 | offA hw h hc=>exact .offA hw h hc
 | off hw h hc=>exact .off hw h hc
 | deadA h1 h hc hM=>exact .deadA (hd _ h1) h hc hM
 | dead h1 h hc=>exact .dead (hd _ h1) h hc
theorem z4m{dd:Nat->Prop}{all:List Oper}{ds:List Nat}{o:Oper}{os:List Oper}{i:Nat}{s s' q:DS}(h1:DStep P rec dd all ds o i s s'){D:Nat->DS}(d1:D (i+1)=s')(d2:D (i+1+os.length)=q)
  (d3:∀ j o,os[j]?=some o->DStep P rec dd all ds o (i+1+j) (D (i+1+j)) (D (i+1+j+1))) :
  ∃ D':Nat->DS,D' i=s /\ D' (i+(o :: os).length)=q /\ (∀ j o',(o :: os)[j]?=some o'->DStep P rec dd all ds o' (i+j) (D' (i+j)) (D' (i+j+1))) /\ ∀ k,k ≠ i->D' k=D k:=by
 refine⟨fun k=>if k=i then s else D k,by simp,?_,fun j o' hj=>?_,fun k hk=>by simp[hk]⟩
 ·show(if i+(os.length+1)=i then s else D (i+(os.length+1)))=q
  rw[if_neg (by omega),<- d2,show i+(os.length+1)=i+1+os.length by omega]
 ·cases j with
  | zero =>
   cases hj
   show DStep P rec dd all ds o i (if i=i then s else D i) (if i+1=i then s else D (i+1))
   rw[if_pos rfl,if_neg (by omega),d1];exact h1
  | succ j =>
   show DStep P rec dd all ds o' (i+(j+1)) (if i+(j+1)=i then s else D (i+(j+1))) (if i+(j+1)+1=i then s else D (i+(j+1)+1))
   rw[if_neg (by omega),if_neg (by omega)]
   have:=d3 j o' (by simpa using hj)
   rw[show i+1+j=i+(j+1) by omega] at this
   exact this
theorem z5j{dd:Nat->Prop}{all:List Oper}{ds:List Nat}:∀(os:List Oper) (i:Nat) (s q:DS),z0d P rec all ds os i s=some q ->
  ∃ D:Nat->DS,D i=s /\ D (i+os.length)=q /\ ∀ j o,os[j]?=some o->DStep P rec dd all ds o (i+j) (D (i+j)) (D (i+j+1))
 | [],i,s,q,h=>by cases h;exact⟨fun _=>s,rfl,rfl,fun j o h=>by cases h⟩
 | o :: os,i,s,q,h=>by
  obtain⟨s',h1,h2⟩:=z6t h
  obtain⟨D,d1,d2,d3⟩:=z5j os (i+1) s' q h2
  obtain⟨D',e1,e2,e3,_⟩:=z4m h1 d1 d2 d3
  exact⟨D',e1,e2,e3⟩
theorem z4s{all:List Oper}{ds:List Nat}{j0:Nat}:∀(os:List Oper) (i:Nat) (s q:DS),z16 P rec all ds j0 os i s=some q ->
  ∃ D:Nat->DS,D i=s /\ D (i+os.length)=q /\ ∀ j o,os[j]?=some o->DStep P rec (fun i=>Nat.testBit (ds.getD i 0) j0=true) all ds o (i+j) (D (i+j)) (D (i+j+1))
 | [],i,s,q,h=>by cases h;exact⟨fun _=>s,rfl,rfl,fun j o h=>by cases h⟩
 | o :: os,i,s,q,h=>by
  obtain⟨s',h1,h2⟩:=z5h h
  obtain⟨D,d1,d2,d3⟩:=z4s os (i+1) s' q h2
  obtain⟨D',e1,e2,e3,_⟩:=z4m h1 d1 d2 d3
  exact⟨D',e1,e2,e3⟩
def Dead(ds:List Nat)(j0:Nat)(i:Nat):Prop:=i=j0 ∨ Nat.testBit (ds.getD i 0) j0=true
theorem z5g(hm:z0j rec){all:List Oper}{ds:List Nat}:∀(os:List Oper) (i:Nat) (s:DS) (q:LV × Mem × DS),z0n P rec all ds os i s=some q ->
  ∃(D:Nat->DS) (j0:Nat) (o0:Oper),D i=s /\ D (i+os.length)=q.2.2 /\ i<=j0 /\ os[j0 - i]?=some o0 /\ (∀ j o,os[j]?=some o->DStep P rec (Dead ds j0) all ds o (i+j) (D (i+j)) (D (i+j+1))) /\
   wanted all (D j0).T o0.guard=some true /\ zg P o0.op=true /\ (∃ f as m1,op1 P o0.op (D j0).T (D j0).m=some (.enter f as m1) /\ rec (.call f as m1)=some (.die q.1 q.2.1)) /\ (D (j0+1)).m.next=q.2.1.next
 | [],i,s,q,h=>by cases h
 | o :: os,i,s,q,h=>by
  cases z6s h with
  | go h1 h2 =>
   rename_i s'
   obtain⟨D,j0,o0,d1,d2,d3,d4,d5,d6,d7,d8,d9⟩:=z5g hm os (i+1) s' q h2
   obtain⟨D',e1,e2,e3,e4⟩:=z4m (h1.mono fun _ h=>h.elim) d1 d2 d5
   refine⟨D',j0,o0,e1,e2,by omega,?_,e3,?_,d7,?_,?_⟩
   ·rw[show j0 - i=(j0 - (i+1))+1 by omega,List.getElem?_cons_succ];exact d4
   ·rw[e4 j0 (by omega)];exact d6
   ·rw[e4 j0 (by omega)];exact d8
   ·rw[e4 (j0+1) (by omega)];exact d9
  | die hw ha h1 h2 h3 h4 =>
   rename_i f as m1 T'
   obtain⟨D,d1,d2,d3⟩:=z4s os (i+1) _ _ h4
   have hle:s.m.next<=q.2.1.next:=Nat.le_trans (z3l o.op _ h1) (hm _ _ h2)
   have hstep:DStep P rec (Dead ds i) all ds o i s ⟨T',⟨q.2.1.next,s.m.tr⟩,⟨q.2.1.next,s.m.tr⟩ :: s.st,s.k+1,s.ps⟩:=.deadA (.inl rfl) h3 ha hle
   obtain⟨D',e1,e2,e3,e4⟩:=z4m hstep d1 d2 fun j o hj=>(d3 j o hj).mono fun _ h=>.inr h
   refine⟨D',i,o,e1,e2,Nat.le_refl _,by rw[Nat.sub_self];rfl,e3,by rw[e1];exact hw,by rw[zg,ha],⟨f,as,m1,by rw[e1];exact h1,h2⟩,?_⟩
   rw[e4 (i+1) (by omega),d1]
theorem z8o{p:Pend}:∀(pre:List Mem) (m0:Mem) (rest:List Mem) (K:Nat),pendAt P p (pre ++ m0 :: rest) K=true->pre.length<=K->p.lo<=K - pre.length->K - pre.length<=p.hi->z1v P p m0=true
 | [],m0,rest,K,h,_,h1,h2=>by
  obtain⟨h3,_⟩:=(Bool.and_eq_true _ _ ▸ h:ifb (Nat.ble p.lo K && Nat.ble K p.hi) (z1v P p m0) true=true /\ pendAt P p rest (K - 1)=true)
  rw[show Nat.ble p.lo K=true from by rw[Nat.ble_eq];simpa using h1,show Nat.ble K p.hi=true from by rw[Nat.ble_eq];simpa using h2] at h3
  exact h3
 | x :: pre,m0,rest,K,h,hl,h1,h2=>by
  obtain⟨_,h3⟩:=(Bool.and_eq_true _ _ ▸ h:ifb (Nat.ble p.lo K && Nat.ble K p.hi) (z1v P p x) true=true /\ pendAt P p (pre ++ m0 :: rest) (K - 1)=true)
  simp only[List.length_cons] at hl h1 h2
  exact z8o pre m0 rest (K - 1) h3 (by omega) (by rw[show K - 1 - pre.length=K - (pre.length+1) by omega];exact h1) (by rw[show K - 1 - pre.length=K - (pre.length+1) by omega];exact h2)
theorem z72{st:List Mem}{k:Nat}:∀(ps:List Pend),z19 P st k ps=true->∀ p ∈ ps,pendAt P p st k=true
 | [],_,p,h=>by cases h
 | x :: xs,h,p,hp=>by
  obtain⟨h1,h2⟩:=(Bool.and_eq_true _ _ ▸ h:pendAt P x st k=true /\ z19 P st k xs=true)
  rcases List.mem_cons.1 hp with rfl|hp
  ·exact h1
  ·exact z72 xs h2 p hp
theorem DStep.facts{dd:Nat->Prop}{all:List Oper}{ds:List Nat}{o:Oper}{i:Nat}{s s':DS}(h:DStep P rec dd all ds o i s s') :
  Puts s.T s'.T o.dst /\ s'.k=s.k+ifb (zg P o.op) 1 0 /\ (if zg P o.op then s'.st=s'.m :: s.st else s'.st=s.st) /\ (∃ ps,s'.ps=ps ++ s.ps):=by
 cases h with
 | mover hw h hc =>
  refine⟨h.puts,by simp[zg,hc,ifb],by simp[zg,hc],?_⟩
  cases hr:z0q o.op with
  | true=>exact⟨[_],rfl⟩
  | false=>exact⟨[],rfl⟩
 | calm hw h hc=>exact⟨h.puts,by simp[zg,hc,ifb],by simp[zg,hc],[],rfl⟩
 | new hw h hc=>exact⟨h.puts,by simp[zg,hc,ifb],by simp[zg,hc],[],rfl⟩
 | anchor hw h hc=>exact⟨h.puts,by simp[zg,hc,ifb],by simp[zg,hc],[],rfl⟩
 | offA hw h hc=>exact⟨⟨(Tm.put_eq h).1,(Tm.put_eq h).2.2⟩,by simp[zg,hc,ifb],by simp[zg,hc],[],rfl⟩
 | off hw h hc =>
  have:zg P o.op=false:=by
   unfold zg
   cases hk:cls P o.op<;>first|rfl|exact absurd hk hc
  exact⟨⟨(Tm.put_eq h).1,(Tm.put_eq h).2.2⟩,by simp[this,ifb],by simp[this],[],rfl⟩
 | deadA hd h hc hM=>exact⟨⟨(Tm.put_eq h).1,(Tm.put_eq h).2.2⟩,by simp[zg,hc,ifb],by simp[zg,hc],[],rfl⟩
 | dead hd h hc =>
  have:zg P o.op=false:=by
   unfold zg
   cases hk:cls P o.op<;>first|rfl|exact absurd hk hc
  exact⟨⟨(Tm.put_eq h).1,(Tm.put_eq h).2.2⟩,by simp[this,ifb],by simp[this],[],rfl⟩
end trace
end PvL
end
section
namespace PvL
open Go
section pure
variable {P:Program} {rec:Task->Option Out} {call:FuncId->Bool}
def PureCalls(rec:Task->Option Out)(call:FuncId->Bool):Prop :=
 ∀ f,call f=true->∀ args m o,rec (.call f args m)=some o->∃ v,o=.call v m /\ ∀ M,rec (.call f args M)=some (.call v M)
def PCode(rec:Task->Option Out)(call:FuncId->Bool):Prop:=∀ c,z0o call c=true->∀ fn ro T ms m o,rec (.code fn ro c T ms m)=some o ->
 ∃ e T',o=.code e T' ms m /\ ∀ ms' M,rec (.code fn ro c T ms' M)=some (.code e T' ms' M)
def RecPure(P:Program)(rec:Task->Option Out):Prop:=∀ d,d<=3->PureCalls rec (z15 P d) /\ PCode rec (z15 P d)
theorem zau{a b:Bool}(h:ifb a b false=true):a=true /\ b=true:=by
 cases a with
 | true=>exact⟨rfl,h⟩
 | false=>cases h
def NoSame(P:Program)(call:FuncId->Bool):Prop:=∀ f,call f=true->isSame P f=false
theorem zi5{f:FuncId}{fn:Func}(h:fnOf P f=some fn):isSame P f=false:=by
 obtain⟨hg,hb,_⟩:=z3h h
 unfold isSame
 rw[hg]
 cases hbb:fn.body with
 | none=>rw[hbb] at hb;cases hb
 | some _=>simp[hbb]
theorem zj2{d:Nat}{f:FuncId}(h:z15 P d f=true):∃ fn,fnOf P f=some fn:=by
 cases d with
 | zero=>cases h
 | succ d =>
  have hf:oe (fnOf P f) false (fun fn=>oe fn.body false fun c=>ifb (z0o (z15 P d) c) (pureRes fn.results.toList) false)=true:=h
  cases hx:fnOf P f with
  | none=>rw[hx] at hf;cases hf
  | some fn=>exact⟨fn,rfl⟩
theorem zdq(d:Nat):NoSame P (z15 P d):=fun f h=>by
 obtain⟨fn,h⟩:=zj2 h
 exact zi5 h
theorem zj3(hcf:NoSame P call){o:Op}{T:Tm}(h:pureOp call o=true):isDefer o=none /\ ((∃ X:Option LV,∀ m,opA P o T m=ob X (rv m)) ∨ ∃ f,call f=true /\ ∃ A:Option (List LV),∀ m,opA P o T m=ob A fun as=>some (.enter f as m)):=by
 have gen:∀(o:Op),(match cls0 o with | .mover=>!(z0q o) && !(onlyX o)|_=>false)=true->(∀ m,opA P o T m=oe (op1 P o T m) (opX P o T m) some)->isDefer o=none /\ ((∃ X:Option LV,∀ m,opA P o T m=ob X (rv m)) ∨ ∃ f,call f=true /\ ∃ A:Option (List LV),∀ m,opA P o T m=ob A fun as=>some (.enter f as m)):=fun o h hA=>by
  cases hc:cls0 o with
  | mover =>
   rw[hc] at h
   obtain⟨X,hX,hp⟩:=zit (P:=P) (T:=T) o hc
   have h:(!(z0q o) && !(onlyX o))=true:=h
   simp only[Bool.and_eq_true,Bool.not_eq_true'] at h
   obtain⟨hr,hx⟩:=h
   have hx0:∀ m,opX P o T m=none:=fun m=>by cases o<;>first|rfl|(cases hx;done)|(cases hr;done)
   have hd:isDefer o=none:=by cases o<;>first|rfl|(cases hx;done)
   refine⟨hd,.inl ⟨X ⟨0,.nil⟩,fun m=>?_⟩⟩
   rw[hA,hx0,hX,hp hr m ⟨0,.nil⟩]
   cases X ⟨0,.nil⟩<;>rfl
  | _=>rw[hc] at h;cases h
 cases o
 case call c =>
  obtain⟨callee,args,ats⟩:=c
  cases callee with
  | value f =>
   cases f with
   | func g =>
    have h:call g=true:=h
    refine⟨rfl,.inr ⟨g,h,ob (evs T args.toList) fun as=>some ([] ++ as ++ []),fun m=>?_⟩⟩
    have hs:oSame P ⟨.value (.func g),args,ats⟩ T m=none:=by
     show(match Callee.value (.func g),args.toList with | .value (.func f),[x]=>guard' (isSame P f) (ob (ev T x) (rv m))|_,_=>none)=none
     split
     ·rename_i f x e _
      cases e
      rw[hcf g h];rfl
     ·rfl
    show oe (oSame P ⟨.value (.func g),args,ats⟩ T m) (op1 P (.call ⟨.value (.func g),args,ats⟩) T m) some=_
    rw[hs,z0g];rfl
   | _=>cases h
  | invoke r n=>cases h
  | builtin b =>
   cases b<;>first|(cases h;done)|skip
   all_goals (
    first
    |(refine⟨rfl,.inl ⟨ob (evs T args.toList) fun as=>lE as none fun x xs=>foldL max2L xs x,fun m=>?_⟩⟩
      rw[z0g]
      show ob (evs T args.toList) _=_
      congr 1
      funext as
      cases as<;>rfl)
    |(refine⟨rfl,.inl ⟨ob (evs T args.toList) fun as=>lE as none fun x xs=>foldL min2L xs x,fun m=>?_⟩⟩
      rw[z0g]
      show ob (evs T args.toList) _=_
      congr 1
      funext as
      cases as<;>rfl))
 all_goals exact gen _ h fun m=>rfl
theorem zgk{ro:Option Nat}{all:List Oper}{o:Oper}{os:List Oper}{T T':Tm}{ms:List Dfr}{m m':Mem}{v:LV}(hw:wanted all T o.guard=some true)(hd:isDefer o.op=none)(hA:opA P o.op T m=some (.val v m'))(hp:T.put o.dst v=some T') :
  z0p P ro rec all (o :: os) T ms m=z0p P ro rec all os T' ms m':=by
 obtain⟨dst,op,a1,a2,a3,g⟩:=o
 show ob (wanted all T g) _=_
 have hw:wanted all T g=some true:=hw
 have hd:isDefer op=none:=hd
 have hA:opA P op T m=some (.val v m'):=hA
 have hp:T.put dst v=some T':=hp
 rw[hw]
 show oe (isDefer op) _ _=_
 rw[hd]
 show ob (opA P op T m) _=_
 rw[hA]
 show ob (T.put dst v) _=_
 rw[hp];rfl
theorem zch{ro:Option Nat}{all:List Oper}{o:Oper}{os:List Oper}{T T':Tm}{ms:List Dfr}{m m1 m':Mem}{f:FuncId}{as:List LV}{v:LV}(hw:wanted all T o.guard=some true)(hd:isDefer o.op=none)(hA:opA P o.op T m=some (.enter f as m1))(hr:rec (.call f as m1)=some (.call v m'))(hp:T.put o.dst v=some T') :
  z0p P ro rec all (o :: os) T ms m=z0p P ro rec all os T' ms m':=by
 obtain⟨dst,op,a1,a2,a3,g⟩:=o
 show ob (wanted all T g) _=_
 have hw:wanted all T g=some true:=hw
 have hd:isDefer op=none:=hd
 have hA:opA P op T m=some (.enter f as m1):=hA
 have hp:T.put dst v=some T':=hp
 rw[hw]
 show oe (isDefer op) _ _=_
 rw[hd]
 show ob (opA P op T m) _=_
 rw[hA]
 show z1j (rec (.call f as m1)) _ _=_
 rw[hr]
 show ob (T.put dst v) _=_
 rw[hp];rfl
theorem z6g{ro:Option Nat}{all:List Oper}{o:Oper}{os:List Oper}{T T':Tm}{ms:List Dfr}{m:Mem}(hw:wanted all T o.guard=some false)(hp:T.put o.dst z05=some T') :
  z0p P ro rec all (o :: os) T ms m=z0p P ro rec all os T' ms m:=by
 obtain⟨dst,op,a1,a2,a3,g⟩:=o
 show ob (wanted all T g) _=_
 have hw:wanted all T g=some false:=hw
 have hp:T.put dst z05=some T':=hp
 rw[hw]
 show ob (T.put dst z05) _=_
 rw[hp];rfl
theorem z3n(hc:PureCalls rec call)(hcf:NoSame P call){ro:Option Nat}{all:List Oper}:∀(os:List Oper) (T:Tm) (ms:List Dfr) (m:Mem) (q:Out),pureOps call os=true->z0p P ro rec all os T ms m=some q ->
  ∃ T',q=.code .norm T' ms m /\ ∀ ms' M,z0p P ro rec all os T ms' M=some (.code .norm T' ms' M)
 | [],T,ms,m,q,_,h=>by cases h;exact⟨T,rfl,fun _ _=>rfl⟩
 | o :: os,T,ms,m,q,hp,h=>by
  obtain⟨hp1,hp2⟩:=zau (show ifb (pureOp call o.op) (pureOps call os) false=true from hp)
  obtain⟨hd0,hcase⟩:=zj3 (P:=P) (T:=T) hcf hp1
  cases z57 h with
  | off hw hput h2 =>
   obtain⟨T',e,hall⟩:=z3n hc hcf os _ ms m q hp2 h2
   exact⟨T',e,fun ms' M=>by rw[z6g hw hput];exact hall ms' M⟩
  | dfr hw hd _ _ _ _=>rw[hd] at hd0;cases hd0
  | boom hw hd hs e =>
   exfalso
   rcases hcase with⟨X,hX⟩|⟨f,hf,A,hA⟩
   ·rw[hX] at hs
    cases hs with
    | boom h=>obtain⟨v,_,e⟩:=zb.1 h;cases e
    | enter h hr=>obtain⟨v,_,e⟩:=zb.1 h;cases e
    | round h hr=>obtain⟨v,_,e⟩:=zb.1 h;cases e
   ·rw[hA] at hs
    cases hs with
    | boom h=>obtain⟨v,_,e⟩:=zb.1 h;cases e
    | enter h hr=>obtain⟨v,_,e⟩:=zb.1 h;cases e;obtain⟨v,e,_⟩:=hc f hf _ _ _ hr;cases e
    | round h hr=>obtain⟨v,_,e⟩:=zb.1 h;cases e
  | on hw hd hs h2 =>
   rcases hcase with⟨X,hX⟩|⟨f,hf,A,hA⟩
   ·rw[hX] at hs
    cases hs with
    | val h hput =>
     obtain⟨v,hv,e⟩:=zb.1 h;cases e
     obtain⟨T',e,hall⟩:=z3n hc hcf os _ ms _ q hp2 h2
     exact⟨T',e,fun ms' M=>by rw[zgk hw hd (by rw[hX,hv];rfl) hput];exact hall ms' M⟩
    | skip h hp=>obtain⟨v,_,e⟩:=zb.1 h;cases e
    | enter h hr hp=>obtain⟨v,_,e⟩:=zb.1 h;cases e
    | round h hr hp=>obtain⟨v,_,e⟩:=zb.1 h;cases e
   ·rw[hA] at hs
    cases hs with
    | val h hput=>obtain⟨v,_,e⟩:=zb.1 h;cases e
    | skip h hp=>obtain⟨v,_,e⟩:=zb.1 h;cases e
    | enter h hr hput =>
     obtain⟨as,hv,e⟩:=zb.1 h;cases e
     obtain⟨v,e,hM⟩:=hc f hf _ _ _ hr
     cases e
     obtain⟨T',e,hall⟩:=z3n hc hcf os _ ms _ q hp2 h2
     exact⟨T',e,fun ms' M=>by rw[zch hw hd (by rw[hA,hv];rfl) (hM M) hput];exact hall ms' M⟩
    | round h hr hp=>obtain⟨v,_,e⟩:=zb.1 h;cases e
theorem zb4(hc:PureCalls rec call)(hcf:NoSame P call)(hd:PCode rec call):∀ c,z0o call c=true->∀ fn ro T ms m o,stCode P rec fn ro c T ms m=some o ->
  ∃ e T',o=.code e T' ms m /\ ∀ ms' M,stCode P rec fn ro c T ms' M=some (.code e T' ms' M):=by
 intro c hp fn ro T ms m o h
 cases c with
 | skip=>cases h;exact⟨_,_,rfl,fun _ _=>rfl⟩
 | label l=>cases h;exact⟨_,_,rfl,fun _ _=>rfl⟩
 | ret=>cases h;exact⟨_,_,rfl,fun _ _=>rfl⟩
 | exit id=>cases h;exact⟨_,_,rfl,fun _ _=>rfl⟩
 | seq a b =>
  obtain⟨ha,hb⟩:=zau (show ifb (z0o call a) (z0o call b) false=true from hp)
  obtain⟨o1,h1,h⟩:=zb.1 (show ob (rec (.code fn ro a T ms m)) _=some o from h)
  obtain⟨e1,T1,rfl,hall⟩:=hd a ha _ _ _ _ _ _ h1
  cases e1 with
  | norm =>
   obtain⟨e2,T2,rfl,hall2⟩:=hd b hb _ _ _ _ _ _ (show rec (.code fn ro b T1 ms m)=some o from h)
   refine⟨e2,T2,rfl,fun ms' M=>?_⟩
   show ob (rec (.code fn ro a T ms' M)) _=_
   rw[hall];exact hall2 ms' M
  | ret =>
   cases h
   refine⟨_,T1,rfl,fun ms' M=>?_⟩
   show ob (rec (.code fn ro a T ms' M)) _=_
   rw[hall];rfl
  | exit id =>
   cases h
   refine⟨_,T1,rfl,fun ms' M=>?_⟩
   show ob (rec (.code fn ro a T ms' M)) _=_
   rw[hall];rfl
 | cond x a b =>
  obtain⟨ha,hb⟩:=zau (show ifb (z0o call a) (z0o call b) false=true from hp)
  obtain⟨v,h1,h⟩:=zb.1 (show ob (ev T x) _=some o from h)
  cases v<;>first|(cases h;done)|skip
  case bool c =>
   cases c with
   | true =>
    obtain⟨e1,T1,rfl,hall⟩:=hd a ha _ _ _ _ _ _ (show rec (.code fn ro a T ms m)=some o from h)
    refine⟨e1,T1,rfl,fun ms' M=>?_⟩
    show ob (ev T x) _=_
    rw[h1];exact hall ms' M
   | false =>
    obtain⟨e1,T1,rfl,hall⟩:=hd b hb _ _ _ _ _ _ (show rec (.code fn ro b T ms m)=some o from h)
    refine⟨e1,T1,rfl,fun ms' M=>?_⟩
    show ob (ev T x) _=_
    rw[h1];exact hall ms' M
 | block id b =>
  have hb:z0o call b=true:=hp
  obtain⟨o1,h1,h⟩:=zb.1 (show ob (rec (.code fn ro b T ms m)) _=some o from h)
  obtain⟨e1,T1,rfl,hall⟩:=hd b hb _ _ _ _ _ _ h1
  have hgo:∀ ms' M,stCode P rec fn ro (.block id b) T ms' M=exE e1 (some (.code .norm T1 ms' M)) (some (.code .ret T1 ms' M)) (fun id'=>ifb (Nat.beq id' id) (some (.code .norm T1 ms' M)) (some (.code (.exit id') T1 ms' M))):=fun ms' M=>by
   show ob (rec (.code fn ro b T ms' M)) _=_
   rw[hall];rfl
  cases e1 with
  | norm=>cases h;exact⟨_,_,rfl,hgo⟩
  | ret=>cases h;exact⟨_,_,rfl,hgo⟩
  | exit id' =>
   have h:ifb (Nat.beq id' id) (some (Out.code .norm T1 ms m)) (some (.code (.exit id') T1 ms m))=some o:=h
   have hgo:∀ ms' M,stCode P rec fn ro (.block id b) T ms' M=ifb (Nat.beq id' id) (some (.code .norm T1 ms' M)) (some (.code (.exit id') T1 ms' M)):=hgo
   cases hx:Nat.beq id' id with
   | true=>rw[hx] at h hgo;cases h;exact⟨_,_,rfl,hgo⟩
   | false=>rw[hx] at h hgo;cases h;exact⟨_,_,rfl,hgo⟩
 | loop b =>
  have hb:z0o call b=true:=hp
  obtain⟨o1,h1,h⟩:=zb.1 (show ob (rec (.code fn ro b T ms m)) _=some o from h)
  obtain⟨e1,T1,rfl,hall⟩:=hd b hb _ _ _ _ _ _ h1
  cases e1 with
  | norm =>
   obtain⟨e2,T2,rfl,hall2⟩:=hd (.loop b) hp _ _ _ _ _ _ (show rec (.code fn ro (.loop b) T1 ms m)=some o from h)
   refine⟨e2,T2,rfl,fun ms' M=>?_⟩
   show ob (rec (.code fn ro b T ms' M)) _=_
   rw[hall];exact hall2 ms' M
  | ret =>
   cases h
   refine⟨_,T1,rfl,fun ms' M=>?_⟩
   show ob (rec (.code fn ro b T ms' M)) _=_
   rw[hall];rfl
  | exit id =>
   cases h
   refine⟨_,T1,rfl,fun ms' M=>?_⟩
   show ob (rec (.code fn ro b T ms' M)) _=_
   rw[hall];rfl
 | scope b =>
  have hb:z0o call b=true:=hp
  exact hd b hb _ _ _ _ _ _ h
 | region id ops dr =>
  cases dr with
  | true=>cases hp
  | false =>
   have hb:pureOps call ops.toList=true:=hp
   obtain⟨T1,e,hall⟩:=z3n hc hcf _ _ _ _ _ hb (show z0p P ro rec ops.toList ops.toList T ms m=some o from h)
   exact⟨_,T1,e,fun ms' M=>hall ms' M⟩
 | _=>cases hp
theorem z9z{T:Tm}:∀(rs:List ResultVar),pureRes rs=true->∀ m M,z0s P T m rs=z0s P T M rs
 | [],_,_,_=>rfl
 | .tmp t :: rs,h,m,M=>by
  show ob (evT T t) _=ob (evT T t) _
  rw[show z0s P T m rs=z0s P T M rs from z9z rs h m M]
 | .cell x t :: rs,h,_,_=>by cases h
theorem z49(hP:RecPure P rec):RecPure P (stepT P rec):=fun d hd=>by
  refine⟨fun f hf args m o h=>?_,fun c hp fn ro T ms m o h=>zb4 (hP d hd).1 (zdq d) (hP d hd).2 c hp fn ro T ms m o h⟩
  cases d with
  | zero=>cases hf
  | succ d =>
   have h:ob (fnOf P f) (fun fn=>ob (Tm.ofList fn.ntmps args) fun T=>ob fn.body fun c=>z1y (rec (.code f none c T [] m)) (fun e T ms m=>exE e (finRet P rec fn T ms m) (finRet P rec fn T ms m) (fun _=>none)) fun v T ms m=>finDie P rec fn T v ms m)=some o:=h
   have hf:oe (fnOf P f) false (fun fn=>oe fn.body false fun c=>ifb (z0o (z15 P d) c) (pureRes fn.results.toList) false)=true:=hf
   obtain⟨fn,h1,h⟩:=zb.1 h
   rw[h1] at hf
   have hf:oe fn.body false (fun c=>ifb (z0o (z15 P d) c) (pureRes fn.results.toList) false)=true:=hf
   obtain⟨T,h2,h⟩:=zb.1 h
   obtain⟨c,h3,h⟩:=zb.1 h
   rw[h3] at hf
   obtain⟨hp,hr⟩:=zau (show ifb (z0o (z15 P d) c) (pureRes fn.results.toList) false=true from hf)
   obtain⟨o1,h4,h⟩:=zb.1 (show ob (rec (.code f none c T [] m)) _=some o from h)
   obtain⟨e,T1,rfl,hall⟩:=(hP d (by omega)).2 c hp _ _ _ _ _ _ h4
   have hgo:∀ M,stepT P rec (.call f args M)=exE e (finRet P rec fn T1 [] M) (finRet P rec fn T1 [] M) (fun _=>none):=fun M=>by
    show ob (fnOf P f) (fun fn=>ob (Tm.ofList fn.ntmps args) fun T=>ob fn.body fun c=>z1y (rec (.code f none c T [] M)) (fun e T ms m=>exE e (finRet P rec fn T ms m) (finRet P rec fn T ms m) (fun _=>none)) fun v T ms m=>finDie P rec fn T v ms m)=_
    rw[h1]
    show ob (Tm.ofList fn.ntmps args) _=_
    rw[h2]
    show ob fn.body _=_
    rw[h3]
    show ob (rec (.code f none c T [] M)) _=_
    rw[hall];rfl
   have hend:finRet P rec fn T1 [] m=some o->∃ v,o=.call v m /\ ∀ M,finRet P rec fn T1 [] M=some (.call v M):=fun h=>by
    have hx:∀ M,finRet P rec fn T1 [] M=ob (z0s P T1 M fn.results.toList) fun vs=>some (.call (packed vs) M):=fun _=>rfl
    rw[hx] at h
    obtain⟨vs,h5,h⟩:=zb.1 h
    cases h
    exact⟨_,rfl,fun M=>by rw[hx,z9z _ hr M _,h5];rfl⟩
   cases e with
   | norm =>
    obtain⟨v,e1,h6⟩:=hend h
    exact⟨v,e1,fun M=>by rw[hgo];exact h6 M⟩
   | ret =>
    obtain⟨v,e1,h6⟩:=hend h
    exact⟨v,e1,fun M=>by rw[hgo];exact h6 M⟩
   | exit id=>cases h
theorem run_pure:∀ n,RecPure P (run P n)
 | 0=>fun d _=>⟨fun f _ args m o h=>by(cases h),fun c _ fn ro T ms m o h=>by(cases h)⟩
 | n+1=>z49 (run_pure n)
end pure
section
variable {P:Program} {rec:Task->Option Out} {dd:Nat->Prop} {ops:Array Oper} {D:Nat->DS}
theorem zii{T T':Tm}{m m':Mem}{op:Op}{d:Option Tmp}(hc:cls P op=.mover)(h:OpStep P rec T m op d T' m') :
  ∃ v,op1 P op T m=some (.val v m) /\ T.put d v=some T' /\ m'=m:=by
 obtain⟨X,hX,_⟩:=zit (P:=P) (T:=T) op (zbt hc)
 have key:∀ r,op1 P op T m=some r->∃ v,r=.val v m:=fun r hr=>by
  rw[hX m] at hr
  obtain⟨v,_,hv⟩:=zb.1 hr
  exact⟨v,(Option.some.inj hv).symm⟩
 cases h with
 | val h hp=>obtain⟨v,e⟩:=key _ h;cases e;exact⟨_,h,hp,rfl⟩
 | skip h hp=>obtain⟨v,e⟩:=key _ h;cases e
 | enter h hr hp=>obtain⟨v,e⟩:=key _ h;cases e
 | round h hr hp=>obtain⟨v,e⟩:=key _ h;cases e
theorem zex{T T':Tm}{m m':Mem}{op:Op}{d:Option Tmp}(hc:cls P op=.new)(h:OpStep P rec T m op d T' m') :
  ∃ v lb,T.put d v=some T' /\ m'=m.push lb /\ isRo lb=false /\ ∀ M:Mem,M.next=m.next->op1 P op T M=some (.val v (M.push lb)):=by
 cases h with
 | val h hp=>obtain⟨v,lb,e,h1,h2⟩:=zb2 op (zaq hc) h;cases e;exact⟨_,lb,hp,rfl,h1,h2⟩
 | skip h hp=>obtain⟨v,lb,e,_⟩:=zb2 op (zaq hc) h;cases e
 | enter h hr hp=>obtain⟨v,lb,e,_⟩:=zb2 op (zaq hc) h;cases e
 | round h hr hp=>obtain⟨v,lb,e,_⟩:=zb2 op (zaq hc) h;cases e
theorem zbq(hp:RecPure P rec){T T':Tm}{m m':Mem}{op:Op}{d:Option Tmp}(hc:cls P op=.calm)(h:OpStep P rec T m op d T' m') :
  m'=m /\ ∀ M,OpStep P rec T M op d T' M:=by
 obtain⟨f,args,ats,rfl,hf⟩:=zko hc
 have key:∀(m:Mem) (r:R1),op1 P (.call ⟨.value (.func f),args,ats⟩) T m=some r->∃ as,r=.enter f as m /\ ∀ M,op1 P (.call ⟨.value (.func f),args,ats⟩) T M=some (.enter f as M):=fun m r hr=>by
  obtain⟨as,h1,h2⟩:=zb.1 (show ob (evs T args.toList) (fun as=>callV (.func (.func f) [] []) as m)=some r from hr)
  refine⟨[] ++ as ++ [],(Option.some.inj h2).symm,fun M=>?_⟩
  show ob (evs T args.toList) (fun as=>callV (.func (.func f) [] []) as M)=_
  rw[h1];rfl
 cases h with
 | val h hp=>obtain⟨as,e,_⟩:=key _ _ h;cases e
 | skip h hp=>obtain⟨as,e,_⟩:=key _ _ h;cases e
 | round h hr hp=>obtain⟨as,e,_⟩:=key _ _ h;cases e
 | enter h hr hput =>
  obtain⟨as,e,hM⟩:=key _ _ h
  cases e
  obtain⟨v,e,hall⟩:=(hp 3 (Nat.le_refl _)).1 f hf _ _ _ hr
  cases e
  exact⟨rfl,fun M=>.enter (hM M) (hall M) hput⟩
theorem DStep.mem(hpu:RecPure P rec){dd:Nat->Prop}{all:List Oper}{ds:List Nat}{o:Oper}{i:Nat}{s s':DS}(h:DStep P rec dd all ds o i s s')(ha:zg P o.op=false) :
  s'.m=s.m ∨(isNew P o.op=true /\ ∃ lb,isRo lb=false /\ s'.m=s.m.push lb):=by
 cases h with
 | mover hw h hc=>obtain⟨_,_,_,e⟩:=zii hc h;exact .inl e
 | new hw h hc=>obtain⟨v,lb,_,e,hr,_⟩:=zex hc h;exact .inr ⟨by simp[isNew,hc],lb,hr,e⟩
 | anchor hw h hc=>simp[zg,hc] at ha
 | calm hw h hc=>exact .inl (zbq hpu hc h).1
 | offA hw h hc=>simp[zg,hc] at ha
 | off hw h hc=>exact .inl rfl
 | deadA hd h hc hM=>simp[zg,hc] at ha
 | dead hd h hc=>exact .inl rfl
structure Tr (P:Program) (rec:Task->Option Out) (dd:Nat->Prop) (ops:Array Oper) (D:Nat->DS):Prop where
 ok:RegOk P ops
 mono:z0j rec
 pure:RecPure P rec
 step:∀ j o,ops[j]?=some o->DStep P rec dd ops.toList (deps ops) o j (D j) (D (j+1))
 st0:(D 0).st=[(D 0).m]
 k0:(D 0).k=0
 pend:z19 P (D ops.size).st (D ops.size).k (D ops.size).ps=true
theorem Tr.at_(h:Tr P rec dd ops D){j:Nat}(hj:j < ops.size):∃ o,ops[j]?=some o /\ DStep P rec dd ops.toList (deps ops) o j (D j) (D (j+1)) :=
 ⟨ops[j],Array.getElem?_eq_getElem hj,h.step j _ (Array.getElem?_eq_getElem hj)⟩
theorem z0y{j:Nat}{o:Oper}(h:ops[j]?=some o):j < ops.size:=(Array.getElem?_eq_some_iff.1 h).1
theorem Tr.size(h:Tr P rec dd ops D):∀ j,j<=ops.size->(D j).T.size=(D 0).T.size
 | 0,_=>rfl
 | j+1,hj=>by
  obtain⟨o,_,hs⟩:=h.at_ (j:=j) (by omega)
  rw[hs.facts.1.1,h.size j (by omega)]
theorem Tr.before(h:Tr P rec dd ops D){t:Tmp}:∀ j,j<=ops.size->(∀ i o,i < j->ops[i]?=some o->o.dst ≠ some t)->(D j).T.get t=(D 0).T.get t
 | 0,_,_=>rfl
 | j+1,hj,hn=>by
  obtain⟨o,ho,hs⟩:=h.at_ (j:=j) (by omega)
  rw[hs.facts.1.2 t (hn j o (by omega) ho),h.before j (by omega) fun i o hi=>hn i o (by omega)]
theorem Tr.after(h:Tr P rec dd ops D){t:Tmp}:∀(d j:Nat),j+d=ops.size->(∀ i o,j<=i->ops[i]?=some o->o.dst ≠ some t)->(D ops.size).T.get t=(D j).T.get t
 | 0,j,e,_=>by rw[<-e];rfl
 | d+1,j,e,hn=>by
  obtain⟨o,ho,hs⟩:=h.at_ (j:=j) (by omega)
  rw[h.after d (j+1) (by omega) fun i o hi=>hn i o (by omega),hs.facts.1.2 t (hn j o (by omega) ho)]
theorem Tr.next(h:Tr P rec dd ops D):∀(d i:Nat),i+d<=ops.size->(D i).m.next<=(D (i+d)).m.next
 | 0,_,_=>Nat.le_refl _
 | d+1,i,hj=>by
  obtain⟨o,_,hs⟩:=h.at_ (j:=i+d) (by omega)
  exact Nat.le_trans (h.next d i (by omega)) (hs.next h.mono)
theorem Tr.cnt(h:Tr P rec dd ops D):∀ j,j<=ops.size->(D j).k=acnt P (fun x=>Nat.blt x j) ops.toList 0
 | 0,_=>by
  rw[h.k0,z65 (q:=fun _=>false),z66]
  intro j o _ _
  cases hb:Nat.blt (0+j) 0 with
  | false=>rfl
  | true=>rw[Nat.blt_eq] at hb;omega
 | j+1,hj=>by
  obtain⟨o,ho,hs⟩:=h.at_ (j:=j) (by omega)
  rw[hs.facts.2.1,h.cnt j (by omega),zbf j ops.toList 0 j o (by omega) (by simpa using ho)]
theorem Tr.stk(h:Tr P rec dd ops D):∀(d j:Nat),j+d=ops.size->∃ pre,(D ops.size).st=pre ++(D j).st /\ pre.length+(D j).k=(D ops.size).k
 | 0,j,e=>by rw[<-e];exact⟨[],rfl,by simp⟩
 | d+1,j,e=>by
  obtain⟨o,ho,hs⟩:=h.at_ (j:=j) (by omega)
  obtain⟨pre,h1,h2⟩:=h.stk d (j+1) (by omega)
  obtain⟨_,h3,h4,_⟩:=hs.facts
  cases ha:zg P o.op with
  | true =>
   rw[ha] at h4 h3
   have h4:(D (j+1)).st=(D (j+1)).m ::(D j).st:=h4
   have h3:(D (j+1)).k=(D j).k+1:=h3
   exact⟨pre ++ [(D (j+1)).m],by rw[h1,h4];simp,by simp;omega⟩
  | false =>
   rw[ha] at h4 h3
   have h4:(D (j+1)).st=(D j).st:=h4
   have h3:(D (j+1)).k=(D j).k+0:=h3
   exact⟨pre,by rw[h1,h4],by omega⟩
theorem Tr.pss(h:Tr P rec dd ops D):∀(d j:Nat),j+d=ops.size->∃ pre,(D ops.size).ps=pre ++(D j).ps
 | 0,j,e=>by rw[<-e];exact⟨[],rfl⟩
 | d+1,j,e=>by
  obtain⟨o,ho,hs⟩:=h.at_ (j:=j) (by omega)
  obtain⟨pre,h1⟩:=h.pss d (j+1) (by omega)
  obtain⟨_,_,_,p2,h4⟩:=hs.facts
  exact⟨pre ++ p2,by rw[h1,h4];simp⟩
def AtEnd(P:Program)(ops:Array Oper)(q:Nat):Prop:=q=0 ∨ ∃ o,ops[q - 1]?=some o /\ zg P o.op=true /\ 0 < q
theorem Tr.head(h:Tr P rec dd ops D){q:Nat}(hq:AtEnd P ops q):∃ l,(D q).st=(D q).m :: l:=by
 rcases hq with rfl|⟨o,ho,ha,hp⟩
 ·exact⟨[],h.st0⟩
 ·have hs:=(h.step (q - 1) o ho).facts.2.2.1
  rw[ha,show q - 1+1=q by omega] at hs
  exact⟨_,hs⟩
theorem Tr.looked(h:Tr P rec dd ops D){q j:Nat}(hq:AtEnd P ops q)(hqn:q<=ops.size)(hj:j < ops.size){p:Pend}(hp:p ∈ (D (j+1)).ps)
  (hlo:p.lo<=(D q).k) (hhi:(D q).k<=p.hi):z1v P p (D q).m=true:=by
 obtain⟨l,hl⟩:=h.head hq
 obtain⟨pre,h1,h2⟩:=h.stk (ops.size - q) q (by omega)
 obtain⟨pp,h3⟩:=h.pss (ops.size - (j+1)) (j+1) (by omega)
 have:=z72 _ h.pend p (by rw[h3];exact List.mem_append_right _ hp)
 rw[h1,hl] at this
 exact z8o pre _ l _ this (by omega) (by omega) (by omega)
variable {Pt:Prot} {ρ0:Rho}
def News(P:Program)(ops:Array Oper)(D:Nat->DS)(L:Array Bool)(q:Nat)(Pt Pt':Prot)(ρ:Rho):Prop :=
 ∀ i o lb,ops[i]?=some o->L.getD i false=true->q<=i->isNew P o.op=true->(D (i+1)).m=(D i).m.push lb ->
  ∃ b s c ob,ρ (D i).m.next=some (b,s,c) /\ BR ρ lb ob s c /\ Pt' b=some ob /\ Pt b=none
def Dist(P:Program)(ops:Array Oper)(D:Nat->DS)(L:Array Bool)(q:Nat)(ρ:Rho):Prop :=
 ∀ i i' o o' lb lb' x x',ops[i]?=some o->ops[i']?=some o'->L.getD i false=true->L.getD i' false=true->q<=i->q<=i'->isNew P o.op=true->isNew P o'.op=true ->
  (D (i+1)).m=(D i).m.push lb->(D (i' + 1)).m=(D i').m.push lb'->i ≠ i'->ρ (D i).m.next=some x->ρ (D i').m.next=some x'->x.1 ≠ x'.1
structure Inv (P:Program) (ops:Array Oper) (D:Nat->DS) (Pt:Prot) (ρ0:Rho) (df:List Deferred) (L:Array Bool) (q:Nat) (U:Tm) (Pt':Prot) (ρ:Rho) (w:World) (a:Act):Prop where
 sizeL:L.size=ops.size
 qn:q<=ops.size
 hq:AtEnd P ops q
 anch:∀ i o,ops[i]?=some o->zg P o.op=true->(L.getD i false=true ↔ i < q)
 down:∀ j o,ops[j]?=some o->L.getD j false=true->∀ e ∈ o.after,Region.binds .any e=true->L.getD e.on false=true
 sz:U.size=(D 0).T.size
 tmp:∀(i:Nat) (o:Oper) (d:Tmp),ops[i]?=some o->o.dst=some d->U.get d=if L.getD i false=true then(D ops.size).T.get d else(D 0).T.get d
 tmp0:∀(d:Tmp),(∀(i:Nat) (o:Oper),ops[i]?=some o->o.dst ≠ some d)->U.get d=(D 0).T.get d
 hT:TR ρ U a.tmps
 hd:a.defers=df
 rel:Rel Pt' ρ (D q).m w
 le:Pt.Le Pt'
 news:News P ops D L q Pt Pt' ρ
 dist:Dist P ops D L q ρ
 fresh:∀ i,i < ops.size->L.getD i false=false->Fresh ρ (D i).m.next (D (i+1)).m.next
 same:Same ρ0 ρ (D 0).m.next (D ops.size).m.next
theorem Inv.adopt(h:Tr P rec dd ops D){df:List Deferred}{L:Array Bool}{q:Nat}{U:Tm}{Pt':Prot}{ρ:Rho}{w:World}{a:Act}(hi:Inv P ops D Pt ρ0 df L q U Pt' ρ w a) :
  ∀(d:Nat),q+d<=ops.size->(∀ i o,q<=i->i < q+d->ops[i]?=some o->(isNew P o.op=true->L.getD i false=true) /\ zg P o.op=false) ->
   ∃ Pt'',Rel Pt'' ρ (D (q+d)).m w /\ Pt.Le Pt'' /\ News P ops D L (q+d) Pt Pt'' ρ
 | 0,_,_=>⟨Pt',hi.rel,hi.le,hi.news⟩
 | d+1,hn,hc=>by
  obtain⟨P1,h1,h2,h3⟩:=hi.adopt h d (by omega) fun i o a b=>hc i o a (by omega)
  obtain⟨o,ho,hs⟩:=h.at_ (j:=q+d) (by omega)
  obtain⟨hnew,hna⟩:=hc (q+d) o (by omega) (by omega) ho
  rcases hs.mem h.pure hna with e|⟨hk,lb,hro,e⟩
  ·refine⟨P1,?_,h2,fun i o lb g1 g2 g3=>h3 i o lb g1 g2 (by omega)⟩
   show Rel P1 ρ (D (q+d+1)).m w
   rw[e];exact h1
  ·obtain⟨b,s,c,ob,k1,k2,k3,k4⟩:=h3 (q+d) o lb ho (hnew hk) (Nat.le_refl _) hk e
   have hnr:¬P1.ro b:=fun hr=>by rw[<-h2.2.1] at hr;exact Pt.sub b hr k4
   refine⟨P1.free b hnr,?_,⟨fun x o' hx=>?_,h2.2⟩,fun i o' lb' g1 g2 g3 g4 g5=>?_⟩
   ·show Rel _ ρ (D (q+d+1)).m w
    rw[e];exact h1.back k1 k2 k3 hro hnr
   ·show(if x=b then none else P1 x)=some o'
    have hne:x ≠ b:=fun eb=>by rw[eb,k4] at hx;cases hx
    rw[if_neg hne];exact h2.1 x o' hx
   ·obtain⟨b',s',c',ob',l1,l2,l3,l4⟩:=h3 i o' lb' g1 g2 (by omega) g4 g5
    have hne:b' ≠ b:=hi.dist i (q+d) o' o lb' lb _ _ g1 ho g2 (hnew hk) (by omega) (by omega) g4 hk g5 e (by omega) l1 k1
    refine⟨b',s',c',ob',l1,l2,?_,l4⟩
    show(if b'=b then none else P1 b')=some ob'
    rw[if_neg hne];exact l3
end
end PvL
end
section
namespace PvL
open Go
section
variable {P:Program} {rec:Task->Option Out} {dd:Nat->Prop} {ops:Array Oper} {D:Nat->DS} {Pt Pt':Prot} {ρ0 ρ:Rho} {df:List Deferred} {L:Array Bool} {q:Nat} {U:Tm} {w:World} {a:Act}
 {j:Nat} {o:Oper}
theorem z1i{L:Array Bool}{j:Nat}(hj:j < L.size)(i:Nat):(L.setIfInBounds j true).getD i false=if i=j then true else L.getD i false:=by
 by_cases e:i=j
 ·subst e;simp[hj]
 ·rw[if_neg e,getD_set_ne false (Ne.symm e)]
theorem Inv.deps(hi:Inv P ops D Pt ρ0 df L q U Pt' ρ w a)(ho:ops[j]?=some o)(hr:∀ e ∈ o.after,Region.binds .any e=true->L.getD e.on false=true){i:Nat}
  (hb:Nat.testBit ((deps ops).getD j 0) i=true):L.getD i false=true :=
 z4z (S:=fun i=>L.getD i false=true) hi.down (j+1) j (Nat.lt_succ_self _) o ho hr i hb
theorem Inv.look(h:Tr P rec dd ops D)(hi:Inv P ops D Pt ρ0 df L q U Pt' ρ w a)(ho:ops[j]?=some o)(hj:L.getD j false=false)(hr:∀ e ∈ o.after,Region.binds .any e=true->L.getD e.on false=true)
  {t:Tmp} (ht:t ∈ looks ops.toList o):(D j).T.get t=U.get t:=by
 have hjn:=z0y ho
 by_cases hx:∃(i:Nat) (oi:Oper),ops[i]?=some oi /\ oi.dst=some t
 ·obtain⟨i,oi,hoi,hdi⟩:=hx
  obtain⟨hne,h1,h2⟩:=h.ok.pair j i o oi t ho hoi hdi ht
  rw[hi.tmp i oi t hoi hdi]
  by_cases hl:i < j
  ·rw[if_pos (hi.deps ho hr (h1 hl))]
   exact(h.after (ops.size - j) j (by omega) fun i' o' hi' ho' e=>by
    have:=h.ok.uniq i i' oi o' t hoi ho' hdi e
    omega).symm
  ·have hji:j < i:=by omega
   rw[if_neg (fun hs=>?_)]
   ·exact h.before j (by omega) fun i' o' hi' ho' e=>by
     have:=h.ok.uniq i i' oi o' t hoi ho' hdi e
     omega
   ·have:=hi.deps hoi (hi.down i oi hoi hs) (h2 hji)
    rw[hj] at this;cases this
 ·have hno:∀(i:Nat) (oi:Oper),ops[i]?=some oi->oi.dst ≠ some t:=fun i oi hoi hd=>hx ⟨i,oi,hoi,hd⟩
  rw[hi.tmp0 t hno]
  exact h.before j (by omega) fun i' o' _ ho'=>hno i' o' ho'
theorem z7a{all:List Oper}{T U:Tm}{o:Oper}(h:∀ t ∈ looks all o,T.get t=U.get t):wanted all T o.guard=wanted all U o.guard:=by
 cases hg:o.guard with
 | none=>rfl
 | some p =>
  obtain⟨j,want⟩:=p
  show oe ((all[j]?).bind (·.dst)) _ _=oe ((all[j]?).bind (·.dst)) _ _
  cases hd:(all[j]?).bind (·.dst) with
  | none=>rfl
  | some d =>
   have:d ∈ looks all o:=by
    unfold looks
    rw[hg]
    simp only[hd]
    simp
   show ob (evT T d) _=ob (evT U d) _
   rw[z3r,z3r,h d this]
theorem z5q{all:List Oper}{T U:Tm}{o:Oper}(m:Mem)(h:∀ t ∈ looks all o,T.get t=U.get t):op1 P o.op T m=op1 P o.op U m :=
 zis o.op m fun t ht=>h t (List.mem_append_left _ (List.mem_filterMap.2 ⟨.tmp t,by simpa using ht,rfl⟩))
theorem Same.any{ρ ρ':Rho}{n:Nat}(h:Same ρ ρ' n n)(x y:Nat):Same ρ ρ' x y:=⟨h.1,fun i _=>h.2 i (by omega)⟩
theorem Inv.fin(h:Tr P rec dd ops D)(hi:Inv P ops D Pt ρ0 df L q U Pt' ρ w a)(ho:ops[j]?=some o)(hr:∀ e ∈ o.after,Region.binds .any e=true->L.getD e.on false=true)
  {q':Nat} {U':Tm} {Pt'':Prot} {ρ':Rho} {w':World} {a':Act} (hp:Puts U U' o.dst) (hv:∀ t,o.dst=some t->U'.get t=(D (j+1)).T.get t)
  (hs:Same ρ ρ' (D j).m.next (D (j+1)).m.next) (hqn:q'<=ops.size) (hq':AtEnd P ops q') (hanch:∀ i oi,ops[i]?=some oi->zg P oi.op=true->((i=j ∨ L.getD i false=true) ↔ i < q'))
  (hT':TR ρ' U' a'.tmps) (hd':a'.defers=df) (hrel:Rel Pt'' ρ' (D q').m w') (hle:Pt.Le Pt'') (hnews:News P ops D (L.setIfInBounds j true) q' Pt Pt'' ρ') (hdist:Dist P ops D (L.setIfInBounds j true) q' ρ') :
  Inv P ops D Pt ρ0 df (L.setIfInBounds j true) q' U' Pt'' ρ' w' a':=by
 have hjn:=z0y ho
 have hset:=z1i (L:=L) (j:=j) (by rw[hi.sizeL];exact hjn)
 refine⟨by simp[hi.sizeL],hqn,hq',fun i oi hoi ha=>?_,fun i oi hoi hl e he hb=>?_,by rw[hp.1,hi.sz],fun i oi d hoi hd=>?_,fun d hn=>?_,hT',hd',hrel,hle,hnews,hdist,fun i hin hl=>?_,?_⟩
 ·rw[hset,<- hanch i oi hoi ha]
  by_cases e:i=j
  ·simp[e]
  ·simp[e]
 ·rw[hset] at hl
  by_cases ei:i=j
  ·subst ei
   rw[ho] at hoi;cases hoi
   exact getD_set_true (hr e he hb)
  ·rw[if_neg ei] at hl
   exact getD_set_true (hi.down i oi hoi hl e he hb)
 ·rw[hset]
  by_cases ei:i=j
  ·subst ei
   rw[ho] at hoi;cases hoi
   rw[if_pos rfl,if_pos rfl,hv d hd]
   exact(h.after (ops.size - (i+1)) (i+1) (by omega) fun i' o' hi' ho' e=>by
    have:=h.ok.uniq i i' o o' d ho ho' hd e
    omega).symm
  ·rw[if_neg ei,hp.2 d (fun e=>ei (h.ok.uniq i j oi o d hoi ho hd e)),hi.tmp i oi d hoi hd]
 ·rw[hp.2 d (hn j o ho),hi.tmp0 d hn]
 ·rw[hset] at hl
  by_cases ei:i=j
  ·rw[if_pos ei] at hl;cases hl
  ·rw[if_neg ei] at hl
   have:=hi.fresh i hin hl
   intro x hx1 hx2
   rw[hs.2 x ?_]
   ·exact this x hx1 hx2
   ·by_cases hl:i < j
    ·have:=h.next (j - (i+1)) (i+1) (by omega)
     rw[show i+1+(j - (i+1))=j by omega] at this
     exact .inl (by omega)
    ·have:=h.next (i - (j+1)) (j+1) (by omega)
     rw[show j+1+(i - (j+1))=i by omega] at this
     exact .inr (by omega)
 ·refine⟨hi.same.1.trans hs.1,fun i hx=>?_⟩
  have h1:=h.next j 0 (by omega)
  have h2:=h.next (ops.size - (j+1)) (j+1) (by omega)
  rw[show 0+j=j by omega] at h1
  rw[show j+1+(ops.size - (j+1))=ops.size by omega] at h2
  rw[hs.2 i (by omega),hi.same.2 i hx]
theorem News.keep{q':Nat}{ρ':Rho}{Pt'':Prot}(hjn:j < L.size)(ho:ops[j]?=some o)(hn:News P ops D L q' Pt Pt'' ρ)(hle:RLe ρ ρ')(hno:∀ lb,isNew P o.op=true->q'<=j->(D (j+1)).m ≠(D j).m.push lb) :
  News P ops D (L.setIfInBounds j true) q' Pt Pt'' ρ':=fun i oi lb hoi hl hqi hk e=>by
 rw[z1i hjn] at hl
 by_cases ei:i=j
 ·subst ei
  rw[ho] at hoi;cases hoi
  exact absurd e (hno lb hk hqi)
 ·rw[if_neg ei] at hl
  obtain⟨b,s,c,ob,k1,k2,k3,k4⟩:=hn i oi lb hoi hl hqi hk e
  exact⟨b,s,c,ob,hle _ _ k1,k2.mono hle,k3,k4⟩
theorem Dist.keep{q':Nat}{ρ':Rho}{Pt'':Prot}(hjn:j < L.size)(ho:ops[j]?=some o)(hn:News P ops D L q' Pt Pt'' ρ)(hd:Dist P ops D L q ρ)(hqq:q<=q')(hle:RLe ρ ρ')(hno:∀ lb,isNew P o.op=true->q'<=j->(D (j+1)).m ≠(D j).m.push lb) :
  Dist P ops D (L.setIfInBounds j true) q' ρ':=fun i i' oi oi' lb lb' x x' hoi hoi' hl hl' hqi hqi' hk hk' e e' hne hx hx'=>by
 rw[z1i hjn] at hl hl'
 have h1:i ≠ j:=fun ei=>by
  subst ei
  rw[ho] at hoi;cases hoi
  exact absurd e (hno lb hk hqi)
 have h2:i' ≠ j:=fun ei=>by
  subst ei
  rw[ho] at hoi';cases hoi'
  exact absurd e' (hno lb' hk' hqi')
 rw[if_neg h1] at hl
 rw[if_neg h2] at hl'
 obtain⟨b,s,c,ob,k1,_⟩:=hn i oi lb hoi hl hqi hk e
 obtain⟨b',s',c',ob',k1',_⟩:=hn i' oi' lb' hoi' hl' hqi' hk' e'
 rw[hle _ _ k1] at hx
 rw[hle _ _ k1'] at hx'
 cases hx;cases hx'
 exact hd i i' oi oi' lb lb' _ _ hoi hoi' hl hl' (by omega) (by omega) hk hk' e e' hne k1 k1'
end
end PvL
end
section
namespace PvL
open Go
section
variable {P:Program} {rec:Task->Option Out} {dd:Nat->Prop} {ops:Array Oper} {D:Nat->DS} {Pt Pt':Prot} {ρ0 ρ:Rho} {df:List Deferred} {L:Array Bool} {q:Nat} {U:Tm} {w:World} {a:Act}
 {j:Nat} {o:Oper}
theorem Inv.behind(h:Tr P rec dd ops D)(hi:Inv P ops D Pt ρ0 df L q U Pt' ρ w a)(ho:ops[j]?=some o)(hj:L.getD j false=false)(hk:(zg P o.op || isNew P o.op)=true):q<=j:=by
 rcases Nat.lt_or_ge j q with hl|hl
 ·rcases hi.hq with e|⟨o1,ho1,ha1,hp⟩
  ·omega
  ·have hs:L.getD (q - 1) false=true:=(hi.anch (q - 1) o1 ho1 ha1).2 (by omega)
   by_cases e:j=q - 1
   ·subst e;rw[hj] at hs;cases hs
   ·have:=hi.deps ho1 (hi.down _ _ ho1 hs) (h.ok.anch (q - 1) o1 ho1 ha1 j o (by omega) ho hk)
    rw[hj] at this;cases this
 ·exact hl
theorem Inv.turnA(h:Tr P rec dd ops D)(hi:Inv P ops D Pt ρ0 df L q U Pt' ρ w a)(ho:ops[j]?=some o)(hj:L.getD j false=false)(hr:∀ e ∈ o.after,Region.binds .any e=true->L.getD e.on false=true)(ha:zg P o.op=true) :
  q<=j /\ (∀ i oi,ops[i]?=some oi->zg P oi.op=true->((i=j ∨ L.getD i false=true) ↔ i < j+1)) /\ ∃ Pt'',Rel Pt'' ρ (D j).m w /\ Pt.Le Pt'' /\ News P ops D L j Pt Pt'' ρ:=by
 have hjn:=z0y ho
 have hqj:=hi.behind h ho hj (by rw[ha];rfl)
 have hall:∀ i oi,i < j->ops[i]?=some oi->(zg P oi.op || isNew P oi.op)=true->L.getD i false=true:=fun i oi hl hoi hk=>hi.deps ho hr (h.ok.anch j o ho ha i oi hl hoi hk)
 refine⟨hqj,fun i oi hoi hai=>⟨fun hor=>?_,fun hl=>?_⟩,?_⟩
 ·rcases hor with e|hs
  ·omega
  ·have:=(hi.anch i oi hoi hai).1 hs;omega
 ·by_cases e:i=j
  ·exact .inl e
  ·exact .inr (hall i oi (by omega) hoi (by rw[hai];rfl))
 ·have:=hi.adopt h (j - q) (by omega) fun i oi h1 h2 hoi=>⟨fun hk=>hall i oi (by omega) hoi (by rw[hk,Bool.or_true]),by
   cases hai:zg P oi.op with
   | false=>rfl
   | true =>
    have:=(hi.anch i oi hoi hai).1 (hall i oi (by omega) hoi (by rw[hai];rfl))
    omega⟩
  rw[show q+(j - q)=j by omega] at this
  exact this
theorem Mem.eta(m:Mem):(⟨m.next,m.tr⟩:Mem)=m:=by cases m;rfl
theorem zlo{m:Mem}{lb lb':LB}(h:m.push lb=m.push lb'):lb=lb':=by
 have h1:(m.push lb).get m.next=some lb:=by rw[Mem.get_push,if_pos rfl]
 rw[h,Mem.get_push,if_pos rfl] at h1
 exact(Option.some.inj h1).symm
theorem Inv.step(hrec:RecSim P rec)(hcall:RecFn P rec)(h:Tr P rec dd ops D)(hi:Inv P ops D Pt ρ0 df L q U Pt' ρ w a)
  (ho:ops[j]?=some o) (hnd:¬dd j) (hj:L.getD j false=false) (hr:∀ e ∈ o.after,Region.binds .any e=true->L.getD e.on false=true) {A:Array Oper} {i0:Nat} {oA:Oper} (hA:A[i0]?=some oA) (hdA:o.dst=oA.dst) (hopA:o.op=oA.op) (hwA:Region.wanted oA (yielded A a.tmps)=Region.wanted o (yielded ops a.tmps)) (b:Frame) (rest:List Nat) (k:List Item) (cs:List Frame) :
  ∃ q' U' Pt'' ρ' w' a',Inv P ops D Pt ρ0 df (L.setIfInBounds j true) q' U' Pt'' ρ' w' a' /\
   Steps P (lone (b.atR a (.inRegion A (i0 :: rest) :: k)) cs w) (lone (b.atR a' (.inRegion A rest :: k)) cs w'):=by
 obtain⟨dA,opA',tA,pA,afA,gA⟩:=oA
 simp only at hdA hopA
 subst hdA hopA
 have hjn:=z0y ho
 have hjL:j < L.size:=by rw[hi.sizeL];exact hjn
 have hlook:∀ t ∈ looks ops.toList o,(D j).T.get t=U.get t:=fun t ht=>hi.look h ho hj hr ht
 have hsz:U.size=(D j).T.size:=by rw[hi.sz,h.size j (by omega)]
 have hwant:∀ x,wanted ops.toList (D j).T o.guard=some x->Region.wanted ⟨o.dst,o.op,tA,pA,afA,gA⟩ (yielded A a.tmps)=x:=fun x hx=>hwA.trans <| z0w (by rw[<-z7a hlook];exact hx) hi.hT
 have hanch0:zg P o.op=false->∀ i oi,ops[i]?=some oi->zg P oi.op=true->((i=j ∨ L.getD i false=true) ↔ i < q):=fun hna i oi hoi hai=>by
  rw[<-hi.anch i oi hoi hai]
  constructor
  ·rintro(e|hs)
   ·subst e;rw[ho] at hoi;cases hoi;rw[hna] at hai;cases hai
   ·exact hs
  ·exact .inr
 have hoff:∀ {T':Tm},(D j).T.put o.dst z05=some T'->∃ U',U.put o.dst z05=some U' /\ Puts U U' o.dst /\ ∀ t,o.dst=some t->U'.get t=T'.get t:=fun hp=>by
  obtain⟨U',hu⟩:=Tm.put_other hp hsz z05
  exact⟨U',hu,⟨(Tm.put_eq hu).1,(Tm.put_eq hu).2.2⟩,fun t e=>by rw[(Tm.put_eq hu).2.1 t e,(Tm.put_eq hp).2.1 t e]⟩
 have hskip:Region.wanted ⟨o.dst,o.op,tA,pA,afA,gA⟩ (yielded A a.tmps)=false->Steps P (lone (b.atR a (.inRegion A (i0 :: rest) :: k)) cs w) (lone (b.atR (a.put o.dst undef) (.inRegion A rest :: k)) cs w):=fun hw=>by
  have:=stepR_op_skip (P:=P) (b:=b) (a:=a) (k:=k) (cs:=cs) (w:=w) (ops:=A) (i:=i0) (rest:=rest) (by rw[hA];exact hw)
  rw[hA] at this
  exact .one this
 have hfr:=hi.fresh j hjn hj
 have hst:=h.step j o ho
 generalize hD':D (j+1)=s' at hst
 cases hst with
 | deadA hd _ _ _=>exact absurd hd hnd
 | dead hd _ _=>exact absurd hd hnd
 | mover hw hop hc =>
  rename_i T' m'
  have hna:zg P o.op=false:=by simp[zg,hc]
  have hnn:isNew P o.op=false:=by simp[isNew,hc]
  obtain⟨v,h1,hp,rfl⟩:=zii hc hop
  have key:∃ v',op1 P o.op (D j).T (D q).m=some (.val v' (D q).m) /\ ∀ t,o.dst=some t->v'=T'.get t:=by
   obtain⟨X,hX,hpure⟩:=zit (P:=P) (T:=(D j).T) o.op (zbt hc)
   have hXj:X (D j).m=some v:=by
    rw[hX] at h1
    obtain⟨v2,e,h2⟩:=zb.1 h1
    cases h2;exact e
   cases hrd:z0q o.op with
   | false =>
    refine⟨v,?_,fun t e=>((Tm.put_eq hp).2.1 t e).symm⟩
    rw[hX,hpure hrd _ (D j).m,hXj];rfl
   | true =>
    have hmem:({ op:=o.op,T:=(D j).T,v:=dstV T' o.dst,lo:=z0x P ((PvL.deps ops).getD j 0) ops.toList 0,hi:=z0e P j ops.toList (PvL.deps ops) }:Pend) ∈ (D (j+1)).ps:=by
     rw[hD',hrd];exact List.mem_cons_self
    have hd0:(PvL.deps ops).length=0+ops.toList.length:=by
     unfold PvL.deps
     obtain⟨_,h2,_⟩:=z87 (F:=fun acc o=>o.after.foldl (init:=0) fun s e=>if Region.binds .any e then s ||| 2 ^ e.on ||| acc.getD e.on 0 else s) ops.toList #[]
     unfold Region.before
     rw[<-Array.foldl_toList]
     simpa using h2
    have hph:=h.looked hi.hq hi.qn hjn hmem (by
     rw[h.cnt q hi.qn]
     show z0x P _ _ _<=_
     rw[z6p]
     refine z3t _ _ fun i oi hoi hai hb=>?_
     rw[Nat.zero_add] at hb ⊢
     rw[Nat.blt_eq]
     exact(hi.anch i oi (by simpa using hoi) hai).1 (hi.deps ho hr hb)) (by
     rw[h.cnt q hi.qn]
     show _<=z0e P j ops.toList (PvL.deps ops)
     have:=z4q (P:=P) (m:=j) (ds:=PvL.deps ops) ops.toList 0 hd0
     rw[List.drop_zero] at this
     rw[this]
     refine z3t _ _ fun i oi hoi hai hb=>?_
     rw[Nat.zero_add] at hb ⊢
     rw[Nat.blt_eq] at hb
     have hoi:ops[i]?=some oi:=by simpa using hoi
     have hs:=(hi.anch i oi hoi hai).2 hb
     cases ht:Nat.testBit ((PvL.deps ops).getD i 0) j with
     | false=>rfl
     | true =>
      have:=hi.deps hoi (hi.down i oi hoi hs) ht
      rw[hj] at this;cases this)
    unfold z1v at hph
    have hph:(match op1 P o.op (D j).T (D q).m with|some (.val v _)=>lvEq v (dstV T' o.dst)|_=>false)=true:=hph
    rw[hX] at hph ⊢
    cases hx:X (D q).m with
    | none=>rw[hx] at hph;cases hph
    | some v' =>
     rw[hx] at hph
     have hph:lvEq v' (dstV T' o.dst)=true:=hph
     refine⟨v',rfl,fun t e=>?_⟩
     rw[z1w.1 _ _ hph,e];rfl
  obtain⟨v',hop',hv'⟩:=key
  rw[z5q _ hlook] at hop'
  obtain⟨U',hu⟩:=Tm.put_other hp hsz v'
  obtain⟨ρ',v'',w',hs,hT',hrel',hsteps⟩:=z4i h.mono hrec hA (.val hop' hu) hcall (b:=b) rest k cs (hwant true hw) hi.hT hi.rel (fun i h1 h2=>by omega)
  refine⟨q,U',Pt',ρ',w',_,?_,hsteps⟩
  refine hi.fin h ho hr ⟨(Tm.put_eq hu).1,(Tm.put_eq hu).2.2⟩ (fun t e=>?_) (Same.any hs _ _) hi.qn hi.hq (hanch0 hna) hT' (by rw[z0b];exact hi.hd) hrel' hi.le
   (News.keep hjL ho hi.news hs.1 fun lb hk=>by rw[hnn] at hk;cases hk) (Dist.keep hjL ho hi.news hi.dist (Nat.le_refl _) hs.1 fun lb hk=>by rw[hnn] at hk;cases hk)
  rw[(Tm.put_eq hu).2.1 t e,hD'];exact hv' t e
 | new hw hop hc =>
  rename_i T' m'
  have hna:zg P o.op=false:=by simp[zg,hc]
  have hnn:isNew P o.op=true:=by simp[isNew,hc]
  have hqj:=hi.behind h ho hj (by rw[hnn,Bool.or_true])
  obtain⟨v,lb,hp,rfl,hro,hM⟩:=zex hc hop
  have hnx:(D q).m.next<=(D j).m.next:=by
   have:=h.next (j - q) q (by omega)
   rw[show q+(j - q)=j by omega] at this;exact this
  have hop':=hM ⟨(D j).m.next,(D q).m.tr⟩ rfl
  rw[z5q _ hlook] at hop'
  obtain⟨U',hu⟩:=Tm.put_other hp hsz v
  have hfr':Fresh ρ (D j).m.next ((D j).m.next+1):=by rw[hD'] at hfr;exact hfr
  obtain⟨ρ',v'',w',hs,hT',hrel',hsteps⟩:=z4i h.mono hrec hA (.val hop' hu) hcall (b:=b) rest k cs (hwant true hw) hi.hT (hi.rel.bump hnx) hfr'
  obtain⟨bb,s,c,ob,k1,k2,k3,k4⟩:=Rel.out (M:=⟨(D j).m.next,(D q).m.tr⟩) (n:=(D q).m.next) hnx (fun i lb hg=>(hi.rel.live i lb hg).1) hrel' hro
  rw[Mem.eta] at k4
  have k1:ρ' (D j).m.next=some (bb,s,c):=k1
  have hbb:Pt bb=none:=by
   cases hp:Pt bb with
   | none=>rfl
   | some o'=>rw[hi.le.1 bb o' hp] at k3;cases k3
  refine⟨q,U',Pt'.hide bb ob,ρ',w',_,?_,hsteps⟩
  have hle':Pt.Le (Pt'.hide bb ob):=⟨fun x o' hx=>by
   show(if x=bb then some ob else Pt' x)=some o'
   have hne:x ≠ bb:=fun e=>by rw[e,hbb] at hx;cases hx
   rw[if_neg hne];exact hi.le.1 x o' hx,hi.le.2⟩
  have hold:∀ i oi lb',ops[i]?=some oi->(L.setIfInBounds j true).getD i false=true->i ≠ j->q<=i->isNew P oi.op=true->(D (i+1)).m=(D i).m.push lb' ->
    ∃ b' s' c' ob',ρ' (D i).m.next=some (b',s',c') /\ BR ρ' lb' ob' s' c' /\ Pt' b'=some ob' /\ Pt b'=none /\ b' ≠ bb:=fun i oi lb' hoi hl hne hqi hk e=>by
   rw[z1i hjL,if_neg hne] at hl
   obtain⟨b',s',c',ob',l1,l2,l3,l4⟩:=hi.news i oi lb' hoi hl hqi hk e
   exact⟨b',s',c',ob',hs.1 _ _ l1,l2.mono hs.1,l3,l4,fun e=>by rw[e,k3] at l3;cases l3⟩
  refine hi.fin h ho hr ⟨(Tm.put_eq hu).1,(Tm.put_eq hu).2.2⟩ (fun t e=>?_) (by rw[hD'];exact hs) hi.qn hi.hq (hanch0 hna) hT' (by rw[z0b];exact hi.hd) k4 hle' ?_ ?_
  ·rw[(Tm.put_eq hu).2.1 t e,hD'];exact((Tm.put_eq hp).2.1 t e).symm
  ·intro i oi lb' hoi hl hqi hk e
   by_cases ei:i=j
   ·subst ei
    rw[hD'] at e
    have e:(D i).m.push lb=(D i).m.push lb':=e
    cases zlo e
    refine⟨bb,s,c,ob,k1,k2,?_,hbb⟩
    show(if bb=bb then some ob else Pt' bb)=some ob
    rw[if_pos rfl]
   ·obtain⟨b',s',c',ob',l1,l2,l3,l4,l5⟩:=hold i oi lb' hoi hl ei hqi hk e
    refine⟨b',s',c',ob',l1,l2,?_,l4⟩
    show(if b'=bb then some ob else Pt' b')=some ob'
    rw[if_neg l5];exact l3
  ·intro i i' oi oi' lb1 lb2 x x' hoi hoi' hl hl' hqi hqi' hk hk' e e' hne hx hx'
   by_cases ei:i=j
   ·by_cases ei':i'=j
    ·omega
    ·obtain⟨b',s',c',ob',l1,_,_,_,l5⟩:=hold i' oi' lb2 hoi' hl' ei' hqi' hk' e'
     rw[ei,k1] at hx;cases hx
     rw[l1] at hx';cases hx'
     exact fun e=>l5 e.symm
   ·obtain⟨b',s',c',ob',l1,_,_,_,l5⟩:=hold i oi lb1 hoi hl ei hqi hk e
    by_cases ei':i'=j
    ·rw[ei',k1] at hx';cases hx'
     rw[l1] at hx;cases hx
     exact l5
    ·rw[z1i hjL,if_neg ei] at hl
     rw[z1i hjL,if_neg ei'] at hl'
     obtain⟨b1,s1,c1,ob1,m1,_⟩:=hi.news i oi lb1 hoi hl hqi hk e
     obtain⟨b2,s2,c2,ob2,m2,_⟩:=hi.news i' oi' lb2 hoi' hl' hqi' hk' e'
     rw[hs.1 _ _ m1] at hx
     rw[hs.1 _ _ m2] at hx'
     cases hx;cases hx'
     exact hi.dist i i' oi oi' lb1 lb2 _ _ hoi hoi' hl hl' hqi hqi' hk hk' e e' hne m1 m2
 | anchor hw hop hc =>
  rename_i T' m'
  have ha:zg P o.op=true:=by simp[zg,hc]
  have hnn:isNew P o.op=false:=by simp[isNew,hc]
  obtain⟨hqj,hanch,Pt2,hr2,hle2,hnews2⟩:=hi.turnA h ho hj hr ha
  obtain⟨U',hstep,hputs,hval⟩:=hop.congr (z5q _ hlook) hsz
  rw[hD'] at hfr
  obtain⟨ρ',v'',w',hs,hT',hrel',hsteps⟩:=z4i h.mono hrec hA hstep hcall (b:=b) rest k cs (hwant true hw) hi.hT hr2 hfr
  have hnews3:News P ops D L (j+1) Pt Pt2 ρ:=fun i oi lb g1 g2 g3=>hnews2 i oi lb g1 g2 (by omega)
  refine⟨j+1,U',Pt2,ρ',w',_,?_,hsteps⟩
  exact hi.fin h ho hr hputs (fun t e=>by rw[hval t e,hD']) (by rw[hD'];exact hs) (by omega) (.inr ⟨o,ho,ha,by omega⟩) hanch hT' (by rw[z0b];exact hi.hd) (by rw[hD'];exact hrel') hle2
   (News.keep hjL ho hnews3 hs.1 fun lb hk=>by rw[hnn] at hk;cases hk) (Dist.keep hjL ho hnews3 hi.dist (by omega) hs.1 fun lb hk=>by rw[hnn] at hk;cases hk)
 | calm hw hop hc =>
  rename_i T' m'
  have hna:zg P o.op=false:=by simp[zg,hc]
  have hnn:isNew P o.op=false:=by simp[isNew,hc]
  obtain⟨rfl,hall⟩:=zbq h.pure hc hop
  obtain⟨U',hstep,hputs,hval⟩:=(hall (D q).m).congr (z5q _ hlook) hsz
  obtain⟨ρ',v'',w',hs,hT',hrel',hsteps⟩:=z4i h.mono hrec hA hstep hcall (b:=b) rest k cs (hwant true hw) hi.hT hi.rel (fun i h1 h2=>by omega)
  refine⟨q,U',Pt',ρ',w',_,?_,hsteps⟩
  exact hi.fin h ho hr hputs (fun t e=>by rw[hval t e,hD']) (Same.any hs _ _) hi.qn hi.hq (hanch0 hna) hT' (by rw[z0b];exact hi.hd) hrel' hi.le
   (News.keep hjL ho hi.news hs.1 fun lb hk=>by rw[hnn] at hk;cases hk) (Dist.keep hjL ho hi.news hi.dist (Nat.le_refl _) hs.1 fun lb hk=>by rw[hnn] at hk;cases hk)
 | offA hw hop hc =>
  rename_i T'
  have ha:zg P o.op=true:=by simp[zg,hc]
  have hnn:isNew P o.op=false:=by simp[isNew,hc]
  obtain⟨hqj,hanch,Pt2,hr2,hle2,hnews2⟩:=hi.turnA h ho hj hr ha
  obtain⟨U',hu,hputs,hval⟩:=hoff hop
  have hnews3:News P ops D L (j+1) Pt Pt2 ρ:=fun i oi lb g1 g2 g3=>hnews2 i oi lb g1 g2 (by omega)
  refine⟨j+1,U',Pt2,ρ,w,_,?_,hskip (hwant false hw)⟩
  exact hi.fin h ho hr hputs (fun t e=>by rw[hval t e,hD']) (Same.refl _ _ _) (by omega) (.inr ⟨o,ho,ha,by omega⟩) hanch (hi.hT.put hu (.tup .nil)) (by rw[z0b];exact hi.hd) (by rw[hD'];exact hr2) hle2
   (News.keep hjL ho hnews3 (RLe.refl _) fun lb hk=>by rw[hnn] at hk;cases hk) (Dist.keep hjL ho hnews3 hi.dist (by omega) (RLe.refl _) fun lb hk=>by rw[hnn] at hk;cases hk)
 | off hw hop hc =>
  rename_i T'
  have hna:zg P o.op=false:=by
   unfold zg
   cases hk:cls P o.op<;>first|rfl|exact absurd hk hc
  obtain⟨U',hu,hputs,hval⟩:=hoff hop
  have hno:∀ lb,isNew P o.op=true->q<=j->(D (j+1)).m ≠(D j).m.push lb:=fun lb _ _ e=>by
   rw[hD'] at e
   have:(D j).m.next=(D j).m.next+1:=congrArg Mem.next (show(D j).m=(D j).m.push lb from e)
   omega
  refine⟨q,U',Pt',ρ,w,_,?_,hskip (hwant false hw)⟩
  exact hi.fin h ho hr hputs (fun t e=>by rw[hval t e,hD']) (Same.refl _ _ _) hi.qn hi.hq (hanch0 hna) (hi.hT.put hu (.tup .nil)) (by rw[z0b];exact hi.hd) hi.rel hi.le
   (News.keep hjL ho hi.news (RLe.refl _) hno) (Dist.keep hjL ho hi.news hi.dist (Nat.le_refl _) (RLe.refl _) hno)
end
end PvL
end
section
namespace PvL
open Go
section
variable {P:Program} {rec:Task->Option Out} {dd:Nat->Prop} {ops:Array Oper} {D:Nat->DS} {Pt:Prot} {ρ0:Rho} {df:List Deferred}
def unl(L:Array Bool):Nat->Nat
 | 0=>0
 | i+1=>unl L i+(if L.getD i false then 0 else 1)
theorem zfc(L:Array Bool):∀ n,unl L n<=n
 | 0=>Nat.le_refl _
 | n+1=>by
  have:=zfc L n
  show unl L n+(if L.getD n false=true then 0 else 1)<=n+1
  split<;>omega
theorem z7j{L:Array Bool}:∀ n,unl L n=0->∀ i,i < n->L.getD i false=true
 | 0,_,i,hi=>absurd hi (Nat.not_lt_zero _)
 | n+1,h,i,hi=>by
  have h:unl L n+(if L.getD n false=true then 0 else 1)=0:=h
  by_cases e:i=n
  ·subst e
   by_cases hl:L.getD i false=true
   ·exact hl
   ·rw[if_neg hl] at h;omega
  ·exact z7j n (by omega) i (by omega)
theorem zba{L:Array Bool}{j:Nat}(hj:j < L.size)(hl:L.getD j false=false):∀ n,(n<=j->unl (L.setIfInBounds j true) n=unl L n) /\ (j < n->unl (L.setIfInBounds j true) n+1=unl L n)
 | 0=>⟨fun _=>rfl,fun h=>absurd h (Nat.not_lt_zero _)⟩
 | n+1=>by
  obtain⟨h1,h2⟩:=zba hj hl n
  show(_->unl _ n+(if (L.setIfInBounds j true).getD n false=true then 0 else 1)=unl L n+(if L.getD n false=true then 0 else 1)) /\ (_->unl _ n+(if (L.setIfInBounds j true).getD n false=true then 0 else 1)+1=unl L n+(if L.getD n false=true then 0 else 1))
  rw[z1i hj]
  refine⟨fun h=>?_,fun h=>?_⟩
  ·rw[if_neg (show ¬(n=j) by omega),h1 (by omega)]
  ·by_cases e:n=j
   ·subst e
    rw[if_pos rfl,hl,h1 (Nat.le_refl _)]
    simp
   ·rw[if_neg e]
    have:=h2 (by omega)
    omega
theorem Inv.ends(h:Tr P rec dd ops D){L:Array Bool}{q:Nat}{U:Tm}{Pt':Prot}{ρ:Rho}{w:World}{a:Act}(hi:Inv P ops D Pt ρ0 df L q U Pt' ρ w a)(hall:∀ i,i < ops.size->L.getD i false=true) :
  Same ρ0 ρ (D 0).m.next (D ops.size).m.next /\ TR ρ (D ops.size).T a.tmps /\ a.defers=df /\ Rel Pt ρ (D ops.size).m w:=by
 refine⟨hi.same,⟨by rw[hi.hT.1,hi.sz,h.size ops.size (Nat.le_refl _)],fun t=>?_,hi.hT.3⟩,hi.hd,?_⟩
 ·have ht:=hi.hT.2 t
  have:U.get t=(D ops.size).T.get t:=by
   by_cases hx:∃(i:Nat) (oi:Oper),ops[i]?=some oi /\ oi.dst=some t
   ·obtain⟨i,oi,hoi,hd⟩:=hx
    rw[hi.tmp i oi t hoi hd,if_pos (hall i (z0y hoi))]
   ·have hno:∀(i:Nat) (oi:Oper),ops[i]?=some oi->oi.dst ≠ some t:=fun i oi h1 h2=>hx ⟨i,oi,h1,h2⟩
    rw[hi.tmp0 t hno,h.before ops.size (Nat.le_refl _) fun i o _ ho=>hno i o ho]
  rw[<-this];exact ht
 ·obtain⟨P2,h1,h2,_⟩:=hi.adopt h (ops.size - q) (by have:=hi.qn;omega) fun i oi h1 h2 hoi=>⟨fun _=>hall i (z0y hoi),by
   cases hai:zg P oi.op with
   | false=>rfl
   | true =>
    have:=(hi.anch i oi hoi hai).1 (hall i (z0y hoi))
    omega⟩
  rw[show q+(ops.size - q)=ops.size by have:=hi.qn;omega] at h1
  exact h1.weaken h2
theorem Inv.none_ready(h:Tr P rec dd ops D){L:Array Bool}{q:Nat}{U:Tm}{Pt':Prot}{ρ:Rho}{w:World}{a:Act}(hi:Inv P ops D Pt ρ0 df L q U Pt' ρ w a)(hr:Region.ready .any ops L=[]) :
  ∀ n i,i < n->i < ops.size->L.getD i false=true
 | 0,i,hl,_=>absurd hl (Nat.not_lt_zero _)
 | n+1,i,hl,hin=>by
  have ho:ops[i]?=some ops[i]:=Array.getElem?_eq_getElem hin
  cases hx:L.getD i false with
  | true=>rfl
  | false =>
   have hmem:i ∈ Region.ready .any ops L:=by
    rw[mem_ready]
    refine⟨?_,ops[i],ho,fun e he hb=>?_⟩
    ·have hs:i < L.size:=by rw[hi.sizeL];exact hin
     simp[hs] at hx ⊢;exact hx
    ·have:=h.ok.edge i _ ho e he hb
     exact hi.none_ready h hr n e.on (by omega) (by omega)
   rw[hr] at hmem;cases hmem
theorem Reord.wanted{A ops:Array Oper}{σ τ:Nat->Nat}(hre:Reord A ops σ τ){o oA:Oper}(hg:o.guard=oA.guard.map fun q=>(τ q.1,q.2))(tm:Array Value):Region.wanted oA (yielded A tm)=Region.wanted o (yielded ops tm):=by
 have hy:∀ j,yielded ops tm (τ j)=yielded A tm j:=fun j=>by
  unfold yielded
  have:(ops[τ j]?).bind (·.dst)=(A[j]?).bind (·.dst):=by
   by_cases hj:j < A.size
   ·obtain⟨h1,h2⟩:=hre.ts j hj
    have h3:τ j < ops.size:=by rw[hre.size];exact h1
    obtain⟨oA',h4,h5,_⟩:=hre.at_ (τ j) _ (Array.getElem?_eq_getElem h3)
    rw[h2] at h4
    rw[Array.getElem?_eq_getElem h3,h4]
    exact h5
   ·have h1:=hre.out j (by omega)
    rw[Array.getElem?_eq_none (by rw[hre.size];exact h1),Array.getElem?_eq_none (by omega)]
  rw[this]
 unfold Region.wanted
 rw[hg]
 cases oA.guard with
 | none=>rfl
 | some q =>
  obtain⟨j,w⟩:=q
  simp only[Option.map_some,hy]
structure LRel (A:Array Oper) (σ:Nat->Nat) (LA L:Array Bool):Prop where
 size:LA.size=A.size
 at_:∀ k,k < A.size->LA.getD (σ k) false=L.getD k false
theorem LRel.set{A ops:Array Oper}{σ τ:Nat->Nat}(hre:Reord A ops σ τ){LA L:Array Bool}(h:LRel A σ LA L){i:Nat}(hi:i < A.size)(hL:L.size=A.size):LRel A σ (LA.setIfInBounds i true) (L.setIfInBounds (τ i) true):=by
 obtain⟨h1,h2⟩:=hre.ts i hi
 refine⟨by simp[h.size],fun k hk=>?_⟩
 rw[z1i (by rw[h.size];exact hi),z1i (by rw[hL];exact h1)]
 by_cases e:k=τ i
 ·rw[if_pos e,if_pos (by rw[e];exact h2)]
 ·rw[if_neg e,if_neg (fun e'=>e (by rw[<-e'];exact(hre.st k hk).2.symm))]
  exact h.at_ k hk
theorem LRel.ready{A ops:Array Oper}{σ τ:Nat->Nat}(hre:Reord A ops σ τ){LA L:Array Bool}(h:LRel A σ LA L)(_:L.size=A.size){i:Nat}(hi:i ∈ Region.ready .any A LA) :
  ∃ o oA,ops[τ i]?=some o /\ A[i]?=some oA /\ o.dst=oA.dst /\ o.op=oA.op /\ (o.guard=oA.guard.map fun q=>(τ q.1,q.2)) /\ i < A.size /\ L.getD (τ i) false=false /\ ∀ e ∈ o.after,Region.binds .any e=true->L.getD e.on false=true:=by
 obtain⟨hl,oA,ho,hr⟩:=mem_ready.1 hi
 have hin:=z0y ho
 obtain⟨h1,h2⟩:=hre.ts i hin
 have h3:τ i < ops.size:=by rw[hre.size];exact h1
 obtain⟨oA',g1,g2,g3,g4,g5⟩:=hre.at_ (τ i) _ (Array.getElem?_eq_getElem h3)
 rw[h2,ho] at g1;cases g1
 have hs:i < LA.size:=by rw[h.size];exact hin
 have hl':LA.getD i false=false:=by simp[hs] at hl ⊢;exact hl
 refine⟨_,oA,Array.getElem?_eq_getElem h3,ho,g2,g3,g5,hin,by rw[<-h.at_ (τ i) h1,h2];exact hl',fun e he hb=>?_⟩
 have he:e ∈ (ops[τ i]).after.toList:=by simpa using he
 rw[g4] at he
 obtain⟨eA,k1,rfl⟩:=List.mem_map.1 he
 have hb':Region.binds .any eA=true:=by
  have:Region.binds .any (⟨τ eA.on,eA.ground⟩:Edge)=Region.binds .any eA:=rfl
  rw[<-this];exact hb
 have k2:=hr eA (by simpa using k1) hb'
 have k3:eA.on < A.size:=by
  rcases Nat.lt_or_ge eA.on LA.size with hlt|hge
  ·rw[<-h.size];exact hlt
  ·rw[show LA.getD eA.on false=false by simp[Array.getElem?_eq_none hge]] at k2;cases k2
 obtain⟨k4,k5⟩:=hre.ts eA.on k3
 show L.getD (τ eA.on) false=true
 rw[<-h.at_ _ k4,k5];exact k2
theorem LRel.none{A ops:Array Oper}{σ τ:Nat->Nat}(hre:Reord A ops σ τ){LA L:Array Bool}(h:LRel A σ LA L)(hL:L.size=A.size)(hn:Region.ready .any A LA=[]):Region.ready .any ops L=[]:=by
 cases hr:Region.ready .any ops L with
 | nil=>rfl
 | cons k ks =>
  exfalso
  have hk:k ∈ Region.ready .any ops L:=by rw[hr];exact List.mem_cons_self
  obtain⟨hl,o,ho,hrd⟩:=mem_ready.1 hk
  have hkn:k < A.size:=by have:=z0y ho;rw[hre.size] at this;exact this
  obtain⟨oA,g1,g2,g3,g4,g5⟩:=hre.at_ k o ho
  obtain⟨s1,s2⟩:=hre.st k hkn
  have hl':L.getD k false=false:=by simp[show k < L.size by rw[hL];exact hkn] at hl ⊢;exact hl
  have:σ k ∈ Region.ready .any A LA:=by
   refine mem_ready.2 ⟨?_,oA,g1,fun e he hb=>?_⟩
   ·have:=h.at_ k hkn
    rw[hl'] at this
    have hs:σ k < LA.size:=by rw[h.size];exact s1
    simp[hs] at this ⊢;exact this
   ·have hm:(⟨τ e.on,e.ground⟩:Edge) ∈ o.after:=by
     have:(⟨τ e.on,e.ground⟩:Edge) ∈ o.after.toList:=by rw[g4];exact List.mem_map.2 ⟨e,by simpa using he,rfl⟩
     simpa using this
    have k2:L.getD (τ e.on) false=true:=hrd _ hm hb
    have k3:τ e.on < L.size:=by
     rcases Nat.lt_or_ge (τ e.on) L.size with hlt|hge
     ·exact hlt
     ·rw[show L.getD (τ e.on) false=false by simp[Array.getElem?_eq_none hge]] at k2;cases k2
    have k4:e.on < A.size:=by
     rcases Nat.lt_or_ge e.on A.size with hlt|hge
     ·exact hlt
     ·have:=hre.out _ hge;omega
    obtain⟨k5,k6⟩:=hre.ts _ k4
    rw[<-h.at_ _ k5,k6] at k2;exact k2
  rw[hn] at this;cases this
theorem z3j{A:Array Oper}{LA:Array Bool}{t:Nat}(hx:(Region.ready .any A LA)[t % (Region.ready .any A LA).length]?=none):Region.ready .any A LA=[]:=by
 cases hr:Region.ready .any A LA with
 | nil=>rfl
 | cons x xs =>
  rw[hr] at hx
  have hlt:t % (x :: xs).length <(x :: xs).length:=Nat.mod_lt _ (by simp)
  simp at hx
  simp at hlt
  omega
theorem zhq{A:Array Oper}{σ τ:Nat->Nat}(hre:Reord A ops σ τ)(hrec:RecSim P rec)(hcall:RecFn P rec)(h:Tr P rec (fun _=>False) ops D)(b:Frame)(k:List Item)(cs:List Frame) :
  ∀(fuel t:Nat) (LA L:Array Bool) (q:Nat) (U:Tm) (Pt':Prot) (ρ:Rho) (w:World) (a:Act),LRel A σ LA L->Inv P ops D Pt ρ0 df L q U Pt' ρ w a->unl L ops.size<=fuel ->
   ∃ ρ' a' w',Same ρ0 ρ' (D 0).m.next (D ops.size).m.next /\ TR ρ' (D ops.size).T a'.tmps /\ a'.defers=df /\ Rel Pt ρ' (D ops.size).m w' /\
    Steps P (lone (b.atR a (.inRegion A (Region.linearise.go .any A fuel t LA []) :: k)) cs w) (lone (b.atR a' k) cs w')
 | 0,t,LA,L,q,U,Pt',ρ,w,a,hl0,hi,hu=>by
  obtain⟨h1,h2,h3,h4⟩:=hi.ends h (z7j _ (by omega))
  exact⟨ρ,a,w,h1,h2,h3,h4,.one stepR_region_end⟩
 | fuel+1,t,LA,L,q,U,Pt',ρ,w,a,hl0,hi,hu=>by
  have e:Region.linearise.go .any A (fuel+1) t LA []=match (Region.ready .any A LA)[t % (Region.ready .any A LA).length]? with
   | some i=>Region.linearise.go .any A fuel (t / (Region.ready .any A LA).length) (LA.setIfInBounds i true) [i]
   | none=>[].reverse:=rfl
  have hLs:L.size=A.size:=by rw[hi.sizeL,hre.size]
  rw[e]
  cases hx:(Region.ready .any A LA)[t % (Region.ready .any A LA).length]? with
  | none =>
   have hnil:=hl0.none hre hLs (z3j hx)
   obtain⟨h1,h2,h3,h4⟩:=hi.ends h (fun i hin=>hi.none_ready h hnil (i+1) i (by omega) hin)
   exact⟨ρ,a,w,h1,h2,h3,h4,.one stepR_region_end⟩
  | some i =>
   obtain⟨o,oA,ho,hA,hd,hop,hg,hiA,hl,hr⟩:=hl0.ready hre hLs (List.mem_of_getElem? hx)
   have hin:=z0y ho
   have hs:τ i < L.size:=by rw[hi.sizeL];exact hin
   obtain⟨q',U',Pt'',ρ',w',a',hi',hst⟩:=hi.step hrec hcall h ho id hl hr hA hd hop (hre.wanted hg _) b (Region.linearise.go .any A fuel (t / (Region.ready .any A LA).length) (LA.setIfInBounds i true) []) k cs
   have hu':=(zba hs hl ops.size).2 hin
   obtain⟨ρ2,a2,w2,g1,g2,g3,g4,g5⟩:=zhq hre hrec hcall h b k cs fuel (t / (Region.ready .any A LA).length) _ _ q' U' Pt'' ρ' w' a' (hl0.set hre hiA hLs) hi' (by omega)
   refine⟨ρ2,a2,w2,g1,g2,g3,g4,?_⟩
   show Steps P (lone (b.atR a (.inRegion A (Region.linearise.go .any A fuel _ (LA.setIfInBounds i true) [i]) :: k)) cs w) _
   rw[linearise_go_acc,List.reverse_singleton,List.singleton_append]
   exact hst.trans g5
theorem z7y{A:Array Oper}{σ τ:Nat->Nat}(hre:Reord A ops σ τ)(hrec:RecSim P rec)(hcall:RecFn P rec){j0:Nat}{o0:Oper}(h:Tr P rec (Dead (deps ops) j0) ops D)(ho0:ops[j0]?=some o0)(hw0:wanted ops.toList (D j0).T o0.guard=some true)(ha0:zg P o0.op=true)
  {v:LV} {m2:Mem} {f:FuncId} {as:List LV} {m1:Mem} (hop0:op1 P o0.op (D j0).T (D j0).m=some (.enter f as m1)) (hr0:rec (.call f as m1)=some (.die v m2)) (hn0:(D (j0+1)).m.next=m2.next) (b:Frame) (k:List Item) (cs:List Frame) :
  ∀(fuel t:Nat) (LA L:Array Bool) (q:Nat) (U:Tm) (Pt':Prot) (ρ:Rho) (w:World) (a:Act),LRel A σ LA L->Inv P ops D Pt ρ0 df L q U Pt' ρ w a->L.getD j0 false=false->unl L ops.size<=fuel ->
   ∃ ρ' a' w' v' k1,Same ρ0 ρ' (D 0).m.next (D ops.size).m.next /\ a'.tmps.size=(D 0).T.size /\ a'.defers=df /\ VR ρ' v v' /\ Rel Pt ρ' m2 w' /\
    Steps P (lone (b.atR a (.inRegion A (Region.linearise.go .any A fuel t LA []) :: k)) cs w) (lone (Frame.boom (b.atR a' k1) v') cs w')
 | 0,t,LA,L,q,U,Pt',ρ,w,a,hl0,hi,hj0,hu=>by
  have:=z7j _ (by omega:unl L ops.size=0) j0 (z0y ho0)
  rw[hj0] at this;cases this
 | fuel+1,t,LA,L,q,U,Pt',ρ,w,a,hl0,hi,hj0,hu=>by
  have e:Region.linearise.go .any A (fuel+1) t LA []=match (Region.ready .any A LA)[t % (Region.ready .any A LA).length]? with
   | some i=>Region.linearise.go .any A fuel (t / (Region.ready .any A LA).length) (LA.setIfInBounds i true) [i]
   | none=>[].reverse:=rfl
  have hLs:L.size=A.size:=by rw[hi.sizeL,hre.size]
  rw[e]
  cases hx:(Region.ready .any A LA)[t % (Region.ready .any A LA).length]? with
  | none =>
   have hnil:=hl0.none hre hLs (z3j hx)
   have:=hi.none_ready h hnil (j0+1) j0 (by omega) (z0y ho0)
   rw[hj0] at this;cases this
  | some i =>
   obtain⟨o,oA,ho,hA,hd,hop',hg,hiA,hl,hr⟩:=hl0.ready hre hLs (List.mem_of_getElem? hx)
   have hin:=z0y ho
   have hs:τ i < L.size:=by rw[hi.sizeL];exact hin
   show ∃ ρ' a' w' v' k1,_ /\ _ /\ _ /\ _ /\ _ /\ Steps P (lone (b.atR a (.inRegion A (Region.linearise.go .any A fuel _ (LA.setIfInBounds i true) [i]) :: k)) cs w) _
   rw[linearise_go_acc,List.reverse_singleton,List.singleton_append]
   by_cases hij:τ i=j0
   ·rw[hij,ho0] at ho;cases ho
    rw[hij] at hl hin hs
    have hlook:∀ t ∈ looks ops.toList o0,(D j0).T.get t=U.get t:=fun t ht=>hi.look h ho0 hl hr ht
    obtain⟨hqj,hanch,Pt2,hr2,hle2,hnews2⟩:=hi.turnA h ho0 hl hr ha0
    have hop:op1 P o0.op U (D j0).m=some (.enter f as m1):=by rw[<-z5q _ hlook];exact hop0
    have hfr:=hi.fresh j0 hin hl
    rw[hn0] at hfr
    have hwA:=(hre.wanted hg a.tmps).trans (z0w (by rw[<-z7a hlook];exact hw0) hi.hT)
    obtain⟨dA,opA',tA,pA,afA,gA⟩:=oA
    simp only at hd hop'
    subst hd hop'
    obtain⟨ρ',v',w',hs',hv',hrel',hst⟩:=z9x (b:=b) (a:=a) h.mono hrec hA (.enter hop hr0) hcall (fun r hr hf=>z8l hr hi.hT hr2 hf) (fun c e=>by
      have e:o0.op=.defer c:=e
      rw[e] at hop;cases hop)
     (Region.linearise.go .any A fuel (t / (Region.ready .any A LA).length) (LA.setIfInBounds i true) []) k cs hwA hi.hT hr2 hfr
    refine⟨ρ',a,w',v',_,⟨hi.same.1.trans hs'.1,fun x hx=>?_⟩,by rw[<-hi.sz];exact hi.hT.1,hi.hd,hv',hrel'.weaken hle2,hst⟩
    have h1:=h.next j0 0 (by omega)
    have h2:=h.next (ops.size - (j0+1)) (j0+1) (by omega)
    rw[show 0+j0=j0 by omega] at h1
    rw[show j0+1+(ops.size - (j0+1))=ops.size by omega,hn0] at h2
    rw[hs'.2 x (by omega),hi.same.2 x hx]
   ·have hnd:¬Dead (deps ops) j0 (τ i):=fun hd=>by
     rcases hd with e|hb
     ·exact hij e
     ·have:=hi.deps ho hr hb
      rw[hj0] at this;cases this
    obtain⟨q',U',Pt'',ρ',w',a',hi',hst⟩:=hi.step hrec hcall h ho hnd hl hr hA hd hop' (hre.wanted hg _) b (Region.linearise.go .any A fuel (t / (Region.ready .any A LA).length) (LA.setIfInBounds i true) []) k cs
    have hu':=(zba hs hl ops.size).2 hin
    obtain⟨ρ2,a2,w2,v2,k2,g1,g2,g3,g4,g5,g6⟩:=z7y hre hrec hcall h ho0 hw0 ha0 hop0 hr0 hn0 b k cs fuel (t / (Region.ready .any A LA).length) _ _ q' U' Pt'' ρ' w' a' (hl0.set hre hiA hLs) hi' (by rw[z1i hs,if_neg (Ne.symm hij)];exact hj0) (by omega)
    exact⟨ρ2,a2,w2,v2,k2,g1,g2,g3,g4,g5,hst.trans g6⟩
theorem Inv.start(h:Tr P rec dd ops D){T:Tm}{m:Mem}{n:Nat}(d0T:(D 0).T=T)(d0m:(D 0).m=m)(dn:(D ops.size).m.next=n){ρ:Rho}{w:World}{a:Act}(hT:TR ρ T a.tmps)(hrel:Rel Pt ρ m w)(hf:Fresh ρ m.next n) :
  Inv P ops D Pt ρ a.defers (Array.replicate ops.size false) 0 T Pt ρ { w with drawn:=w.drawn+1 } a:=by
 have hrep:∀ i,(Array.replicate ops.size false).getD i false=false:=fun i=>by
  by_cases hi:i < ops.size
  ·simp[hi]
  ·simp[Array.getElem?_eq_none (show(Array.replicate ops.size false).size<=i by simp;omega)]
 exact
  {sizeL:=by simp
   qn:=Nat.zero_le _
   hq:=.inl rfl
   anch:=fun i o _ _=>by rw[hrep];simp
   down:=fun j o _ hl=>by rw[hrep] at hl;cases hl
   sz:=by rw[d0T]
   tmp:=fun i o d _ _=>by rw[hrep,d0T];simp
   tmp0:=fun d _=>by rw[d0T]
   hT:=hT
   hd:=rfl
   rel:=by rw[d0m];exact hrel.of_heap rfl
   le:=⟨fun _ _ h=>h,rfl,rfl,rfl,rfl⟩
   news:=fun i o lb _ hl=>by rw[hrep] at hl;cases hl
   dist:=fun i i' o o' lb lb' x x' _ _ hl=>by rw[hrep] at hl;cases hl
   fresh:=fun i hin _ x h1 h2=>by
    have n1:=h.next i 0 (by omega)
    have n2:=h.next (ops.size - (i+1)) (i+1) (by omega)
    rw[show 0+i=i by omega,d0m] at n1
    rw[show i+1+(ops.size - (i+1))=ops.size by omega,dn] at n2
    exact hf x (by omega) (by omega)
   same:=Same.refl _ _ _ }
theorem zej(hmix:P.follows .mixedOrders=true)(hm:z0j rec)(hpure:RecPure P rec)(hrec:RecSim P rec)(hcall:RecFn P rec):DrawSim P rec:=by
 have hsch:∀(ops:Array Oper) (t:Nat),Region.schedule (P.follows .mixedOrders) ops t=Region.linearise.go .any ops ops.size t (Array.replicate ops.size false) []:=fun ops t=>by
  simp only[Region.schedule,hmix,Bool.true_or,if_true];rfl
 have hrepl:∀(A ops:Array Oper) (σ τ:Nat->Nat),Reord A ops σ τ->LRel A σ (Array.replicate A.size false) (Array.replicate ops.size false):=fun A ops σ τ hre=>by
  have hr:∀(n i:Nat),(Array.replicate n false).getD i false=false:=fun n i=>by
   by_cases hi:i < n
   ·simp[hi]
   ·simp[Array.getElem?_eq_none (show(Array.replicate n false).size<=i by simp;omega)]
  exact⟨by simp,fun k hk=>by rw[hr,hr]⟩
 refine⟨?_,?_⟩
 ·intro A ops σ τ T T' m m' st kk ps hre hok hrun hpend Pt ρ b id k cs w a hT hrel hf
  obtain⟨D,d0,dn,hstep⟩:=z5j (dd:=fun _=>False) _ _ _ _ hrun
  rw[Nat.zero_add,Array.length_toList] at dn
  have h:Tr P rec (fun _=>False) ops D:=⟨z3o hok,hm,hpure,fun j o ho=>by
   have:=hstep j o (by simpa using ho)
   rw[Nat.zero_add] at this;exact this,by rw[d0],by rw[d0],by rw[dn];exact hpend⟩
  have hi:=Inv.start h (T:=T) (m:=m) (n:=m'.next) (by rw[d0]) (by rw[d0]) (by rw[dn]) hT hrel hf
  obtain⟨ρ',a',w',h1,h2,h3,h4,h5⟩:=zhq hre hrec hcall h b k cs A.size (w.tape w.drawn (.order b.fn id)) _ _ 0 T Pt ρ _ a (hrepl A ops σ τ hre) hi (by rw[<-hre.size];exact zfc _ _)
  rw[d0,dn] at h1
  rw[dn] at h2 h4
  refine⟨ρ',a',w',h1,h2,h3,h4,.head stepR_region_draw ?_⟩
  rw[hsch]
  exact h5
 ·intro A ops σ τ T m v m2 d hre hok hrun hpend Pt ρ b id k cs w a hT hrel hf
  obtain⟨D,j0,o0,d0,dn,hj0,ho0,hstep,hw0,ha0,⟨f,as,m1,hop0,hr0⟩,hn0⟩:=z5g hm _ _ _ _ hrun
  rw[Nat.zero_add,Array.length_toList] at dn
  rw[Nat.sub_zero] at ho0
  have dn:D ops.size=d:=dn
  have h:Tr P rec (Dead (deps ops) j0) ops D:=⟨z3o hok,hm,hpure,fun j o ho=>by
   have:=hstep j o (by simpa using ho)
   rw[Nat.zero_add] at this;exact this,by rw[d0],by rw[d0],by rw[dn];exact hpend⟩
  have hi:=Inv.start h (T:=T) (m:=m) (n:=d.m.next) (by rw[d0]) (by rw[d0]) (by rw[dn]) hT hrel hf
  have hrep:(Array.replicate ops.size false).getD j0 false=false:=by
   by_cases hi:j0 < ops.size
   ·simp[hi]
   ·simp[Array.getElem?_eq_none (show(Array.replicate ops.size false).size<=j0 by simp;omega)]
  obtain⟨ρ',a',w',v',k1,h1,h2,h3,h4,h5,h6⟩:=z7y hre hrec hcall h (by simpa using ho0) hw0 ha0 hop0 hr0 hn0 b k cs A.size (w.tape w.drawn (.order b.fn id)) _ _ 0 T Pt ρ _ a (hrepl A ops σ τ hre) hi hrep (by rw[<-hre.size];exact zfc _ _)
  rw[d0,dn] at h1
  rw[d0] at h2
  refine⟨ρ',a',w',v',k1,h1,h2,h3,h4,h5,.head stepR_region_draw ?_⟩
  rw[hsch]
  exact h6
def Prot.old(w:World):Prot:=⟨fun b=>w.heap[b]?,fun b=>w.heap[b]? ≠ none,fun _ h=>h,w.heap.size,w.os,w.output⟩
theorem Rel.empty(w:World)(ρ:Rho)(n:Nat):Rel (.old w) ρ ⟨n,.nil⟩ w :=
 ⟨fun _ _ h=>h,fun i lb h=>(by rw[Mem.get_mk,PT.get_nil] at h;cases h),fun i j lb lb' x y h=>(by rw[Mem.get_mk,PT.get_nil] at h;cases h),⟨rfl,rfl⟩⟩
end
end PvL
end
section
namespace PvL
open Go
structure Entry where
 f:FuncId
 args:List LV
 k0:Nat
 pre:List (Nat × List LV × TypeId)
 v:LV
 next:Nat
 post:List (Nat × List LV × TypeId)
noncomputable def cellsAre(b:Option LB)(cs:List LV)(ty:TypeId):Bool:=match b with|some (.cells _ cs' ty')=>Nat.beq ty' ty && lvEqs cs' cs|_=>false
noncomputable def ownCellsAre(b:Option LB)(cs:List LV)(ty:TypeId):Bool:=match b with|some (.cells true cs' ty')=>Nat.beq ty' ty && lvEqs cs' cs|_=>false
noncomputable def preOk(m:Mem):List (Nat × List LV × TypeId)->Bool
 | []=>true
 | x :: xs=>cellsAre (m.get x.1) x.2.1 x.2.2 && preOk m xs
noncomputable def postOk(k:Nat)(m:Mem):List (Nat × List LV × TypeId)->Bool
 | []=>true
 | x :: xs=>Nat.ble k x.1 && (ownCellsAre (m.get x.1) x.2.1 x.2.2 && postOk k m xs)
noncomputable def laid(own:Bool):List (Nat × List LV × TypeId)->Mem->Mem
 | [],m=>m
 | x :: xs,m=>laid own xs (m.upd x.1 (some (.cells own x.2.1 x.2.2)))
noncomputable def Entry.start(e:Entry):Mem:=laid false e.pre ⟨e.k0,.nil⟩
noncomputable def Entry.apply(e:Entry)(m:Mem):Mem:=laid true e.post ⟨e.next,m.tr⟩
noncomputable def lookE(e:Entry)(f:FuncId)(args:List LV)(m:Mem):Option Out :=
 ifb (Nat.beq f e.f && (Nat.beq m.next e.k0 && (lvEqs args e.args && preOk m e.pre))) (some (.call e.v (e.apply m))) none
noncomputable def lookAll(f:FuncId)(args:List LV)(m:Mem):List Entry->Option Out
 | []=>none
 | e :: es=>oe (lookE e f args m) (lookAll f args m es) some
section
variable (P:Program) (tbl:List Entry)
noncomputable def stepTT(rec:Task->Option Out)(t:Task):Option Out :=
 taskE t (fun f r c T ms m=>stepT P rec (.code f r c T ms m)) (fun f as m=>oe (lookAll f as m tbl) (stepT P rec (.call f as m)) some) (fun l as m=>stepT P rec (.round l as m))
noncomputable def runT(n:Nat):Task->Option Out :=
 @Nat.rec (fun _=>Task->Option Out) (fun _=>none) (fun _ ih t=>stepTT P tbl ih t) n
noncomputable def chk(n:Nat)(e:Entry):Bool :=
 match runT P tbl n (.call e.f e.args e.start) with
 | some (.call v m1)=>(!(z15 P 1 e.f) && (!(z15 P 2 e.f) && !(z15 P 3 e.f))) && (lvEq v e.v && (Nat.beq m1.next e.next && (Nat.ble e.k0 e.next && postOk e.k0 m1 e.post)))
 | _=>false
end
section
variable {P:Program} {tbl:List Entry}
structure Entry.Ok (P:Program) (e:Entry):Prop where
 le:e.k0<=e.next
 fn:∃ fn,fnOf P e.f=some fn
 imp:∀ d,d<=3->z15 P d e.f=false
 sim:∀ m,m.next=e.k0->preOk m e.pre=true->Sim P (.call e.f e.args m) (.call e.v (e.apply m))
theorem z22{own:Bool}:∀(l:List (Nat × List LV × TypeId)) (m:Mem),(laid own l m).next=m.next
 | [],_=>rfl
 | x :: xs,m=>by show(laid own xs _).next=_;rw[z22 xs,Mem.next_upd]
theorem z47{f:FuncId}{args:List LV}{m:Mem}{o:Out}:∀(tbl:List Entry),lookAll f args m tbl=some o->∃ e ∈ tbl,f=e.f /\ args=e.args /\ m.next=e.k0 /\ preOk m e.pre=true /\ o=.call e.v (e.apply m)
 | [],h=>by cases h
 | e :: es,h=>by
  have h:oe (lookE e f args m) (lookAll f args m es) some=some o:=h
  cases hl:lookE e f args m with
  | none =>
   rw[hl] at h
   obtain⟨e',he,h'⟩:=z47 es h
   exact⟨e',List.mem_cons_of_mem _ he,h'⟩
  | some o' =>
   rw[hl] at h
   cases h
   unfold lookE at hl
   cases hc:(Nat.beq f e.f && (Nat.beq m.next e.k0 && (lvEqs args e.args && preOk m e.pre))) with
   | false=>rw[hc] at hl;cases hl
   | true =>
    rw[hc] at hl
    cases hl
    simp only[Bool.and_eq_true] at hc
    exact⟨e,List.mem_cons_self,Nat.eq_of_beq_eq_true hc.1,z1w.2 _ _ hc.2.2.1,Nat.eq_of_beq_eq_true hc.2.1,hc.2.2.2,rfl⟩
structure Good (P:Program) (rec:Task->Option Out):Prop where
 mono:z0j rec
 sim:RecSim P rec
 fn:RecFn P rec
 pure:RecPure P rec
theorem zcn(hmix:P.follows .mixedOrders=true)(ht:∀ e ∈ tbl,e.Ok P):∀ n,Good P (runT P tbl n)
 | 0=>⟨fun t o h=>(by cases h),fun t o h=>(by cases h),fun _ _ _ _ h=>(by cases h),fun d _=>⟨fun f _ args m o h=>(by cases h),fun c _ fn ro T ms m o h=>(by cases h)⟩⟩
 | n+1=>by
  have ih:=zcn hmix ht n
  have hs:=zct ih.mono ih.sim ih.fn (zej hmix ih.mono ih.pure ih.sim ih.fn)
  have hn:=za4 (P:=P) ih.mono
  have key:∀ f as m o,runT P tbl (n+1) (.call f as m)=some o->(∃ e ∈ tbl,f=e.f /\ as=e.args /\ m.next=e.k0 /\ preOk m e.pre=true /\ o=.call e.v (e.apply m)) ∨ stepT P (runT P tbl n) (.call f as m)=some o:=by
   intro f as m o h
   have h:oe (lookAll f as m tbl) (stepT P (runT P tbl n) (.call f as m)) some=some o:=h
   cases hl:lookAll f as m tbl with
   | none=>rw[hl] at h;exact .inr h
   | some o'=>rw[hl] at h;cases h;exact .inl (z47 tbl hl)
  refine⟨fun t o h=>?_,fun t o h=>?_,fun f as m1 o h=>?_,fun d hd=>⟨fun f hf as m o h=>?_,fun c hp fn ro T ms m o h=>(z49 ih.pure d hd).2 c hp fn ro T ms m o h⟩⟩
  ·cases t with
   | code f r c T ms m=>exact hn _ _ h
   | round l as m=>exact hn _ _ h
   | call f as m =>
    rcases key f as m o h with⟨e,he,rfl,rfl,hk,_,rfl⟩|h
    ·show m.next<=(e.apply m).next
     unfold Entry.apply
     rw[z22,hk];exact(ht e he).le
    ·exact hn _ _ h
  ·cases t with
   | code f r c T ms m=>exact hs _ _ h
   | round l as m=>exact hs _ _ h
   | call f as m =>
    rcases key f as m o h with⟨e,he,rfl,rfl,hk,hp,rfl⟩|h
    ·exact(ht e he).sim m hk hp
    ·exact hs _ _ h
  ·rcases key f as m1 _ h with⟨e,he,rfl,_⟩|h
   ·exact(ht e he).fn
   ·obtain⟨fn,hfn,_⟩:=zb.1 (show stCall P (runT P tbl n) f as m1=some _ from h)
    exact⟨fn,hfn⟩
  ·have hno:∀ M,lookAll f as M tbl=none:=fun M=>by
    cases hl:lookAll f as M tbl with
    | none=>rfl
    | some o =>
     obtain⟨e,he,rfl,_⟩:=z47 tbl hl
     rw[(ht e he).imp d hd] at hf;cases hf
   have hst:∀ M,runT P tbl (n+1) (.call f as M)=stepT P (runT P tbl n) (.call f as M):=fun M=>by
    show oe (lookAll f as M tbl) (stepT P (runT P tbl n) (.call f as M)) some=_
    rw[hno M];rfl
   rw[hst] at h
   obtain⟨v,h1,h2⟩:=(z49 ih.pure d hd).1 f hf as m o h
   exact⟨v,h1,fun M=>by rw[hst];exact h2 M⟩
theorem z2y{own:Bool}:∀(l:List (Nat × List LV × TypeId)) (m:Mem) (i:Nat) (lb:LB),(laid own l m).get i=some lb->m.get i=some lb ∨ ∃ x ∈ l,i=x.1 /\ lb=.cells own x.2.1 x.2.2
 | [],m,i,lb,h=>.inl h
 | x :: xs,m,i,lb,h=>by
  rcases z2y xs _ i lb h with h|⟨y,hy,h⟩
  ·rw[Mem.get_upd] at h
   by_cases e:i=x.1
   ·rw[if_pos e] at h;cases h;exact .inr ⟨x,List.mem_cons_self,e,rfl⟩
   ·rw[if_neg e] at h;exact .inl h
  ·exact .inr ⟨y,List.mem_cons_of_mem _ hy,h⟩
theorem z2s{m:Mem}:∀(l:List (Nat × List LV × TypeId)),preOk m l=true->∀ x ∈ l,∃ own,m.get x.1=some (.cells own x.2.1 x.2.2)
 | [],_,x,hx=>by cases hx
 | y :: ys,h,x,hx=>by
  obtain⟨h1,h2⟩:=(Bool.and_eq_true _ _ ▸ h:cellsAre (m.get y.1) y.2.1 y.2.2=true /\ preOk m ys=true)
  rcases List.mem_cons.1 hx with rfl|hx
  ·unfold cellsAre at h1
   split at h1
   ·rename_i own cs ty e
    simp only[Bool.and_eq_true] at h1
    rw[Nat.eq_of_beq_eq_true h1.1,z1w.2 _ _ h1.2] at e
    exact⟨own,e⟩
   ·cases h1
  ·exact z2s ys h2 x hx
theorem z9y{k:Nat}{m:Mem}:∀(l:List (Nat × List LV × TypeId)),postOk k m l=true->∀ x ∈ l,k<=x.1 /\ m.get x.1=some (.cells true x.2.1 x.2.2)
 | [],_,x,hx=>by cases hx
 | y :: ys,h,x,hx=>by
  obtain⟨h0,h1,h2⟩:=(by simpa only [Bool.and_eq_true] using(show(Nat.ble k y.1 && (ownCellsAre (m.get y.1) y.2.1 y.2.2 && postOk k m ys))=true from h):Nat.ble k y.1=true /\ ownCellsAre (m.get y.1) y.2.1 y.2.2=true /\ postOk k m ys=true)
  rcases List.mem_cons.1 hx with rfl|hx
  ·unfold ownCellsAre at h1
   split at h1
   ·rename_i cs ty e
    simp only[Bool.and_eq_true] at h1
    rw[Nat.eq_of_beq_eq_true h1.1,z1w.2 _ _ h1.2] at e
    exact⟨by rw[Nat.ble_eq] at h0;exact h0,e⟩
   ·cases h1
  ·exact z9y ys h2 x hx
def Prot.all(Pt:Prot)(w:World):Prot:=⟨fun b=>w.heap[b]?,fun b=>w.heap[b]? ≠ none,fun _ h=>h,Pt.base,Pt.os,Pt.out⟩
theorem z5k(hmix:P.follows .mixedOrders=true)(ht:∀ e ∈ tbl,e.Ok P){n:Nat}{e:Entry}(h:chk P tbl n e=true):e.Ok P:=by
 unfold chk at h
 have hg:=zcn hmix ht n
 split at h
 ·rename_i v m1 hrun
  simp only[Bool.and_eq_true] at h
  obtain⟨h0,h1,h2,h3,h4⟩:=h
  have h1:=z1w.1 _ _ h1
  have h2:=Nat.eq_of_beq_eq_true h2
  have h3:e.k0<=e.next:=by rw[Nat.ble_eq] at h3;exact h3
  subst h1
  have himp:∀ d,d<=3->z15 P d e.f=false:=fun d hd=>by
   simp only[Bool.not_eq_true'] at h0
   match d,hd with
   | 0,_=>rfl
   | 1,_=>exact h0.1
   | 2,_=>exact h0.2.1
   | 3,_=>exact h0.2.2
  refine⟨h3,hg.fn _ _ _ _ hrun,himp,fun m hm hpre Pt ρ w as' cs has hG hrel hf=>?_⟩
  have hpre':=z2s _ hpre
  have hpost:=z9y _ h4
  have hstart:Rel (Pt.all w) ρ e.start w:=by
   refine⟨fun r o hr=>hr,fun i lb hi=>?_,fun i j lb lb' x y hi hj hro=>?_,hrel.still⟩
   ·rcases z2y _ _ _ _ hi with hi|⟨x,hx,rfl,rfl⟩
    ·rw[Mem.get_mk,PT.get_nil] at hi;cases hi
    ·obtain⟨own,hx'⟩:=hpre' x hx
     obtain⟨hl,b,s,c,o,k1,⟨C,e',fr,k2,k3,k4,k5⟩,k6,k7⟩:=hrel.live _ _ hx'
     have hfr:false=true->Thaw fr c /\ TyR x.2.2 e' s:=fun hh=>nomatch hh
     refine⟨by unfold Entry.start;rw[z22];show x.1 < e.k0;omega,b,s,c,o,k1,⟨C,e',fr,k2,hfr,k4,k5⟩,k6,?_⟩
     exact⟨k6,fun hh=>by rw[k6] at hh;cases hh⟩
   ·rcases z2y _ _ _ _ hi with hi|⟨x,hx,rfl,rfl⟩
    ·rw[Mem.get_mk,PT.get_nil] at hi;cases hi
    ·cases hro
  have hnx:(e.apply m).next=m1.next:=by unfold Entry.apply;rw[z22];exact h2.symm
  have hst:e.start.next=m.next:=by unfold Entry.start;rw[z22];exact hm.symm
  rw[hnx] at hf ⊢
  obtain⟨ρ',v',w',hs,hv,hrel',hsteps⟩:=hg.sim _ _ hrun (Pt.all w) ρ w as' cs has hG hstart (by rw[hst];exact hf)
  rw[hst] at hs
  refine⟨ρ',v',w',hs,hv,?_,hsteps⟩
  have hkeep:∀ b o,w.heap[b]?=some o->w'.heap[b]?=some o:=fun b o hb=>hrel'.keep b o hb
  have hget:∀ i lb,(e.apply m).get i=some lb->m.get i=some lb ∨(m.next<=i /\ isRo lb=false /\ m1.get i=some lb):=fun i lb hi=>by
   rcases z2y _ _ _ _ hi with hi|⟨x,hx,rfl,rfl⟩
   ·exact .inl hi
   ·obtain⟨k1,k2⟩:=hpost x hx
    exact .inr ⟨by omega,rfl,k2⟩
  have hold:∀ i lb,m.get i=some lb->∃ b s c o,ρ i=some (b,s,c) /\ ρ' i=some (b,s,c) /\ BR ρ' lb o s c /\ w.heap[b]?=some o /\ (if isRo lb then Pt b=some o /\ Pt.ro b else Pt b=none):=fun i lb hi=>by
   obtain⟨_,b,s,c,o,k1,k2,k3,k4⟩:=hrel.live i lb hi
   exact⟨b,s,c,o,k1,hs.1 _ _ k1,k2.mono hs.1,k3,k4⟩
  have hnew:∀ i lb,isRo lb=false->m1.get i=some lb->∃ b s c o,ρ' i=some (b,s,c) /\ BR ρ' lb o s c /\ w'.heap[b]?=some o /\ w.heap[b]?=none:=fun i lb hro hi=>by
   obtain⟨_,b,s,c,o,k1,k2,k3,k4⟩:=hrel'.live i lb hi
   rw[hro] at k4
   exact⟨b,s,c,o,k1,k2,k3,k4⟩
  refine⟨fun r o hr=>hkeep r o (hrel.keep r o hr),fun i lb hi=>?_,fun i j lb lb' x y hi hj hro hro' hx hy he=>?_,hrel'.still⟩
  ·rcases hget i lb hi with hi|⟨_,hro,hi⟩
   ·obtain⟨b,s,c,o,_,k1,k2,k3,k4⟩:=hold i lb hi
    have:=(hrel.live i lb hi).1
    exact⟨by rw[hnx];omega,b,s,c,o,k1,k2,hkeep _ _ k3,k4⟩
   ·obtain⟨b,s,c,o,k1,k2,k3,k4⟩:=hnew i lb hro hi
    refine⟨by rw[hnx];exact(hrel'.live i lb hi).1,b,s,c,o,k1,k2,k3,?_⟩
    rw[hro]
    show Pt b=none
    cases hp:Pt b with
    | none=>rfl
    | some o'=>rw[hrel.keep b o' hp] at k4;cases k4
  ·rcases hget i lb hi with hi|⟨_,_,hi⟩
   ·obtain⟨b,s,c,o,k0,k1,_,k3,_⟩:=hold i lb hi
    rcases hget j lb' hj with hj|⟨_,_,hj⟩
    ·obtain⟨b',s',c',o',l0,l1,_⟩:=hold j lb' hj
     rw[k1] at hx;rw[l1] at hy;cases hx;cases hy
     exact hrel.inj i j lb lb' _ _ hi hj hro hro' k0 l0 he
    ·obtain⟨b',s',c',o',l1,_,_,l4⟩:=hnew j lb' hro' hj
     rw[k1] at hx;rw[l1] at hy;cases hx;cases hy
     have he:b=b':=he
     rw[he,l4] at k3;cases k3
   ·obtain⟨b,s,c,o,k1,_,_,k4⟩:=hnew i lb hro hi
    rcases hget j lb' hj with hj|⟨_,_,hj⟩
    ·obtain⟨b',s',c',o',l0,l1,_,l3,_⟩:=hold j lb' hj
     rw[k1] at hx;rw[l1] at hy;cases hx;cases hy
     have he:b=b':=he
     rw[<-he,k4] at l3;cases l3
    ·exact hrel'.inj i j lb lb' x y hi hj hro hro' hx hy he
 ·cases h
def GrownO(W w':World):Prop:=W.keptBut w' (fun _=>False) /\ (∀ a:Addr,a.block < W.heap.size->w'.frozen? a=W.frozen? a) /\ W.heap.size<=w'.heap.size
theorem zc3{w w':World}{ρ:Rho}{m:Mem}(h:Rel (.old w) ρ m w'):GrownO w w':=by
 have hk:∀ b o,w.heap[b]?=some o->w'.heap[b]?=some o:=fun b o hb=>h.keep b o hb
 refine⟨⟨h.still.1,h.still.2,fun i hi=>?_⟩,fun a hb=>?_,?_⟩
 ·have e:w.heap[i]?=some w.heap[i]:=Array.getElem?_eq_getElem hi
  rw[hk i _ e,e]
  cases w.heap[i]<;>simp
 ·unfold World.frozen?
  have e:w.heap[a.block]?=some w.heap[a.block]:=Array.getElem?_eq_getElem hb
  rw[hk _ _ e,e]
 ·rcases Nat.eq_zero_or_pos w.heap.size with h0|h0
  ·omega
  ·have e:w.heap[w.heap.size - 1]?=some w.heap[w.heap.size - 1]:=Array.getElem?_eq_getElem (by omega)
   have:=(Array.getElem?_eq_some_iff.1 (hk _ _ e)).1
   omega
abbrev Tab:=List (Nat × List LV × TypeId)
def isIntC:LV->Bool | .int _ _=>true | .iface _ .unk=>true|_=>false
def tabsOk:Tab->Bool
 | []=>true
 | x :: xs=>Nat.blt x.1 64 && (x.2.1.all isIntC && tabsOk xs)
theorem z6m:∀ {l:Tab},tabsOk l=true->∀ x ∈ l,x.1 < 64 /\ ∀ v ∈ x.2.1,isIntC v=true
 | [],_,x,hx=>by cases hx
 | y :: ys,h,x,hx=>by
  simp only[tabsOk,Bool.and_eq_true] at h
  rcases List.mem_cons.1 hx with rfl|hx
  ·exact⟨by have:=h.1;rw[Nat.blt_eq] at this;exact this,List.all_eq_true.1 h.2.1⟩
  ·exact z6m h.2.2 x hx
theorem zi3{ρ ρ':Rho}{v:LV}{v':Value}(hi:isIntC v=true)(h:VR ρ v v'):VR ρ' v v':=by
 cases v with
 | int k n=>cases h;exact .int ..
 | iface t x =>
  cases x<;>first|(cases hi;done)|skip
  cases h
  exact .iface (.unk _)
 | _=>cases hi
def TabW(l:Tab)(w:World):Prop:=∀ x ∈ l,∃ C e fr,w.heap[x.1]?=some (.cells C e fr) /\ CellsR (fun _=>none) x.2.1 C 0
noncomputable def Mem.base(l:Tab):Mem:=laid false l ⟨64,.nil⟩
def objSize:Option Obj->Nat|some (.cells C _ _)=>C.size|_=>0
def rho0(w:World):Rho:=fun g=>if g < 64 then some (g,0,objSize w.heap[g]?) else none
theorem zja(w:World):GlobOk (rho0 w):=fun _ hg=>⟨_,if_pos hg⟩
theorem zjb{w:World}{i:Nat}(h:64<=i):rho0 w i=none:=if_neg (by omega)
theorem Rel.base{l:Tab}{w:World}(hl:tabsOk l=true)(hw:TabW l w):Rel (.old w) (rho0 w) (Mem.base l) w:=by
 refine⟨fun r o hr=>hr,fun i lb hi=>?_,fun i j lb lb' x y hi hj hro=>?_,⟨rfl,rfl⟩⟩
 ·rcases z2y _ _ _ _ hi with hi|⟨x,hx,rfl,rfl⟩
  ·rw[Mem.get_mk,PT.get_nil] at hi;cases hi
  ·obtain⟨h1,h2⟩:=z6m hl x hx
   obtain⟨C,e,fr,h3,h4⟩:=hw x hx
   have hno:false=true->Thaw fr C.size /\ TyR x.2.2 e 0:=fun hh=>nomatch hh
   refine⟨by unfold Mem.base;rw[z22];exact h1,x.1,0,C.size,_,by unfold rho0;rw[if_pos h1,h3];rfl,⟨C,e,fr,rfl,hno,rfl,fun k v hk=>?_⟩,h3,?_⟩
   ·obtain⟨v',g1,g2⟩:=h4 k v hk
    exact⟨v',g1,zi3 (h2 v (List.mem_of_getElem? hk)) g2⟩
   ·exact⟨h3,fun hh=>by
     have hh:w.heap[x.1]?=none:=hh
     rw[h3] at hh;cases hh⟩
 ·rcases z2y _ _ _ _ hi with hi|⟨x,hx,rfl,rfl⟩
  ·rw[Mem.get_mk,PT.get_nil] at hi;cases hi
  ·cases hro
theorem z7k(l:Tab):(Mem.base l).next=64:=by unfold Mem.base;rw[z22]
theorem z9h(s:ByteArray):(s == s)=true:=by
 show(s.data == s.data)=true
 simp
mutual
theorem z5n:∀ v:LV,lvEq v v=true
 | .int k n=>by unfold lvEq;simp[z3i,z4u]
 | .bool b=>by unfold lvEq;cases b<;>rfl
 | .str s=>by unfold lvEq;exact z9h s
 | .ptr none=>by unfold lvEq;rfl
 | .ptr (some (a,b))=>by unfold lvEq;simp
 | .slice none n f e=>by unfold lvEq;cases f<;>simp[bEq]
 | .slice (some (a,b)) n f e=>by unfold lvEq;cases f<;>simp[bEq]
 | .map none=>by unfold lvEq;rfl
 | .map (some a)=>by unfold lvEq;simp
 | .func f a b=>by unfold lvEq;simp[z2e a,z2e b]
 | .nilFunc=>by unfold lvEq;rfl
 | .nilIface=>by unfold lvEq;rfl
 | .iface t v=>by unfold lvEq;simp[z5n v]
 | .agg a=>by unfold lvEq;exact z2e a
 | .tup a=>by unfold lvEq;exact z2e a
 | .unk=>by unfold lvEq;rfl
theorem z2e:∀ v:List LV,lvEqs v v=true
 | []=>by unfold lvEqs;rfl
 | a :: as=>by unfold lvEqs;rw[z5n a,z2e as];rfl
end
theorem z6i:∀(l:Tab),l.Pairwise (fun x y=>x.1 ≠ y.1)->∀(m:Mem),preOk (laid false l m) l=true
 | [],_,_=>rfl
 | x :: xs,hp,m=>by
  rw[List.pairwise_cons] at hp
  have hkeep:∀(l:Tab),(∀ y ∈ l,x.1 ≠ y.1)->∀(m:Mem) lb,m.get x.1=some lb->(laid false l m).get x.1=some lb:=by
   intro l
   induction l with
   | nil=>intro _ m lb h;exact h
   | cons y ys ih =>
    intro hn m lb h
    refine ih (fun z hz=>hn z (List.mem_cons_of_mem _ hz)) _ _ ?_
    rw[Mem.get_upd,if_neg (hn y List.mem_cons_self)];exact h
  show(cellsAre _ _ _ && preOk _ xs)=true
  rw[Bool.and_eq_true]
  refine⟨?_,z6i xs hp.2 _⟩
  show cellsAre ((laid false xs (m.upd x.1 (some (.cells false x.2.1 x.2.2)))).get x.1) x.2.1 x.2.2=true
  rw[hkeep xs hp.1 _ (.cells false x.2.1 x.2.2) (by rw[Mem.get_upd,if_pos rfl])]
  simp[cellsAre,z2e]
end
end PvL
end
section
namespace PvL
open Go Go.ChangeShapes Go.RowKit
section
variable {P:Program} {H:Type} {enc:TypeId × Value->H}
theorem zdw{f:Func}{s:ChangeSpec}{apart fresh handsOn again:Bool}{W W':World}{args:Array Value}{v:Value}{ds gs:List (DataW H)}{before pa pv:List MemPlace}
  (hW:DataW.Whole enc P f.params.toList s.vars apart W args.toList ds gs before)
  (hres:∀(b:Nat) (sp:Nat->Bool) (hd:Bool),DataW.TrodAll enc P W' b sp hd f.resultTypes.toList (v.resultList f.resultTypes.size) (s.fn H (ds ++ gs)).results [])
  (hargs:∀ sp:Nat->Bool,(∀ p ∈ before,sp p.block=true)->DataW.TrodAll enc P W' 0 sp true f.params.toList args.toList (s.fn H (ds ++ gs)).args pa)
  (hvars:∀ sp:Nat->Bool,(∀ p ∈ before,sp p.block=true)->DataW.TrodVars enc P W' sp s.vars (s.fn H (ds ++ gs)).vars pv)
  (hps:before=pa ++ pv) (hk:W.keptBut W' (· ∈ before)) (hfz:∀ a:Addr,a.block < W.heap.size->W'.frozen? a=W.frozen? a)
  (hok:∀(j:Nat) (t:TypeId) (r:Value),f.resultTypes[j]?=some t->(v.resultList f.resultTypes.size)[j]?=some r->Value.okWide P W' .any 0 t r) :
  s.post enc P f apart fresh handsOn again W args v W':=by
 have hold:∀ p ∈ before,(fun b=>decide (b < W.heap.size)) p.block=true:=fun p hp=>by simpa using hW.lt p hp
 have hlt:=hW.lt
 refine⟨ds,gs,before,[],pa,pv,hW,hres _ _ _,hargs _ hold,hvars _ hold,World.keptBut_mono (fun p hp=>⟨hp,?_⟩) hk,fun _=>?_⟩
 ·rw[hps,List.mem_append] at hp
  exact Or.inr hp
 ·obtain⟨_,_,_,_,_,hz,hn⟩:=hW
  refine⟨hok,_,_,([] ++ pa) ++ pv,⟨[] ++ pa,pv,trodAll_append (hargs _ (fun _ _=>rfl)) (hres _ _ _),hvars _ (fun _ _=>rfl),rfl,?_,?_⟩,?_⟩
  ·intro b off hp
   have hb:MemPlace.cell b off ∈ before:=by rw[hps];simpa using hp
   rw[hfz _ (hlt _ hb)]
   exact hz b off hb
  ·intro ha
   have:=hn ha
   rw[hps] at this
   simpa using this
  ·intro p hp _
   rw[hps]
   simpa using hp
def intsL(k:IntKind)(zs:List Int):List LV:=zs.map fun z=>.int k z
theorem zd6{k:IntKind}{zs:List Int}:CellsR (fun _=>none) (intsL k zs) (zs.map fun z=>Value.int k z).toArray 0:=fun i v hi=>by
 unfold intsL at hi
 rw[List.getElem?_map] at hi
 obtain⟨z,hz,rfl⟩:=Option.map_eq_some_iff.1 hi
 exact⟨.int k z,by simp[hz],.int k z⟩
theorem z5y{W:World}{name:String}{g:Nat}{k:IntKind}{zs:List Int}{ty:TypeId}{l:Tab}(h:Lib.TabIs P W name k zs)(hg:P.globalNamed name=some g)(hl:TabW l W):TabW ((g,intsL k zs,ty) :: l) W:=fun x hx=>by
 rcases List.mem_cons.1 hx with rfl|hx
 ·unfold Lib.TabIs World.var? at h
  rw[hg] at h
  have h:(match W.heap[g]? with|some (.cells cs _ _)=>some cs|_=>none)=some (zs.map fun z=>Value.int k z).toArray:=h
  split at h
  ·rename_i cs t fr hh
   cases h
   exact⟨_,t,fr,hh,zd6⟩
  ·cases h
 ·exact hl x hx
theorem zm7{W:World}:TabW [] W:=fun _ hx=>nomatch hx
