/-
 The same of whole code,panics,put off calls. No condition.
-/
import Derived.Test.YtpgalhbplcanhaaGreatDoorPvC
import Derived.CallsIn
import Derived.Recover
import Derived.RangeFuncIn
import Derived.CheckFast
import Derived.Orders
section
namespace PvL
open Go
variable {n i j0:Nat} {all os l:List Oper} {o:Oper} {ds sig:List Nat} {ops:Array Oper} {ro:Option Nat}
def Out.mem:Out->Mem | .code _ _ _ m | .call _ m | .boom _ _ _ m | .die _ m=>m
def Task.mem:Task->Mem | .code _ _ _ _ _ m | .call _ _ m | .round _ _ m=>m
section
variable {P:Program} {rec:Task->Option Out}
theorem z2s {r:Option Out}{k:Ex->Tm->List Dfr->Mem->Option Out}{y:Out}(h:z11 r k=some y):(∃ e T ms m,r=some (.code e T ms m)/\k e T ms m=some y) ∨ ∃ v T ms m,r=some (.boom v T ms m)/\y=.boom v T ms m:=by
 obtain⟨o,g,f⟩:=z9.1 h
 cases o with
 | code e T ms m=>exact .inl ⟨e,T,ms,m,g,f⟩
 | call v m=>cases f
 | boom v T ms m=>cases f;exact .inr ⟨v,T,ms,m,g,rfl⟩
 | die v m=>cases f
theorem z22 {α:Type}{r:Option Out}{k:Ex->Tm->List Dfr->Mem->Option α}{b:LV->Tm->List Dfr->Mem->Option α}{y:α}(h:z1k r k b=some y) :
  (∃ e T ms m,r=some (.code e T ms m)/\k e T ms m=some y) ∨ ∃ v T ms m,r=some (.boom v T ms m)/\b v T ms m=some y:=by
 obtain⟨o,g,f⟩:=z9.1 h
 cases o with
 | code e T ms m=>exact .inl ⟨e,T,ms,m,g,f⟩
 | call v m=>cases f
 | boom v T ms m=>exact .inr ⟨v,T,ms,m,g,f⟩
 | die v m=>cases f
theorem z79 {α:Type}{r:Option Out}{k:LV->Mem->Option α}{y:α}:z1v r k=some y ↔ ∃ v m,r=some (.call v m)/\k v m=some y:=by
 unfold z1v
 rw[z9]
 constructor
 ·rintro⟨o,g,f⟩
  cases o with
  | code e T h m=>cases f
  | call v m=>exact⟨v,m,g,f⟩
  | boom v T h m=>cases f
  | die v m=>cases f
 ·rintro⟨v,m,g,f⟩;exact⟨_,g,f⟩
theorem z34 {α:Type}{r:Option Out}{k d:LV->Mem->Option α}{y:α}(h:z15 r k d=some y):(∃ v m,r=some (.call v m)/\k v m=some y) ∨ ∃ v m,r=some (.die v m)/\d v m=some y:=by
 obtain⟨o,g,f⟩:=z9.1 h
 cases o with
 | code e T j m=>cases f
 | call v m=>exact .inl ⟨v,m,g,f⟩
 | boom v T j m=>cases f
 | die v m=>exact .inr ⟨v,m,g,f⟩
inductive z1c (rec:Task->Option Out) (X:Option R1) (T:Tm) (dst:Option Tmp):Tm->Mem->Prop
 | val {v:LV} {m':Mem} {T':Tm} (h:X=some (.val v m')) (hp:T.put dst v=some T'):z1c rec X T dst T' m'
 | skip {m':Mem} {T':Tm} (h:X=some (.skip m')) (hp:T.put dst z00=some T'):z1c rec X T dst T' m'
 | enter {f:FuncId} {as:List LV} {m1 m':Mem} {v:LV} {T':Tm} (h:X=some (.enter f as m1)) (hr:rec (.call f as m1)=some (.call v m')) (hp:T.put dst v=some T'):z1c rec X T dst T' m'
 | round {l:Nat} {as:List LV} {m1 m':Mem} {v:LV} {T':Tm} (h:X=some (.round l as m1)) (hr:rec (.round l as m1)=some (.call v m')) (hp:T.put dst v=some T'):z1c rec X T dst T' m'
abbrev OpStep (P:Program)(rec:Task->Option Out)(T:Tm)(m:Mem)(op:Op)(dst:Option Tmp):Tm->Mem->Prop:=z1c rec (op1 P op T m) T dst
inductive OpBoom (rec:Task->Option Out) (X:Option R1):LV->Mem->Prop
 | boom {v:LV} {m':Mem} (h:X=some (.boom v m')):OpBoom rec X v m'
 | enter {f:FuncId} {as:List LV} {m1 m':Mem} {v:LV} (h:X=some (.enter f as m1)) (hr:rec (.call f as m1)=some (.die v m')):OpBoom rec X v m'
 | round {l:Nat} {as:List LV} {m1 m':Mem} {v:LV} (h:X=some (.round l as m1)) (hr:rec (.round l as m1)=some (.die v m')):OpBoom rec X v m'
theorem ze4 {T:Tm}{m:Mem}{op:Op}{dst:Option Tmp}{α:Type}{k:Tm->Mem->Option α}{y:α}(h:opFull P rec T m op dst k=some y):∃ T' e,OpStep P rec T m op dst T' e/\k T' e=some y:=by
 obtain⟨r,q,p⟩:=z9.1 h
 cases r with
 | val v e=>
  obtain⟨T',g,j⟩:=z9.1 (show ob (T.put dst v) (fun T=>k T e)=some y from p)
  exact⟨T',e,.val q g,j⟩
 | skip e=>
  obtain⟨T',g,j⟩:=z9.1 (show ob (T.put dst z00) (fun T=>k T e)=some y from p)
  exact⟨T',e,.skip q g,j⟩
 | enter f t x=>
  obtain⟨v,e,g,j⟩:=z79.1 (show z1v (rec (.call f t x)) (fun v m=>ob (T.put dst v) fun T=>k T m)=some y from p)
  obtain⟨T',h5,u⟩:=z9.1 j
  exact⟨T',e,.enter q g h5,u⟩
 | round l t x=>
  obtain⟨v,e,g,j⟩:=z79.1 (show z1v (rec (.round l t x)) (fun v m=>ob (T.put dst v) fun T=>k T m)=some y from p)
  obtain⟨T',h5,u⟩:=z9.1 j
  exact⟨T',e,.round q g h5,u⟩
 | boom v e=>cases p
def z0n (rec:Task->Option Out):Prop:=∀ t o,rec t=some o->t.mem.next<=o.mem.next
theorem z1c.next' (g:z0n rec){X:Option R1}(e:Mono n X){T T':Tm}{j:Mem}{dst:Option Tmp}(h:z1c rec X T dst T' j):n<=j.next:=by
 cases h with
 | val h _=>exact e _ h
 | skip h _=>exact e _ h
 | enter h f _=>exact Nat.le_trans (e _ h) (g _ _ f)
 | round h f _=>exact Nat.le_trans (e _ h) (g _ _ f)
theorem z1c.next (f:z0n rec){T T':Tm}{m e:Mem}{op:Op}{dst:Option Tmp}(h:z1c rec (op1 P op T m) T dst T' e):m.next<=e.next:=h.next' f (z48 op)
theorem OpBoom.next (g:z0n rec){X:Option R1}(e:Mono n X){v:LV}{j:Mem}(h:OpBoom rec X v j):n<=j.next:=by
 cases h with
 | boom h=>exact e _ h
 | enter h f=>exact Nat.le_trans (e _ h) (g _ _ f)
 | round h f=>exact Nat.le_trans (e _ h) (g _ _ f)
variable {ro:Option Nat}
inductive OCons (P:Program) (ro:Option Nat) (rec:Task->Option Out) (all:List Oper) (o:Oper) (os:List Oper) (T:Tm) (ms:List Dfr) (m:Mem) (q:Out):Prop
 | on (hw:wanted all T o.guard=some true) (hd:isDefer o.op=none) {T':Tm} {m':Mem} (hs:z1c rec (opA P o.op T m) T o.dst T' m') (h:z0c P ro rec all os T' ms m'=some q):OCons P ro rec all o os T ms m q
 | boom (hw:wanted all T o.guard=some true) (hd:isDefer o.op=none) {v:LV} {m':Mem} (hs:OpBoom rec (opA P o.op T m) v m') (h:q=.boom v T ms m'):OCons P ro rec all o os T ms m q
 | dfr (hw:wanted all T o.guard=some true) {c:Call} (hd:o.op=.defer c) (hr:ro=none) {d:Dfr} (hc:dfrOf c T=some d) {T':Tm} (hp:T.put o.dst z00=some T') (h:z0c P ro rec all os T' (d :: ms) m=some q):OCons P ro rec all o os T ms m q
 | off (hw:wanted all T o.guard=some false) {T':Tm} (hp:T.put o.dst z00=some T') (h:z0c P ro rec all os T' ms m=some q):OCons P ro rec all o os T ms m q
theorem z5z {T:Tm}{ms:List Dfr}{m:Mem}{q:Out}(h:z0c P ro rec all (o::os) T ms m=some q):OCons P ro rec all o os T ms m q:=by
 obtain⟨z,G,J,K,L,g⟩:=o
 obtain⟨H,x,h⟩:=z9.1 (show ob (wanted all T g) _=some q from h)
 cases H with
 | false=>
  obtain⟨A,t,u⟩:=z9.1 (show ob (T.put z z00) (fun T=>z0c P ro rec all os T ms m)=some q from h)
  exact .off x t u
 | true=>
  rw[zq] at h
  cases p:isDefer G with
  | some c=>
   rw[p] at h
   obtain⟨E,t⟩:=za.1 (show guard' ro.isNone _=some q from h)
   obtain⟨d,u,e⟩:=z9.1 t
   obtain⟨A,j,h5⟩:=z9.1 e
   have D:G=.defer c:=by
    unfold isDefer at p
    split at p
    ·cases p;rfl
    ·cases p
   have E:ro=none:=by simpa using E
   exact .dfr x D E u j h5
  | none=>
   rw[p] at h
   obtain⟨r,t,u⟩:=z9.1 (show ob (opA P G T m) _=some q from h)
   cases r with
   | val v y=>
    obtain⟨A,e,j⟩:=z9.1 (show ob (T.put z v) (fun T=>z0c P ro rec all os T ms y)=some q from u)
    exact .on x p (.val t e) j
   | skip y=>
    obtain⟨A,e,j⟩:=z9.1 (show ob (T.put z z00) (fun T=>z0c P ro rec all os T ms y)=some q from u)
    exact .on x p (.skip t e) j
   | enter f B F=>
    rcases z34 (show z15 (rec (.call f B F)) _ _=some q from u) with⟨v,y,e,j⟩|⟨v,y,e,j⟩
    ·obtain⟨A,h5,C⟩:=z9.1 j
     exact .on x p (.enter t e h5) C
    ·cases j;exact .boom x p (.enter t e) rfl
   | round l B F=>
    rcases z34 (show z15 (rec (.round l B F)) _ _=some q from u) with⟨v,y,e,j⟩|⟨v,y,e,j⟩
    ·obtain⟨A,h5,C⟩:=z9.1 j
     exact .on x p (.round t e h5) C
    ·cases j;exact .boom x p (.round t e) rfl
   | boom v y=>cases u;exact .boom x p (.boom t) rfl
theorem z32 (f:z0n rec):∀(os:List Oper) (T:Tm) (ms:List Dfr) (m:Mem) (q:Out),z0c P ro rec all os T ms m=some q->m.next<=q.mem.next
 | [],T,ms,m,q,h=>by cases h;exact Nat.le_refl _
 | o::os,T,ms,m,q,h=>by
  cases z5z h with
  | on _ _ g e=>exact Nat.le_trans (g.next' f (z5a o.op)) (z32 f os _ _ _ _ e)
  | boom _ _ g e=>subst e;exact g.next f (z5a o.op)
  | dfr _ _ _ _ _ e=>exact z32 f os _ _ _ _ e
  | off _ _ e=>exact z32 f os _ _ _ _ e
inductive DStep (P:Program) (rec:Task->Option Out) (dd:Nat->Prop) (all:List Oper) (ds:List Nat) (o:Oper) (i:Nat) (s:DS):DS->Prop
 | mover {T':Tm} {m':Mem} (hw:wanted all s.T o.guard=some true) (h:OpStep P rec s.T s.m o.op o.dst T' m') (hc:cls P o.op=.mover) :
   DStep P rec dd all ds o i s ⟨T',m',s.st,s.k,ifb (z0o o.op) ({ op:=o.op,T:=s.T,v:=dstV T' o.dst,lo:=z0s P (ds.getD i 0) all 0,hi:=z07 P i all ds } :: s.ps) s.ps⟩
 | new {T':Tm} {m':Mem} (hw:wanted all s.T o.guard=some true) (h:OpStep P rec s.T s.m o.op o.dst T' m') (hc:cls P o.op=.new):DStep P rec dd all ds o i s ⟨T',m',s.st,s.k,s.ps⟩
 | anchor {T':Tm} {m':Mem} (hw:wanted all s.T o.guard=some true) (h:OpStep P rec s.T s.m o.op o.dst T' m') (hc:cls P o.op=.anchor):DStep P rec dd all ds o i s ⟨T',m',m' :: s.st,s.k+1,s.ps⟩
 | calm {T':Tm} {m':Mem} (hw:wanted all s.T o.guard=some true) (h:OpStep P rec s.T s.m o.op o.dst T' m') (hc:cls P o.op=.calm):DStep P rec dd all ds o i s ⟨T',m',s.st,s.k,s.ps⟩
 | offA {T':Tm} (hw:wanted all s.T o.guard=some false) (h:s.T.put o.dst z00=some T') (hc:cls P o.op=.anchor):DStep P rec dd all ds o i s ⟨T',s.m,s.m :: s.st,s.k+1,s.ps⟩
 | off {T':Tm} (hw:wanted all s.T o.guard=some false) (h:s.T.put o.dst z00=some T') (hc:cls P o.op ≠ .anchor):DStep P rec dd all ds o i s ⟨T',s.m,s.st,s.k,s.ps⟩
 | deadA {T':Tm} {M:Mem} (hd:dd i) (h:s.T.put o.dst .unk=some T') (hc:cls P o.op=.anchor) (hM:s.m.next<=M.next):DStep P rec dd all ds o i s ⟨T',M,M :: s.st,s.k+1,s.ps⟩
 | dead {T':Tm} (hd:dd i) (h:s.T.put o.dst .unk=some T') (hc:cls P o.op ≠ .anchor):DStep P rec dd all ds o i s ⟨T',s.m,s.st,s.k,s.ps⟩
theorem z7m {dd:Nat->Prop}{s q:DS}(h:z04 P rec all ds (o::os) i s=some q) :
  ∃ p,DStep P rec dd all ds o i s p/\z04 P rec all ds os (i+1) p=some q:=by
 obtain⟨T,m,st,k,v⟩:=s
 unfold z04 at h
 obtain⟨t,j,h⟩:=z9.1 h
 cases t with
 | true=>
  obtain⟨r,u,g,e⟩:=ze4 (show opFull P rec T m o.op o.dst _=some q from h)
  cases f:cls P o.op with
  | mover=>rw[f] at e;exact⟨_,.mover j g f,e⟩
  | new=>rw[f] at e;exact⟨_,.new j g f,e⟩
  | calm=>rw[f] at e;exact⟨_,.calm j g f,e⟩
  | anchor=>rw[f] at e;exact⟨_,.anchor j g f,e⟩
 | false=>
  obtain⟨r,g,e⟩:=z9.1 (show ob (T.put o.dst z00) _=some q from h)
  cases f:cls P o.op with
  | anchor=>rw[f] at e;exact⟨_,.offA j g f,e⟩
  | mover=>rw[f] at e;exact⟨_,.off j g (by rw[f];simp),e⟩
  | new=>rw[f] at e;exact⟨_,.off j g (by rw[f];simp),e⟩
  | calm=>rw[f] at e;exact⟨_,.off j g (by rw[f];simp),e⟩
theorem DStep.next {dd:Nat->Prop}(e:z0n rec){s f:DS}(h:DStep P rec dd all ds o i s f):s.m.next<=f.m.next:=by
 cases h with
 | mover _ h _=>exact h.next e
 | new _ h _=>exact h.next e
 | calm _ h _=>exact h.next e
 | anchor _ h _=>exact h.next e
 | offA _ _ _=>exact Nat.le_refl _
 | off _ _ _=>exact Nat.le_refl _
 | deadA _ _ _ g=>exact g
 | dead _ _ _=>exact Nat.le_refl _
theorem z7n (e:z0n rec):∀(os:List Oper) (i:Nat) (s q:DS),z04 P rec all ds os i s=some q->s.m.next<=q.m.next
 | [],i,s,q,h=>by cases h;exact Nat.le_refl _
 | o::os,i,s,q,h=>by
  obtain⟨g,h1,f⟩:=z7m (dd:=fun _=>False) h
  exact Nat.le_trans (h1.next e) (z7n e os _ _ _ f)
theorem z1e {α:Type}{m:Mem}{k:LoopState->Option Code->FuncId->Tm->List Tmp->Code->Code->Nat->Option α}{y:α}(h:atLoop m i k=some y) :
  ∃ st e fn g f a b d,m.get i=some (.loop st e fn g f a b d)/\k st e fn g f a b d=some y:=by
 unfold atLoop at h
 obtain⟨q,p,j⟩:=z9.1 h
 cases q with
 | loop st e fn g f a b d=>exact⟨st,e,fn,g,f,a,b,d,p,j⟩
 | _=>cases j
theorem z6f {s q:DS}(h:z0k P rec all ds j0 (o::os) i s=some q) :
  ∃ t,(DStep P rec (fun i=>Nat.testBit (ds.getD i 0) j0=true) all ds o i s t)/\z0k P rec all ds j0 os (i+1) t=some q:=by
 obtain⟨T,m,st,k,x⟩:=s
 unfold z0k at h
 cases j:Nat.testBit (ds.getD i 0) j0 with
 | true=>
  rw[j,zq] at h
  obtain⟨r,g,e⟩:=z9.1 h
  cases f:cls P o.op with
  | anchor=>rw[f] at e;exact⟨_,.deadA j g f (Nat.le_refl _),e⟩
  | mover=>rw[f] at e;exact⟨_,.dead j g (by rw[f];simp),e⟩
  | new=>rw[f] at e;exact⟨_,.dead j g (by rw[f];simp),e⟩
  | calm=>rw[f] at e;exact⟨_,.dead j g (by rw[f];simp),e⟩
 | false=>
  rw[j,ze] at h
  obtain⟨u,p,h⟩:=z9.1 h
  cases u with
  | true=>
   obtain⟨r,v,g,e⟩:=ze4 (show opFull P rec T m o.op o.dst _=some q from h)
   cases f:cls P o.op with
   | mover=>rw[f] at e;exact⟨_,.mover p g f,e⟩
   | new=>rw[f] at e;exact⟨_,.new p g f,e⟩
   | calm=>rw[f] at e;exact⟨_,.calm p g f,e⟩
   | anchor=>rw[f] at e;cases e
  | false=>
   obtain⟨r,g,e⟩:=z9.1 (show ob (T.put o.dst z00) _=some q from h)
   cases f:cls P o.op with
   | anchor=>rw[f] at e;cases e
   | mover=>rw[f] at e;exact⟨_,.off p g (by rw[f];simp),e⟩
   | new=>rw[f] at e;exact⟨_,.off p g (by rw[f];simp),e⟩
   | calm=>rw[f] at e;exact⟨_,.off p g (by rw[f];simp),e⟩
inductive DDie (P:Program) (rec:Task->Option Out) (all:List Oper) (ds:List Nat) (o:Oper) (os:List Oper) (i:Nat) (s:DS) (q:LV × Mem × DS):Prop
 | go {s':DS} (hs:DStep P rec (fun _=>False) all ds o i s s') (h:z0a P rec all ds os (i+1) s'=some q):DDie P rec all ds o os i s q
 | die (hw:wanted all s.T o.guard=some true) (ha:cls P o.op=.anchor) {f:FuncId} {as:List LV} {m1:Mem} (h1:op1 P o.op s.T s.m=some (.enter f as m1)) (h2:rec (.call f as m1)=some (.die q.1 q.2.1))
   {T':Tm} (h3:s.T.put o.dst .unk=some T') (h4:z0k P rec all ds i os (i+1) ⟨T',⟨q.2.1.next,s.m.tr⟩,⟨q.2.1.next,s.m.tr⟩ :: s.st,s.k+1,s.ps⟩=some q.2.2):DDie P rec all ds o os i s q
theorem z7l {s:DS}{q:LV×Mem×DS}(h:z0a P rec all ds (o::os) i s=some q):DDie P rec all ds o os i s q:=by
 obtain⟨T,m,st,k,A⟩:=s
 unfold z0a at h
 obtain⟨K,y,h⟩:=z9.1 h
 cases K with
 | true=>
  rw[zq] at h
  obtain⟨r,t,g⟩:=z9.1 h
  have go:∀ {j:Tm} {p:Mem},OpStep P rec T m o.op o.dst j p->(match cls P o.op with
    | .mover=>z0a P rec all ds os (i+1) ⟨j,p,st,k,ifb (z0o o.op) ({ op:=o.op,T:=T,v:=dstV j o.dst,lo:=z0s P (ds.getD i 0) all 0,hi:=z07 P i all ds }::A) A⟩
    | .new=>z0a P rec all ds os (i+1) ⟨j,p,st,k,A⟩
    | .calm=>z0a P rec all ds os (i+1) ⟨j,p,st,k,A⟩
    | .anchor=>z0a P rec all ds os (i+1) ⟨j,p,p::st,k+1,A⟩)=some q->DDie P rec all ds o os i ⟨T,m,st,k,A⟩ q:=by
   intro j p C z
   cases e:cls P o.op with
   | mover=>rw[e] at z;exact .go (.mover y C e) z
   | new=>rw[e] at z;exact .go (.new y C e) z
   | calm=>rw[e] at z;exact .go (.calm y C e) z
   | anchor=>rw[e] at z;exact .go (.anchor y C e) z
  cases r with
  | val v p=>
   obtain⟨j,u,x⟩:=z9.1 (show ob (T.put o.dst v) _=some q from g)
   exact go (.val t u) x
  | skip p=>
   obtain⟨j,u,x⟩:=z9.1 (show ob (T.put o.dst z00) _=some q from g)
   exact go (.skip t u) x
  | enter f D F=>
   rcases z34 (show z15 (rec (.call f D F)) _ _=some q from g) with⟨v,p,u,x⟩|⟨v,p,u,x⟩
   ·obtain⟨j,h5,B⟩:=z9.1 x
    exact go (.enter t u h5) B
   ·obtain⟨E,h5⟩:=za.1 x
    obtain⟨j,B,G⟩:=z9.1 h5
    obtain⟨d,H,J⟩:=z9.1 G
    cases J
    refine .die y ?_ t u B H
    unfold zf at E
    cases e:cls P o.op<;>rw[e] at E<;>first|rfl|cases E
  | round l D F=>
   obtain⟨v,p,u,x⟩:=z79.1 (show z1v (rec (.round l D F)) _=some q from g)
   obtain⟨j,h5,B⟩:=z9.1 x
   exact go (.round t u h5) B
  | boom v p=>cases g
 | false=>
  obtain⟨j,t,g⟩:=z9.1 (show ob (T.put o.dst z00) _=some q from h)
  cases e:cls P o.op with
  | anchor=>rw[e] at g;exact .go (.offA y t e) g
  | mover=>rw[e] at g;exact .go (.off y t (by rw[e];simp)) g
  | new=>rw[e] at g;exact .go (.off y t (by rw[e];simp)) g
  | calm=>rw[e] at g;exact .go (.off y t (by rw[e];simp)) g
theorem z6g (e:z0n rec):∀(os:List Oper) (i:Nat) (s q:DS),z0k P rec all ds j0 os i s=some q->s.m.next<=q.m.next
 | [],i,s,q,h=>by cases h;exact Nat.le_refl _
 | o::os,i,s,q,h=>by
  obtain⟨g,h1,f⟩:=z6f h
  exact Nat.le_trans (h1.next e) (z6g e os _ _ _ f)
theorem z4m (e:z0n rec):∀(os:List Oper) (i:Nat) (s:DS) (q:LV×Mem×DS),z0a P rec all ds os i s=some q->s.m.next<=q.2.1.next/\q.2.1.next<=q.2.2.m.next
 | [],i,s,q,h=>by cases h
 | o::os,i,s,q,h=>by
  cases z7l h with
  | go j h=>
   obtain⟨h1,f⟩:=z4m e os _ _ _ h
   exact⟨Nat.le_trans (j.next e) h1,f⟩
  | die t r h1 f p g=>exact⟨Nat.le_trans (z48 o.op _ h1) (e _ _ f),z6g e _ _ _ _ g⟩
structure Reord (A B:Array Oper) (σ τ:Nat->Nat):Prop where
 size:B.size=A.size
 st:∀ k,k < A.size->σ k < A.size /\ τ (σ k)=k
 ts:∀ i,i < A.size->τ i < A.size /\ σ (τ i)=i
 out:∀ i,A.size<=i->A.size<=τ i
 at_:∀ k o,B[k]?=some o->∃ oA,A[σ k]?=some oA /\ o.dst=oA.dst /\ o.op=oA.op /\ o.after.toList=oA.after.toList.map (fun e:Edge=>(⟨τ e.on,e.ground⟩:Edge)) /\ o.guard=oA.guard.map fun q=>(τ q.1,q.2)
theorem Reord.refl (A:Array Oper):Reord A A id id:=⟨rfl,fun _ h=>⟨h,rfl⟩,fun _ h=>⟨h,rfl⟩,fun _ h=>h,fun k o h=>⟨o,h,rfl,rfl,by
 show o.after.toList=List.map (fun e:Edge=>(⟨e.on,e.ground⟩:Edge)) o.after.toList
 rw[show(fun e:Edge=>(⟨e.on,e.ground⟩:Edge))=id from rfl,List.map_id],by cases o.guard<;>rfl⟩⟩
theorem zhh:∀ {l:List Nat} {i:Nat},posIn l i<l.length->l[posIn l i]?=some i
 | [],_,h=>absurd h (Nat.not_lt_zero _)
 | x::xs,i,h=>by
  unfold posIn at h ⊢
  cases e:Nat.beq x i with
  | true=>
   obtain rfl:=Nat.eq_of_beq_eq_true e
   rw[zq];rfl
  | false=>
   rw[e,ze] at h
   rw[ze,List.getElem?_cons_succ]
   exact zhh (by simpa using h)
theorem ze7:∀(is:List Nat),(∀ i∈is,i<l.length)->∀(k:Nat),(permL sig l is)[k]?=(is[k]?).bind fun i:Nat=>(l[i]?).map (renO sig)
 | [],_,k=>by cases k<;>rfl
 | i::is,h,k=>by
  have hi:=h i List.mem_cons_self
  unfold permL
  rw[List.getElem?_eq_getElem hi,z2j]
  cases k with
  | zero=>simp[List.getElem?_eq_getElem hi]
  | succ k=>
   rw[List.getElem?_cons_succ,List.getElem?_cons_succ]
   exact ze7 is (fun j e=>h j (List.mem_cons_of_mem _ e)) k
theorem z7v:∀(is:List Nat),(∀ i∈is,i<l.length)->(permL sig l is).length=is.length
 | [],_=>rfl
 | i::is,h=>by
  unfold permL
  rw[List.getElem?_eq_getElem (h i List.mem_cons_self),z2j,List.length_cons,List.length_cons,z7v is fun j e=>h j (List.mem_cons_of_mem _ e)]
theorem zfu (h:sigOk ops.size sig=true):Reord ops (permR ops sig) (fun k=>sig.getD k 0) (posIn sig):=by
 unfold sigOk at h
 simp only[Bool.and_eq_true,List.all_eq_true,List.mem_range] at h
 obtain⟨x,B,C⟩:=h
 have x:=Nat.eq_of_beq_eq_true x
 have z:∀ k,k<ops.size->∃ i,sig[k]?=some i/\i<ops.size/\posIn sig i=k:=fun k p=>by
  have:=B k p
  cases u:sig[k]? with
  | none=>rw[u] at this;cases this
  | some i=>
   rw[u,z2j] at this
   simp only[Bool.and_eq_true,Nat.ble_eq] at this
   exact⟨i,rfl,this.1,Nat.eq_of_beq_eq_true this.2⟩
 have A:∀ i,i<ops.size->sig[posIn sig i]?=some i:=fun i r=>by
  have:=C i r
  cases u:sig[posIn sig i]? with
  | none=>rw[u] at this;cases this
  | some j=>
   rw[u,z2j] at this
   rw[Nat.eq_of_beq_eq_true this]
 have g:∀ i∈sig,i<ops.toList.length:=fun i r=>by
  obtain⟨k,p,e⟩:=List.getElem_of_mem r
  obtain⟨E,f,t,_⟩:=z k (by omega)
  rw[List.getElem?_eq_getElem p,e] at f
  cases f
  simpa using t
 refine⟨?_,fun k p=>?_,fun i r=>?_,fun i r=>?_,fun k o p=>?_⟩
 ·show(permL sig ops.toList sig).length=_
  rw[z7v _ g,x]
 ·obtain⟨i,f,t,v⟩:=z k p
  simp only[List.getD_eq_getElem?_getD,f,Option.getD_some]
  exact⟨t,v⟩
 ·have f:=A i r
  have D:posIn sig i<sig.length:=by
   rcases Nat.lt_or_ge (posIn sig i) sig.length with h|h
   ·exact h
   ·rw[List.getElem?_eq_none h] at f;cases f
  simp only[List.getD_eq_getElem?_getD,f,Option.getD_some]
  exact⟨by omega,trivial⟩
 ·rcases Nat.lt_or_ge (posIn sig i) ops.size with h|h
  ·have f:=zhh (l:=sig) (i:=i) (by omega)
   have:=g i (List.mem_of_getElem? f)
   simp at this;omega
  ·exact h
 ·have p:(permL sig ops.toList sig)[k]?=some o:=by
   have:(permR ops sig)[k]?=(permL sig ops.toList sig)[k]?:=by simp[permR]
   rw[<-this];exact p
  rw[ze7 _ g] at p
  obtain⟨i,f,t⟩:=Option.bind_eq_some_iff.1 p
  obtain⟨y,v,rfl⟩:=Option.map_eq_some_iff.1 t
  refine⟨y,by simpa [List.getD_eq_getElem?_getD,f] using v,rfl,rfl,rfl,?_⟩
  show renG sig y.guard=_
  cases y.guard with
  | none=>rfl
  | some q=>rfl
theorem zgh {T:Tm}{ms:List Dfr}{m:Mem}{o:Out}(h:cDraw P rec ops T ms m=some o):∃ B j p,Reord ops B j p/\regionOk P B=true/\cDrawG P rec B T ms m=some o:=by
 unfold cDraw at h
 cases f:regionOk P ops with
 | true=>rw[f] at h;exact⟨ops,_,_,.refl ops,f,h⟩
 | false=>
  rw[f,ze] at h
  obtain⟨e,g⟩:=za.1 h
  simp only[Bool.and_eq_true] at e
  exact⟨_,_,_,zfu e.1,e.2,g⟩
theorem zba {α:Type}{s:LoopState}{k:Option α}{y:α}(h:notBusy s k=some y):s≠.busy/\k=some y:=by
 cases s with
 | busy=>cases h
 | _=>exact⟨by simp,h⟩
theorem z87 {α:Type}{s:LoopState}{k:Option α}{y:α}(h:ready? s k=some y):s=.ready/\k=some y:=by
 cases s with
 | ready=>exact⟨rfl,h⟩
 | _=>cases h
theorem zdt {α:Type}{e:Ex}{k:Option α}{y:α}(h:isNorm e k=some y):e=.norm/\k=some y:=by
 cases e with
 | norm=>exact⟨rfl,h⟩
 | _=>cases h
theorem zjk {α:Type}{v:LV}{k:FuncId->List LV->List LV->Option α}{y:α}(h:asFn v k=some y):∃ g a b,v=.func (.func g) a b/\k g a b=some y:=by
 unfold asFn at h
 split at h
 ·exact⟨_,_,_,rfl,h⟩
 ·cases h
end
section
variable {P:Program} {rec:Task->Option Out}
theorem z7b (p:z0n rec){fn:FuncId}{l:Nat}{T:Tm}{ms:List Dfr}{m:Mem}{o:Out}(h:rfEnd rec fn ro l T ms m=some o):m.next<=o.mem.next:=by
 obtain⟨st,e,g,r,q,t,u,v,x,j⟩:=z1e h
 obtain⟨_,f⟩:=zba j
 cases e with
 | none=>cases f;exact Nat.le_of_eq (Mem.next_upd _ _ _).symm
 | some c=>
  have:=p _ _ (show rec (.code fn ro c T ms _)=some o from f)
  exact Nat.le_trans (Nat.le_of_eq (Mem.next_upd _ _ _).symm) this
theorem z4c (p:z0n rec){fn:FuncId}{f:Operand}{u:Array Tmp}{r t:Code}{d:Nat}{T:Tm}{ms:List Dfr}{m:Mem}{o:Out}(h:rfCall rec fn ro f u r t d T ms m=some o):m.next<=o.mem.next:=by
 unfold rfCall at h
 rw[Mem.new_eq] at h
 obtain⟨C,_,z⟩:=z9.1 h
 obtain⟨g,x,y,_,A⟩:=zjk z
 have q:m.next<=(m.push (.loop .ready none fn T u.toList r t d)).next:=Nat.le_succ _
 rcases z34 A with⟨v,B,e,j⟩|⟨v,B,e,j⟩
 ·exact Nat.le_trans q (Nat.le_trans (p _ _ e) (z7b p j))
 ·cases j
  exact Nat.le_trans q (p _ _ e)
theorem zj5 {c v:Code}{d e:Option Tmp}(h:recHead c=some (d,e,v)):∃ id ops t,c=.seq (.region id ops false) v/\d=some t /\ ∃ f g r p j u q,ops=#[⟨some t,.call ⟨.builtin .recover,#[],f⟩,g,r,p,none⟩,⟨e,.assign (.tmp t),j,u,q,none⟩]:=by
 unfold recHead at h
 split at h
 ·rename_i id z f g r p B t j u q y
  split at h
  ·rename_i A
   split at h
   ·rename_i x
    cases h
    obtain rfl:=Nat.eq_of_beq_eq_true x
    exact⟨id,_,_,rfl,rfl,f,g,r,p,j,u,q,rfl⟩
   ·cases h
  ·cases h
 ·cases h
theorem z6d {f:FuncId}{args:List LV}{pv:LV}{m v:Mem}(h:dfrRun P rec f args pv m=some v):∃ fn T c d e q j p ex T',fnOf P f=some fn/\Tm.ofList fn.ntmps args=some T/\fn.body=some c/\recHead c=some (d,e,q)/\T.put d pv=some j/\j.put e pv=some p/\fn.results=#[] /\
  (ex=.norm∨ex=.ret)/\rec (.code f none q p [] m)=some (.code ex T' [] v):=by
 obtain⟨fn,y,h⟩:=z9.1 h
 obtain⟨T,z,h⟩:=z9.1 h
 obtain⟨c,A,h⟩:=z9.1 h
 obtain⟨⟨d,e,q⟩,B,h⟩:=z9.1 h
 obtain⟨j,h5,h⟩:=z9.1 (show ob (T.put d pv) _=some v from h)
 obtain⟨p,C,h⟩:=z9.1 h
 obtain⟨D,h⟩:=za.1 h
 rcases z22 h with⟨ex,T',E,F,x,t⟩|⟨_,_,_,_,_,t⟩
 ·obtain⟨r,g⟩:=za.1 t
  have u:E=[]:=by simpa using r
  subst u
  refine⟨fn,T,c,d,e,q,j,p,ex,T',y,z,A,B,h5,C,by simpa using D,?_,?_⟩
  ·cases ex with
   | norm=>exact .inl rfl
   | ret=>exact .inr rfl
   | exit id=>cases g
  ·cases ex with
   | norm=>cases g;exact x
   | ret=>cases g;exact x
   | exit id=>cases g
 ·cases t
theorem z3w (p:z0n rec){f:FuncId}{args:List LV}{pv:LV}{m g:Mem}(h:dfrRun P rec f args pv m=some g):m.next<=g.next:=by
 obtain⟨fn,T,c,d,e,u,r,t,ex,q,_,_,_,_,_,_,_,_,j⟩:=z6d h
 exact p _ _ j
theorem z1j (g:z0n rec){fn:Func}{T:Tm}:∀(ds:List Dfr) (m:Mem) (o:Out),finRet P rec fn T ds m=some o->m.next<=o.mem.next
 | [],m,o,h=>by
  obtain⟨vs,_,q⟩:=z9.1 (show ob (z0p P T m fn.results.toList) _=some o from h)
  cases q
  exact Nat.le_refl _
 | .mark d::ds,m,o,h=>by
  obtain⟨b,j,e⟩:=z9.1 (show atDefr m d _=some o from h)
  cases b with
  | defr=>
   have:=z1j g ds _ _ (show finRet P rec fn T ds (m.upd d none)=some o from e)
   rwa [Mem.next_upd] at this
  | _=>cases e
 | .call f p::ds,m,o,h=>by
  obtain⟨r,j,e⟩:=z9.1 (show ob (dfrRun P rec f p .nilIface m) _=some o from h)
  exact Nat.le_trans (z3w g j) (z1j g ds _ _ e)
theorem z2x (g:z0n rec){fn:Func}{T:Tm}{v:LV}:∀(ds:List Dfr) (m:Mem) (o:Out),finDie P rec fn T v ds m=some o->m.next<=o.mem.next
 | [],m,o,h=>by cases h;exact Nat.le_refl _
 | .mark d::ds,m,o,h=>by
  obtain⟨b,h1,e⟩:=z9.1 (show atDefr m d _=some o from h)
  cases b with
  | defr=>
   have:=z2x g ds _ _ (show finDie P rec fn T v ds (m.upd d none)=some o from e)
   rwa [Mem.next_upd] at this
  | _=>cases e
 | .call f j::ds,m,o,h=>by
  obtain⟨p,h1,e⟩:=z9.1 (show ob (dfrRun P rec f j v m) _=some o from h)
  exact Nat.le_trans (z3w g h1) (z1j g ds _ _ e)
theorem zbk (p:z0n rec):z0n (stepT P rec):=by
 intro t o h
 cases t with
 | code fn ro c T D m=>
  have h:stCode P rec fn ro c T D m=some o:=h
  cases c with
  | skip=>cases h;exact Nat.le_refl _
  | label l=>cases h;exact Nat.le_refl _
  | ret=>cases h;exact Nat.le_refl _
  | exit id=>cases h;exact Nat.le_refl _
  | seq a b=>
   rcases z2s (show z11 _ _=some o from h) with⟨e,y,r,u,q,j⟩|⟨v,y,r,u,q,rfl⟩
   ·have g:=p _ _ q
    cases e with
    | norm=>exact Nat.le_trans g (p _ _ (show rec (.code fn ro b y r u)=some o from j))
    | ret=>cases j;exact g
    | exit id=>cases j;exact g
   ·have g:=p _ _ q;exact g
  | cond x a b=>
   obtain⟨v,_,q⟩:=z9.1 (show ob (ev T x) _=some o from h)
   obtain⟨c,_,j⟩:=z1w.1 q
   cases c with
   | true=>exact p (.code fn ro a T D m) o j
   | false=>exact p (.code fn ro b T D m) o j
  | block id b=>
   rcases z2s (show z11 _ _=some o from h) with⟨e,y,r,u,q,j⟩|⟨v,y,r,u,q,rfl⟩
   ·have g:=p _ _ q
    cases e with
    | norm=>cases j;exact g
    | ret=>cases j;exact g
    | exit O=>
     have j:ifb (Nat.beq O id) _ _=some o:=j
     cases hb:Nat.beq O id with
     | true=>rw[hb] at j;cases j;exact g
     | false=>rw[hb] at j;cases j;exact g
   ·have g:=p _ _ q;exact g
  | scope b=>exact p (.code fn ro b T D m) o h
  | loop b=>
   rcases z2s (show z11 _ _=some o from h) with⟨e,y,r,u,q,j⟩|⟨v,y,r,u,q,rfl⟩
   ·have g:=p _ _ q
    cases e with
    | norm=>exact Nat.le_trans g (p _ _ (show rec (.code fn ro (.loop b) y r u)=some o from j))
    | ret=>cases j;exact g
    | exit id=>cases j;exact g
   ·have g:=p _ _ q;exact g
  | region id ops dr=>
   cases dr with
   | false=>exact z32 p _ _ _ _ _ (show z0c P ro rec ops.toList ops.toList T D m=some o from h)
   | true=>
    obtain⟨B,_,_,_,_,H⟩:=zgh (show cDraw P rec ops T D m=some o from h)
    cases hd:z04 P rec B.toList (deps B) B.toList 0 ⟨T,m,[m],0,[]⟩ with
    | some d=>
     unfold cDrawG at H
     rw[hd] at H
     obtain⟨y,u,st,k,G⟩:=d
     obtain⟨_,F⟩:=za.1 (show guard' (z0q P st k G) _=some o from H)
     cases F
     exact z7n p _ _ _ _ hd
    | none=>
     unfold cDrawG at H
     rw[hd] at H
     obtain⟨⟨v,m2,d⟩,q,j⟩:=z9.1 (show ob (z0a P rec B.toList (deps B) B.toList 0 ⟨T,m,[m],0,[]⟩) _=some o from H)
     obtain⟨y,u,st,k,G⟩:=d
     obtain⟨_,F⟩:=za.1 (show guard' (z0q P st k G) _=some o from j)
     cases F
     obtain⟨k1,k2⟩:=z4m p _ _ _ _ q
     exact Nat.le_trans k1 k2
  | rangeFunc f G X Y=>
   have h:cRangeFunc rec fn ro f G X Y T D m=some o:=h
   cases ro with
   | none=>
    have h:m.new .defr (fun d m=>rfCall rec fn none f G X Y d T (.mark d::D) m)=some o:=h
    rw[Mem.new_eq] at h
    exact Nat.le_trans (Nat.le_succ _) (z4c p h)
   | some l=>
    obtain⟨st,Q,a7,b3,a9,a',b',d',_,q⟩:=z1e (show atLoop m l _=some o from h)
    exact z4c p q
  | _=>cases h
 | call f z m=>
  obtain⟨fn,_,q⟩:=z9.1 (show stCall P rec f z m=some o from h)
  obtain⟨T,_,j⟩:=z9.1 q
  obtain⟨c,_,F⟩:=z9.1 j
  rcases z22 F with⟨e,y,r,u,N,h5⟩|⟨v,y,r,u,N,h5⟩
  ·have g:=p _ _ N
   cases e with
   | norm=>exact Nat.le_trans g (z1j p _ _ _ h5)
   | ret=>exact Nat.le_trans g (z1j p _ _ _ h5)
   | exit id=>cases h5
  ·have g:=p _ _ N;exact Nat.le_trans g (z2x p _ _ _ h5)
 | round l z m=>
  obtain⟨st,Q,fn,tm,G,X,Y,d,_,q⟩:=z1e (show stRound P rec l z m=some o from h)
  obtain⟨_,j⟩:=z87 q
  obtain⟨T,_,F⟩:=z9.1 j
  rcases z22 F with⟨e,y,r,u,N,h5⟩|⟨_,_,_,_,_,h5⟩
  rotate_left
  ·cases h5
  obtain⟨_,h6⟩:=zdt h5
  obtain⟨b1,C,M,S,R,K,L,d2,_,h7⟩:=z1e h6
  obtain⟨_,h8⟩:=z87 h7
  have g:=p _ _ N
  rcases z22 h8 with⟨e3,T3,a0,J,Z,E⟩|⟨v3,T3,a0,J,Z,E⟩
  ·obtain⟨b2,a2,a8,b4,b0,a5,a6,d4,_,A⟩:=z1e E
   have V:u.next<=J.next:=by
    have:(u.upd l (some (.loop .busy C M S R K L d2))).next<=J.next:=p _ _ Z
    rw[Mem.next_upd] at this;exact this
   have a4:o.mem.next=J.next:=by
    cases e3 with
    | norm=>cases A;exact Mem.next_upd _ _ _
    | ret=>cases A;exact Mem.next_upd _ _ _
    | exit id=>cases A;exact Mem.next_upd _ _ _
   rw[a4]
   exact Nat.le_trans g V
  ·obtain⟨_,A⟩:=za.1 E
   cases A
   have V:u.next<=J.next:=by
    have:(u.upd l (some (.loop .busy C M S R K L d2))).next<=J.next:=p _ _ Z
    rw[Mem.next_upd] at this;exact this
   exact Nat.le_trans g V
end
end PvL
end
section
namespace PvL
open Go
variable {a b c n i:Nat} {w:World} {ops:Array Oper} {o:Oper}
section
variable {P:Program}
theorem Same.trans {ρ e f:Rho}(h:Same ρ e a b)(g:Same e f b c)(j:a<=b)(p:b<=c):Same ρ f a c :=
 ⟨h.1.trans g.1,fun i q=>by rw[g.2 i (by omega),h.2 i (by omega)]⟩
theorem Fresh.left {ρ:Rho}(h:Fresh ρ a c)(f:b<=c):Fresh ρ a b:=fun i e g=>h i e (by omega)
theorem Fresh.right {ρ e:Rho}(h:Fresh ρ a c)(j:Same ρ e a b)(g:a<=b):Fresh e b c:=fun i p f=>by
 rw[j.2 i (by omega)];exact h i (by omega) f
def DR1 (ρ:Rho):Dfr->Deferred->Prop
 | .mark d,x=>∃ b s c,ρ d=some (b,s,c)/\x={ target:=.collected b,args:=#[] }
 | .call g e,x=>∃ args cap:Array Value,x={ target:=.fn (.func g) cap,args }/\VRs ρ e (args++cap).toList
theorem DR1.mono {ρ e:Rho}(h:RLe ρ e):∀ {d:Dfr} {x:Deferred},DR1 ρ d x->DR1 e d x
 | .mark _,_,⟨b,s,c,h1,f⟩=>⟨b,s,c,h _ _ h1,f⟩
 | .call _ _,_,⟨a,c,h1,f⟩=>⟨a,c,h1,f.mono h⟩
def DR (ρ:Rho):List Dfr->List Deferred->Prop
 | [],[]=>True
 | d::ds,x::xs=>DR1 ρ d x/\DR ρ ds xs
 | _,_=>False
theorem DR.mono {ρ e:Rho}(h:RLe ρ e):∀ {ds:List Dfr} {xs:List Deferred},DR ρ ds xs->DR e ds xs
 | [],[],_=>trivial
 | _::_,_::_,⟨h1,f⟩=>⟨h1.mono h,DR.mono h f⟩
 | [],_::_,h=>h.elim
 | _::_,[],h=>h.elim
def RO (ρ:Rho):Option Nat->Option Nat->Prop
 | none,none=>True
 | some l,some b=>∃ s c,ρ l=some (b,s,c)
 | _,_=>False
theorem RO.mono {ρ e:Rho}(h:RLe ρ e){ro f:Option Nat}(g:RO ρ ro f):RO e ro f:=by
 cases ro<;>cases f<;>first|exact g|(obtain⟨s,c,j⟩:=g;exact⟨s,c,h _ _ j⟩)
def Arr (P:Program)(m:Machine)(b:Frame)(k:List Item)(cs:List Frame):Ex->Act->World->Prop
 | .norm,a,w=>Steps P m (lone (b.atR a k) cs w)
 | .ret,a,w=>∃ e,Steps P m (lone (b.atR a (.code .ret::e)) cs w)
 | .exit id,a,w=>∃ e,exitTo id e=exitTo id k/\Steps P m (lone (b.atR a (.code (.exit id)::e)) cs w)
theorem Arr.of_steps {m p:Machine}{b:Frame}{k:List Item}{cs:List Frame}{e:Ex}{a:Act}(h:Steps P m p)(f:Arr P p b k cs e a w):Arr P m b k cs e a w:=by
 cases e with
 | norm=>exact h.trans f
 | ret=>obtain⟨j,g⟩:=f;exact⟨j,h.trans g⟩
 | exit id=>obtain⟨j,q,g⟩:=f;exact⟨j,q,h.trans g⟩
def Frame.boom (fr:Frame)(v:Value):Frame:={ fr with mode:=.panicking [{ v,recovered:=false }] }
def CodeOut (P:Program)(Pt:Prot)(ρ:Rho)(n:Nat)(M:Machine)(b:Frame)(k:List Item)(cs:List Frame):Out->Prop
 | .code e T' ms' g=>∃ f a' w',Same ρ f n g.next/\TR f T' a'.tmps/\DR f ms' a'.defers/\Rel Pt f g w'/\Arr P M b k cs e a' w'
 | .boom v T' ms' g=>∃ f a' w' v' h,Same ρ f n g.next/\TR f T' a'.tmps/\DR f ms' a'.defers/\Rel Pt f g w'/\VR f v v'/\Steps P M (lone (Frame.boom (b.atR a' h) v') cs w')
 | _=>True
theorem CodeOut.of_steps {Pt:Prot}{ρ:Rho}{M u:Machine}{b:Frame}{k:List Item}{cs:List Frame}{o:Out}(h:Steps P M u)(x:CodeOut P Pt ρ n u b k cs o):CodeOut P Pt ρ n M b k cs o:=by
 cases o with
 | code e y t B=>obtain⟨f,g,w',j,p,q,r,h5⟩:=x;exact⟨f,g,w',j,p,q,r,h5.of_steps h⟩
 | boom v y t B=>obtain⟨f,g,w',C,A,j,p,q,r,h5,z⟩:=x;exact⟨f,g,w',C,A,j,p,q,r,h5,h.trans z⟩
 | call _ _=>trivial
 | die _ _=>trivial
theorem CodeOut.after {Pt:Prot}{ρ g:Rho}{j:Nat}{M u:Machine}{b:Frame}{k:List Item}{cs:List Frame}{o:Out}(h:Steps P M u)(z:Same ρ g n j)(h1:n<=j)(y:j<=o.mem.next)(x:CodeOut P Pt g j u b k cs o):CodeOut P Pt ρ n M b k cs o:=by
 refine CodeOut.of_steps h ?_
 cases o with
 | code e A t C=>obtain⟨f,p,w',q,r⟩:=x;exact⟨f,p,w',z.trans q h1 y,r⟩
 | boom v A t C=>obtain⟨f,p,w',D,B,q,r⟩:=x;exact⟨f,p,w',D,B,z.trans q h1 y,r⟩
 | call _ _=>trivial
 | die _ _=>trivial
def Sim (P:Program):Task->Out->Prop
 | .code fn ro c T ms m,o=>∀(Pt:Prot) (ρ:Rho) (b:Frame) (k:List Item) (cs:List Frame) (w:World) (a:Act),
   b.fn=fn->RO ρ ro b.roundOf->TR ρ T a.tmps->DR ρ ms a.defers->Rel Pt ρ m w->Fresh ρ m.next o.mem.next->CodeOut P Pt ρ m.next (lone (b.atR a (.code c::k)) cs w) b k cs o
 | .call f as m,.call v h=>∀(Pt:Prot) (ρ:Rho) (w:World) (g:Array Value) (cs:List Frame),VRs ρ as g.toList->GlobOk ρ->Rel Pt ρ m w->Fresh ρ m.next h.next ->
   ∃ e v' w',Same ρ e m.next h.next/\VR e v v'/\Rel Pt e h w' /\ ∃ fr,Steps P (lone (Frame.enter P f g .normal) cs w) (lone fr cs w')/\fr.fn=f/\fr.leaving P w' (.returned v')
 | .call f as m,.die v h=>∀(Pt:Prot) (ρ:Rho) (w:World) (g:Array Value) (cs:List Frame),VRs ρ as g.toList->GlobOk ρ->Rel Pt ρ m w->Fresh ρ m.next h.next ->
   ∃ e v' w',Same ρ e m.next h.next/\VR e v v'/\Rel Pt e h w' /\ ∃ fr,Steps P (lone (Frame.enter P f g .normal) cs w) (lone fr cs w')/\fr.fn=f/\fr.leaving P w' (.panicked [{ v:=v',recovered:=false }])
 | .round l as m,.call v h=>∀(Pt:Prot) (ρ:Rho) (w:World) (g:Array Value) (j s c:Nat) (p:Frame) (cs:List Frame),ρ l=some (j,s,c)->VRs ρ as g.toList->GlobOk ρ->Rel Pt ρ m w->Fresh ρ m.next h.next ->
   ∃ e v' w',Same ρ e m.next h.next/\VR e v v'/\Rel Pt e h w' /\ ∃ f tmps assign body,(Instr.yield j g).run P w=.ok (.round j f tmps assign body) w /\
    Steps P (lone (Frame.round j f tmps assign body .normal) (p::cs) w) (lone (p.finish v') cs w')
 | .round l as m,.die v h=>∀(Pt:Prot) (ρ:Rho) (w:World) (g:Array Value) (j s c:Nat) (p:Frame) (cs:List Frame),ρ l=some (j,s,c)->VRs ρ as g.toList->GlobOk ρ->Rel Pt ρ m w->Fresh ρ m.next h.next ->
   ∃ e v' w',Same ρ e m.next h.next/\VR e v v'/\Rel Pt e h w' /\ ∃ f tmps assign body,(Instr.yield j g).run P w=.ok (.round j f tmps assign body) w /\
    Steps P (lone (Frame.round j f tmps assign body .normal) (p::cs) w) (lone (p.raise [{ v:=v',recovered:=false }]) cs w')
 | _,_=>True
theorem z0y {ρ:Rho}{T:Tm}{a:Act}{b:Bool}(h:wanted ops.toList T o.guard=some b)(A:TR ρ T a.tmps):Region.wanted o (yielded ops a.tmps)=b:=by
 unfold Region.wanted
 cases z:o.guard with
 | none=>rw[z] at h;cases h;rfl
 | some p=>
  obtain⟨j,f⟩:=p
  rw[z] at h
  have h:oe ((ops.toList[j]?).bind (·.dst)) (some false) (fun d=>ob (evT T d) (isBoolAs f))=some b:=h
  simp only[Array.getElem?_toList] at h
  have t:∀ x,((ops[j]?).bind (·.dst)).bind (a.tmps[·]?)=x->yielded ops a.tmps j=(match x with|some (.bool b)=>some b|_=>none):=by
   intro x B;unfold yielded;rw[B];rfl
  show(yielded ops a.tmps j==some f)=b
  cases v:(ops[j]?).bind (·.dst) with
  | none=>
   rw[v] at h;cases h
   rw[t none (by rw[v];rfl)]
   rfl
  | some d=>
   rw[v] at h t
   have h:ob (evT T d) (isBoolAs f)=some b:=h
   rw[z39] at h
   have h:isBoolAs f (T.get d)=some b:=h
   have r:=A.2 d
   unfold isBoolAs at h
   split at h
   ·rename_i u e
    cases h
    rw[e] at r
    have:=r.bool_inv
    rw[Array.getD_eq_getD_getElem?] at this
    have g:a.tmps[d]?=some (.bool u):=by
     cases q:a.tmps[d]? with
     | none=>rw[q] at this;cases this
     | some x=>rw[q] at this;simp at this;rw[this]
    rw[t _ (show(some d).bind (a.tmps[·]?)=some (.bool u) from g),zcy]
    cases u<;>cases f<;>rfl
   ·rename_i e
    cases h
    rw[e] at r
    have g:a.tmps.getD d undef=.tuple #[]:=by
     generalize a.tmps.getD d undef=x at r
     cases r with
     | tup h=>rename_i y;obtain⟨l⟩:=y;have h:VRs ρ [] l:=h;cases h;rfl
    rw[Array.getD_eq_getD_getElem?] at g
    cases q:a.tmps[d]? with
    | none=>rw[t none q];rfl
    | some x=>rw[q] at g;simp at g;subst g;rw[t (some (.tuple #[])) q];rfl
   ·cases h
variable {rec:Task->Option Out}
def RecFn (P:Program)(rec:Task->Option Out):Prop:=∀ f e g o,rec (.call f e g)=some o->∃ fn,fnOf P f=some fn
def RecSim (P:Program)(rec:Task->Option Out):Prop:=∀ t o,rec t=some o->Sim P t o
theorem z49 (Z:z0n rec)(A:RecSim P rec){X:Option R1}{T T':Tm}{m J:Mem}(L:ops[i]?=some o)(hs:z1c rec X T o.dst T' J)(D:RecFn P rec){Pt:Prot}{ρ:Rho}{b:Frame}{a:Act}(hX:Mono m.next X)(j:∀ r,X=some r->Fresh ρ m.next r.mem.next->OpOk P Pt ρ m w a o r)(z:∀ c,o.op≠.defer c)(rest:List Nat)(k:List Item)(cs:List Frame)(Q:Region.wanted o (yielded ops a.tmps)=true)(H:TR ρ T a.tmps)(B:Rel Pt ρ m w)(hf:Fresh ρ m.next J.next) :
  ∃ q v' w',Same ρ q m.next J.next/\TR q T' (a.put o.dst v').tmps/\Rel Pt q J w' /\
   Steps P (lone (b.atR a (.inRegion ops (i::rest)::k)) cs w) (lone (b.atR (a.put o.dst v') (.inRegion ops rest::k)) cs w'):=by
 have t:∀ v,(b.atR a (.inRegion ops (i::rest)::k)).finish v=b.atR (a.put o.dst v) (.inRegion ops rest::k):=by
  intro v;rw[Frame.finish_atR,L];rfl
 cases hs with
 | val h F=>
  have j:=j _ h hf
  obtain⟨q,v',w',x,e,O,g⟩:=j
  refine⟨q,v',w',e,(H.mono e.1).put F O,g,.one (step_lone_go ?_)⟩
  rw[stepGR_op L Q,Oper.semAt_eq _ _ _ z,<- t]
  simp[stepG.apply,x]
 | skip h F=>
  have j:=j _ h hf
  obtain⟨w',x,g,hn⟩:=j
  refine⟨ρ,undef,w',by rw[hn];exact Same.refl _ _ _,H.put F (.tup .nil),g,.one (step_lone_go ?_)⟩
  rw[stepGR_op L Q,Oper.semAt_eq _ _ _ z,<- t]
  simp[stepG.apply,x]
 | enter h x F=>
  rename_i f as R v
  have a0:m.next<=R.next:=hX _ h
  have E:R.next<=J.next:=Z _ _ x
  have M:=j _ h (hf.left E)
  obtain⟨rfl,N⟩:=M
  obtain⟨fn,S⟩:=D _ _ _ _ x
  obtain⟨y,u,C⟩:=N fn S
  obtain⟨q,v',w',e,O,g,G⟩:=A _ _ x Pt ρ w y (b.atR a (.inRegion ops (i::rest)::k)::cs) C H.3 B hf
  refine⟨q,v',w',e,(H.mono e.1).put F O,g,?_⟩
  obtain⟨fr,h1,h2,h3⟩:=G
  have p:step P (lone (b.atR a (.inRegion ops (i::rest)::k)) cs w)=.next (lone (Frame.enter P f y .normal) (b.atR a (.inRegion ops (i::rest)::k)::cs) w) :=
   step_lone_go (by rw[stepGR_op L Q,Oper.semAt_eq _ _ _ z];simp[stepG.apply,u,Frame.atR])
  refine .head p (h1.trans (.one ?_))
  rw[<-t];exact step_leave_returned h3
 | round h x F=>
  rename_i l as R v
  have E:R.next<=J.next:=Z _ _ x
  have j:=j _ h (hf.left E)
  obtain⟨rfl,Y,s,c,y,V,C,u⟩:=j
  obtain⟨q,v',w',e,O,g,f,tmps,assign,K,hy,G⟩:=A _ _ x Pt ρ w y Y s c (b.atR a (.inRegion ops (i::rest)::k)) cs V C H.3 B hf
  refine⟨q,v',w',e,(H.mono e.1).put F O,g,?_⟩
  rw[hy] at u
  have p:step P (lone (b.atR a (.inRegion ops (i::rest)::k)) cs w)=.next (lone (Frame.round Y f tmps assign K .normal) (b.atR a (.inRegion ops (i::rest)::k)::cs) w) :=
   step_lone_go (by rw[stepGR_op L Q,Oper.semAt_eq _ _ _ z];simp[stepG.apply,u,Frame.atR])
  refine .head p ?_
  rw[<-t];exact G
theorem z5b (x:z0n rec)(q:RecSim P rec){T T':Tm}{m t:Mem}(y:ops[i]?=some o)(v:OpStep P rec T m o.op o.dst T' t)(j:RecFn P rec){Pt:Prot}{ρ:Rho}{b:Frame}{a:Act}(rest:List Nat)(k:List Item)(cs:List Frame)(A:Region.wanted o (yielded ops a.tmps)=true)(u:TR ρ T a.tmps)(g:Rel Pt ρ m w)(hf:Fresh ρ m.next t.next) :
  ∃ p v' w',Same ρ p m.next t.next/\TR p T' (a.put o.dst v').tmps/\Rel Pt p t w' /\
   Steps P (lone (b.atR a (.inRegion ops (i::rest)::k)) cs w) (lone (b.atR (a.put o.dst v') (.inRegion ops rest::k)) cs w'):=by
 refine z49 x q y v j (z48 o.op) (fun r z hf=>z9s z u g hf) (fun c e=>?_) rest k cs A u g hf
 have f:op1 P o.op T m=none:=by rw[e];rfl
 cases v with
 | val h _=>rw[f] at h;cases h
 | skip h _=>rw[f] at h;cases h
 | enter h _ _=>rw[f] at h;cases h
 | round h _ _=>rw[f] at h;cases h
theorem zbc (V:z0n rec)(z:RecSim P rec){X:Option R1}{T:Tm}{m E:Mem}{v:LV}(M:ops[i]?=some o)(hs:OpBoom rec X v E)(B:RecFn P rec){Pt:Prot}{ρ:Rho}{b:Frame}{a:Act}(t:∀ r,X=some r->Fresh ρ m.next r.mem.next->OpOk P Pt ρ m w a o r)(D:∀ c,o.op≠.defer c)(rest:List Nat)(k:List Item)(cs:List Frame)(N:Region.wanted o (yielded ops a.tmps)=true)(S:TR ρ T a.tmps)(u:Rel Pt ρ m w)(hf:Fresh ρ m.next E.next) :
  ∃ p v' w',Same ρ p m.next E.next/\VR p v v'/\Rel Pt p E w' /\
   Steps P (lone (b.atR a (.inRegion ops (i::rest)::k)) cs w) (lone (Frame.boom (b.atR a (.inRegion ops (i::rest)::k)) v') cs w'):=by
 cases hs with
 | boom h=>
  obtain⟨rfl,v',y,K⟩:=t _ h hf
  refine⟨ρ,v',w,Same.refl _ _ _,K,u,.one (step_lone_go ?_)⟩
  rw[stepGR_op M N,Oper.semAt_eq _ _ _ D]
  simp[stepG.apply,y,Frame.raise_atR,Frame.boom]
 | enter h y=>
  rename_i f Y Q
  have C:Q.next<=E.next:=V _ _ y
  have G:=t _ h (hf.left C)
  obtain⟨rfl,H⟩:=G
  obtain⟨fn,L⟩:=B _ _ _ _ y
  obtain⟨x,q,A⟩:=H fn L
  obtain⟨p,v',w',j,K,g,fr,Z,h2,h3⟩:=z _ _ y Pt ρ w x (b.atR a (.inRegion ops (i::rest)::k)::cs) A S.3 u hf
  refine⟨p,v',w',j,K,g,?_⟩
  have e:step P (lone (b.atR a (.inRegion ops (i::rest)::k)) cs w)=.next (lone (Frame.enter P f x .normal) (b.atR a (.inRegion ops (i::rest)::k)::cs) w) :=
   step_lone_go (by rw[stepGR_op M N,Oper.semAt_eq _ _ _ D];simp[stepG.apply,q,Frame.atR])
  refine .head e (Z.trans (.one ?_))
  have:=step_leave_panicked (c:=b.atR a (.inRegion ops (i::rest)::k)) (cs:=cs) h3
  rw[Frame.raise_atR] at this
  exact this
 | round h y=>
  rename_i l Y Q
  have C:Q.next<=E.next:=V _ _ y
  have t:=t _ h (hf.left C)
  obtain⟨rfl,R,s,c,x,O,A,q⟩:=t
  obtain⟨p,v',w',j,K,g,f,tmps,assign,F,hy,J⟩:=z _ _ y Pt ρ w x R s c (b.atR a (.inRegion ops (i::rest)::k)) cs O A S.3 u hf
  refine⟨p,v',w',j,K,g,?_⟩
  rw[hy] at q
  have e:step P (lone (b.atR a (.inRegion ops (i::rest)::k)) cs w)=.next (lone (Frame.round R f tmps assign F .normal) (b.atR a (.inRegion ops (i::rest)::k)::cs) w) :=
   step_lone_go (by rw[stepGR_op M N,Oper.semAt_eq _ _ _ D];simp[stepG.apply,q,Frame.atR])
  rw[Frame.raise_atR] at J
  exact .head e J
end
end PvL
end
section
namespace PvL
open Go
variable {w:World} {tmps:Array Value}
section
variable {P:Program} {rec:Task->Option Out} {ro:Option Nat}
theorem z2d (i n:Nat):List.range' i (n+1)=i::List.range' (i+1) n:=by simp[List.range'_succ]
theorem zkj {ρ:Rho}{T:Tm}{a:Act}(A:TR ρ T a.tmps){c:Call}{d:Dfr}(h:dfrOf c T=some d)(ty:TypeId)(w:World):∃ x,(resolve a.eval c ty).run P w=.ok x w/\DR1 ρ d x:=by
 obtain⟨j,e,C⟩:=c
 unfold dfrOf at h
 cases j with
 | value f=>
  obtain⟨L,G,F⟩:=z9.1 (show ob (ev T f) _=some d from h)
  obtain⟨B,y,v⟩:=z9.1 F
  split at v
  ·rename_i g K H
   cases v
   have q:=zu A G
   have p:VRs ρ B (e.map a.eval).toList:=by rw[Array.toList_map];exact zc4 A y
   generalize z:a.eval f=J at q
   cases q with
   | func D E=>
    rename_i u t
    refine⟨{ target:=.fn (.func g) t,args:=u++e.map a.eval },?_,_,_,rfl,?_⟩
    ·show(Deferred.ofValue (a.eval f) (e.map a.eval)).run P w=_
     rw[z]
     rfl
    ·simp only[Array.toList_append]
     exact(D.append p).append E
  ·cases v
 | invoke r n=>cases h
 | builtin b=>cases h
theorem z5c (hm:z0n rec)(hrec:RecSim P rec)(hcall:RecFn P rec){ops:Array Oper} :
  ∀(os:List Oper) (i:Nat) (T:Tm) (ms:List Dfr) (m:Mem) (q:Out),(∀ j,os[j]?=ops[i+j]?)->z0c P ro rec ops.toList os T ms m=some q ->
  ∀(Pt:Prot) (ρ:Rho) (b:Frame) (k:List Item) (cs:List Frame) (w:World) (a:Act),RO ρ ro b.roundOf->TR ρ T a.tmps->DR ρ ms a.defers->Rel Pt ρ m w->Fresh ρ m.next q.mem.next ->
   CodeOut P Pt ρ m.next (lone (b.atR a (.inRegion ops (List.range' i os.length)::k)) cs w) b k cs q
 | [],i,T,ms,m,q,_,h,Pt,ρ,b,k,cs,w,a,_,hT,hd,hrel,hf=>by
  cases h
  exact⟨ρ,a,w,Same.refl _ _ _,hT,hd,hrel,.one stepR_region_end⟩
 | o::os,i,T,ms,m,q,hos,h,Pt,ρ,b,k,cs,w,a,hro,hT,hd,hrel,hf=>by
  have ho:ops[i]?=some o:=by have:=hos 0;simpa using this.symm
  have hos':∀ j,os[j]?=ops[i+1+j]?:=fun j=>by have:=hos (j+1);simp only[List.getElem?_cons_succ] at this;rw[this];congr 1;omega
  rw[List.length_cons,z2d]
  cases z5z h with
  | on hw hnd hst h1=>
   rename_i T1 m1
   have hw':=z0y hw hT
   have n1:=hst.next' hm (z5a o.op)
   have n2:=z32 hm _ _ _ _ _ h1
   obtain⟨ρ1,v1,w1,hs1,hT1,hrel1,hsteps⟩:=z49 (b:=b) hm hrec ho hst hcall (z5a o.op) (fun r hr hf=>z9t hr hT hrel hf) (fun c e=>by rw[e] at hnd;cases hnd) (List.range' (i+1) os.length) k cs hw' hT hrel (hf.left n2)
   have:=z5c hm hrec hcall os (i+1) T1 ms m1 q hos' h1 Pt ρ1 b k cs w1 _ (hro.mono hs1.1) hT1 (by rw[z0f];exact hd.mono hs1.1) hrel1 (hf.right hs1 n1)
   exact this.after hsteps hs1 n1 n2
  | boom hw hnd hst he=>
   rename_i v m1
   subst he
   have hw':=z0y hw hT
   obtain⟨ρ1,v1,w1,hs1,hv1,hrel1,hsteps⟩:=zbc (b:=b) (T:=T) hm hrec ho hst hcall (fun r hr hf=>z9t hr hT hrel hf) (fun c e=>by rw[e] at hnd;cases hnd) (List.range' (i+1) os.length) k cs hw' hT hrel hf
   exact⟨ρ1,a,w1,v1,_,hs1,hT.mono hs1.1,hd.mono hs1.1,hrel1,hv1,hsteps⟩
  | dfr hw hop hr hc hp h1=>
   rename_i c d T1
   have hw':=z0y hw hT
   have hrb:b.roundOf=none:=by
    subst hr
    cases hb2:b.roundOf with
    | none=>rfl
    | some _=>rw[hb2] at hro;exact hro.elim
   obtain⟨x,hx,hdx⟩:=zkj (P:=P) hT hc o.type w
   let a1:Act:={ a with defers:=x::a.defers }
   have hstep:step P (lone (b.atR a (.inRegion ops (i::List.range' (i+1) os.length)::k)) cs w)=.next (lone (b.atR (a1.put o.dst undef) (.inRegion ops (List.range' (i+1) os.length)::k)) cs w):=by
    refine step_lone_go ?_
    rw[stepGR_op ho hw']
    have hsem:(o.semAt b.roundOf a.eval).run P w=.ok (.defer x) w:=by
     rw[hrb,Oper.semAt_none]
     obtain⟨dst,op,ty,pos,af,gd⟩:=o
     have hop:op=.defer c:=hop
     subst hop
     show(do pure (.defer (<- resolve a.eval c ty)):Sem Next).run P w=_
     rw[Sem.run_bind,hx];rfl
    have hfin:(b.atR a1 (.inRegion ops (i::List.range' (i+1) os.length)::k)).finish undef=b.atR (a1.put o.dst undef) (.inRegion ops (List.range' (i+1) os.length)::k):=by rw[Frame.finish_atR,ho];rfl
    rw[<-hfin]
    simp only[stepG.apply,Sem.runT_eq,if_true,hsem]
    rfl
   have:=z5c hm hrec hcall os (i+1) T1 (d::ms) m q hos' h1 Pt ρ b k cs w (a1.put o.dst undef) hro (by
    have:=TR.put (a:=a1) (v':=undef) (show TR ρ T a1.tmps from hT) hp (.tup .nil)
    exact this) (by rw[z0f];exact⟨hdx,hd⟩) hrel hf
   exact this.of_steps (.one hstep)
  | off hw hp h1=>
   rename_i T1
   have hw':=z0y hw hT
   have:=z5c hm hrec hcall os (i+1) T1 ms m q hos' h1 Pt ρ b k cs w (a.put o.dst undef) hro (hT.put hp (.tup .nil)) (by rw[z0f];exact hd) hrel hf
   refine this.of_steps (.one ?_)
   have:=stepR_op_skip (P:=P) (b:=b) (a:=a) (k:=k) (cs:=cs) (w:=w) (ops:=ops) (i:=i) (rest:=List.range' (i+1) os.length) (by simp[ho,hw'])
   rw[this,ho];rfl
def resF (tmps:Array Value):ResultVar->Sem Value:=fun r=>match r with
 | .tmp t=>pure (tmps.getD t undef)
 | .cell a t=>do loadVar t (<- asAddr (tmps.getD a undef))
theorem za0 {Pt:Prot}{ρ:Rho}{m:Mem}{T:Tm}(u:TR ρ T tmps)(f:Rel Pt ρ m w) :
  ∀(q:List ResultVar) (vs:List LV),z0p P T m q=some vs->∃ vs':List Value,(q.mapM (resF tmps)).run P w=.ok vs' w/\VRs ρ vs vs'
 | [],vs,h=>by cases h;exact⟨[],rfl,.nil⟩
 | r::q,vs,h=>by
  obtain⟨v,p,h1⟩:=z9.1 (show ob (resultOf P T m r) _=some vs from h)
  obtain⟨D,B,F⟩:=z9.1 h1
  cases F
  obtain⟨vs',y,A⟩:=za0 u f q D B
  have C:∃ j,(resF tmps r).run P w=.ok j w/\VR ρ v j:=by
   cases r with
   | tmp t=>
    have p:evT T t=some v:=p
    rw[z39] at p;cases p
    exact⟨_,rfl,u.2 t⟩
   | cell x t=>
    obtain⟨J,E,G⟩:=z9.1 (show ob (evT T x) (fun a=>loadT P t m a)=some v from p)
    rw[z39] at E;cases E
    obtain⟨H,j,e,y,g⟩:=zdz f (u.2 x) G
    refine⟨j,?_,g⟩
    simp only[resF,Sem.run_bind,e,asAddr,Sem.run_pure,Result.andThen_ok]
    exact y
  obtain⟨j,z,g⟩:=C
  refine⟨j::vs',?_,.cons g A⟩
  rw[List.mapM_cons,Sem.run_bind,z,Result.andThen_ok,Sem.run_bind,y]
  rfl
theorem zj2 {ρ:Rho}{vs:List LV}{vs':Array Value}(h:VRs ρ vs vs'.toList):VR ρ (packed vs) (if h:vs'.size=1 then vs'[0] else .tuple vs'):=by
 obtain⟨l⟩:=vs'
 have h:VRs ρ vs l:=h
 have g:=h.length
 match vs,l,h with
 | [],[],h=>simp;exact .tup .nil
 | [v],[e],h=>cases h with|cons h _=>simpa [packed] using h
 | v::u::vs,e::f::l,h=>
  have:¬(e::f::l).toArray.size=1:=by simp
  rw[dif_neg this]
  exact .tup h
theorem Tm.setAll_sim {ρ:Rho}:∀(vs:List LV) (vs':List Value) (i:Nat) (T T':Tm) (A:Array Value),Tm.setAll vs i T=some T'->VRs ρ vs vs' ->
  A.size=T.size->(∀ j,j<i->VR ρ (T.get j) (A.getD j undef))->(∀ j,i<=j->T.get j=.unk)->(∀ j v',vs'[j]?=some v'->A[i+j]?=some v')->GlobOk ρ->TR ρ T' A
 | [],vs',i,T,T',A,h,_,t,g,f,_,q=>by
  cases h
  refine⟨t,fun j=>?_,q⟩
  by_cases r:j<i
  ·exact g j r
  ·rw[f j (by omega)];exact .unk _
 | v::vs,vs',i,T,T',A,h,u,t,g,f,z,q=>by
  cases u with
  | cons u y=>
   rename_i v' vs'
   obtain⟨B,h1,C⟩:=z9.1 (show ob (T.set i v) _=some T' from h)
   obtain⟨E,e⟩:=Tm.set_eq.1 h1
   refine Tm.setAll_sim vs vs' (i+1) B T' A C y (by rw[t,e]) (fun j r=>?_) (fun j r=>?_) (fun j x D=>?_) q
   ·rw[Tm.get_set h1]
    by_cases p:j=i
    ·subst p
     rw[if_pos rfl,Array.getD_eq_getD_getElem?]
     have:=z 0 v' rfl
     rw[Nat.add_zero] at this
     rw[this];exact u
    ·rw[if_neg p];exact g j (by omega)
   ·rw[Tm.get_set h1,if_neg (by omega)];exact f j (by omega)
   ·have:=z (j+1) x (by simpa using D)
    rw[<-this];congr 1;omega
theorem z59 {ρ:Rho}{n:Nat}{vs:List LV}{T:Tm}{A:Array Value}(h:Tm.ofList n vs=some T)(f:VRs ρ vs A.toList)(g:GlobOk ρ):TR ρ T (A++Array.replicate (n-A.size) undef):=by
 unfold Tm.ofList at h
 rw[z19] at h
 have q:vs.length=A.size:=by simpa using f.length
 refine Tm.setAll_sim vs A.toList 0 _ T _ h f ?_ (fun j e=>by omega) (fun j _=>?_) (fun j r e=>?_) g
 ·show(A++Array.replicate (n-A.size) undef).size=Nat.max n vs.length
  simp[q,Nat.max_def];split<;>omega
 ·unfold Tm.get;simp
 ·simp only[Array.getElem?_toList] at e
  have p:=(Array.getElem?_eq_some_iff.1 e).1
  rw[Nat.zero_add,Array.getElem?_append_left p];exact e
theorem z9z {fn:Func}{vs':List Value}(h:(fn.results.toList.mapM (resF tmps)).run P w=.ok vs' w) :
  (results fn tmps).run P w=.ok (if h:vs'.toArray.size=1 then vs'.toArray[0] else .tuple vs'.toArray) w:=by
 unfold results
 rw[Sem.run_bind]
 have hF:(fun r=>match r with
  | .tmp t=>pure (tmps.getD t undef)
  | .cell a t=>do loadVar t (<- asAddr (tmps.getD a undef)):ResultVar->Sem Value)=resF tmps:=by
  funext r;cases r<;>rfl
 have:(fn.results.mapM (resF tmps)).run P w=.ok vs'.toArray w:=by
  rw[Array.mapM_eq_mapM_toList,Sem.run_map,h];rfl
 rw[<-hF] at this
 refine(congrArg (fun x=>Result.andThen x _) this).trans ?_
 rfl
theorem z41 {f:FuncId}{fn:Func}(h:fnOf P f=some fn):P.funcs[f]?=some fn/\fn.body.isSome=true/\(fn.name == "runtime.NumGoroutine")=false:=by
 obtain⟨p,r,e⟩:=z9.1 h
 obtain⟨q,g⟩:=za.1 e
 obtain⟨t,j⟩:=za.1 g
 cases j
 exact⟨r,q,by simpa using t⟩
theorem zh6 {Pt:Prot}{ρ:Rho}{m:Mem}{d:Nat}{x:Deferred}(z:m.get d=some .defr)(E:DR1 ρ (.mark d) x)(e:Rel Pt ρ m w)(fr:Frame)(p:fr.mode≠.run)(cs:List Frame)(ds:List Deferred)(y:fr.defers=x::ds) :
  ∃ w',Rel Pt ρ (m.upd d none) w'/\step P (lone fr cs w)=.next (lone { fr with defers:=ds } cs w'):=by
 obtain⟨t,s,c,q,rfl⟩:=E
 obtain⟨_,F,J,G,o,v,g,A,_⟩:=e.live d _ z
 rw[q] at v;cases v
 have g:o=.deferred (some []):=g
 subst g
 obtain⟨C,h⟩:=e.freed z rfl q
 have B:t<w.heap.size:=(Array.getElem?_eq_some_iff.1 A).1
 let u:World:={ w with heap:=w.heap.setIfInBounds t (.deferred none) }
 refine⟨u,(e.drop d).other C h (fun r D=>?_) ⟨rfl,rfl⟩,step_lone_go ?_⟩
 ·show(w.heap.setIfInBounds t _)[r]?=_
  rw[Array.getElem?_setIfInBounds_ne (Ne.symm D)]
 ·have f:(Instr.takeDeferred t).run P w=.ok [] u:=by
   simp[Instr.takeDeferred,getObj,setObj,Sem.run,A,u]
  cases j:fr.mode with
  | run=>exact absurd j p
  | returning=>simp[stepG,unwind,j,y,Sem.runT_eq,f]
  | panicking H=>simp[stepG,unwind,j,y,Sem.runT_eq,f]
def Pv (ρ:Rho)(pv:LV):FrameMode->FrameMode->Prop
 | .returning,u'=>pv=.nilIface/\u'=.returning
 | .panicking e,u'=>∃ v',e=[{ v:=v',recovered:=false }]/\VR ρ pv v'/\u'=.panicking [{ v:=v',recovered:=true }]
 | .run,_=>False
theorem zas (Z:RecSim P rec){f:FuncId}{args:List LV}{pv:LV}{m m':Mem}(h:dfrRun P rec f args pv m=some m'){Pt:Prot}{ρ:Rho}{g:Array Value}(ha:VRs ρ args g.toList)(hG:GlobOk ρ)(a0:Rel Pt ρ m w)(hf:Fresh ρ m.next m'.next)(q:Frame)(cs:List Frame){u':FrameMode}(D:Pv ρ pv q.mode u') :
  ∃ L w',Same ρ L m.next m'.next/\Rel Pt L m' w'/\Steps P (lone (Frame.enter P f g .deferred) (q::cs) w) (lone { q with mode:=.returning } cs w'):=by
 obtain⟨fn,T,c,d,e,B,T1,T2,ex,T',b5,hT,hc,hh,h5,h6,a3,b4,a6⟩:=z6d h
 obtain⟨hg,_,_⟩:=z41 b5
 obtain⟨id,ops,t,rfl,rfl,A,C,S,R,G,p2,V,rfl⟩:=zj5 hh
 let b:Frame:={ fn:=f,tmps:=#[],todo:=[],defers:=[],mode:=.run,kind:=.deferred,roundOf:=none }
 let r:Act:={ tmps:=g++Array.replicate (fn.ntmps-g.size) undef,defers:=[] }
 have a8:=z59 hT ha hG
 have J:Frame.enter P f g .deferred=b.atR r [.code (.seq (.region id #[⟨some t,.call ⟨.builtin .recover,#[],A⟩,C,S,R,none⟩,⟨e,.assign (.tmp t),G,p2,V,none⟩] false) B)]:=by
  simp[Frame.enter,Frame.atR,hg,hc,b,r]
 have N:∃ K j,VR ρ pv K/\j=({ q with mode:=u' }:Frame)::cs/\(tryRecover (b.atR r []) (q::cs)=some (K,j) ∨(tryRecover (b.atR r []) (q::cs)=none/\K=.nilIface/\j=q::cs)):=by
  cases p:q.mode with
  | run=>rw[p] at D;exact D.elim
  | returning=>
   rw[p] at D
   obtain⟨rfl,rfl⟩:=D
   have b1:({ q with mode:=.returning }:Frame)=q:=by rw[<-p]
   exact⟨.nilIface,_,.nilIface,rfl,.inr ⟨by simp[tryRecover,Frame.atR,b,p],rfl,by rw[b1]⟩⟩
  | panicking ch=>
   rw[p] at D
   obtain⟨K,rfl,hv,rfl⟩:=D
   exact⟨K,_,hv,rfl,.inl (by simp[tryRecover,Frame.atR,b,p])⟩
 obtain⟨K,j,hv,Y,F⟩:=N
 have c1:∀(l:List Nat),((#[⟨some t,.call ⟨.builtin .recover,#[],A⟩,C,S,R,none⟩,⟨e,.assign (.tmp t),G,p2,V,none⟩]:Array Oper)[0]?)=some ⟨some t,.call ⟨.builtin .recover,#[],A⟩,C,S,R,none⟩:=fun _=>rfl
 let ops:Array Oper:=#[⟨some t,.call ⟨.builtin .recover,#[],A⟩,C,S,R,none⟩,⟨e,.assign (.tmp t),G,p2,V,none⟩]
 have s0:Steps P (lone (Frame.enter P f g .deferred) (q::cs) w) (lone (b.atR r (.inRegion ops [0,1] :: .code B::[])) (q::cs) w):=by
  rw[J]
  exact .head stepR_seq (.one stepR_region)
 let E:Act:=r.put (some t) K
 have s1:step P (lone (b.atR r (.inRegion ops [0,1] :: .code B::[])) (q::cs) w)=.next (lone (b.atR E (.inRegion ops [1] :: .code B::[])) j w):=by
  refine step_lone_go ?_
  rw[stepGR_op (o:=⟨some t,.call ⟨.builtin .recover,#[],A⟩,C,S,R,none⟩) rfl rfl]
  have y:(Oper.semAt b.roundOf r.eval ⟨some t,.call ⟨.builtin .recover,#[],A⟩,C,S,R,none⟩).run P w=.ok .recover w:=rfl
  have v:∀ x,(b.atR r (.inRegion ops [0,1] :: .code B::[])).finish x=b.atR (r.put (some t) x) (.inRegion ops [1] :: .code B::[]):=fun x=>by rw[Frame.finish_atR];rfl
  have z:tryRecover (b.atR r (.inRegion ops [0,1] :: .code B::[])) (q::cs)=tryRecover (b.atR r []) (q::cs):=by simp[tryRecover,Frame.atR,b]
  have a5:(b.atR r (.inRegion ops [0,1] :: .code B::[])).roundOf=none:=rfl
  rcases F with F|⟨F,rfl,b2⟩
  ·rw[F] at z
   simp only[stepG.apply,Sem.runT_eq,if_true,y,a5,z,v]
   rfl
  ·rw[F] at z
   simp only[stepG.apply,Sem.runT_eq,if_true,y,a5,z,v]
   rw[b2]
   rfl
 let O:Act:=E.put e (E.eval (.tmp t))
 have s2:step P (lone (b.atR E (.inRegion ops [1] :: .code B::[])) j w)=.next (lone (b.atR O (.inRegion ops [] :: .code B::[])) j w):=by
  refine step_lone_go ?_
  rw[stepGR_op (o:=⟨e,.assign (.tmp t),G,p2,V,none⟩) rfl rfl]
  have y:(Oper.semAt b.roundOf E.eval ⟨e,.assign (.tmp t),G,p2,V,none⟩).run P w=.ok (.value (E.eval (.tmp t))) w:=rfl
  have v:(b.atR E (.inRegion ops [1] :: .code B::[])).finish (E.eval (.tmp t))=b.atR O (.inRegion ops [] :: .code B::[]):=by rw[Frame.finish_atR];rfl
  simp only[stepG.apply,Sem.runT_eq,if_true,y,v]
  rfl
 have X:TR ρ T1 E.tmps:=TR.put (a:=r) a8 h5 hv
 have b0:T1.get t=pv:=by
  have:=Tm.get_set (show T.set t pv=some T1 from h5) t
  rw[if_pos rfl] at this;exact this
 have a9:TR ρ T2 O.tmps:=by
  refine TR.put (a:=E) X h6 ?_
  have:=X.2 t
  rw[b0] at this
  exact this
 have b3:O.defers=[]:=by show(E.put e _).defers=[];rw[z0f];show(r.put (some t) K).defers=[];rw[z0f]
 obtain⟨L,Q,w',hs,b9,H,b7,u⟩:=Z _ _ a6 Pt ρ b [] j w O rfl trivial a9 (by rw[b3];trivial) a0 hf
 have H:Q.defers=[]:=by
  cases hx:Q.defers with
  | nil=>rfl
  | cons _ _=>rw[hx] at H;exact H.elim
 have a4:∃ k1,Steps P (lone (b.atR O (.code B::[])) j w) (lone { b.atR Q k1 with mode:=.returning } j w'):=by
  rcases b4 with rfl|rfl
  ·exact⟨[],Steps.trans u (.one (stepR_end rfl))⟩
  ·obtain⟨k1,u⟩:=u
   exact⟨_,u.trans (.one (stepR_ret rfl))⟩
 obtain⟨k1,b8⟩:=a4
 have b6:Frame.going P { b.atR Q k1 with mode:=.returning } w' (.returned (.tuple #[])):=by
  refine⟨rfl,H,fn,hg,?_⟩
  have:=z9z (P:=P) (fn:=fn) (tmps:=Q.tmps) (w:=w') (vs':=[]) (by rw[a3];rfl)
  exact this
 have M:=step_going_returned (c:={ q with mode:=u' }) (cs:=cs) (w:=w') (show({ b.atR Q k1 with mode:=.returning }:Frame).kind=.deferred from rfl) b6
 have a7:settle u'=.returning:=by
  cases p:q.mode with
  | run=>rw[p] at D;exact D.elim
  | returning=>rw[p] at D;obtain⟨_,rfl⟩:=D;rfl
  | panicking ch=>rw[p] at D;obtain⟨K,rfl,hv,rfl⟩:=D;rfl
 refine⟨L,w',hs,b7,s0.trans (.head s1 (.head s2 (.head stepR_region_end (b8.trans (.one ?_)))))⟩
 rw[Y,M,a7]
theorem z3j (S:z0n rec)(z:RecSim P rec){fn:Func}{T:Tm}{Pt:Prot}(cs:List Frame) :
  ∀(ds:List Dfr) (m:Mem) (v:LV) (u:Mem),finRet P rec fn T ds m=some (.call v u)->∀(ρ:Rho) (w:World) (fr:Frame),fr.mode=.returning->fr.kind=.normal->P.funcs[fr.fn]?=some fn->TR ρ T fr.tmps->DR ρ ds fr.defers->Rel Pt ρ m w->Fresh ρ m.next u.next ->
   ∃ r v' w' g,Same ρ r m.next u.next/\VR r v v'/\Rel Pt r u w'/\Steps P (lone fr cs w) (lone g cs w')/\g.fn=fr.fn/\g.leaving P w' (.returned v')
 | [],m,v,u,h,ρ,w,fr,p,M,y,F,j,e,hf=>by
  obtain⟨vs,h8,h9⟩:=z9.1 (show ob (z0p P T m fn.results.toList) _=some (Out.call v u) from h)
  cases h9
  obtain⟨a4,N,a2⟩:=za0 F e fn.results.toList vs h8
  have j:fr.defers=[]:=by
   cases B:fr.defers with
   | nil=>rfl
   | cons _ _=>rw[B] at j;exact j.elim
  exact⟨ρ,_,w,fr,Same.refl _ _ _,zj2 (by simpa using a2),e,Steps.refl _ _,rfl,p,j,M,fn,y,z9z N⟩
 | .mark d::ds,m,v,u,h,ρ,w,fr,p,M,y,F,j,e,hf=>by
  obtain⟨hg,H⟩:=z8e.1 (show atDefr m d (finRet P rec fn T ds (m.upd d none))=some _ from h)
  cases B:fr.defers with
  | nil=>rw[B] at j;exact j.elim
  | cons x Q=>
   rw[B] at j
   obtain⟨w1,q,E⟩:=zh6 (P:=P) hg j.1 e fr (by rw[p];simp) cs Q B
   obtain⟨r,v',w',g,R,V,X,g4,Y⟩:=z3j S z cs ds _ v u H ρ w1 { fr with defers:=Q } p M y F j.2 q (by rw[Mem.next_upd];exact hf)
   rw[Mem.next_upd] at R
   exact⟨r,v',w',g,R,V,X,.head E g4,Y⟩
 | .call f as::ds,m,v,u,h,ρ,w,fr,p,M,y,F,j,e,hf=>by
  obtain⟨m1,H,h2⟩:=z9.1 (show ob (dfrRun P rec f as .nilIface m) _=some (Out.call v u) from h)
  cases B:fr.defers with
  | nil=>rw[B] at j;exact j.elim
  | cons x Q=>
   rw[B] at j
   obtain⟨⟨t,cap,rfl,C⟩,Z⟩:=j
   have n1:=z3w S H
   have n2:m1.next<=u.next:=z1j S ds m1 _ h2
   obtain⟨G,_,_,_,_,_,_,_,_,_,K,_⟩:=z6d H
   obtain⟨a0,J,a1⟩:=z41 K
   have D:G.body.isNone=false:=by cases hb:G.body with
    | none=>rw[hb] at J;cases J
    | some _=>rfl
   have L:(invoke (.fn (.func f) cap) t).run P w=.ok (.enter f (t++cap)) w:=by
    simp only[invoke,callFunc,Sem.run_bind,run_program,Result.andThen_ok,a0,a1,D,Bool.false_eq_true,if_false]
    rfl
   have E:=step_defer (P:=P) (fr:=fr) (cs:=cs) (d:={ target:=.fn (.func f) cap,args:=t }) (by rw[p];simp) B rfl L
   obtain⟨a3,w1,A,q,O⟩:=zas z H C F.3 e (hf.left n2) { fr with defers:=Q } cs (u':=.returning) (by show Pv ρ _ fr.mode _;rw[p];exact⟨rfl,rfl⟩)
   obtain⟨r,v',w',g,R,V,X,g4,Y⟩:=z3j S z cs ds m1 v u h2 a3 w1 { fr with defers:=Q,mode:=.returning } rfl M y (F.mono A.1) (Z.mono A.1) q (hf.right A n1)
   exact⟨r,v',w',g,A.trans R n1 n2,V,X,.head E (O.trans g4),Y⟩
theorem z58 {fn:Func}{T:Tm}{v:LV}{e:Mem}:∀(ds:List Dfr) (m:Mem),finRet P rec fn T ds m≠some (.die v e)
 | [],m,h=>by
  obtain⟨vs,_,q⟩:=z9.1 (show ob (z0p P T m fn.results.toList) _=some (Out.die v e) from h)
  cases q
 | .mark d::ds,m,h=>by
  obtain⟨_,j⟩:=z8e.1 (show atDefr m d (finRet P rec fn T ds (m.upd d none))=some _ from h)
  exact z58 ds _ j
 | .call f g::ds,m,h=>by
  obtain⟨r,_,p⟩:=z9.1 (show ob (dfrRun P rec f g .nilIface m) _=some (Out.die v e) from h)
  exact z58 ds _ p
theorem z3i (Z:z0n rec)(z:RecSim P rec){fn:Func}{T:Tm}{Pt:Prot}(cs:List Frame){pv:LV}{E:Value} :
  ∀(ds:List Dfr) (m:Mem) (o:Out),finDie P rec fn T pv ds m=some o->∀(ρ:Rho) (w:World) (fr:Frame),VR ρ pv E->fr.mode=.panicking [{ v:=E,recovered:=false }]->fr.kind=.normal->P.funcs[fr.fn]?=some fn->TR ρ T fr.tmps->DR ρ ds fr.defers->Rel Pt ρ m w->Fresh ρ m.next o.mem.next ->
   match o with
   | .call v A=>∃ g v' w' e,Same ρ g m.next A.next/\VR g v v'/\Rel Pt g A w'/\Steps P (lone fr cs w) (lone e cs w')/\e.fn=fr.fn/\e.leaving P w' (.returned v')
   | .die v A=>∃ g v' w' e,Same ρ g m.next A.next/\VR g v v'/\Rel Pt g A w'/\Steps P (lone fr cs w) (lone e cs w')/\e.fn=fr.fn/\e.leaving P w' (.panicked [{ v:=v',recovered:=false }])
   | _=>True
 | [],m,o,h,ρ,w,fr,y,q,Y,u,O,p,j,hf=>by
  cases h
  have p:fr.defers=[]:=by
   cases D:fr.defers with
   | nil=>rfl
   | cons _ _=>rw[D] at p;exact p.elim
  exact⟨ρ,E,w,fr,Same.refl _ _ _,y,j,Steps.refl _ _,rfl,q,p,fn,u⟩
 | .mark d::ds,m,o,h,ρ,w,fr,y,q,Y,u,O,p,j,hf=>by
  obtain⟨hg,N⟩:=z8e.1 (show atDefr m d (finDie P rec fn T pv ds (m.upd d none))=some _ from h)
  cases D:fr.defers with
  | nil=>rw[D] at p;exact p.elim
  | cons x X=>
   rw[D] at p
   obtain⟨w1,r,C⟩:=zh6 (P:=P) hg p.1 j fr (by rw[q];simp) cs X D
   have ih:=z3i Z z cs ds _ o N ρ w1 { fr with defers:=X } y q Y u O p.2 r (by rw[Mem.next_upd];exact hf)
   cases o with
   | call v A=>
    obtain⟨g,v',w',e,F,K,L,g4,M⟩:=ih
    rw[Mem.next_upd] at F
    exact⟨g,v',w',e,F,K,L,.head C g4,M⟩
   | die v A=>
    obtain⟨g,v',w',e,F,K,L,g4,M⟩:=ih
    rw[Mem.next_upd] at F
    exact⟨g,v',w',e,F,K,L,.head C g4,M⟩
   | code _ _ _ _=>trivial
   | boom _ _ _ _=>trivial
 | .call f as::ds,m,o,h,ρ,w,fr,y,q,Y,u,O,p,j,hf=>by
  obtain⟨m1,N,h2⟩:=z9.1 (show ob (dfrRun P rec f as pv m) _=some o from h)
  cases o with
  | code _ _ _ _=>trivial
  | boom _ _ _ _=>trivial
  | die v A=>
   exact absurd h2 (z58 ds m1)
  | call v A=>
   cases D:fr.defers with
   | nil=>rw[D] at p;exact p.elim
   | cons x X=>
    rw[D] at p
    obtain⟨⟨t,cap,rfl,G⟩,a0⟩:=p
    have n1:=z3w Z N
    have n2:m1.next<=A.next:=z1j Z ds m1 _ h2
    obtain⟨J,_,_,_,_,_,_,_,_,_,R,_⟩:=z6d N
    obtain⟨a1,Q,a2⟩:=z41 R
    have H:J.body.isNone=false:=by cases hb:J.body with
     | none=>rw[hb] at Q;cases Q
     | some _=>rfl
    have S:(invoke (.fn (.func f) cap) t).run P w=.ok (.enter f (t++cap)) w:=by
     simp only[invoke,callFunc,Sem.run_bind,run_program,Result.andThen_ok,a1,a2,H,Bool.false_eq_true,if_false]
     rfl
    have C:=step_defer (P:=P) (fr:=fr) (cs:=cs) (d:={ target:=.fn (.func f) cap,args:=t }) (by rw[q];simp) D rfl S
    obtain⟨a3,w1,B,r,V⟩:=zas z N G O.3 j (hf.left n2) { fr with defers:=X } cs (by show Pv ρ _ fr.mode _;rw[q];exact⟨E,rfl,y,rfl⟩)
    obtain⟨g,v',w',e,F,K,L,g4,M⟩:=z3j Z z cs ds m1 v A h2 a3 w1 { fr with defers:=X,mode:=.returning } rfl Y u (O.mono B.1) (a0.mono B.1) r (hf.right B n1)
    exact⟨g,v',w',e,B.trans F n1 n2,K,L,.head C (V.trans g4),M⟩
end
end PvL
end
section
namespace PvL
open Go
variable {w w':World} {i d b s c db n:Nat} {fn:FuncId} {ro:Option Nat}
section
variable {P:Program} {rec:Task->Option Out}
def DrawSim (P:Program)(rec:Task->Option Out):Prop:=(∀(A ops:Array Oper) (p q:Nat->Nat) (T r:Tm) (m j:Mem) (st:List Mem) (t:Nat) (x:List Pend),Reord A ops p q ->
  regionOk P ops=true->z04 P rec ops.toList (deps ops) ops.toList 0 ⟨T,m,[m],0,[]⟩=some ⟨r,j,st,t,x⟩->z0q P st t x=true ->
  ∀(Pt:Prot) (f:Rho) (b:Frame) (id:Nat) (k:List Item) (h:List Frame) (w:World) (a:Act),TR f T a.tmps->Rel Pt f m w->Fresh f m.next j.next ->
   ∃ e g w',Same f e m.next j.next/\TR e r g.tmps/\g.defers=a.defers/\Rel Pt e j w' /\
    Steps P (lone (b.atR a (.code (.region id A true)::k)) h w) (lone (b.atR g k) h w')) /\
 (∀(A ops:Array Oper) (p q:Nat->Nat) (T:Tm) (m:Mem) (v:LV) (u:Mem) (d:DS),Reord A ops p q ->
  regionOk P ops=true->z0a P rec ops.toList (deps ops) ops.toList 0 ⟨T,m,[m],0,[]⟩=some (v,u,d)->z0q P d.st d.k d.ps=true ->
  ∀(Pt:Prot) (f:Rho) (b:Frame) (id:Nat) (k:List Item) (h:List Frame) (w:World) (a:Act),TR f T a.tmps->Rel Pt f m w->Fresh f m.next d.m.next ->
   ∃ e g w' y z,Same f e m.next d.m.next/\g.tmps.size=T.size/\g.defers=a.defers/\VR e v y/\Rel Pt e u w' /\
    Steps P (lone (b.atR a (.code (.region id A true)::k)) h w) (lone (Frame.boom (b.atR g z) y) h w'))
theorem Rel.loop {Pt:Prot}{ρ:Rho}{m:Mem}(h:Rel Pt ρ m w){st:LoopState}{e:Option Code}{r:Tm}{q:List Tmp}{g j:Code}(hi:m.get i=some (.loop st e fn r q g j d))(f:ρ i=some (b,s,c)) :
  ∃ T' db,w.heap[b]?=some (.loop { state:=st,pending:=e,fn,tmps:=T',params:=q.toArray,assign:=g,body:=j,defers:=db })/\TR ρ r T' /\ ∃ s c,ρ d=some (db,s,c):=by
 obtain⟨_,x,z,y,o,p,⟨T',db,rfl,t,u⟩,v,_⟩:=h.live i _ hi
 rw[f] at p;cases p
 exact⟨T',db,v,t,u⟩
theorem Rel.turnLoop {Pt:Prot}{ρ:Rho}{m:Mem}(h:Rel Pt ρ m w){st st':LoopState}{e pend':Option Code}{q:Tm}{j:List Tmp}{f g:Code}(hi:m.get i=some (.loop st e fn q j f g d))(p:ρ i=some (b,s,c)){T':Array Value}(t:TR ρ q T')(v:∃ s c,ρ d=some (db,s,c))(u:b<w.heap.size) :
  Rel Pt ρ (m.upd i (some (.loop st' pend' fn q j f g d))) { w with heap:=w.heap.setIfInBounds b (.loop { state:=st',pending:=pend',fn,tmps:=T',params:=j.toArray,assign:=f,body:=g,defers:=db }) }:=by
 refine h.turn hi rfl rfl p (o':=.loop { state:=st',pending:=pend',fn,tmps:=T',params:=j.toArray,assign:=f,body:=g,defers:=db }) ⟨T',db,rfl,t,v⟩ ?_ ?_
 ·show(w.heap.setIfInBounds b _)[b]?=_
  rw[Array.getElem?_setIfInBounds_self_of_lt u]
 ·intro r x
  show(w.heap.setIfInBounds b _)[r]?=_
  rw[Array.getElem?_setIfInBounds_ne (Ne.symm x)]
theorem Steps.tail {g p j:Machine}(h:step P g=.next p)(q:Steps P g j)(f:j≠g):Steps P p j:=by
 obtain⟨n,e⟩:=q
 cases n with
 | zero=>cases e;exact absurd rfl f
 | succ n=>
  simp only[runN,h] at e
  exact⟨n,e⟩
theorem z9m {fr e:Frame}{cs f:List Frame}(h:lone fr cs w=lone e f w'):fr.todo=e.todo:=by
 unfold lone at h
 have:=congrArg Machine.gs h
 simp at this
 rw[this.1]
theorem ze0 {fr e:Frame}{cs f:List Frame}(h:lone fr cs w=lone e f w'):fr.mode=e.mode:=by
 unfold lone at h
 have:=congrArg Machine.gs h
 simp at this
 rw[this.1]
theorem Rel.bump0 {Pt:Prot}{ρ:Rho}{m:Mem}(h:Rel Pt ρ m w)(t:m.next<=n):Rel Pt ρ ⟨n,m.tr⟩ w:=by
 refine⟨h.keep,fun i f e=>?_,fun i j f g x y e p=>h.inj i j f g x y (by rw[Mem.get_mk] at e;cases m;exact e) (by rw[Mem.get_mk] at p;cases m;exact p),h.still⟩
 have e:m.get i=some f:=by rw[Mem.get_mk] at e;cases m;exact e
 obtain⟨q,r⟩:=h.live i f e
 exact⟨Nat.lt_of_lt_of_le q t,r⟩
theorem Arr.of_loop {r X:Machine}{b:Frame}{k:List Item}{cs:List Frame}{x:Code}{p q:Act}{t u:World}{e:Ex}(pre:Steps P r X)(j:step P (lone (b.atR p (Item.code (.loop x)::k)) cs t)=.next X)(h:Arr P (lone (b.atR p (Item.code (.loop x)::k)) cs t) b k cs e q u):Arr P r b k cs e q u:=by
 cases e with
 | norm=>
  refine pre.trans (Steps.tail j h fun e=>?_)
  have:=z9m e
  simp[Frame.atR] at this
 | ret=>
  obtain⟨g,f⟩:=h
  refine⟨g,pre.trans (Steps.tail j f fun e=>?_)⟩
  have:=z9m e
  simp[Frame.atR] at this
 | exit id=>
  obtain⟨g,v,f⟩:=h
  refine⟨g,v,pre.trans (Steps.tail j f fun e=>?_)⟩
  have:=z9m e
  simp[Frame.atR] at this
theorem ze9 (r:RecSim P rec){l:Nat}{T:Tm}{ms:List Dfr}{m:Mem}{o:Out}(h:rfEnd rec fn ro l T ms m=some o){Pt:Prot}{ρ:Rho}{b:Frame}{k:List Item}{cs:List Frame}{a:Act}{j:Nat}(t:ρ l=some (j,s,c))(O:b.fn=fn)(C:RO ρ ro b.roundOf)(H:TR ρ T a.tmps)(J:DR ρ ms a.defers)(g:Rel Pt ρ m w)(hf:Fresh ρ m.next o.mem.next) :
  CodeOut P Pt ρ m.next (lone (b.atR a (.endRangeFunc j::k)) cs w) b k cs o:=by
 obtain⟨st,e,p,D,u,E,F,M,K,N⟩:=z1e h
 obtain⟨B,v⟩:=zba N
 obtain⟨L,db,A,x,z⟩:=g.loop K t
 have y:j<w.heap.size:=(Array.getElem?_eq_some_iff.1 A).1
 have f:=g.turnLoop (st':=.exhausted) (pend':=e) K t x z y
 have q:(Instr.endLoop j).run P w=.ok e { w with heap:=w.heap.setIfInBounds j (.loop { state:=.exhausted,pending:=e,fn:=p,tmps:=L,params:=u.toArray,assign:=E,body:=F,defers:=db }) }:=by
  unfold Instr.endLoop Instr.getLoop
  simp only[Sem.run_bind,z02 A (by simp),Result.andThen_ok,Sem.run_pure]
  have:(st==LoopState.busy)=false:=by cases st<;>first|rfl|exact absurd rfl B
  simp only[this,Bool.false_eq_true,if_false,Sem.run_bind,z1l A (by simp),Result.andThen_ok,Sem.run_pure]
 have hstep:=stepR_endRangeFunc (P:=P) (b:=b) (a:=a) (k:=k) (cs:=cs) q
 cases e with
 | none=>
  cases v
  exact⟨ρ,a,_,by rw[Mem.next_upd];exact Same.refl _ _ _,H,J,f,.one hstep⟩
 | some G=>
  have v:rec (.code fn ro G T ms (m.upd l (some (.loop .exhausted (some G) p D u E F M))))=some o:=v
  have:=r _ _ v Pt ρ b k cs _ a O C H J f (by rw[Mem.next_upd];exact hf)
  rw[Mem.next_upd] at this
  exact this.of_steps (.one hstep)
theorem zbg (hm:z0n rec)(B:RecSim P rec)(M:RecFn P rec){f:Operand}{E:Array Tmp}{t u:Code}{T:Tm}{ms:List Dfr}{m:Mem}{o:Out}(h:rfCall rec fn ro f E t u d T ms m=some o){Pt:Prot}{ρ:Rho}{b:Frame}{k:List Item}{cs:List Frame}{a:Act}{w0:World}{mark:List Deferred}(b2:ρ d=some (db,s,c))(hb:b.fn=fn)(b1:RO ρ ro b.roundOf)(X:TR ρ T a.tmps)(hd:DR ρ ms (mark++a.defers))(a3:Rel Pt ρ m w)(hf:Fresh ρ m.next o.mem.next)(G:(Instr.enterLoop b.fn a.tmps E t u b.roundOf).run P w0=.ok (w.heap.size,mark) { w with heap:=w.heap.push (.loop { state:=.ready,pending:=none,fn:=b.fn,tmps:=a.tmps,params:=E,assign:=t,body:=u,defers:=db }) }) :
  CodeOut P Pt ρ m.next (lone (b.atR a (.code (.rangeFunc f E t u)::k)) cs w0) b k cs o:=by
 have a9:=z4c hm h
 unfold rfCall at h
 rw[Mem.new_eq] at h
 obtain⟨fv,a7,h1⟩:=z9.1 h
 obtain⟨g,fi,ca,rfl,h2⟩:=zjk h1
 have b3:∃ Y,rec (.call g (fi++[LV.func (.yield m.next) [] []]++ca) (m.push (.loop .ready none fn T E.toList t u d)))=some Y/\((∃ v r,Y=.call v r/\rfEnd rec fn ro m.next T ms r=some o) ∨ ∃ v r,Y=.die v r/\o=.boom v T ms r):=by
  rcases z34 h2 with⟨v,r,K,L⟩|⟨v,r,K,L⟩
  ·exact⟨_,K,.inl ⟨v,r,rfl,L⟩⟩
  ·exact⟨_,K,.inr ⟨v,r,rfl,(Option.some.inj L).symm⟩⟩
 obtain⟨Y,K,A⟩:=b3
 obtain⟨Z,a0⟩:=M _ _ _ _ K
 have n3:m.next+1<=Y.mem.next:=hm _ _ K
 have n4:Y.mem.next<=o.mem.next:=by
  rcases A with⟨v,r,rfl,L⟩|⟨v,r,rfl,rfl⟩
  ·exact z7b hm L
  ·exact Nat.le_refl _
 have O:ρ m.next=none:=hf _ (Nat.le_refl _) (by omega)
 have H:=RLe.upd1 (ρ:=ρ) (i:=m.next) (x:=(w.heap.size,0,0)) O
 have C:=a3.alloc O (lb:=.loop .ready none fn T E.toList t u d) (o:=.loop { state:=.ready,pending:=none,fn:=b.fn,tmps:=a.tmps,params:=E,assign:=t,body:=u,defers:=db }) (c:=0) rfl
  ⟨a.tmps,db,by rw[hb,Array.toArray_toList],X,s,c,b2⟩
 have S:=Same.upd1 (ρ:=ρ) (i:=m.next) (x:=(w.heap.size,0,0)) O
 have Q:=(hf.right S (Nat.le_succ _))
 have J:=zu X a7
 cases N:a.eval f with
 | func F q p=>
  rw[N] at J
  cases J with
  | func g1 g2=>
   have y:VRs (upd1 ρ m.next (w.heap.size,0,0)) (fi++[LV.func (.yield m.next) [] []]++ca) (q ++ #[Value.func (.yield w.heap.size) #[] #[]]++p).toList:=by
    simp only[Array.toList_append]
    exact((g1.mono H).append (.cons (.yield (z09 _ _ _)) .nil)).append (g2.mono H)
   obtain⟨hg,z,b0⟩:=z41 a0
   have R:Z.body.isNone=false:=by cases a6:Z.body with
    | none=>rw[a6] at z;cases z
    | some _=>rfl
   have a4:(resolve a.eval (rangeCall f w.heap.size) 0).run P { w with heap:=w.heap.push (.loop { state:=.ready,pending:=none,fn:=b.fn,tmps:=a.tmps,params:=E,assign:=t,body:=u,defers:=db }) } =
     .ok { target:=.fn (.func g) p,args:=q ++ #[Value.func (.yield w.heap.size) #[] #[]] } { w with heap:=w.heap.push (.loop { state:=.ready,pending:=none,fn:=b.fn,tmps:=a.tmps,params:=E,assign:=t,body:=u,defers:=db }) }:=by
    show Sem.run P (Deferred.ofValue (a.eval f) (#[Operand.const (Value.func (.yield w.heap.size) #[] #[])].map a.eval)) _=_
    rw[N]
    simp[Deferred.ofValue,Act.eval]
   have a1:(invoke (.fn (.func g) p) (q ++ #[Value.func (.yield w.heap.size) #[] #[]])).run P { w with heap:=w.heap.push (.loop { state:=.ready,pending:=none,fn:=b.fn,tmps:=a.tmps,params:=E,assign:=t,body:=u,defers:=db }) } =
     .ok (.enter g (q ++ #[Value.func (.yield w.heap.size) #[] #[]]++p)) { w with heap:=w.heap.push (.loop { state:=.ready,pending:=none,fn:=b.fn,tmps:=a.tmps,params:=E,assign:=t,body:=u,defers:=db }) }:=by
    simp only[invoke,callFunc,Sem.run_bind,run_program,Result.andThen_ok,hg,b0,R,Bool.false_eq_true,if_false]
    rfl
   have hstep:=stepR_rangeFunc (P:=P) (b:=b) (a:=a) (k:=k) (cs:=cs) (g:=f) G a4 a1
   rcases A with⟨v,r,rfl,L⟩|⟨v,r,rfl,rfl⟩
   ·obtain⟨V,v',w2,D,a5,j,fr,k1,k2,k3⟩:=B _ _ K Pt _ _ (q ++ #[Value.func (.yield w.heap.size) #[] #[]]++p) (b.atR { a with defers:=mark++a.defers } (.inRangeFunc w.heap.size::k)::cs) y (X.3.mono H) C (Q.left n4)
    have e:=S.trans D (Nat.le_succ _) n3
    have a8:V m.next=some (w.heap.size,0,0):=D.1 _ _ (z09 _ _ _)
    have:=ze9 (b:=b) (k:=k) (cs:=cs) (a:={ a with defers:=mark++a.defers }) B L a8 hb (b1.mono e.1) (X.mono e.1) (hd.mono e.1) j (Q.right D n3)
    refine this.after (.head hstep (k1.trans (.one ?_))) e (Nat.le_of_succ_le n3) n4
    rw[<-finish_atR_inRangeFunc w.heap.size v'];exact step_leave_returned k3
   ·obtain⟨V,v',w2,D,a5,j,fr,k1,k2,k3⟩:=B _ _ K Pt _ _ (q ++ #[Value.func (.yield w.heap.size) #[] #[]]++p) (b.atR { a with defers:=mark++a.defers } (.inRangeFunc w.heap.size::k)::cs) y (X.3.mono H) C (Q.left n4)
    have e:=S.trans D (Nat.le_succ _) n3
    have a2:=step_leave_panicked (c:=b.atR { a with defers:=mark++a.defers } (.inRangeFunc w.heap.size::k)) (cs:=cs) k3
    rw[Frame.raise_atR] at a2
    exact⟨V,{ a with defers:=mark++a.defers },w2,v',_,e,X.mono e.1,hd.mono e.1,j,a5,.head hstep (k1.trans (.one a2))⟩
 | _=>rw[N] at J;cases J
theorem z4e:∀(e:List Tmp) (f:List LV) (T T':Tm),setParams e f T=some T'->f.length=e.length
 | [],[],_,_,_=>rfl
 | p::e,v::vs,T,T',h=>by
  obtain⟨g,_,j⟩:=z9.1 (show ob (T.set p v) _=some T' from h)
  simp[z4e e vs g T' j]
 | [],_::_,_,_,h=>by cases h
 | _::_,[],_,_,h=>by cases h
theorem z4f {ρ:Rho}:∀(q:List Tmp) (z:List LV) (T T':Tm) (f:List Value) (A:Array Value),setParams q z T=some T'->VRs ρ z f->TR ρ T A ->
  ∃ j,j=(q.zip f).foldl (fun tmps (x:Tmp×Value)=>tmps.setIfInBounds x.1 x.2) A/\TR ρ T' j
 | [],[],T,T',f,A,h,g,r=>by cases h;cases g;exact⟨A,rfl,r⟩
 | p::q,v::vs,T,T',f,A,h,g,r=>by
  obtain⟨B,h1,C⟩:=z9.1 (show ob (T.set p v) _=some T' from h)
  cases g with
  | cons g u=>
   rename_i D y
   obtain⟨j,e,t⟩:=z4f q vs B T' y (A.setIfInBounds p D) C u (r.set h1 g)
   exact⟨j,e,t⟩
 | [],_::_,_,_,_,_,h,_,_=>by cases h
 | _::_,[],_,_,_,_,h,_,_=>by cases h
theorem CodeOut.boomK {Pt:Prot}{ρ:Rho}{M:Machine}{b:Frame}{k e:List Item}{cs:List Frame}{v:LV}{T:Tm}{ms:List Dfr}{m:Mem}(h:CodeOut P Pt ρ n M b k cs (.boom v T ms m)):CodeOut P Pt ρ n M b e cs (.boom v T ms m):=h
theorem zei (hm:z0n rec)(u:RecSim P rec)(b4:RecFn P rec)(d6:DrawSim P rec):RecSim P (stepT P rec):=by
 intro t o h
 cases t with
 | code fn ro c T ms m=>
  intro Pt K b k E w a hb L Z hd q O
  have h:stCode P rec fn ro c T ms m=some o:=h
  cases c with
  | skip=>cases h;exact⟨K,a,w,Same.refl _ _ _,Z,hd,q,.one stepR_skip⟩
  | label l=>cases h;exact⟨K,a,w,Same.refl _ _ _,Z,hd,q,.one stepR_label⟩
  | ret=>cases h;exact⟨K,a,w,Same.refl _ _ _,Z,hd,q,k,Steps.refl _ _⟩
  | exit id=>cases h;exact⟨K,a,w,Same.refl _ _ _,Z,hd,q,k,rfl,Steps.refl _ _⟩
  | seq x y=>
   rcases z2s (show z11 _ _=some _ from h) with⟨e1,T1,N,R,Y,V⟩|⟨v,T1,N,R,Y,rfl⟩
   ·have n1:m.next<=R.next:=hm _ _ Y
    cases e1 with
    | norm=>
     have V:rec (.code fn ro y T1 N R)=some o:=V
     have n2:R.next<=o.mem.next:=hm _ _ V
     obtain⟨r,H,J,g,A,C,D,p⟩:=u _ _ Y Pt K b (Item.code y::k) E w a hb L Z hd q (O.left n2)
     have:=u _ _ V Pt r b k E J H hb (L.mono g.1) A C D (O.right g n1)
     exact this.after (.head stepR_seq p) g n1 n2
    | ret=>
     cases V
     obtain⟨r,H,J,g,A,C,D,S,p⟩:=u _ _ Y Pt K b (Item.code y::k) E w a hb L Z hd q O
     exact⟨r,H,J,g,A,C,D,S,.head stepR_seq p⟩
    | exit id=>
     cases V
     obtain⟨r,H,J,g,A,C,D,S,hk,p⟩:=u _ _ Y Pt K b (Item.code y::k) E w a hb L Z hd q O
     exact⟨r,H,J,g,A,C,D,S,hk,.head stepR_seq p⟩
   ·have:=u _ _ Y Pt K b (Item.code y::k) E w a hb L Z hd q O
    exact CodeOut.of_steps (.one stepR_seq) this.boomK
  | cond x y z=>
   obtain⟨v,hv,Y⟩:=z9.1 (show ob (ev T x) _=some _ from h)
   obtain⟨c,rfl,V⟩:=z1w.1 Y
   have hx:=(zu Z hv).bool_inv
   cases c with
   | true=>
    have:=u (.code fn ro y T ms m) _ V Pt K b k E w a hb L Z hd q O
    exact this.of_steps (.one (stepR_cond hx))
   | false=>
    have:=u (.code fn ro z T ms m) _ V Pt K b k E w a hb L Z hd q O
    exact this.of_steps (.one (stepR_cond hx))
  | block id x=>
   rcases z2s (show z11 _ _=some _ from h) with⟨e1,T1,N,R,Y,V⟩|⟨v,T1,N,R,Y,rfl⟩
   ·have c7:R=o.mem->∃ a9 a' w',Same K a9 m.next R.next/\TR a9 T1 a'.tmps/\DR a9 N a'.defers/\Rel Pt a9 R w'/\Arr P (lone (b.atR a (Item.code x::Item.inBlock id::k)) E w) b (Item.inBlock id::k) E e1 a' w':=by
     intro e
     exact u _ _ Y Pt K b (.inBlock id::k) E w a hb L Z hd q (by rw[<-e] at O;exact O)
    cases e1 with
    | norm=>
     cases V
     obtain⟨r,H,J,g,A,C,D,p⟩:=c7 rfl
     exact⟨r,H,J,g,A,C,D,.head stepR_block (Steps.trans p (.one stepR_inBlock))⟩
    | ret=>
     cases V
     obtain⟨r,H,J,g,A,C,D,S,p⟩:=c7 rfl
     exact⟨r,H,J,g,A,C,D,S,.head stepR_block p⟩
    | exit e9=>
     have V:ifb (Nat.beq e9 id) (some (Out.code .norm T1 N R)) (some (Out.code (.exit e9) T1 N R))=some o:=V
     cases hi:Nat.beq e9 id with
     | true=>
      rw[hi] at V;cases V
      have hi:=Nat.eq_of_beq_eq_true hi
      subst hi
      obtain⟨r,H,J,g,A,C,D,S,hk,p⟩:=c7 rfl
      exact⟨r,H,J,g,A,C,D,.head stepR_block (Steps.trans p (.one (stepR_exit (by rw[hk];simp[exitTo]))))⟩
     | false=>
      rw[hi] at V;cases V
      obtain⟨r,H,J,g,A,C,D,S,hk,p⟩:=c7 rfl
      have l9:(id==e9)=false:=by
       rw[beq_eq_false_iff_ne];intro e;subst e;rw[Nat.beq_refl] at hi;cases hi
      exact⟨r,H,J,g,A,C,D,S,by rw[hk];simp[exitTo,l9],.head stepR_block p⟩
   ·have:=u _ _ Y Pt K b (.inBlock id::k) E w a hb L Z hd q O
    exact CodeOut.of_steps (.one stepR_block) this.boomK
  | scope x=>
   have:=u (.code fn ro x T ms m) _ h Pt K b (.inScope x::k) E w a hb L Z hd q O
   have s0:step P (lone (b.atR a (.code (.scope x)::k)) E w)=.next (lone (b.atR a (.code x :: .inScope x::k)) E w):=step_lone_go (by simp[stepG,stepG.exec,Frame.atR])
   have s1:∀ H J,step P (lone (b.atR H (.inScope x::k)) E J)=.next (lone (b.atR H k) E J):=fun H J=>step_lone_go (by simp[stepG,stepG.exec,Frame.atR])
   refine CodeOut.of_steps (.one s0) ?_
   cases o with
   | code e T' i1 m'=>
    obtain⟨r,H,J,g,A,C,D,p⟩:=this
    refine⟨r,H,J,g,A,C,D,?_⟩
    cases e with
    | norm=>exact Steps.trans p (.one (s1 _ _))
    | ret=>obtain⟨S,p⟩:=p;exact⟨S,p⟩
    | exit id=>obtain⟨S,hk,p⟩:=p;exact⟨S,hk,p⟩
   | boom v T' i1 m'=>exact this.boomK
   | call _ _=>trivial
   | die _ _=>trivial
  | loop x=>
   rcases z2s (show z11 _ _=some _ from h) with⟨e1,T1,N,R,Y,V⟩|⟨v,T1,N,R,Y,rfl⟩
   ·have n1:m.next<=R.next:=hm _ _ Y
    cases e1 with
    | norm=>
     have V:rec (.code fn ro (.loop x) T1 N R)=some o:=V
     have n2:R.next<=o.mem.next:=hm _ _ V
     obtain⟨r,H,J,g,A,C,D,p⟩:=u _ _ Y Pt K b (.inLoop x::k) E w a hb L Z hd q (O.left n2)
     have h3:=u _ _ V Pt r b k E J H hb (L.mono g.1) A C D (O.right g n1)
     have s1:step P (lone (b.atR H (.inLoop x::k)) E J)=.next (lone (b.atR H (.code x :: .inLoop x::k)) E J):=stepR_inLoop
     have s2:step P (lone (b.atR H (.code (.loop x)::k)) E J)=.next (lone (b.atR H (.code x :: .inLoop x::k)) E J):=stepR_loop
     have pre:Steps P (lone (b.atR a (.code (.loop x)::k)) E w) (lone (b.atR H (.code x :: .inLoop x::k)) E J):=.head stepR_loop (Steps.trans p (.one s1))
     cases o with
     | code e T' i1 m'=>
      obtain⟨i3,a2,w2,i0,f1,f4,g7,f2⟩:=h3
      exact⟨i3,a2,w2,g.trans i0 n1 n2,f1,f4,g7,Arr.of_loop pre s2 f2⟩
     | boom v T' i1 m'=>
      obtain⟨i3,a2,w2,v',S,i0,f1,f4,g7,m0,j8⟩:=h3
      refine⟨i3,a2,w2,v',S,g.trans i0 n1 n2,f1,f4,g7,m0,pre.trans (Steps.tail s2 j8 fun e=>?_)⟩
      have:=ze0 e
      simp[Frame.atR,Frame.boom] at this
     | call _ _=>trivial
     | die _ _=>trivial
    | ret=>
     cases V
     obtain⟨r,H,J,g,A,C,D,S,p⟩:=u _ _ Y Pt K b (.inLoop x::k) E w a hb L Z hd q O
     exact⟨r,H,J,g,A,C,D,S,.head stepR_loop p⟩
    | exit id=>
     cases V
     obtain⟨r,H,J,g,A,C,D,S,hk,p⟩:=u _ _ Y Pt K b (.inLoop x::k) E w a hb L Z hd q O
     exact⟨r,H,J,g,A,C,D,S,hk,.head stepR_loop p⟩
   ·have:=u _ _ Y Pt K b (.inLoop x::k) E w a hb L Z hd q O
    exact CodeOut.of_steps (.one stepR_loop) this.boomK
  | region id ops dr=>
   cases dr with
   | false=>
    have Y:z0c P ro rec ops.toList ops.toList T ms m=some o:=h
    have:=z5c hm u b4 ops.toList 0 T ms m o (fun j=>by simp) Y Pt K b k E w a L Z hd q O
    refine CodeOut.of_steps (.one stepR_region) ?_
    rw[List.range_eq_range',show ops.size=ops.toList.length from by simp]
    exact this
   | true=>
    obtain⟨B,σ,τ,j4,j3,h0⟩:=zgh (show cDraw P rec ops T ms m=some o from h)
    cases f6:z04 P rec B.toList (deps B) B.toList 0 ⟨T,m,[m],0,[]⟩ with
    | some d=>
     unfold cDrawG at h0
     rw[f6] at h0
     obtain⟨T1,R,st,kk,ps⟩:=d
     obtain⟨hp,h3⟩:=za.1 (show guard' (z0q P st kk ps) _=some o from h0)
     cases h3
     obtain⟨r,H,J,g,A,C,D,a5⟩:=d6.1 ops B σ τ T T1 m R st kk ps j4 j3 f6 hp Pt K b id k E w a Z q O
     exact⟨r,H,J,g,A,by rw[C];exact hd.mono g.1,D,a5⟩
    | none=>
     unfold cDrawG at h0
     rw[f6] at h0
     obtain⟨⟨v,m2,d⟩,Y,V⟩:=z9.1 (show ob (z0a P rec B.toList (deps B) B.toList 0 ⟨T,m,[m],0,[]⟩) _=some o from h0)
     obtain⟨hp,h3⟩:=za.1 (show guard' (z0q P d.st d.k d.ps) _=some o from V)
     cases h3
     obtain⟨r,H,J,v',S,g,A,C,b6,D,a5⟩:=d6.2 ops B σ τ T m v m2 d j4 j3 Y hp Pt K b id k E w a Z q O
     refine⟨r,H,J,v',S,g,⟨A,fun i=>?_,Z.3.mono g.1⟩,by rw[C];exact hd.mono g.1,D.bump0 (z4m hm _ _ _ _ Y).2,b6,a5⟩
     show VR r ((PT.nil.get i).getD .unk) _
     rw[PT.get_nil]
     exact .unk _
  | rangeFunc f ps as bd=>
   have h:cRangeFunc rec fn ro f ps as bd T ms m=some o:=h
   cases ro with
   | none=>
    have c4:b.roundOf=none:=by
     cases l3:b.roundOf with
     | none=>rfl
     | some _=>rw[l3] at L;exact L.elim
    have h:m.new .defr (fun d m=>rfCall rec fn none f ps as bd d T (.mark d::ms) m)=some o:=h
    rw[Mem.new_eq] at h
    have n1:m.next+1<=o.mem.next:=z4c hm h
    have i9:K m.next=none:=O _ (Nat.le_refl _) (by omega)
    have g:=Same.upd1 (ρ:=K) (i:=m.next) (x:=(w.heap.size,0,0)) i9
    have g9:=q.alloc i9 (lb:=.defr) (o:=.deferred (some [])) (c:=0) rfl rfl
    have:=zbg (b:=b) (k:=k) (cs:=E) (a:=a) (w0:=w) (mark:=[{ target:=.collected w.heap.size,args:=#[] }]) hm u b4 h (z09 _ _ _) hb (by rw[c4];trivial) (Z.mono g.1)
     ⟨⟨w.heap.size,0,0,z09 _ _ _,rfl⟩,hd.mono g.1⟩ g9 (O.right g (Nat.le_succ _)) (by rw[c4];simp[Instr.enterLoop];rfl)
    exact this.after (Steps.refl _ _) g (Nat.le_succ _) n1
   | some l=>
    obtain⟨st,k0,m7,n3,m8,a',b',d',hg,Y⟩:=z1e (show atLoop m l _=some _ from h)
    cases c4:b.roundOf with
    | none=>rw[c4] at L;exact L.elim
    | some bl=>
     have j6:=L
     rw[c4] at L
     obtain⟨s,c,a6⟩:=L
     obtain⟨TT,db,hh,i4,s2,c2,i7⟩:=q.loop hg a6
     exact zbg (b:=b) (k:=k) (cs:=E) (a:=a) (w0:=w) (mark:=[]) hm u b4 Y i7 hb j6 Z hd q O (by
      rw[c4]
      unfold Instr.enterLoop Instr.getLoop
      simp only[Sem.run_bind,z02 hh (by simp),Result.andThen_ok,Sem.run_pure]
      rfl)
  | _=>cases h
 | call f as m=>
  obtain⟨fn,l6,Y⟩:=z9.1 (show stCall P rec f as m=some _ from h)
  obtain⟨T,Z,V⟩:=z9.1 Y
  obtain⟨c,hc,h3⟩:=z9.1 V
  obtain⟨hg,_,_⟩:=z41 l6
  let b:Frame:={ fn:=f,tmps:=#[],todo:=[],defers:=[],mode:=.run,kind:=.normal,roundOf:=none }
  have b9:∀ F,Frame.enter P f F .normal=b.atR { tmps:=F++Array.replicate (fn.ntmps-F.size) undef,defers:=[] } [.code c]:=by
   intro F
   simp[Frame.enter,Frame.atR,hg,hc,b]
  rcases z22 h3 with⟨e,T1,N,R,h4,h5⟩|⟨pv,T1,N,R,h4,h5⟩
  ·have b0:finRet P rec fn T1 N R=some o/\(e=.norm∨e=.ret):=by
    cases e with
    | norm=>exact⟨h5,.inl rfl⟩
    | ret=>exact⟨h5,.inr rfl⟩
    | exit id=>cases h5
   obtain⟨b0,he⟩:=b0
   have n1:m.next<=R.next:=hm _ _ h4
   have n2:R.next<=o.mem.next:=z1j hm _ _ _ b0
   cases o with
   | code _ _ _ _=>trivial
   | boom _ _ _ _=>trivial
   | die v m'=>exact absurd b0 (z58 N R)
   | call v m'=>
    intro Pt K w F E a0 hG q O
    obtain⟨r,H,J,g,A,C,D,b8⟩:=u _ _ h4 Pt K b [] E w { tmps:=F++Array.replicate (fn.ntmps-F.size) undef,defers:=[] } rfl trivial (z59 Z a0 hG) trivial q (O.left n2)
    have j5:∃ S,Steps P (lone (Frame.enter P f F .normal) E w) (lone { b.atR H S with mode:=.returning } E J):=by
     rw[b9]
     rcases he with rfl|rfl
     ·exact⟨[],Steps.trans b8 (.one (stepR_end rfl))⟩
     ·obtain⟨S,b8⟩:=b8
      exact⟨_,b8.trans (.one (stepR_ret rfl))⟩
    obtain⟨S,a5⟩:=j5
    obtain⟨a9,v',w',c9,g1,g2,g3,g4,g5,g6⟩:=z3j hm u E N R v m' b0 r J { b.atR H S with mode:=.returning } rfl rfl hg A C D (O.right g n1)
    exact⟨a9,v',w',g.trans g1 n1 n2,g2,g3,c9,a5.trans g4,g5,g6⟩
  ·have n1:m.next<=R.next:=hm _ _ h4
   have n2:R.next<=o.mem.next:=z2x hm _ _ _ h5
   have go:∀(Pt:Prot) (K:Rho) (w:World) (F:Array Value) (E:List Frame),VRs K as F.toList->GlobOk K->Rel Pt K m w->Fresh K m.next o.mem.next->∃ r H J v1 S,Same K r m.next R.next/\TR r T1 H.tmps/\DR r N H.defers/\Rel Pt r R J/\VR r pv v1/\Steps P (lone (Frame.enter P f F .normal) E w) (lone (Frame.boom (b.atR H S) v1) E J):=by
    intro Pt K w F E a0 hG q O
    obtain⟨r,H,J,v1,S,g,A,C,D,b6,a5⟩:=u _ _ h4 Pt K b [] E w { tmps:=F++Array.replicate (fn.ntmps-F.size) undef,defers:=[] } rfl trivial (z59 Z a0 hG) trivial q (O.left n2)
    exact⟨r,H,J,v1,S,g,A,C,D,b6,by rw[b9];exact a5⟩
   cases o with
   | code _ _ _ _=>trivial
   | boom _ _ _ _=>trivial
   | die v m'=>
    intro Pt K w F E a0 hG q O
    obtain⟨r,H,J,v1,S,g,A,C,D,b6,a5⟩:=go Pt K w F E a0 hG q O
    obtain⟨a9,v',w',c9,g1,g2,g3,g4,g5,g6⟩:=z3i hm u E N R _ h5 r J (Frame.boom (b.atR H S) v1) b6 rfl rfl hg A C D (O.right g n1)
    exact⟨a9,v',w',g.trans g1 n1 n2,g2,g3,c9,a5.trans g4,g5,g6⟩
   | call v m'=>
    intro Pt K w F E a0 hG q O
    obtain⟨r,H,J,v1,S,g,A,C,D,b6,a5⟩:=go Pt K w F E a0 hG q O
    obtain⟨a9,v',w',c9,g1,g2,g3,g4,g5,g6⟩:=z3i hm u E N R _ h5 r J (Frame.boom (b.atR H S) v1) b6 rfl rfl hg A C D (O.right g n1)
    exact⟨a9,v',w',g.trans g1 n1 n2,g2,g3,c9,a5.trans g4,g5,g6⟩
 | round l as m=>
  obtain⟨st,k0,fn,tm,ps,assign,M,d,hg,Y⟩:=z1e (show stRound P rec l as m=some _ from h)
  obtain⟨rfl,V⟩:=z87 Y
  obtain⟨T,Z,h3⟩:=z9.1 V
  rcases z22 h3 with⟨e,T1,N,R,h4,h5⟩|⟨_,_,_,_,_,h5⟩
  rotate_left
  ·cases h5
  obtain⟨rfl,h6⟩:=zdt h5
  obtain⟨m9,a8,e2,i2,f0,d9,e0,d2,j2,h7⟩:=z1e h6
  obtain⟨rfl,h8⟩:=z87 h7
  have c7:∃ o3,rec (.code fn (some l) M T1 N (R.upd l (some (.loop .busy a8 e2 i2 f0 d9 e0 d2))))=some o3 /\
    ((∃ e3 T3 d7 m3,o3=.code e3 T3 d7 m3/\roundEnd l e3 m3=some o) ∨ ∃ v T3 m3,o3=.boom v T3 [] m3/\(fnOf P fn).isSome=true/\o=.die v m3):=by
   rcases z22 h8 with⟨e3,T3,d7,m3,h9,d0⟩|⟨v3,T3,d7,m3,h9,d0⟩
   ·exact⟨_,h9,.inl ⟨e3,T3,d7,m3,rfl,d0⟩⟩
   ·obtain⟨hq,a4⟩:=za.1 d0
    simp only[Bool.and_eq_true,List.isEmpty_iff] at hq
    obtain⟨rfl,hq⟩:=hq
    exact⟨_,h9,.inr ⟨v3,T3,m3,rfl,hq,(Option.some.inj a4).symm⟩⟩
  obtain⟨o3,h9,f3⟩:=c7
  have n1:m.next<=R.next:=hm _ _ h4
  have n2:R.next<=o3.mem.next:=by
   have:(R.upd l (some (.loop .busy a8 e2 i2 f0 d9 e0 d2))).next<=o3.mem.next:=hm _ _ h9
   rw[Mem.next_upd] at this;exact this
  have b7:∀(Pt:Prot) (K:Rho) (w:World) (F:Array Value) (bl s c:Nat) (fc:Frame) (E:List Frame),K l=some (bl,s,c)->VRs K as F.toList->GlobOk K->Rel Pt K m w->Fresh K m.next o3.mem.next ->
    ∃(G:Array Value) (b:Frame) (r:Rho) (H:Act) (J:World),b.fn=fn/\b.roundOf=some bl/\b.kind=.normal/\Same K r m.next R.next/\TR r T1 H.tmps/\DR r N H.defers/\Rel Pt r (R.upd l (some (.loop .busy a8 e2 i2 f0 d9 e0 d2))) J /\
     (Instr.yield bl F).run P w=.ok (.round bl fn G assign M) w/\Steps P (lone (Frame.round bl fn G assign M .normal) (fc::E) w) (lone (b.atR H [.code M]) (fc::E) J):=by
   intro Pt K w F bl s c fc E a6 a0 hG q O
   obtain⟨TT,db,hh,i4,i7⟩:=q.loop hg a6
   obtain⟨G,j7,l1⟩:=z4f ps as tm T F.toList TT Z a0 i4
   let b:Frame:={ fn:=fn,tmps:=#[],todo:=[],defers:=[],mode:=.run,kind:=.normal,roundOf:=some bl }
   obtain⟨r,H,J,g,A,C,D,p⟩:=u _ _ h4 Pt K b [.beginRound,.code M] (fc::E) w { tmps:=G,defers:=[] } rfl ⟨s,c,a6⟩ l1 trivial q (O.left n2)
   have a7:=g.1 _ _ a6
   obtain⟨k2,k7,f7,i5,i8⟩:=D.loop j2 a7
   have i6:bl<J.heap.size:=(Array.getElem?_eq_some_iff.1 f7).1
   have b1:=D.turnLoop (st':=.busy) (pend':=a8) j2 a7 i5 i8 i6
   have e4:(Instr.beginRound bl).run P J=.ok () { J with heap:=J.heap.setIfInBounds bl (.loop { state:=.busy,pending:=a8,fn:=e2,tmps:=k2,params:=f0.toArray,assign:=d9,body:=e0,defers:=k7 }) }:=by
    unfold Instr.beginRound Instr.getLoop
    simp only[Sem.run_bind,z02 f7 (by simp),Result.andThen_ok,Sem.run_pure,z1l f7 (by simp)]
   have Q:(Instr.yield bl F).run P w=.ok (.round bl fn G assign M) w:=by
    unfold Instr.yield Instr.getLoop
    simp only[Sem.run_bind,z02 hh (by simp),Result.andThen_ok,Sem.run_pure]
    have hl:F.size=ps.toArray.size:=by
     have:=a0.length
     have V:=z4e ps as tm T Z
     simp at this ⊢;omega
    simp only[hl,ne_eq,not_true_eq_false,if_false,Sem.run_pure]
    rw[j7,<- Array.foldl_toList,Array.toList_zip]
   have e8:Frame.round bl fn G assign M .normal=b.atR { tmps:=G,defers:=[] } [.code assign,.beginRound,.code M]:=by
    simp[Frame.round,Frame.atR,b]
   refine⟨G,b,r,H,_,rfl,rfl,rfl,g,A,C,b1,Q,?_⟩
   rw[e8]
   exact Steps.trans p (.one (stepR_beginRound rfl e4))
  rcases f3 with⟨e3,T3,d7,m3,rfl,d0⟩|⟨v,T3,m3,rfl,hq,rfl⟩
  ·obtain⟨n0,m5,l0,n4,m6,k5,k6,d4,e7,a4⟩:=z1e d0
   have f9:o.mem.next=m3.next:=by
    cases e3 with
    | norm=>cases a4;exact Mem.next_upd _ _ _
    | ret=>cases a4;exact Mem.next_upd _ _ _
    | exit id=>cases a4;exact Mem.next_upd _ _ _
   have l4:∃ v m',o=.call v m':=by
    cases e3 with
    | norm=>cases a4;exact⟨_,_,rfl⟩
    | ret=>cases a4;exact⟨_,_,rfl⟩
    | exit id=>cases a4;exact⟨_,_,rfl⟩
   obtain⟨v,m',rfl⟩:=l4
   intro Pt K w F bl s c fc E a6 a0 hG q O
   have f9:m'.next=m3.next:=f9
   rw[f9] at O
   obtain⟨G,b,r,H,J,e5,c1,e6,g,A,C,b1,Q,d8⟩:=b7 Pt K w F bl s c fc E a6 a0 hG q O
   have a7:=g.1 _ _ a6
   obtain⟨c8,a3,w3,c5,l2,f5,c3,X⟩:=u _ _ h9 Pt r b [] (fc::E) _ H e5 (by rw[c1];exact⟨s,c,a7⟩) A C b1 (by rw[Mem.next_upd];exact O.right g n1)
   rw[Mem.next_upd] at c5
   have c0:=c5.1 _ _ a7
   obtain⟨k4,k8,f8,d1,d5⟩:=c3.loop e7 c0
   have d3:bl<w3.heap.size:=(Array.getElem?_eq_some_iff.1 f8).1
   have b5:∀ b3:Option Code,(Instr.endRound bl b3).run P w3=.ok (.bool b3.isNone) { w3 with heap:=w3.heap.setIfInBounds bl (.loop { state:=if b3.isNone then .ready else .done,pending:=b3,fn:=l0,tmps:=k4,params:=m6.toArray,assign:=k5,body:=k6,defers:=k8 }) }:=by
    intro b3
    unfold Instr.endRound Instr.getLoop
    simp only[Sem.run_bind,z02 f8 (by simp),Result.andThen_ok,Sem.run_pure,z1l f8 (by simp)]
   have b2:=g.trans c5 n1 n2
   have b2:Same K c8 m.next m3.next:=b2
   cases e3 with
   | norm=>
    cases a4
    refine⟨c8,.bool true,_,by rw[Mem.next_upd];exact b2,.bool _,c3.turnLoop (st':=.ready) (pend':=none) e7 c0 d1 d5 d3,fn,G,assign,M,Q,?_⟩
    exact d8.trans (Steps.trans X (.one (stepR_round_end c1 e6 (b5 none))))
   | ret=>
    cases a4
    obtain⟨S,X⟩:=X
    refine⟨c8,.bool false,_,by rw[Mem.next_upd];exact b2,.bool _,c3.turnLoop (st':=.done) (pend':=some .ret) e7 c0 d1 d5 d3,fn,G,assign,M,Q,?_⟩
    exact d8.trans (Steps.trans X (.one (stepR_round_ret c1 e6 (b5 (some .ret)))))
   | exit id=>
    cases a4
    obtain⟨S,hk,X⟩:=X
    refine⟨c8,.bool false,_,by rw[Mem.next_upd];exact b2,.bool _,c3.turnLoop (st':=.done) (pend':=some (.exit id)) e7 c0 d1 d5 d3,fn,G,assign,M,Q,?_⟩
    exact d8.trans (Steps.trans X (.one (stepR_round_exit c1 e6 (by rw[hk];rfl) (b5 (some (.exit id))))))
  ·intro Pt K w F bl s c fc E a6 a0 hG q O
   obtain⟨G,b,r,H,J,e5,c1,e6,g,A,C,b1,Q,d8⟩:=b7 Pt K w F bl s c fc E a6 a0 hG q O
   have a7:=g.1 _ _ a6
   obtain⟨c8,a3,w3,v3,k3,c5,l2,f5,c3,m4,j9⟩:=u _ _ h9 Pt r b [] (fc::E) _ H e5 (by rw[c1];exact⟨s,c,a7⟩) A C b1 (by rw[Mem.next_upd];exact O.right g n1)
   rw[Mem.next_upd] at c5
   have l5:a3.defers=[]:=by
    cases hx:a3.defers with
    | nil=>rfl
    | cons _ _=>rw[hx] at f5;exact f5.elim
   obtain⟨k9,j1⟩:=Option.isSome_iff_exists.1 hq
   obtain⟨l7,_,_⟩:=z41 j1
   have l8:Frame.leaving P (Frame.boom (b.atR a3 k3) v3) w3 (.panicked [{ v:=v3,recovered:=false }]):=⟨rfl,l5,k9,by show P.funcs[b.fn]?=_;rw[e5];exact l7⟩
   exact⟨c8,v3,w3,g.trans c5 n1 n2,m4,c3,fn,G,assign,M,Q,d8.trans (j9.trans (.one (step_leave_panicked l8)))⟩
end
end PvL
end
section
namespace PvL
open Go
variable {P:Program}
variable {i mask:Nat} {ops:Array Oper} {ds:List Nat}
theorem z7r {look:Nat->Nat}:∀(l:List Edge) (s:Nat),Nat.testBit (l.foldl (fun s e=>if Region.binds .any e then s ||| 2^e.on ||| look e.on else s) s) i=true ->
  Nat.testBit s i=true ∨ ∃ e∈l,Region.binds .any e=true/\(i=e.on∨Nat.testBit (look e.on) i=true)
 | [],s,h=>.inl h
 | e::es,s,h=>by
  rcases z7r es _ (show Nat.testBit (List.foldl _ (if Region.binds .any e then s ||| 2^e.on ||| look e.on else s) es) i=true from h) with h1|⟨e',g,f,h1⟩
  ·by_cases f:Region.binds .any e=true
   ·rw[if_pos f,Nat.testBit_or,Nat.testBit_or,Bool.or_eq_true,Bool.or_eq_true] at h1
    rcases h1 with(h1|h1)|h1
    ·exact .inl h1
    ·refine .inr ⟨e,List.mem_cons_self,f,.inl ?_⟩
     rw[Nat.testBit_two_pow] at h1
     exact(of_decide_eq_true h1).symm
    ·exact .inr ⟨e,List.mem_cons_self,f,.inr h1⟩
   ·rw[if_neg f] at h1;exact .inl h1
  ·exact .inr ⟨e',List.mem_cons_of_mem _ g,f,h1⟩
theorem z96 {F:Array Nat->Oper->Nat}:∀(l:List Oper) (A:Array Nat),let R:=l.foldl (fun e o=>e.push (F e o)) A
  (∀ i,i<A.size->R.getD i 0=A.getD i 0)/\R.size=A.size+l.length /\ ∀ j o,l[j]?=some o->∃ B:Array Nat,B.size=A.size+j/\(∀ i,i<B.size->R.getD i 0=B.getD i 0)/\R.getD (A.size+j) 0=F B o
 | [],A=>⟨fun _ _=>rfl,by simp,fun j o h=>by cases h⟩
 | o::os,A=>by
  obtain⟨g,u,v⟩:=z96 (F:=F) os (A.push (F A o))
  refine⟨fun i f=>?_,by simp at u ⊢;omega,fun j x p=>?_⟩
  ·rw[List.foldl_cons,g i (by simp;omega)]
   simp[Array.getElem?_push,Nat.ne_of_lt f]
  ·cases j with
   | zero=>
    cases p
    refine⟨A,by simp,fun i f=>?_,?_⟩
    ·rw[List.foldl_cons,g i (by simp;omega)]
     simp[Array.getElem?_push,Nat.ne_of_lt f]
    ·rw[List.foldl_cons,g (A.size+0) (by simp)]
     simp
   | succ j=>
    obtain⟨B,q,r,t⟩:=v j x (by simpa using p)
    refine⟨B,by simp at q;omega,fun i f=>by rw[List.foldl_cons];exact r i f,?_⟩
    rw[List.foldl_cons,show A.size+(j+1)=(A.push (F A o)).size+j by simp;omega]
    exact t
theorem zki {j:Nat}{o:Oper}(z:ops[j]?=some o)(h:Nat.testBit ((deps ops).getD j 0) i=true) :
  ∃ e∈o.after,Region.binds .any e=true/\(i=e.on ∨(e.on<j/\Nat.testBit ((deps ops).getD e.on 0) i=true)):=by
 have t:∀ j,(deps ops).getD j 0=(Region.before ops).getD j 0:=fun j=>by
  unfold deps;simp[List.getD_eq_getElem?_getD,Array.getD_eq_getD_getElem?]
 have r:Region.before ops=ops.toList.foldl (fun f o=>f.push (o.after.foldl (init:=0) fun s e=>if Region.binds .any e then s ||| 2^e.on ||| f.getD e.on 0 else s)) #[]:=by
  unfold Region.before;rw[<-Array.foldl_toList]
 obtain⟨_,_,x⟩:=z96 (F:=fun f o=>o.after.foldl (init:=0) fun s e=>if Region.binds .any e then s ||| 2^e.on ||| f.getD e.on 0 else s) ops.toList #[]
 obtain⟨B,v,p,q⟩:=x j o (by simpa using z)
 rw[t,r] at h
 simp only[Array.size_empty,Nat.zero_add] at v p q
 rw[q,<- Array.foldl_toList] at h
 rcases z7r (look:=fun n=>B.getD n 0) o.after.toList 0 h with h|⟨e,y,g,h⟩
 ·simp at h
 ·refine⟨e,by simpa using y,g,?_⟩
  rcases h with h|h
  ·exact .inl h
  ·by_cases u:e.on<B.size
   ·refine .inr ⟨by omega,?_⟩
    rw[t,r,p _ u];exact h
   ·simp[Array.getElem?_eq_none (Nat.le_of_not_lt u)] at h
theorem z5t {S:Nat->Prop}(g:∀ j o,ops[j]?=some o->S j->∀ e∈o.after,Region.binds .any e=true->S e.on) :
  ∀(n j:Nat),j<n->∀ o,ops[j]?=some o->(∀ e∈o.after,Region.binds .any e=true->S e.on)->∀ i,Nat.testBit ((deps ops).getD j 0) i=true->S i
 | 0,j,r,_,_,_,_,_=>absurd r (Nat.not_lt_zero _)
 | n+1,j,r,o,t,u,i,hi=>by
  obtain⟨e,q,p,h⟩:=zki t hi
  rcases h with rfl|⟨x,h⟩
  ·exact u e q p
  ·have v:=u e q p
   have f:e.on<ops.size:=by
    have:=(Array.getElem?_eq_some_iff.1 t).1
    omega
   exact z5t g n e.on (by omega) ops[e.on] (Array.getElem?_eq_getElem f) (g e.on _ (Array.getElem?_eq_getElem f) v) i h
theorem z3y:∀(l:List Oper) (seen:List Tmp),dstsOk l seen=true->∀(i:Nat) (o:Oper) (d:Tmp),l[i]?=some o->o.dst=some d->d∉seen
 | [],_,_,i,o,d,h,_=>by cases h
 | x::xs,seen,h,i,o,d,hi,e=>by
  unfold dstsOk at h
  cases f:x.dst with
  | none=>
   rw[f] at h
   cases i with
   | zero=>cases hi;rw[f] at e;cases e
   | succ i=>exact z3y xs seen h i o d (by simpa using hi) e
  | some g=>
   rw[f] at h
   simp only[Bool.and_eq_true,Bool.not_eq_true'] at h
   cases i with
   | zero=>cases hi;rw[f] at e;cases e;simpa using h.1
   | succ i=>exact fun j=>z3y xs (g::seen) h.2 i o d (by simpa using hi) e (List.mem_cons_of_mem _ j)
theorem z5v:∀(l:List Oper) (seen:List Tmp),dstsOk l seen=true->∀(i j:Nat) (o o':Oper) (d:Tmp),l[i]?=some o->l[j]?=some o'->o.dst=some d->o'.dst=some d->i=j
 | [],_,_,i,j,o,o',d,h,_,_,_=>by cases h
 | x::xs,seen,h,i,j,o,o',d,hi,q,p,e=>by
  unfold dstsOk at h
  have r:∀ g,x.dst=some g->dstsOk xs (g::seen)=true:=fun g f=>by rw[f] at h;simp only[Bool.and_eq_true] at h;exact h.2
  have t:x.dst=none->dstsOk xs seen=true:=fun f=>by rw[f] at h;exact h
  cases i with
  | zero=>
   cases hi
   cases j with
   | zero=>rfl
   | succ j=>exact absurd List.mem_cons_self (z3y xs _ (r d p) j o' d (by simpa using q) e)
  | succ i=>
   cases j with
   | zero=>cases q;exact absurd List.mem_cons_self (z3y xs _ (r d e) i o d (by simpa using hi) p)
   | succ j=>
    cases f:x.dst with
    | none=>rw[z5v xs seen (t f) i j o o' d (by simpa using hi) (by simpa using q) p e]
    | some g=>rw[z5v xs _ (r g f) i j o o' d (by simpa using hi) (by simpa using q) p e]
theorem zbh {e:List Tmp}:∀(l:List Oper) (j0:Nat),rowOk ds i e l j0=true->∀ j o d,l[j]?=some o->o.dst=some d->d∈e ->
  i≠j0+j/\(j0+j<i->Nat.testBit (ds.getD i 0) (j0+j)=true)/\(i<j0+j->Nat.testBit (ds.getD (j0+j) 0) i=true)
 | [],_,_,j,o,d,h,_,_=>by cases h
 | x::xs,j0,h,j,o,d,r,q,t=>by
  obtain⟨h1,u⟩:=(Bool.and_eq_true _ _▸h:pairOk ds e i j0 x=true/\rowOk ds i e xs (j0+1)=true)
  cases j with
  | zero=>
   cases r
   unfold pairOk at h1
   rw[q] at h1
   simp only[Bool.or_eq_true,Bool.not_eq_true',List.contains_eq_mem,decide_eq_false_iff_not] at h1
   rcases h1 with h1|h1
   ·exact absurd t h1
   ·by_cases g:i=j0
    ·subst g;rw[show Nat.beq i i=true from Nat.beq_refl i] at h1;cases h1
    ·rw[show Nat.beq i j0=false from by cases f:Nat.beq i j0 with
      | false=>rfl
      | true=>exact absurd (Nat.eq_of_beq_eq_true f) g] at h1
     refine⟨by simpa using g,fun p=>?_,fun p=>?_⟩
     ·rw[show Nat.blt j0 i=true from by rw[Nat.blt_eq];simpa using p] at h1;exact h1
     ·rw[show Nat.blt j0 i=false from by
       cases f:Nat.blt j0 i with
       | false=>rfl
       | true=>rw[Nat.blt_eq] at f;simp at p;omega] at h1;exact h1
  | succ j=>
   have:=zbh xs (j0+1) u j o d (by simpa using r) q t
   rw[show j0+(j+1)=j0+1+j by omega];exact this
theorem z7t {ops:List Oper}:∀(l:List Oper) (i0:Nat),pairsOk ops ds l i0=true->∀ i e,l[i]?=some e->rowOk ds (i0+i) (looks ops e) ops 0=true
 | [],_,_,i,e,h=>by cases h
 | x::xs,i0,h,i,e,hi=>by
  obtain⟨h1,f⟩:=(Bool.and_eq_true _ _▸h:rowOk ds i0 (looks ops x) ops 0=true/\pairsOk ops ds xs (i0+1)=true)
  cases i with
  | zero=>cases hi;exact h1
  | succ i=>rw[show i0+(i+1)=i0+1+i by omega];exact z7t xs (i0+1) f i e (by simpa using hi)
theorem z65:∀(l:List Oper) (i0 n:Nat),anchorOk P mask l i0 n=true->∀ i o,i<n->l[i]?=some o->(zf P o.op||isNew P o.op)=true->Nat.testBit mask (i0+i)=true
 | [],_,_,_,i,o,_,h,_=>by cases h
 | x::xs,i0,0,_,i,o,hi,_,_=>absurd hi (Nat.not_lt_zero _)
 | x::xs,i0,n+1,h,i,o,hi,f,e=>by
  obtain⟨h1,g⟩:=(Bool.and_eq_true _ _▸h:ifb (zf P x.op||isNew P x.op) (Nat.testBit mask i0) true=true/\anchorOk P mask xs (i0+1) n=true)
  cases i with
  | zero=>cases f;rw[e] at h1;exact h1
  | succ i=>rw[show i0+(i+1)=i0+1+i by omega];exact z65 xs (i0+1) n g i o (by omega) (by simpa using f) e
theorem z5l {ops:List Oper}:∀(l:List Oper) (i0:Nat),anchorsOk P ops ds l i0=true->∀ i o,l[i]?=some o->zf P o.op=true->anchorOk P (ds.getD (i0+i) 0) ops 0 (i0+i)=true
 | [],_,_,i,o,h,_=>by cases h
 | x::xs,i0,h,i,o,hi,e=>by
  obtain⟨h1,f⟩:=(Bool.and_eq_true _ _▸h:ifb (zf P x.op) (anchorOk P (ds.getD i0 0) ops 0 i0) true=true/\anchorsOk P ops ds xs (i0+1)=true)
  cases i with
  | zero=>cases hi;rw[e] at h1;exact h1
  | succ i=>rw[show i0+(i+1)=i0+1+i by omega];exact z5l xs (i0+1) f i o (by simpa using hi) e
theorem z7o:∀(l:List Oper) (i0:Nat),edgesOk l i0=true->∀ i o,l[i]?=some o->∀ e∈o.after,Region.binds .any e=true->e.on<i0+i
 | [],_,_,i,o,h,_,_,_=>by cases h
 | x::xs,i0,h,i,o,hi,e,g,f=>by
  obtain⟨h1,j⟩:=(Bool.and_eq_true _ _▸h:x.after.toList.all (fun e=>!Region.binds .any e||Nat.blt e.on i0)=true/\edgesOk xs (i0+1)=true)
  cases i with
  | zero=>
   cases hi
   have:=List.all_eq_true.1 h1 e (by simpa using g)
   rw[f] at this
   simpa [Nat.blt_eq] using this
  | succ i=>
   have:=z7o xs (i0+1) j i o (by simpa using hi) e g f
   omega
structure RegOk (P:Program) (ops:Array Oper):Prop where
 uniq:∀(i j:Nat) (o o':Oper) (d:Tmp),ops[i]?=some o->ops[j]?=some o'->o.dst=some d->o'.dst=some d->i=j
 pair:∀(i j:Nat) (oi oj:Oper) (d:Tmp),ops[i]?=some oi->ops[j]?=some oj->oj.dst=some d->d ∈ looks ops.toList oi ->
  i ≠ j /\ (j < i->Nat.testBit ((deps ops).getD i 0) j=true) /\ (i < j->Nat.testBit ((deps ops).getD j 0) i=true)
 anch:∀(j:Nat) (oj:Oper),ops[j]?=some oj->zf P oj.op=true->∀(i:Nat) (oi:Oper),i < j->ops[i]?=some oi->(zf P oi.op || isNew P oi.op)=true->Nat.testBit ((deps ops).getD j 0) i=true
 edge:∀(j:Nat) (oj:Oper),ops[j]?=some oj->∀ e ∈ oj.after,Region.binds .any e=true->e.on < j
theorem z4b (h:regionOk P ops=true):RegOk P ops:=by
 unfold regionOk at h
 simp only[Bool.and_eq_true] at h
 obtain⟨v,x,y,z⟩:=h
 refine⟨fun i j o E d g f q r=>z5v _ _ v i j o E d (by simpa using g) (by simpa using f) q r,fun i j u p d g f q D=>?_,fun j p f C i u F g t=>?_,fun j p f e B A=>?_⟩
 ·have:=zbh _ 0 (z7t _ 0 x i u (by simpa using g)) j p d (by simpa using f) q D
  simpa using this
 ·have:=z65 _ 0 _ (z5l _ 0 y j p (by simpa using f) C) i u (by omega) (by simpa using g) t
  simpa using this
 ·have:=z7o _ 0 z j p (by simpa using f) e B A
  omega
noncomputable def acnt (P:Program)(p:Nat->Bool):List Oper->Nat->Nat
 | [],_=>0
 | o::os,i=>(ifb (zf P o.op&&p i) 1 0)+acnt P p os (i+1)
theorem z7h:∀(l:List Oper) (i:Nat),z0s P mask l i=acnt P (Nat.testBit mask) l i
 | [],_=>rfl
 | o::os,i=>by show _+z0s P mask os (i+1)=_;rw[z7h os (i+1)];rfl
theorem z5k {m:Nat}:∀(l:List Oper) (i:Nat),ds.length=i+l.length->z07 P m l (ds.drop i)=acnt P (fun j=>!(Nat.testBit (ds.getD j 0) m)) l i
 | [],i,h=>by rw[show ds.drop i=[] from by simp at h;simp[h]];rfl
 | o::os,i,h=>by
  have e:i<ds.length:=by simp at h;omega
  rw[List.drop_eq_getElem_cons e]
  show(ifb (zf P o.op && !(Nat.testBit ds[i] m)) 1 0)+z07 P m os (ds.drop (i+1))=_
  rw[z5k os (i+1) (by simp at h;omega)]
  show _=(ifb (zf P o.op && !(Nat.testBit (ds.getD i 0) m)) 1 0)+_
  rw[show ds.getD i 0=ds[i] from by simp[e]]
theorem z4i {p q:Nat->Bool}:∀(l:List Oper) (i:Nat),(∀ j o,l[j]?=some o->zf P o.op=true->p (i+j)=true->q (i+j)=true)->acnt P p l i<=acnt P q l i
 | [],_,_=>Nat.le_refl _
 | o::os,i,h=>by
  have h1:=z4i os (i+1) fun j o r=>by rw[show i+1+j=i+(j+1) by omega];exact h (j+1) o (by simpa using r)
  have f:ifb (zf P o.op&&p i) 1 0<=ifb (zf P o.op&&q i) 1 0:=by
   have e:=h 0 o rfl
   cases g:zf P o.op with
   | false=>exact Nat.le_refl _
   | true=>
    cases t:p i with
    | false=>exact Nat.zero_le _
    | true=>rw[show q i=true from e g t];exact Nat.le_refl _
  exact Nat.add_le_add f h1
theorem z6w {p q:Nat->Bool}(l:List Oper)(i:Nat)(h:∀ j o,l[j]?=some o->zf P o.op=true->p (i+j)=q (i+j)):acnt P p l i=acnt P q l i :=
 Nat.le_antisymm (z4i l i fun j o f e g=>by rw[<-h j o f e];exact g) (z4i l i fun j o f e g=>by rw[h j o f e];exact g)
theorem z6x:∀(l:List Oper) (i:Nat),acnt P (fun _=>false) l i=0
 | [],_=>rfl
 | o::os,i=>by show ifb (zf P o.op&&false) 1 0+acnt P _ os (i+1)=0;rw[z6x os,Bool.and_false];rfl
theorem zcu (n:Nat):∀(l:List Oper) (i j:Nat) (o:Oper),n=i+j->l[j]?=some o->acnt P (fun x=>Nat.blt x (n+1)) l i=acnt P (fun x=>Nat.blt x n) l i+ifb (zf P o.op) 1 0
 | [],_,_,_,_,h=>by cases h
 | x::xs,i,0,o,r,h=>by
  cases h
  have f:Nat.blt i (n+1)=true:=by rw[Nat.blt_eq];omega
  have g:Nat.blt i n=false:=by
   cases e:Nat.blt i n with
   | false=>rfl
   | true=>rw[Nat.blt_eq] at e;omega
  show ifb (zf P x.op&&Nat.blt i (n+1)) 1 0+acnt P _ xs (i+1)=ifb (zf P x.op&&Nat.blt i n) 1 0+acnt P _ xs (i+1)+_
  rw[f,g,z6w (q:=fun _=>false) xs (i+1),z6w (p:=fun x=>Nat.blt x n) (q:=fun _=>false) xs (i+1),z6x]
  ·simp[ifb]
  ·intro j o _ _
   cases e:Nat.blt (i+1+j) n with
   | false=>rfl
   | true=>rw[Nat.blt_eq] at e;omega
  ·intro j o _ _
   cases e:Nat.blt (i+1+j) (n+1) with
   | false=>rfl
   | true=>rw[Nat.blt_eq] at e;omega
 | x::xs,i,j+1,o,r,h=>by
  have f:Nat.blt i (n+1)=true:=by rw[Nat.blt_eq];omega
  have g:Nat.blt i n=true:=by rw[Nat.blt_eq];omega
  show ifb (zf P x.op&&Nat.blt i (n+1)) 1 0+acnt P _ xs (i+1)=ifb (zf P x.op&&Nat.blt i n) 1 0+acnt P _ xs (i+1)+_
  rw[f,g,zcu n xs (i+1) j o (by omega) (by simpa using h)]
  omega
end PvL
end
section
namespace PvL
open Go
section congr
variable {P:Program} {T U:Tm}
theorem zny{x:Operand}(h:∀ t,x=.tmp t->T.get t=U.get t):ev T x=ev U x:=by
 cases x with
 | tmp t=>show evT T t=evT U t;rw[z39,z39,h t rfl]
 | _=>rfl
theorem z6i:∀ {l:List Operand},(∀ x∈l,ev T x=ev U x)->evs T l=evs U l
 | [],_=>rfl
 | x::xs,h=>by
  show ob (ev T x) _=ob (ev U x) _
  rw[h x List.mem_cons_self,z6i fun y e=>h y (List.mem_cons_of_mem _ e)]
theorem z3z:∀ {l:List (Nat×Operand)},(∀ x∈l,ev T x.2=ev U x.2)->evParts T l=evParts U l
 | [],_=>rfl
 |(i,x)::xs,h=>by
  show ob (ev T x) _=ob (ev U x) _
  rw[h (i,x) List.mem_cons_self,z3z fun y e=>h y (List.mem_cons_of_mem _ e)]
theorem z5w{x:Option Operand}(h:∀ y,x=some y->ev T y=ev U y):evOpt T x=evOpt U x:=by
 cases x with
 | none=>rfl
 | some y=>show ob (ev T y) _=ob (ev U y) _;rw[h y rfl]
theorem zlr(o:Op)(m:Mem)(A:∀ t,Operand.tmp t∈o.operands->T.get t=U.get t):op1 P o T m=op1 P o U m:=by
 have h:∀ x∈o.operands,ev T x=ev U x:=fun x j=>zny fun t e=>A t (e▸j)
 clear A
 cases o<;>simp only[Op.operands] at h
 case move x=>show oMove x T m=oMove x U m;unfold oMove;rw[h x (by simp)]
 case assign x=>show oMove x T m=oMove x U m;unfold oMove;rw[h x (by simp)]
 case pick c a b=>show oPick c a b T m=oPick c a b U m;unfold oPick;rw[h c (by simp),h a (by simp),h b (by simp)]
 case alloc t=>rfl
 case box t x=>show oBox t x T m=oBox t x U m;unfold oBox;rw[h x (by simp)]
 case build t q=>show oBuild P t q T m=oBuild P t q U m;unfold oBuild;rw[z3z (fun x j=>h x.2 (by simp;exact⟨x.1,by simpa using j⟩))]
 case buildSlice t n q=>show oBuildSlice P t n q T m=oBuildSlice P t n q U m;unfold oBuildSlice;rw[z3z (fun x j=>h x.2 (by simp;exact⟨x.1,by simpa using j⟩))]
 case load t a=>show oLoad P t a T m=oLoad P t a U m;unfold oLoad;rw[h a (by simp)]
 case store t a x=>show oStore P t a x T m=oStore P t a x U m;unfold oStore;rw[h a (by simp),h x (by simp)]
 case nilCheck x=>show oNilCheck x T m=oNilCheck x U m;unfold oNilCheck;rw[h x (by simp)]
 case binOp op t x y u=>show oBin P op t x y u T m=oBin P op t x y u U m;unfold oBin;rw[h x (by simp),h y (by simp)]
 case unOp op t x=>show oUn op t x T m=oUn op t x U m;unfold oUn;rw[h x (by simp)]
 case convert s d x=>show oConv P s d x T m=oConv P s d x U m;unfold oConv;rw[h x (by simp)]
 case makeFunc fn a b=>show oMakeFunc fn a b T m=oMakeFunc fn a b U m;unfold oMakeFunc;rw[z6i (l:=a.toList) fun x j=>h x (by simp at j ⊢;exact .inl j),z6i (l:=b.toList) fun x j=>h x (by simp at j ⊢;exact .inr j)]
 case makeMap t r=>rfl
 case makeSlice t l c=>show oMakeSlice P t l c T m=oMakeSlice P t l c U m;unfold oMakeSlice;rw[h l (by simp),h c (by simp)]
 case slice t x lo hi z=>
  show oSlice P t x lo hi z T m=oSlice P t x lo hi z U m
  unfold oSlice
  rw[h x (by simp),z5w (x:=lo) fun y e=>h y (by simp[e]),z5w (x:=hi) fun y e=>h y (by simp[e]),z5w (x:=z) fun y e=>h y (by simp[e])]
 case fieldAddr t x f=>show oFieldAddr P t x f T m=oFieldAddr P t x f U m;unfold oFieldAddr;rw[h x (by simp)]
 case field t x f=>show oField P t x f T m=oField P t x f U m;unfold oField;rw[h x (by simp)]
 case indexAddr t x i=>show oIndexAddr P t x i T m=oIndexAddr P t x i U m;unfold oIndexAddr;rw[h x (by simp),h i (by simp)]
 case index t x i=>show oIndex P t x i T m=oIndex P t x i U m;unfold oIndex;rw[h x (by simp),h i (by simp)]
 case lookup t x i ok=>show oLookup P t x i ok T m=oLookup P t x i ok U m;unfold oLookup;rw[h x (by simp),h i (by simp)]
 case mapUpdate t x k v=>show oMapUpdate P t x k v T m=oMapUpdate P t x k v U m;unfold oMapUpdate;rw[h x (by simp),h k (by simp),h v (by simp)]
 case insert t x k v=>show oMapUpdate P t x k v T m=oMapUpdate P t x k v U m;unfold oMapUpdate;rw[h x (by simp),h k (by simp),h v (by simp)]
 case extract x i=>show oExtract x i T m=oExtract x i U m;unfold oExtract;rw[h x (by simp)]
 case makeInterface t x=>show oMkIface P t x T m=oMkIface P t x U m;unfold oMkIface;rw[h x (by simp)]
 case typeAssert x t u ok=>show oAssert P x t u ok T m=oAssert P x t u ok U m;unfold oAssert;rw[h x (by simp)]
 case call c=>
  show oCall P c T m=oCall P c U m
  obtain⟨p,g,B⟩:=c
  have C:evs T g.toList=evs U g.toList:=z6i fun x j=>h x (by simp at j;simp[Call.operands,j])
  unfold oCall
  show ob (evs T g.toList) _=ob (evs U g.toList) _
  rw[C]
  congr 1
  funext as
  cases p with
  | value f=>show nE (extKO P f) (ob (ev T f) _) _=nE (extKO P f) (ob (ev U f) _) _;rw[h f (by simp[Call.operands])]
  | invoke r n=>show ob (ev T r) _=ob (ev U r) _;rw[h r (by simp[Call.operands])]
  | builtin b=>rfl
 all_goals rfl
end congr
section kinds
variable {P:Program} {T:Tm} {m:Mem}
theorem z0l{α e h:Type}{x:Option α}{f:α->Option e}{g:e->Option h}:ob (ob x f) g=ob x (fun a=>ob (f a) g):=by cases x<;>rfl
theorem zdf{o:Op}(h:cls P o=.mover):cls0 o=.mover:=by
 cases o<;>first|exact h|(exfalso;cases h;done)|skip
 case call c=>
  obtain⟨e,j,p⟩:=c
  cases e with
  | value f=>
   have h:oe (calleeFn ⟨.value f,j,p⟩) Cls.anchor (fun f=>ifb (z1i P 3 f) Cls.calm Cls.anchor)=.mover:=h
   cases q:calleeFn ⟨.value f,j,p⟩ with
   | none=>rw[q] at h;cases h
   | some g=>
    rw[q] at h
    have h:ifb (z1i P 3 g) Cls.calm Cls.anchor=.mover:=h
    cases t:z1i P 3 g<;>rw[t] at h<;>cases h
  | invoke r n=>exact h
  | builtin b=>cases b<;>exact h
theorem zc1{o:Op}(h:cls P o=.new):cls0 o=.new:=by
 cases o<;>first|exact h|(exfalso;cases h;done)|skip
 case call c=>
  obtain⟨e,j,p⟩:=c
  cases e with
  | value f=>
   have h:oe (calleeFn ⟨.value f,j,p⟩) Cls.anchor (fun f=>ifb (z1i P 3 f) Cls.calm Cls.anchor)=.new:=h
   cases q:calleeFn ⟨.value f,j,p⟩ with
   | none=>rw[q] at h;cases h
   | some g=>
    rw[q] at h
    have h:ifb (z1i P 3 g) Cls.calm Cls.anchor=.new:=h
    cases t:z1i P 3 g<;>rw[t] at h<;>cases h
  | invoke r n=>exact h
  | builtin b=>cases b<;>exact h
theorem zno{o:Op}(h:cls P o=.calm):∃ f args e,o=.call ⟨.value (.func f),args,e⟩/\z1i P 3 f=true:=by
 cases o<;>first|(exfalso;cases h;done)|skip
 case call c=>
  obtain⟨j,args,e⟩:=c
  cases j with
  | value f=>
   have h:oe (calleeFn ⟨.value f,args,e⟩) Cls.anchor (fun f=>ifb (z1i P 3 f) Cls.calm Cls.anchor)=.calm:=h
   cases f with
   | func g=>
    have h:ifb (z1i P 3 g) Cls.calm Cls.anchor=.calm:=h
    refine⟨g,args,e,rfl,?_⟩
    cases p:z1i P 3 g with
    | true=>rfl
    | false=>rw[p] at h;cases h
   | _=>cases h
  | invoke r n=>cases h
  | builtin b=>cases b<;>cases h
def Mv(P:Program)(T:Tm)(o:Op):Prop:=∃ X:Mem->Option LV,(∀ m,op1 P o T m=ob (X m) (rv m))/\(z0o o=false->∀ m e,X m=X e)
theorem zsi{o:Op}(h:∀ m,op1 P o T m=none):Mv P T o:=⟨fun _=>none,h,fun _ _ _=>rfl⟩
theorem z21{o:Op}(X:Option LV)(h:∀ m,op1 P o T m=ob X (rv m)):Mv P T o:=⟨fun _=>X,h,fun _ _ _=>rfl⟩
theorem z46{o:Op}(f:z0o o=true)(X:Mem->Option LV)(h:∀ m,op1 P o T m=ob (X m) (rv m)):Mv P T o:=⟨X,h,fun e=>by rw[f] at e;cases e⟩
theorem zls(o:Op)(q:cls0 o=.mover):Mv P T o:=by
 cases o<;>first|(cases q;done)|skip
 case move x=>exact z21 (ev T x) fun m=>rfl
 case assign x=>exact z21 (ev T x) fun m=>rfl
 case pick c a b=>
  refine z21 (ob (ev T c) fun c=>asBool c fun c=>ifb c (ev T a) (ev T b)) fun m=>?_
  rw[z0l]
  show ob (ev T c) _=_
  congr 1
  funext v
  cases v<;>try rfl
  rename_i b;cases b<;>rfl
 case build t B=>exact z21 (ob (evParts T B.toList) fun B=>buildL P t B) fun m=>by rw[z0l];rfl
 case load t a=>exact z46 rfl (fun m=>ob (ev T a) fun a=>loadT P t m a) fun m=>by rw[z0l];rfl
 case nilCheck x=>exact z21 (ob (ev T x) fun v=>nilCheckL v) fun m=>by rw[z0l];rfl
 case binOp op t x y u=>exact z21 (ob (ev T x) fun a=>ob (ev T y) fun b=>ifb (ifb (isNilI a) (ifb (isNilI b) (isNilC y) false) false) (nilNil P op t) (binL P op t a b)) fun m=>by simp only[z0l];rfl
 case unOp op t x=>exact z21 (ob (ev T x) fun a=>unL op a) fun m=>by simp only[z0l];rfl
 case convert s d x=>exact z46 rfl (fun m=>ob (ev T x) fun a=>convM P s d a m) fun m=>by simp only[z0l];rfl
 case makeInterface t x=>
  refine z21 (guard' (z0e P t) (ob (ev T x) fun v=>some (.iface t v))) fun m=>?_
  show guard' (z0e P t) _=_
  cases z0e P t with
  | false=>rfl
  | true=>
   show ob (ev T x) _=ob (ob (ev T x) _) _
   simp only[z0l]
   first|done|rfl
 case typeAssert x t u ok=>
  refine z21 (guard' (z0e P u) (ob (ev T x) fun v=>assertL P u ok v)) fun m=>?_
  show guard' (z0e P u) _=_
  cases z0e P u with
  | false=>rfl
  | true=>
   show ob (ev T x) _=ob (ob (ev T x) _) _
   simp only[z0l]
 case makeFunc fn a b=>
  refine z21 (fnFunc fn fun g=>ob (evs T a.toList) fun a=>ob (evs T b.toList) fun b=>some (.func (.func g) a b)) fun m=>?_
  cases fn<;>first|rfl|skip
  show ob (evs T a.toList) _=ob (ob (evs T a.toList) _) _
  simp only[z0l]
  rfl
 case slice t x lo z A=>exact z46 rfl (fun m=>ob (ev T x) fun x=>ob (evOpt T lo) fun lo=>ob (evOpt T z) fun z=>ob (evOpt T A) fun A=>sliceL P t x lo z A m) fun m=>by simp only[z0l];rfl
 case fieldAddr t x f=>exact z21 (ob (ev T x) fun v=>fieldAddrL P t v f) fun m=>by simp only[z0l];rfl
 case field t x f=>exact z21 (ob (ev T x) fun v=>fieldL P t v f) fun m=>by simp only[z0l];rfl
 case indexAddr t x i=>exact z21 (ob (ev T x) fun v=>ob (ev T i) fun i=>indexAddrL P t v i) fun m=>by simp only[z0l];rfl
 case index t x i=>exact z21 (ob (ev T x) fun v=>ob (ev T i) fun i=>indexL P t v i) fun m=>by simp only[z0l];rfl
 case lookup t x i ok=>exact z46 rfl (fun m=>ob (ev T x) fun v=>ob (ev T i) fun i=>lookupL P t v i ok m) fun m=>by simp only[z0l];rfl
 case extract x i=>
  refine z21 (ob (ev T x) fun v=>asTup v fun vs=>nth vs i) fun m=>?_
  rw[z0l]
  show ob (ev T x) _=_
  congr 1
  funext v
  cases v<;>rfl
 case call c=>
  obtain⟨j,e,p⟩:=c
  cases j with
  | value f=>cases q
  | invoke r n=>cases q
  | builtin b=>
   cases b<;>first|(cases q;done)|skip
   ·refine z46 rfl (fun m=>ob (evs T e.toList) fun h=>lE p.toList none fun t _=>lE h none fun x _=>lenL P t x m) fun m=>?_
    rw[z0l]
    show ob (evs T e.toList) _=_
    congr 1
    funext h
    cases p.toList<;>cases h<;>rfl
   all_goals (
    first
    |(refine z46 rfl (fun m=>ob (evs T e.toList) fun h=>lE h none fun x C=>foldL max2L C x) fun m=>?_
      rw[z0l]
      show ob (evs T e.toList) _=_
      congr 1
      funext h
      cases h<;>rfl)
    |(refine z46 rfl (fun m=>ob (evs T e.toList) fun h=>lE h none fun x C=>foldL min2L C x) fun m=>?_
      rw[z0l]
      show ob (evs T e.toList) _=_
      congr 1
      funext h
      cases h<;>rfl))
 all_goals exact zsi fun m=>rfl
theorem zcb(o:Op)(G:cls0 o=.new){r:R1}(h:op1 P o T m=some r):∃ v lb,r=.val v (m.push lb)/\isRo lb=false /\ ∀ M:Mem,M.next=m.next->op1 P o T M=some (.val v (M.push lb)):=by
 cases o<;>first|(cases G;done)|skip
 case alloc t=>
  obtain⟨z,hz,g⟩:=z9.1 (show ob (zeroL P t) _=some r from h)
  obtain⟨L,f⟩:=za.1 g
  obtain⟨u,f⟩:=za.1 (show guard' (plainT t) _=some r from f)
  rw[Mem.new_eq] at f
  cases f
  refine⟨_,_,rfl,rfl,fun M p=>?_⟩
  show ob (zeroL P t) _=_
  rw[hz]
  show guard' _ _=_
  rw[L]
  show newPtr t z M=_
  unfold newPtr
  rw[u,zb,Mem.new_eq,p]
 case box t x=>
  obtain⟨z,hz,g⟩:=z9.1 (show ob (ev T x) _=some r from h)
  obtain⟨L,f⟩:=za.1 g
  obtain⟨u,f⟩:=za.1 (show guard' (plainT t) _=some r from f)
  rw[Mem.new_eq] at f
  cases f
  refine⟨_,_,rfl,rfl,fun M p=>?_⟩
  show ob (ev T x) _=_
  rw[hz]
  show guard' _ _=_
  rw[L]
  show newPtr t z M=_
  unfold newPtr
  rw[u,zb,Mem.new_eq,p]
 case buildSlice t n S=>
  obtain⟨A,hp,g⟩:=z9.1 (show ob (evParts T S.toList) _=some r from h)
  obtain⟨e,K,f⟩:=z9.1 (show ob (z16 P t) _=some r from g)
  obtain⟨sz,y,E⟩:=z9.1 f
  obtain⟨z,hz,F⟩:=z9.1 E
  obtain⟨B,h5⟩:=za.1 F
  obtain⟨c,H,D⟩:=z9.1 h5
  rw[Mem.new_eq] at D
  cases D
  refine⟨_,_,rfl,rfl,fun M p=>?_⟩
  show ob (evParts T S.toList) _=_
  rw[hp]
  show buildSliceL P t n A M rvm=_
  unfold buildSliceL
  rw[K]
  show ob (szOf P e) _=_
  rw[y]
  show ob (zeroL P e) _=_
  rw[hz]
  show guard' _ _=_
  rw[B]
  show ob (fillL _ _ _) _=_
  rw[H]
  show Mem.new M _ _=_
  rw[Mem.new_eq,p]
  rfl
 case makeMap t C=>
  obtain⟨B,g⟩:=za.1 (show guard' C.isNone (m.new (.map [] [] 0) fun id m=>some (R1.val (.map (some id)) m))=some r from h)
  rw[Mem.new_eq] at g
  cases g
  refine⟨_,_,rfl,rfl,fun M p=>?_⟩
  show guard' C.isNone (M.new (.map [] [] 0) fun id m=>some (R1.val (.map (some id)) m))=_
  rw[B,Mem.new_eq,p];rfl
 case makeSlice t l c=>
  obtain⟨lv,hl,g⟩:=z9.1 (show ob (ev T l) _=some r from h)
  obtain⟨cv,J,f⟩:=z9.1 g
  obtain⟨e,K,E⟩:=z9.1 (show ob (z16 P t) _=some r from f)
  obtain⟨k1,Q,rfl,F⟩:=zj.1 E
  obtain⟨k2,R,rfl,h5⟩:=zj.1 F
  cases Q with
  | negSucc q=>cases h5
  | ofNat Q=>
  cases R with
  | negSucc q=>cases h5
  | ofNat R=>
  obtain⟨sz,y,D⟩:=z9.1 (show ob (szOf P e) _=some r from h5)
  obtain⟨z,hz,Y⟩:=z9.1 D
  obtain⟨X,hb,Z⟩:=z9.1 Y
  obtain⟨B,O⟩:=za.1 Z
  rw[Mem.new_eq] at O
  cases O
  refine⟨_,_,rfl,rfl,fun M p=>?_⟩
  show ob (ev T l) _=_
  rw[hl,z8,J,z8]
  show ob (z16 P t) _=_
  rw[K]
  show ob (szOf P e) _=_
  rw[y]
  show ob (zeroL P e) _=_
  rw[hz]
  show ob (bytesOfT P e) _=_
  rw[hb]
  show guard' _ _=_
  rw[B]
  show Mem.new M _ _=_
  rw[Mem.new_eq,p]
  rfl
 case call c=>
  obtain⟨j,N,V⟩:=c
  cases j with
  | builtin b=>cases b<;>cases G
  | _=>cases G
