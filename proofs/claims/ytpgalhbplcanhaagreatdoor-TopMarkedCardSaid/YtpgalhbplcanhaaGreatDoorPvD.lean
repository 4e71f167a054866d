/-
 The same of whole code,panics,put off calls. No condition.
-/
import Derived.Test.YtpgalhbplcanhaaGreatDoorPvC
import Derived.CallsIn
import Derived.Recover
import Derived.RangeFuncIn
import Derived.CheckFast
import Derived.Orders
section
namespace PvL
open Go
def Out.mem:Out->Mem | .code _ _ _ m | .call _ m | .boom _ _ _ m | .die _ m=>m
def Task.mem:Task->Mem | .code _ _ _ _ _ m | .call _ _ m | .round _ _ m=>m
section
variable {P:Program} {rec:Task->Option Out}
theorem z2f{r:Option Out}{k:Ex->Tm->List Dfr->Mem->Option Out}{y:Out}(h:z12 r k=some y):(∃ e T ms m,r=some (.code e T ms m) /\ k e T ms m=some y) ∨ ∃ v T ms m,r=some (.boom v T ms m) /\ y=.boom v T ms m:=by
 obtain⟨o,h1,h2⟩:=zb.1 h
 cases o with
 | code e T ms m=>exact .inl ⟨e,T,ms,m,h1,h2⟩
 | call v m=>cases h2
 | boom v T ms m=>cases h2;exact .inr ⟨v,T,ms,m,h1,rfl⟩
 | die v m=>cases h2
theorem z1r{α:Type}{r:Option Out}{k:Ex->Tm->List Dfr->Mem->Option α}{b:LV->Tm->List Dfr->Mem->Option α}{y:α}(h:z1y r k b=some y) :
  (∃ e T ms m,r=some (.code e T ms m) /\ k e T ms m=some y) ∨ ∃ v T ms m,r=some (.boom v T ms m) /\ b v T ms m=some y:=by
 obtain⟨o,h1,h2⟩:=zb.1 h
 cases o with
 | code e T ms m=>exact .inl ⟨e,T,ms,m,h1,h2⟩
 | call v m=>cases h2
 | boom v T ms m=>exact .inr ⟨v,T,ms,m,h1,h2⟩
 | die v m=>cases h2
theorem z6h{α:Type}{r:Option Out}{k:LV->Mem->Option α}{y:α}:z1x r k=some y ↔ ∃ v m,r=some (.call v m) /\ k v m=some y:=by
 unfold z1x
 rw[zb]
 constructor
 ·rintro⟨o,h1,h2⟩
  cases o with
  | code e T ms m=>cases h2
  | call v m=>exact⟨v,m,h1,h2⟩
  | boom v T ms m=>cases h2
  | die v m=>cases h2
 ·rintro⟨v,m,h1,h2⟩;exact⟨_,h1,h2⟩
theorem z2r{α:Type}{r:Option Out}{k d:LV->Mem->Option α}{y:α}(h:z1j r k d=some y):(∃ v m,r=some (.call v m) /\ k v m=some y) ∨ ∃ v m,r=some (.die v m) /\ d v m=some y:=by
 obtain⟨o,h1,h2⟩:=zb.1 h
 cases o with
 | code e T ms m=>cases h2
 | call v m=>exact .inl ⟨v,m,h1,h2⟩
 | boom v T ms m=>cases h2
 | die v m=>exact .inr ⟨v,m,h1,h2⟩
inductive z11 (rec:Task->Option Out) (X:Option R1) (T:Tm) (dst:Option Tmp):Tm->Mem->Prop
 | val {v:LV} {m':Mem} {T':Tm} (h:X=some (.val v m')) (hp:T.put dst v=some T'):z11 rec X T dst T' m'
 | skip {m':Mem} {T':Tm} (h:X=some (.skip m')) (hp:T.put dst z05=some T'):z11 rec X T dst T' m'
 | enter {f:FuncId} {as:List LV} {m1 m':Mem} {v:LV} {T':Tm} (h:X=some (.enter f as m1)) (hr:rec (.call f as m1)=some (.call v m')) (hp:T.put dst v=some T'):z11 rec X T dst T' m'
 | round {l:Nat} {as:List LV} {m1 m':Mem} {v:LV} {T':Tm} (h:X=some (.round l as m1)) (hr:rec (.round l as m1)=some (.call v m')) (hp:T.put dst v=some T'):z11 rec X T dst T' m'
abbrev OpStep(P:Program)(rec:Task->Option Out)(T:Tm)(m:Mem)(op:Op)(dst:Option Tmp):Tm->Mem->Prop:=z11 rec (op1 P op T m) T dst
inductive OpBoom (rec:Task->Option Out) (X:Option R1):LV->Mem->Prop
 | boom {v:LV} {m':Mem} (h:X=some (.boom v m')):OpBoom rec X v m'
 | enter {f:FuncId} {as:List LV} {m1 m':Mem} {v:LV} (h:X=some (.enter f as m1)) (hr:rec (.call f as m1)=some (.die v m')):OpBoom rec X v m'
 | round {l:Nat} {as:List LV} {m1 m':Mem} {v:LV} (h:X=some (.round l as m1)) (hr:rec (.round l as m1)=some (.die v m')):OpBoom rec X v m'
theorem zcg{T:Tm}{m:Mem}{op:Op}{dst:Option Tmp}{α:Type}{k:Tm->Mem->Option α}{y:α}(h:opFull P rec T m op dst k=some y):∃ T' m',OpStep P rec T m op dst T' m' /\ k T' m'=some y:=by
 obtain⟨r,h1,h2⟩:=zb.1 h
 cases r with
 | val v m' =>
  obtain⟨T',h3,h4⟩:=zb.1 (show ob (T.put dst v) (fun T=>k T m')=some y from h2)
  exact⟨T',m',.val h1 h3,h4⟩
 | skip m' =>
  obtain⟨T',h3,h4⟩:=zb.1 (show ob (T.put dst z05) (fun T=>k T m')=some y from h2)
  exact⟨T',m',.skip h1 h3,h4⟩
 | enter f as m1 =>
  obtain⟨v,m',h3,h4⟩:=z6h.1 (show z1x (rec (.call f as m1)) (fun v m=>ob (T.put dst v) fun T=>k T m)=some y from h2)
  obtain⟨T',h5,h6⟩:=zb.1 h4
  exact⟨T',m',.enter h1 h3 h5,h6⟩
 | round l as m1 =>
  obtain⟨v,m',h3,h4⟩:=z6h.1 (show z1x (rec (.round l as m1)) (fun v m=>ob (T.put dst v) fun T=>k T m)=some y from h2)
  obtain⟨T',h5,h6⟩:=zb.1 h4
  exact⟨T',m',.round h1 h3 h5,h6⟩
 | boom v m'=>cases h2
def z0j(rec:Task->Option Out):Prop:=∀ t o,rec t=some o->t.mem.next<=o.mem.next
theorem z11.next'(hm:z0j rec){X:Option R1}{n:Nat}(hX:Mono n X){T T':Tm}{m':Mem}{dst:Option Tmp}(h:z11 rec X T dst T' m'):n<=m'.next:=by
 cases h with
 | val h _=>exact hX _ h
 | skip h _=>exact hX _ h
 | enter h hr _=>exact Nat.le_trans (hX _ h) (hm _ _ hr)
 | round h hr _=>exact Nat.le_trans (hX _ h) (hm _ _ hr)
theorem z11.next(hm:z0j rec){T T':Tm}{m m':Mem}{op:Op}{dst:Option Tmp}(h:z11 rec (op1 P op T m) T dst T' m'):m.next<=m'.next:=h.next' hm (z3l op)
theorem OpBoom.next(hm:z0j rec){X:Option R1}{n:Nat}(hX:Mono n X){v:LV}{m':Mem}(h:OpBoom rec X v m'):n<=m'.next:=by
 cases h with
 | boom h=>exact hX _ h
 | enter h hr=>exact Nat.le_trans (hX _ h) (hm _ _ hr)
 | round h hr=>exact Nat.le_trans (hX _ h) (hm _ _ hr)
variable {ro:Option Nat}
inductive OCons (P:Program) (ro:Option Nat) (rec:Task->Option Out) (all:List Oper) (o:Oper) (os:List Oper) (T:Tm) (ms:List Dfr) (m:Mem) (q:Out):Prop
 | on (hw:wanted all T o.guard=some true) (hd:isDefer o.op=none) {T':Tm} {m':Mem} (hs:z11 rec (opA P o.op T m) T o.dst T' m') (h:z0p P ro rec all os T' ms m'=some q):OCons P ro rec all o os T ms m q
 | boom (hw:wanted all T o.guard=some true) (hd:isDefer o.op=none) {v:LV} {m':Mem} (hs:OpBoom rec (opA P o.op T m) v m') (h:q=.boom v T ms m'):OCons P ro rec all o os T ms m q
 | dfr (hw:wanted all T o.guard=some true) {c:Call} (hd:o.op=.defer c) (hr:ro=none) {d:Dfr} (hc:dfrOf c T=some d) {T':Tm} (hp:T.put o.dst z05=some T') (h:z0p P ro rec all os T' (d :: ms) m=some q):OCons P ro rec all o os T ms m q
 | off (hw:wanted all T o.guard=some false) {T':Tm} (hp:T.put o.dst z05=some T') (h:z0p P ro rec all os T' ms m=some q):OCons P ro rec all o os T ms m q
theorem z57{all:List Oper}{o:Oper}{os:List Oper}{T:Tm}{ms:List Dfr}{m:Mem}{q:Out}(h:z0p P ro rec all (o :: os) T ms m=some q):OCons P ro rec all o os T ms m q:=by
 obtain⟨dst,op,a1,a2,a3,g⟩:=o
 obtain⟨wt,hw,h⟩:=zb.1 (show ob (wanted all T g) _=some q from h)
 cases wt with
 | false =>
  obtain⟨T',h1,h2⟩:=zb.1 (show ob (T.put dst z05) (fun T=>z0p P ro rec all os T ms m)=some q from h)
  exact .off hw h1 h2
 | true =>
  rw[z07] at h
  cases hd:isDefer op with
  | some c =>
   rw[hd] at h
   obtain⟨hr,h1⟩:=zc.1 (show guard' ro.isNone _=some q from h)
   obtain⟨d,h2,h3⟩:=zb.1 h1
   obtain⟨T',h4,h5⟩:=zb.1 h3
   have hop:op=.defer c:=by
    unfold isDefer at hd
    split at hd
    ·cases hd;rfl
    ·cases hd
   have hr:ro=none:=by simpa using hr
   exact .dfr hw hop hr h2 h4 h5
  | none =>
   rw[hd] at h
   obtain⟨r,h1,h2⟩:=zb.1 (show ob (opA P op T m) _=some q from h)
   cases r with
   | val v m' =>
    obtain⟨T',h3,h4⟩:=zb.1 (show ob (T.put dst v) (fun T=>z0p P ro rec all os T ms m')=some q from h2)
    exact .on hw hd (.val h1 h3) h4
   | skip m' =>
    obtain⟨T',h3,h4⟩:=zb.1 (show ob (T.put dst z05) (fun T=>z0p P ro rec all os T ms m')=some q from h2)
    exact .on hw hd (.skip h1 h3) h4
   | enter f as m1 =>
    rcases z2r (show z1j (rec (.call f as m1)) _ _=some q from h2) with⟨v,m',h3,h4⟩|⟨v,m',h3,h4⟩
    ·obtain⟨T',h5,h6⟩:=zb.1 h4
     exact .on hw hd (.enter h1 h3 h5) h6
    ·cases h4;exact .boom hw hd (.enter h1 h3) rfl
   | round l as m1 =>
    rcases z2r (show z1j (rec (.round l as m1)) _ _=some q from h2) with⟨v,m',h3,h4⟩|⟨v,m',h3,h4⟩
    ·obtain⟨T',h5,h6⟩:=zb.1 h4
     exact .on hw hd (.round h1 h3 h5) h6
    ·cases h4;exact .boom hw hd (.round h1 h3) rfl
   | boom v m'=>cases h2;exact .boom hw hd (.boom h1) rfl
theorem z2p(hm:z0j rec){all:List Oper}:∀(os:List Oper) (T:Tm) (ms:List Dfr) (m:Mem) (q:Out),z0p P ro rec all os T ms m=some q->m.next<=q.mem.next
 | [],T,ms,m,q,h=>by cases h;exact Nat.le_refl _
 | o :: os,T,ms,m,q,h=>by
  cases z57 h with
  | on _ _ hs h2=>exact Nat.le_trans (hs.next' hm (z4h o.op)) (z2p hm os _ _ _ _ h2)
  | boom _ _ hs h2=>subst h2;exact hs.next hm (z4h o.op)
  | dfr _ _ _ _ _ h2=>exact z2p hm os _ _ _ _ h2
  | off _ _ h2=>exact z2p hm os _ _ _ _ h2
inductive DStep (P:Program) (rec:Task->Option Out) (dd:Nat->Prop) (all:List Oper) (ds:List Nat) (o:Oper) (i:Nat) (s:DS):DS->Prop
 | mover {T':Tm} {m':Mem} (hw:wanted all s.T o.guard=some true) (h:OpStep P rec s.T s.m o.op o.dst T' m') (hc:cls P o.op=.mover) :
   DStep P rec dd all ds o i s ⟨T',m',s.st,s.k,ifb (z0q o.op) ({ op:=o.op,T:=s.T,v:=dstV T' o.dst,lo:=z0x P (ds.getD i 0) all 0,hi:=z0e P i all ds } :: s.ps) s.ps⟩
 | new {T':Tm} {m':Mem} (hw:wanted all s.T o.guard=some true) (h:OpStep P rec s.T s.m o.op o.dst T' m') (hc:cls P o.op=.new):DStep P rec dd all ds o i s ⟨T',m',s.st,s.k,s.ps⟩
 | anchor {T':Tm} {m':Mem} (hw:wanted all s.T o.guard=some true) (h:OpStep P rec s.T s.m o.op o.dst T' m') (hc:cls P o.op=.anchor):DStep P rec dd all ds o i s ⟨T',m',m' :: s.st,s.k+1,s.ps⟩
 | calm {T':Tm} {m':Mem} (hw:wanted all s.T o.guard=some true) (h:OpStep P rec s.T s.m o.op o.dst T' m') (hc:cls P o.op=.calm):DStep P rec dd all ds o i s ⟨T',m',s.st,s.k,s.ps⟩
 | offA {T':Tm} (hw:wanted all s.T o.guard=some false) (h:s.T.put o.dst z05=some T') (hc:cls P o.op=.anchor):DStep P rec dd all ds o i s ⟨T',s.m,s.m :: s.st,s.k+1,s.ps⟩
 | off {T':Tm} (hw:wanted all s.T o.guard=some false) (h:s.T.put o.dst z05=some T') (hc:cls P o.op ≠ .anchor):DStep P rec dd all ds o i s ⟨T',s.m,s.st,s.k,s.ps⟩
 | deadA {T':Tm} {M:Mem} (hd:dd i) (h:s.T.put o.dst .unk=some T') (hc:cls P o.op=.anchor) (hM:s.m.next<=M.next):DStep P rec dd all ds o i s ⟨T',M,M :: s.st,s.k+1,s.ps⟩
 | dead {T':Tm} (hd:dd i) (h:s.T.put o.dst .unk=some T') (hc:cls P o.op ≠ .anchor):DStep P rec dd all ds o i s ⟨T',s.m,s.st,s.k,s.ps⟩
theorem z6t{dd:Nat->Prop}{all:List Oper}{ds:List Nat}{o:Oper}{os:List Oper}{i:Nat}{s q:DS}(h:z0d P rec all ds (o :: os) i s=some q) :
  ∃ s',DStep P rec dd all ds o i s s' /\ z0d P rec all ds os (i+1) s'=some q:=by
 obtain⟨T,m,st,k,ps⟩:=s
 unfold z0d at h
 obtain⟨wt,hw,h⟩:=zb.1 h
 cases wt with
 | true =>
  obtain⟨T',m',h1,h2⟩:=zcg (show opFull P rec T m o.op o.dst _=some q from h)
  cases hc:cls P o.op with
  | mover=>rw[hc] at h2;exact⟨_,.mover hw h1 hc,h2⟩
  | new=>rw[hc] at h2;exact⟨_,.new hw h1 hc,h2⟩
  | calm=>rw[hc] at h2;exact⟨_,.calm hw h1 hc,h2⟩
  | anchor=>rw[hc] at h2;exact⟨_,.anchor hw h1 hc,h2⟩
 | false =>
  obtain⟨T',h1,h2⟩:=zb.1 (show ob (T.put o.dst z05) _=some q from h)
  cases hc:cls P o.op with
  | anchor=>rw[hc] at h2;exact⟨_,.offA hw h1 hc,h2⟩
  | mover=>rw[hc] at h2;exact⟨_,.off hw h1 (by rw[hc];simp),h2⟩
  | new=>rw[hc] at h2;exact⟨_,.off hw h1 (by rw[hc];simp),h2⟩
  | calm=>rw[hc] at h2;exact⟨_,.off hw h1 (by rw[hc];simp),h2⟩
theorem DStep.next{dd:Nat->Prop}(hm:z0j rec){all:List Oper}{ds:List Nat}{o:Oper}{i:Nat}{s s':DS}(h:DStep P rec dd all ds o i s s'):s.m.next<=s'.m.next:=by
 cases h with
 | mover _ h _=>exact h.next hm
 | new _ h _=>exact h.next hm
 | calm _ h _=>exact h.next hm
 | anchor _ h _=>exact h.next hm
 | offA _ _ _=>exact Nat.le_refl _
 | off _ _ _=>exact Nat.le_refl _
 | deadA _ _ _ hM=>exact hM
 | dead _ _ _=>exact Nat.le_refl _
theorem z6u(hm:z0j rec){all:List Oper}{ds:List Nat}:∀(os:List Oper) (i:Nat) (s q:DS),z0d P rec all ds os i s=some q->s.m.next<=q.m.next
 | [],i,s,q,h=>by cases h;exact Nat.le_refl _
 | o :: os,i,s,q,h=>by
  obtain⟨s',h1,h2⟩:=z6t (dd:=fun _=>False) h
  exact Nat.le_trans (h1.next hm) (z6u hm os _ _ _ h2)
theorem z18{α:Type}{m:Mem}{i:Nat}{k:LoopState->Option Code->FuncId->Tm->List Tmp->Code->Code->Nat->Option α}{y:α}(h:atLoop m i k=some y) :
  ∃ st pend fn tm ps a b d,m.get i=some (.loop st pend fn tm ps a b d) /\ k st pend fn tm ps a b d=some y:=by
 unfold atLoop at h
 obtain⟨lb,h1,h2⟩:=zb.1 h
 cases lb with
 | loop st pend fn tm ps a b d=>exact⟨st,pend,fn,tm,ps,a,b,d,h1,h2⟩
 | _=>cases h2
theorem z5h{all:List Oper}{ds:List Nat}{j0:Nat}{o:Oper}{os:List Oper}{i:Nat}{s q:DS}(h:z16 P rec all ds j0 (o :: os) i s=some q) :
  ∃ s',(DStep P rec (fun i=>Nat.testBit (ds.getD i 0) j0=true) all ds o i s s') /\ z16 P rec all ds j0 os (i+1) s'=some q:=by
 obtain⟨T,m,st,k,ps⟩:=s
 unfold z16 at h
 cases hb:Nat.testBit (ds.getD i 0) j0 with
 | true =>
  rw[hb,z07] at h
  obtain⟨T',h1,h2⟩:=zb.1 h
  cases hc:cls P o.op with
  | anchor=>rw[hc] at h2;exact⟨_,.deadA hb h1 hc (Nat.le_refl _),h2⟩
  | mover=>rw[hc] at h2;exact⟨_,.dead hb h1 (by rw[hc];simp),h2⟩
  | new=>rw[hc] at h2;exact⟨_,.dead hb h1 (by rw[hc];simp),h2⟩
  | calm=>rw[hc] at h2;exact⟨_,.dead hb h1 (by rw[hc];simp),h2⟩
 | false =>
  rw[hb,zh] at h
  obtain⟨wt,hw,h⟩:=zb.1 h
  cases wt with
  | true =>
   obtain⟨T',m',h1,h2⟩:=zcg (show opFull P rec T m o.op o.dst _=some q from h)
   cases hc:cls P o.op with
   | mover=>rw[hc] at h2;exact⟨_,.mover hw h1 hc,h2⟩
   | new=>rw[hc] at h2;exact⟨_,.new hw h1 hc,h2⟩
   | calm=>rw[hc] at h2;exact⟨_,.calm hw h1 hc,h2⟩
   | anchor=>rw[hc] at h2;cases h2
  | false =>
   obtain⟨T',h1,h2⟩:=zb.1 (show ob (T.put o.dst z05) _=some q from h)
   cases hc:cls P o.op with
   | anchor=>rw[hc] at h2;cases h2
   | mover=>rw[hc] at h2;exact⟨_,.off hw h1 (by rw[hc];simp),h2⟩
   | new=>rw[hc] at h2;exact⟨_,.off hw h1 (by rw[hc];simp),h2⟩
   | calm=>rw[hc] at h2;exact⟨_,.off hw h1 (by rw[hc];simp),h2⟩
inductive DDie (P:Program) (rec:Task->Option Out) (all:List Oper) (ds:List Nat) (o:Oper) (os:List Oper) (i:Nat) (s:DS) (q:LV × Mem × DS):Prop
 | go {s':DS} (hs:DStep P rec (fun _=>False) all ds o i s s') (h:z0n P rec all ds os (i+1) s'=some q):DDie P rec all ds o os i s q
 | die (hw:wanted all s.T o.guard=some true) (ha:cls P o.op=.anchor) {f:FuncId} {as:List LV} {m1:Mem} (h1:op1 P o.op s.T s.m=some (.enter f as m1)) (h2:rec (.call f as m1)=some (.die q.1 q.2.1))
   {T':Tm} (h3:s.T.put o.dst .unk=some T') (h4:z16 P rec all ds i os (i+1) ⟨T',⟨q.2.1.next,s.m.tr⟩,⟨q.2.1.next,s.m.tr⟩ :: s.st,s.k+1,s.ps⟩=some q.2.2):DDie P rec all ds o os i s q
theorem z6s{all:List Oper}{ds:List Nat}{o:Oper}{os:List Oper}{i:Nat}{s:DS}{q:LV × Mem × DS}(h:z0n P rec all ds (o :: os) i s=some q):DDie P rec all ds o os i s q:=by
 obtain⟨T,m,st,k,ps⟩:=s
 unfold z0n at h
 obtain⟨wt,hw,h⟩:=zb.1 h
 cases wt with
 | true =>
  rw[z07] at h
  obtain⟨r,h1,h2⟩:=zb.1 h
  have go:∀ {T':Tm} {m':Mem},OpStep P rec T m o.op o.dst T' m'->(match cls P o.op with
    | .mover=>z0n P rec all ds os (i+1) ⟨T',m',st,k,ifb (z0q o.op) ({ op:=o.op,T:=T,v:=dstV T' o.dst,lo:=z0x P (ds.getD i 0) all 0,hi:=z0e P i all ds } :: ps) ps⟩
    | .new=>z0n P rec all ds os (i+1) ⟨T',m',st,k,ps⟩
    | .calm=>z0n P rec all ds os (i+1) ⟨T',m',st,k,ps⟩
    | .anchor=>z0n P rec all ds os (i+1) ⟨T',m',m' :: st,k+1,ps⟩)=some q->DDie P rec all ds o os i ⟨T,m,st,k,ps⟩ q:=by
   intro T' m' hs hg
   cases hc:cls P o.op with
   | mover=>rw[hc] at hg;exact .go (.mover hw hs hc) hg
   | new=>rw[hc] at hg;exact .go (.new hw hs hc) hg
   | calm=>rw[hc] at hg;exact .go (.calm hw hs hc) hg
   | anchor=>rw[hc] at hg;exact .go (.anchor hw hs hc) hg
  cases r with
  | val v m' =>
   obtain⟨T',h3,h4⟩:=zb.1 (show ob (T.put o.dst v) _=some q from h2)
   exact go (.val h1 h3) h4
  | skip m' =>
   obtain⟨T',h3,h4⟩:=zb.1 (show ob (T.put o.dst z05) _=some q from h2)
   exact go (.skip h1 h3) h4
  | enter f as m1 =>
   rcases z2r (show z1j (rec (.call f as m1)) _ _=some q from h2) with⟨v,m',h3,h4⟩|⟨v,m',h3,h4⟩
   ·obtain⟨T',h5,h6⟩:=zb.1 h4
    exact go (.enter h1 h3 h5) h6
   ·obtain⟨ha,h5⟩:=zc.1 h4
    obtain⟨T',h6,h7⟩:=zb.1 h5
    obtain⟨d,h8,h9⟩:=zb.1 h7
    cases h9
    refine .die hw ?_ h1 h3 h6 h8
    unfold zg at ha
    cases hc:cls P o.op<;>rw[hc] at ha<;>first|rfl|cases ha
  | round l as m1 =>
   obtain⟨v,m',h3,h4⟩:=z6h.1 (show z1x (rec (.round l as m1)) _=some q from h2)
   obtain⟨T',h5,h6⟩:=zb.1 h4
   exact go (.round h1 h3 h5) h6
  | boom v m'=>cases h2
 | false =>
  obtain⟨T',h1,h2⟩:=zb.1 (show ob (T.put o.dst z05) _=some q from h)
  cases hc:cls P o.op with
  | anchor=>rw[hc] at h2;exact .go (.offA hw h1 hc) h2
  | mover=>rw[hc] at h2;exact .go (.off hw h1 (by rw[hc];simp)) h2
  | new=>rw[hc] at h2;exact .go (.off hw h1 (by rw[hc];simp)) h2
  | calm=>rw[hc] at h2;exact .go (.off hw h1 (by rw[hc];simp)) h2
theorem z5i(hm:z0j rec){all:List Oper}{ds:List Nat}{j0:Nat}:∀(os:List Oper) (i:Nat) (s q:DS),z16 P rec all ds j0 os i s=some q->s.m.next<=q.m.next
 | [],i,s,q,h=>by cases h;exact Nat.le_refl _
 | o :: os,i,s,q,h=>by
  obtain⟨s',h1,h2⟩:=z5h h
  exact Nat.le_trans (h1.next hm) (z5i hm os _ _ _ h2)
theorem z3y(hm:z0j rec){all:List Oper}{ds:List Nat}:∀(os:List Oper) (i:Nat) (s:DS) (q:LV × Mem × DS),z0n P rec all ds os i s=some q->s.m.next<=q.2.1.next /\ q.2.1.next<=q.2.2.m.next
 | [],i,s,q,h=>by cases h
 | o :: os,i,s,q,h=>by
  cases z6s h with
  | go hs h =>
   obtain⟨h1,h2⟩:=z3y hm os _ _ _ h
   exact⟨Nat.le_trans (hs.next hm) h1,h2⟩
  | die hw ha h1 h2 h3 h4=>exact⟨Nat.le_trans (z3l o.op _ h1) (hm _ _ h2),z5i hm _ _ _ _ h4⟩
structure Reord (A B:Array Oper) (σ τ:Nat->Nat):Prop where
 size:B.size=A.size
 st:∀ k,k < A.size->σ k < A.size /\ τ (σ k)=k
 ts:∀ i,i < A.size->τ i < A.size /\ σ (τ i)=i
 out:∀ i,A.size<=i->A.size<=τ i
 at_:∀ k o,B[k]?=some o->∃ oA,A[σ k]?=some oA /\ o.dst=oA.dst /\ o.op=oA.op /\ o.after.toList=oA.after.toList.map (fun e:Edge=>(⟨τ e.on,e.ground⟩:Edge)) /\ o.guard=oA.guard.map fun q=>(τ q.1,q.2)
theorem Reord.refl(A:Array Oper):Reord A A id id:=⟨rfl,fun _ h=>⟨h,rfl⟩,fun _ h=>⟨h,rfl⟩,fun _ h=>h,fun k o h=>⟨o,h,rfl,rfl,by
 show o.after.toList=List.map (fun e:Edge=>(⟨e.on,e.ground⟩:Edge)) o.after.toList
 rw[show(fun e:Edge=>(⟨e.on,e.ground⟩:Edge))=id from rfl,List.map_id],by cases o.guard<;>rfl⟩⟩
theorem zf3:∀ {l:List Nat} {i:Nat},posIn l i < l.length->l[posIn l i]?=some i
 | [],_,h=>absurd h (Nat.not_lt_zero _)
 | x :: xs,i,h=>by
  unfold posIn at h ⊢
  cases hb:Nat.beq x i with
  | true =>
   obtain rfl:=Nat.eq_of_beq_eq_true hb
   rw[z07];rfl
  | false =>
   rw[hb,zh] at h
   rw[zh,List.getElem?_cons_succ]
   exact zf3 (by simpa using h)
theorem zci{sig:List Nat}{l:List Oper}:∀(is:List Nat),(∀ i ∈ is,i < l.length)->∀(k:Nat),(permL sig l is)[k]?=(is[k]?).bind fun i:Nat=>(l[i]?).map (renO sig)
 | [],_,k=>by cases k<;>rfl
 | i :: is,h,k=>by
  have hi:=h i List.mem_cons_self
  unfold permL
  rw[List.getElem?_eq_getElem hi,z2n]
  cases k with
  | zero=>simp[List.getElem?_eq_getElem hi]
  | succ k =>
   rw[List.getElem?_cons_succ,List.getElem?_cons_succ]
   exact zci is (fun j hj=>h j (List.mem_cons_of_mem _ hj)) k
theorem z73{sig:List Nat}{l:List Oper}:∀(is:List Nat),(∀ i ∈ is,i < l.length)->(permL sig l is).length=is.length
 | [],_=>rfl
 | i :: is,h=>by
  unfold permL
  rw[List.getElem?_eq_getElem (h i List.mem_cons_self),z2n,List.length_cons,List.length_cons,z73 is fun j hj=>h j (List.mem_cons_of_mem _ hj)]
theorem ze1{ops:Array Oper}{sig:List Nat}(h:sigOk ops.size sig=true):Reord ops (permR ops sig) (fun k=>sig.getD k 0) (posIn sig):=by
 unfold sigOk at h
 simp only[Bool.and_eq_true,List.all_eq_true,List.mem_range] at h
 obtain⟨h1,h2,h3⟩:=h
 have h1:=Nat.eq_of_beq_eq_true h1
 have a2:∀ k,k < ops.size->∃ i,sig[k]?=some i /\ i < ops.size /\ posIn sig i=k:=fun k hk=>by
  have:=h2 k hk
  cases hs:sig[k]? with
  | none=>rw[hs] at this;cases this
  | some i =>
   rw[hs,z2n] at this
   simp only[Bool.and_eq_true,Nat.ble_eq] at this
   exact⟨i,rfl,this.1,Nat.eq_of_beq_eq_true this.2⟩
 have a3:∀ i,i < ops.size->sig[posIn sig i]?=some i:=fun i hi=>by
  have:=h3 i hi
  cases hs:sig[posIn sig i]? with
  | none=>rw[hs] at this;cases this
  | some j =>
   rw[hs,z2n] at this
   rw[Nat.eq_of_beq_eq_true this]
 have hmem:∀ i ∈ sig,i < ops.toList.length:=fun i hi=>by
  obtain⟨k,hk,e⟩:=List.getElem_of_mem hi
  obtain⟨i',b1,b2,_⟩:=a2 k (by omega)
  rw[List.getElem?_eq_getElem hk,e] at b1
  cases b1
  simpa using b2
 refine⟨?_,fun k hk=>?_,fun i hi=>?_,fun i hi=>?_,fun k o hk=>?_⟩
 ·show(permL sig ops.toList sig).length=_
  rw[z73 _ hmem,h1]
 ·obtain⟨i,b1,b2,b3⟩:=a2 k hk
  simp only[List.getD_eq_getElem?_getD,b1,Option.getD_some]
  exact⟨b2,b3⟩
 ·have b1:=a3 i hi
  have hl:posIn sig i < sig.length:=by
   rcases Nat.lt_or_ge (posIn sig i) sig.length with h|h
   ·exact h
   ·rw[List.getElem?_eq_none h] at b1;cases b1
  simp only[List.getD_eq_getElem?_getD,b1,Option.getD_some]
  exact⟨by omega,trivial⟩
 ·rcases Nat.lt_or_ge (posIn sig i) ops.size with h|h
  ·have b1:=zf3 (l:=sig) (i:=i) (by omega)
   have:=hmem i (List.mem_of_getElem? b1)
   simp at this;omega
  ·exact h
 ·have hk:(permL sig ops.toList sig)[k]?=some o:=by
   have:(permR ops sig)[k]?=(permL sig ops.toList sig)[k]?:=by simp[permR]
   rw[<-this];exact hk
  rw[zci _ hmem] at hk
  obtain⟨i,b1,b2⟩:=Option.bind_eq_some_iff.1 hk
  obtain⟨oA,b3,rfl⟩:=Option.map_eq_some_iff.1 b2
  refine⟨oA,by simpa [List.getD_eq_getElem?_getD,b1] using b3,rfl,rfl,rfl,?_⟩
  show renG sig oA.guard=_
  cases oA.guard with
  | none=>rfl
  | some q=>rfl
theorem zee{ops:Array Oper}{T:Tm}{ms:List Dfr}{m:Mem}{o:Out}(h:cDraw P rec ops T ms m=some o):∃ B σ τ,Reord ops B σ τ /\ regionOk P B=true /\ cDrawG P rec B T ms m=some o:=by
 unfold cDraw at h
 cases hb:regionOk P ops with
 | true=>rw[hb] at h;exact⟨ops,_,_,.refl ops,hb,h⟩
 | false =>
  rw[hb,zh] at h
  obtain⟨h1,h2⟩:=zc.1 h
  simp only[Bool.and_eq_true] at h1
  exact⟨_,_,_,ze1 h1.1,h1.2,h2⟩
theorem z9v{α:Type}{s:LoopState}{k:Option α}{y:α}(h:notBusy s k=some y):s ≠ .busy /\ k=some y:=by
 cases s with
 | busy=>cases h
 | _=>exact⟨by simp,h⟩
theorem z7h{α:Type}{s:LoopState}{k:Option α}{y:α}(h:ready? s k=some y):s=.ready /\ k=some y:=by
 cases s with
 | ready=>exact⟨rfl,h⟩
 | _=>cases h
theorem zc6{α:Type}{e:Ex}{k:Option α}{y:α}(h:isNorm e k=some y):e=.norm /\ k=some y:=by
 cases e with
 | norm=>exact⟨rfl,h⟩
 | _=>cases h
theorem zh1{α:Type}{v:LV}{k:FuncId->List LV->List LV->Option α}{y:α}(h:asFn v k=some y):∃ g a b,v=.func (.func g) a b /\ k g a b=some y:=by
 unfold asFn at h
 split at h
 ·exact⟨_,_,_,rfl,h⟩
 ·cases h
end
section
variable {P:Program} {rec:Task->Option Out}
theorem z6j(hm:z0j rec){fn:FuncId}{ro:Option Nat}{l:Nat}{T:Tm}{ms:List Dfr}{m:Mem}{o:Out}(h:rfEnd rec fn ro l T ms m=some o):m.next<=o.mem.next:=by
 obtain⟨st,pend,fn',tm',ps',a',b',d',hg,h1⟩:=z18 h
 obtain⟨_,h2⟩:=z9v h1
 cases pend with
 | none=>cases h2;exact Nat.le_of_eq (Mem.next_upd _ _ _).symm
 | some c =>
  have:=hm _ _ (show rec (.code fn ro c T ms _)=some o from h2)
  exact Nat.le_trans (Nat.le_of_eq (Mem.next_upd _ _ _).symm) this
theorem z3p(hm:z0j rec){fn:FuncId}{ro:Option Nat}{f:Operand}{ps:Array Tmp}{as bd:Code}{d:Nat}{T:Tm}{ms:List Dfr}{m:Mem}{o:Out}(h:rfCall rec fn ro f ps as bd d T ms m=some o):m.next<=o.mem.next:=by
 unfold rfCall at h
 rw[Mem.new_eq] at h
 obtain⟨fv,_,h1⟩:=zb.1 h
 obtain⟨g,x,y,_,h2⟩:=zh1 h1
 have a3:m.next<=(m.push (.loop .ready none fn T ps.toList as bd d)).next:=Nat.le_succ _
 rcases z2r h2 with⟨v,m',h3,h4⟩|⟨v,m',h3,h4⟩
 ·exact Nat.le_trans a3 (Nat.le_trans (hm _ _ h3) (z6j hm h4))
 ·cases h4
  exact Nat.le_trans a3 (hm _ _ h3)
theorem zgp{c c':Code}{d e:Option Tmp}(h:recHead c=some (d,e,c')):∃ id ops t,c=.seq (.region id ops false) c' /\ d=some t /\ ∃ ats ty1 p1 a1 ty2 p2 a2,ops=#[⟨some t,.call ⟨.builtin .recover,#[],ats⟩,ty1,p1,a1,none⟩,⟨e,.assign (.tmp t),ty2,p2,a2,none⟩]:=by
 unfold recHead at h
 split at h
 ·rename_i id d0 ats ty1 p1 a1 e0 t ty2 p2 a2 c0
  split at h
  ·rename_i d1
   split at h
   ·rename_i hb
    cases h
    obtain rfl:=Nat.eq_of_beq_eq_true hb
    exact⟨id,_,_,rfl,rfl,ats,ty1,p1,a1,ty2,p2,a2,rfl⟩
   ·cases h
  ·cases h
 ·cases h
theorem z5f{f:FuncId}{args:List LV}{pv:LV}{m m':Mem}(h:dfrRun P rec f args pv m=some m'):∃ fn T c d e c' T1 T2 ex T',fnOf P f=some fn /\ Tm.ofList fn.ntmps args=some T /\ fn.body=some c /\ recHead c=some (d,e,c') /\ T.put d pv=some T1 /\ T1.put e pv=some T2 /\ fn.results=#[] /\
  (ex=.norm ∨ ex=.ret) /\ rec (.code f none c' T2 [] m)=some (.code ex T' [] m'):=by
 obtain⟨fn,h1,h⟩:=zb.1 h
 obtain⟨T,h2,h⟩:=zb.1 h
 obtain⟨c,h3,h⟩:=zb.1 h
 obtain⟨⟨d,e,c'⟩,h4,h⟩:=zb.1 h
 obtain⟨T1,h5,h⟩:=zb.1 (show ob (T.put d pv) _=some m' from h)
 obtain⟨T2,h6,h⟩:=zb.1 h
 obtain⟨h7,h⟩:=zc.1 h
 rcases z1r h with⟨ex,T',ms,m1,h8,h9⟩|⟨_,_,_,_,_,h9⟩
 ·obtain⟨h10,h11⟩:=zc.1 h9
  have hms:ms=[]:=by simpa using h10
  subst hms
  refine⟨fn,T,c,d,e,c',T1,T2,ex,T',h1,h2,h3,h4,h5,h6,by simpa using h7,?_,?_⟩
  ·cases ex with
   | norm=>exact .inl rfl
   | ret=>exact .inr rfl
   | exit id=>cases h11
  ·cases ex with
   | norm=>cases h11;exact h8
   | ret=>cases h11;exact h8
   | exit id=>cases h11
 ·cases h9
theorem z3d(hm:z0j rec){f:FuncId}{args:List LV}{pv:LV}{m m':Mem}(h:dfrRun P rec f args pv m=some m'):m.next<=m'.next:=by
 obtain⟨fn,T,c,d,e,c',T1,T2,ex,T',_,_,_,_,_,_,_,_,h8⟩:=z5f h
 exact hm _ _ h8
theorem z17(hm:z0j rec){fn:Func}{T:Tm}:∀(ds:List Dfr) (m:Mem) (o:Out),finRet P rec fn T ds m=some o->m.next<=o.mem.next
 | [],m,o,h=>by
  obtain⟨vs,_,h8⟩:=zb.1 (show ob (z0s P T m fn.results.toList) _=some o from h)
  cases h8
  exact Nat.le_refl _
 | .mark d :: ds,m,o,h=>by
  obtain⟨b,h1,h2⟩:=zb.1 (show atDefr m d _=some o from h)
  cases b with
  | defr =>
   have:=z17 hm ds _ _ (show finRet P rec fn T ds (m.upd d none)=some o from h2)
   rwa [Mem.next_upd] at this
  | _=>cases h2
 | .call f as :: ds,m,o,h=>by
  obtain⟨m1,h1,h2⟩:=zb.1 (show ob (dfrRun P rec f as .nilIface m) _=some o from h)
  exact Nat.le_trans (z3d hm h1) (z17 hm ds _ _ h2)
theorem z2l(hm:z0j rec){fn:Func}{T:Tm}{v:LV}:∀(ds:List Dfr) (m:Mem) (o:Out),finDie P rec fn T v ds m=some o->m.next<=o.mem.next
 | [],m,o,h=>by cases h;exact Nat.le_refl _
 | .mark d :: ds,m,o,h=>by
  obtain⟨b,h1,h2⟩:=zb.1 (show atDefr m d _=some o from h)
  cases b with
  | defr =>
   have:=z2l hm ds _ _ (show finDie P rec fn T v ds (m.upd d none)=some o from h2)
   rwa [Mem.next_upd] at this
  | _=>cases h2
 | .call f as :: ds,m,o,h=>by
  obtain⟨m1,h1,h2⟩:=zb.1 (show ob (dfrRun P rec f as v m) _=some o from h)
  exact Nat.le_trans (z3d hm h1) (z17 hm ds _ _ h2)
theorem za4(hm:z0j rec):z0j (stepT P rec):=by
 intro t o h
 cases t with
 | code fn ro c T ms m =>
  have h:stCode P rec fn ro c T ms m=some o:=h
  cases c with
  | skip=>cases h;exact Nat.le_refl _
  | label l=>cases h;exact Nat.le_refl _
  | ret=>cases h;exact Nat.le_refl _
  | exit id=>cases h;exact Nat.le_refl _
  | seq a b =>
   rcases z2f (show z12 _ _=some o from h) with⟨e,T1,ms1,m1,h1,h2⟩|⟨v,T1,ms1,m1,h1,rfl⟩
   ·have a1:=hm _ _ h1
    cases e with
    | norm=>exact Nat.le_trans a1 (hm _ _ (show rec (.code fn ro b T1 ms1 m1)=some o from h2))
    | ret=>cases h2;exact a1
    | exit id=>cases h2;exact a1
   ·have a1:=hm _ _ h1;exact a1
  | cond x a b =>
   obtain⟨v,_,h1⟩:=zb.1 (show ob (ev T x) _=some o from h)
   obtain⟨c,_,h2⟩:=z1l.1 h1
   cases c with
   | true=>exact hm (.code fn ro a T ms m) o h2
   | false=>exact hm (.code fn ro b T ms m) o h2
  | block id b =>
   rcases z2f (show z12 _ _=some o from h) with⟨e,T1,ms1,m1,h1,h2⟩|⟨v,T1,ms1,m1,h1,rfl⟩
   ·have a1:=hm _ _ h1
    cases e with
    | norm=>cases h2;exact a1
    | ret=>cases h2;exact a1
    | exit id' =>
     have h2:ifb (Nat.beq id' id) _ _=some o:=h2
     cases hb:Nat.beq id' id with
     | true=>rw[hb] at h2;cases h2;exact a1
     | false=>rw[hb] at h2;cases h2;exact a1
   ·have a1:=hm _ _ h1;exact a1
  | scope b=>exact hm (.code fn ro b T ms m) o h
  | loop b =>
   rcases z2f (show z12 _ _=some o from h) with⟨e,T1,ms1,m1,h1,h2⟩|⟨v,T1,ms1,m1,h1,rfl⟩
   ·have a1:=hm _ _ h1
    cases e with
    | norm=>exact Nat.le_trans a1 (hm _ _ (show rec (.code fn ro (.loop b) T1 ms1 m1)=some o from h2))
    | ret=>cases h2;exact a1
    | exit id=>cases h2;exact a1
   ·have a1:=hm _ _ h1;exact a1
  | region id ops dr =>
   cases dr with
   | false=>exact z2p hm _ _ _ _ _ (show z0p P ro rec ops.toList ops.toList T ms m=some o from h)
   | true =>
    obtain⟨B,_,_,_,_,h0⟩:=zee (show cDraw P rec ops T ms m=some o from h)
    cases hd:z0d P rec B.toList (deps B) B.toList 0 ⟨T,m,[m],0,[]⟩ with
    | some d =>
     unfold cDrawG at h0
     rw[hd] at h0
     obtain⟨T1,m1,st,k,ps⟩:=d
     obtain⟨_,h3⟩:=zc.1 (show guard' (z19 P st k ps) _=some o from h0)
     cases h3
     exact z6u hm _ _ _ _ hd
    | none =>
     unfold cDrawG at h0
     rw[hd] at h0
     obtain⟨⟨v,m2,d⟩,h1,h2⟩:=zb.1 (show ob (z0n P rec B.toList (deps B) B.toList 0 ⟨T,m,[m],0,[]⟩) _=some o from h0)
     obtain⟨T1,m1,st,k,ps⟩:=d
     obtain⟨_,h3⟩:=zc.1 (show guard' (z19 P st k ps) _=some o from h2)
     cases h3
     obtain⟨k1,k2⟩:=z3y hm _ _ _ _ h1
     exact Nat.le_trans k1 k2
  | rangeFunc f ps as bd =>
   have h:cRangeFunc rec fn ro f ps as bd T ms m=some o:=h
   cases ro with
   | none =>
    have h:m.new .defr (fun d m=>rfCall rec fn none f ps as bd d T (.mark d :: ms) m)=some o:=h
    rw[Mem.new_eq] at h
    exact Nat.le_trans (Nat.le_succ _) (z3p hm h)
   | some l =>
    obtain⟨st,pend,fn',tm',ps',a',b',d',_,h1⟩:=z18 (show atLoop m l _=some o from h)
    exact z3p hm h1
  | _=>cases h
 | call f args m =>
  obtain⟨fn,_,h1⟩:=zb.1 (show stCall P rec f args m=some o from h)
  obtain⟨T,_,h2⟩:=zb.1 h1
  obtain⟨c,_,h3⟩:=zb.1 h2
  rcases z1r h3 with⟨e,T1,ms1,m1,h4,h5⟩|⟨v,T1,ms1,m1,h4,h5⟩
  ·have a1:=hm _ _ h4
   cases e with
   | norm=>exact Nat.le_trans a1 (z17 hm _ _ _ h5)
   | ret=>exact Nat.le_trans a1 (z17 hm _ _ _ h5)
   | exit id=>cases h5
  ·have a1:=hm _ _ h4;exact Nat.le_trans a1 (z2l hm _ _ _ h5)
 | round l args m =>
  obtain⟨st,pend,fn,tm,ps,as,bd,d,_,h1⟩:=z18 (show stRound P rec l args m=some o from h)
  obtain⟨_,h2⟩:=z7h h1
  obtain⟨T,_,h3⟩:=zb.1 h2
  rcases z1r h3 with⟨e,T1,ms1,m1,h4,h5⟩|⟨_,_,_,_,_,h5⟩
  rotate_left
  ·cases h5
  obtain⟨_,h6⟩:=zc6 h5
  obtain⟨st2,pend2,fn2,tm2,ps2,as2,bd2,d2,_,h7⟩:=z18 h6
  obtain⟨_,h8⟩:=z7h h7
  have a1:=hm _ _ h4
  rcases z1r h8 with⟨e3,T3,ms3,m3,h9,h10⟩|⟨v3,T3,ms3,m3,h9,h10⟩
  ·obtain⟨st4,pend4,fn4,tm4,ps4,as4,bd4,d4,_,h11⟩:=z18 h10
   have a3:m1.next<=m3.next:=by
    have:(m1.upd l (some (.loop .busy pend2 fn2 tm2 ps2 as2 bd2 d2))).next<=m3.next:=hm _ _ h9
    rw[Mem.next_upd] at this;exact this
   have a4:o.mem.next=m3.next:=by
    cases e3 with
    | norm=>cases h11;exact Mem.next_upd _ _ _
    | ret=>cases h11;exact Mem.next_upd _ _ _
    | exit id=>cases h11;exact Mem.next_upd _ _ _
   rw[a4]
   exact Nat.le_trans a1 a3
  ·obtain⟨_,h11⟩:=zc.1 h10
   cases h11
   have a3:m1.next<=m3.next:=by
    have:(m1.upd l (some (.loop .busy pend2 fn2 tm2 ps2 as2 bd2 d2))).next<=m3.next:=hm _ _ h9
    rw[Mem.next_upd] at this;exact this
   exact Nat.le_trans a1 a3
end
end PvL
end
section
namespace PvL
open Go
section
variable {P:Program}
theorem Same.trans{ρ ρ1 ρ2:Rho}{a b c:Nat}(h:Same ρ ρ1 a b)(h':Same ρ1 ρ2 b c)(hab:a<=b)(hbc:b<=c):Same ρ ρ2 a c :=
 ⟨h.1.trans h'.1,fun i hi=>by rw[h'.2 i (by omega),h.2 i (by omega)]⟩
theorem Fresh.left{ρ:Rho}{a b c:Nat}(h:Fresh ρ a c)(hbc:b<=c):Fresh ρ a b:=fun i h1 h2=>h i h1 (by omega)
theorem Fresh.right{ρ ρ1:Rho}{a b c:Nat}(h:Fresh ρ a c)(hs:Same ρ ρ1 a b)(hab:a<=b):Fresh ρ1 b c:=fun i h1 h2=>by
 rw[hs.2 i (by omega)];exact h i (by omega) h2
def DR1(ρ:Rho):Dfr->Deferred->Prop
 | .mark d,x=>∃ b s c,ρ d=some (b,s,c) /\ x={ target:=.collected b,args:=#[] }
 | .call g as,x=>∃ args cap:Array Value,x={ target:=.fn (.func g) cap,args } /\ VRs ρ as (args ++ cap).toList
theorem DR1.mono{ρ ρ':Rho}(h:RLe ρ ρ'):∀ {d:Dfr} {x:Deferred},DR1 ρ d x->DR1 ρ' d x
 | .mark _,_,⟨b,s,c,h1,h2⟩=>⟨b,s,c,h _ _ h1,h2⟩
 | .call _ _,_,⟨a,c,h1,h2⟩=>⟨a,c,h1,h2.mono h⟩
def DR(ρ:Rho):List Dfr->List Deferred->Prop
 | [],[]=>True
 | d :: ds,x :: xs=>DR1 ρ d x /\ DR ρ ds xs
 | _,_=>False
theorem DR.mono{ρ ρ':Rho}(h:RLe ρ ρ'):∀ {ds:List Dfr} {xs:List Deferred},DR ρ ds xs->DR ρ' ds xs
 | [],[],_=>trivial
 | _ :: _,_ :: _,⟨h1,h3⟩=>⟨h1.mono h,DR.mono h h3⟩
 | [],_ :: _,h=>h.elim
 | _ :: _,[],h=>h.elim
def RO(ρ:Rho):Option Nat->Option Nat->Prop
 | none,none=>True
 | some l,some b=>∃ s c,ρ l=some (b,s,c)
 | _,_=>False
theorem RO.mono{ρ ρ':Rho}(h:RLe ρ ρ'){ro rb:Option Nat}(hr:RO ρ ro rb):RO ρ' ro rb:=by
 cases ro<;>cases rb<;>first|exact hr|(obtain⟨s,c,h1⟩:=hr;exact⟨s,c,h _ _ h1⟩)
def Arr(P:Program)(m:Machine)(b:Frame)(k:List Item)(cs:List Frame):Ex->Act->World->Prop
 | .norm,a,w=>Steps P m (lone (b.atR a k) cs w)
 | .ret,a,w=>∃ k1,Steps P m (lone (b.atR a (.code .ret :: k1)) cs w)
 | .exit id,a,w=>∃ k1,exitTo id k1=exitTo id k /\ Steps P m (lone (b.atR a (.code (.exit id) :: k1)) cs w)
theorem Arr.of_steps{m m1:Machine}{b:Frame}{k:List Item}{cs:List Frame}{e:Ex}{a:Act}{w:World}(h:Steps P m m1)(h':Arr P m1 b k cs e a w):Arr P m b k cs e a w:=by
 cases e with
 | norm=>exact h.trans h'
 | ret=>obtain⟨k1,h1⟩:=h';exact⟨k1,h.trans h1⟩
 | exit id=>obtain⟨k1,h0,h1⟩:=h';exact⟨k1,h0,h.trans h1⟩
def Frame.boom(fr:Frame)(v:Value):Frame:={ fr with mode:=.panicking [{ v,recovered:=false }] }
def CodeOut(P:Program)(Pt:Prot)(ρ:Rho)(n:Nat)(M:Machine)(b:Frame)(k:List Item)(cs:List Frame):Out->Prop
 | .code e T' ms' m'=>∃ ρ' a' w',Same ρ ρ' n m'.next /\ TR ρ' T' a'.tmps /\ DR ρ' ms' a'.defers /\ Rel Pt ρ' m' w' /\ Arr P M b k cs e a' w'
 | .boom v T' ms' m'=>∃ ρ' a' w' v' k1,Same ρ ρ' n m'.next /\ TR ρ' T' a'.tmps /\ DR ρ' ms' a'.defers /\ Rel Pt ρ' m' w' /\ VR ρ' v v' /\ Steps P M (lone (Frame.boom (b.atR a' k1) v') cs w')
 | _=>True
theorem CodeOut.of_steps{Pt:Prot}{ρ:Rho}{n:Nat}{M M1:Machine}{b:Frame}{k:List Item}{cs:List Frame}{o:Out}(h:Steps P M M1)(h':CodeOut P Pt ρ n M1 b k cs o):CodeOut P Pt ρ n M b k cs o:=by
 cases o with
 | code e T' ms' m'=>obtain⟨ρ',a',w',h1,h2,h3,h4,h5⟩:=h';exact⟨ρ',a',w',h1,h2,h3,h4,h5.of_steps h⟩
 | boom v T' ms' m'=>obtain⟨ρ',a',w',v',k1,h1,h2,h3,h4,h5,h6⟩:=h';exact⟨ρ',a',w',v',k1,h1,h2,h3,h4,h5,h.trans h6⟩
 | call _ _=>trivial
 | die _ _=>trivial
theorem CodeOut.after{Pt:Prot}{ρ ρ1:Rho}{n n1:Nat}{M M1:Machine}{b:Frame}{k:List Item}{cs:List Frame}{o:Out}(h:Steps P M M1)(hs:Same ρ ρ1 n n1)(h1:n<=n1)(h2:n1<=o.mem.next)(h':CodeOut P Pt ρ1 n1 M1 b k cs o):CodeOut P Pt ρ n M b k cs o:=by
 refine CodeOut.of_steps h ?_
 cases o with
 | code e T' ms' m'=>obtain⟨ρ',a',w',g1,g2⟩:=h';exact⟨ρ',a',w',hs.trans g1 h1 h2,g2⟩
 | boom v T' ms' m'=>obtain⟨ρ',a',w',v',k1,g1,g2⟩:=h';exact⟨ρ',a',w',v',k1,hs.trans g1 h1 h2,g2⟩
 | call _ _=>trivial
 | die _ _=>trivial
def Sim(P:Program):Task->Out->Prop
 | .code fn ro c T ms m,o=>∀(Pt:Prot) (ρ:Rho) (b:Frame) (k:List Item) (cs:List Frame) (w:World) (a:Act),
   b.fn=fn->RO ρ ro b.roundOf->TR ρ T a.tmps->DR ρ ms a.defers->Rel Pt ρ m w->Fresh ρ m.next o.mem.next->CodeOut P Pt ρ m.next (lone (b.atR a (.code c :: k)) cs w) b k cs o
 | .call f as m,.call v m'=>∀(Pt:Prot) (ρ:Rho) (w:World) (as':Array Value) (cs:List Frame),VRs ρ as as'.toList->GlobOk ρ->Rel Pt ρ m w->Fresh ρ m.next m'.next ->
   ∃ ρ' v' w',Same ρ ρ' m.next m'.next /\ VR ρ' v v' /\ Rel Pt ρ' m' w' /\ ∃ fr,Steps P (lone (Frame.enter P f as' .normal) cs w) (lone fr cs w') /\ fr.fn=f /\ fr.leaving P w' (.returned v')
 | .call f as m,.die v m'=>∀(Pt:Prot) (ρ:Rho) (w:World) (as':Array Value) (cs:List Frame),VRs ρ as as'.toList->GlobOk ρ->Rel Pt ρ m w->Fresh ρ m.next m'.next ->
   ∃ ρ' v' w',Same ρ ρ' m.next m'.next /\ VR ρ' v v' /\ Rel Pt ρ' m' w' /\ ∃ fr,Steps P (lone (Frame.enter P f as' .normal) cs w) (lone fr cs w') /\ fr.fn=f /\ fr.leaving P w' (.panicked [{ v:=v',recovered:=false }])
 | .round l as m,.call v m'=>∀(Pt:Prot) (ρ:Rho) (w:World) (as':Array Value) (bl s c:Nat) (fc:Frame) (cs:List Frame),ρ l=some (bl,s,c)->VRs ρ as as'.toList->GlobOk ρ->Rel Pt ρ m w->Fresh ρ m.next m'.next ->
   ∃ ρ' v' w',Same ρ ρ' m.next m'.next /\ VR ρ' v v' /\ Rel Pt ρ' m' w' /\ ∃ f tmps assign body,(Instr.yield bl as').run P w=.ok (.round bl f tmps assign body) w /\
    Steps P (lone (Frame.round bl f tmps assign body .normal) (fc :: cs) w) (lone (fc.finish v') cs w')
 | .round l as m,.die v m'=>∀(Pt:Prot) (ρ:Rho) (w:World) (as':Array Value) (bl s c:Nat) (fc:Frame) (cs:List Frame),ρ l=some (bl,s,c)->VRs ρ as as'.toList->GlobOk ρ->Rel Pt ρ m w->Fresh ρ m.next m'.next ->
   ∃ ρ' v' w',Same ρ ρ' m.next m'.next /\ VR ρ' v v' /\ Rel Pt ρ' m' w' /\ ∃ f tmps assign body,(Instr.yield bl as').run P w=.ok (.round bl f tmps assign body) w /\
    Steps P (lone (Frame.round bl f tmps assign body .normal) (fc :: cs) w) (lone (fc.raise [{ v:=v',recovered:=false }]) cs w')
 | _,_=>True
theorem z0w{ρ:Rho}{T:Tm}{a:Act}{ops:Array Oper}{o:Oper}{b:Bool}(h:wanted ops.toList T o.guard=some b)(hT:TR ρ T a.tmps):Region.wanted o (yielded ops a.tmps)=b:=by
 unfold Region.wanted
 cases hg:o.guard with
 | none=>rw[hg] at h;cases h;rfl
 | some p =>
  obtain⟨j,want⟩:=p
  rw[hg] at h
  have h:oe ((ops.toList[j]?).bind (·.dst)) (some false) (fun d=>ob (evT T d) (isBoolAs want))=some b:=h
  simp only[Array.getElem?_toList] at h
  have hy:∀ x,((ops[j]?).bind (·.dst)).bind (a.tmps[·]?)=x->yielded ops a.tmps j=(match x with|some (.bool b)=>some b|_=>none):=by
   intro x hx;unfold yielded;rw[hx];rfl
  show(yielded ops a.tmps j == some want)=b
  cases hd:(ops[j]?).bind (·.dst) with
  | none =>
   rw[hd] at h;cases h
   rw[hy none (by rw[hd];rfl)]
   rfl
  | some d =>
   rw[hd] at h hy
   have h:ob (evT T d) (isBoolAs want)=some b:=h
   rw[z3r] at h
   have h:isBoolAs want (T.get d)=some b:=h
   have hv:=hT.2 d
   unfold isBoolAs at h
   split at h
   ·rename_i b' e
    cases h
    rw[e] at hv
    have:=hv.bool_inv
    rw[Array.getD_eq_getD_getElem?] at this
    have h2:a.tmps[d]?=some (.bool b'):=by
     cases ht:a.tmps[d]? with
     | none=>rw[ht] at this;cases this
     | some x=>rw[ht] at this;simp at this;rw[this]
    rw[hy _ (show(some d).bind (a.tmps[·]?)=some (.bool b') from h2),zbj]
    cases b'<;>cases want<;>rfl
   ·rename_i e
    cases h
    rw[e] at hv
    have h2:a.tmps.getD d undef=.tuple #[]:=by
     generalize a.tmps.getD d undef=x at hv
     cases hv with
     | tup h=>rename_i vs';obtain⟨l⟩:=vs';have h:VRs ρ [] l:=h;cases h;rfl
    rw[Array.getD_eq_getD_getElem?] at h2
    cases ht:a.tmps[d]? with
    | none=>rw[hy none ht];rfl
    | some x=>rw[ht] at h2;simp at h2;subst h2;rw[hy (some (.tuple #[])) ht];rfl
   ·cases h
variable {rec:Task->Option Out}
def RecFn(P:Program)(rec:Task->Option Out):Prop:=∀ f as m1 o,rec (.call f as m1)=some o->∃ fn,fnOf P f=some fn
def RecSim(P:Program)(rec:Task->Option Out):Prop:=∀ t o,rec t=some o->Sim P t o
theorem z3m(hm:z0j rec)(hrec:RecSim P rec){ops:Array Oper}{i:Nat}{o:Oper}{X:Option R1}{T T':Tm}{m m':Mem}(ho:ops[i]?=some o)(hs:z11 rec X T o.dst T' m')(hcall:RecFn P rec)
  {Pt:Prot} {ρ:Rho} {b:Frame} {w:World} {a:Act} (hX:Mono m.next X) (hok:∀ r,X=some r->Fresh ρ m.next r.mem.next->OpOk P Pt ρ m w a o r) (hnd:∀ c,o.op ≠ .defer c)
  (rest:List Nat) (k:List Item) (cs:List Frame) (hw:Region.wanted o (yielded ops a.tmps)=true) (hT:TR ρ T a.tmps) (hrel:Rel Pt ρ m w) (hf:Fresh ρ m.next m'.next) :
  ∃ ρ' v' w',Same ρ ρ' m.next m'.next /\ TR ρ' T' (a.put o.dst v').tmps /\ Rel Pt ρ' m' w' /\
   Steps P (lone (b.atR a (.inRegion ops (i :: rest) :: k)) cs w) (lone (b.atR (a.put o.dst v') (.inRegion ops rest :: k)) cs w'):=by
 have hfin:∀ v,(b.atR a (.inRegion ops (i :: rest) :: k)).finish v=b.atR (a.put o.dst v) (.inRegion ops rest :: k):=by
  intro v;rw[Frame.finish_atR,ho];rfl
 cases hs with
 | val h hp =>
  have hok:=hok _ h hf
  obtain⟨ρ',v',w',hr,hsame,hv,hrel'⟩:=hok
  refine⟨ρ',v',w',hsame,(hT.mono hsame.1).put hp hv,hrel',.one (step_lone_go ?_)⟩
  rw[stepGR_op ho hw,Oper.semAt_eq _ _ _ hnd,<- hfin]
  simp[stepG.apply,hr]
 | skip h hp =>
  have hok:=hok _ h hf
  obtain⟨w',hr,hrel',hn⟩:=hok
  refine⟨ρ,undef,w',by rw[hn];exact Same.refl _ _ _,hT.put hp (.tup .nil),hrel',.one (step_lone_go ?_)⟩
  rw[stepGR_op ho hw,Oper.semAt_eq _ _ _ hnd,<- hfin]
  simp[stepG.apply,hr]
 | enter h hr hp =>
  rename_i f as m1 v
  have hm1:m.next<=m1.next:=hX _ h
  have hm2:m1.next<=m'.next:=hm _ _ hr
  have hok2:=hok _ h (hf.left hm2)
  obtain⟨rfl,hok3⟩:=hok2
  obtain⟨fn,hfn⟩:=hcall _ _ _ _ hr
  obtain⟨as',hrun,has⟩:=hok3 fn hfn
  obtain⟨ρ',v',w',hsame,hv,hrel',hst⟩:=hrec _ _ hr Pt ρ w as' (b.atR a (.inRegion ops (i :: rest) :: k) :: cs) has hT.3 hrel hf
  refine⟨ρ',v',w',hsame,(hT.mono hsame.1).put hp hv,hrel',?_⟩
  obtain⟨fr,h1,h2,h3⟩:=hst
  have henter:step P (lone (b.atR a (.inRegion ops (i :: rest) :: k)) cs w)=.next (lone (Frame.enter P f as' .normal) (b.atR a (.inRegion ops (i :: rest) :: k) :: cs) w) :=
   step_lone_go (by rw[stepGR_op ho hw,Oper.semAt_eq _ _ _ hnd];simp[stepG.apply,hrun,Frame.atR])
  refine .head henter (h1.trans (.one ?_))
  rw[<-hfin];exact step_leave_returned h3
 | round h hr hp =>
  rename_i l as m1 v
  have hm2:m1.next<=m'.next:=hm _ _ hr
  have hok:=hok _ h (hf.left hm2)
  obtain⟨rfl,bl,s,c,as',hρ,has,hrun⟩:=hok
  obtain⟨ρ',v',w',hsame,hv,hrel',f,tmps,assign,body,hy,hst⟩:=hrec _ _ hr Pt ρ w as' bl s c (b.atR a (.inRegion ops (i :: rest) :: k)) cs hρ has hT.3 hrel hf
  refine⟨ρ',v',w',hsame,(hT.mono hsame.1).put hp hv,hrel',?_⟩
  rw[hy] at hrun
  have henter:step P (lone (b.atR a (.inRegion ops (i :: rest) :: k)) cs w)=.next (lone (Frame.round bl f tmps assign body .normal) (b.atR a (.inRegion ops (i :: rest) :: k) :: cs) w) :=
   step_lone_go (by rw[stepGR_op ho hw,Oper.semAt_eq _ _ _ hnd];simp[stepG.apply,hrun,Frame.atR])
  refine .head henter ?_
  rw[<-hfin];exact hst
theorem z4i(hm:z0j rec)(hrec:RecSim P rec){ops:Array Oper}{i:Nat}{o:Oper}{T T':Tm}{m m':Mem}(ho:ops[i]?=some o)(hs:OpStep P rec T m o.op o.dst T' m')(hcall:RecFn P rec)
  {Pt:Prot} {ρ:Rho} {b:Frame} {w:World} {a:Act} (rest:List Nat) (k:List Item) (cs:List Frame) (hw:Region.wanted o (yielded ops a.tmps)=true) (hT:TR ρ T a.tmps) (hrel:Rel Pt ρ m w) (hf:Fresh ρ m.next m'.next) :
  ∃ ρ' v' w',Same ρ ρ' m.next m'.next /\ TR ρ' T' (a.put o.dst v').tmps /\ Rel Pt ρ' m' w' /\
   Steps P (lone (b.atR a (.inRegion ops (i :: rest) :: k)) cs w) (lone (b.atR (a.put o.dst v') (.inRegion ops rest :: k)) cs w'):=by
 refine z3m hm hrec ho hs hcall (z3l o.op) (fun r hr hf=>z8l hr hT hrel hf) (fun c e=>?_) rest k cs hw hT hrel hf
 have hnone:op1 P o.op T m=none:=by rw[e];rfl
 cases hs with
 | val h _=>rw[hnone] at h;cases h
 | skip h _=>rw[hnone] at h;cases h
 | enter h _ _=>rw[hnone] at h;cases h
 | round h _ _=>rw[hnone] at h;cases h
theorem z9x(hm:z0j rec)(hrec:RecSim P rec){ops:Array Oper}{i:Nat}{o:Oper}{X:Option R1}{T:Tm}{m m':Mem}{v:LV}(ho:ops[i]?=some o)(hs:OpBoom rec X v m')(hcall:RecFn P rec)
  {Pt:Prot} {ρ:Rho} {b:Frame} {w:World} {a:Act} (hok:∀ r,X=some r->Fresh ρ m.next r.mem.next->OpOk P Pt ρ m w a o r) (hnd:∀ c,o.op ≠ .defer c)
  (rest:List Nat) (k:List Item) (cs:List Frame) (hw:Region.wanted o (yielded ops a.tmps)=true) (hT:TR ρ T a.tmps) (hrel:Rel Pt ρ m w) (hf:Fresh ρ m.next m'.next) :
  ∃ ρ' v' w',Same ρ ρ' m.next m'.next /\ VR ρ' v v' /\ Rel Pt ρ' m' w' /\
   Steps P (lone (b.atR a (.inRegion ops (i :: rest) :: k)) cs w) (lone (Frame.boom (b.atR a (.inRegion ops (i :: rest) :: k)) v') cs w'):=by
 cases hs with
 | boom h =>
  obtain⟨rfl,v',hr,hv⟩:=hok _ h hf
  refine⟨ρ,v',w,Same.refl _ _ _,hv,hrel,.one (step_lone_go ?_)⟩
  rw[stepGR_op ho hw,Oper.semAt_eq _ _ _ hnd]
  simp[stepG.apply,hr,Frame.raise_atR,Frame.boom]
 | enter h hr =>
  rename_i f as m1
  have hm2:m1.next<=m'.next:=hm _ _ hr
  have hok2:=hok _ h (hf.left hm2)
  obtain⟨rfl,hok3⟩:=hok2
  obtain⟨fn,hfn⟩:=hcall _ _ _ _ hr
  obtain⟨as',hrun,has⟩:=hok3 fn hfn
  obtain⟨ρ',v',w',hsame,hv,hrel',fr,h1,h2,h3⟩:=hrec _ _ hr Pt ρ w as' (b.atR a (.inRegion ops (i :: rest) :: k) :: cs) has hT.3 hrel hf
  refine⟨ρ',v',w',hsame,hv,hrel',?_⟩
  have henter:step P (lone (b.atR a (.inRegion ops (i :: rest) :: k)) cs w)=.next (lone (Frame.enter P f as' .normal) (b.atR a (.inRegion ops (i :: rest) :: k) :: cs) w) :=
   step_lone_go (by rw[stepGR_op ho hw,Oper.semAt_eq _ _ _ hnd];simp[stepG.apply,hrun,Frame.atR])
  refine .head henter (h1.trans (.one ?_))
  have:=step_leave_panicked (c:=b.atR a (.inRegion ops (i :: rest) :: k)) (cs:=cs) h3
  rw[Frame.raise_atR] at this
  exact this
 | round h hr =>
  rename_i l as m1
  have hm2:m1.next<=m'.next:=hm _ _ hr
  have hok:=hok _ h (hf.left hm2)
  obtain⟨rfl,bl,s,c,as',hρ,has,hrun⟩:=hok
  obtain⟨ρ',v',w',hsame,hv,hrel',f,tmps,assign,body,hy,hst⟩:=hrec _ _ hr Pt ρ w as' bl s c (b.atR a (.inRegion ops (i :: rest) :: k)) cs hρ has hT.3 hrel hf
  refine⟨ρ',v',w',hsame,hv,hrel',?_⟩
  rw[hy] at hrun
  have henter:step P (lone (b.atR a (.inRegion ops (i :: rest) :: k)) cs w)=.next (lone (Frame.round bl f tmps assign body .normal) (b.atR a (.inRegion ops (i :: rest) :: k) :: cs) w) :=
   step_lone_go (by rw[stepGR_op ho hw,Oper.semAt_eq _ _ _ hnd];simp[stepG.apply,hrun,Frame.atR])
  rw[Frame.raise_atR] at hst
  exact .head henter hst
end
end PvL
end
section
namespace PvL
open Go
section
variable {P:Program} {rec:Task->Option Out} {ro:Option Nat}
theorem z2t(i n:Nat):List.range' i (n+1)=i :: List.range' (i+1) n:=by simp[List.range'_succ]
theorem zhp{ρ:Rho}{T:Tm}{a:Act}(hT:TR ρ T a.tmps){c:Call}{d:Dfr}(h:dfrOf c T=some d)(ty:TypeId)(w:World):∃ x,(resolve a.eval c ty).run P w=.ok x w /\ DR1 ρ d x:=by
 obtain⟨callee,args,ats⟩:=c
 unfold dfrOf at h
 cases callee with
 | value f =>
  obtain⟨fv,hf,h1⟩:=zb.1 (show ob (ev T f) _=some d from h)
  obtain⟨as,has,h2⟩:=zb.1 h1
  split at h2
  ·rename_i g fi ca
   cases h2
   have hfv:=zr hT hf
   have hargs:VRs ρ as (args.map a.eval).toList:=by rw[Array.toList_map];exact zat hT has
   generalize hev:a.eval f=f' at hfv
   cases hfv with
   | func g1 g2 =>
    rename_i fi' ca'
    refine⟨{ target:=.fn (.func g) ca',args:=fi' ++ args.map a.eval },?_,_,_,rfl,?_⟩
    ·show(Deferred.ofValue (a.eval f) (args.map a.eval)).run P w=_
     rw[hev]
     rfl
    ·simp only[Array.toList_append]
     exact(g1.append hargs).append g2
  ·cases h2
 | invoke r n=>cases h
 | builtin b=>cases h
theorem z4j(hm:z0j rec)(hrec:RecSim P rec)(hcall:RecFn P rec){ops:Array Oper} :
  ∀(os:List Oper) (i:Nat) (T:Tm) (ms:List Dfr) (m:Mem) (q:Out),(∀ j,os[j]?=ops[i+j]?)->z0p P ro rec ops.toList os T ms m=some q ->
  ∀(Pt:Prot) (ρ:Rho) (b:Frame) (k:List Item) (cs:List Frame) (w:World) (a:Act),RO ρ ro b.roundOf->TR ρ T a.tmps->DR ρ ms a.defers->Rel Pt ρ m w->Fresh ρ m.next q.mem.next ->
   CodeOut P Pt ρ m.next (lone (b.atR a (.inRegion ops (List.range' i os.length) :: k)) cs w) b k cs q
 | [],i,T,ms,m,q,_,h,Pt,ρ,b,k,cs,w,a,_,hT,hd,hrel,hf=>by
  cases h
  exact⟨ρ,a,w,Same.refl _ _ _,hT,hd,hrel,.one stepR_region_end⟩
 | o :: os,i,T,ms,m,q,hos,h,Pt,ρ,b,k,cs,w,a,hro,hT,hd,hrel,hf=>by
  have ho:ops[i]?=some o:=by have:=hos 0;simpa using this.symm
  have hos':∀ j,os[j]?=ops[i+1+j]?:=fun j=>by have:=hos (j+1);simp only[List.getElem?_cons_succ] at this;rw[this];congr 1;omega
  rw[List.length_cons,z2t]
  cases z57 h with
  | on hw hnd hst h1 =>
   rename_i T1 m1
   have hw':=z0w hw hT
   have n1:=hst.next' hm (z4h o.op)
   have n2:=z2p hm _ _ _ _ _ h1
   obtain⟨ρ1,v1,w1,hs1,hT1,hrel1,hsteps⟩:=z3m (b:=b) hm hrec ho hst hcall (z4h o.op) (fun r hr hf=>zb3 hr hT hrel hf) (fun c e=>by rw[e] at hnd;cases hnd) (List.range' (i+1) os.length) k cs hw' hT hrel (hf.left n2)
   have:=z4j hm hrec hcall os (i+1) T1 ms m1 q hos' h1 Pt ρ1 b k cs w1 _ (hro.mono hs1.1) hT1 (by rw[z0b];exact hd.mono hs1.1) hrel1 (hf.right hs1 n1)
   exact this.after hsteps hs1 n1 n2
  | boom hw hnd hst he =>
   rename_i v m1
   subst he
   have hw':=z0w hw hT
   obtain⟨ρ1,v1,w1,hs1,hv1,hrel1,hsteps⟩:=z9x (b:=b) (T:=T) hm hrec ho hst hcall (fun r hr hf=>zb3 hr hT hrel hf) (fun c e=>by rw[e] at hnd;cases hnd) (List.range' (i+1) os.length) k cs hw' hT hrel hf
   exact⟨ρ1,a,w1,v1,_,hs1,hT.mono hs1.1,hd.mono hs1.1,hrel1,hv1,hsteps⟩
  | dfr hw hop hr hc hp h1 =>
   rename_i c d T1
   have hw':=z0w hw hT
   have hrb:b.roundOf=none:=by
    subst hr
    cases hb2:b.roundOf with
    | none=>rfl
    | some _=>rw[hb2] at hro;exact hro.elim
   obtain⟨x,hx,hdx⟩:=zhp (P:=P) hT hc o.type w
   let a1:Act:={ a with defers:=x :: a.defers }
   have hstep:step P (lone (b.atR a (.inRegion ops (i :: List.range' (i+1) os.length) :: k)) cs w)=.next (lone (b.atR (a1.put o.dst undef) (.inRegion ops (List.range' (i+1) os.length) :: k)) cs w):=by
    refine step_lone_go ?_
    rw[stepGR_op ho hw']
    have hsem:(o.semAt b.roundOf a.eval).run P w=.ok (.defer x) w:=by
     rw[hrb,Oper.semAt_none]
     obtain⟨dst,op,ty,pos,af,gd⟩:=o
     have hop:op=.defer c:=hop
     subst hop
     show(do pure (.defer (<- resolve a.eval c ty)):Sem Next).run P w=_
     rw[Sem.run_bind,hx];rfl
    have hfin:(b.atR a1 (.inRegion ops (i :: List.range' (i+1) os.length) :: k)).finish undef=b.atR (a1.put o.dst undef) (.inRegion ops (List.range' (i+1) os.length) :: k):=by rw[Frame.finish_atR,ho];rfl
    rw[<-hfin]
    simp only[stepG.apply,Sem.runT_eq,if_true,hsem]
    rfl
   have:=z4j hm hrec hcall os (i+1) T1 (d :: ms) m q hos' h1 Pt ρ b k cs w (a1.put o.dst undef) hro (by
    have:=TR.put (a:=a1) (v':=undef) (show TR ρ T a1.tmps from hT) hp (.tup .nil)
    exact this) (by rw[z0b];exact⟨hdx,hd⟩) hrel hf
   exact this.of_steps (.one hstep)
  | off hw hp h1 =>
   rename_i T1
   have hw':=z0w hw hT
   have:=z4j hm hrec hcall os (i+1) T1 ms m q hos' h1 Pt ρ b k cs w (a.put o.dst undef) hro (hT.put hp (.tup .nil)) (by rw[z0b];exact hd) hrel hf
   refine this.of_steps (.one ?_)
   have:=stepR_op_skip (P:=P) (b:=b) (a:=a) (k:=k) (cs:=cs) (w:=w) (ops:=ops) (i:=i) (rest:=List.range' (i+1) os.length) (by simp[ho,hw'])
   rw[this,ho];rfl
def resF(tmps:Array Value):ResultVar->Sem Value:=fun r=>match r with
 | .tmp t=>pure (tmps.getD t undef)
 | .cell a t=>do loadVar t (<- asAddr (tmps.getD a undef))
theorem z8t{Pt:Prot}{ρ:Rho}{m:Mem}{w:World}{T:Tm}{tmps:Array Value}(hT:TR ρ T tmps)(hrel:Rel Pt ρ m w) :
  ∀(rs:List ResultVar) (vs:List LV),z0s P T m rs=some vs->∃ vs':List Value,(rs.mapM (resF tmps)).run P w=.ok vs' w /\ VRs ρ vs vs'
 | [],vs,h=>by cases h;exact⟨[],rfl,.nil⟩
 | r :: rs,vs,h=>by
  obtain⟨v,hv,h1⟩:=zb.1 (show ob (resultOf P T m r) _=some vs from h)
  obtain⟨vs2,hvs,h2⟩:=zb.1 h1
  cases h2
  obtain⟨vs',hr,hvr⟩:=z8t hT hrel rs vs2 hvs
  have key:∃ v',(resF tmps r).run P w=.ok v' w /\ VR ρ v v':=by
   cases r with
   | tmp t =>
    have hv:evT T t=some v:=hv
    rw[z3r] at hv;cases hv
    exact⟨_,rfl,hT.2 t⟩
   | cell x t =>
    obtain⟨xv,hx,hl⟩:=zb.1 (show ob (evT T x) (fun a=>loadT P t m a)=some v from hv)
    rw[z3r] at hx;cases hx
    obtain⟨ad,v',e,hr,hv'⟩:=zcb hrel (hT.2 x) hl
    refine⟨v',?_,hv'⟩
    simp only[resF,Sem.run_bind,e,asAddr,Sem.run_pure,Result.andThen_ok]
    exact hr
  obtain⟨v',hr',hv'⟩:=key
  refine⟨v' :: vs',?_,.cons hv' hvr⟩
  rw[List.mapM_cons,Sem.run_bind,hr',Result.andThen_ok,Sem.run_bind,hr]
  rfl
theorem zgl{ρ:Rho}{vs:List LV}{vs':Array Value}(h:VRs ρ vs vs'.toList):VR ρ (packed vs) (if h:vs'.size=1 then vs'[0] else .tuple vs'):=by
 obtain⟨l⟩:=vs'
 have h:VRs ρ vs l:=h
 have hl:=h.length
 match vs,l,h with
 | [],[],h=>simp;exact .tup .nil
 | [v],[v'],h=>cases h with|cons h _=>simpa [packed] using h
 | v :: u :: vs,v' :: u' :: l,h =>
  have:¬(v' :: u' :: l).toArray.size=1:=by simp
  rw[dif_neg this]
  exact .tup h
theorem Tm.setAll_sim{ρ:Rho}:∀(vs:List LV) (vs':List Value) (i:Nat) (T T':Tm) (A:Array Value),Tm.setAll vs i T=some T'->VRs ρ vs vs' ->
  A.size=T.size->(∀ j,j < i->VR ρ (T.get j) (A.getD j undef))->(∀ j,i<=j->T.get j=.unk)->(∀ j v',vs'[j]?=some v'->A[i+j]?=some v')->GlobOk ρ->TR ρ T' A
 | [],vs',i,T,T',A,h,_,hs,hlo,hhi,_,hG=>by
  cases h
  refine⟨hs,fun j=>?_,hG⟩
  by_cases hj:j < i
  ·exact hlo j hj
  ·rw[hhi j (by omega)];exact .unk _
 | v :: vs,vs',i,T,T',A,h,hv,hs,hlo,hhi,hA,hG=>by
  cases hv with
  | cons hv hvs =>
   rename_i v' vs'
   obtain⟨T1,h1,h2⟩:=zb.1 (show ob (T.set i v) _=some T' from h)
   obtain⟨hi,e⟩:=Tm.set_eq.1 h1
   refine Tm.setAll_sim vs vs' (i+1) T1 T' A h2 hvs (by rw[hs,e]) (fun j hj=>?_) (fun j hj=>?_) (fun j x hx=>?_) hG
   ·rw[Tm.get_set h1]
    by_cases hji:j=i
    ·subst hji
     rw[if_pos rfl,Array.getD_eq_getD_getElem?]
     have:=hA 0 v' rfl
     rw[Nat.add_zero] at this
     rw[this];exact hv
    ·rw[if_neg hji];exact hlo j (by omega)
   ·rw[Tm.get_set h1,if_neg (by omega)];exact hhi j (by omega)
   ·have:=hA (j+1) x (by simpa using hx)
    rw[<-this];congr 1;omega
theorem z4g{ρ:Rho}{n:Nat}{vs:List LV}{T:Tm}{A:Array Value}(h:Tm.ofList n vs=some T)(hv:VRs ρ vs A.toList)(hG:GlobOk ρ):TR ρ T (A ++ Array.replicate (n - A.size) undef):=by
 unfold Tm.ofList at h
 rw[z1m] at h
 have hl:vs.length=A.size:=by simpa using hv.length
 refine Tm.setAll_sim vs A.toList 0 _ T _ h hv ?_ (fun j hj=>by omega) (fun j _=>?_) (fun j v' hj=>?_) hG
 ·show(A ++ Array.replicate (n - A.size) undef).size=Nat.max n vs.length
  simp[hl,Nat.max_def];split<;>omega
 ·unfold Tm.get;simp
 ·simp only[Array.getElem?_toList] at hj
  have hb:=(Array.getElem?_eq_some_iff.1 hj).1
  rw[Nat.zero_add,Array.getElem?_append_left hb];exact hj
theorem z8s{fn:Func}{tmps:Array Value}{w:World}{vs':List Value}(h:(fn.results.toList.mapM (resF tmps)).run P w=.ok vs' w) :
  (results fn tmps).run P w=.ok (if h:vs'.toArray.size=1 then vs'.toArray[0] else .tuple vs'.toArray) w:=by
 unfold results
 rw[Sem.run_bind]
 have hF:(fun r=>match r with
  | .tmp t=>pure (tmps.getD t undef)
  | .cell a t=>do loadVar t (<- asAddr (tmps.getD a undef)):ResultVar->Sem Value)=resF tmps:=by
  funext r;cases r<;>rfl
 have:(fn.results.mapM (resF tmps)).run P w=.ok vs'.toArray w:=by
  rw[Array.mapM_eq_mapM_toList,Sem.run_map,h];rfl
 rw[<-hF] at this
 refine(congrArg (fun x=>Result.andThen x _) this).trans ?_
 rfl
theorem z3h{f:FuncId}{fn:Func}(h:fnOf P f=some fn):P.funcs[f]?=some fn /\ fn.body.isSome=true /\ (fn.name == "runtime.NumGoroutine")=false:=by
 obtain⟨fn',hg,hx3⟩:=zb.1 h
 obtain⟨hb,hx4⟩:=zc.1 hx3
 obtain⟨hn,hx5⟩:=zc.1 hx4
 cases hx5
 exact⟨hg,hb,by simpa using hn⟩
theorem zet{Pt:Prot}{ρ:Rho}{m:Mem}{w:World}{d:Nat}{x:Deferred}(hg:m.get d=some .defr)(hx:DR1 ρ (.mark d) x)(hrel:Rel Pt ρ m w)(fr:Frame)(hmode:fr.mode ≠ .run)(cs:List Frame)(ds:List Deferred)(hd:fr.defers=x :: ds) :
  ∃ w',Rel Pt ρ (m.upd d none) w' /\ step P (lone fr cs w)=.next (lone { fr with defers:=ds } cs w'):=by
 obtain⟨bl,s,c,hρ,rfl⟩:=hx
 obtain⟨_,b1,s1,c1,o,e1,hbr,hh,_⟩:=hrel.live d _ hg
 rw[hρ] at e1;cases e1
 have hbr:o=.deferred (some []):=hbr
 subst hbr
 obtain⟨hp,hfree⟩:=hrel.freed hg rfl hρ
 have hbl:bl < w.heap.size:=(Array.getElem?_eq_some_iff.1 hh).1
 let w1:World:={ w with heap:=w.heap.setIfInBounds bl (.deferred none) }
 refine⟨w1,(hrel.drop d).other hp hfree (fun r hr=>?_) ⟨rfl,rfl⟩,step_lone_go ?_⟩
 ·show(w.heap.setIfInBounds bl _)[r]?=_
  rw[Array.getElem?_setIfInBounds_ne (Ne.symm hr)]
 ·have hrun:(Instr.takeDeferred bl).run P w=.ok [] w1:=by
   simp[Instr.takeDeferred,getObj,setObj,Sem.run,hh,w1]
  cases hm2:fr.mode with
  | run=>exact absurd hm2 hmode
  | returning=>simp[stepG,unwind,hm2,hd,Sem.runT_eq,hrun]
  | panicking ch=>simp[stepG,unwind,hm2,hd,Sem.runT_eq,hrun]
def Pv(ρ:Rho)(pv:LV):FrameMode->FrameMode->Prop
 | .returning,u'=>pv=.nilIface /\ u'=.returning
 | .panicking ch,u'=>∃ v',ch=[{ v:=v',recovered:=false }] /\ VR ρ pv v' /\ u'=.panicking [{ v:=v',recovered:=true }]
 | .run,_=>False
theorem z9l(hrec:RecSim P rec){f:FuncId}{args:List LV}{pv:LV}{m m':Mem}(h:dfrRun P rec f args pv m=some m'){Pt:Prot}{ρ:Rho}{w:World}{args':Array Value}(ha:VRs ρ args args'.toList)(hG:GlobOk ρ)
  (hrel:Rel Pt ρ m w) (hf:Fresh ρ m.next m'.next) (c0:Frame) (cs:List Frame) {u':FrameMode} (hp:Pv ρ pv c0.mode u') :
  ∃ ρ' w',Same ρ ρ' m.next m'.next /\ Rel Pt ρ' m' w' /\ Steps P (lone (Frame.enter P f args' .deferred) (c0 :: cs) w) (lone { c0 with mode:=.returning } cs w'):=by
 obtain⟨fn,T,c,d,e,c',T1,T2,ex,T',hfn,hT,hc,hh,h5,h6,hres,hex,hrun⟩:=z5f h
 obtain⟨hg,_,_⟩:=z3h hfn
 obtain⟨id,ops,t,rfl,rfl,ats,ty1,p1,a1,ty2,p2,a2,rfl⟩:=zgp hh
 let b:Frame:={ fn:=f,tmps:=#[],todo:=[],defers:=[],mode:=.run,kind:=.deferred,roundOf:=none }
 let A0:Act:={ tmps:=args' ++ Array.replicate (fn.ntmps - args'.size) undef,defers:=[] }
 have hT0:=z4g hT ha hG
 have henter:Frame.enter P f args' .deferred=b.atR A0 [.code (.seq (.region id #[⟨some t,.call ⟨.builtin .recover,#[],ats⟩,ty1,p1,a1,none⟩,⟨e,.assign (.tmp t),ty2,p2,a2,none⟩] false) c')]:=by
  simp[Frame.enter,Frame.atR,hg,hc,b,A0]
 have hrec0:∃ v' cs1,VR ρ pv v' /\ cs1=({ c0 with mode:=u' }:Frame) :: cs /\ (tryRecover (b.atR A0 []) (c0 :: cs)=some (v',cs1) ∨(tryRecover (b.atR A0 []) (c0 :: cs)=none /\ v'=.nilIface /\ cs1=c0 :: cs)):=by
  cases hm0:c0.mode with
  | run=>rw[hm0] at hp;exact hp.elim
  | returning =>
   rw[hm0] at hp
   obtain⟨rfl,rfl⟩:=hp
   have hc0:({ c0 with mode:=.returning }:Frame)=c0:=by rw[<-hm0]
   exact⟨.nilIface,_,.nilIface,rfl,.inr ⟨by simp[tryRecover,Frame.atR,b,hm0],rfl,by rw[hc0]⟩⟩
  | panicking ch =>
   rw[hm0] at hp
   obtain⟨v',rfl,hv,rfl⟩:=hp
   exact⟨v',_,hv,rfl,.inl (by simp[tryRecover,Frame.atR,b,hm0])⟩
 obtain⟨v',cs1,hv,hcs1,htr⟩:=hrec0
 have hop:∀(l:List Nat),((#[⟨some t,.call ⟨.builtin .recover,#[],ats⟩,ty1,p1,a1,none⟩,⟨e,.assign (.tmp t),ty2,p2,a2,none⟩]:Array Oper)[0]?)=some ⟨some t,.call ⟨.builtin .recover,#[],ats⟩,ty1,p1,a1,none⟩:=fun _=>rfl
 let ops:Array Oper:=#[⟨some t,.call ⟨.builtin .recover,#[],ats⟩,ty1,p1,a1,none⟩,⟨e,.assign (.tmp t),ty2,p2,a2,none⟩]
 have s0:Steps P (lone (Frame.enter P f args' .deferred) (c0 :: cs) w) (lone (b.atR A0 (.inRegion ops [0,1] :: .code c' :: [])) (c0 :: cs) w):=by
  rw[henter]
  exact .head stepR_seq (.one stepR_region)
 let A1:Act:=A0.put (some t) v'
 have s1:step P (lone (b.atR A0 (.inRegion ops [0,1] :: .code c' :: [])) (c0 :: cs) w)=.next (lone (b.atR A1 (.inRegion ops [1] :: .code c' :: [])) cs1 w):=by
  refine step_lone_go ?_
  rw[stepGR_op (o:=⟨some t,.call ⟨.builtin .recover,#[],ats⟩,ty1,p1,a1,none⟩) rfl rfl]
  have hsem:(Oper.semAt b.roundOf A0.eval ⟨some t,.call ⟨.builtin .recover,#[],ats⟩,ty1,p1,a1,none⟩).run P w=.ok .recover w:=rfl
  have hfin:∀ x,(b.atR A0 (.inRegion ops [0,1] :: .code c' :: [])).finish x=b.atR (A0.put (some t) x) (.inRegion ops [1] :: .code c' :: []):=fun x=>by rw[Frame.finish_atR];rfl
  have htr':tryRecover (b.atR A0 (.inRegion ops [0,1] :: .code c' :: [])) (c0 :: cs)=tryRecover (b.atR A0 []) (c0 :: cs):=by simp[tryRecover,Frame.atR,b]
  have hro:(b.atR A0 (.inRegion ops [0,1] :: .code c' :: [])).roundOf=none:=rfl
  rcases htr with htr|⟨htr,rfl,hcc⟩
  ·rw[htr] at htr'
   simp only[stepG.apply,Sem.runT_eq,if_true,hsem,hro,htr',hfin]
   rfl
  ·rw[htr] at htr'
   simp only[stepG.apply,Sem.runT_eq,if_true,hsem,hro,htr',hfin]
   rw[hcc]
   rfl
 let A2:Act:=A1.put e (A1.eval (.tmp t))
 have s2:step P (lone (b.atR A1 (.inRegion ops [1] :: .code c' :: [])) cs1 w)=.next (lone (b.atR A2 (.inRegion ops [] :: .code c' :: [])) cs1 w):=by
  refine step_lone_go ?_
  rw[stepGR_op (o:=⟨e,.assign (.tmp t),ty2,p2,a2,none⟩) rfl rfl]
  have hsem:(Oper.semAt b.roundOf A1.eval ⟨e,.assign (.tmp t),ty2,p2,a2,none⟩).run P w=.ok (.value (A1.eval (.tmp t))) w:=rfl
  have hfin:(b.atR A1 (.inRegion ops [1] :: .code c' :: [])).finish (A1.eval (.tmp t))=b.atR A2 (.inRegion ops [] :: .code c' :: []):=by rw[Frame.finish_atR];rfl
  simp only[stepG.apply,Sem.runT_eq,if_true,hsem,hfin]
  rfl
 have hT1:TR ρ T1 A1.tmps:=TR.put (a:=A0) hT0 h5 hv
 have hTt:T1.get t=pv:=by
  have:=Tm.get_set (show T.set t pv=some T1 from h5) t
  rw[if_pos rfl] at this;exact this
 have hT2:TR ρ T2 A2.tmps:=by
  refine TR.put (a:=A1) hT1 h6 ?_
  have:=hT1.2 t
  rw[hTt] at this
  exact this
 have hd2:A2.defers=[]:=by show(A1.put e _).defers=[];rw[z0b];show(A0.put (some t) v').defers=[];rw[z0b]
 obtain⟨ρ',a',w',hs,hT3,hd3,hr3,harr⟩:=hrec _ _ hrun Pt ρ b [] cs1 w A2 rfl trivial hT2 (by rw[hd2];trivial) hrel hf
 have hd3:a'.defers=[]:=by
  cases hx:a'.defers with
  | nil=>rfl
  | cons _ _=>rw[hx] at hd3;exact hd3.elim
 have hret:∃ k1,Steps P (lone (b.atR A2 (.code c' :: [])) cs1 w) (lone { b.atR a' k1 with mode:=.returning } cs1 w'):=by
  rcases hex with rfl|rfl
  ·exact⟨[],Steps.trans harr (.one (stepR_end rfl))⟩
  ·obtain⟨k1,harr⟩:=harr
   exact⟨_,harr.trans (.one (stepR_ret rfl))⟩
 obtain⟨k1,hst⟩:=hret
 have hgo:Frame.going P { b.atR a' k1 with mode:=.returning } w' (.returned (.tuple #[])):=by
  refine⟨rfl,hd3,fn,hg,?_⟩
  have:=z8s (P:=P) (fn:=fn) (tmps:=a'.tmps) (w:=w') (vs':=[]) (by rw[hres];rfl)
  exact this
 have hlast:=step_going_returned (c:={ c0 with mode:=u' }) (cs:=cs) (w:=w') (show({ b.atR a' k1 with mode:=.returning }:Frame).kind=.deferred from rfl) hgo
 have hset:settle u'=.returning:=by
  cases hm0:c0.mode with
  | run=>rw[hm0] at hp;exact hp.elim
  | returning=>rw[hm0] at hp;obtain⟨_,rfl⟩:=hp;rfl
  | panicking ch=>rw[hm0] at hp;obtain⟨v',rfl,hv,rfl⟩:=hp;rfl
 refine⟨ρ',w',hs,hr3,s0.trans (.head s1 (.head s2 (.head stepR_region_end (hst.trans (.one ?_)))))⟩
 rw[hcs1,hlast,hset]
theorem z38(hm:z0j rec)(hrec:RecSim P rec){fn:Func}{T:Tm}{Pt:Prot}(cs:List Frame) :
  ∀(ds:List Dfr) (m:Mem) (v:LV) (m':Mem),finRet P rec fn T ds m=some (.call v m')->∀(ρ:Rho) (w:World) (fr:Frame),fr.mode=.returning->fr.kind=.normal->P.funcs[fr.fn]?=some fn->TR ρ T fr.tmps->DR ρ ds fr.defers->Rel Pt ρ m w->Fresh ρ m.next m'.next ->
   ∃ ρ' v' w' fr',Same ρ ρ' m.next m'.next /\ VR ρ' v v' /\ Rel Pt ρ' m' w' /\ Steps P (lone fr cs w) (lone fr' cs w') /\ fr'.fn=fr.fn /\ fr'.leaving P w' (.returned v')
 | [],m,v,m',h,ρ,w,fr,hmo,hk,hfn,hT,hd,hrel,hf=>by
  obtain⟨vs,h8,h9⟩:=zb.1 (show ob (z0s P T m fn.results.toList) _=some (Out.call v m') from h)
  cases h9
  obtain⟨vs',hres,hvs⟩:=z8t hT hrel fn.results.toList vs h8
  have hd:fr.defers=[]:=by
   cases hx:fr.defers with
   | nil=>rfl
   | cons _ _=>rw[hx] at hd;exact hd.elim
  exact⟨ρ,_,w,fr,Same.refl _ _ _,zgl (by simpa using hvs),hrel,Steps.refl _ _,rfl,hmo,hd,hk,fn,hfn,z8s hres⟩
 | .mark d :: ds,m,v,m',h,ρ,w,fr,hmo,hk,hfn,hT,hd,hrel,hf=>by
  obtain⟨hg,h1⟩:=z7n.1 (show atDefr m d (finRet P rec fn T ds (m.upd d none))=some _ from h)
  cases hx:fr.defers with
  | nil=>rw[hx] at hd;exact hd.elim
  | cons x xs =>
   rw[hx] at hd
   obtain⟨w1,hrel1,hst⟩:=zet (P:=P) hg hd.1 hrel fr (by rw[hmo];simp) cs xs hx
   obtain⟨ρ',v',w',fr',g1,g2,g3,g4,g5⟩:=z38 hm hrec cs ds _ v m' h1 ρ w1 { fr with defers:=xs } hmo hk hfn hT hd.2 hrel1 (by rw[Mem.next_upd];exact hf)
   rw[Mem.next_upd] at g1
   exact⟨ρ',v',w',fr',g1,g2,g3,.head hst g4,g5⟩
 | .call f as :: ds,m,v,m',h,ρ,w,fr,hmo,hk,hfn,hT,hd,hrel,hf=>by
  obtain⟨m1,h1,h2⟩:=zb.1 (show ob (dfrRun P rec f as .nilIface m) _=some (Out.call v m') from h)
  cases hx:fr.defers with
  | nil=>rw[hx] at hd;exact hd.elim
  | cons x xs =>
   rw[hx] at hd
   obtain⟨⟨args,cap,rfl,hargs⟩,hd2⟩:=hd
   have n1:=z3d hm h1
   have n2:m1.next<=m'.next:=z17 hm ds m1 _ h2
   obtain⟨fn0,_,_,_,_,_,_,_,_,_,hfn0,_⟩:=z5f h1
   obtain⟨hg0,hb0,hn0⟩:=z3h hfn0
   have hnone:fn0.body.isNone=false:=by cases hb:fn0.body with
    | none=>rw[hb] at hb0;cases hb0
    | some _=>rfl
   have hinv:(invoke (.fn (.func f) cap) args).run P w=.ok (.enter f (args ++ cap)) w:=by
    simp only[invoke,callFunc,Sem.run_bind,run_program,Result.andThen_ok,hg0,hn0,hnone,Bool.false_eq_true,if_false]
    rfl
   have hst:=step_defer (P:=P) (fr:=fr) (cs:=cs) (d:={ target:=.fn (.func f) cap,args:=args }) (by rw[hmo];simp) hx rfl hinv
   obtain⟨ρ1,w1,hs1,hrel1,hst1⟩:=z9l hrec h1 hargs hT.3 hrel (hf.left n2) { fr with defers:=xs } cs (u':=.returning) (by show Pv ρ _ fr.mode _;rw[hmo];exact⟨rfl,rfl⟩)
   obtain⟨ρ',v',w',fr',g1,g2,g3,g4,g5⟩:=z38 hm hrec cs ds m1 v m' h2 ρ1 w1 { fr with defers:=xs,mode:=.returning } rfl hk hfn (hT.mono hs1.1) (hd2.mono hs1.1) hrel1 (hf.right hs1 n1)
   exact⟨ρ',v',w',fr',hs1.trans g1 n1 n2,g2,g3,.head hst (hst1.trans g4),g5⟩
theorem z4f{fn:Func}{T:Tm}{v:LV}{m':Mem}:∀(ds:List Dfr) (m:Mem),finRet P rec fn T ds m ≠ some (.die v m')
 | [],m,h=>by
  obtain⟨vs,_,h9⟩:=zb.1 (show ob (z0s P T m fn.results.toList) _=some (Out.die v m') from h)
  cases h9
 | .mark d :: ds,m,h=>by
  obtain⟨_,h1⟩:=z7n.1 (show atDefr m d (finRet P rec fn T ds (m.upd d none))=some _ from h)
  exact z4f ds _ h1
 | .call f as :: ds,m,h=>by
  obtain⟨m1,_,h2⟩:=zb.1 (show ob (dfrRun P rec f as .nilIface m) _=some (Out.die v m') from h)
  exact z4f ds _ h2
theorem z37(hm:z0j rec)(hrec:RecSim P rec){fn:Func}{T:Tm}{Pt:Prot}(cs:List Frame){pv:LV}{pv':Value} :
  ∀(ds:List Dfr) (m:Mem) (o:Out),finDie P rec fn T pv ds m=some o->∀(ρ:Rho) (w:World) (fr:Frame),VR ρ pv pv'->fr.mode=.panicking [{ v:=pv',recovered:=false }]->fr.kind=.normal->P.funcs[fr.fn]?=some fn->TR ρ T fr.tmps->DR ρ ds fr.defers->Rel Pt ρ m w->Fresh ρ m.next o.mem.next ->
   match o with
   | .call v m'=>∃ ρ' v' w' fr',Same ρ ρ' m.next m'.next /\ VR ρ' v v' /\ Rel Pt ρ' m' w' /\ Steps P (lone fr cs w) (lone fr' cs w') /\ fr'.fn=fr.fn /\ fr'.leaving P w' (.returned v')
   | .die v m'=>∃ ρ' v' w' fr',Same ρ ρ' m.next m'.next /\ VR ρ' v v' /\ Rel Pt ρ' m' w' /\ Steps P (lone fr cs w) (lone fr' cs w') /\ fr'.fn=fr.fn /\ fr'.leaving P w' (.panicked [{ v:=v',recovered:=false }])
   | _=>True
 | [],m,o,h,ρ,w,fr,hpv,hmo,hk,hfn,hT,hd,hrel,hf=>by
  cases h
  have hd:fr.defers=[]:=by
   cases hx:fr.defers with
   | nil=>rfl
   | cons _ _=>rw[hx] at hd;exact hd.elim
  exact⟨ρ,pv',w,fr,Same.refl _ _ _,hpv,hrel,Steps.refl _ _,rfl,hmo,hd,fn,hfn⟩
 | .mark d :: ds,m,o,h,ρ,w,fr,hpv,hmo,hk,hfn,hT,hd,hrel,hf=>by
  obtain⟨hg,h1⟩:=z7n.1 (show atDefr m d (finDie P rec fn T pv ds (m.upd d none))=some _ from h)
  cases hx:fr.defers with
  | nil=>rw[hx] at hd;exact hd.elim
  | cons x xs =>
   rw[hx] at hd
   obtain⟨w1,hrel1,hst⟩:=zet (P:=P) hg hd.1 hrel fr (by rw[hmo];simp) cs xs hx
   have ih:=z37 hm hrec cs ds _ o h1 ρ w1 { fr with defers:=xs } hpv hmo hk hfn hT hd.2 hrel1 (by rw[Mem.next_upd];exact hf)
   cases o with
   | call v m' =>
    obtain⟨ρ',v',w',fr',g1,g2,g3,g4,g5⟩:=ih
    rw[Mem.next_upd] at g1
    exact⟨ρ',v',w',fr',g1,g2,g3,.head hst g4,g5⟩
   | die v m' =>
    obtain⟨ρ',v',w',fr',g1,g2,g3,g4,g5⟩:=ih
    rw[Mem.next_upd] at g1
    exact⟨ρ',v',w',fr',g1,g2,g3,.head hst g4,g5⟩
   | code _ _ _ _=>trivial
   | boom _ _ _ _=>trivial
 | .call f as :: ds,m,o,h,ρ,w,fr,hpv,hmo,hk,hfn,hT,hd,hrel,hf=>by
  obtain⟨m1,h1,h2⟩:=zb.1 (show ob (dfrRun P rec f as pv m) _=some o from h)
  cases o with
  | code _ _ _ _=>trivial
  | boom _ _ _ _=>trivial
  | die v m' =>
   exact absurd h2 (z4f ds m1)
  | call v m' =>
   cases hx:fr.defers with
   | nil=>rw[hx] at hd;exact hd.elim
   | cons x xs =>
    rw[hx] at hd
    obtain⟨⟨args,cap,rfl,hargs⟩,hd2⟩:=hd
    have n1:=z3d hm h1
    have n2:m1.next<=m'.next:=z17 hm ds m1 _ h2
    obtain⟨fn0,_,_,_,_,_,_,_,_,_,hfn0,_⟩:=z5f h1
    obtain⟨hg0,hb0,hn0⟩:=z3h hfn0
    have hnone:fn0.body.isNone=false:=by cases hb:fn0.body with
     | none=>rw[hb] at hb0;cases hb0
     | some _=>rfl
    have hinv:(invoke (.fn (.func f) cap) args).run P w=.ok (.enter f (args ++ cap)) w:=by
     simp only[invoke,callFunc,Sem.run_bind,run_program,Result.andThen_ok,hg0,hn0,hnone,Bool.false_eq_true,if_false]
     rfl
    have hst:=step_defer (P:=P) (fr:=fr) (cs:=cs) (d:={ target:=.fn (.func f) cap,args:=args }) (by rw[hmo];simp) hx rfl hinv
    obtain⟨ρ1,w1,hs1,hrel1,hst1⟩:=z9l hrec h1 hargs hT.3 hrel (hf.left n2) { fr with defers:=xs } cs (by show Pv ρ _ fr.mode _;rw[hmo];exact⟨pv',rfl,hpv,rfl⟩)
    obtain⟨ρ',v',w',fr',g1,g2,g3,g4,g5⟩:=z38 hm hrec cs ds m1 v m' h2 ρ1 w1 { fr with defers:=xs,mode:=.returning } rfl hk hfn (hT.mono hs1.1) (hd2.mono hs1.1) hrel1 (hf.right hs1 n1)
    exact⟨ρ',v',w',fr',hs1.trans g1 n1 n2,g2,g3,.head hst (hst1.trans g4),g5⟩
end
end PvL
end
section
namespace PvL
open Go
section
variable {P:Program} {rec:Task->Option Out}
def DrawSim(P:Program)(rec:Task->Option Out):Prop:=(∀(A ops:Array Oper) (σ τ:Nat->Nat) (T T':Tm) (m m':Mem) (st:List Mem) (kk:Nat) (ps:List Pend),Reord A ops σ τ ->
  regionOk P ops=true->z0d P rec ops.toList (deps ops) ops.toList 0 ⟨T,m,[m],0,[]⟩=some ⟨T',m',st,kk,ps⟩->z19 P st kk ps=true ->
  ∀(Pt:Prot) (ρ:Rho) (b:Frame) (id:Nat) (k:List Item) (cs:List Frame) (w:World) (a:Act),TR ρ T a.tmps->Rel Pt ρ m w->Fresh ρ m.next m'.next ->
   ∃ ρ' a' w',Same ρ ρ' m.next m'.next /\ TR ρ' T' a'.tmps /\ a'.defers=a.defers /\ Rel Pt ρ' m' w' /\
    Steps P (lone (b.atR a (.code (.region id A true) :: k)) cs w) (lone (b.atR a' k) cs w')) /\
 (∀(A ops:Array Oper) (σ τ:Nat->Nat) (T:Tm) (m:Mem) (v:LV) (m2:Mem) (d:DS),Reord A ops σ τ ->
  regionOk P ops=true->z0n P rec ops.toList (deps ops) ops.toList 0 ⟨T,m,[m],0,[]⟩=some (v,m2,d)->z19 P d.st d.k d.ps=true ->
  ∀(Pt:Prot) (ρ:Rho) (b:Frame) (id:Nat) (k:List Item) (cs:List Frame) (w:World) (a:Act),TR ρ T a.tmps->Rel Pt ρ m w->Fresh ρ m.next d.m.next ->
   ∃ ρ' a' w' v' k1,Same ρ ρ' m.next d.m.next /\ a'.tmps.size=T.size /\ a'.defers=a.defers /\ VR ρ' v v' /\ Rel Pt ρ' m2 w' /\
    Steps P (lone (b.atR a (.code (.region id A true) :: k)) cs w) (lone (Frame.boom (b.atR a' k1) v') cs w'))
theorem Rel.loop{Pt:Prot}{ρ:Rho}{m:Mem}{w:World}(h:Rel Pt ρ m w){i:Nat}{st:LoopState}{pend:Option Code}{fn:FuncId}{tm:Tm}{ps:List Tmp}{as bd:Code}{d:Nat}
  (hi:m.get i=some (.loop st pend fn tm ps as bd d)) {b s c:Nat} (hρ:ρ i=some (b,s,c)) :
  ∃ T' db,w.heap[b]?=some (.loop { state:=st,pending:=pend,fn,tmps:=T',params:=ps.toArray,assign:=as,body:=bd,defers:=db }) /\ TR ρ tm T' /\ ∃ s c,ρ d=some (db,s,c):=by
 obtain⟨_,b0,s0,c0,o,e0,⟨T',db,rfl,hT,hd⟩,hh,_⟩:=h.live i _ hi
 rw[hρ] at e0;cases e0
 exact⟨T',db,hh,hT,hd⟩
theorem Rel.turnLoop{Pt:Prot}{ρ:Rho}{m:Mem}{w:World}(h:Rel Pt ρ m w){i:Nat}{st st':LoopState}{pend pend':Option Code}{fn:FuncId}{tm:Tm}{ps:List Tmp}{as bd:Code}{d:Nat}
  (hi:m.get i=some (.loop st pend fn tm ps as bd d)) {b s c:Nat} (hρ:ρ i=some (b,s,c)) {T':Array Value} {db:Nat} (hT:TR ρ tm T') (hd:∃ s c,ρ d=some (db,s,c)) (hb:b < w.heap.size) :
  Rel Pt ρ (m.upd i (some (.loop st' pend' fn tm ps as bd d))) { w with heap:=w.heap.setIfInBounds b (.loop { state:=st',pending:=pend',fn,tmps:=T',params:=ps.toArray,assign:=as,body:=bd,defers:=db }) }:=by
 refine h.turn hi rfl rfl hρ (o':=.loop { state:=st',pending:=pend',fn,tmps:=T',params:=ps.toArray,assign:=as,body:=bd,defers:=db }) ⟨T',db,rfl,hT,hd⟩ ?_ ?_
 ·show(w.heap.setIfInBounds b _)[b]?=_
  rw[Array.getElem?_setIfInBounds_self_of_lt hb]
 ·intro r hr
  show(w.heap.setIfInBounds b _)[r]?=_
  rw[Array.getElem?_setIfInBounds_ne (Ne.symm hr)]
theorem Steps.tail{m1 m2 m3:Machine}(h:step P m1=.next m2)(h':Steps P m1 m3)(hne:m3 ≠ m1):Steps P m2 m3:=by
 obtain⟨n,hn⟩:=h'
 cases n with
 | zero=>cases hn;exact absurd rfl hne
 | succ n =>
  simp only[runN,h] at hn
  exact⟨n,hn⟩
theorem z8g{fr fr':Frame}{cs cs':List Frame}{w w':World}(h:lone fr cs w=lone fr' cs' w'):fr.todo=fr'.todo:=by
 unfold lone at h
 have:=congrArg Machine.gs h
 simp at this
 rw[this.1]
theorem zcc{fr fr':Frame}{cs cs':List Frame}{w w':World}(h:lone fr cs w=lone fr' cs' w'):fr.mode=fr'.mode:=by
 unfold lone at h
 have:=congrArg Machine.gs h
 simp at this
 rw[this.1]
theorem Rel.bump0{Pt:Prot}{ρ:Rho}{m:Mem}{w:World}{n:Nat}(h:Rel Pt ρ m w)(hn:m.next<=n):Rel Pt ρ ⟨n,m.tr⟩ w:=by
 refine⟨h.keep,fun i lb hi=>?_,fun i j lb lb' x y hi hj=>h.inj i j lb lb' x y (by rw[Mem.get_mk] at hi;cases m;exact hi) (by rw[Mem.get_mk] at hj;cases m;exact hj),h.still⟩
 have hi:m.get i=some lb:=by rw[Mem.get_mk] at hi;cases m;exact hi
 obtain⟨hl,r⟩:=h.live i lb hi
 exact⟨Nat.lt_of_lt_of_le hl hn,r⟩
theorem Arr.of_loop{m0 X:Machine}{b:Frame}{k:List Item}{cs:List Frame}{x:Code}{a1 a2:Act}{w1 w2:World}{e:Ex}(pre:Steps P m0 X)(s2:step P (lone (b.atR a1 (Item.code (.loop x) :: k)) cs w1)=.next X)
  (h:Arr P (lone (b.atR a1 (Item.code (.loop x) :: k)) cs w1) b k cs e a2 w2):Arr P m0 b k cs e a2 w2:=by
 cases e with
 | norm =>
  refine pre.trans (Steps.tail s2 h fun e=>?_)
  have:=z8g e
  simp[Frame.atR] at this
 | ret =>
  obtain⟨k1,h1⟩:=h
  refine⟨k1,pre.trans (Steps.tail s2 h1 fun e=>?_)⟩
  have:=z8g e
  simp[Frame.atR] at this
 | exit id =>
  obtain⟨k1,hk,h1⟩:=h
  refine⟨k1,hk,pre.trans (Steps.tail s2 h1 fun e=>?_)⟩
  have:=z8g e
  simp[Frame.atR] at this
theorem zcl(hrec:RecSim P rec){fn:FuncId}{ro:Option Nat}{l:Nat}{T:Tm}{ms:List Dfr}{m:Mem}{o:Out}(h:rfEnd rec fn ro l T ms m=some o)
  {Pt:Prot} {ρ:Rho} {b:Frame} {k:List Item} {cs:List Frame} {w:World} {a:Act} {bl s c:Nat} (hρ:ρ l=some (bl,s,c)) (hb:b.fn=fn) (hro:RO ρ ro b.roundOf) (hT:TR ρ T a.tmps) (hd:DR ρ ms a.defers) (hrel:Rel Pt ρ m w) (hf:Fresh ρ m.next o.mem.next) :
  CodeOut P Pt ρ m.next (lone (b.atR a (.endRangeFunc bl :: k)) cs w) b k cs o:=by
 obtain⟨st,pend,fn',tm',ps',a',b',d',hg,h1⟩:=z18 h
 obtain⟨hnb,h2⟩:=z9v h1
 obtain⟨TT,db,hh,hTT,hdd⟩:=hrel.loop hg hρ
 have hbl:bl < w.heap.size:=(Array.getElem?_eq_some_iff.1 hh).1
 have hrel1:=hrel.turnLoop (st':=.exhausted) (pend':=pend) hg hρ hTT hdd hbl
 have hend:(Instr.endLoop bl).run P w=.ok pend { w with heap:=w.heap.setIfInBounds bl (.loop { state:=.exhausted,pending:=pend,fn:=fn',tmps:=TT,params:=ps'.toArray,assign:=a',body:=b',defers:=db }) }:=by
  unfold Instr.endLoop Instr.getLoop
  simp only[Sem.run_bind,z0i hh (by simp),Result.andThen_ok,Sem.run_pure]
  have:(st == LoopState.busy)=false:=by cases st<;>first|rfl|exact absurd rfl hnb
  simp only[this,Bool.false_eq_true,if_false,Sem.run_bind,z2i hh (by simp),Result.andThen_ok,Sem.run_pure]
 have hstep:=stepR_endRangeFunc (P:=P) (b:=b) (a:=a) (k:=k) (cs:=cs) hend
 cases pend with
 | none =>
  cases h2
  exact⟨ρ,a,_,by rw[Mem.next_upd];exact Same.refl _ _ _,hT,hd,hrel1,.one hstep⟩
 | some c0 =>
  have h2:rec (.code fn ro c0 T ms (m.upd l (some (.loop .exhausted (some c0) fn' tm' ps' a' b' d'))))=some o:=h2
  have:=hrec _ _ h2 Pt ρ b k cs _ a hb hro hT hd hrel1 (by rw[Mem.next_upd];exact hf)
  rw[Mem.next_upd] at this
  exact this.of_steps (.one hstep)
theorem za0(hm:z0j rec)(hrec:RecSim P rec)(hcall:RecFn P rec)
  {fn:FuncId} {ro:Option Nat} {f:Operand} {ps:Array Tmp} {as bd:Code} {d:Nat} {T:Tm} {ms:List Dfr} {m:Mem} {o:Out} (h:rfCall rec fn ro f ps as bd d T ms m=some o)
  {Pt:Prot} {ρ:Rho} {b:Frame} {k:List Item} {cs:List Frame} {w:World} {a:Act} {w0:World} {mark:List Deferred} {db s c:Nat} (hρ:ρ d=some (db,s,c)) (hb:b.fn=fn) (hro:RO ρ ro b.roundOf) (hT:TR ρ T a.tmps)
  (hd:DR ρ ms (mark ++ a.defers)) (hrel:Rel Pt ρ m w) (hf:Fresh ρ m.next o.mem.next)
  (henter:(Instr.enterLoop b.fn a.tmps ps as bd b.roundOf).run P w0=.ok (w.heap.size,mark) { w with heap:=w.heap.push (.loop { state:=.ready,pending:=none,fn:=b.fn,tmps:=a.tmps,params:=ps,assign:=as,body:=bd,defers:=db }) }) :
  CodeOut P Pt ρ m.next (lone (b.atR a (.code (.rangeFunc f ps as bd) :: k)) cs w0) b k cs o:=by
 have hnext:=z3p hm h
 unfold rfCall at h
 rw[Mem.new_eq] at h
 obtain⟨fv,hfv,h1⟩:=zb.1 h
 obtain⟨g,fi,ca,rfl,h2⟩:=zh1 h1
 have key:∃ o2,rec (.call g (fi ++ [LV.func (.yield m.next) [] []] ++ ca) (m.push (.loop .ready none fn T ps.toList as bd d)))=some o2 /\ ((∃ v m2,o2=.call v m2 /\ rfEnd rec fn ro m.next T ms m2=some o) ∨ ∃ v m2,o2=.die v m2 /\ o=.boom v T ms m2):=by
  rcases z2r h2 with⟨v,m2,h3,h4⟩|⟨v,m2,h3,h4⟩
  ·exact⟨_,h3,.inl ⟨v,m2,rfl,h4⟩⟩
  ·exact⟨_,h3,.inr ⟨v,m2,rfl,(Option.some.inj h4).symm⟩⟩
 obtain⟨o2,h3,hcase⟩:=key
 obtain⟨fn0,hfn0⟩:=hcall _ _ _ _ h3
 have n3:m.next+1<=o2.mem.next:=hm _ _ h3
 have n4:o2.mem.next<=o.mem.next:=by
  rcases hcase with⟨v,m2,rfl,h4⟩|⟨v,m2,rfl,rfl⟩
  ·exact z6j hm h4
  ·exact Nat.le_refl _
 have hf0:ρ m.next=none:=hf _ (Nat.le_refl _) (by omega)
 have hle:=RLe.upd1 (ρ:=ρ) (i:=m.next) (x:=(w.heap.size,0,0)) hf0
 have hrel1:=hrel.alloc hf0 (lb:=.loop .ready none fn T ps.toList as bd d) (o:=.loop { state:=.ready,pending:=none,fn:=b.fn,tmps:=a.tmps,params:=ps,assign:=as,body:=bd,defers:=db }) (c:=0) rfl
  ⟨a.tmps,db,by rw[hb,Array.toArray_toList],hT,s,c,hρ⟩
 have hs1:=Same.upd1 (ρ:=ρ) (i:=m.next) (x:=(w.heap.size,0,0)) hf0
 have hfr:=(hf.right hs1 (Nat.le_succ _))
 have hvf:=zr hT hfv
 cases hev:a.eval f with
 | func F fi' ca' =>
  rw[hev] at hvf
  cases hvf with
  | func g1 g2 =>
   have hargs:VRs (upd1 ρ m.next (w.heap.size,0,0)) (fi ++ [LV.func (.yield m.next) [] []] ++ ca) (fi' ++ #[Value.func (.yield w.heap.size) #[] #[]] ++ ca').toList:=by
    simp only[Array.toList_append]
    exact((g1.mono hle).append (.cons (.yield (z06 _ _ _)) .nil)).append (g2.mono hle)
   obtain⟨hg,hbody,hnm⟩:=z3h hfn0
   have hnone:fn0.body.isNone=false:=by cases hbb:fn0.body with
    | none=>rw[hbb] at hbody;cases hbody
    | some _=>rfl
   have hres:(resolve a.eval (rangeCall f w.heap.size) 0).run P { w with heap:=w.heap.push (.loop { state:=.ready,pending:=none,fn:=b.fn,tmps:=a.tmps,params:=ps,assign:=as,body:=bd,defers:=db }) } =
     .ok { target:=.fn (.func g) ca',args:=fi' ++ #[Value.func (.yield w.heap.size) #[] #[]] } { w with heap:=w.heap.push (.loop { state:=.ready,pending:=none,fn:=b.fn,tmps:=a.tmps,params:=ps,assign:=as,body:=bd,defers:=db }) }:=by
    show Sem.run P (Deferred.ofValue (a.eval f) (#[Operand.const (Value.func (.yield w.heap.size) #[] #[])].map a.eval)) _=_
    rw[hev]
    simp[Deferred.ofValue,Act.eval]
   have hinv:(invoke (.fn (.func g) ca') (fi' ++ #[Value.func (.yield w.heap.size) #[] #[]])).run P { w with heap:=w.heap.push (.loop { state:=.ready,pending:=none,fn:=b.fn,tmps:=a.tmps,params:=ps,assign:=as,body:=bd,defers:=db }) } =
     .ok (.enter g (fi' ++ #[Value.func (.yield w.heap.size) #[] #[]] ++ ca')) { w with heap:=w.heap.push (.loop { state:=.ready,pending:=none,fn:=b.fn,tmps:=a.tmps,params:=ps,assign:=as,body:=bd,defers:=db }) }:=by
    simp only[invoke,callFunc,Sem.run_bind,run_program,Result.andThen_ok,hg,hnm,hnone,Bool.false_eq_true,if_false]
    rfl
   have hstep:=stepR_rangeFunc (P:=P) (b:=b) (a:=a) (k:=k) (cs:=cs) (g:=f) henter hres hinv
   rcases hcase with⟨v,m2,rfl,h4⟩|⟨v,m2,rfl,rfl⟩
   ·obtain⟨ρ2,v',w2,hs2,hv2,hrel2,fr,k1,k2,k3⟩:=hrec _ _ h3 Pt _ _ (fi' ++ #[Value.func (.yield w.heap.size) #[] #[]] ++ ca') (b.atR { a with defers:=mark ++ a.defers } (.inRangeFunc w.heap.size :: k) :: cs) hargs (hT.3.mono hle) hrel1 (hfr.left n4)
    have hs12:=hs1.trans hs2 (Nat.le_succ _) n3
    have hl2:ρ2 m.next=some (w.heap.size,0,0):=hs2.1 _ _ (z06 _ _ _)
    have:=zcl (b:=b) (k:=k) (cs:=cs) (a:={ a with defers:=mark ++ a.defers }) hrec h4 hl2 hb (hro.mono hs12.1) (hT.mono hs12.1) (hd.mono hs12.1) hrel2 (hfr.right hs2 n3)
    refine this.after (.head hstep (k1.trans (.one ?_))) hs12 (Nat.le_of_succ_le n3) n4
    rw[<-finish_atR_inRangeFunc w.heap.size v'];exact step_leave_returned k3
   ·obtain⟨ρ2,v',w2,hs2,hv2,hrel2,fr,k1,k2,k3⟩:=hrec _ _ h3 Pt _ _ (fi' ++ #[Value.func (.yield w.heap.size) #[] #[]] ++ ca') (b.atR { a with defers:=mark ++ a.defers } (.inRangeFunc w.heap.size :: k) :: cs) hargs (hT.3.mono hle) hrel1 (hfr.left n4)
    have hs12:=hs1.trans hs2 (Nat.le_succ _) n3
    have hlv:=step_leave_panicked (c:=b.atR { a with defers:=mark ++ a.defers } (.inRangeFunc w.heap.size :: k)) (cs:=cs) k3
    rw[Frame.raise_atR] at hlv
    exact⟨ρ2,{ a with defers:=mark ++ a.defers },w2,v',_,hs12,hT.mono hs12.1,hd.mono hs12.1,hrel2,hv2,.head hstep (k1.trans (.one hlv))⟩
 | _=>rw[hev] at hvf;cases hvf
theorem z5w:∀(ps:List Tmp) (as:List LV) (T T':Tm),setParams ps as T=some T'->as.length=ps.length
 | [],[],_,_,_=>rfl
 | p :: ps,v :: vs,T,T',h=>by
  obtain⟨T1,_,h2⟩:=zb.1 (show ob (T.set p v) _=some T' from h)
  simp[z5w ps vs T1 T' h2]
 | [],_ :: _,_,_,h=>by cases h
 | _ :: _,[],_,_,h=>by cases h
theorem z5x{ρ:Rho}:∀(ps:List Tmp) (as:List LV) (T T':Tm) (as':List Value) (A:Array Value),setParams ps as T=some T'->VRs ρ as as'->TR ρ T A ->
  ∃ A',A'=(ps.zip as').foldl (fun tmps (x:Tmp × Value)=>tmps.setIfInBounds x.1 x.2) A /\ TR ρ T' A'
 | [],[],T,T',as',A,h,hv,hT=>by cases h;cases hv;exact⟨A,rfl,hT⟩
 | p :: ps,v :: vs,T,T',as',A,h,hv,hT=>by
  obtain⟨T1,h1,h2⟩:=zb.1 (show ob (T.set p v) _=some T' from h)
  cases hv with
  | cons hv hvs =>
   rename_i v' vs'
   obtain⟨A',e,hT'⟩:=z5x ps vs T1 T' vs' (A.setIfInBounds p v') h2 hvs (hT.set h1 hv)
   exact⟨A',e,hT'⟩
 | [],_ :: _,_,_,_,_,h,_,_=>by cases h
 | _ :: _,[],_,_,_,_,h,_,_=>by cases h
theorem CodeOut.boomK{Pt:Prot}{ρ:Rho}{n:Nat}{M:Machine}{b:Frame}{k k':List Item}{cs:List Frame}{v:LV}{T:Tm}{ms:List Dfr}{m:Mem}(h:CodeOut P Pt ρ n M b k cs (.boom v T ms m)):CodeOut P Pt ρ n M b k' cs (.boom v T ms m):=h
theorem zct(hm:z0j rec)(hrec:RecSim P rec)(hcall:RecFn P rec)(hdraw:DrawSim P rec):RecSim P (stepT P rec):=by
 intro t o h
 cases t with
 | code fn ro c T ms m =>
  intro Pt ρ b k cs w a hb hro hT hd hrel hf
  have h:stCode P rec fn ro c T ms m=some o:=h
  cases c with
  | skip=>cases h;exact⟨ρ,a,w,Same.refl _ _ _,hT,hd,hrel,.one stepR_skip⟩
  | label l=>cases h;exact⟨ρ,a,w,Same.refl _ _ _,hT,hd,hrel,.one stepR_label⟩
  | ret=>cases h;exact⟨ρ,a,w,Same.refl _ _ _,hT,hd,hrel,k,Steps.refl _ _⟩
  | exit id=>cases h;exact⟨ρ,a,w,Same.refl _ _ _,hT,hd,hrel,k,rfl,Steps.refl _ _⟩
  | seq x y =>
   rcases z2f (show z12 _ _=some _ from h) with⟨e1,T1,ms1,m1,h1,h2⟩|⟨v,T1,ms1,m1,h1,rfl⟩
   ·have n1:m.next<=m1.next:=hm _ _ h1
    cases e1 with
    | norm =>
     have h2:rec (.code fn ro y T1 ms1 m1)=some o:=h2
     have n2:m1.next<=o.mem.next:=hm _ _ h2
     obtain⟨ρ1,a1,w1,hs1,hT1,hd1,hr1,harr1⟩:=hrec _ _ h1 Pt ρ b (Item.code y :: k) cs w a hb hro hT hd hrel (hf.left n2)
     have:=hrec _ _ h2 Pt ρ1 b k cs w1 a1 hb (hro.mono hs1.1) hT1 hd1 hr1 (hf.right hs1 n1)
     exact this.after (.head stepR_seq harr1) hs1 n1 n2
    | ret =>
     cases h2
     obtain⟨ρ1,a1,w1,hs1,hT1,hd1,hr1,k1,harr1⟩:=hrec _ _ h1 Pt ρ b (Item.code y :: k) cs w a hb hro hT hd hrel hf
     exact⟨ρ1,a1,w1,hs1,hT1,hd1,hr1,k1,.head stepR_seq harr1⟩
    | exit id =>
     cases h2
     obtain⟨ρ1,a1,w1,hs1,hT1,hd1,hr1,k1,hk,harr1⟩:=hrec _ _ h1 Pt ρ b (Item.code y :: k) cs w a hb hro hT hd hrel hf
     exact⟨ρ1,a1,w1,hs1,hT1,hd1,hr1,k1,hk,.head stepR_seq harr1⟩
   ·have:=hrec _ _ h1 Pt ρ b (Item.code y :: k) cs w a hb hro hT hd hrel hf
    exact CodeOut.of_steps (.one stepR_seq) this.boomK
  | cond x y z =>
   obtain⟨v,hv,h1⟩:=zb.1 (show ob (ev T x) _=some _ from h)
   obtain⟨c,rfl,h2⟩:=z1l.1 h1
   have hx:=(zr hT hv).bool_inv
   cases c with
   | true =>
    have:=hrec (.code fn ro y T ms m) _ h2 Pt ρ b k cs w a hb hro hT hd hrel hf
    exact this.of_steps (.one (stepR_cond hx))
   | false =>
    have:=hrec (.code fn ro z T ms m) _ h2 Pt ρ b k cs w a hb hro hT hd hrel hf
    exact this.of_steps (.one (stepR_cond hx))
  | block id x =>
   rcases z2f (show z12 _ _=some _ from h) with⟨e1,T1,ms1,m1,h1,h2⟩|⟨v,T1,ms1,m1,h1,rfl⟩
   ·have key:m1=o.mem->∃ ρ' a' w',Same ρ ρ' m.next m1.next /\ TR ρ' T1 a'.tmps /\ DR ρ' ms1 a'.defers /\ Rel Pt ρ' m1 w' /\ Arr P (lone (b.atR a (Item.code x :: Item.inBlock id :: k)) cs w) b (Item.inBlock id :: k) cs e1 a' w':=by
     intro e
     exact hrec _ _ h1 Pt ρ b (.inBlock id :: k) cs w a hb hro hT hd hrel (by rw[<-e] at hf;exact hf)
    cases e1 with
    | norm =>
     cases h2
     obtain⟨ρ1,a1,w1,hs1,hT1,hd1,hr1,harr1⟩:=key rfl
     exact⟨ρ1,a1,w1,hs1,hT1,hd1,hr1,.head stepR_block (Steps.trans harr1 (.one stepR_inBlock))⟩
    | ret =>
     cases h2
     obtain⟨ρ1,a1,w1,hs1,hT1,hd1,hr1,k1,harr1⟩:=key rfl
     exact⟨ρ1,a1,w1,hs1,hT1,hd1,hr1,k1,.head stepR_block harr1⟩
    | exit id' =>
     have h2:ifb (Nat.beq id' id) (some (Out.code .norm T1 ms1 m1)) (some (Out.code (.exit id') T1 ms1 m1))=some o:=h2
     cases hi:Nat.beq id' id with
     | true =>
      rw[hi] at h2;cases h2
      have hi:=Nat.eq_of_beq_eq_true hi
      subst hi
      obtain⟨ρ1,a1,w1,hs1,hT1,hd1,hr1,k1,hk,harr1⟩:=key rfl
      exact⟨ρ1,a1,w1,hs1,hT1,hd1,hr1,.head stepR_block (Steps.trans harr1 (.one (stepR_exit (by rw[hk];simp[exitTo]))))⟩
     | false =>
      rw[hi] at h2;cases h2
      obtain⟨ρ1,a1,w1,hs1,hT1,hd1,hr1,k1,hk,harr1⟩:=key rfl
      have hne:(id == id')=false:=by
       rw[beq_eq_false_iff_ne];intro e;subst e;rw[Nat.beq_refl] at hi;cases hi
      exact⟨ρ1,a1,w1,hs1,hT1,hd1,hr1,k1,by rw[hk];simp[exitTo,hne],.head stepR_block harr1⟩
   ·have:=hrec _ _ h1 Pt ρ b (.inBlock id :: k) cs w a hb hro hT hd hrel hf
    exact CodeOut.of_steps (.one stepR_block) this.boomK
  | scope x =>
   have:=hrec (.code fn ro x T ms m) _ h Pt ρ b (.inScope x :: k) cs w a hb hro hT hd hrel hf
   have s0:step P (lone (b.atR a (.code (.scope x) :: k)) cs w)=.next (lone (b.atR a (.code x :: .inScope x :: k)) cs w):=step_lone_go (by simp[stepG,stepG.exec,Frame.atR])
   have s1:∀ a1 w1,step P (lone (b.atR a1 (.inScope x :: k)) cs w1)=.next (lone (b.atR a1 k) cs w1):=fun a1 w1=>step_lone_go (by simp[stepG,stepG.exec,Frame.atR])
   refine CodeOut.of_steps (.one s0) ?_
   cases o with
   | code e T' ms' m' =>
    obtain⟨ρ1,a1,w1,hs1,hT1,hd1,hr1,harr1⟩:=this
    refine⟨ρ1,a1,w1,hs1,hT1,hd1,hr1,?_⟩
    cases e with
    | norm=>exact Steps.trans harr1 (.one (s1 _ _))
    | ret=>obtain⟨k1,harr1⟩:=harr1;exact⟨k1,harr1⟩
    | exit id=>obtain⟨k1,hk,harr1⟩:=harr1;exact⟨k1,hk,harr1⟩
   | boom v T' ms' m'=>exact this.boomK
   | call _ _=>trivial
   | die _ _=>trivial
  | loop x =>
   rcases z2f (show z12 _ _=some _ from h) with⟨e1,T1,ms1,m1,h1,h2⟩|⟨v,T1,ms1,m1,h1,rfl⟩
   ·have n1:m.next<=m1.next:=hm _ _ h1
    cases e1 with
    | norm =>
     have h2:rec (.code fn ro (.loop x) T1 ms1 m1)=some o:=h2
     have n2:m1.next<=o.mem.next:=hm _ _ h2
     obtain⟨ρ1,a1,w1,hs1,hT1,hd1,hr1,harr1⟩:=hrec _ _ h1 Pt ρ b (.inLoop x :: k) cs w a hb hro hT hd hrel (hf.left n2)
     have h3:=hrec _ _ h2 Pt ρ1 b k cs w1 a1 hb (hro.mono hs1.1) hT1 hd1 hr1 (hf.right hs1 n1)
     have s1:step P (lone (b.atR a1 (.inLoop x :: k)) cs w1)=.next (lone (b.atR a1 (.code x :: .inLoop x :: k)) cs w1):=stepR_inLoop
     have s2:step P (lone (b.atR a1 (.code (.loop x) :: k)) cs w1)=.next (lone (b.atR a1 (.code x :: .inLoop x :: k)) cs w1):=stepR_loop
     have pre:Steps P (lone (b.atR a (.code (.loop x) :: k)) cs w) (lone (b.atR a1 (.code x :: .inLoop x :: k)) cs w1):=.head stepR_loop (Steps.trans harr1 (.one s1))
     cases o with
     | code e T' ms' m' =>
      obtain⟨ρ2,a2,w2,hs2,hT2,hd2,hr2,harr2⟩:=h3
      exact⟨ρ2,a2,w2,hs1.trans hs2 n1 n2,hT2,hd2,hr2,Arr.of_loop pre s2 harr2⟩
     | boom v T' ms' m' =>
      obtain⟨ρ2,a2,w2,v',k1,hs2,hT2,hd2,hr2,hv2,hst2⟩:=h3
      refine⟨ρ2,a2,w2,v',k1,hs1.trans hs2 n1 n2,hT2,hd2,hr2,hv2,pre.trans (Steps.tail s2 hst2 fun e=>?_)⟩
      have:=zcc e
      simp[Frame.atR,Frame.boom] at this
     | call _ _=>trivial
     | die _ _=>trivial
    | ret =>
     cases h2
     obtain⟨ρ1,a1,w1,hs1,hT1,hd1,hr1,k1,harr1⟩:=hrec _ _ h1 Pt ρ b (.inLoop x :: k) cs w a hb hro hT hd hrel hf
     exact⟨ρ1,a1,w1,hs1,hT1,hd1,hr1,k1,.head stepR_loop harr1⟩
    | exit id =>
     cases h2
     obtain⟨ρ1,a1,w1,hs1,hT1,hd1,hr1,k1,hk,harr1⟩:=hrec _ _ h1 Pt ρ b (.inLoop x :: k) cs w a hb hro hT hd hrel hf
     exact⟨ρ1,a1,w1,hs1,hT1,hd1,hr1,k1,hk,.head stepR_loop harr1⟩
   ·have:=hrec _ _ h1 Pt ρ b (.inLoop x :: k) cs w a hb hro hT hd hrel hf
    exact CodeOut.of_steps (.one stepR_loop) this.boomK
  | region id ops dr =>
   cases dr with
   | false =>
    have h1:z0p P ro rec ops.toList ops.toList T ms m=some o:=h
    have:=z4j hm hrec hcall ops.toList 0 T ms m o (fun j=>by simp) h1 Pt ρ b k cs w a hro hT hd hrel hf
    refine CodeOut.of_steps (.one stepR_region) ?_
    rw[List.range_eq_range',show ops.size=ops.toList.length from by simp]
    exact this
   | true =>
    obtain⟨B,σ,τ,hre,hok,h0⟩:=zee (show cDraw P rec ops T ms m=some o from h)
    cases hdr:z0d P rec B.toList (deps B) B.toList 0 ⟨T,m,[m],0,[]⟩ with
    | some d =>
     unfold cDrawG at h0
     rw[hdr] at h0
     obtain⟨T1,m1,st,kk,ps⟩:=d
     obtain⟨hp,h3⟩:=zc.1 (show guard' (z19 P st kk ps) _=some o from h0)
     cases h3
     obtain⟨ρ1,a1,w1,hs1,hT1,hd1,hr1,hst⟩:=hdraw.1 ops B σ τ T T1 m m1 st kk ps hre hok hdr hp Pt ρ b id k cs w a hT hrel hf
     exact⟨ρ1,a1,w1,hs1,hT1,by rw[hd1];exact hd.mono hs1.1,hr1,hst⟩
    | none =>
     unfold cDrawG at h0
     rw[hdr] at h0
     obtain⟨⟨v,m2,d⟩,h1,h2⟩:=zb.1 (show ob (z0n P rec B.toList (deps B) B.toList 0 ⟨T,m,[m],0,[]⟩) _=some o from h0)
     obtain⟨hp,h3⟩:=zc.1 (show guard' (z19 P d.st d.k d.ps) _=some o from h2)
     cases h3
     obtain⟨ρ1,a1,w1,v',k1,hs1,hT1,hd1,hv1,hr1,hst⟩:=hdraw.2 ops B σ τ T m v m2 d hre hok h1 hp Pt ρ b id k cs w a hT hrel hf
     refine⟨ρ1,a1,w1,v',k1,hs1,⟨hT1,fun i=>?_,hT.3.mono hs1.1⟩,by rw[hd1];exact hd.mono hs1.1,hr1.bump0 (z3y hm _ _ _ _ h1).2,hv1,hst⟩
     show VR ρ1 ((PT.nil.get i).getD .unk) _
     rw[PT.get_nil]
     exact .unk _
  | rangeFunc f ps as bd =>
   have h:cRangeFunc rec fn ro f ps as bd T ms m=some o:=h
   cases ro with
   | none =>
    have hrb:b.roundOf=none:=by
     cases hb2:b.roundOf with
     | none=>rfl
     | some _=>rw[hb2] at hro;exact hro.elim
    have h:m.new .defr (fun d m=>rfCall rec fn none f ps as bd d T (.mark d :: ms) m)=some o:=h
    rw[Mem.new_eq] at h
    have n1:m.next+1<=o.mem.next:=z3p hm h
    have hf0:ρ m.next=none:=hf _ (Nat.le_refl _) (by omega)
    have hs1:=Same.upd1 (ρ:=ρ) (i:=m.next) (x:=(w.heap.size,0,0)) hf0
    have hrel1:=hrel.alloc hf0 (lb:=.defr) (o:=.deferred (some [])) (c:=0) rfl rfl
    have:=za0 (b:=b) (k:=k) (cs:=cs) (a:=a) (w0:=w) (mark:=[{ target:=.collected w.heap.size,args:=#[] }]) hm hrec hcall h (z06 _ _ _) hb (by rw[hrb];trivial) (hT.mono hs1.1)
     ⟨⟨w.heap.size,0,0,z06 _ _ _,rfl⟩,hd.mono hs1.1⟩ hrel1 (hf.right hs1 (Nat.le_succ _)) (by rw[hrb];simp[Instr.enterLoop];rfl)
    exact this.after (Steps.refl _ _) hs1 (Nat.le_succ _) n1
   | some l =>
    obtain⟨st,pend,fn',tm',ps',a',b',d',hg,h1⟩:=z18 (show atLoop m l _=some _ from h)
    cases hrb:b.roundOf with
    | none=>rw[hrb] at hro;exact hro.elim
    | some bl =>
     have hro0:=hro
     rw[hrb] at hro
     obtain⟨s,c,hρ⟩:=hro
     obtain⟨TT,db,hh,hTT,s2,c2,hdd⟩:=hrel.loop hg hρ
     exact za0 (b:=b) (k:=k) (cs:=cs) (a:=a) (w0:=w) (mark:=[]) hm hrec hcall h1 hdd hb hro0 hT hd hrel hf (by
      rw[hrb]
      unfold Instr.enterLoop Instr.getLoop
      simp only[Sem.run_bind,z0i hh (by simp),Result.andThen_ok,Sem.run_pure]
      rfl)
  | _=>cases h
 | call f as m =>
  obtain⟨fn,hfn,h1⟩:=zb.1 (show stCall P rec f as m=some _ from h)
  obtain⟨T,hT,h2⟩:=zb.1 h1
  obtain⟨c,hc,h3⟩:=zb.1 h2
  obtain⟨hg,_,_⟩:=z3h hfn
  let b:Frame:={ fn:=f,tmps:=#[],todo:=[],defers:=[],mode:=.run,kind:=.normal,roundOf:=none }
  have henter:∀ as',Frame.enter P f as' .normal=b.atR { tmps:=as' ++ Array.replicate (fn.ntmps - as'.size) undef,defers:=[] } [.code c]:=by
   intro as'
   simp[Frame.enter,Frame.atR,hg,hc,b]
  rcases z1r h3 with⟨e,T1,ms1,m1,h4,h5⟩|⟨pv,T1,ms1,m1,h4,h5⟩
  ·have hend:finRet P rec fn T1 ms1 m1=some o /\ (e=.norm ∨ e=.ret):=by
    cases e with
    | norm=>exact⟨h5,.inl rfl⟩
    | ret=>exact⟨h5,.inr rfl⟩
    | exit id=>cases h5
   obtain⟨hend,he⟩:=hend
   have n1:m.next<=m1.next:=hm _ _ h4
   have n2:m1.next<=o.mem.next:=z17 hm _ _ _ hend
   cases o with
   | code _ _ _ _=>trivial
   | boom _ _ _ _=>trivial
   | die v m'=>exact absurd hend (z4f ms1 m1)
   | call v m' =>
    intro Pt ρ w as' cs has hG hrel hf
    obtain⟨ρ1,a1,w1,hs1,hT1,hd1,hr1,harr⟩:=hrec _ _ h4 Pt ρ b [] cs w { tmps:=as' ++ Array.replicate (fn.ntmps - as'.size) undef,defers:=[] } rfl trivial (z4g hT has hG) trivial hrel (hf.left n2)
    have hret:∃ k1,Steps P (lone (Frame.enter P f as' .normal) cs w) (lone { b.atR a1 k1 with mode:=.returning } cs w1):=by
     rw[henter]
     rcases he with rfl|rfl
     ·exact⟨[],Steps.trans harr (.one (stepR_end rfl))⟩
     ·obtain⟨k1,harr⟩:=harr
      exact⟨_,harr.trans (.one (stepR_ret rfl))⟩
    obtain⟨k1,hst⟩:=hret
    obtain⟨ρ',v',w',fr',g1,g2,g3,g4,g5,g6⟩:=z38 hm hrec cs ms1 m1 v m' hend ρ1 w1 { b.atR a1 k1 with mode:=.returning } rfl rfl hg hT1 hd1 hr1 (hf.right hs1 n1)
    exact⟨ρ',v',w',hs1.trans g1 n1 n2,g2,g3,fr',hst.trans g4,g5,g6⟩
  ·have n1:m.next<=m1.next:=hm _ _ h4
   have n2:m1.next<=o.mem.next:=z2l hm _ _ _ h5
   have go:∀(Pt:Prot) (ρ:Rho) (w:World) (as':Array Value) (cs:List Frame),VRs ρ as as'.toList->GlobOk ρ->Rel Pt ρ m w->Fresh ρ m.next o.mem.next->∃ ρ1 a1 w1 v1 k1,Same ρ ρ1 m.next m1.next /\ TR ρ1 T1 a1.tmps /\ DR ρ1 ms1 a1.defers /\ Rel Pt ρ1 m1 w1 /\ VR ρ1 pv v1 /\ Steps P (lone (Frame.enter P f as' .normal) cs w) (lone (Frame.boom (b.atR a1 k1) v1) cs w1):=by
    intro Pt ρ w as' cs has hG hrel hf
    obtain⟨ρ1,a1,w1,v1,k1,hs1,hT1,hd1,hr1,hv1,hst⟩:=hrec _ _ h4 Pt ρ b [] cs w { tmps:=as' ++ Array.replicate (fn.ntmps - as'.size) undef,defers:=[] } rfl trivial (z4g hT has hG) trivial hrel (hf.left n2)
    exact⟨ρ1,a1,w1,v1,k1,hs1,hT1,hd1,hr1,hv1,by rw[henter];exact hst⟩
   cases o with
   | code _ _ _ _=>trivial
   | boom _ _ _ _=>trivial
   | die v m' =>
    intro Pt ρ w as' cs has hG hrel hf
    obtain⟨ρ1,a1,w1,v1,k1,hs1,hT1,hd1,hr1,hv1,hst⟩:=go Pt ρ w as' cs has hG hrel hf
    obtain⟨ρ',v',w',fr',g1,g2,g3,g4,g5,g6⟩:=z37 hm hrec cs ms1 m1 _ h5 ρ1 w1 (Frame.boom (b.atR a1 k1) v1) hv1 rfl rfl hg hT1 hd1 hr1 (hf.right hs1 n1)
    exact⟨ρ',v',w',hs1.trans g1 n1 n2,g2,g3,fr',hst.trans g4,g5,g6⟩
   | call v m' =>
    intro Pt ρ w as' cs has hG hrel hf
    obtain⟨ρ1,a1,w1,v1,k1,hs1,hT1,hd1,hr1,hv1,hst⟩:=go Pt ρ w as' cs has hG hrel hf
    obtain⟨ρ',v',w',fr',g1,g2,g3,g4,g5,g6⟩:=z37 hm hrec cs ms1 m1 _ h5 ρ1 w1 (Frame.boom (b.atR a1 k1) v1) hv1 rfl rfl hg hT1 hd1 hr1 (hf.right hs1 n1)
    exact⟨ρ',v',w',hs1.trans g1 n1 n2,g2,g3,fr',hst.trans g4,g5,g6⟩
 | round l as m =>
  obtain⟨st,pend,fn,tm,ps,assign,body,d,hg,h1⟩:=z18 (show stRound P rec l as m=some _ from h)
  obtain⟨rfl,h2⟩:=z7h h1
  obtain⟨T,hT,h3⟩:=zb.1 h2
  rcases z1r h3 with⟨e,T1,ms1,m1,h4,h5⟩|⟨_,_,_,_,_,h5⟩
  rotate_left
  ·cases h5
  obtain⟨rfl,h6⟩:=zc6 h5
  obtain⟨st2,pend2,fn2,tm2,ps2,as2,bd2,d2,hg2,h7⟩:=z18 h6
  obtain⟨rfl,h8⟩:=z7h h7
  have key:∃ o3,rec (.code fn (some l) body T1 ms1 (m1.upd l (some (.loop .busy pend2 fn2 tm2 ps2 as2 bd2 d2))))=some o3 /\
    ((∃ e3 T3 ms3 m3,o3=.code e3 T3 ms3 m3 /\ roundEnd l e3 m3=some o) ∨ ∃ v T3 m3,o3=.boom v T3 [] m3 /\ (fnOf P fn).isSome=true /\ o=.die v m3):=by
   rcases z1r h8 with⟨e3,T3,ms3,m3,h9,h10⟩|⟨v3,T3,ms3,m3,h9,h10⟩
   ·exact⟨_,h9,.inl ⟨e3,T3,ms3,m3,rfl,h10⟩⟩
   ·obtain⟨hq,h11⟩:=zc.1 h10
    simp only[Bool.and_eq_true,List.isEmpty_iff] at hq
    obtain⟨rfl,hq⟩:=hq
    exact⟨_,h9,.inr ⟨v3,T3,m3,rfl,hq,(Option.some.inj h11).symm⟩⟩
  obtain⟨o3,h9,hcase⟩:=key
  have n1:m.next<=m1.next:=hm _ _ h4
  have n2:m1.next<=o3.mem.next:=by
   have:(m1.upd l (some (.loop .busy pend2 fn2 tm2 ps2 as2 bd2 d2))).next<=o3.mem.next:=hm _ _ h9
   rw[Mem.next_upd] at this;exact this
  have begin_:∀(Pt:Prot) (ρ:Rho) (w:World) (as':Array Value) (bl s c:Nat) (fc:Frame) (cs:List Frame),ρ l=some (bl,s,c)->VRs ρ as as'.toList->GlobOk ρ->Rel Pt ρ m w->Fresh ρ m.next o3.mem.next ->
    ∃(tmps':Array Value) (b:Frame) (ρ1:Rho) (a1:Act) (w1:World),b.fn=fn /\ b.roundOf=some bl /\ b.kind=.normal /\ Same ρ ρ1 m.next m1.next /\ TR ρ1 T1 a1.tmps /\ DR ρ1 ms1 a1.defers /\ Rel Pt ρ1 (m1.upd l (some (.loop .busy pend2 fn2 tm2 ps2 as2 bd2 d2))) w1 /\
     (Instr.yield bl as').run P w=.ok (.round bl fn tmps' assign body) w /\ Steps P (lone (Frame.round bl fn tmps' assign body .normal) (fc :: cs) w) (lone (b.atR a1 [.code body]) (fc :: cs) w1):=by
   intro Pt ρ w as' bl s c fc cs hρ has hG hrel hf
   obtain⟨TT,db,hh,hTT,hdd⟩:=hrel.loop hg hρ
   obtain⟨tmps',hset,hT'⟩:=z5x ps as tm T as'.toList TT hT has hTT
   let b:Frame:={ fn:=fn,tmps:=#[],todo:=[],defers:=[],mode:=.run,kind:=.normal,roundOf:=some bl }
   obtain⟨ρ1,a1,w1,hs1,hT1,hd1,hr1,harr1⟩:=hrec _ _ h4 Pt ρ b [.beginRound,.code body] (fc :: cs) w { tmps:=tmps',defers:=[] } rfl ⟨s,c,hρ⟩ hT' trivial hrel (hf.left n2)
   have hρ1:=hs1.1 _ _ hρ
   obtain⟨TT2,db2,hh2,hTT2,hdd2⟩:=hr1.loop hg2 hρ1
   have hbl1:bl < w1.heap.size:=(Array.getElem?_eq_some_iff.1 hh2).1
   have hr1':=hr1.turnLoop (st':=.busy) (pend':=pend2) hg2 hρ1 hTT2 hdd2 hbl1
   have hbegin:(Instr.beginRound bl).run P w1=.ok () { w1 with heap:=w1.heap.setIfInBounds bl (.loop { state:=.busy,pending:=pend2,fn:=fn2,tmps:=TT2,params:=ps2.toArray,assign:=as2,body:=bd2,defers:=db2 }) }:=by
    unfold Instr.beginRound Instr.getLoop
    simp only[Sem.run_bind,z0i hh2 (by simp),Result.andThen_ok,Sem.run_pure,z2i hh2 (by simp)]
   have hyield:(Instr.yield bl as').run P w=.ok (.round bl fn tmps' assign body) w:=by
    unfold Instr.yield Instr.getLoop
    simp only[Sem.run_bind,z0i hh (by simp),Result.andThen_ok,Sem.run_pure]
    have hl:as'.size=ps.toArray.size:=by
     have:=has.length
     have h2:=z5w ps as tm T hT
     simp at this ⊢;omega
    simp only[hl,ne_eq,not_true_eq_false,if_false,Sem.run_pure]
    rw[hset,<- Array.foldl_toList,Array.toList_zip]
   have hround:Frame.round bl fn tmps' assign body .normal=b.atR { tmps:=tmps',defers:=[] } [.code assign,.beginRound,.code body]:=by
    simp[Frame.round,Frame.atR,b]
   refine⟨tmps',b,ρ1,a1,_,rfl,rfl,rfl,hs1,hT1,hd1,hr1',hyield,?_⟩
   rw[hround]
   exact Steps.trans harr1 (.one (stepR_beginRound rfl hbegin))
  rcases hcase with⟨e3,T3,ms3,m3,rfl,h10⟩|⟨v,T3,m3,rfl,hq,rfl⟩
  ·obtain⟨st4,pend4,fn4,tm4,ps4,as4,bd4,d4,hg4,h11⟩:=z18 h10
   have hon:o.mem.next=m3.next:=by
    cases e3 with
    | norm=>cases h11;exact Mem.next_upd _ _ _
    | ret=>cases h11;exact Mem.next_upd _ _ _
    | exit id=>cases h11;exact Mem.next_upd _ _ _
   have hcl:∃ v m',o=.call v m':=by
    cases e3 with
    | norm=>cases h11;exact⟨_,_,rfl⟩
    | ret=>cases h11;exact⟨_,_,rfl⟩
    | exit id=>cases h11;exact⟨_,_,rfl⟩
   obtain⟨v,m',rfl⟩:=hcl
   intro Pt ρ w as' bl s c fc cs hρ has hG hrel hf
   have hon:m'.next=m3.next:=hon
   rw[hon] at hf
   obtain⟨tmps',b,ρ1,a1,w1,hbf,hbr,hbk,hs1,hT1,hd1,hr1',hyield,s12⟩:=begin_ Pt ρ w as' bl s c fc cs hρ has hG hrel hf
   have hρ1:=hs1.1 _ _ hρ
   obtain⟨ρ3,a3,w3,hs3,hT3,hd3,hr3,harr3⟩:=hrec _ _ h9 Pt ρ1 b [] (fc :: cs) _ a1 hbf (by rw[hbr];exact⟨s,c,hρ1⟩) hT1 hd1 hr1' (by rw[Mem.next_upd];exact hf.right hs1 n1)
   rw[Mem.next_upd] at hs3
   have hρ3:=hs3.1 _ _ hρ1
   obtain⟨TT4,db4,hh4,hTT4,hdd4⟩:=hr3.loop hg4 hρ3
   have hbl3:bl < w3.heap.size:=(Array.getElem?_eq_some_iff.1 hh4).1
   have hendR:∀ jump:Option Code,(Instr.endRound bl jump).run P w3=.ok (.bool jump.isNone) { w3 with heap:=w3.heap.setIfInBounds bl (.loop { state:=if jump.isNone then .ready else .done,pending:=jump,fn:=fn4,tmps:=TT4,params:=ps4.toArray,assign:=as4,body:=bd4,defers:=db4 }) }:=by
    intro jump
    unfold Instr.endRound Instr.getLoop
    simp only[Sem.run_bind,z0i hh4 (by simp),Result.andThen_ok,Sem.run_pure,z2i hh4 (by simp)]
   have hs13:=hs1.trans hs3 n1 n2
   have hs13:Same ρ ρ3 m.next m3.next:=hs13
   cases e3 with
   | norm =>
    cases h11
    refine⟨ρ3,.bool true,_,by rw[Mem.next_upd];exact hs13,.bool _,hr3.turnLoop (st':=.ready) (pend':=none) hg4 hρ3 hTT4 hdd4 hbl3,fn,tmps',assign,body,hyield,?_⟩
    exact s12.trans (Steps.trans harr3 (.one (stepR_round_end hbr hbk (hendR none))))
   | ret =>
    cases h11
    obtain⟨k1,harr3⟩:=harr3
    refine⟨ρ3,.bool false,_,by rw[Mem.next_upd];exact hs13,.bool _,hr3.turnLoop (st':=.done) (pend':=some .ret) hg4 hρ3 hTT4 hdd4 hbl3,fn,tmps',assign,body,hyield,?_⟩
    exact s12.trans (Steps.trans harr3 (.one (stepR_round_ret hbr hbk (hendR (some .ret)))))
   | exit id =>
    cases h11
    obtain⟨k1,hk,harr3⟩:=harr3
    refine⟨ρ3,.bool false,_,by rw[Mem.next_upd];exact hs13,.bool _,hr3.turnLoop (st':=.done) (pend':=some (.exit id)) hg4 hρ3 hTT4 hdd4 hbl3,fn,tmps',assign,body,hyield,?_⟩
    exact s12.trans (Steps.trans harr3 (.one (stepR_round_exit hbr hbk (by rw[hk];rfl) (hendR (some (.exit id))))))
  ·intro Pt ρ w as' bl s c fc cs hρ has hG hrel hf
   obtain⟨tmps',b,ρ1,a1,w1,hbf,hbr,hbk,hs1,hT1,hd1,hr1',hyield,s12⟩:=begin_ Pt ρ w as' bl s c fc cs hρ has hG hrel hf
   have hρ1:=hs1.1 _ _ hρ
   obtain⟨ρ3,a3,w3,v3,k3,hs3,hT3,hd3,hr3,hv3,hst3⟩:=hrec _ _ h9 Pt ρ1 b [] (fc :: cs) _ a1 hbf (by rw[hbr];exact⟨s,c,hρ1⟩) hT1 hd1 hr1' (by rw[Mem.next_upd];exact hf.right hs1 n1)
   rw[Mem.next_upd] at hs3
   have hd0:a3.defers=[]:=by
    cases hx:a3.defers with
    | nil=>rfl
    | cons _ _=>rw[hx] at hd3;exact hd3.elim
   obtain⟨fn0,hfn0⟩:=Option.isSome_iff_exists.1 hq
   obtain⟨hg0,_,_⟩:=z3h hfn0
   have hlv:Frame.leaving P (Frame.boom (b.atR a3 k3) v3) w3 (.panicked [{ v:=v3,recovered:=false }]):=⟨rfl,hd0,fn0,by show P.funcs[b.fn]?=_;rw[hbf];exact hg0⟩
   exact⟨ρ3,v3,w3,hs1.trans hs3 n1 n2,hv3,hr3,fn,tmps',assign,body,hyield,s12.trans (hst3.trans (.one (step_leave_panicked hlv)))⟩
end
end PvL
end
section
namespace PvL
open Go
variable {P:Program}
theorem z6z{look:Nat->Nat}{i:Nat}:∀(l:List Edge) (s:Nat),Nat.testBit (l.foldl (fun s e=>if Region.binds .any e then s ||| 2 ^ e.on ||| look e.on else s) s) i=true ->
  Nat.testBit s i=true ∨ ∃ e ∈ l,Region.binds .any e=true /\ (i=e.on ∨ Nat.testBit (look e.on) i=true)
 | [],s,h=>.inl h
 | e :: es,s,h=>by
  rcases z6z es _ (show Nat.testBit (List.foldl _ (if Region.binds .any e then s ||| 2 ^ e.on ||| look e.on else s) es) i=true from h) with h1|⟨e',he,hb,h1⟩
  ·by_cases hb:Region.binds .any e=true
   ·rw[if_pos hb,Nat.testBit_or,Nat.testBit_or,Bool.or_eq_true,Bool.or_eq_true] at h1
    rcases h1 with(h1|h1)|h1
    ·exact .inl h1
    ·refine .inr ⟨e,List.mem_cons_self,hb,.inl ?_⟩
     rw[Nat.testBit_two_pow] at h1
     exact(of_decide_eq_true h1).symm
    ·exact .inr ⟨e,List.mem_cons_self,hb,.inr h1⟩
   ·rw[if_neg hb] at h1;exact .inl h1
  ·exact .inr ⟨e',List.mem_cons_of_mem _ he,hb,h1⟩
theorem z87{F:Array Nat->Oper->Nat}:∀(l:List Oper) (A:Array Nat),let R:=l.foldl (fun acc o=>acc.push (F acc o)) A
  (∀ i,i < A.size->R.getD i 0=A.getD i 0) /\ R.size=A.size+l.length /\ ∀ j o,l[j]?=some o->∃ B:Array Nat,B.size=A.size+j /\ (∀ i,i < B.size->R.getD i 0=B.getD i 0) /\ R.getD (A.size+j) 0=F B o
 | [],A=>⟨fun _ _=>rfl,by simp,fun j o h=>by cases h⟩
 | o :: os,A=>by
  obtain⟨h1,h2,h3⟩:=z87 (F:=F) os (A.push (F A o))
  refine⟨fun i hi=>?_,by simp at h2 ⊢;omega,fun j o' hj=>?_⟩
  ·rw[List.foldl_cons,h1 i (by simp;omega)]
   simp[Array.getElem?_push,Nat.ne_of_lt hi]
  ·cases j with
   | zero =>
    cases hj
    refine⟨A,by simp,fun i hi=>?_,?_⟩
    ·rw[List.foldl_cons,h1 i (by simp;omega)]
     simp[Array.getElem?_push,Nat.ne_of_lt hi]
    ·rw[List.foldl_cons,h1 (A.size+0) (by simp)]
     simp
   | succ j =>
    obtain⟨B,b1,b2,b3⟩:=h3 j o' (by simpa using hj)
    refine⟨B,by simp at b1;omega,fun i hi=>by rw[List.foldl_cons];exact b2 i hi,?_⟩
    rw[List.foldl_cons,show A.size+(j+1)=(A.push (F A o)).size+j by simp;omega]
    exact b3
theorem zho{ops:Array Oper}{j:Nat}{o:Oper}(ho:ops[j]?=some o){i:Nat}(h:Nat.testBit ((deps ops).getD j 0) i=true) :
  ∃ e ∈ o.after,Region.binds .any e=true /\ (i=e.on ∨(e.on < j /\ Nat.testBit ((deps ops).getD e.on 0) i=true)):=by
 have hg:∀ j,(deps ops).getD j 0=(Region.before ops).getD j 0:=fun j=>by
  unfold deps;simp[List.getD_eq_getElem?_getD,Array.getD_eq_getD_getElem?]
 have hb:Region.before ops=ops.toList.foldl (fun acc o=>acc.push (o.after.foldl (init:=0) fun s e=>if Region.binds .any e then s ||| 2 ^ e.on ||| acc.getD e.on 0 else s)) #[]:=by
  unfold Region.before;rw[<-Array.foldl_toList]
 obtain⟨_,_,h3⟩:=z87 (F:=fun acc o=>o.after.foldl (init:=0) fun s e=>if Region.binds .any e then s ||| 2 ^ e.on ||| acc.getD e.on 0 else s) ops.toList #[]
 obtain⟨B,b1,b2,b3⟩:=h3 j o (by simpa using ho)
 rw[hg,hb] at h
 simp only[Array.size_empty,Nat.zero_add] at b1 b2 b3
 rw[b3,<- Array.foldl_toList] at h
 rcases z6z (look:=fun n=>B.getD n 0) o.after.toList 0 h with h|⟨e,he,hb',h⟩
 ·simp at h
 ·refine⟨e,by simpa using he,hb',?_⟩
  rcases h with h|h
  ·exact .inl h
  ·by_cases hl:e.on < B.size
   ·refine .inr ⟨by omega,?_⟩
    rw[hg,hb,b2 _ hl];exact h
   ·simp[Array.getElem?_eq_none (Nat.le_of_not_lt hl)] at h
theorem z4z{ops:Array Oper}{S:Nat->Prop}(hS:∀ j o,ops[j]?=some o->S j->∀ e ∈ o.after,Region.binds .any e=true->S e.on) :
  ∀(n j:Nat),j < n->∀ o,ops[j]?=some o->(∀ e ∈ o.after,Region.binds .any e=true->S e.on)->∀ i,Nat.testBit ((deps ops).getD j 0) i=true->S i
 | 0,j,hj,_,_,_,_,_=>absurd hj (Nat.not_lt_zero _)
 | n+1,j,hj,o,ho,hr,i,hi=>by
  obtain⟨e,he,hb,h⟩:=zho ho hi
  rcases h with rfl|⟨hl,h⟩
  ·exact hr e he hb
  ·have hs:=hr e he hb
   have hlt:e.on < ops.size:=by
    have:=(Array.getElem?_eq_some_iff.1 ho).1
    omega
   exact z4z hS n e.on (by omega) ops[e.on] (Array.getElem?_eq_getElem hlt) (hS e.on _ (Array.getElem?_eq_getElem hlt) hs) i h
theorem z3f:∀(l:List Oper) (seen:List Tmp),dstsOk l seen=true->∀(i:Nat) (o:Oper) (d:Tmp),l[i]?=some o->o.dst=some d->d ∉ seen
 | [],_,_,i,o,d,h,_=>by cases h
 | x :: xs,seen,h,i,o,d,hi,hd=>by
  unfold dstsOk at h
  cases hx:x.dst with
  | none =>
   rw[hx] at h
   cases i with
   | zero=>cases hi;rw[hx] at hd;cases hd
   | succ i=>exact z3f xs seen h i o d (by simpa using hi) hd
  | some d' =>
   rw[hx] at h
   simp only[Bool.and_eq_true,Bool.not_eq_true'] at h
   cases i with
   | zero=>cases hi;rw[hx] at hd;cases hd;simpa using h.1
   | succ i=>exact fun hm=>z3f xs (d' :: seen) h.2 i o d (by simpa using hi) hd (List.mem_cons_of_mem _ hm)
theorem z51:∀(l:List Oper) (seen:List Tmp),dstsOk l seen=true->∀(i j:Nat) (o o':Oper) (d:Tmp),l[i]?=some o->l[j]?=some o'->o.dst=some d->o'.dst=some d->i=j
 | [],_,_,i,j,o,o',d,h,_,_,_=>by cases h
 | x :: xs,seen,h,i,j,o,o',d,hi,hj,hd,hd'=>by
  unfold dstsOk at h
  have hs:∀ d',x.dst=some d'->dstsOk xs (d' :: seen)=true:=fun d' hx=>by rw[hx] at h;simp only[Bool.and_eq_true] at h;exact h.2
  have hn:x.dst=none->dstsOk xs seen=true:=fun hx=>by rw[hx] at h;exact h
  cases i with
  | zero =>
   cases hi
   cases j with
   | zero=>rfl
   | succ j=>exact absurd List.mem_cons_self (z3f xs _ (hs d hd) j o' d (by simpa using hj) hd')
  | succ i =>
   cases j with
   | zero=>cases hj;exact absurd List.mem_cons_self (z3f xs _ (hs d hd') i o d (by simpa using hi) hd)
   | succ j =>
    cases hx:x.dst with
    | none=>rw[z51 xs seen (hn hx) i j o o' d (by simpa using hi) (by simpa using hj) hd hd']
    | some d'=>rw[z51 xs _ (hs d' hx) i j o o' d (by simpa using hi) (by simpa using hj) hd hd']
theorem za1{ds:List Nat}{i:Nat}{li:List Tmp}:∀(l:List Oper) (j0:Nat),rowOk ds i li l j0=true->∀ j o d,l[j]?=some o->o.dst=some d->d ∈ li ->
  i ≠ j0+j /\ (j0+j < i->Nat.testBit (ds.getD i 0) (j0+j)=true) /\ (i < j0+j->Nat.testBit (ds.getD (j0+j) 0) i=true)
 | [],_,_,j,o,d,h,_,_=>by cases h
 | x :: xs,j0,h,j,o,d,hj,hd,hm=>by
  obtain⟨h1,h2⟩:=(Bool.and_eq_true _ _ ▸ h:pairOk ds li i j0 x=true /\ rowOk ds i li xs (j0+1)=true)
  cases j with
  | zero =>
   cases hj
   unfold pairOk at h1
   rw[hd] at h1
   simp only[Bool.or_eq_true,Bool.not_eq_true',List.contains_eq_mem,decide_eq_false_iff_not] at h1
   rcases h1 with h1|h1
   ·exact absurd hm h1
   ·by_cases he:i=j0
    ·subst he;rw[show Nat.beq i i=true from Nat.beq_refl i] at h1;cases h1
    ·rw[show Nat.beq i j0=false from by cases hb:Nat.beq i j0 with
      | false=>rfl
      | true=>exact absurd (Nat.eq_of_beq_eq_true hb) he] at h1
     refine⟨by simpa using he,fun hl=>?_,fun hl=>?_⟩
     ·rw[show Nat.blt j0 i=true from by rw[Nat.blt_eq];simpa using hl] at h1;exact h1
     ·rw[show Nat.blt j0 i=false from by
       cases hb:Nat.blt j0 i with
       | false=>rfl
       | true=>rw[Nat.blt_eq] at hb;simp at hl;omega] at h1;exact h1
  | succ j =>
   have:=za1 xs (j0+1) h2 j o d (by simpa using hj) hd hm
   rw[show j0+(j+1)=j0+1+j by omega];exact this
theorem z71{ops:List Oper}{ds:List Nat}:∀(l:List Oper) (i0:Nat),pairsOk ops ds l i0=true->∀ i oi,l[i]?=some oi->rowOk ds (i0+i) (looks ops oi) ops 0=true
 | [],_,_,i,oi,h=>by cases h
 | x :: xs,i0,h,i,oi,hi=>by
  obtain⟨h1,h2⟩:=(Bool.and_eq_true _ _ ▸ h:rowOk ds i0 (looks ops x) ops 0=true /\ pairsOk ops ds xs (i0+1)=true)
  cases i with
  | zero=>cases hi;exact h1
  | succ i=>rw[show i0+(i+1)=i0+1+i by omega];exact z71 xs (i0+1) h2 i oi (by simpa using hi)
theorem z5a{mask:Nat}:∀(l:List Oper) (i0 n:Nat),anchorOk P mask l i0 n=true->∀ i o,i < n->l[i]?=some o->(zg P o.op || isNew P o.op)=true->Nat.testBit mask (i0+i)=true
 | [],_,_,_,i,o,_,h,_=>by cases h
 | x :: xs,i0,0,_,i,o,hi,_,_=>absurd hi (Nat.not_lt_zero _)
 | x :: xs,i0,n+1,h,i,o,hi,ho,hk=>by
  obtain⟨h1,h2⟩:=(Bool.and_eq_true _ _ ▸ h:ifb (zg P x.op || isNew P x.op) (Nat.testBit mask i0) true=true /\ anchorOk P mask xs (i0+1) n=true)
  cases i with
  | zero=>cases ho;rw[hk] at h1;exact h1
  | succ i=>rw[show i0+(i+1)=i0+1+i by omega];exact z5a xs (i0+1) n h2 i o (by omega) (by simpa using ho) hk
theorem z4r{ops:List Oper}{ds:List Nat}:∀(l:List Oper) (i0:Nat),anchorsOk P ops ds l i0=true->∀ i o,l[i]?=some o->zg P o.op=true->anchorOk P (ds.getD (i0+i) 0) ops 0 (i0+i)=true
 | [],_,_,i,o,h,_=>by cases h
 | x :: xs,i0,h,i,o,hi,hk=>by
  obtain⟨h1,h2⟩:=(Bool.and_eq_true _ _ ▸ h:ifb (zg P x.op) (anchorOk P (ds.getD i0 0) ops 0 i0) true=true /\ anchorsOk P ops ds xs (i0+1)=true)
  cases i with
  | zero=>cases hi;rw[hk] at h1;exact h1
  | succ i=>rw[show i0+(i+1)=i0+1+i by omega];exact z4r xs (i0+1) h2 i o (by simpa using hi) hk
theorem z6v:∀(l:List Oper) (i0:Nat),edgesOk l i0=true->∀ i o,l[i]?=some o->∀ e ∈ o.after,Region.binds .any e=true->e.on < i0+i
 | [],_,_,i,o,h,_,_,_=>by cases h
 | x :: xs,i0,h,i,o,hi,e,he,hb=>by
  obtain⟨h1,h2⟩:=(Bool.and_eq_true _ _ ▸ h:x.after.toList.all (fun e=>!Region.binds .any e || Nat.blt e.on i0)=true /\ edgesOk xs (i0+1)=true)
  cases i with
  | zero =>
   cases hi
   have:=List.all_eq_true.1 h1 e (by simpa using he)
   rw[hb] at this
   simpa [Nat.blt_eq] using this
  | succ i =>
   have:=z6v xs (i0+1) h2 i o (by simpa using hi) e he hb
   omega
structure RegOk (P:Program) (ops:Array Oper):Prop where
 uniq:∀(i j:Nat) (o o':Oper) (d:Tmp),ops[i]?=some o->ops[j]?=some o'->o.dst=some d->o'.dst=some d->i=j
 pair:∀(i j:Nat) (oi oj:Oper) (d:Tmp),ops[i]?=some oi->ops[j]?=some oj->oj.dst=some d->d ∈ looks ops.toList oi ->
  i ≠ j /\ (j < i->Nat.testBit ((deps ops).getD i 0) j=true) /\ (i < j->Nat.testBit ((deps ops).getD j 0) i=true)
 anch:∀(j:Nat) (oj:Oper),ops[j]?=some oj->zg P oj.op=true->∀(i:Nat) (oi:Oper),i < j->ops[i]?=some oi->(zg P oi.op || isNew P oi.op)=true->Nat.testBit ((deps ops).getD j 0) i=true
 edge:∀(j:Nat) (oj:Oper),ops[j]?=some oj->∀ e ∈ oj.after,Region.binds .any e=true->e.on < j
theorem z3o{ops:Array Oper}(h:regionOk P ops=true):RegOk P ops:=by
 unfold regionOk at h
 simp only[Bool.and_eq_true] at h
 obtain⟨h1,h2,h3,h4⟩:=h
 refine⟨fun i j o o' d hi hj hd hd'=>z51 _ _ h1 i j o o' d (by simpa using hi) (by simpa using hj) hd hd',fun i j oi oj d hi hj hd hm=>?_,fun j oj hj hk i oi hl hi hk'=>?_,fun j oj hj e he hb=>?_⟩
 ·have:=za1 _ 0 (z71 _ 0 h2 i oi (by simpa using hi)) j oj d (by simpa using hj) hd hm
  simpa using this
 ·have:=z5a _ 0 _ (z4r _ 0 h3 j oj (by simpa using hj) hk) i oi (by omega) (by simpa using hi) hk'
  simpa using this
 ·have:=z6v _ 0 h4 j oj (by simpa using hj) e he hb
  omega
noncomputable def acnt(P:Program)(p:Nat->Bool):List Oper->Nat->Nat
 | [],_=>0
 | o :: os,i=>(ifb (zg P o.op && p i) 1 0)+acnt P p os (i+1)
theorem z6p{mask:Nat}:∀(l:List Oper) (i:Nat),z0x P mask l i=acnt P (Nat.testBit mask) l i
 | [],_=>rfl
 | o :: os,i=>by show _+z0x P mask os (i+1)=_;rw[z6p os (i+1)];rfl
theorem z4q{m:Nat}{ds:List Nat}:∀(l:List Oper) (i:Nat),ds.length=i+l.length->z0e P m l (ds.drop i)=acnt P (fun j=>!(Nat.testBit (ds.getD j 0) m)) l i
 | [],i,h=>by rw[show ds.drop i=[] from by simp at h;simp[h]];rfl
 | o :: os,i,h=>by
  have hl:i < ds.length:=by simp at h;omega
  rw[List.drop_eq_getElem_cons hl]
  show(ifb (zg P o.op && !(Nat.testBit ds[i] m)) 1 0)+z0e P m os (ds.drop (i+1))=_
  rw[z4q os (i+1) (by simp at h;omega)]
  show _=(ifb (zg P o.op && !(Nat.testBit (ds.getD i 0) m)) 1 0)+_
  rw[show ds.getD i 0=ds[i] from by simp[hl]]
theorem z3t{p q:Nat->Bool}:∀(l:List Oper) (i:Nat),(∀ j o,l[j]?=some o->zg P o.op=true->p (i+j)=true->q (i+j)=true)->acnt P p l i<=acnt P q l i
 | [],_,_=>Nat.le_refl _
 | o :: os,i,h=>by
  have h1:=z3t os (i+1) fun j o hj=>by rw[show i+1+j=i+(j+1) by omega];exact h (j+1) o (by simpa using hj)
  have h2:ifb (zg P o.op && p i) 1 0<=ifb (zg P o.op && q i) 1 0:=by
   have h0:=h 0 o rfl
   cases ha:zg P o.op with
   | false=>exact Nat.le_refl _
   | true =>
    cases hp:p i with
    | false=>exact Nat.zero_le _
    | true=>rw[show q i=true from h0 ha hp];exact Nat.le_refl _
  exact Nat.add_le_add h2 h1
theorem z65{p q:Nat->Bool}(l:List Oper)(i:Nat)(h:∀ j o,l[j]?=some o->zg P o.op=true->p (i+j)=q (i+j)):acnt P p l i=acnt P q l i :=
 Nat.le_antisymm (z3t l i fun j o hj ha hp=>by rw[<-h j o hj ha];exact hp) (z3t l i fun j o hj ha hp=>by rw[h j o hj ha];exact hp)
theorem z66:∀(l:List Oper) (i:Nat),acnt P (fun _=>false) l i=0
 | [],_=>rfl
 | o :: os,i=>by show ifb (zg P o.op && false) 1 0+acnt P _ os (i+1)=0;rw[z66 os,Bool.and_false];rfl
theorem zbf(n:Nat):∀(l:List Oper) (i j:Nat) (o:Oper),n=i+j->l[j]?=some o->acnt P (fun x=>Nat.blt x (n+1)) l i=acnt P (fun x=>Nat.blt x n) l i+ifb (zg P o.op) 1 0
 | [],_,_,_,_,h=>by cases h
 | x :: xs,i,0,o,hn,h=>by
  cases h
  have e1:Nat.blt i (n+1)=true:=by rw[Nat.blt_eq];omega
  have e2:Nat.blt i n=false:=by
   cases hb:Nat.blt i n with
   | false=>rfl
   | true=>rw[Nat.blt_eq] at hb;omega
  show ifb (zg P x.op && Nat.blt i (n+1)) 1 0+acnt P _ xs (i+1)=ifb (zg P x.op && Nat.blt i n) 1 0+acnt P _ xs (i+1)+_
  rw[e1,e2,z65 (q:=fun _=>false) xs (i+1),z65 (p:=fun x=>Nat.blt x n) (q:=fun _=>false) xs (i+1),z66]
  ·simp[ifb]
  ·intro j o _ _
   cases hb:Nat.blt (i+1+j) n with
   | false=>rfl
   | true=>rw[Nat.blt_eq] at hb;omega
  ·intro j o _ _
   cases hb:Nat.blt (i+1+j) (n+1) with
   | false=>rfl
   | true=>rw[Nat.blt_eq] at hb;omega
 | x :: xs,i,j+1,o,hn,h=>by
  have e1:Nat.blt i (n+1)=true:=by rw[Nat.blt_eq];omega
  have e2:Nat.blt i n=true:=by rw[Nat.blt_eq];omega
  show ifb (zg P x.op && Nat.blt i (n+1)) 1 0+acnt P _ xs (i+1)=ifb (zg P x.op && Nat.blt i n) 1 0+acnt P _ xs (i+1)+_
  rw[e1,e2,zbf n xs (i+1) j o (by omega) (by simpa using h)]
  omega
end PvL
end
section
namespace PvL
open Go
section congr
variable {P:Program} {T U:Tm}
theorem zkz{x:Operand}(h:∀ t,x=.tmp t->T.get t=U.get t):ev T x=ev U x:=by
 cases x with
 | tmp t=>show evT T t=evT U t;rw[z3r,z3r,h t rfl]
 | _=>rfl
theorem z5l:∀ {l:List Operand},(∀ x ∈ l,ev T x=ev U x)->evs T l=evs U l
 | [],_=>rfl
 | x :: xs,h=>by
  show ob (ev T x) _=ob (ev U x) _
  rw[h x List.mem_cons_self,z5l fun y hy=>h y (List.mem_cons_of_mem _ hy)]
theorem z3g:∀ {l:List (Nat × Operand)},(∀ x ∈ l,ev T x.2=ev U x.2)->evParts T l=evParts U l
 | [],_=>rfl
 |(i,x) :: xs,h=>by
  show ob (ev T x) _=ob (ev U x) _
  rw[h (i,x) List.mem_cons_self,z3g fun y hy=>h y (List.mem_cons_of_mem _ hy)]
theorem z52{x:Option Operand}(h:∀ y,x=some y->ev T y=ev U y):evOpt T x=evOpt U x:=by
 cases x with
 | none=>rfl
 | some y=>show ob (ev T y) _=ob (ev U y) _;rw[h y rfl]
theorem zis(o:Op)(m:Mem)(h0:∀ t,Operand.tmp t ∈ o.operands->T.get t=U.get t):op1 P o T m=op1 P o U m:=by
 have h:∀ x ∈ o.operands,ev T x=ev U x:=fun x hx=>zkz fun t e=>h0 t (e ▸ hx)
 clear h0
 cases o<;>simp only[Op.operands] at h
 case move x=>show oMove x T m=oMove x U m;unfold oMove;rw[h x (by simp)]
 case assign x=>show oMove x T m=oMove x U m;unfold oMove;rw[h x (by simp)]
 case pick c a b=>show oPick c a b T m=oPick c a b U m;unfold oPick;rw[h c (by simp),h a (by simp),h b (by simp)]
 case alloc t=>rfl
 case box t x=>show oBox t x T m=oBox t x U m;unfold oBox;rw[h x (by simp)]
 case build t ps=>show oBuild P t ps T m=oBuild P t ps U m;unfold oBuild;rw[z3g (fun x hx=>h x.2 (by simp;exact⟨x.1,by simpa using hx⟩))]
 case buildSlice t n ps=>show oBuildSlice P t n ps T m=oBuildSlice P t n ps U m;unfold oBuildSlice;rw[z3g (fun x hx=>h x.2 (by simp;exact⟨x.1,by simpa using hx⟩))]
 case load t a=>show oLoad P t a T m=oLoad P t a U m;unfold oLoad;rw[h a (by simp)]
 case store t a x=>show oStore P t a x T m=oStore P t a x U m;unfold oStore;rw[h a (by simp),h x (by simp)]
 case nilCheck x=>show oNilCheck x T m=oNilCheck x U m;unfold oNilCheck;rw[h x (by simp)]
 case binOp op t x y u=>show oBin P op t x y u T m=oBin P op t x y u U m;unfold oBin;rw[h x (by simp),h y (by simp)]
 case unOp op t x=>show oUn op t x T m=oUn op t x U m;unfold oUn;rw[h x (by simp)]
 case convert s d x=>show oConv P s d x T m=oConv P s d x U m;unfold oConv;rw[h x (by simp)]
 case makeFunc fn a b=>show oMakeFunc fn a b T m=oMakeFunc fn a b U m;unfold oMakeFunc;rw[z5l (l:=a.toList) fun x hx=>h x (by simp at hx ⊢;exact .inl hx),z5l (l:=b.toList) fun x hx=>h x (by simp at hx ⊢;exact .inr hx)]
 case makeMap t r=>rfl
 case makeSlice t l c=>show oMakeSlice P t l c T m=oMakeSlice P t l c U m;unfold oMakeSlice;rw[h l (by simp),h c (by simp)]
 case slice t x lo hi mx =>
  show oSlice P t x lo hi mx T m=oSlice P t x lo hi mx U m
  unfold oSlice
  rw[h x (by simp),z52 (x:=lo) fun y e=>h y (by simp[e]),z52 (x:=hi) fun y e=>h y (by simp[e]),z52 (x:=mx) fun y e=>h y (by simp[e])]
 case fieldAddr t x f=>show oFieldAddr P t x f T m=oFieldAddr P t x f U m;unfold oFieldAddr;rw[h x (by simp)]
 case field t x f=>show oField P t x f T m=oField P t x f U m;unfold oField;rw[h x (by simp)]
 case indexAddr t x i=>show oIndexAddr P t x i T m=oIndexAddr P t x i U m;unfold oIndexAddr;rw[h x (by simp),h i (by simp)]
 case index t x i=>show oIndex P t x i T m=oIndex P t x i U m;unfold oIndex;rw[h x (by simp),h i (by simp)]
 case lookup t x i ok=>show oLookup P t x i ok T m=oLookup P t x i ok U m;unfold oLookup;rw[h x (by simp),h i (by simp)]
 case mapUpdate t x k v=>show oMapUpdate P t x k v T m=oMapUpdate P t x k v U m;unfold oMapUpdate;rw[h x (by simp),h k (by simp),h v (by simp)]
 case extract x i=>show oExtract x i T m=oExtract x i U m;unfold oExtract;rw[h x (by simp)]
 case makeInterface t x=>show oMkIface P t x T m=oMkIface P t x U m;unfold oMkIface;rw[h x (by simp)]
 case typeAssert x t u ok=>show oAssert P x t u ok T m=oAssert P x t u ok U m;unfold oAssert;rw[h x (by simp)]
 case call c =>
  show oCall P c T m=oCall P c U m
  obtain⟨callee,args,ats⟩:=c
  have ha:evs T args.toList=evs U args.toList:=z5l fun x hx=>h x (by simp at hx;simp[Call.operands,hx])
  unfold oCall
  show ob (evs T args.toList) _=ob (evs U args.toList) _
  rw[ha]
  congr 1
  funext as
  cases callee with
  | value f=>show ob (ev T f) _=ob (ev U f) _;rw[h f (by simp[Call.operands])]
  | invoke r n=>show ob (ev T r) _=ob (ev U r) _;rw[h r (by simp[Call.operands])]
  | builtin b=>rfl
 all_goals rfl
end congr
section kinds
variable {P:Program} {T:Tm} {m:Mem}
theorem z0g{α β γ:Type}{x:Option α}{f:α->Option β}{g:β->Option γ}:ob (ob x f) g=ob x (fun a=>ob (f a) g):=by cases x<;>rfl
theorem zbt{o:Op}(h:cls P o=.mover):cls0 o=.mover:=by
 cases o<;>first|exact h|(exfalso;cases h;done)|skip
 case call c =>
  obtain⟨callee,args,ats⟩:=c
  cases callee with
  | value f =>
   have h:oe (calleeFn ⟨.value f,args,ats⟩) Cls.anchor (fun f=>ifb (z15 P 3 f) Cls.calm Cls.anchor)=.mover:=h
   cases hf:calleeFn ⟨.value f,args,ats⟩ with
   | none=>rw[hf] at h;cases h
   | some g =>
    rw[hf] at h
    have h:ifb (z15 P 3 g) Cls.calm Cls.anchor=.mover:=h
    cases hp:z15 P 3 g<;>rw[hp] at h<;>cases h
  | invoke r n=>exact h
  | builtin b=>cases b<;>exact h
theorem zaq{o:Op}(h:cls P o=.new):cls0 o=.new:=by
 cases o<;>first|exact h|(exfalso;cases h;done)|skip
 case call c =>
  obtain⟨callee,args,ats⟩:=c
  cases callee with
  | value f =>
   have h:oe (calleeFn ⟨.value f,args,ats⟩) Cls.anchor (fun f=>ifb (z15 P 3 f) Cls.calm Cls.anchor)=.new:=h
   cases hf:calleeFn ⟨.value f,args,ats⟩ with
   | none=>rw[hf] at h;cases h
   | some g =>
    rw[hf] at h
    have h:ifb (z15 P 3 g) Cls.calm Cls.anchor=.new:=h
    cases hp:z15 P 3 g<;>rw[hp] at h<;>cases h
  | invoke r n=>exact h
  | builtin b=>cases b<;>exact h
theorem zko{o:Op}(h:cls P o=.calm):∃ f args ats,o=.call ⟨.value (.func f),args,ats⟩ /\ z15 P 3 f=true:=by
 cases o<;>first|(exfalso;cases h;done)|skip
 case call c =>
  obtain⟨callee,args,ats⟩:=c
  cases callee with
  | value f =>
   have h:oe (calleeFn ⟨.value f,args,ats⟩) Cls.anchor (fun f=>ifb (z15 P 3 f) Cls.calm Cls.anchor)=.calm:=h
   cases f with
   | func g =>
    have h:ifb (z15 P 3 g) Cls.calm Cls.anchor=.calm:=h
    refine⟨g,args,ats,rfl,?_⟩
    cases hp:z15 P 3 g with
    | true=>rfl
    | false=>rw[hp] at h;cases h
   | _=>cases h
  | invoke r n=>cases h
  | builtin b=>cases b<;>cases h
def Mv(P:Program)(T:Tm)(o:Op):Prop:=∃ X:Mem->Option LV,(∀ m,op1 P o T m=ob (X m) (rv m)) /\ (z0q o=false->∀ m m',X m=X m')
theorem zox{o:Op}(h:∀ m,op1 P o T m=none):Mv P T o:=⟨fun _=>none,h,fun _ _ _=>rfl⟩
theorem z1q{o:Op}(X:Option LV)(h:∀ m,op1 P o T m=ob X (rv m)):Mv P T o:=⟨fun _=>X,h,fun _ _ _=>rfl⟩
theorem z3k{o:Op}(hr:z0q o=true)(X:Mem->Option LV)(h:∀ m,op1 P o T m=ob (X m) (rv m)):Mv P T o:=⟨X,h,fun e=>by rw[hr] at e;cases e⟩
theorem zit(o:Op)(hc:cls0 o=.mover):Mv P T o:=by
 cases o<;>first|(cases hc;done)|skip
 case move x=>exact z1q (ev T x) fun m=>rfl
 case assign x=>exact z1q (ev T x) fun m=>rfl
 case pick c a b =>
  refine z1q (ob (ev T c) fun c=>asBool c fun c=>ifb c (ev T a) (ev T b)) fun m=>?_
  rw[z0g]
  show ob (ev T c) _=_
  congr 1
  funext v
  cases v<;>try rfl
  rename_i b;cases b<;>rfl
 case build t ps=>exact z1q (ob (evParts T ps.toList) fun ps=>buildL P t ps) fun m=>by rw[z0g];rfl
 case load t a=>exact z3k rfl (fun m=>ob (ev T a) fun a=>loadT P t m a) fun m=>by rw[z0g];rfl
 case nilCheck x=>exact z1q (ob (ev T x) fun v=>nilCheckL v) fun m=>by rw[z0g];rfl
 case binOp op t x y u=>exact z1q (ob (ev T x) fun a=>ob (ev T y) fun b=>ifb (ifb (isNilI a) (ifb (isNilI b) (isNilC y) false) false) (nilNil P op t) (binL P op t a b)) fun m=>by simp only[z0g];rfl
 case unOp op t x=>exact z1q (ob (ev T x) fun a=>unL op a) fun m=>by simp only[z0g];rfl
 case convert s d x=>exact z3k rfl (fun m=>ob (ev T x) fun a=>convM P s d a m) fun m=>by simp only[z0g];rfl
 case makeInterface t x =>
  refine z1q (guard' (z04 P t) (ob (ev T x) fun v=>some (.iface t v))) fun m=>?_
  show guard' (z04 P t) _=_
  cases z04 P t with
  | false=>rfl
  | true =>
   show ob (ev T x) _=ob (ob (ev T x) _) _
   simp only[z0g]
   first|done|rfl
 case typeAssert x t u ok =>
  refine z1q (guard' (z04 P u) (ob (ev T x) fun v=>assertL P u ok v)) fun m=>?_
  show guard' (z04 P u) _=_
  cases z04 P u with
  | false=>rfl
  | true =>
   show ob (ev T x) _=ob (ob (ev T x) _) _
   simp only[z0g]
 case makeFunc fn a b =>
  refine z1q (fnFunc fn fun g=>ob (evs T a.toList) fun a=>ob (evs T b.toList) fun b=>some (.func (.func g) a b)) fun m=>?_
  cases fn<;>first|rfl|skip
  show ob (evs T a.toList) _=ob (ob (evs T a.toList) _) _
  simp only[z0g]
  rfl
 case slice t x lo hi mx=>exact z3k rfl (fun m=>ob (ev T x) fun x=>ob (evOpt T lo) fun lo=>ob (evOpt T hi) fun hi=>ob (evOpt T mx) fun mx=>sliceL P t x lo hi mx m) fun m=>by simp only[z0g];rfl
 case fieldAddr t x f=>exact z1q (ob (ev T x) fun v=>fieldAddrL P t v f) fun m=>by simp only[z0g];rfl
 case field t x f=>exact z1q (ob (ev T x) fun v=>fieldL P t v f) fun m=>by simp only[z0g];rfl
 case indexAddr t x i=>exact z1q (ob (ev T x) fun v=>ob (ev T i) fun i=>indexAddrL P t v i) fun m=>by simp only[z0g];rfl
 case index t x i=>exact z1q (ob (ev T x) fun v=>ob (ev T i) fun i=>indexL P t v i) fun m=>by simp only[z0g];rfl
 case lookup t x i ok=>exact z3k rfl (fun m=>ob (ev T x) fun v=>ob (ev T i) fun i=>lookupL P t v i ok m) fun m=>by simp only[z0g];rfl
 case extract x i =>
  refine z1q (ob (ev T x) fun v=>asTup v fun vs=>nth vs i) fun m=>?_
  rw[z0g]
  show ob (ev T x) _=_
  congr 1
  funext v
  cases v<;>rfl
 case call c =>
  obtain⟨callee,args,ats⟩:=c
  cases callee with
  | value f=>cases hc
  | invoke r n=>cases hc
  | builtin b =>
   cases b<;>first|(cases hc;done)|skip
   ·refine z3k rfl (fun m=>ob (evs T args.toList) fun as=>lE ats.toList none fun t _=>lE as none fun x _=>lenL P t x m) fun m=>?_
    rw[z0g]
    show ob (evs T args.toList) _=_
    congr 1
    funext as
    cases ats.toList<;>cases as<;>rfl
   all_goals (
    first
    |(refine z3k rfl (fun m=>ob (evs T args.toList) fun as=>lE as none fun x xs=>foldL max2L xs x) fun m=>?_
      rw[z0g]
      show ob (evs T args.toList) _=_
      congr 1
      funext as
      cases as<;>rfl)
    |(refine z3k rfl (fun m=>ob (evs T args.toList) fun as=>lE as none fun x xs=>foldL min2L xs x) fun m=>?_
      rw[z0g]
      show ob (evs T args.toList) _=_
      congr 1
      funext as
      cases as<;>rfl))
 all_goals exact zox fun m=>rfl
theorem zb2(o:Op)(hc:cls0 o=.new){r:R1}(h:op1 P o T m=some r):∃ v lb,r=.val v (m.push lb) /\ isRo lb=false /\ ∀ M:Mem,M.next=m.next->op1 P o T M=some (.val v (M.push lb)):=by
 cases o<;>first|(cases hc;done)|skip
 case alloc t =>
  obtain⟨z,hz,h1⟩:=zb.1 (show ob (zeroL P t) _=some r from h)
  obtain⟨hf,h2⟩:=zc.1 h1
  obtain⟨hpt,h2⟩:=zc.1 (show guard' (plainT t) _=some r from h2)
  rw[Mem.new_eq] at h2
  cases h2
  refine⟨_,_,rfl,rfl,fun M hM=>?_⟩
  show ob (zeroL P t) _=_
  rw[hz]
  show guard' _ _=_
  rw[hf]
  show newPtr t z M=_
  unfold newPtr
  rw[hpt,zd,Mem.new_eq,hM]
 case box t x =>
  obtain⟨z,hz,h1⟩:=zb.1 (show ob (ev T x) _=some r from h)
  obtain⟨hf,h2⟩:=zc.1 h1
  obtain⟨hpt,h2⟩:=zc.1 (show guard' (plainT t) _=some r from h2)
  rw[Mem.new_eq] at h2
  cases h2
  refine⟨_,_,rfl,rfl,fun M hM=>?_⟩
  show ob (ev T x) _=_
  rw[hz]
  show guard' _ _=_
  rw[hf]
  show newPtr t z M=_
  unfold newPtr
  rw[hpt,zd,Mem.new_eq,hM]
 case buildSlice t n ps =>
  obtain⟨parts,hp,h1⟩:=zb.1 (show ob (evParts T ps.toList) _=some r from h)
  obtain⟨e,he,h2⟩:=zb.1 (show ob (z13 P t) _=some r from h1)
  obtain⟨sz,hsz,h3⟩:=zb.1 h2
  obtain⟨z,hz,h4⟩:=zb.1 h3
  obtain⟨hg,h5⟩:=zc.1 h4
  obtain⟨c,hcc,h6⟩:=zb.1 h5
  rw[Mem.new_eq] at h6
  cases h6
  refine⟨_,_,rfl,rfl,fun M hM=>?_⟩
  show ob (evParts T ps.toList) _=_
  rw[hp]
  show buildSliceL P t n parts M rvm=_
  unfold buildSliceL
  rw[he]
  show ob (szOf P e) _=_
  rw[hsz]
  show ob (zeroL P e) _=_
  rw[hz]
  show guard' _ _=_
  rw[hg]
  show ob (fillL _ _ _) _=_
  rw[hcc]
  show Mem.new M _ _=_
  rw[Mem.new_eq,hM]
  rfl
 case makeMap t rv0 =>
  obtain⟨hg,h1⟩:=zc.1 (show guard' rv0.isNone (m.new (.map [] [] 0) fun id m=>some (R1.val (.map (some id)) m))=some r from h)
  rw[Mem.new_eq] at h1
  cases h1
  refine⟨_,_,rfl,rfl,fun M hM=>?_⟩
  show guard' rv0.isNone (M.new (.map [] [] 0) fun id m=>some (R1.val (.map (some id)) m))=_
  rw[hg,Mem.new_eq,hM];rfl
 case makeSlice t l c =>
  obtain⟨lv,hl,h1⟩:=zb.1 (show ob (ev T l) _=some r from h)
  obtain⟨cv,hcv,h2⟩:=zb.1 h1
  obtain⟨e,he,h3⟩:=zb.1 (show ob (z13 P t) _=some r from h2)
  obtain⟨k1,n1,rfl,h4⟩:=zk.1 h3
  obtain⟨k2,n2,rfl,h5⟩:=zk.1 h4
  cases n1 with
  | negSucc q=>cases h5
  | ofNat n1 =>
  cases n2 with
  | negSucc q=>cases h5
  | ofNat n2 =>
  obtain⟨sz,hsz,h6⟩:=zb.1 (show ob (szOf P e) _=some r from h5)
  obtain⟨z,hz,h7⟩:=zb.1 h6
  obtain⟨by',hb,h8⟩:=zb.1 h7
  obtain⟨hg,h9⟩:=zc.1 h8
  rw[Mem.new_eq] at h9
  cases h9
  refine⟨_,_,rfl,rfl,fun M hM=>?_⟩
  show ob (ev T l) _=_
  rw[hl,za,hcv,za]
  show ob (z13 P t) _=_
  rw[he]
  show ob (szOf P e) _=_
  rw[hsz]
  show ob (zeroL P e) _=_
  rw[hz]
  show ob (bytesOfT P e) _=_
  rw[hb]
  show guard' _ _=_
  rw[hg]
  show Mem.new M _ _=_
  rw[Mem.new_eq,hM]
  rfl
 case call c =>
  obtain⟨callee,args,ats⟩:=c
  cases callee with
  | builtin b=>cases b<;>cases hc
  | _=>cases hc
