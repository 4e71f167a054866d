/-
 Arguments of plain types laid into the interpreter's memory;a law's row from its walk. No condition.
-/
import Derived.Test.YtpgalhbplcanhaaGreatDoorPvG
import Derived.Deep.Slices
import Derived.DataShut
import Derived.OpenShut
import Derived.Test.YtpgalhbplcanhaaGreatDoorPvE
import Derived.WideKeyArgs
import Derived.Deep.Frames
import Derived.Handed
import Derived.RowKit3
import Derived.SizedLaws
section
namespace PvL
open Go Go.ChangeShapes
inductive Sh where
 | int (k:IntKind)|bool|str|unit
 | sl (e:Sh) (b:Nat)
 | pair (a b:Sh)
abbrev Sh.T:Sh->Type
 | .int _=>Int
 | .bool=>Bool
 | .str=>ByteArray
 | .unit=>Unit
 | .sl e _=>List e.T
 | .pair a b=>a.T × b.T
def Sh.size:Sh->Nat
 | .unit=>0
 | .pair a b=>a.size+b.size
 | _=>1
def Enc(m:Mem):(s:Sh)->s.T->List LV->Prop
 | .int k,x,cs=>cs=[.int k x] /\ k.min<=x /\ x<=k.max
 | .bool,b,cs=>cs=[.bool b]
 | .str,s,cs=>cs=[.str s] /\ s.size<=reachBytes
 | .unit,_,cs=>cs=[]
 | .sl e b,l,cs=>∃ a f,cs=[.slice a l.length f e.size] /\ (l.length<=reachBytes /\ l.length*b<=reachBytes) /\ (l ≠ []->∃ i o,a=some (i,o) /\ i < m.next /\ (∃ own c ty,m.get i=some (.cells own c ty) /\ o+l.length*e.size<=c.length) /\
   ∀(k:Nat) (hk:k < l.length),∃ c,loadN m i (o+k*e.size) e.size=some c /\ Enc m e l[k] c)
 | .pair a b,x,cs=>∃ c d,cs=c ++ d /\ Enc m a x.1 c /\ Enc m b x.2 d
theorem Enc.length{m:Mem}:∀ {s:Sh} {x:s.T} {cs:List LV},Enc m s x cs->cs.length=s.size
 | .int k,_,_,h=>by rw[h.1];rfl
 | .bool,_,_,h=>by rw[h];rfl
 | .str,_,_,h=>by rw[h.1];rfl
 | .unit,_,_,h=>by rw[h];rfl
 | .sl e _,_,_,h=>by obtain⟨a,f,h,_⟩:=h;rw[h];rfl
 | .pair a b,_,_,h=>by obtain⟨c,d,h,h1,h2⟩:=h;rw[h,List.length_append,h1.length,h2.length];rfl
structure Ext (m m':Mem):Prop where
 le:m.next<=m'.next
 get:∀ i lb,m.get i=some lb->m'.get i=some lb
theorem Ext.refl(m:Mem):Ext m m:=⟨Nat.le_refl _,fun _ _ h=>h⟩
theorem Ext.trans{a b c:Mem}(h:Ext a b)(h':Ext b c):Ext a c:=⟨Nat.le_trans h.le h'.le,fun i lb e=>h'.get i lb (h.get i lb e)⟩
theorem Ext.loadN{m m':Mem}(h:Ext m m'){i o n:Nat}{l:List LV}(e:loadN m i o n=some l):PvL.loadN m' i o n=some l:=by
 unfold PvL.loadN atCells at e ⊢
 obtain⟨lb,h1,h2⟩:=zb.1 e
 rw[h.get i lb h1];exact h2
theorem Enc.ext{m m':Mem}(hm:Ext m m'):∀ {s:Sh} {x:s.T} {cs:List LV},Enc m s x cs->Enc m' s x cs
 | .int k,_,_,h=>h
 | .bool,_,_,h=>h
 | .str,_,_,h=>h
 | .unit,_,_,h=>h
 | .sl e _,l,_,h=>by
  obtain⟨a,f,h1,h2,h3⟩:=h
  refine⟨a,f,h1,h2,fun hl=>?_⟩
  obtain⟨i,o,h4,h5,⟨own,c,ty,h6,h7⟩,h8⟩:=h3 hl
  refine⟨i,o,h4,Nat.lt_of_lt_of_le h5 hm.le,⟨own,c,ty,hm.get _ _ h6,h7⟩,fun k hk=>?_⟩
  obtain⟨c,h9,h10⟩:=h8 k hk
  exact⟨c,hm.loadN h9,h10.ext hm⟩
 | .pair a b,_,_,h=>by obtain⟨c,d,h,h1,h2⟩:=h;exact⟨c,d,h,h1.ext hm,h2.ext hm⟩
theorem Ext.of_grow{m m':Mem}(h:Grow m m')(hm:∀ i lb,m.get i=some lb->i < m.next):Ext m m':=⟨h.le,fun i lb e=>by rw[h.old i (hm i lb e)];exact e⟩
section
variable (P:Program)
def shFs(rec:TypeId->Option Sh):List Field->Nat->Option Sh
 | [],_=>some .unit
 | f :: fs,off=>match rec f.type with
  | none=>none
  | some s=>if Nat.beq f.offset off && Nat.beq (P.cellsOf f.type) s.size then(match fs with
   | []=>some s
   | _=>match shFs rec fs (off+s.size) with|some r=>some (.pair s r)|none=>none) else none
def shRep(s:Sh):Nat->Sh
 | 0=>.unit
 | 1=>s
 | n+2=>.pair s (shRep s (n+1))
def shOf:Nat->TypeId->Option Sh
 | 0,_=>none
 | n+1,t=>match P.underlying t with
  | some (.int k)=>some (.int k)
  | some .bool=>some .bool
  | some .string=>some .str
  | some (.slice e)=>match shOf n e with|some s=>if Nat.beq (P.cellsOf e) s.size && (Nat.ble 1 s.size && Nat.ble 1 (P.bytesOf e)) then some (.sl s (P.bytesOf e)) else none|none=>none
  | some (.struct fs)=>shFs P (shOf n) fs.toList 0
  | some (.array k e)=>match shOf n e with|some s=>if Nat.beq (P.cellsOf e) s.size then some (shRep s k) else none|none=>none
  | _=>none
end
section
variable {P:Program} {H:Type} {enc:TypeId × Value->H} {w:World}
structure Laid (w:World) (m:Mem) (ρ:Rho) (m':Mem) (ρ':Rho):Prop where
 ext:Ext m m'
 le:RLe ρ ρ'
 rel:Rel (.old w) ρ' m' w
 fresh:∀ i,m'.next<=i->ρ' i=none
theorem Laid.trans{m m' m2:Mem}{ρ ρ' ρ2:Rho}(h:Laid w m ρ m' ρ')(h':Laid w m' ρ' m2 ρ2):Laid w m ρ m2 ρ2:=⟨h.ext.trans h'.ext,h.le.trans h'.le,h'.rel,h'.fresh⟩
def CanLay(P:Program)(enc:TypeId × Value->H)(w:World)(t:TypeId)(s:Sh):Prop :=
 ∀(fuel:Nat) (cs:List Value) (x:DataW H × List MemPlace),DataW.trod enc P w 0 (fun _=>true) true fuel t cs=some x->(∀ n ∈ x.1.weights P t,n<=reachBytes) ->
  ∀(m:Mem) (ρ:Rho),Rel (.old w) ρ m w->(∀ i,m.next<=i->ρ i=none)->∃(m':Mem) (ρ':Rho) (y:s.T) (lcs:List LV),Laid w m ρ m' ρ' /\ VRs ρ' lcs cs /\ Enc m' s y lcs
theorem VRs.mono'{ρ ρ':Rho}(hr:RLe ρ ρ'){v:List LV}{v':List Value}(h:VRs ρ v v'):VRs ρ' v v':=VRs.mono hr h
theorem zrt{m:Mem}{ρ:Rho}(h:Rel (.old w) ρ m w)(hf:ρ m.next=none){cs:List LV}{ty:TypeId}{C:Array Value}{e:TypeId}{fr:Nat × Nat}{b s:Nat}
  (hh:w.heap[b]?=some (.cells C e fr)) (hc:CellsR ρ cs C s):Rel (.old w) (upd1 ρ m.next (b,s,C.size)) (m.push (.cells false cs ty)) w:=by
 have hle:=RLe.upd1 (ρ:=ρ) (i:=m.next) (x:=(b,s,C.size)) hf
 refine⟨h.keep,fun i lb hi=>?_,fun i j lb lb' x y hi hj h1 h2 hx hy he=>?_,h.still⟩
 ·rw[Mem.get_push] at hi
  by_cases e':i=m.next
  ·rw[if_pos e'] at hi;cases hi
   refine⟨by show i < m.next+1;omega,b,s,C.size,_,by unfold upd1;rw[if_pos e'],⟨C,e,fr,rfl,(fun hh=>nomatch hh),rfl,hc.mono hle⟩,hh,?_⟩
   rw[if_pos (by rfl)]
   refine⟨hh,?_⟩
   show w.heap[b]? ≠ none
   rw[hh];exact fun hh=>nomatch hh
  ·rw[if_neg e'] at hi
   obtain⟨k1,b1,s1,c1,o1,k2,k3,k4,k5⟩:=h.live i lb hi
   exact⟨Nat.lt_succ_of_lt k1,b1,s1,c1,o1,hle _ _ k2,k3.mono hle,k4,k5⟩
 ·rw[Mem.get_push] at hi hj
  by_cases e1:i=m.next
  ·rw[if_pos e1] at hi;cases hi;cases h1
  ·by_cases e2:j=m.next
   ·rw[if_pos e2] at hj;cases hj;cases h2
   ·rw[if_neg e1] at hi;rw[if_neg e2] at hj
    obtain⟨_,b1,s1,c1,o1,k2,_⟩:=h.live i lb hi
    obtain⟨_,b2,s2,c2,o2,l2,_⟩:=h.live j lb' hj
    rw[hle _ _ k2] at hx;rw[hle _ _ l2] at hy;cases hx;cases hy
    exact h.inj i j lb lb' _ _ hi hj h1 h2 k2 l2 he
theorem zl1{m:Mem}(hlt:∀ i lb,m.get i=some lb->i < m.next)(lb:LB):Ext m (m.push lb):=⟨by show m.next<=m.next+1;omega,fun i l h=>by rw[Mem.get_push,if_neg (by have:=hlt i l h;omega)];exact h⟩
theorem z32{α β:Type}{f:α->Option β}{a:α}{l:List α}{r:List β}(h:(a :: l).mapM f=some r):∃ b r',f a=some b /\ l.mapM f=some r' /\ r=b :: r':=by
 rw[List.mapM_cons] at h
 obtain⟨b,h1,h2⟩:=Option.bind_eq_some_iff.1 h
 obtain⟨r',h3,h4⟩:=Option.bind_eq_some_iff.1 h2
 cases h4
 exact⟨b,r',h1,h3,rfl⟩
theorem z9p{srec:TypeId->Option Sh}(hrec:∀ t s,srec t=some s->P.cellsOf t=s.size->CanLay P enc w t s){fuel:Nat}{cs:List Value}:∀(fs:List Field) (off:Nat) (s:Sh),shFs P srec fs off=some s ->
  ∀(xs:List (DataW H × List MemPlace)),(fs.mapM fun f=>DataW.trod enc P w 0 (fun _=>true) true fuel f.type ((cs.drop f.offset).take (P.cellsOf f.type)))=some xs->(∀ n ∈ DataW.weightsEach P (fs.map (·.type)) (xs.map (·.1)),n<=reachBytes)->off+s.size<=cs.length ->
  ∀(m:Mem) (ρ:Rho),Rel (.old w) ρ m w->(∀ i,m.next<=i->ρ i=none)->∃(m':Mem) (ρ':Rho) (y:s.T) (lcs:List LV),Laid w m ρ m' ρ' /\ VRs ρ' lcs ((cs.drop off).take s.size) /\ Enc m' s y lcs
 | [],off,s,hs,xs,hx,_,hl,m,ρ,hr,hf=>by
  cases hs
  exact⟨m,ρ,(),[],⟨Ext.refl _,RLe.refl _,hr,hf⟩,by rw[show Sh.unit.size=0 from rfl,List.take_zero];exact .nil,rfl⟩
 | f :: fs,off,s,hs,xs,hx,hw,hl,m,ρ,hr,hf=>by
  obtain⟨x0,xs',h1,h2,rfl⟩:=z32 hx
  have hw0:∀ n ∈ x0.1.weights P f.type,n<=reachBytes:=fun n hn=>hw n (by show n ∈ x0.1.weights P f.type ++ _;exact List.mem_append_left _ hn)
  have hw1:∀ n ∈ DataW.weightsEach P (fs.map (·.type)) (xs'.map (·.1)),n<=reachBytes:=fun n hn=>hw n (by show n ∈ x0.1.weights P f.type ++ _;exact List.mem_append_right _ hn)
  unfold shFs at hs
  cases h3:srec f.type with
  | none=>rw[h3] at hs;cases hs
  | some s0 =>
   rw[h3] at hs
   simp only at hs
   split at hs
   ·rename_i hg
    simp only[Bool.and_eq_true,Nat.beq_eq] at hg
    obtain⟨g1,g2⟩:=hg
    rw[g1,g2] at h1
    obtain⟨m1,ρ1,y0,l0,k1,k2,k3⟩:=hrec _ _ h3 g2 _ _ _ h1 hw0 m ρ hr hf
    cases fs with
    | nil=>cases hs;exact⟨m1,ρ1,y0,l0,k1,k2,k3⟩
    | cons f2 fs2 =>
     simp only at hs
     cases h4:shFs P srec (f2 :: fs2) (off+s0.size) with
     | none=>rw[h4] at hs;cases hs
     | some r =>
      rw[h4] at hs
      cases hs
      have hl:off+(s0.size+r.size)<=cs.length:=hl
      obtain⟨m2,ρ2,y1,l1,j1,j2,j3⟩:=z9p hrec (f2 :: fs2) (off+s0.size) r h4 xs' h2 hw1 (by omega) m1 ρ1 k1.rel k1.fresh
      refine⟨m2,ρ2,(y0,y1),l0 ++ l1,k1.trans j1,?_,l0,l1,rfl,k3.ext j1.ext,j3⟩
      have e:(cs.drop off).take (s0.size+r.size)=(cs.drop off).take s0.size ++(cs.drop (off+s0.size)).take r.size:=by
       rw[List.take_add,List.drop_drop]
      show VRs ρ2 (l0 ++ l1) ((cs.drop off).take (s0.size+r.size))
      rw[e]
      exact(k2.mono' j1.le).append j2
   ·cases hs
theorem zia{e:TypeId}{s:Sh}(hrec:CanLay P enc w e s){fuel:Nat}{cs:List Value}:∀(n j:Nat) (xs:List (DataW H × List MemPlace)),
  ((List.range' j n).mapM fun i=>DataW.trod enc P w 0 (fun _=>true) true fuel e ((cs.drop (i*s.size)).take s.size))=some xs->(∀ n ∈ DataW.weightsAll P e (xs.map (·.1)),n<=reachBytes)->(j+n)*s.size<=cs.length ->
  ∀(m:Mem) (ρ:Rho),Rel (.old w) ρ m w->(∀ i,m.next<=i->ρ i=none)->∃(m':Mem) (ρ':Rho) (y:(shRep s n).T) (lcs:List LV),Laid w m ρ m' ρ' /\ VRs ρ' lcs ((cs.drop (j*s.size)).take (n*s.size)) /\ Enc m' (shRep s n) y lcs
 | 0,j,xs,hx,_,hl,m,ρ,hr,hf=>⟨m,ρ,(),[],⟨Ext.refl _,RLe.refl _,hr,hf⟩,by rw[Nat.zero_mul,List.take_zero];exact .nil,rfl⟩
 | 1,j,xs,hx,hw,hl,m,ρ,hr,hf=>by
  obtain⟨x0,xs',h1,h2,rfl⟩:=z32 (show((j :: List.range' (j+1) 0).mapM _)=some xs from hx)
  obtain⟨m1,ρ1,y0,l0,k1,k2,k3⟩:=hrec _ _ _ h1 (fun n hn=>hw n (by show n ∈ x0.1.weights P e ++ _;exact List.mem_append_left _ hn)) m ρ hr hf
  exact⟨m1,ρ1,y0,l0,k1,by rw[Nat.one_mul];exact k2,k3⟩
 | n+2,j,xs,hx,hw,hl,m,ρ,hr,hf=>by
  obtain⟨x0,xs',h1,h2,rfl⟩:=z32 (show((j :: List.range' (j+1) (n+1)).mapM _)=some xs from hx)
  obtain⟨m1,ρ1,y0,l0,k1,k2,k3⟩:=hrec _ _ _ h1 (fun n hn=>hw n (by show n ∈ x0.1.weights P e ++ _;exact List.mem_append_left _ hn)) m ρ hr hf
  obtain⟨m2,ρ2,y1,l1,j1,j2,j3⟩:=zia hrec (n+1) (j+1) xs' h2 (fun n hn=>hw n (by show n ∈ x0.1.weights P e ++ _;exact List.mem_append_right _ hn)) (by rw[show j+1+(n+1)=j+(n+2) by omega];exact hl) m1 ρ1 k1.rel k1.fresh
  refine⟨m2,ρ2,(y0,y1),l0 ++ l1,k1.trans j1,?_,l0,l1,rfl,k3.ext j1.ext,j3⟩
  have e:(cs.drop (j*s.size)).take ((n+2)*s.size)=(cs.drop (j*s.size)).take s.size ++(cs.drop ((j+1)*s.size)).take ((n+1)*s.size):=by
   rw[show(n+2)*s.size=s.size+(n+1)*s.size by rw[show n+2=(n+1)+1 by omega,Nat.add_mul (n+1) 1,Nat.one_mul,Nat.add_comm],List.take_add,List.drop_drop,Nat.add_mul j 1,Nat.one_mul]
  rw[e]
  exact(k2.mono' j1.le).append j2
theorem zbs{b:Nat}{a:Addr}{n:Nat}{vs:List Value}(h:w.cells? b a n=some vs):vs.length=n /\ ∀ i,i < n->w.cell? (a.add i)=vs[i]?:=by
 unfold World.cells? at h
 split at h
 ·refine⟨by simpa using mapM_some_length h,fun i hi=>?_⟩
  exact mapM_some_get h i i (by simp[hi])
 ·cases h
theorem z4v{e:TypeId}{d:DataW H}:∀ {l:List (DataW H)},d ∈ l->∀ {q:Nat},q ∈ d.weights P e->q ∈ DataW.weightsAll P e l
 | a :: l,h,q,hq=>by
  show q ∈ a.weights P e ++ DataW.weightsAll P e l
  rcases List.mem_cons.1 h with rfl|h
  ·exact List.mem_append_left _ hq
  ·exact List.mem_append_right _ (z4v h hq)
theorem zc9{e:TypeId}{s:Sh}(hrec:CanLay P enc w e s){n:Nat}(cells:Nat->List Value)(D:Nat->DataW H × List MemPlace)(hall:∀ i,i < n->∃ fuel,DataW.trod enc P w 0 (fun _=>true) true fuel e (cells i)=some (D i))(hlen:∀ i,i < n->(cells i).length=s.size) :
  ∀(k:Nat),k<=n->(∀ i,i < k->∀ q ∈ (D i).1.weights P e,q<=reachBytes)->∀(m:Mem) (ρ:Rho),Rel (.old w) ρ m w->(∀ i,m.next<=i->ρ i=none) ->
  ∃(m':Mem) (ρ':Rho) (l:List s.T) (lcs:List LV),Laid w m ρ m' ρ' /\ l.length=k /\ lcs.length=k*s.size /\ VRs ρ' lcs ((List.range k).flatMap cells) /\ ∀(j:Nat) (hj:j < l.length),Enc m' s l[j] ((lcs.drop (j*s.size)).take s.size)
 | 0,_,_,m,ρ,hr,hf=>⟨m,ρ,[],[],⟨Ext.refl _,RLe.refl _,hr,hf⟩,rfl,by simp,.nil,fun j hj=>absurd hj (Nat.not_lt_zero _)⟩
 | k+1,hk,hw,m,ρ,hr,hf=>by
  obtain⟨m1,ρ1,l,lcs,h1,h2,h3,h4,h5⟩:=zc9 hrec cells D hall hlen k (by omega) (fun i hi=>hw i (by omega)) m ρ hr hf
  obtain⟨fuel,h6⟩:=hall k (by omega)
  obtain⟨m2,ρ2,y,l0,j1,j2,j3⟩:=hrec _ _ _ h6 (hw k (by omega)) m1 ρ1 h1.rel h1.fresh
  refine⟨m2,ρ2,l ++ [y],lcs ++ l0,h1.trans j1,by simp[h2],by rw[List.length_append,h3,j3.length,Nat.add_mul,Nat.one_mul],?_,fun j hj=>?_⟩
  ·rw[List.range_succ,List.flatMap_append]
   refine(h4.mono' j1.le).append ?_
   simpa using j2
  ·by_cases hjk:j < k
   ·have hjl:j < l.length:=by omega
    rw[List.getElem_append_left hjl]
    have e:((lcs ++ l0).drop (j*s.size)).take s.size=(lcs.drop (j*s.size)).take s.size:=by
     have hb:j*s.size+s.size<=lcs.length:=by rw[h3];have:(j+1)*s.size<=k*s.size:=Nat.mul_le_mul_right _ hjk;rw[Nat.add_mul,Nat.one_mul] at this;exact this
     rw[List.drop_append_of_le_length (by omega),List.take_append_of_le_length (by rw[List.length_drop];omega)]
    rw[e]
    exact(h5 j hjl).ext j1.ext
   ·have hjk:j=k:=by simp at hj;omega
    subst hjk
    rw[List.getElem_append_right (by omega)]
    have e:((lcs ++ l0).drop (j*s.size)).take s.size=l0:=by
     rw[List.drop_append,h3,Nat.sub_self,List.drop_of_length_le (by omega),List.nil_append,List.drop_zero,List.take_of_length_le (by rw[j3.length];exact Nat.le_refl _)]
    rw[e]
    simpa [h2] using j3
theorem zjm{n:Nat}{g:Nat->Option (DataW H × List MemPlace)}{xs:List (DataW H × List MemPlace)}(hl:xs.length=n)(h:∀ i,i < n->g i=xs[i]?):(List.range n).mapM g=some xs:=by
 refine mapM_some_of_get _ _ (by simpa using hl) fun i x hi=>?_
 have hlt:i < n:=by have:=(List.getElem?_eq_some_iff.1 hi).1;simpa using this
 rw[List.getElem?_range hlt] at hi
 cases hi
 exact h i hlt
theorem zam:∀(n:Nat) (t:TypeId) (s:Sh),shOf P n t=some s->P.cellsOf t=s.size->CanLay P enc w t s
 | 0,_,_,h,_=>nomatch h
 | n+1,t,s,h,hsz=>by
  unfold shOf at h
  split at h
  ·rename_i k hu
   cases h
   intro fuel cs x hx hw m ρ hr hf
   obtain⟨i,rfl,rfl,hwf⟩:=DataW.trod_int hu hx
   simp only[Lit.wf,Bool.and_eq_true,decide_eq_true_eq] at hwf
   exact⟨m,ρ,i,[.int k i],⟨Ext.refl _,RLe.refl _,hr,hf⟩,.cons (.int k i) .nil,rfl,hwf⟩
  ·rename_i hu
   cases h
   intro fuel cs x hx hw m ρ hr hf
   obtain⟨b,rfl,rfl⟩:=DataW.trod_bool hu hx
   exact⟨m,ρ,b,[.bool b],⟨Ext.refl _,RLe.refl _,hr,hf⟩,.cons (.bool b) .nil,rfl⟩
  ·rename_i hu
   cases h
   intro fuel cs x hx hw m ρ hr hf
   obtain⟨b,rfl,rfl,hs⟩:=DataW.trod_string hu hx
   exact⟨m,ρ,b,[.str b],⟨Ext.refl _,RLe.refl _,hr,hf⟩,.cons (.str b) .nil,rfl,by have:=hw b.data.toList.length (by show _ ∈ [_];exact List.mem_singleton.2 rfl);rw[Array.length_toList] at this;exact this⟩
  ·rename_i e hu
   split at h
   ·rename_i s0 hs0
    split at h
    ·rename_i hg
     simp only[Bool.and_eq_true,Nat.beq_eq,Nat.ble_eq] at hg
     obtain⟨g1,g2,g2b⟩:=hg
     cases h
     have ih:=zam n e s0 hs0 g1
     intro fuel cs x hx hw m ρ hr hf
     rcases Deep.open_slice hu hx with⟨rfl,rfl⟩|⟨a,len,cap,M,fuel',D,Pl,rfl,_,hlc,hcm,hM,rfl,hall⟩
     ·exact⟨m,ρ,[],[.slice none 0 true s0.size],⟨Ext.refl _,RLe.refl _,hr,hf⟩,.cons (.sliceNil _ _) .nil,none,true,rfl,⟨Nat.zero_le _,by rw[List.length_nil,Nat.zero_mul];exact Nat.zero_le _⟩,fun h=>absurd rfl h⟩
     ·have hM:M=cap:=by rw[hM];rfl
      subst hM
      have hws:(len+(M - len))*P.bytesOf e<=reachBytes /\ ∀ i,i < len->∀ q ∈ (D i).weights P e,q<=reachBytes:=by
       have hall:∀ q ∈ (DataW.slice ((List.range len).map D) ((List.range (M - len)).map fun j=>D (len+j))).weights P t,q<=reachBytes:=hw
       have he:(DataW.slice ((List.range len).map D) ((List.range (M - len)).map fun j=>D (len+j))).weights P t=(((List.range len).map D).length+((List.range (M - len)).map fun j=>D (len+j)).length)*P.bytesOf e ::(DataW.weightsAll P e ((List.range len).map D) ++ DataW.weightsAll P e ((List.range (M - len)).map fun j=>D (len+j))):=by
        unfold DataW.weights;rw[hu]
       rw[he] at hall
       refine⟨?_,fun i hi q hq=>hall q (List.mem_cons_of_mem _ (List.mem_append_left _ (z4v (List.mem_map.2 ⟨i,List.mem_range.2 hi,rfl⟩) hq)))⟩
       have:=hall _ List.mem_cons_self
       rw[List.length_map,List.length_map,List.length_range,List.length_range] at this
       exact this
      have hlr:len<=reachBytes /\ len*P.bytesOf e<=reachBytes:=by
       have:=hws.1
       have h1:len*1<=(len+(M - len))*P.bytesOf e:=Nat.mul_le_mul (by omega) g2b
       have h2:len*P.bytesOf e<=(len+(M - len))*P.bytesOf e:=Nat.mul_le_mul (by omega) (Nat.le_refl _)
       exact⟨by omega,Nat.le_trans h2 this⟩
      by_cases h0:M=0
      ·subst h0
       obtain rfl:len=0:=by omega
       exact⟨m,ρ,[],[.slice (some (m.next,0)) 0 true s0.size],⟨Ext.refl _,RLe.refl _,hr,hf⟩,.cons .sliceZ .nil,_,true,rfl,⟨Nat.zero_le _,by rw[List.length_nil,Nat.zero_mul];exact Nat.zero_le _⟩,fun h=>absurd rfl h⟩
      ·-- the cells of each element
       have hc:∀ i,i < M->∃ cs',w.cells? 0 (a.add (i*s0.size)) s0.size=some cs' /\ DataW.trod enc P w 0 (fun _=>true) true fuel' e cs'=some (D i,Pl i):=fun i hi=>by
        have:=hall i hi
        rw[g1] at this
        exact this
       let cells:Nat->List Value:=fun i=>(w.cells? 0 (a.add (i*s0.size)) s0.size).getD []
       have hcells:∀ i,i < M->w.cells? 0 (a.add (i*s0.size)) s0.size=some (cells i):=fun i hi=>by
        obtain⟨cs',h1,_⟩:=hc i hi
        show _=some ((w.cells? 0 (a.add (i*s0.size)) s0.size).getD [])
        rw[h1];rfl
       have hclen:∀ i,i < M->(cells i).length=s0.size:=fun i hi=>(zbs (hcells i hi)).1
       obtain⟨m1,ρ1,l,lcs,h1,h2,h3,h4,h5⟩:=zc9 ih cells (fun i=>(D i,Pl i)) (n:=M) (fun i hi=>by
        obtain⟨cs',k1,k2⟩:=hc i hi
        rw[hcells i hi] at k1
        cases k1
        exact⟨fuel',k2⟩) hclen len hlc hws.2 m ρ hr hf
       have hcell:∀ i j,i < M->j < s0.size->w.cell? (a.add (i*s0.size+j))=(cells i)[j]?:=fun i j hi hj=>by
        have:=(zbs (hcells i hi)).2 j hj
        rw[Deep.add_add] at this
        exact this
       have hsome:∀ q,q < M*s0.size->∃ v,w.cell? (a.add q)=some v:=fun q hq=>by
        have hi:q / s0.size < M:=Nat.div_lt_of_lt_mul (by rw[Nat.mul_comm];exact hq)
        have hj:q % s0.size < s0.size:=Nat.mod_lt _ g2
        have:=hcell (q / s0.size) (q % s0.size) hi hj
        rw[Nat.mul_comm,Nat.div_add_mod] at this
        rw[this,List.getElem?_eq_getElem (by rw[hclen _ hi];exact hj)]
        exact⟨_,rfl⟩
       have hpos:0 < M*s0.size:=Nat.mul_pos (by omega) (by omega)
       obtain⟨v0,hv0⟩:=hsome 0 hpos
       rw[show a.add 0=a by unfold Addr.add;rw[if_pos rfl]] at hv0
       obtain⟨b,off,sp⟩:=a
       unfold World.cell? at hv0
       simp only at hv0
       cases hb:w.heap[b]? with
       | none=>rw[hb] at hv0;cases hv0
       | some o =>
        rw[hb] at hv0
        cases o with
        | cells C ty fr =>
         simp only at hv0
         have hsp:sp=none:=by
          cases sp with
          | none=>rfl
          | some q=>simp at hv0
         subst hsp
         have hadd:∀ q,(Addr.mk b off none).add q=⟨b,off+q,none⟩:=fun q=>by
          unfold Addr.add
          by_cases hq:q=0
          ·rw[if_pos hq,hq];rfl
          ·rw[if_neg hq]
         have hC:∀ q,w.cell? ((Addr.mk b off none).add q)=C[off+q]?:=fun q=>by
          rw[hadd,z6b hb]
         have hend:off+M*s0.size<=C.size:=by
          obtain⟨v,hv⟩:=hsome (M*s0.size - 1) (by omega)
          rw[hC] at hv
          have:=(Array.getElem?_eq_some_iff.1 hv).1
          omega
         have hlen:lcs.length=((List.range len).flatMap cells).length:=h4.length
         have hflat:∀(k:Nat),k<=M->∀ q,q < k*s0.size->((List.range k).flatMap cells)[q]?=C[off+q]?:=by
          intro k
          induction k with
          | zero=>intro _ q hq;rw[Nat.zero_mul] at hq;exact absurd hq (Nat.not_lt_zero _)
          | succ k ihk =>
           intro hk q hq
           have hl:((List.range k).flatMap cells).length=k*s0.size:=by
            clear ihk hq
            induction k with
            | zero=>simp
            | succ k ih2=>rw[List.range_succ,List.flatMap_append,List.length_append,ih2 (by omega)];simp[hclen k (by omega),Nat.add_mul]
           rw[List.range_succ,List.flatMap_append]
           by_cases hqk:q < k*s0.size
           ·rw[List.getElem?_append_left (by omega)];exact ihk (by omega) q hqk
           ·rw[List.getElem?_append_right (by omega),hl]
            rw[Nat.add_mul,Nat.one_mul] at hq
            have:=hcell k (q - k*s0.size) (by omega) (by omega)
            rw[show k*s0.size+(q - k*s0.size)=q by omega,hC] at this
            simpa using this.symm
         have hcr:CellsR ρ1 lcs C off:=fun q v hv=>by
          obtain⟨v',k1,k2⟩:=h4.get hv
          have hq:q < len*s0.size:=by rw[<-h3];exact(List.getElem?_eq_some_iff.1 hv).1
          rw[hflat len hlc q hq] at k1
          exact⟨v',k1,k2⟩
         have hfr:ρ1 m1.next=none:=h1.fresh _ (Nat.le_refl _)
         have hlt:∀ i lb,m1.get i=some lb->i < m1.next:=fun i lb hi=>(h1.rel.live i lb hi).1
         have hext:=zl1 hlt (.cells false lcs 0)
         have hrel:=zrt h1.rel hfr hb hcr (ty:=0)
         refine⟨_,_,l,[.slice (some (m1.next,0)) len false s0.size],h1.trans ⟨hext,RLe.upd1 hfr,hrel,fun i hi=>?_⟩,.cons ?_ .nil,_,false,by rw[h2],by rw[h2];exact hlr,fun _=>?_⟩
         ·have hi:m1.next+1<=i:=hi
          unfold upd1
          rw[if_neg (by omega)]
          exact h1.fresh i (by omega)
         ·exact .slice (s:=off) (o:=0) (z06 _ _ _) hlc (fun hh=>by cases hh) (by omega)
         ·refine⟨m1.next,0,rfl,Nat.lt_succ_self _,⟨false,lcs,0,by rw[Mem.get_push,if_pos rfl],by rw[h3,h2];omega⟩,fun k hk=>?_⟩
          refine⟨(lcs.drop (k*s0.size)).take s0.size,?_,(h5 k hk).ext hext⟩
          unfold loadN atCells
          rw[Mem.get_push,if_pos rfl,za]
          have hb2:k*s0.size+s0.size<=lcs.length:=by
           rw[h3]
           have:(k+1)*s0.size<=len*s0.size:=Nat.mul_le_mul_right _ (by omega)
           rw[Nat.add_mul,Nat.one_mul] at this;exact this
          exact z1z.2 ⟨by rw[z1o,List.length_drop];omega,by rw[z1o,Nat.zero_add]⟩
        | _=>cases hv0
    ·cases h
   ·cases h
  ·rename_i fs hu
   intro fuel cs x hx hw m ρ hr hf
   obtain⟨xs,n',rfl,rfl,hl,hxl,hget⟩:=DataW.trod_struct hu hx
   have hlen:0+s.size<=cs.length:=by omega
   have hm:(fs.toList.mapM fun f=>DataW.trod enc P w 0 (fun _=>true) true n' f.type ((cs.drop f.offset).take (P.cellsOf f.type)))=some xs :=
    mapM_some_of_get _ _ (by simpa using hxl) fun i f hi=>hget i f (by simpa using hi)
   obtain⟨m',ρ',y,lcs,h1,h2,h3⟩:=z9p (fun t s h h'=>zam n t s h h') fs.toList 0 s h xs hm (fun q hq=>hw q (by unfold DataW.weights;rw[hu];exact hq)) hlen m ρ hr hf
   refine⟨m',ρ',y,lcs,h1,?_,h3⟩
   rw[List.drop_zero,List.take_of_length_le (by omega)] at h2
   exact h2
  ·rename_i k e hu
   split at h
   ·rename_i s0 hs0
    split at h
    ·rename_i hg
     rw[Nat.beq_eq] at hg
     cases h
     intro fuel cs x hx hw m ρ hr hf
     obtain⟨xs,n',rfl,rfl,hl,hxl,hget⟩:=DataW.trod_array hu hx
     have hrs:∀ k,(shRep s0 k).size=k*s0.size:=by
      intro k
      induction k with
      | zero=>rw[Nat.zero_mul];rfl
      | succ k ih =>
       cases k with
       | zero=>rw[Nat.one_mul];rfl
       | succ k=>show s0.size+(shRep s0 (k+1)).size=_;rw[ih,Nat.add_mul (k+1) 1,Nat.one_mul,Nat.add_comm]
     have hm:=zjm (g:=fun i=>DataW.trod enc P w 0 (fun _=>true) true n' e ((cs.drop (i*s0.size)).take s0.size)) hxl (fun i hi=>by rw[<-hg];exact hget i hi)
     rw[List.range_eq_range'] at hm
     obtain⟨m',ρ',y,lcs,h1,h2,h3⟩:=zia (zam n e s0 hs0 hg) k 0 xs hm (fun q hq=>hw q (by unfold DataW.weights;rw[hu];exact hq)) (by rw[Nat.zero_add,<- hrs k];omega) m ρ hr hf
     refine⟨m',ρ',y,lcs,h1,?_,h3⟩
     rw[Nat.zero_mul,List.drop_zero,List.take_of_length_le (by rw[<-hrs k];omega)] at h2
     exact h2
    ·cases h
   ·cases h
  ·cases h
end
end PvL
end
section
namespace PvL
open Go Go.ChangeShapes Go.RowKit
abbrev TA:List (Sh × Bool)->Type
 | []=>Unit
 |(s,_) :: r=>s.T × TA r
def EncA(m:Mem):(l:List (Sh × Bool))->TA l->List LV->Prop
 | [],_,vs=>vs=[]
 |(s,ag) :: r,x,vs=>∃ cs v vs',vs=v :: vs' /\ Enc m s x.1 cs /\ (if ag then v=.agg cs else cs=[v]) /\ EncA m r x.2 vs'
section
variable (P:Program)
def shArgs:List TypeId->Option (List (Sh × Bool))
 | []=>some []
 | t :: ts=>match shOf P 20 t,isAggT P t,shArgs ts with
  | some s,some ag,some l=>if Nat.beq (P.cellsOf t) s.size then some ((s,ag) :: l) else none
  | _,_,_=>none
end
section
variable {P:Program} {H:Type} {enc:TypeId × Value->H} {w:World}
theorem zdu{r:Reach}{b:Nat}{t:TypeId}{v:Value}(hag:isAggT P t=some false)(hok:Value.okWide P w r b t v):v.cells.toList=[v]:=by
 unfold isAggT at hag
 cases hu:P.underlying t with
 | none=>rw[hu] at hag;cases hag
 | some d =>
  rw[hu] at hag
  cases v with
  | agg cs =>
   cases d<;>first
    |(cases hag;done)
    |(simp[Value.okWide,Cell.okWide,Cell.ok,hu] at hok)
  | _=>rfl
theorem zgy{r:Reach}{b:Nat}{t:TypeId}{v:Value}(hag:isAggT P t=some true)(hok:Value.okWide P w r b t v):∃ cs,v=.agg cs:=by
 unfold isAggT at hag
 cases hu:P.underlying t with
 | none=>rw[hu] at hag;cases hag
 | some d =>
  rw[hu] at hag
  cases d<;>first
   |(cases hag;done)
   |(simp only[Value.okWide,hu] at hok;obtain⟨cs,h,_⟩:=hok;exact⟨cs,h⟩)
theorem zeo:∀(ts:List TypeId) (l:List (Sh × Bool)),shArgs P ts=some l->∀(vs:List Value) (ds:List (DataW H)) (ps:List MemPlace),DataW.TrodAll enc P w 0 (fun _=>true) true ts vs ds ps->(∀ n ∈ DataW.weightsEach P ts ds,n<=reachBytes) ->
  (∀(j:Nat) t v,ts[j]?=some t->vs[j]?=some v->∃ r b,Value.okWide P w r b t v)->∀(m:Mem) (ρ:Rho),Rel (.old w) ρ m w->(∀ i,m.next<=i->ρ i=none) ->
  ∃(m':Mem) (ρ':Rho) (y:TA l) (lvs:List LV),Laid w m ρ m' ρ' /\ VRs ρ' lvs vs /\ EncA m' l y lvs
 | [],l,hl,vs,ds,ps,ht,_,_,m,ρ,hr,hf=>by
  cases hl
  obtain⟨rfl,rfl,rfl⟩:=trodAll_nil ht
  exact⟨m,ρ,(),[],⟨Ext.refl _,RLe.refl _,hr,hf⟩,.nil,rfl⟩
 | t :: ts,l,hl,vs,ds,ps,ht,hw,hok,m,ρ,hr,hf=>by
  obtain⟨v,vs1,d,ds1,a,b,rfl,rfl,rfl,⟨fuel,h1⟩,h2⟩:=trodAll_cons ht
  unfold shArgs at hl
  cases e1:shOf P 20 t with
  | none=>rw[e1] at hl;cases hl
  | some s =>
   cases e2:isAggT P t with
   | none=>rw[e1,e2] at hl;cases hl
   | some ag =>
    cases e3:shArgs P ts with
    | none=>rw[e1,e2,e3] at hl;cases hl
    | some l' =>
     rw[e1,e2,e3] at hl
     simp only at hl
     split at hl
     ·rename_i hsz
      cases hl
      rw[Nat.beq_eq] at hsz
      obtain⟨m1,ρ1,y,lcs,k1,k2,k3⟩:=zam 20 t s e1 hsz _ _ _ h1 (fun n hn=>hw n (by show n ∈ d.weights P t ++ _;exact List.mem_append_left _ hn)) m ρ hr hf
      obtain⟨m2,ρ2,y2,lvs,j1,j2,j3⟩:=zeo ts l' e3 vs1 ds1 b h2 (fun n hn=>hw n (by show n ∈ d.weights P t ++ _;exact List.mem_append_right _ hn)) (fun j t v h h'=>hok (j+1) t v (by simpa using h) (by simpa using h')) m1 ρ1 k1.rel k1.fresh
      obtain⟨r,bb,hv⟩:=hok 0 t v rfl rfl
      have k2':=k2.mono' j1.le
      cases ag with
      | true =>
       obtain⟨cs,rfl⟩:=zgy e2 hv
       exact⟨m2,ρ2,(y,y2),.agg lcs :: lvs,k1.trans j1,.cons (.agg k2') j2,lcs,_,_,rfl,k3.ext j1.ext,by rw[if_pos rfl],j3⟩
      | false =>
       rw[zdu e2 hv] at k2'
       cases k2' with
       | cons q1 q2 =>
        cases q2
        rename_i lv
        exact⟨m2,ρ2,(y,y2),lv :: lvs,k1.trans j1,.cons q1 j2,_,_,_,rfl,k3.ext j1.ext,by rw[if_neg (by decide)],j3⟩
     ·cases hl
theorem z8q{m m':Mem}(h:Ext m m'):∀ {l:Tab},preOk m l=true->preOk m' l=true
 | [],_=>rfl
 | x :: xs,hp=>by
  obtain⟨h1,h2⟩:=(Bool.and_eq_true _ _ ▸ hp:cellsAre (m.get x.1) x.2.1 x.2.2=true /\ preOk m xs=true)
  show(cellsAre (m'.get x.1) x.2.1 x.2.2 && preOk m' xs)=true
  rw[z8q h h2,Bool.and_true]
  cases hg:m.get x.1 with
  | none=>rw[hg] at h1;cases h1
  | some lb=>rw[h.get _ _ hg];rw[hg] at h1;exact h1
def Base(m:Mem):Prop:=∀ i lb,m.get i=some lb->i < m.next
theorem z98[Orc P](hmix:P.follows .mixedOrders=true)(ho:OrcOk P){f:FuncId}{args:List LV}{m:Mem}{Q:LV->Mem->Prop}(h:CallN P f args m Q){w:World}{as':Array Value}{ρ:Rho}
  (ha:VRs ρ args as'.toList) (hG:GlobOk ρ) (hrel:Rel (.old w) ρ m w) (hf:FreshA ρ m.next) :
  Calls P f as' w fun e w'=>∃ v m' v' ρ',Q v m' /\ e=.returned v' /\ VR ρ' v v' /\ Rel (.old w) ρ' m' w':=by
 intro cs
 rcases h.2 (ztt hmix ho) (.old w) ρ w as' cs ha hG hrel hf with⟨v,m',hq,_,ρ',v',w',h1,h2,h3,fr,h4,h5,h6⟩|⟨v,m',hq,_⟩
 ·exact⟨_,w',fr,⟨v,m',v',ρ',hq,rfl,h2,h3⟩,h4,h5,h6⟩
 ·exact hq.elim
theorem ziy{l:Tab}{e:Entry}(h:e.Ok P)(hl:tabsOk l=true)(hd:l.Pairwise (fun x y=>x.1 ≠ y.1))(hk:e.k0=64)(ha:e.args=[])(hp:e.pre=l)(hv:e.v=.bool true)(m:Mem)(hm:preOk m l=true):Sim P (.call e.f [] m) (.call (.bool true) m):=by
 intro Pt ρ w as' cs has hG hrel hf
 have h0:as'.toList=[]:=(fun l (hl:VRs ρ [] l)=>(by cases hl;rfl:l=[])) _ has
 have hle:RLe (fun i=>if i < 64 then ρ i else none) ρ:=fun i x hx=>by
  by_cases hi:i < 64
  ·have hx:(if i < 64 then ρ i else none)=some x:=hx
   rw[if_pos hi] at hx;exact hx
  ·have hx:(if i < 64 then ρ i else none)=some x:=hx
   rw[if_neg hi] at hx;cases hx
 have hpre:=z2s _ hm
 have:=h.sim (Mem.base l) (by rw[z7k,hk]) (by rw[hp];exact z6i l hd _) (Pt.all w) (fun i=>if i < 64 then ρ i else none) w as' cs (by rw[ha,h0];exact .nil)
  (fun g hg=>by
   obtain⟨c,hc⟩:=hG g hg
   exact⟨c,by show(if g < 64 then ρ g else none)=_;rw[if_pos hg];exact hc⟩)
  ⟨fun _ _ hr=>hr,fun i lb hi=>by
   rcases z2y _ _ _ _ hi with hi|⟨x,hx,rfl,rfl⟩
   ·rw[Mem.get_mk,PT.get_nil] at hi;cases hi
   ·obtain⟨h1,h2⟩:=z6m hl x hx
    obtain⟨own,hx'⟩:=hpre x hx
    obtain⟨_,b,s,c,o,k1,⟨C,e',fr,k2,k3,k4,k5⟩,k6,_⟩:=hrel.live _ _ hx'
    refine⟨by unfold Mem.base;rw[z22];exact h1,b,s,c,o,by show(if x.1 < 64 then ρ x.1 else none)=_;rw[if_pos h1];exact k1,⟨C,e',fr,k2,(fun hh=>nomatch hh:false=true->Thaw fr c /\ TyR x.2.2 e' s),k4,fun k v hk=>?_⟩,k6,?_⟩
    ·obtain⟨v',g1,g2⟩:=k5 k v hk
     exact⟨v',g1,zi3 (h2 v (List.mem_of_getElem? hk)) g2⟩
    ·exact⟨k6,fun hh=>by
      have hh:w.heap[b]?=none:=hh
      rw[k6] at hh;cases hh⟩,
   (fun i j lb lb' x y hi hj hro=>by
    rcases z2y _ _ _ _ hi with hi|⟨x,hx,rfl,rfl⟩
    ·rw[Mem.get_mk,PT.get_nil] at hi;cases hi
    ·cases hro),hrel.still⟩ (fun i hi _=>by rw[z7k] at hi;exact if_neg (by omega))
 obtain⟨ρ',v',w',_,hv',hrel',hst⟩:=this
 rw[hv] at hv'
 have hv2:=hv'.bool_inv
 subst hv2
 have hkeep:∀ b o,w.heap[b]?=some o->w'.heap[b]?=some o:=fun b o hb=>hrel'.keep b o hb
 refine⟨ρ,_,w',?_,?_,⟨fun r o hr=>hkeep r o (hrel.keep r o hr),fun i lb hi=>?_,fun i j lb lb' x y hi hj hro hro' hx hy he=>hrel.inj i j lb lb' x y hi hj hro hro' hx hy he,hrel'.still⟩,hst⟩
 ·exact Same.refl _ _ _
 ·exact .bool _
 ·obtain⟨hl,b,s,c,o,k1,k2,k3,k4⟩:=hrel.live i lb hi
  exact⟨hl,b,s,c,o,k1,k2,hkeep _ _ k3,k4⟩
theorem zga[Orc P](hmix:P.follows .mixedOrders=true)(ho:OrcOk P){tabs:Tab}(htab:tabsOk tabs=true)(hdis:tabs.Pairwise (fun x y=>x.1 ≠ y.1)){f:FuncId}{ts:List TypeId}{l:List (Sh × Bool)}(hl:shArgs P ts=some l)(hlaw:∀(m:Mem) (x:TA l) (as:List LV),Base m->preOk m tabs=true->EncA m l x as->CallN P f as m fun v _=>v=.bool true)
  {args:Array Value} {ds:List (DataW H)} {ps:List MemPlace} (hw0:TabW tabs w) (ht:DataW.TrodAll enc P w 0 (fun _=>true) true ts args.toList ds ps) (hw:∀ n ∈ DataW.weightsEach P ts ds,n<=reachBytes) (hok:∀(j:Nat) t v,ts[j]?=some t->args[j]?=some v->∃ r b,Value.okWide P w r b t v) :
  Calls P f args w fun e w'=>e=.returned (.bool true) /\ GrownO w w' /\ ∀(r:Nat) (o:Obj),w.heap[r]?=some o->w'.heap[r]?=some o:=by
 have hb:=Rel.base htab hw0
 obtain⟨m,ρ,x,lvs,h1,h2,h3⟩:=zeo ts l hl args.toList ds ps ht hw (fun j t v h h'=>hok j t v h (by simpa using h')) (Mem.base tabs) (rho0 w) hb (fun i hi=>zjb (by rw[z7k] at hi;exact hi))
 have hpre:preOk m tabs=true:=z8q h1.ext (z6i tabs hdis _)
 refine(z98 hmix ho (hlaw m x lvs (fun i lb hi=>(h1.rel.live i lb hi).1) hpre h3) h2 ((zja w).mono h1.le) h1.rel h1.fresh).mono fun e w' ⟨v,m',v',ρ',hq,he,hv,hrel⟩=>?_
 subst hq
 have:=hv.bool_inv
 subst this
 exact⟨he,zc3 hrel,hrel.keep⟩
theorem zlw{ts vt:List TypeId}{ds gs:List (DataW H)}(h:(DataW.weightsEach P (ts ++ vt) (ds ++ gs)).all (·<=reachBytes)=true)(hv:vt=[])(hg:gs=[]):∀ n ∈ DataW.weightsEach P ts ds,n<=reachBytes:=by
 rw[hv,hg,List.append_nil,List.append_nil] at h
 intro n hn
 exact of_decide_eq_true (List.all_eq_true.1 h n hn)
theorem zl6{f:Func}{s:ChangeSpec}{W W':World}{args:Array Value}{ds gs:List (DataW H)}{before:List MemPlace}(hW:DataW.Whole enc P f.params.toList s.vars false W args.toList ds gs before)(hvars:s.vars=[])
  (hfn:s.fn H ds={ results:=[.lit (.bool true)],args:=ds }) {tb:TypeId} (hrt:f.resultTypes=#[tb]) (htb:P.underlying tb=some .bool) (hread:∀ t ∈ f.params.toList,P.readableRec t=true /\ t < P.types.size) (hlaid:laidOutB P=true)
  (hg:GrownO W W') (hkeep:∀(r:Nat) (o:Obj),W.heap[r]?=some o->W'.heap[r]?=some o):s.post enc P f false true false false W args (.bool true) W':=by
 have hW':=hW
 obtain⟨p,q,hA,hV,rfl,hfz,hnd⟩:=hW
 rw[hvars] at hV
 obtain⟨rfl,rfl⟩:=trodVars_none hV
 have hheap:∀ b,b < W.heap.size->W'.heap[b]?=W.heap[b]?:=fun b hb=>by
  rw[Array.getElem?_eq_getElem hb]
  exact hkeep b _ (Array.getElem?_eq_getElem hb)
 have hsame:∀ x ∈ p,W.sameAt W' x:=fun x hx=>by
  have hlt:=hW'.lt x (List.mem_append_left _ hx)
  cases x with
  | cell b o=>show W'.cell? _=W.cell? _;unfold World.cell?;rw[hheap b hlt]
  | map b=>exact hheap b hlt
 have hstay:∀(sp:Nat->Bool),(∀ x ∈ p,sp x.block=true)->∀(ts:List TypeId) (vs:List Value) (ds:List (DataW H)) (p':List MemPlace),(∀ t ∈ ts,P.readableRec t=true /\ t < P.types.size)->(∀ x ∈ p',x ∈ p) ->
   DataW.TrodAll enc P W 0 (fun _=>true) true ts vs ds p'->DataW.TrodAll enc P W' 0 sp true ts vs ds p':=by
  intro sp hsp ts
  induction ts with
  | nil =>
   intro vs ds p' _ _ h
   obtain⟨rfl,rfl,rfl⟩:=trodAll_nil h
   exact trodAll_mk0
  | cons t ts ih =>
   intro vs ds p' hr hp h
   obtain⟨v,vs1,d,ds1,a,b,rfl,rfl,rfl,h1,h2⟩:=trodAll_cons h
   obtain⟨r1,r2⟩:=hr t List.mem_cons_self
   exact trodAll_cons_mk (WideElems.Trod_stays hlaid r1 r2 h1 (fun x hx=>hsame x (hp x (List.mem_append_left _ hx))) (fun x hx=>hsp x (hp x (List.mem_append_left _ hx))))
    (ih vs1 ds1 b (fun t ht=>hr t (List.mem_cons_of_mem _ ht)) (fun x hx=>hp x (List.mem_append_right _ hx)) h2)
 have e:ds ++([]:List (DataW H))=ds:=List.append_nil ds
 refine zdw (pa:=p) (pv:=[]) hW' (fun b sp hd=>?_) (fun sp hsp=>?_) (fun sp hsp=>?_) rfl (World.keptBut_mono (fun _ f=>f.elim) hg.1) hg.2.1 (ok_one hrt rfl (okWide_bool_mk htb true))
 ·rw[e,hfn,hrt]
  exact trodAll_cons_mk (shut_bool htb _) trodAll_mk0
 ·rw[e,hfn]
  exact hstay sp (fun x hx=>hsp x (List.mem_append_left _ hx)) _ _ _ p hread (fun x hx=>hx) hA
 ·rw[e,hfn,hvars]
  exact rfl
end
end PvL
end
section
namespace PvL
set_option linter.unusedSectionVars false
set_option linter.unusedVariables false
open Go
section
variable {P:Program} [Orc P] {sz:Nat}
section
variable {E:Env} {M:Mem} {x:XO}
theorem zsu{r:Nat}{es:List (LV × LV)}{bs:List Nat}{clk:Nat}(hx:xval E x=some (.map (some r)))(hm:At M r (.map es bs clk)):zm P (.rng x) E M=some (.val (.ptr (some (M.next,0))) (M.push (.iter (some r) clk [] clk))):=by
 show ob (xval E x) _=_
 rw[hx,za]
 show atMap M r _=_
 unfold atMap
 rw[hm.1];rfl
theorem zpw{id mi since clk last:Nat}{seen bs:List Nat}{es:List (LV × LV)}(hx:xval E x=some (.ptr (some (id,0))))(hi:At M id (.iter (some mi) since seen last))(hm:At M mi (.map es bs clk))(hlen:bs.length=es.length)(hlt:allLt since bs=true)(hst:seen=[] ∨ es=[] ∨ anyLt last bs=true)
  (hl:leftL seen bs es=[]):zm P (.nxt x) E M=some (.val (.tup [.bool false]) M):=by
 show ob (xval E x) _=_
 rw[hx,za]
 show guard' true (atIter M id _)=_
 rw[zd]
 unfold atIter
 rw[hi.1]
 show atMap M mi _=_
 unfold atMap
 rw[hm.1]
 show guard' _ _=_
 have hg:(Nat.beq bs.length es.length && (allLt since bs && (seen.isEmpty ||(es.isEmpty || anyLt last bs))))=true:=by
  rw[hlt]
  rcases hst with h|h|h
  ·subst h;simp[hlen]
  ·subst h;simp[hlen]
  ·rw[h];simp[hlen]
 rw[hg,zd,hl];rfl
theorem zsm{id mi since clk:Nat}{seen bs:List Nat}{b:Nat}{es:List (LV × LV)}{e:LV × LV}(hx:xval E x=some (.ptr (some (id,0))))(hi:At M id (.iter (some mi) since (seen ++ [b]) clk))(hm:At M mi (.map es bs clk))(hlen:bs.length=es.length)
  (hs:stampL b bs es=some e):zm P (.ent x) E M=some (.val (.tup [e.1,e.2]) M):=by
 show ob (xval E x) _=_
 rw[hx,za]
 show guard' true (atIter M id _)=_
 rw[zd]
 unfold atIter
 rw[hi.1,za]
 show ob (some mi) (fun r=>ob (seen ++ [b]).getLast? fun b=>atMap M r fun es bs clk'=>guard' (Nat.beq bs.length es.length && Nat.beq clk' clk) (ob (stampL b bs es) fun e=>rv M (LV.tup [e.1,e.2])))=_
 rw[za]
 show ob ((seen ++ [b]).getLast?) _=_
 rw[List.getLast?_append,List.getLast?_singleton]
 show atMap M mi _=_
 unfold atMap
 rw[hm.1]
 show guard' (Nat.beq bs.length es.length && Nat.beq clk clk) _=_
 rw[show(Nat.beq bs.length es.length && Nat.beq clk clk)=true by simp[hlen],zd,hs];rfl
end
theorem znw{o:Op}{x:XO}(h:cOp P o=some (.nxt x)):False:=by
 unfold cOp at h
 split at h<;>(repeat' (first|(cases h;done)|split at h))
 all_goals (try(unfold cBin cEq at h;(repeat' (first|(cases h;done)|split at h))))
 all_goals (try(unfold cCall at h;(repeat' (first|(cases h;done)|split at h))))
theorem zkb{o:Op}{x:XO}(h:cOpA P o=some (.nxt x)):∃ x',o=.next x' false /\ cX x'=some x:=by
 unfold cOpA at h
 cases hs:cSame P o with
 | some i =>
  rw[hs] at h;cases h
  unfold cSame at hs
  repeat' (first|(cases hs;done)|split at hs)
 | none =>
  rw[hs] at h
  have key:cOp P o=some (.nxt x) ∨ cOpX P o=some (.nxt x):=by
   simp only at h
   split at h
   ·split at h
    ·split at h
     ·cases h
     ·exact .inl h
    ·exact .inl h
   ·split at h
    ·rename_i i hi;cases h;exact .inl hi
    ·exact .inr h
  rcases key with h|h
  ·exact(znw h).elim
  ·cases o with
   | next x' b =>
    cases b with
    | true=>cases h
    | false =>
     simp only[cOpX] at h
     split at h
     ·rename_i a ha;cases h;exact⟨x',rfl,ha⟩
     ·cases h
   | convert|range|entry|panic =>
    simp only[cOpX] at h
    repeat' (first|(cases h;done)|split at h)
   | _=>cases h
theorem zpr{E:Env}{M:Mem}{x:XO}{K:Env->Mem->Prop}{l:List XG}{d:Nat}{g:Option (Nat × Bool)}{id mi since clk last:Nat}{seen bs:List Nat}{es:List (LV × LV)}(hg:GOn E g)(hx:xval E x=some (.ptr (some (id,0))))(hi:At M id (.iter (some mi) since seen last))(hm:At M mi (.map es bs clk))(hlt:allLt since bs=true)(hst:seen=[] ∨ es=[] ∨ anyLt last bs=true)
  (hne:leftL seen bs es ≠ []) (hk:∀ b kk v,(b,kk,v) ∈ leftL seen bs es->∀ M',Upd M id (.iter (some mi) since (seen ++ [b]) clk) M'->M'.next=M.next->At M' id (.iter (some mi) since (seen ++ [b]) clk)->XW .gen P sz l ((d,.tup [.bool true,kk,v]) :: E) M' K):XW .gen P sz (⟨some d,.nxt x,g⟩ :: l) E M K:=by
 intro ops os j T ro ms hos hc he hO
 obtain⟨o,os',rfl,h1,h2⟩:=z21 hc
 obtain⟨h3,h4,h5,h6⟩:=z20 h1
 obtain⟨ho,hos'⟩:=zf1 hos
 obtain⟨x',hop,hx'⟩:=zkb h4
 obtain⟨dst,op,ty,pos,af,gd⟩:=o
 have h3:dst=some d:=h3
 have hop:op=.next x' false:=hop
 subst h3 hop
 refine ziv ho (z26 h5 he hg) (z03 he hx' hx) hi.1 hm.1 hlt hst hne fun b kk v hmem=>?_
 obtain⟨T1,hT1,he1⟩:=he.put h6 (.tup [.bool true,kk,v])
 exact⟨T1,hT1,hk b kk v hmem _ ⟨rfl⟩ (Mem.next_upd _ _ _) (At.upd_same ⟨rfl⟩ hi) ops os' (j+1) T1 ro ms hos' h2 he1 hO⟩
theorem ze6{E:Env}{M:Mem}{K:Env->Mem->Prop}{l:List XG}{d:Nat}{g:Option (Nat × Bool)}{f:XO}{as:List XO}{gf:FuncId}{fi ca vs:List LV}{Q:LV->Mem->Prop}(hg:GOn E g)(hf:xval E f=some (.func (.func gf) fi ca))(has:z14 E as=some vs)(h:CallN P gf (fi ++ vs ++ ca) M Q)
  (hk:∀ v M',Q v M'->XW .gen P sz l ((d,v) :: E) M' K):XW .gen P sz (⟨some d,.call f as,g⟩ :: l) E M K:=zmq hg hf has h hk
theorem zpn{fn:FuncId}{E:Env}{ms:List Dfr}{M:Mem}{K:Ex->Env->List Dfr->Mem->Prop}{f:XO}{ps:List Tmp}{a b:XC}{gf:FuncId}{fi ca:List LV}(hf:xval E f=some (.func (.func gf) fi ca))(hfn:∃ fd,fnOf P gf=some fd)
  (h:∀ lb d l M1 M2,LoopSt P fn sz E ps a b lb->New M d .defr M1->d=M.next->M1.next=M.next+1->New M1 l (lb .ready none) M2->l=M1.next->M2.next=M1.next+1 ->
   CallN P gf (fi ++ [.func (.yield l) [] []] ++ ca) M2 (KIter l lb E (.mark d :: ms) K)):W .gen P fn none sz (.rfun f ps a b) E ms M K:=by
 intro code T hc he hO
 obtain⟨f',ps',a',b',rfl,h1,h2,h3,h4,h5⟩:=z9i hc
 subst h2
 have hlb:LoopSt P fn sz E ps'.toList a b (fun st pend=>.loop st pend fn T ps'.toList a' b' M.next):=⟨T,a',b',M.next,he,h3,h4,h5,rfl⟩
 have hc2:=h _ M.next (M.next+1) (M.push .defr) ((M.push .defr).push (.loop .ready none fn T ps'.toList a' b' M.next)) hlb ⟨rfl,rfl⟩ rfl rfl ⟨rfl,rfl⟩ rfl rfl
 refine z7v hO (z03 he h1 hf) hfn (hc2.2 hO) fun v m' hq=>?_
 obtain⟨e,T',ms',M',g1,E',g2,g3⟩:=zng (P:=P) (fn:=fn) (ro:=none) (l:=M.next+1) (fun _ _=>rfl) he hq
 exact⟨_,g1,E',g2,g3⟩
