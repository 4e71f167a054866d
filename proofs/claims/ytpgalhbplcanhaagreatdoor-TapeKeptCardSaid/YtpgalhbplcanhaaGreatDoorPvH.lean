/-
 Arguments of plain types laid into the interpreter's memory;a law's row from its walk. No condition.
-/
import Derived.Test.YtpgalhbplcanhaaGreatDoorPvG
import Derived.Deep.Slices
import Derived.DataShut
import Derived.OpenShut
import Derived.Test.YtpgalhbplcanhaaGreatDoorPvE
import Derived.WideKeyArgs
import Derived.Deep.Frames
import Derived.Handed
import Derived.RowKit3
import Derived.SizedLaws
set_option linter.unusedVariables false
section
namespace PvL
open Go Go.ChangeShapes
variable {n b fuel:Nat} {e:TypeId} {cs:List Value}
inductive Sh where
 | int (k:IntKind)|bool|str|unit
 | sl (e:Sh) (b:Nat)
 | pair (a b:Sh)
abbrev Sh.T:Sh->Type
 | .int _=>Int
 | .bool=>Bool
 | .str=>ByteArray
 | .unit=>Unit
 | .sl e _=>List e.T
 | .pair a b=>a.T×b.T
def Sh.size:Sh->Nat
 | .unit=>0
 | .pair a b=>a.size+b.size
 | _=>1
def Enc (m:Mem):(s:Sh)->s.T->List LV->Prop
 | .int k,x,cs=>cs=[.int k x]/\k.min<=x/\x<=k.max
 | .bool,b,cs=>cs=[.bool b]
 | .str,s,cs=>cs=[.str s]/\s.size<=reachBytes
 | .unit,_,cs=>cs=[]
 | .sl e b,l,cs=>∃ a f,cs=[.slice a l.length f e.size]/\(l.length<=reachBytes/\l.length*b<=reachBytes)/\(l≠[]->∃ i o,a=some (i,o)/\i<m.next/\(∃ own c ty,m.get i=some (.cells own c ty)/\o+l.length*e.size<=c.length) /\
   ∀(k:Nat) (g:k<l.length),∃ c,loadN m i (o+k*e.size) e.size=some c/\Enc m e l[k] c)
 | .pair a b,x,cs=>∃ c d,cs=c++d/\Enc m a x.1 c/\Enc m b x.2 d
theorem Enc.length {m:Mem}:∀ {s:Sh} {x:s.T} {cs:List LV},Enc m s x cs->cs.length=s.size
 | .int k,_,_,h=>by rw[h.1];rfl
 | .bool,_,_,h=>by rw[h];rfl
 | .str,_,_,h=>by rw[h.1];rfl
 | .unit,_,_,h=>by rw[h];rfl
 | .sl e _,_,_,h=>by obtain⟨a,f,h,_⟩:=h;rw[h];rfl
 | .pair a b,_,_,h=>by obtain⟨c,d,h,g,i⟩:=h;rw[h,List.length_append,g.length,i.length];rfl
structure Ext (m m':Mem):Prop where
 le:m.next<=m'.next
 get:∀ i lb,m.get i=some lb->m'.get i=some lb
theorem Ext.refl (m:Mem):Ext m m:=⟨Nat.le_refl _,fun _ _ h=>h⟩
theorem Ext.trans {a b c:Mem}(h:Ext a b)(d:Ext b c):Ext a c:=⟨Nat.le_trans h.le d.le,fun i f e=>d.get i f (h.get i f e)⟩
theorem Ext.loadN {m a:Mem}(h:Ext m a){i o:Nat}{l:List LV}(e:loadN m i o n=some l):PvL.loadN a i o n=some l:=by
 unfold PvL.loadN atCells at e ⊢
 obtain⟨f,c,d⟩:=z9.1 e
 rw[h.get i f c];exact d
theorem Enc.ext {m q:Mem}(g:Ext m q):∀ {s:Sh} {x:s.T} {cs:List LV},Enc m s x cs->Enc q s x cs
 | .int k,_,_,h=>h
 | .bool,_,_,h=>h
 | .str,_,_,h=>h
 | .unit,_,_,h=>h
 | .sl e _,l,_,h=>by
  obtain⟨a,f,h1,p,r⟩:=h
  refine⟨a,f,h1,p,fun B=>?_⟩
  obtain⟨i,o,t,h5,⟨own,c,C,u,v⟩,y⟩:=r B
  refine⟨i,o,t,Nat.lt_of_lt_of_le h5 g.le,⟨own,c,C,g.get _ _ u,v⟩,fun k A=>?_⟩
  obtain⟨c,z,j⟩:=y k A
  exact⟨c,g.loadN z,j.ext g⟩
 | .pair a b,_,_,h=>by obtain⟨c,d,h,h1,p⟩:=h;exact⟨c,d,h,h1.ext g,p.ext g⟩
theorem Ext.of_grow {m a:Mem}(h:Grow m a)(c:∀ i lb,m.get i=some lb->i<m.next):Ext m a:=⟨h.le,fun i lb e=>by rw[h.old i (c i lb e)];exact e⟩
section
variable (P:Program)
def shFs (rec:TypeId->Option Sh):List Field->Nat->Option Sh
 | [],_=>some .unit
 | f::fs,off=>match rec f.type with
  | none=>none
  | some s=>if Nat.beq f.offset off&&Nat.beq (P.cellsOf f.type) s.size then(match fs with
   | []=>some s
   | _=>match shFs rec fs (off+s.size) with|some r=>some (.pair s r)|none=>none) else none
def shRep (s:Sh):Nat->Sh
 | 0=>.unit
 | 1=>s
 | n+2=>.pair s (shRep s (n+1))
def shOf:Nat->TypeId->Option Sh
 | 0,_=>none
 | n+1,t=>match P.underlying t with
  | some (.int k)=>some (.int k)
  | some .bool=>some .bool
  | some .string=>some .str
  | some (.slice e)=>match shOf n e with|some s=>if Nat.beq (P.cellsOf e) s.size&&(Nat.ble 1 s.size&&Nat.ble 1 (P.bytesOf e)) then some (.sl s (P.bytesOf e)) else none|none=>none
  | some (.struct fs)=>shFs P (shOf n) fs.toList 0
  | some (.array k e)=>match shOf n e with|some s=>if Nat.beq (P.cellsOf e) s.size then some (shRep s k) else none|none=>none
  | _=>none
end
section
variable {P:Program} {H:Type} {enc:TypeId × Value->H} {w:World}
structure Laid (w:World) (m:Mem) (ρ:Rho) (m':Mem) (ρ':Rho):Prop where
 ext:Ext m m'
 le:RLe ρ ρ'
 rel:Rel (.old w) ρ' m' w
 fresh:∀ i,m'.next<=i->ρ' i=none
theorem Laid.trans {m f g:Mem}{ρ a c:Rho}(h:Laid w m ρ f a)(d:Laid w f a g c):Laid w m ρ g c:=⟨h.ext.trans d.ext,h.le.trans d.le,d.rel,d.fresh⟩
def CanLay (P:Program)(enc:TypeId×Value->H)(w:World)(t:TypeId)(s:Sh):Prop :=
 ∀(fuel:Nat) (cs:List Value) (x:DataW H×List MemPlace),DataW.trod enc P w 0 (fun _=>true) true fuel t cs=some x->(∀ n∈x.1.weights P t,n<=reachBytes) ->
  ∀(m:Mem) (d:Rho),Rel (.old w) d m w->(∀ i,m.next<=i->d i=none)->∃(f:Mem) (c:Rho) (y:s.T) (a:List LV),Laid w m d f c/\VRs c a cs/\Enc f s y a
theorem VRs.mono' {ρ a:Rho}(c:RLe ρ a){v:List LV}{v':List Value}(h:VRs ρ v v'):VRs a v v':=VRs.mono c h
theorem zvj {m:Mem}{ρ:Rho}(h:Rel (.old w) ρ m w)(hf:ρ m.next=none){cs:List LV}{ty:TypeId}{C:Array Value}{fr:Nat×Nat}{s:Nat}(d:w.heap[b]?=some (.cells C e fr))(K:CellsR ρ cs C s):Rel (.old w) (upd1 ρ m.next (b,s,C.size)) (m.push (.cells false cs ty)) w:=by
 have c:=RLe.upd1 (ρ:=ρ) (i:=m.next) (x:=(b,s,C.size)) hf
 refine⟨h.keep,fun i p a=>?_,fun i j p g x y a f z A B D L=>?_,h.still⟩
 ·rw[Mem.get_push] at a
  by_cases q:i=m.next
  ·rw[if_pos q] at a;cases a
   refine⟨by show i<m.next+1;omega,b,s,C.size,_,by unfold upd1;rw[if_pos q],⟨C,e,fr,rfl,(fun d=>nomatch d),rfl,K.mono c⟩,d,?_⟩
   rw[if_pos (by rfl)]
   refine⟨d,?_⟩
   show w.heap[b]? ≠ none
   rw[d];exact fun d=>nomatch d
  ·rw[if_neg q] at a
   obtain⟨N,r,J,t,G,o,O,Q,R⟩:=h.live i p a
   exact⟨Nat.lt_succ_of_lt N,r,J,t,G,c _ _ o,O.mono c,Q,R⟩
 ·rw[Mem.get_push] at a f
  by_cases u:i=m.next
  ·rw[if_pos u] at a;cases a;cases z
  ·by_cases v:j=m.next
   ·rw[if_pos v] at f;cases f;cases A
   ·rw[if_neg u] at a;rw[if_neg v] at f
    obtain⟨_,r,J,t,G,o,_⟩:=h.live i p a
    obtain⟨_,S,X,U,V,F,_⟩:=h.live j g f
    rw[c _ _ o] at B;rw[c _ _ F] at D;cases B;cases D
    exact h.inj i j p g _ _ a f z A o F L
theorem zo0 {m:Mem}(a:∀ i lb,m.get i=some lb->i<m.next)(lb:LB):Ext m (m.push lb):=⟨by show m.next<=m.next+1;omega,fun i l h=>by rw[Mem.get_push,if_neg (by have:=a i l h;omega)];exact h⟩
theorem z3e {α d:Type}{f:α->Option d}{a:α}{l:List α}{r:List d}(h:(a::l).mapM f=some r):∃ b c,f a=some b/\l.mapM f=some c/\r=b::c:=by
 rw[List.mapM_cons] at h
 obtain⟨b,g,i⟩:=Option.bind_eq_some_iff.1 h
 obtain⟨c,j,m⟩:=Option.bind_eq_some_iff.1 i
 cases m
 exact⟨b,c,g,j,rfl⟩
theorem zb2 {c:TypeId->Option Sh}(d:∀ t s,c t=some s->P.cellsOf t=s.size->CanLay P enc w t s):∀(fs:List Field) (off:Nat) (s:Sh),shFs P c fs off=some s ->
  ∀(xs:List (DataW H×List MemPlace)),(fs.mapM fun f=>DataW.trod enc P w 0 (fun _=>true) true fuel f.type ((cs.drop f.offset).take (P.cellsOf f.type)))=some xs->(∀ n∈DataW.weightsEach P (fs.map (·.type)) (xs.map (·.1)),n<=reachBytes)->off+s.size<=cs.length ->
  ∀(m:Mem) (ρ:Rho),Rel (.old w) ρ m w->(∀ i,m.next<=i->ρ i=none)->∃(Y:Mem) (p:Rho) (y:s.T) (j:List LV),Laid w m ρ Y p/\VRs p j ((cs.drop off).take s.size)/\Enc Y s y j
 | [],off,s,a,xs,U,_,C,m,ρ,F,hf=>by
  cases a
  exact⟨m,ρ,(),[],⟨Ext.refl _,RLe.refl _,F,hf⟩,by rw[show Sh.unit.size=0 from rfl,List.take_zero];exact .nil,rfl⟩
 | f::fs,off,s,a,xs,U,S,C,m,ρ,F,hf=>by
  obtain⟨N,o,h1,h2,rfl⟩:=z3e U
  have G:∀ n∈N.1.weights P f.type,n<=reachBytes:=fun n D=>S n (by show n∈N.1.weights P f.type++_;exact List.mem_append_left _ D)
  have J:∀ n∈DataW.weightsEach P (fs.map (·.type)) (o.map (·.1)),n<=reachBytes:=fun n D=>S n (by show n∈N.1.weights P f.type++_;exact List.mem_append_right _ D)
  unfold shFs at a
  cases A:c f.type with
  | none=>rw[A] at a;cases a
  | some g=>
   rw[A] at a
   simp only at a
   split at a
   ·rename_i R
    simp only[Bool.and_eq_true,Nat.beq_eq] at R
    obtain⟨g1,Q⟩:=R
    rw[g1,Q] at h1
    obtain⟨Z,q,y0,z,v,V,X⟩:=d _ _ A Q _ _ _ h1 G m ρ F hf
    cases fs with
    | nil=>cases a;exact⟨Z,q,y0,z,v,V,X⟩
    | cons O h=>
     simp only at a
     cases B:shFs P c (O::h) (off+g.size) with
     | none=>rw[B] at a;cases a
     | some r=>
      rw[B] at a
      cases a
      have C:off+(g.size+r.size)<=cs.length:=C
      obtain⟨m2,u,y1,L,K,j2,j3⟩:=zb2 d (O::h) (off+g.size) r B o h2 J (by omega) Z q v.rel v.fresh
      refine⟨m2,u,(y0,y1),z++L,v.trans K,?_,z,L,rfl,X.ext K.ext,j3⟩
      have e:(cs.drop off).take (g.size+r.size)=(cs.drop off).take g.size ++(cs.drop (off+g.size)).take r.size:=by
       rw[List.take_add,List.drop_drop]
      show VRs u (z++L) ((cs.drop off).take (g.size+r.size))
      rw[e]
      exact(V.mono' K.le).append j2
   ·cases a
theorem zl8 {s:Sh}(a:CanLay P enc w e s):∀(n j:Nat) (xs:List (DataW H×List MemPlace)),
  ((List.range' j n).mapM fun i=>DataW.trod enc P w 0 (fun _=>true) true fuel e ((cs.drop (i*s.size)).take s.size))=some xs->(∀ n∈DataW.weightsAll P e (xs.map (·.1)),n<=reachBytes)->(j+n)*s.size<=cs.length ->
  ∀(m:Mem) (ρ:Rho),Rel (.old w) ρ m w->(∀ i,m.next<=i->ρ i=none)->∃(K:Mem) (p:Rho) (y:(shRep s n).T) (h:List LV),Laid w m ρ K p/\VRs p h ((cs.drop (j*s.size)).take (n*s.size))/\Enc K (shRep s n) y h
 | 0,j,xs,r,_,v,m,ρ,f,hf=>⟨m,ρ,(),[],⟨Ext.refl _,RLe.refl _,f,hf⟩,by rw[Nat.zero_mul,List.take_zero];exact .nil,rfl⟩
 | 1,j,xs,r,q,v,m,ρ,f,hf=>by
  obtain⟨u,o,h1,G,rfl⟩:=z3e (show((j::List.range' (j+1) 0).mapM _)=some xs from r)
  obtain⟨C,c,D,t,g,A,B⟩:=a _ _ _ h1 (fun n d=>q n (by show n∈u.1.weights P e++_;exact List.mem_append_left _ d)) m ρ f hf
  exact⟨C,c,D,t,g,by rw[Nat.one_mul];exact A,B⟩
 | n+2,j,xs,r,q,v,m,ρ,f,hf=>by
  obtain⟨u,o,h1,G,rfl⟩:=z3e (show((j::List.range' (j+1) (n+1)).mapM _)=some xs from r)
  obtain⟨C,c,D,t,g,A,B⟩:=a _ _ _ h1 (fun n d=>q n (by show n∈u.1.weights P e++_;exact List.mem_append_left _ d)) m ρ f hf
  obtain⟨O,F,Q,J,z,L,N⟩:=zl8 a (n+1) (j+1) o G (fun n d=>q n (by show n∈u.1.weights P e++_;exact List.mem_append_right _ d)) (by rw[show j+1+(n+1)=j+(n+2) by omega];exact v) C c g.rel g.fresh
  refine⟨O,F,(D,Q),t++J,g.trans z,?_,t,J,rfl,B.ext z.ext,N⟩
  have e:(cs.drop (j*s.size)).take ((n+2)*s.size)=(cs.drop (j*s.size)).take s.size ++(cs.drop ((j+1)*s.size)).take ((n+1)*s.size):=by
   rw[show(n+2)*s.size=s.size+(n+1)*s.size by rw[show n+2=(n+1)+1 by omega,Nat.add_mul (n+1) 1,Nat.one_mul,Nat.add_comm],List.take_add,List.drop_drop,Nat.add_mul j 1,Nat.one_mul]
  rw[e]
  exact(A.mono' z.le).append L
theorem zde {a:Addr}{vs:List Value}(h:w.cells? b a n=some vs):vs.length=n /\ ∀ i,i<n->w.cell? (a.add i)=vs[i]?:=by
 unfold World.cells? at h
 split at h
 ·refine⟨by simpa using mapM_some_length h,fun i c=>?_⟩
  exact mapM_some_get h i i (by simp[c])
 ·cases h
theorem z5p {d:DataW H}:∀ {l:List (DataW H)},d∈l->∀ {q:Nat},q∈d.weights P e->q∈DataW.weightsAll P e l
 | a::l,h,q,c=>by
  show q∈a.weights P e++DataW.weightsAll P e l
  rcases List.mem_cons.1 h with rfl|h
  ·exact List.mem_append_left _ c
  ·exact List.mem_append_right _ (z5p h c)
theorem zdw {s:Sh}(d:CanLay P enc w e s)(cells:Nat->List Value)(D:Nat->DataW H×List MemPlace)(c:∀ i,i<n->∃ fuel,DataW.trod enc P w 0 (fun _=>true) true fuel e (cells i)=some (D i))(h:∀ i,i<n->(cells i).length=s.size) :
  ∀(k:Nat),k<=n->(∀ i,i<k->∀ q∈(D i).1.weights P e,q<=reachBytes)->∀(m:Mem) (ρ:Rho),Rel (.old w) ρ m w->(∀ i,m.next<=i->ρ i=none) ->
  ∃(G:Mem) (o:Rho) (l:List s.T) (a:List LV),Laid w m ρ G o/\l.length=k/\a.length=k*s.size/\VRs o a ((List.range k).flatMap cells) /\ ∀(j:Nat) (p:j<l.length),Enc G s l[j] ((a.drop (j*s.size)).take s.size)
 | 0,_,_,m,ρ,u,hf=>⟨m,ρ,[],[],⟨Ext.refl _,RLe.refl _,u,hf⟩,rfl,by simp,.nil,fun j p=>absurd p (Nat.not_lt_zero _)⟩
 | k+1,S,F,m,ρ,u,hf=>by
  obtain⟨N,A,l,a,h1,C,t,J,h5⟩:=zdw d cells D c h k (by omega) (fun i R=>F i (by omega)) m ρ u hf
  obtain⟨fuel,K⟩:=c k (by omega)
  obtain⟨O,B,y,r,v,L,z⟩:=d _ _ _ K (F k (by omega)) N A h1.rel h1.fresh
  refine⟨O,B,l++[y],a++r,h1.trans v,by simp[C],by rw[List.length_append,t,z.length,Nat.add_mul,Nat.one_mul],?_,fun j p=>?_⟩
  ·rw[List.range_succ,List.flatMap_append]
   refine(J.mono' v.le).append ?_
   simpa using L
  ·by_cases f:j<k
   ·have g:j<l.length:=by omega
    rw[List.getElem_append_left g]
    have e:((a++r).drop (j*s.size)).take s.size=(a.drop (j*s.size)).take s.size:=by
     have Q:j*s.size+s.size<=a.length:=by rw[t];have:(j+1)*s.size<=k*s.size:=Nat.mul_le_mul_right _ f;rw[Nat.add_mul,Nat.one_mul] at this;exact this
     rw[List.drop_append_of_le_length (by omega),List.take_append_of_le_length (by rw[List.length_drop];omega)]
    rw[e]
    exact(h5 j g).ext v.ext
   ·have f:j=k:=by simp at p;omega
    subst f
    rw[List.getElem_append_right (by omega)]
    have e:((a++r).drop (j*s.size)).take s.size=r:=by
     rw[List.drop_append,t,Nat.sub_self,List.drop_of_length_le (by omega),List.nil_append,List.drop_zero,List.take_of_length_le (by rw[z.length];exact Nat.le_refl _)]
    rw[e]
    simpa [C] using z
theorem zmh {g:Nat->Option (DataW H×List MemPlace)}{xs:List (DataW H×List MemPlace)}(d:xs.length=n)(h:∀ i,i<n->g i=xs[i]?):(List.range n).mapM g=some xs:=by
 refine mapM_some_of_get _ _ (by simpa using d) fun i x c=>?_
 have a:i<n:=by have:=(List.getElem?_eq_some_iff.1 c).1;simpa using this
 rw[List.getElem?_range a] at c
 cases c
 exact h i a
theorem zby:∀(n:Nat) (t:TypeId) (s:Sh),shOf P n t=some s->P.cellsOf t=s.size->CanLay P enc w t s
 | 0,_,_,h,_=>nomatch h
 | n+1,t,s,h,c3=>by
  unfold shOf at h
  split at h
  ·rename_i k F
   cases h
   intro fuel cs x R U m ρ G hf
   obtain⟨i,rfl,rfl,a9⟩:=DataW.trod_int F R
   simp only[Lit.wf,Bool.and_eq_true,decide_eq_true_eq] at a9
   exact⟨m,ρ,i,[.int k i],⟨Ext.refl _,RLe.refl _,G,hf⟩,.cons (.int k i) .nil,rfl,a9⟩
  ·rename_i F
   cases h
   intro fuel cs x R U m ρ G hf
   obtain⟨b,rfl,rfl⟩:=DataW.trod_bool F R
   exact⟨m,ρ,b,[.bool b],⟨Ext.refl _,RLe.refl _,G,hf⟩,.cons (.bool b) .nil,rfl⟩
  ·rename_i F
   cases h
   intro fuel cs x R U m ρ G hf
   obtain⟨b,rfl,rfl,hs⟩:=DataW.trod_string F R
   exact⟨m,ρ,b,[.str b],⟨Ext.refl _,RLe.refl _,G,hf⟩,.cons (.str b) .nil,rfl,by have:=U b.data.toList.length (by show _∈[_];exact List.mem_singleton.2 rfl);rw[Array.length_toList] at this;exact this⟩
  ·rename_i e F
   split at h
   ·rename_i c a1
    split at h
    ·rename_i hg
     simp only[Bool.and_eq_true,Nat.beq_eq,Nat.ble_eq] at hg
     obtain⟨g1,g2,b3⟩:=hg
     cases h
     have ih:=zby n e c a1 g1
     intro fuel cs x R U m ρ G hf
     rcases Deep.open_slice F R with⟨rfl,rfl⟩|⟨a,len,cap,M,K,D,Pl,rfl,_,a0,c2,hM,rfl,A⟩
     ·exact⟨m,ρ,[],[.slice none 0 true c.size],⟨Ext.refl _,RLe.refl _,G,hf⟩,.cons (.sliceNil _ _) .nil,none,true,rfl,⟨Nat.zero_le _,by rw[List.length_nil,Nat.zero_mul];exact Nat.zero_le _⟩,fun h=>absurd rfl h⟩
     ·have hM:M=cap:=by rw[hM];rfl
      subst hM
      have b0:(len+(M-len))*P.bytesOf e<=reachBytes /\ ∀ i,i<len->∀ q∈(D i).weights P e,q<=reachBytes:=by
       have A:∀ q∈(DataW.slice ((List.range len).map D) ((List.range (M-len)).map fun j=>D (len+j))).weights P t,q<=reachBytes:=U
       have he:(DataW.slice ((List.range len).map D) ((List.range (M-len)).map fun j=>D (len+j))).weights P t=(((List.range len).map D).length+((List.range (M-len)).map fun j=>D (len+j)).length)*P.bytesOf e ::(DataW.weightsAll P e ((List.range len).map D)++DataW.weightsAll P e ((List.range (M-len)).map fun j=>D (len+j))):=by
        unfold DataW.weights;rw[F]
       rw[he] at A
       refine⟨?_,fun i d q u=>A q (List.mem_cons_of_mem _ (List.mem_append_left _ (z5p (List.mem_map.2 ⟨i,List.mem_range.2 d,rfl⟩) u)))⟩
       have:=A _ List.mem_cons_self
       rw[List.length_map,List.length_map,List.length_range,List.length_range] at this
       exact this
      have b5:len<=reachBytes/\len*P.bytesOf e<=reachBytes:=by
       have:=b0.1
       have J:len*1<=(len+(M-len))*P.bytesOf e:=Nat.mul_le_mul (by omega) b3
       have L:len*P.bytesOf e<=(len+(M-len))*P.bytesOf e:=Nat.mul_le_mul (by omega) (Nat.le_refl _)
       exact⟨by omega,Nat.le_trans L this⟩
      by_cases h0:M=0
      ·subst h0
       obtain rfl:len=0:=by omega
       exact⟨m,ρ,[],[.slice (some (m.next,0)) 0 true c.size],⟨Ext.refl _,RLe.refl _,G,hf⟩,.cons .sliceZ .nil,_,true,rfl,⟨Nat.zero_le _,by rw[List.length_nil,Nat.zero_mul];exact Nat.zero_le _⟩,fun h=>absurd rfl h⟩
      · -- the cells of each element
       have hc:∀ i,i<M->∃ S,w.cells? 0 (a.add (i*c.size)) c.size=some S/\DataW.trod enc P w 0 (fun _=>true) true K e S=some (D i,Pl i):=fun i d=>by
        have:=A i d
        rw[g1] at this
        exact this
       let cells:Nat->List Value:=fun i=>(w.cells? 0 (a.add (i*c.size)) c.size).getD []
       have r:∀ i,i<M->w.cells? 0 (a.add (i*c.size)) c.size=some (cells i):=fun i d=>by
        obtain⟨S,J,_⟩:=hc i d
        show _=some ((w.cells? 0 (a.add (i*c.size)) c.size).getD [])
        rw[J];rfl
       have B:∀ i,i<M->(cells i).length=c.size:=fun i d=>(zde (r i d)).1
       obtain⟨m1,b2,l,p,J,L,Y,h4,h5⟩:=zdw ih cells (fun i=>(D i,Pl i)) (n:=M) (fun i d=>by
        obtain⟨S,k1,k2⟩:=hc i d
        rw[r i d] at k1
        cases k1
        exact⟨K,k2⟩) B len a0 b0.2 m ρ G hf
       have N:∀ i j,i<M->j<c.size->w.cell? (a.add (i*c.size+j))=(cells i)[j]?:=fun i j d hj=>by
        have:=(zde (r i d)).2 j hj
        rw[Deep.add_add] at this
        exact this
       have Q:∀ q,q<M*c.size->∃ v,w.cell? (a.add q)=some v:=fun q u=>by
        have d:q/c.size<M:=Nat.div_lt_of_lt_mul (by rw[Nat.mul_comm];exact u)
        have hj:q%c.size<c.size:=Nat.mod_lt _ g2
        have:=N (q/c.size) (q%c.size) d hj
        rw[Nat.mul_comm,Nat.div_add_mod] at this
        rw[this,List.getElem?_eq_getElem (by rw[B _ d];exact hj)]
        exact⟨_,rfl⟩
       have a6:0<M*c.size:=Nat.mul_pos (by omega) (by omega)
       obtain⟨v0,z⟩:=Q 0 a6
       rw[show a.add 0=a by unfold Addr.add;rw[if_pos rfl]] at z
       obtain⟨b,off,sp⟩:=a
       unfold World.cell? at z
       simp only at z
       cases hb:w.heap[b]? with
       | none=>rw[hb] at z;cases z
       | some o=>
        rw[hb] at z
        cases o with
        | cells C ty fr=>
         simp only at z
         have b8:sp=none:=by
          cases sp with
          | none=>rfl
          | some q=>simp at z
         subst b8
         have a4:∀ q,(Addr.mk b off none).add q=⟨b,off+q,none⟩:=fun q=>by
          unfold Addr.add
          by_cases u:q=0
          ·rw[if_pos u,u];rfl
          ·rw[if_neg u]
         have hC:∀ q,w.cell? ((Addr.mk b off none).add q)=C[off+q]?:=fun q=>by
          rw[a4,z72 hb]
         have c0:off+M*c.size<=C.size:=by
          obtain⟨v,hv⟩:=Q (M*c.size-1) (by omega)
          rw[hC] at hv
          have:=(Array.getElem?_eq_some_iff.1 hv).1
          omega
         have X:p.length=((List.range len).flatMap cells).length:=h4.length
         have Z:∀(k:Nat),k<=M->∀ q,q<k*c.size->((List.range k).flatMap cells)[q]?=C[off+q]?:=by
          intro k
          induction k with
          | zero=>intro _ q u;rw[Nat.zero_mul] at u;exact absurd u (Nat.not_lt_zero _)
          | succ k b1=>
           intro hk q u
           have hl:((List.range k).flatMap cells).length=k*c.size:=by
            clear b1 u
            induction k with
            | zero=>simp
            | succ k b9=>rw[List.range_succ,List.flatMap_append,List.length_append,b9 (by omega)];simp[B k (by omega),Nat.add_mul]
           rw[List.range_succ,List.flatMap_append]
           by_cases b7:q<k*c.size
           ·rw[List.getElem?_append_left (by omega)];exact b1 (by omega) q b7
           ·rw[List.getElem?_append_right (by omega),hl]
            rw[Nat.add_mul,Nat.one_mul] at u
            have:=N k (q-k*c.size) (by omega) (by omega)
            rw[show k*c.size+(q-k*c.size)=q by omega,hC] at this
            simpa using this.symm
         have b4:CellsR b2 p C off:=fun q v hv=>by
          obtain⟨v',k1,k2⟩:=h4.get hv
          have u:q<len*c.size:=by rw[<-Y];exact(List.getElem?_eq_some_iff.1 hv).1
          rw[Z len a0 q u] at k1
          exact⟨v',k1,k2⟩
         have a5:b2 m1.next=none:=J.fresh _ (Nat.le_refl _)
         have b6:∀ i lb,m1.get i=some lb->i<m1.next:=fun i lb d=>(J.rel.live i lb d).1
         have V:=zo0 b6 (.cells false p 0)
         have a7:=zvj J.rel a5 hb b4 (ty:=0)
         refine⟨_,_,l,[.slice (some (m1.next,0)) len false c.size],J.trans ⟨V,RLe.upd1 a5,a7,fun i d=>?_⟩,.cons ?_ .nil,_,false,by rw[L],by rw[L];exact b5,fun _=>?_⟩
         ·have d:m1.next+1<=i:=d
          unfold upd1
          rw[if_neg (by omega)]
          exact J.fresh i (by omega)
         ·exact .slice (s:=off) (o:=0) (z09 _ _ _) a0 (fun hh=>by cases hh) (by omega)
         ·refine⟨m1.next,0,rfl,Nat.lt_succ_self _,⟨false,p,0,by rw[Mem.get_push,if_pos rfl],by rw[Y,L];omega⟩,fun k hk=>?_⟩
          refine⟨(p.drop (k*c.size)).take c.size,?_,(h5 k hk).ext V⟩
          unfold loadN atCells
          rw[Mem.get_push,if_pos rfl,z8]
          have c1:k*c.size+c.size<=p.length:=by
           rw[Y]
           have:(k+1)*c.size<=len*c.size:=Nat.mul_le_mul_right _ (by omega)
           rw[Nat.add_mul,Nat.one_mul] at this;exact this
          exact z2p.2 ⟨by rw[z1r,List.length_drop];omega,by rw[z1r,Nat.zero_add]⟩
        | _=>cases z
    ·cases h
   ·cases h
  ·rename_i fs F
   intro fuel cs x R U m ρ G hf
   obtain⟨xs,n',rfl,rfl,hl,a2,O⟩:=DataW.trod_struct F R
   have X:0+s.size<=cs.length:=by omega
   have hm:(fs.toList.mapM fun f=>DataW.trod enc P w 0 (fun _=>true) true n' f.type ((cs.drop f.offset).take (P.cellsOf f.type)))=some xs :=
    mapM_some_of_get _ _ (by simpa using a2) fun i f d=>O i f (by simpa using d)
   obtain⟨m',a3,y,p,J,L,Y⟩:=zb2 (fun t s h h'=>zby n t s h h') fs.toList 0 s h xs hm (fun q u=>U q (by unfold DataW.weights;rw[F];exact u)) X m ρ G hf
   refine⟨m',a3,y,p,J,?_,Y⟩
   rw[List.drop_zero,List.take_of_length_le (by omega)] at L
   exact L
  ·rename_i k e F
   split at h
   ·rename_i c a1
    split at h
    ·rename_i hg
     rw[Nat.beq_eq] at hg
     cases h
     intro fuel cs x R U m ρ G hf
     obtain⟨xs,n',rfl,rfl,hl,a2,O⟩:=DataW.trod_array F R
     have a8:∀ k,(shRep c k).size=k*c.size:=by
      intro k
      induction k with
      | zero=>rw[Nat.zero_mul];rfl
      | succ k ih=>
       cases k with
       | zero=>rw[Nat.one_mul];rfl
       | succ k=>show c.size+(shRep c (k+1)).size=_;rw[ih,Nat.add_mul (k+1) 1,Nat.one_mul,Nat.add_comm]
     have hm:=zmh (g:=fun i=>DataW.trod enc P w 0 (fun _=>true) true n' e ((cs.drop (i*c.size)).take c.size)) a2 (fun i d=>by rw[<-hg];exact O i d)
     rw[List.range_eq_range'] at hm
     obtain⟨m',a3,y,p,J,L,Y⟩:=zl8 (zby n e c a1 hg) k 0 xs hm (fun q u=>U q (by unfold DataW.weights;rw[F];exact u)) (by rw[Nat.zero_add,<- a8 k];omega) m ρ G hf
     refine⟨m',a3,y,p,J,?_,Y⟩
     rw[Nat.zero_mul,List.drop_zero,List.take_of_length_le (by rw[<-a8 k];omega)] at L
     exact L
    ·cases h
   ·cases h
  ·cases h
end
end PvL
end
section
namespace PvL
open Go Go.ChangeShapes Go.RowKit
variable {args:Array Value}
abbrev TA:List (Sh×Bool)->Type
 | []=>Unit
 |(s,_)::r=>s.T×TA r
def EncA (m:Mem):(l:List (Sh×Bool))->TA l->List LV->Prop
 | [],_,vs=>vs=[]
 |(s,ag)::r,x,vs=>∃ cs v vs',vs=v::vs'/\Enc m s x.1 cs/\(if ag then v=.agg cs else cs=[v])/\EncA m r x.2 vs'
section
variable (P:Program)
def shArgs:List TypeId->Option (List (Sh×Bool))
 | []=>some []
 | t::a=>match shOf P 20 t,isAggT P t,shArgs a with
  | some s,some ag,some l=>if Nat.beq (P.cellsOf t) s.size then some ((s,ag)::l) else none
  | _,_,_=>none
end
section
variable {P:Program} {H:Type} {enc:TypeId × Value->H} {w:World}
theorem zfq {r:Reach}{b:Nat}{t:TypeId}{v:Value}(a:isAggT P t=some false)(c:Value.okWide P w r b t v):v.cells.toList=[v]:=by
 unfold isAggT at a
 cases f:P.underlying t with
 | none=>rw[f] at a;cases a
 | some d=>
  rw[f] at a
  cases v with
  | agg cs=>
   cases d<;>first
    |(cases a;done)
    |(simp[Value.okWide,Cell.okWide,Cell.ok,f] at c)
  | _=>rfl
theorem zjh {r:Reach}{b:Nat}{t:TypeId}{v:Value}(a:isAggT P t=some true)(c:Value.okWide P w r b t v):∃ cs,v=.agg cs:=by
 unfold isAggT at a
 cases f:P.underlying t with
 | none=>rw[f] at a;cases a
 | some d=>
  rw[f] at a
  cases d<;>first
   |(cases a;done)
   |(simp only[Value.okWide,f] at c;obtain⟨cs,h,_⟩:=c;exact⟨cs,h⟩)
theorem zh3:∀(o:List TypeId) (l:List (Sh×Bool)),shArgs P o=some l->∀(vs:List Value) (ds:List (DataW H)) (O:List MemPlace),DataW.TrodAll enc P w 0 (fun _=>true) true o vs ds O->(∀ n∈DataW.weightsEach P o ds,n<=reachBytes) ->
  (∀(j:Nat) t v,o[j]?=some t->vs[j]?=some v->∃ r b,Value.okWide P w r b t v)->∀(m:Mem) (ρ:Rho),Rel (.old w) ρ m w->(∀ i,m.next<=i->ρ i=none) ->
  ∃(Z:Mem) (C:Rho) (y:TA l) (f:List LV),Laid w m ρ Z C/\VRs C f vs/\EncA Z l y f
 | [],l,c,vs,ds,O,N,_,_,m,ρ,L,hf=>by
  cases c
  obtain⟨rfl,rfl,rfl⟩:=trodAll_nil N
  exact⟨m,ρ,(),[],⟨Ext.refl _,RLe.refl _,L,hf⟩,.nil,rfl⟩
 | t::o,l,c,vs,ds,O,N,U,u,m,ρ,L,hf=>by
  obtain⟨v,Q,d,G,a,b,rfl,rfl,rfl,⟨fuel,h1⟩,h2⟩:=trodAll_cons N
  unfold shArgs at c
  cases p:shOf P 20 t with
  | none=>rw[p] at c;cases c
  | some s=>
   cases q:isAggT P t with
   | none=>rw[p,q] at c;cases c
   | some ag=>
    cases J:shArgs P o with
    | none=>rw[p,q,J] at c;cases c
    | some l'=>
     rw[p,q,J] at c
     simp only at c
     split at c
     ·rename_i z
      cases c
      rw[Nat.beq_eq] at z
      obtain⟨m1,R,y,B,F,k2,Y⟩:=zby 20 t s p z _ _ _ h1 (fun n K=>U n (by show n∈d.weights P t++_;exact List.mem_append_left _ K)) m ρ L hf
      obtain⟨m2,D,y2,f,A,V,X⟩:=zh3 o l' J Q G b h2 (fun n K=>U n (by show n∈d.weights P t++_;exact List.mem_append_right _ K)) (fun j t v h h'=>u (j+1) t v (by simpa using h) (by simpa using h')) m1 R F.rel F.fresh
      obtain⟨r,bb,S⟩:=u 0 t v rfl rfl
      have g:=k2.mono' A.le
      cases ag with
      | true=>
       obtain⟨cs,rfl⟩:=zjh q S
       exact⟨m2,D,(y,y2),.agg B::f,F.trans A,.cons (.agg g) V,B,_,_,rfl,Y.ext A.ext,by rw[if_pos rfl],X⟩
      | false=>
       rw[zfq q S] at g
       cases g with
       | cons q1 q2=>
        cases q2
        rename_i lv
        exact⟨m2,D,(y,y2),lv::f,F.trans A,.cons q1 V,_,_,_,rfl,Y.ext A.ext,by rw[if_neg (by decide)],X⟩
     ·cases c
theorem z9x {m a:Mem}(h:Ext m a):∀ {l:Tab},preOk m l=true->preOk a l=true
 | [],_=>rfl
 | x::xs,f=>by
  obtain⟨h1,d⟩:=(Bool.and_eq_true _ _▸f:cellsAre (m.get x.1) x.2.1 x.2.2=true/\preOk m xs=true)
  show(cellsAre (a.get x.1) x.2.1 x.2.2&&preOk a xs)=true
  rw[z9x h d,Bool.and_true]
  cases c:m.get x.1 with
  | none=>rw[c] at h1;cases h1
  | some g=>rw[h.get _ _ c];rw[c] at h1;exact h1
def Base (m:Mem):Prop:=∀ i a,m.get i=some a->i<m.next
theorem zae [Orc P](d:P.follows .mixedOrders=true)(u:OrcOk P){f:FuncId}{args:List LV}{m:Mem}{Q:LV->Mem->Prop}(h:CallN P f args m Q){w:World}{c:Array Value}{ρ:Rho}(t:VRs ρ args c.toList)(s:GlobOk ρ)(g:Rel (.old w) ρ m w)(hf:FreshA ρ m.next) :
  Calls P f c w fun e w'=>∃ v i v' a,Q v i/\e=.returned v'/\VR a v v'/\Rel (.old w) a i w':=by
 intro cs
 rcases h.2 (zxn d u) (.old w) ρ w c cs t s g hf with⟨v,i,j,_,a,v',w',y,o,p,fr,q,h5,r⟩|⟨v,i,j,_⟩
 ·exact⟨_,w',fr,⟨v,i,v',a,j,rfl,o,p⟩,q,h5,r⟩
 ·exact j.elim
theorem zsq {l:Tab}{e:Entry}(h:e.Ok P)(B:tabsOk l=true)(hd:l.Pairwise (fun x y=>x.1≠y.1))(L:e.k0=64)(ha:e.args=[])(hp:e.pre=l)(hv:e.v=.bool true)(m:Mem)(hm:preOk m l=true):Sim P (.call e.f [] m) (.call (.bool true) m):=by
 intro Pt t w A cs N hG d hf
 have h0:A.toList=[]:=(fun l (B:VRs t [] l)=>(by cases B;rfl:l=[])) _ N
 have a0:RLe (fun i=>if i<64 then t i else none) t:=fun i x f=>by
  by_cases a:i<64
  ·have f:(if i<64 then t i else none)=some x:=f
   rw[if_pos a] at f;exact f
  ·have f:(if i<64 then t i else none)=some x:=f
   rw[if_neg a] at f;cases f
 have D:=z51 _ hm
 have:=h.sim (Mem.base l) (by rw[z8c,L]) (by rw[hp];exact z7a l hd _) (Pt.all w) (fun i=>if i<64 then t i else none) w A cs (by rw[ha,h0];exact .nil)
  (fun g hg=>by
   obtain⟨c,hc⟩:=hG g hg
   exact⟨c,by show(if g<64 then t g else none)=_;rw[if_pos hg];exact hc⟩)
  ⟨fun _ _ O=>O,fun i J a=>by
   rcases z3a _ _ _ _ a with a|⟨x,f,rfl,rfl⟩
   ·rw[Mem.get_mk,PT.get_nil] at a;cases a
   ·obtain⟨h1,h2⟩:=z7f B x f
    obtain⟨own,S⟩:=D x f
    obtain⟨_,b,s,c,o,U,⟨C,Z,fr,V,k3,X,k5⟩,Y,_⟩:=d.live _ _ S
    refine⟨by unfold Mem.base;rw[z2h];exact h1,b,s,c,o,by show(if x.1<64 then t x.1 else none)=_;rw[if_pos h1];exact U,⟨C,Z,fr,V,(fun z=>nomatch z:false=true->Thaw fr c/\TyR x.2.2 Z s),X,fun k v L=>?_⟩,Y,?_⟩
    ·obtain⟨v',g1,g2⟩:=k5 k v L
     exact⟨v',g1,zkx (h2 v (List.mem_of_getElem? L)) g2⟩
    ·exact⟨Y,fun z=>by
      have z:w.heap[b]?=none:=z
      rw[Y] at z;cases z⟩,
   (fun i j J K x y a hj u=>by
    rcases z3a _ _ _ _ a with a|⟨x,f,rfl,rfl⟩
    ·rw[Mem.get_mk,PT.get_nil] at a;cases a
    ·cases u),d.still⟩ (fun i a _=>by rw[z8c] at a;exact if_neg (by omega))
 obtain⟨a1,v',w',_,G,q,Q⟩:=this
 rw[hv] at G
 have R:=G.bool_inv
 subst R
 have p:∀ b o,w.heap[b]?=some o->w'.heap[b]?=some o:=fun b o hb=>q.keep b o hb
 refine⟨t,_,w',?_,?_,⟨fun r o O=>p r o (d.keep r o O),fun i J a=>?_,fun i j J K x y a hj u F f hy he=>d.inj i j J K x y a hj u F f hy he,q.still⟩,Q⟩
 ·exact Same.refl _ _ _
 ·exact .bool _
 ·obtain⟨B,b,s,c,o,U,V,k3,X⟩:=d.live i J a
  exact⟨B,b,s,c,o,U,V,p _ _ k3,X⟩
theorem zio [Orc P](p:P.follows .mixedOrders=true)(Q:OrcOk P){tabs:Tab}(s:tabsOk tabs=true)(d:tabs.Pairwise (fun x y=>x.1≠y.1)){f:FuncId}{u:List TypeId}{l:List (Sh×Bool)}(O:shArgs P u=some l)(g:∀(m:Mem) (x:TA l) (D:List LV),Base m->preOk m tabs=true->EncA m l x D->CallN P f D m fun v _=>v=.bool true){ds:List (DataW H)}{F:List MemPlace}(B:TabW tabs w)(S:DataW.TrodAll enc P w 0 (fun _=>true) true u args.toList ds F)(V:∀ n∈DataW.weightsEach P u ds,n<=reachBytes)(A:∀(j:Nat) t v,u[j]?=some t->args[j]?=some v->∃ r b,Value.okWide P w r b t v) :
  Calls P f args w fun e w'=>e=.returned (.bool true)/\GrownO w w' /\ ∀(r:Nat) (o:Obj),w.heap[r]?=some o->w'.heap[r]?=some o:=by
 have L:=Rel.base s B
 obtain⟨m,ρ,x,C,c,J,K⟩:=zh3 u l O args.toList ds F S V (fun j t v h G=>A j t v h (by simpa using G)) (Mem.base tabs) (rho0 w) L (fun i z=>zm6 (by rw[z8c] at z;exact z))
 have q:preOk m tabs=true:=z9x c.ext (z7a tabs d _)
 refine(zae p Q (g m x C (fun i X z=>(c.rel.live i X z).1) q K) J ((zm5 w).mono c.le) c.rel c.fresh).mono fun e w' ⟨v,Z,v',Y,R,N,U,a⟩=>?_
 subst R
 have:=U.bool_inv
 subst this
 exact⟨N,zdr a,a.keep⟩
theorem zoy {c d:List TypeId}{ds a:List (DataW H)}(h:(DataW.weightsEach P (c++d) (ds++a)).all (·<=reachBytes)=true)(i:d=[])(f:a=[]):∀ n∈DataW.weightsEach P c ds,n<=reachBytes:=by
 rw[i,f,List.append_nil,List.append_nil] at h
 intro n g
 exact of_decide_eq_true (List.all_eq_true.1 h n g)
theorem zo7 {f:Func}{s:ChangeSpec}{W m:World}{ds Z:List (DataW H)}{before:List MemPlace}(U:DataW.Whole enc P f.params.toList s.vars false W args.toList ds Z before)(g:s.vars=[])(u:s.fn H ds={ results:=[.lit (.bool true)],args:=ds }){tb:TypeId}(K:f.resultTypes=#[tb])(L:P.underlying tb=some .bool)(A:∀ t∈f.params.toList,P.readableRec t=true/\t<P.types.size)(z:laidOutB P=true)(X:GrownO W m)(y:∀(r:Nat) (o:Obj),W.heap[r]?=some o->m.heap[r]?=some o):s.post enc P f false true false false W args (.bool true) m:=by
 have G:=U
 obtain⟨p,q,hA,S,rfl,a0,a1⟩:=U
 rw[g] at S
 obtain⟨rfl,rfl⟩:=trodVars_none S
 have c:∀ b,b<W.heap.size->m.heap[b]?=W.heap[b]?:=fun b V=>by
  rw[Array.getElem?_eq_getElem V]
  exact y b _ (Array.getElem?_eq_getElem V)
 have B:∀ x∈p,W.sameAt m x:=fun x i=>by
  have J:=G.lt x (List.mem_append_left _ i)
  cases x with
  | cell b o=>show m.cell? _=W.cell? _;unfold World.cell?;rw[c b J]
  | map b=>exact c b J
 have C:∀(D:Nat->Bool),(∀ x∈p,D x.block=true)->∀(F:List TypeId) (vs:List Value) (ds:List (DataW H)) (N:List MemPlace),(∀ t∈F,P.readableRec t=true/\t<P.types.size)->(∀ x∈N,x∈p) ->
   DataW.TrodAll enc P W 0 (fun _=>true) true F vs ds N->DataW.TrodAll enc P m 0 D true F vs ds N:=by
  intro D j F
  induction F with
  | nil=>
   intro vs ds N _ _ h
   obtain⟨rfl,rfl,rfl⟩:=trodAll_nil h
   exact trodAll_mk0
  | cons t F ih=>
   intro vs ds N Y Q h
   obtain⟨v,R,d,O,a,b,rfl,rfl,rfl,h1,h2⟩:=trodAll_cons h
   obtain⟨r1,r2⟩:=Y t List.mem_cons_self
   exact trodAll_cons_mk (WideElems.Trod_stays z r1 r2 h1 (fun x i=>B x (Q x (List.mem_append_left _ i))) (fun x i=>j x (Q x (List.mem_append_left _ i))))
    (ih R O b (fun t ht=>Y t (List.mem_cons_of_mem _ ht)) (fun x i=>Q x (List.mem_append_right _ i)) h2)
 have e:ds ++([]:List (DataW H))=ds:=List.append_nil ds
 refine zfr (pa:=p) (pv:=[]) G (fun b D hd=>?_) (fun D j=>?_) (fun D j=>?_) rfl (World.keptBut_mono (fun _ f=>f.elim) X.1) X.2.1 (ok_one K rfl (okWide_bool_mk L true))
 ·rw[e,u,K]
  exact trodAll_cons_mk (shut_bool L _) trodAll_mk0
 ·rw[e,u]
  exact C D (fun x i=>j x (List.mem_append_left _ i)) _ _ _ p A (fun x i=>i) hA
 ·rw[e,u,g]
  exact rfl
end
end PvL
end
section
namespace PvL
set_option linter.unusedSectionVars false
open Go
section
variable {P:Program} [Orc P] {sz:Nat}
section
variable {E:Env} {M:Mem} {x:XO}
theorem zmu{r:Nat}{es:List (LV×LV)}{bs:List Nat}{a:Nat}(d:xval E x=some (.map (some r)))(c:At M r (.map es bs a)):zl P (.rng x) E M=some (.val (.ptr (some (M.next,0))) (M.push (.iter (some r) a [] a))):=by
 show ob (xval E x) _=_
 rw[d,z8]
 show atMap M r _=_
 unfold atMap
 rw[c.1];rfl
theorem zg9{id mi since clk last:Nat}{seen bs:List Nat}{es:List (LV×LV)}(j:xval E x=some (.ptr (some (id,0))))(hi:At M id (.iter (some mi) since seen last))(i:At M mi (.map es bs clk))(a:bs.length=es.length)(c:allLt since bs=true)(d:seen=[]∨es=[]∨anyLt last bs=true)
  (g:leftL seen bs es=[]):zl P (.nxt x) E M=some (.val (.tup [.bool false]) M):=by
 show ob (xval E x) _=_
 rw[j,z8]
 show guard' true (atIter M id _)=_
 rw[zb]
 unfold atIter
 rw[hi.1]
 show atMap M mi _=_
 unfold atMap
 rw[i.1]
 show guard' _ _=_
 have f:(Nat.beq bs.length es.length&&(allLt since bs&&(seen.isEmpty ||(es.isEmpty||anyLt last bs))))=true:=by
  rw[c]
  rcases d with h|h|h
  ·subst h;simp[a]
  ·subst h;simp[a]
  ·rw[h];simp[a]
 rw[f,zb,g];rfl
theorem zmr{id mi since clk:Nat}{seen bs:List Nat}{b:Nat}{es:List (LV×LV)}{e:LV×LV}(g:xval E x=some (.ptr (some (id,0))))(hi:At M id (.iter (some mi) since (seen++[b]) clk))(d:At M mi (.map es bs clk))(c:bs.length=es.length)
  (f:stampL b bs es=some e):zl P (.ent x) E M=some (.val (.tup [e.1,e.2]) M):=by
 show ob (xval E x) _=_
 rw[g,z8]
 show guard' true (atIter M id _)=_
 rw[zb]
 unfold atIter
 rw[hi.1,z8]
 show ob (some mi) (fun r=>ob (seen++[b]).getLast? fun b=>atMap M r fun es bs a=>guard' (Nat.beq bs.length es.length&&Nat.beq a clk) (ob (stampL b bs es) fun e=>rv M (LV.tup [e.1,e.2])))=_
 rw[z8]
 show ob ((seen++[b]).getLast?) _=_
 rw[List.getLast?_append,List.getLast?_singleton]
 show atMap M mi _=_
 unfold atMap
 rw[d.1]
 show guard' (Nat.beq bs.length es.length&&Nat.beq clk clk) _=_
 rw[show(Nat.beq bs.length es.length&&Nat.beq clk clk)=true by simp[c],zb,f];rfl
end
theorem zr4{o:Op}{x:XO}(h:cOp P o=some (.nxt x)):False:=by
 unfold cOp at h
 split at h<;>(repeat' (first|(cases h;done)|split at h))
 all_goals (try(unfold cBin cEq at h;(repeat' (first|(cases h;done)|split at h))))
 all_goals (try(unfold cCall at h;(repeat' (first|(cases h;done)|split at h))))
theorem zn5{o:Op}{x:XO}(h:cOpA P o=some (.nxt x)):∃ g,o=.next g false/\cX g=some x:=by
 unfold cOpA at h
 have m:cOp P o=some (.nxt x)∨cOpX P o=some (.nxt x):=by
  split at h
  ·rename_i i q;cases h;exact .inl q
  ·exact .inr h
 rcases m with h|h
 ·exact(zr4 h).elim
 ·cases o with
  | next g b=>
   cases b with
   | true=>cases h
   | false=>
    simp only[cOpX] at h
    split at h
    ·rename_i a p;cases h;exact⟨g,rfl,p⟩
    ·cases h
  | call c=>
   obtain⟨d,args,j⟩:=c
   cases d with
   | value f=>cases h
   | invoke f n=>cases h
   | builtin b=>
    cases b<;>first|(cases h;done)|skip
    have h:(match cXs args.toList,j.toList with|some [x,k],t::_=>(match mapTypes P t with|some (r,_)=>some (XI.del r x k)|none=>none)|_,_=>none)=some (.nxt x):=h
    repeat' (first|(cases h;done)|split at h)
  | convert|range|entry|panic=>
   simp only[cOpX] at h
   repeat' (first|(cases h;done)|split at h)
  | _=>cases h
theorem zg3{E:Env}{M:Mem}{x:XO}{K:Env->Mem->Prop}{l:List XG}{d:Nat}{g:Option (Nat×Bool)}{id mi since clk last:Nat}{seen bs:List Nat}{es:List (LV×LV)}(N:GOn E g)(S:xval E x=some (.ptr (some (id,0))))(hi:At M id (.iter (some mi) since seen last))(Q:At M mi (.map es bs clk))(s:allLt since bs=true)(y:seen=[]∨es=[]∨anyLt last bs=true)
  (t:leftL seen bs es≠[]) (O:∀ b h v,(b,h,v)∈leftL seen bs es->∀ M',Upd M id (.iter (some mi) since (seen++[b]) clk) M'->M'.next=M.next->At M' id (.iter (some mi) since (seen++[b]) clk)->XW .gen P sz l ((d,.tup [.bool true,h,v])::E) M' K):XW .gen P sz (⟨some d,.nxt x,g⟩::l) E M K:=by
 intro ops os j T Y U u L q J
 obtain⟨o,A,rfl,C,D⟩:=z1n L
 obtain⟨m,F,h5,G⟩:=z13 C
 obtain⟨R,f⟩:=ze6 u
 obtain⟨Z,a,z⟩:=zn5 F
 obtain⟨i,V,ty,X,af,gd⟩:=o
 have m:i=some d:=m
 have a:V=.next Z false:=a
 subst m a
 refine zlu R (z0u h5 q N) (z08 q z S) hi.1 Q.1 s y t fun b h v c=>?_
 obtain⟨B,p,r⟩:=q.put G (.tup [.bool true,h,v])
 exact⟨B,p,O b h v c _ ⟨rfl⟩ (Mem.next_upd _ _ _) (At.upd_same ⟨rfl⟩ hi) ops A (j+1) B Y U f D r J⟩
theorem z55{E:Env}{M:Mem}{K:Env->Mem->Prop}{l:List XG}{d:Nat}{g:Option (Nat×Bool)}{f:XO}{c:List XO}{gf:FuncId}{fi ca vs:List LV}{Q:LV->Mem->Prop}(i:GOn E g)(hf:xval E f=some (.func (.func gf) fi ca))(a:z0i E c=some vs)(h:CallN P gf (fi++vs++ca) M Q)
  (j:∀ v M',Q v M'->XW .gen P sz l ((d,v)::E) M' K):XW .gen P sz (⟨some d,.call f c,g⟩::l) E M K:=zpq i hf a h j
theorem zmk{fn:FuncId}{E:Env}{ms:List Dfr}{M:Mem}{K:Ex->Env->List Dfr->Mem->Prop}{f:XO}{u:List Tmp}{a b:XC}{gf:FuncId}{fi ca:List LV}(hf:xval E f=some (.func (.func gf) fi ca))(r:∃ fd,fnOf P gf=some fd)
  (h:∀ lb d l g j,LoopSt P fn sz E u a b lb->New M d .defr g->d=M.next->g.next=M.next+1->New g l (lb .ready none) j->l=g.next->j.next=g.next+1 ->
   CallN P gf (fi++[.func (.yield l) [] []]++ca) j (KIter l lb E (.mark d::ms) K)):W .gen P fn none sz (.rfun f u a b) E ms M K:=by
 intro code T J q t
 obtain⟨R,c,m,o,rfl,C,D,F,G,h5⟩:=zan J
 subst D
 have s:LoopSt P fn sz E c.toList a b (fun st i=>.loop st i fn T c.toList m o M.next):=⟨T,m,o,M.next,q,F,G,h5,rfl⟩
 have p:=h _ M.next (M.next+1) (M.push .defr) ((M.push .defr).push (.loop .ready none fn T c.toList m o M.next)) s ⟨rfl,rfl⟩ rfl rfl ⟨rfl,rfl⟩ rfl rfl
 refine z8q t (z08 q C hf) r (p.2 t) fun v S L=>?_
 obtain⟨e,Q,N,O,z,y,A,B⟩:=zqe (P:=P) (fn:=fn) (ro:=none) (l:=M.next+1) (fun _ _=>rfl) q L
 exact⟨_,z,y,A,B⟩
