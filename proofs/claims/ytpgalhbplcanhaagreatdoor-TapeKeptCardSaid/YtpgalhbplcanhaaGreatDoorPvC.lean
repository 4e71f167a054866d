/-
 The same,of more operations. No condition.
-/
import Derived.Test.YtpgalhbplcanhaaGreatDoorPvB
import Derived.Laws.BytesArg
section
namespace PvL
open Go
variable {t kt:TypeId} {k' x':Value}
theorem zjo {a b:ByteArray}(h:(a==b)=true):a=b:=by
 rw[beq_toListBytes] at h
 have h:=eq_of_beq h
 rw[ByteArray.toList_eq,ByteArray.toList_eq] at h
 obtain⟨⟨x⟩⟩:=a
 obtain⟨⟨y⟩⟩:=b
 have h:x=y:=h
 rw[h]
theorem z2c:(∀ a b:LV,lvEq a b=true->a=b)/\(∀ a b:List LV,lvEqs a b=true->a=b):=by
 have g:∀ n:Nat,(∀ a b:LV,sizeOf a<=n->lvEq a b=true->a=b)/\(∀ a b:List LV,sizeOf a<=n->lvEqs a b=true->a=b):=by
  intro n
  induction n with
  | zero=>
   refine⟨fun a b d=>?_,fun a b d=>?_⟩
   ·cases a<;>simp at d
   ·cases a<;>simp at d
  | succ n j=>
   refine⟨fun a b d h=>?_,fun a b d h=>?_⟩
   ·unfold lvEq at h
    split at h
    all_goals first
     |(cases h;done)
     | rfl
     | skip
    ·simp only[Bool.and_eq_true,z4r,beq_iff_eq] at h;rw[z2b.1 h.1,h.2]
    ·rw[zcy] at h;rw[eq_of_beq h]
    ·rw[zjo h]
    ·simp only[Bool.and_eq_true,Nat.beq_eq] at h;rw[h.1,h.2]
    ·simp only[Bool.and_eq_true,Nat.beq_eq,zcy] at h;rw[h.1,h.2.1,eq_of_beq h.2.2]
    ·simp only[Bool.and_eq_true,Nat.beq_eq,zcy] at h
     rw[h.1,h.2.1,h.2.2.1,h.2.2.2.1,eq_of_beq h.2.2.2.2]
    ·rw[Nat.beq_eq] at h;rw[h]
    ·simp only[Bool.and_eq_true,decide_eq_true_eq] at h
     rw[h.1,j.2 _ _ (by simp at d ⊢;omega) h.2.1,j.2 _ _ (by simp at d ⊢;omega) h.2.2]
    ·simp only[Bool.and_eq_true,Nat.beq_eq] at h;rw[h.1,j.1 _ _ (by simp at d ⊢;omega) h.2]
    ·rw[j.2 _ _ (by simp at d ⊢;omega) h]
    ·rw[j.2 _ _ (by simp at d ⊢;omega) h]
   ·cases a with
    | nil=>cases b with
     | nil=>rfl
     | cons b p=>cases h
    | cons a q=>cases b with
     | nil=>cases h
     | cons b p=>
      have h:(lvEq a b&&lvEqs q p)=true:=by unfold lvEqs at h;exact h
      simp only[Bool.and_eq_true] at h
      rw[j.1 a b (by simp at d;omega) h.1,j.2 q p (by simp at d;omega) h.2]
 exact⟨fun a b=>(g _).1 a b (Nat.le_refl _),fun a b=>(g _).2 a b (Nat.le_refl _)⟩
section maps
variable {P:Program} {ρ:Rho} {w:World}
theorem zhl {x:Option Bool}:someB x=true↔x=some true:=by
 cases x with
 | none=>exact⟨fun h=>(by cases h),fun h=>(by cases h)⟩
 | some b=>cases b with
  | true=>exact⟨fun _=>rfl,fun _=>rfl⟩
  | false=>exact⟨fun h=>(by cases h),fun h=>(by cases h)⟩
theorem z9g {rec:TypeId->LV->Bool}{d:Nat}{y:Bool}(A:∀ t x x',rec t x=true->VR ρ x x'->(Instr.checkKey y d t x').run P w=.ok () w){off:Nat}{xs:List LV}{j:Array Value}(z:VRs ρ xs j.toList)(h:keyPart P rec t off xs=true) :
  ∃ a,(part t j off).run P w=.ok a w/\(Instr.checkKey y d t a).run P w=.ok () w:=by
 unfold keyPart at h
 cases p:aggSz P t with
 | none=>rw[p] at h;cases h
 | some s=>
  rw[p] at h
  cases s with
  | none=>
   have h:oe (nth xs off) false (rec t)=true:=h
   cases g:nth xs off with
   | none=>rw[g] at h;cases h
   | some a=>
    rw[g] at h
    obtain⟨q,r,u⟩:=z3c (w:=w) z p (v:=a) g
    exact⟨q,r,A _ _ _ h u⟩
  | some n=>
   have h:oe (take' n (drop' off xs)) false (fun a=>rec t (.agg a))=true:=h
   cases g:take' n (drop' off xs) with
   | none=>rw[g] at h;cases h
   | some a=>
    rw[g] at h
    obtain⟨q,r,u⟩:=z3c (w:=w) z p (v:=.agg a) (by show ob (take' n (drop' off xs)) _=_;rw[g];rfl)
    exact⟨q,r,A _ _ _ h u⟩
theorem z3l (v:Bool):∀(d:Nat) (t:TypeId) (x:LV) (x':Value),keyOk P d t x=true->VR ρ x x'->(Instr.checkKey v d t x').run P w=.ok () w
 | 0,_,_,_,h,_=>by cases h
 | d+1,t,x,x',h,B=>by
  unfold keyOk at h
  unfold Instr.checkKey
  split at h
  ·rename_i g;simp only[Sem.run_bind,Go.run_underlying g,Result.andThen_ok];rfl
  ·rename_i g;simp only[Sem.run_bind,Go.run_underlying g,Result.andThen_ok];rfl
  ·rename_i g;simp only[Sem.run_bind,Go.run_underlying g,Result.andThen_ok];rfl
  ·rename_i fs g
   obtain⟨xs,rfl,h1⟩:=z1b.1 (zhl.1 h)
   obtain⟨A,rfl,s⟩:=B.agg_inv
   simp only[Option.some.injEq] at h1
   simp only[Sem.run_bind,Go.run_underlying g,Result.andThen_ok]
   rw[<-Array.forIn_toList]
   generalize fs.toList=L at h1
   clear h g
   induction L with
   | nil=>simp
   | cons f L p=>
    have h1:ifb (f.name == "_") (keyFields P (keyOk P d) xs L) (keyPart P (keyOk P d) f.type f.offset xs&&keyFields P (keyOk P d) xs L)=true:=h1
    cases u:f.name == "_" with
    | true=>
     rw[u] at h1
     have r:f.name= "_":=by simpa using u
     simp only[List.forIn_cons,Sem.run_bind,r,ne_eq,not_true_eq_false,if_false,Sem.run_pure,Result.andThen_ok]
     exact p h1
    | false=>
     rw[u] at h1
     have h1:(keyPart P (keyOk P d) f.type f.offset xs&&keyFields P (keyOk P d) xs L)=true:=h1
     have r:f.name ≠ "_":=by simpa using u
     simp only[Bool.and_eq_true] at h1
     obtain⟨a,y,z⟩:=z9g (z3l v d) s h1.1
     simp only[List.forIn_cons,Sem.run_bind,r,ne_eq,not_false_eq_true,if_true,Result.andThen_ok,y,z,Sem.run_pure]
     exact p h1.2
  ·rename_i len e g
   obtain⟨xs,rfl,h1⟩:=z1b.1 (zhl.1 h)
   obtain⟨A,rfl,s⟩:=B.agg_inv
   obtain⟨n,u,q⟩:=z9.1 h1
   simp only[Option.some.injEq] at q
   simp only[Sem.run_bind,Go.run_underlying g,Result.andThen_ok]
   simp only[Std.Legacy.Range.forIn_eq_forIn_range',Std.Legacy.Range.size,Nat.sub_zero,Nat.add_one_sub_one,Nat.div_one]
   rw[List.range_eq_range'] at q
   generalize List.range' 0 len=L at q
   clear h h1 g
   induction L with
   | nil=>simp
   | cons j L p=>
    have q:(keyPart P (keyOk P d) e (j*n) xs&&keyItems P (keyOk P d) e n xs L)=true:=q
    simp only[Bool.and_eq_true] at q
    obtain⟨a,y,z⟩:=z9g (z3l v d) s q.1
    simp only[List.forIn_cons,Sem.run_bind,z03 u,Result.andThen_ok,y,z,Sem.run_pure]
    exact p q.2
  ·cases h
def FoundR (ρ:Rho):Option (Nat×LV×LV)->Option (Nat×Value)->List MapEntry->Prop
 | none,none,_=>True
 | some (i,k,v),some (j,v'),E=>i=j/\VR ρ v v' /\ ∃ e,E[i]?=some e/\e.val=v'/\VR ρ k e.key
 | _,_,_=>False
theorem z5n {k:LV}(y:VR ρ k k')(s:List MapEntry) :
  ∀(es:List (LV×LV)) (E:List MapEntry) (i:Nat) (r:Option (Nat×LV×LV)),(∀ j,E[j]?=s[i+j]?)->ER ρ es E->findL P kt k es i=some r ->
   ∃ p,(Instr.findAsking kt k' E i).run P w=.ok p w/\FoundR ρ r p s
 | [],[],i,r,_,_,h=>by cases h;exact⟨none,by simp[Instr.findAsking],trivial⟩
 |(q,v)::es,e::E,i,r,u,d,h=>by
  obtain⟨z,D,d⟩:=d
  obtain⟨b,A,x⟩:=z9.1 (show ob (eqL P Op.maxDepth kt k q) _=some r from h)
  have g:=z8y (w:=w) _ _ _ _ _ _ _ A y z
  cases b with
  | true=>
   cases x
   refine⟨some (i,e.val),?_,rfl,D,e,?_,rfl,z⟩
   ·unfold Instr.findAsking
    rw[Sem.run_bind,show(Op.equal kt k' e.key).run P w=.ok true w from g]
    rfl
   ·have:=u 0;simpa using this.symm
  | false=>
   obtain⟨p,C,B⟩:=z5n y s es E (i+1) r (fun j=>by have:=u (j+1);simp only[List.getElem?_cons_succ] at this;rw[this];congr 1;omega) d x
   refine⟨p,?_,B⟩
   unfold Instr.findAsking
   rw[Sem.run_bind,show(Op.equal kt k' e.key).run P w=.ok false w from g]
   exact C
 | [],_::_,_,_,_,d,_=>d.elim
 | _::_,[],_,_,_,d,_=>d.elim
theorem zbi {d:TypeDesc}(g:P.underlying kt=some d){a b:Value}{r:Bool}(h:Instr.sameNow d a b=some r):(Op.equal kt a b).run P w=.ok r w:=by
 unfold Instr.sameNow at h
 split at h
 ·split at h
  ·rename_i j;cases h;subst j;exact run_equalIn_int w 9999 kt _ _ _ _ g
  ·cases h
 ·cases h;rw[beq_toListBytes];exact run_equalIn_string w 9999 kt _ _ g
 ·cases h;exact run_equalIn_bool w 9999 kt _ _ g
 ·cases h
theorem zav {d:TypeDesc}(j:P.underlying kt=some d):∀(E:List MapEntry) (i:Nat) (r:Option (Nat×Value)),Instr.findNow d k' E i=some r->(Instr.findAsking kt k' E i).run P w=.ok r w
 | [],i,r,h=>by cases h;rfl
 | e::E,i,r,h=>by
  unfold Instr.findNow at h
  unfold Instr.findAsking
  rw[Sem.run_bind]
  split at h
  ·rename_i g;cases h;rw[zbi j g];rfl
  ·rename_i g;rw[zbi j g];exact zav j E (i+1) r h
  ·cases h
theorem z40 {k:LV}(v:VR ρ k k'){es:List (LV×LV)}{E:List MapEntry}{r:Option (Nat×LV×LV)}(s:ER ρ es E)(h:findL P kt k es 0=some r)(g:∃ d,P.underlying kt=some d) :
  ∃ p,(Instr.findKey kt k' E).run P w=.ok p w/\FoundR ρ r p E:=by
 obtain⟨d,g⟩:=g
 obtain⟨p,q,u⟩:=z5n (w:=w) v E es E 0 r (fun j=>by simp) s h
 refine⟨p,?_,u⟩
 unfold Instr.findKey
 rw[Sem.run_bind,Go.run_underlying g,Result.andThen_ok]
 cases x:Instr.findNow d k' E 0 with
 | none=>exact q
 | some y=>
  have:=zav (w:=w) g E 0 y x
  rw[q] at this
  cases this
  rfl
theorem z43 {d:Nat}{x:LV}(h:keyOk P d t x=true):∃ D,P.underlying t=some D:=by
 cases d with
 | zero=>cases h
 | succ d=>
  unfold keyOk at h
  cases g:P.underlying t with
  | none=>rw[g] at h;cases h
  | some D=>exact⟨D,rfl⟩
theorem z45 {q:TypeId×TypeId}(h:mapTypes P t=some q):P.underlying t=some (.map q.1 q.2):=by
 unfold mapTypes at h
 split at h
 ·cases h;assumption
 ·cases h
end maps
section maps2
variable {P:Program} {Pt:Prot} {ρ:Rho} {m:Mem} {w:World}
theorem z8x {α:Type}(j:Rel Pt ρ m w){x:LV}(v:VR ρ x x'){k:List (LV×LV)->Option α}{y:α}(h:entriesOf m x k=some y) :
  ∃ es,k es=some y/\((x'=.map none/\es=[]) ∨ ∃ i b s c E bs d,x=.map (some i)/\x'=.map (some b)/\ρ i=some (b,s,c)/\m.get i=some (.map es bs d)/\w.heap[b]?=some (.map E d)/\ER ρ es E.toList):=by
 obtain⟨r,rfl,q⟩:=z26.1 h
 cases r with
 | none=>cases v;exact⟨[],q,.inl ⟨rfl,rfl⟩⟩
 | some i=>
  obtain⟨es,bs,d,u,z⟩:=z37.1 (show atMap m i (fun es _ _=>k es)=some y from q)
  obtain⟨_,b,s,c,o,p,⟨E,rfl,A,_⟩,B,_⟩:=j.live i _ u
  cases v with
  | map g=>
   rw[p] at g;cases g
   exact⟨es,z,.inr ⟨i,b,s,c,E,bs,d,rfl,rfl,p,u,B,A⟩⟩
theorem zfj (hrel:Rel Pt ρ m w){x k v:LV}{ok:Bool}(h:lookupL P t x k ok m=some v)(hx:VR ρ x x')(hk:VR ρ k k') :
  ∃ v',(Instr.lookup t x' k' ok).run P w=.ok v' w/\VR ρ v v':=by
 obtain⟨⟨kt,et⟩,hq,h1⟩:=z9.1 h
 obtain⟨hok,h2⟩:=za.1 (show guard' (keyOk P 10000 kt k) _=some v from h1)
 obtain⟨es,h3,hmap⟩:=z8x hrel hx h2
 obtain⟨r,hr,h4⟩:=z9.1 h3
 have hu:=z45 hq
 have hfin:∀ E:Array MapEntry,ER ρ es E.toList->∃ v',((do
   Instr.checkKey E.isEmpty 10000 kt k'
   let (v,ok2) <- match <- Instr.findKey kt k' E.toList with
    | some (_,v)=>pure (v,true)
    | none=>pure (<- zeroValue et,false)
   pure (if ok then .tuple #[v,.bool ok2] else v):Sem Value)).run P w=.ok v' w/\VR ρ v v':=by
  intro E hE
  obtain⟨r',hf,hfr⟩:=z40 (w:=w) hk hE hr (z43 hok)
  have hc:=z3l (w:=w) E.isEmpty 10000 kt k k' hok hk
  simp only[Sem.run_bind,hc,Result.andThen_ok,hf]
  cases r with
  | none=>
   cases r' with
   | some _=>exact hfr.elim
   | none=>
    obtain⟨z,hz,h5⟩:=z9.1 (show ob (zeroL P et) _=some v from h4)
    cases h5
    obtain⟨zv,hz1,hz2,_,_⟩:=z3d (w:=w) (ρ:=ρ) hz
    simp only[Sem.run_bind,hz1,Result.andThen_ok,Sem.run_pure]
    cases ok with
    | true=>exact⟨_,rfl,.tup (.cons hz2 (.cons (.bool _) .nil))⟩
    | false=>exact⟨_,rfl,hz2⟩
  | some p=>
   obtain⟨i,q,v1⟩:=p
   cases r' with
   | none=>exact hfr.elim
   | some p'=>
    obtain⟨j,v1'⟩:=p'
    obtain⟨_,hv1,_⟩:=hfr
    cases h4
    cases ok with
    | true=>exact⟨_,rfl,.tup (.cons hv1 (.cons (.bool _) .nil))⟩
    | false=>exact⟨_,rfl,hv1⟩
 unfold Instr.lookup
 simp only[Sem.run_bind,Go.run_underlying hu,Result.andThen_ok]
 rcases hmap with⟨rfl,rfl⟩|⟨i,b,s,c,E,bs,clk,_,rfl,hρ,hi,hh,hE⟩
 ·obtain⟨v',hv1,hv2⟩:=hfin #[] trivial
  refine⟨v',?_,hv2⟩
  exact hv1
 ·obtain⟨v',hv1,hv2⟩:=hfin E hE
  refine⟨v',?_,hv2⟩
  have hg:(getObj b).run P w=.ok (.map E clk) w:=by simp[getObj,Sem.run,hh]
  show Sem.run P (getObj b >>= _) w=_
  rw[Sem.run_bind,hg,Result.andThen_ok]
  exact hv1
theorem ER.length:∀ {es:List (LV×LV)} {E:List MapEntry},ER ρ es E->es.length=E.length
 | [],[],_=>rfl
 | _::_,_::_,h=>by simp[ER.length h.2.2]
 | [],_::_,h=>h.elim
 | _::_,[],h=>h.elim
theorem ER.append {es:List (LV×LV)}{E:List MapEntry}(h:ER ρ es E){k v:LV}{e:MapEntry}(d:VR ρ k e.key)(g:VR ρ v e.val):ER ρ (es++[(k,v)]) (E++[e]):=by
 induction es generalizing E with
 | nil=>cases E with
  | nil=>exact⟨d,g,trivial⟩
  | cons _ _=>exact h.elim
 | cons x es j=>cases E with
  | nil=>exact h.elim
  | cons y E=>exact⟨h.1,h.2.1,j h.2.2⟩
theorem ER.set {es:List (LV×LV)}{E:List MapEntry}(h:ER ρ es E):∀(i:Nat) {k v:LV} {e:MapEntry},i<E.length->VR ρ k e.key->VR ρ v e.val->ER ρ (setVal es i k v) (E.set i e):=by
 induction es generalizing E with
 | nil=>cases E with
  | nil=>intro i _ _ _ d;simp at d
  | cons _ _=>exact h.elim
 | cons x es p=>cases E with
  | nil=>exact h.elim
  | cons y E=>
   intro i k v e d g j
   cases i with
   | zero=>exact⟨g,j,h.2.2⟩
   | succ i=>exact⟨h.1,h.2.1,p h.2.2 i (by simpa using d) g j⟩
theorem z5o (C:Rel Pt ρ m w){x k v:LV}{M:Mem}(h:mapUpdateL P t x k v m=some M){v':Value}(hx:VR ρ x x')(Q:VR ρ k k')(hv:VR ρ v v') :
  ∃ w',(Instr.mapUpdate t x' k' v').run P w=.ok () w'/\Rel Pt ρ M w'/\M.next=m.next:=by
 obtain⟨⟨kt,et⟩,hq,h1⟩:=z9.1 h
 obtain⟨U,h2⟩:=za.1 (show guard' (keyOk P 10000 kt k) _=some M from h1)
 obtain⟨r0,rfl,h3⟩:=z26.1 h2
 obtain⟨i,rfl,h4⟩:=z9.1 h3
 obtain⟨es,Y,u,hi,h5⟩:=z37.1 h4
 obtain⟨p,hp,N⟩:=z9.1 h5
 obtain⟨_,b,s,c,o,V,⟨E,rfl,Z,O⟩,hh,_⟩:=C.live i _ hi
 cases hx with
 | map F=>
  rw[V] at F;cases F
  have hu:=z45 hq
  obtain⟨r',hf,H⟩:=z40 (w:=w) Q Z hp (z43 U)
  have hc:=z3l (w:=w) false 10000 kt k k' U Q
  have hg:(getObj b).run P w=.ok (.map E u) w:=by simp[getObj,Sem.run,hh]
  have hb:b<w.heap.size:=(Array.getElem?_eq_some_iff.1 hh).1
  have D:∀(d:World) (o:Obj),d.heap=w.heap->(setObj b o).run P d=.ok () { d with heap:=d.heap.setIfInBounds b o }:=by
   intro d o e
   simp only[setObj,Sem.run,e,hh]
  have y:∀(d:World) (G:List (LV×LV)) (L:Array MapEntry) (g:Nat),d.heap=w.heap->(d.os=w.os/\d.output=w.output)->ER ρ G L.toList ->
    Rel Pt ρ (m.upd i (some (.map G (L.toList.map (·.born)) g))) { d with heap:=d.heap.setIfInBounds b (.map L g) }:=by
   intro d G L g e a8 a0
   refine C.turn hi rfl rfl V (o':=.map L g) ⟨L,rfl,a0,rfl⟩ ?_ ?_ a8
   ·show(d.heap.setIfInBounds b _)[b]?=_
    rw[e,Array.getElem?_setIfInBounds_self_of_lt hb]
   ·intro r hr
    show(d.heap.setIfInBounds b _)[r]?=_
    rw[e,Array.getElem?_setIfInBounds_ne (Ne.symm hr)]
  unfold Instr.mapUpdate
  simp only[Sem.run_bind,Go.run_underlying hu,Result.andThen_ok,hg,hc,hf]
  cases p with
  | none=>
   cases r' with
   | some _=>exact H.elim
   | none=>
    have N:fN (u+1) (fun g=>some (m.upd i (some (.map (es++[(k,v)]) (Y++[u]) g))))=some M:=N
    rw[z19] at N
    cases N
    have:=y w _ (E.push { key:=k',val:=v',born:=u }) (u+1) rfl ⟨rfl,rfl⟩ (by simpa using Z.append (e:={ key:=k',val:=v',born:=u }) Q hv)
    rw[show(E.push { key:=k',val:=v',born:=u }).toList.map (·.born)=Y++[u] by rw[O];simp] at this
    refine⟨_,by simp only[D w _ rfl],this,Mem.next_upd _ _ _⟩
  | some q=>
   obtain⟨j,X,a9⟩:=q
   cases r' with
   | none=>exact H.elim
   | some p'=>
    obtain⟨j',b0⟩:=p'
    obtain⟨J,_,e,he,_,a5⟩:=H
    have J:j=j':=J
    subst J
    obtain⟨a7,h7⟩:=za.1 (show guard' (lvEq k X) _=some M from N)
    cases h7
    have a6:=z2c.1 _ _ a7
    subst a6
    have z:E[j]?=some e:=by simpa using he
    have A:j<E.size:=(Array.getElem?_eq_some_iff.1 z).1
    simp only[z,Option.map_some,Option.getD_some]
    have S:∃ K d,(Instr.keyThatStays e.key k').run P w=.ok K d/\VR ρ k K/\d.heap=w.heap/\(d.os=w.os/\d.output=w.output):=by
     unfold Instr.keyThatStays
     split
     ·exact⟨k',w,rfl,Q,rfl,rfl,rfl⟩
     ·simp only[Sem.run_bind,run_choose]
      rw[if_neg (by simp[Question.forced])]
      simp only[Result.andThen_ok,Sem.run_pure]
      split
      ·exact⟨_,_,rfl,Q,rfl,rfl,rfl⟩
      ·exact⟨_,_,rfl,a5,rfl,rfl,rfl⟩
    obtain⟨K,d,a2,a3,R,a4⟩:=S
    have B:(E.modify j fun e=>{ e with key:=K,val:=v' }).toList=E.toList.set j { e with key:=K,val:=v' }:=by
     rw[Array.toList_modify]
     rw[List.modify_eq_set,List.getElem?_eq_getElem (by simpa using A)]
     have:E.toList[j]'(by simpa using A)=e:=by
      have:=Array.getElem?_eq_some_iff.1 z
      simpa using this.2
     simp[this]
    have a1:(E.modify j fun e=>{ e with key:=K,val:=v' }).toList.map (·.born)=Y:=by
     rw[B,O,List.map_set]
     have hj:j <(E.toList.map (·.born)).length:=by simpa using A
     have e2:(E.toList.map (·.born))[j]'hj=e.born:=by
      have:=Array.getElem?_eq_some_iff.1 z
      simp[this.2]
     rw[<-e2,List.set_getElem_self]
    have:=y d (setVal es j k v) (E.modify j fun e=>{ e with key:=K,val:=v' }) u R a4 (by rw[B];exact Z.set j (by simpa using A) a3 hv)
    rw[a1] at this
    exact⟨_,by rw[Sem.run_bind,a2,Result.andThen_ok,D d _ R],this,Mem.next_upd _ _ _⟩
end maps2
end PvL
end
section
namespace PvL
open Go
variable {t e st xt:TypeId} {x':Value} {sz n len:Nat}
section bi
variable {P:Program} {Pt:Prot} {ρ:Rho} {m:Mem} {w:World}
theorem zse {k:LenK}(h:lenK P t=some k):∃ d,P.underlying t=some d/\((k=.str/\d=.string) ∨(k=.sl /\ ∃ e,d=.slice e) ∨(∃ n e,k=.arr n/\d=.array n e) ∨(k=.map /\ ∃ a b,d=.map a b)):=by
 unfold lenK at h
 split at h
 ·rename_i g;cases h;exact⟨_,g,.inl ⟨rfl,rfl⟩⟩
 ·rename_i e g;cases h;exact⟨_,g,.inr (.inl ⟨rfl,e,rfl⟩)⟩
 ·rename_i n e g;cases h;exact⟨_,g,.inr (.inr (.inl ⟨n,e,rfl,rfl⟩))⟩
 ·rename_i a b g;cases h;exact⟨_,g,.inr (.inr (.inr ⟨rfl,a,b,rfl⟩))⟩
 ·cases h
theorem zo8 (j:Rel Pt ρ m w){x v:LV}(h:lenL P t x m=some v)(u:VR ρ x x')(y:Array TypeId)(ty:TypeId)(z:List Value)(H:y[0]?=some t) :
  ∃ v',(Builtin.len_ y ty (x'::z).toArray).run P w=.ok v' w/\VR ρ v v':=by
 obtain⟨k,F,p⟩:=z9.1 h
 obtain⟨d,J,B⟩:=zse F
 unfold Builtin.len_
 rw[H]
 simp only[List.getElem?_toArray,List.getElem?_cons_zero,Sem.run_bind,Go.run_underlying J,Result.andThen_ok]
 rcases B with⟨rfl,rfl⟩|⟨rfl,e,rfl⟩|⟨n,e,rfl,rfl⟩|⟨rfl,a,b,rfl⟩
 ·obtain⟨s,rfl,g⟩:=z0g.1 (show asStr x _=some v from p)
  rw[u.str_inv,zhb.1 g]
  exact⟨_,rfl,.int _ _⟩
 ·obtain⟨a,n,f,r,rfl,g⟩:=z0m.1 (show asSlice x _=some v from p)
  rw[zhb.1 g]
  cases u with
  | sliceNil=>exact⟨_,rfl,.int _ _⟩
  | slice=>exact⟨_,rfl,.int _ _⟩
  | sliceZ=>exact⟨_,rfl,.int _ _⟩
  | sliceE=>exact⟨_,rfl,.int _ _⟩
 ·rw[zhb.1 (show mkN n=some v from p)]
  exact⟨_,rfl,.int _ _⟩
 ·obtain⟨r,g,G⟩:=z8x j u (show entriesOf m x (fun r=>mkN r.length)=some v from p)
  rw[zhb.1 g]
  rcases G with⟨rfl,rfl⟩|⟨i,b,s,c,E,L,q,_,rfl,K,M,D,A⟩
  ·exact⟨_,rfl,.int _ _⟩
  ·have C:(getObj b).run P w=.ok (.map E q) w:=by simp[getObj,Sem.run,D]
   refine⟨.int .i64 E.size,?_,by rw[A.length];simpa using VR.int _ _⟩
   simp only[Sem.run_bind,C,Result.andThen_ok]
   rfl
theorem z3k (j:Rel Pt ρ m w){x:LV}{l:List LV}(h:zz sz n x m=some l)(g:∀ k,z0x x=some k->n<=k)(q:VR ρ x x') :
  ∃ L:Array Value,(Builtin.firstCells sz n x').run P w=.ok L w/\VRs ρ l L.toList/\L.size=n*sz:=by
 unfold zz at h
 split at h
 ·obtain⟨y,h⟩:=za.1 h
  rw[Nat.beq_eq] at y
  cases h;cases q;exact⟨#[],rfl,.nil,by rw[y];simp⟩
 ·cases d:Nat.beq n 0 with
  | true=>
   rw[d] at h
   have d:n=0:=Nat.eq_of_beq_eq_true d
   subst d
   cases h
   cases q with
   | slice=>exact⟨#[],by simp[Builtin.firstCells,loadCells,loadCellsFrom],.nil,by simp⟩
   | sliceZ=>exact⟨#[],by simp[Builtin.firstCells,loadCells,loadCellsFrom],.nil,by simp⟩
   | sliceE=>exact⟨#[],by simp[Builtin.firstCells,loadCells,loadCellsFrom],.nil,by simp⟩
  | false=>
   rw[d,ze] at h
   cases q with
   | slice r B E D=>
    obtain⟨vs,p,z,A⟩:=z4s j h r
    exact⟨vs.toArray,by simp only[Builtin.firstCells];exact z4d p z,by simpa using A,by simpa using p⟩
   | sliceZ=>
    have:=g 0 rfl
    obtain rfl:n=0:=by omega
    cases d
   | sliceE=>
    have:=g 0 rfl
    obtain rfl:n=0:=by omega
    cases d
 ·rename_i s
  obtain⟨v,h⟩:=za.1 h
  simp only[Bool.and_eq_true,Nat.beq_eq,Nat.ble_eq] at v
  cases h
  rw[q.str_inv]
  refine⟨_,rfl,?_,?_⟩
  ·simp only[Array.toList_map]
   generalize (s.extract 0 n).data.toList=u
   induction u with
   | nil=>exact .nil
   | cons b u C=>exact .cons (.int _ _) C
  ·rw[v.1,Array.size_map]
   have p:(s.extract 0 n).data.size=(s.extract 0 n).size:=rfl
   rw[p,ByteArray.size_extract];omega
 ·cases h
theorem zfd {id off es:Nat}{g own:Bool}{c:List LV}{l:List LV}(j:m.get id=some (.cells own c e))(h:zz sz n (.slice (some (id,off)) len g es) m=some l):loadN m id off (n*sz)=some l:=by
 unfold zz at h
 simp only at h
 cases d:Nat.beq n 0 with
 | true=>
  rw[d] at h
  have d:n=0:=Nat.eq_of_beq_eq_true d
  subst d
  cases h
  unfold loadN atCells
  rw[j,z8]
  show take' (0*sz) (drop' off c)=_
  rw[Nat.zero_mul];rfl
 | false=>rw[d,ze] at h;exact h
theorem z3m {x:LV}(h:z0x x=some n)(d:VR ρ x x'):(Builtin.lenOf x').run P w=.ok n w:=by
 unfold z0x at h
 split at h
 ·cases h
  cases d with
  | sliceNil=>rfl
  | slice=>rfl
  | sliceZ=>rfl
  | sliceE=>rfl
 ·cases h;rw[d.str_inv];rfl
 ·cases h
theorem zdq (d:Nat):∀(r c:Nat),c<=5*d/4+2048->Builtin.growBy d r c<=5*d/4+2048
 | 0,c,h=>h
 | r+1,c,h=>by
  unfold Builtin.growBy
  split
  ·exact h
  ·exact zdq d r _ (by omega)
theorem zir (d cap:Nat)(h:cap<d):Builtin.nextslicecap d cap<=5*d/4+2048:=by
 unfold Builtin.nextslicecap
 split
 ·omega
 ·split
  ·omega
  ·exact zdq _ _ _ (by omega)
theorem z1d {α:Type}{l:List α}{k:α->List α->Option R1}{r:R1}:arg0 l k=some r ↔ ∃ a d,l=a::d/\k a d=some r:=by
 cases l with
 | nil=>exact⟨fun h=>(by cases h),fun⟨_,_,e,_⟩=>(by cases e)⟩
 | cons a d=>exact⟨fun h=>⟨a,d,rfl,h⟩,fun⟨_,_,e,h⟩=>(by cases e;exact h)⟩
theorem z6y {xd:TypeDesc}{cap:Nat}{A:Option Addr}{ts:Array TypeId}{ty:TypeId}(hu:P.underlying st=some (.slice e))(hxd:P.underlying xt=some xd)(hni:isIntD xd=false)(hsz:szOf P e=some sz)(hlen:(Builtin.lenOf x').run P w=.ok n w)(ht1:ts[0]?=some st)(ht2:ts[1]?=some xt) :
  (len+n<=cap->(Builtin.append_ ts ty #[.slice A len cap,x']).run P w =
   (do let new <- Builtin.firstCells sz n x'
       if let some a:=A then storeCells (a.add (len*sz)) new.toList
       pure (.slice A (len+n) cap):Sem Value).run P w) /\
  (∀ i,(typeInfo e).run P w=.ok i w->0<i.bytes->¬ len+n<=cap->Builtin.nextslicecap (len+n) cap*i.bytes<=2^48 ->
   (Builtin.append_ ts ty #[.slice A len cap,x']).run P w =
   (do let newCap <- choose (.appendCap (len+n) cap e)
       let old <- Builtin.firstCells sz len (.slice A len cap)
       let new <- Builtin.firstCells sz n x'
       let rest:=Builtin.zeroCells (<- zeroValue e).cells (newCap-(len+n))
       pure (.slice (some (<- newRow e (old++new++rest))) (len+n) newCap):Sem Value).run P w):=by
 constructor
 ·intro hle
  unfold Builtin.append_
  cases xd<;>first|(cases hni;done)|skip
  all_goals
   simp only[ht1,ht2,List.getElem?_toArray,List.getElem?_cons_zero,List.getElem?_cons_succ,Sem.run_bind,Go.run_underlying hu,Go.run_underlying hxd,Result.andThen_ok,z03 hsz,
    Sem.run_pure,Bool.false_eq_true,if_false,Bool.not_false,if_true,hlen,hle]
   cases A<;>rfl
 ·intro i hi hpos hgt hcap
  have hi2:∀ w',(typeInfo e).run P w'=.ok i w':=by
   intro w'
   unfold typeInfo at hi ⊢
   simp only[Sem.run_bind,run_program,Result.andThen_ok] at hi ⊢
   split at hi
   ·rename_i i' he
    cases hi
    rfl
   ·cases hi
  unfold Builtin.append_
  cases xd<;>first|(cases hni;done)|skip
  all_goals
   simp only[ht1,ht2,List.getElem?_toArray,List.getElem?_cons_zero,List.getElem?_cons_succ,Sem.run_bind,Go.run_underlying hu,Go.run_underlying hxd,Result.andThen_ok,z03 hsz,
    Sem.run_pure,Bool.false_eq_true,if_false,Bool.not_false,if_true,hlen,hgt,hi]
   rw[if_neg (by intro hh;rcases hh with⟨_,h|h⟩<;>first|(cases h;done)|omega)]
   simp only[Sem.run_bind,hi,Result.andThen_ok]
   rw[if_neg (by omega)]
   simp only[Sem.run_bind,run_choose]
   rw[if_neg (by simp[Question.forced])]
   simp only[Result.andThen_ok,hi2,run_askRoom]
   rfl
theorem Rel.reuse (h:Rel Pt ρ m w)(hf:ρ m.next=none){lb:LB}{o':Obj}{b s c:Nat}(N:isRo lb=false)(Z:BR ρ lb o' s c)(M:Pt b=none)(d:∀ j l x,m.get j=some l->isRo l=false->ρ j=some x->x.1≠b){w':World}(ho:w'.heap[b]?=some o')(u:∀ r,r≠b->w'.heap[r]?=w.heap[r]?)(V:w'.os=w.os/\w'.output=w.output:=by exact⟨rfl,rfl⟩) :
  Rel Pt (upd1 ρ m.next (b,s,c)) (m.push lb) w':=by
 have g:=RLe.upd1 (ρ:=ρ) (i:=m.next) (x:=(b,s,c)) hf
 refine⟨fun r o z=>?_,fun j l p=>?_,fun j k l F x y p v S U E A J=>?_,by rw[V.1,V.2];exact h.still⟩
 ·have:r≠b:=fun e=>by subst e;rw[M] at z;cases z
  rw[u r this];exact h.keep r o z
 ·rw[Mem.get_push] at p
  by_cases e:j=m.next
  ·rw[if_pos e] at p;cases p
   exact⟨by show j<m.next+1;omega,b,s,c,o',by rw[e];exact z09 _ _ _,Z.mono g,ho,by rw[N];exact M⟩
  ·rw[if_neg e] at p
   obtain⟨K,B,Q,G,O,q,Y,H,D⟩:=h.live j l p
   have L:B≠b:=by
    by_cases z:isRo l=true
    ·rw[if_pos z] at D
     intro X;subst X;rw[M] at D;cases D.1
    ·exact d j l _ p (by simpa using z) q
   exact⟨Nat.lt_succ_of_lt K,B,Q,G,O,g _ _ q,Y.mono g,by rw[u B L];exact H,D⟩
 ·rw[Mem.get_push] at p v
  by_cases e:j=m.next
  ·by_cases C:k=m.next
   ·rw[e,C]
   ·rw[if_neg C] at v
    obtain⟨K,B,Q,G,O,q,_,H,_⟩:=h.live k F v
    rw[g _ _ q] at A;cases A
    rw[e,z09] at E;cases E
    exact absurd J.symm (d k F _ v U q)
  ·rw[if_neg e] at p
   obtain⟨K,B,Q,G,O,q,_,H,_⟩:=h.live j l p
   rw[g _ _ q] at E;cases E
   by_cases C:k=m.next
   ·rw[C,z09] at A;cases A
    exact absurd J (d j l _ p S q)
   ·rw[if_neg C] at v
    obtain⟨_,b2,s2,c2,o2,R,_,_,_⟩:=h.live k F v
    rw[g _ _ R] at A;cases A
    exact h.inj j k l F _ _ p v S U q R J
theorem zl6 {α:Type}{a:Option (Nat×Nat)}{d g:Bool}{k:Mem->Option α}{y:α}{q:TypeId}(h:killed q a d g m k=some y) :
  ((a=none∨d=true)/\k m=some y) ∨ ∃ id off c e,a=some (id,off)/\d=false/\g=true/\m.get id=some (.cells true c e)/\(e=q∨e=apE q)/\k (m.upd id none)=some y:=by
 cases a with
 | none=>exact .inl ⟨.inl rfl,h⟩
 | some p=>
  obtain⟨id,off⟩:=p
  cases d with
  | true=>exact .inl ⟨.inr rfl,h⟩
  | false=>
   obtain⟨r,u⟩:=za.1 (show guard' g _=some y from h)
   obtain⟨own,c,e,z,v⟩:=z1q.1 u
   obtain⟨j,x⟩:=za.1 v
   simp only[Bool.and_eq_true,Bool.or_eq_true,Nat.beq_eq] at j
   obtain⟨rfl,s⟩:=j
   exact .inr ⟨id,off,c,e,rfl,rfl,r,z,s,x⟩
theorem zhu {s x:LV}{r:R1}(h:appendL P st xt s x m rvm=some r) :
  ∃ v m',r=.val v m' /\ ∀(Pt:Prot) (ρ:Rho) (w:World) (H x':Value) (M:Array TypeId) (ty:TypeId),M[0]?=some st->M[1]?=some xt->VR ρ s H->VR ρ x x'->Rel Pt ρ m w->Fresh ρ m.next m'.next ->
   Gives P Pt ρ m w (Builtin.append_ M ty #[H,x']) v m':=by
 obtain⟨e,he,h1⟩:=z9.1 h
 obtain⟨xd,b4,h2⟩:=z9.1 h1
 have R:isIntD xd=false:=by
  cases hi:isIntD xd with
  | false=>rfl
  | true=>rw[hi] at h2;cases h2
 rw[R] at h2
 obtain⟨sz,b2,h3⟩:=z9.1 (show ob (szOf P e) _=some r from h2)
 obtain⟨d2,d7,h4⟩:=z9.1 h3
 obtain⟨a,len,b5,es,rfl,h5⟩:=z0m.1 h4
 obtain⟨n,hn,h6⟩:=z9.1 h5
 have hu:=z24 he
 have d1:∀ {α:Type} (x y:α),(match xd with | .int _=>x|_=>y)=y:=by
  intro α x y;cases xd<;>first|rfl|cases R
 cases F:Nat.beq n 0 with
 | true=>
  rw[F] at h6
  cases h6
  have F:n=0:=Nat.eq_of_beq_eq_true F
  subst F
  refine⟨_,_,rfl,fun Pt ρ w H x' M ty D E X N d hf=>?_⟩
  refine Gives.pure d (v':=H) ?_ X
  have b9:=z3m (P:=P) (w:=w) hn N
  have b0:∃ A cap,H=.slice A len cap/\len<=cap:=by
   cases X with
   | sliceNil=>exact⟨none,0,rfl,Nat.le_refl _⟩
   | slice K a6 hf hc=>exact⟨_,_,rfl,a6⟩
   | sliceZ=>exact⟨_,_,rfl,Nat.le_refl _⟩
   | sliceE=>exact⟨_,_,rfl,Nat.zero_le _⟩
  obtain⟨A,cap,rfl,b6⟩:=b0
  rw[(z6y (A:=A) (cap:=cap) (ty:=ty) hu b4 R b2 b9 D E).1 (by omega)]
  obtain⟨L,hL,Q⟩:∃ L:Array Value,(Builtin.firstCells sz 0 x').run P w=.ok L w/\L.toList=[]:=by
   unfold z0x at hn
   split at hn
   ·cases N with
    | sliceNil=>exact⟨#[],rfl,rfl⟩
    | slice=>exact⟨#[],by simp[Builtin.firstCells,loadCells,loadCellsFrom],rfl⟩
    | sliceZ=>exact⟨#[],by simp[Builtin.firstCells,loadCells,loadCellsFrom],rfl⟩
    | sliceE=>exact⟨#[],by simp[Builtin.firstCells,loadCells,loadCellsFrom],rfl⟩
   ·rw[N.str_inv];exact⟨_,rfl,by simp⟩
   ·cases hn
  simp only[Sem.run_bind,hL,Result.andThen_ok,Q]
  cases A<;>rfl
 | false=>
  rw[F] at h6
  obtain⟨z,hz,h7⟩:=z9.1 (show ob (zeroL P e) _=some r from h6)
  obtain⟨hg,h8⟩:=za.1 h7
  obtain⟨old,a2,h9⟩:=z9.1 h8
  obtain⟨new,a1,d3⟩:=z9.1 h9
  obtain⟨d9,d4⟩:=za.1 d3
  simp only[Bool.and_eq_true,Nat.ble_eq,Nat.beq_eq] at hg
  obtain⟨Z,g1,g2,g3,e3⟩:=hg
  have e9:0<n:=by
   rcases Nat.eq_zero_or_pos n with h0|h0
   ·rw[h0] at F;cases F
   ·exact h0
  have p:∀(Pt:Prot) (ρ:Rho) (w:World) (m0:Mem) (H x':Value) (M:Array TypeId) (ty:TypeId) (A:Option Addr) (cap:Nat),H=.slice A len cap->¬ len+n<=cap ->
    M[0]?=some st->M[1]?=some xt->VR ρ (.slice a len b5 es) H->VR ρ x x'->Rel Pt ρ m w->Rel Pt ρ m0 w->m0.next=m.next->ρ m.next=none ->
    Gives P Pt ρ m w (Builtin.append_ M ty #[H,x']) (.slice (some (m.next,0)) (len+n) false sz) (m0.push (.cells true (old++new) (apE e))):=by
   intro Pt ρ w m0 H x' M ty A cap f3 Z D E X N d u G hf
   subst f3
   obtain⟨i,hi,e6⟩:=zec (w:=w) d7
   have a3:Builtin.nextslicecap (len+n) cap*i.bytes<=2^48:=by
    have h1:=zir (len+n) cap (by omega)
    have h2:Builtin.nextslicecap (len+n) cap*i.bytes<=(5*(len+n)/4+2048)*d2:=by rw[e6];exact Nat.mul_le_mul_right _ h1
    omega
   let w1:World:={ w with drawn:=w.drawn+1 }
   have S:Rel Pt ρ m w1:=d.of_heap rfl
   obtain⟨L1,d6,b3,f2⟩:=z3k (P:=P) S a2 (fun k q=>by cases q;exact Nat.le_refl _) X
   obtain⟨L2,Q,V,a9⟩:=z3k (P:=P) S a1 (fun k q=>by rw[hn] at q;cases q;exact Nat.le_refl _) N
   obtain⟨zv,f6,i0,f7,i1⟩:=z3d (w:=w1) (ρ:=ρ) hz
   have f8:z.cells.length=zv.cells.size:=by simpa using f7.length
   let g:=(Question.appendCap (len+n) cap e).cut (w.tape w.drawn (.appendCap (len+n) cap e))
   have e8:len+n<=g:=Nat.le_add_right _ _
   let C:=L1++L2++Builtin.zeroCells zv.cells (g-(len+n))
   have hC:C.size=g*sz:=by
    have:(Builtin.zeroCells zv.cells (g-(len+n))).size=(g-(len+n))*sz:=by
     simp[Builtin.zeroCells,<- f8,e3]
    show(L1++L2++_).size=_
    rw[Array.size_append,Array.size_append,f2,a9,this,<- Nat.add_mul,<- Nat.add_mul]
    congr 1;omega
   have Y:CellsR ρ (old++new) C 0:=by
    have hv:VRs ρ (old++new) (L1++L2).toList:=by rw[Array.toList_append];exact b3.append V
    exact hv.cellsR_append
   have a7:=z4y (u.of_heap (w':=w1) rfl) (by rw[G];exact hf) (C:=C) (e:=apE e) (e':=e) Y zgb
   refine⟨_,.slice (some ⟨w.heap.size,0+0,none⟩) (len+n) g,_,?_,by show Same ρ (upd1 ρ m0.next _) m.next (m0.next+1);rw[G];exact Same.upd1 hf,.slice (by rw[G];exact z09 _ _ _) e8 (fun hh=>by cases hh) (by show 0+0+g*sz<=C.size;rw[hC];omega),a7⟩
   rw[(z6y (A:=A) (cap:=cap) (ty:=ty) hu b4 R b2 (z3m hn N) D E).2 i hi (by omega) Z a3]
   simp only[Sem.run_bind,run_choose]
   rw[if_neg (by simp[Question.forced])]
   simp only[Result.andThen_ok]
   rw[show(Builtin.firstCells sz len (Value.slice A len cap)).run P { w with drawn:=w.drawn+1 }=_ from d6]
   simp only[Result.andThen_ok]
   rw[Q]
   simp only[Result.andThen_ok,f6,newRow,Sem.run_bind,run_newObj,Sem.run_pure]
   rfl
  rcases zl6 d4 with⟨q,O⟩|⟨id,off,c0,e0,rfl,rfl,c3,a0,f4,O⟩
  ·rw[Mem.new_eq,z19] at O
   cases O
   refine⟨_,_,rfl,fun Pt ρ w H x' M ty D E X N d hf=>?_⟩
   have b0:∃ A cap,H=.slice A len cap/\cap=len:=by
    cases X with
    | sliceNil=>exact⟨none,0,rfl,rfl⟩
    | slice K a6 b7 hc=>
     rcases q with q|q
     ·cases q
     ·exact⟨_,_,rfl,b7 q⟩
    | sliceZ=>exact⟨_,_,rfl,rfl⟩
    | sliceE=>rcases q with q|q<;>cases q
   obtain⟨A,cap,hA,b6⟩:=b0
   exact p Pt ρ w m H x' M ty A cap hA (by omega) D E X N d d rfl (hf _ (Nat.le_refl _) (Nat.lt_succ_self _))
  ·rw[Mem.new_eq,z19] at O
   cases O
   rw[Nat.beq_eq] at c3
   subst c3
   refine⟨_,_,rfl,fun Pt ρ w H x' M ty D E X N d hf=>?_⟩
   have J:(m.upd id none).next=m.next:=Mem.next_upd _ _ _
   have a4:ρ m.next=none:=hf _ (Nat.le_refl _) (by show m.next <(m.upd id none).next+1;rw[J];exact Nat.lt_succ_self _)
   have u:=d.drop id
   have f1:=X
   cases X with
   | slice K a6 b7 hc=>
    rename_i b s c cap
    by_cases B:len+n<=cap
    · -- in place
     obtain⟨C,e',fr,hh,e2,c7,hC⟩:=d.cells a0 K
     obtain⟨U,c8⟩:=e2 rfl
     have d8:e'=e:=by
      unfold plainT at Z;rw[Nat.ble_eq] at Z
      rcases f4 with rfl|rfl
      ·rcases c8 with⟨_,h,_⟩|h
       ·exact h
       ·omega
      ·rcases c8 with⟨h,_,_⟩|h
       ·unfold apE at h;omega
       ·exact(Nat.add_right_cancel (show e+1000000=e'+1000000 from h)).symm
     subst d8
     obtain⟨L2,Q,V,a9⟩:=z3k (P:=P) d a1 (fun k q=>by rw[hn] at q;cases q;exact Nat.le_refl _) N
     obtain⟨vs,b3,c9,d0⟩:=z4s d (zfd a0 a2) K
     have c2:(len+n)*es<=cap*es:=Nat.mul_le_mul_right _ B
     rw[Nat.add_mul] at c2
     have g9:old.length=len*es:=by rw[d0.length,b3]
     have g7:new.length=n*es:=by rw[V.length];simpa using a9
     obtain⟨w',C',c5,e5,f9,b8,c4,f0⟩:=z5r P b (s+off+len*es) e' fr L2.toList 0 w C (by rw[c7];exact U) hh (V.oneCells d9) (.inr (by simp;omega))
     have hp:Pt b=none:=by
      obtain⟨_,b1,s1,c1,o1,e1,_,_,h4⟩:=d.live id _ a0
      rw[K] at e1;cases e1
      exact h4
     have a5:∀ j l x,(m.upd id none).get j=some l->isRo l=false->ρ j=some x->x.1≠b:=by
      intro j l x hj hl f5
      rw[Mem.get_upd] at hj
      by_cases e:j=id
      ·rw[if_pos e] at hj;cases hj
      ·rw[if_neg e] at hj
       exact fun eb=>e (d.inj j id l _ x _ hj a0 hl rfl f5 K eb)
     have d5:BR ρ (.cells true (old++new) (apE e')) (.cells C' e' fr) (s+off) c:=by
      refine⟨C',e',fr,rfl,fun _=>⟨U,zgb⟩,by omega,fun k v q=>?_⟩
      by_cases e7:k<old.length
      ·rw[List.getElem?_append_left e7] at q
       obtain⟨v',e1,hv⟩:=d0.get q
       refine⟨v',?_,hv⟩
       rw[b8,if_neg (by omega),<- e1,<- c9 k (by omega),z72 hh]
      ·rw[List.getElem?_append_right (by omega)] at q
       obtain⟨v',e1,hv⟩:=V.get q
       have g5:=(List.getElem?_eq_some_iff.1 q).1
       refine⟨v',?_,hv⟩
       rw[b8,if_pos (by simp;omega),<- e1]
       congr 1;omega
     have a8:=Rel.reuse u (by rw[J];exact a4) (lb:=.cells true (old++new) (apE e')) rfl d5 hp a5 e5 c4 f0
     refine⟨_,.slice (some ⟨b,s+off+0,none⟩) (len+n) cap,w',?_,by show Same ρ (upd1 ρ (m.upd id none).next _) m.next ((m.upd id none).next+1);rw[J];exact Same.upd1 a4,?_,a8⟩
     ·rw[(z6y (ty:=ty) hu b4 R b2 (z3m hn N) D E).1 B]
      simp only[Sem.run_bind,Q,Result.andThen_ok,z2n,c5,Sem.run_pure]
      rfl
     ·rw[J]
      exact .slice (z09 _ _ _) B (fun hh=>by cases hh) (by omega)
    ·rw[J]
     exact p Pt ρ w (m.upd id none) _ x' M ty _ cap rfl B D E f1 N d u J a4
   | sliceE=>
    exfalso
    have e4:=(za.1 h7).1
    simp at e4
end bi
end PvL
end
section
namespace PvL
open Go
variable {t e:TypeId} {b:Nat}
section
variable {P:Program} {Pt:Prot} {ρ:Rho} {m:Mem} {w:World}
theorem zvn {v:LV}{b:UInt8}(h:u8L v=some b):∃ n:Nat,v=.int .u8 n/\b=UInt8.ofNat n:=by
 obtain⟨k,z,rfl,d⟩:=zj.1 h
 obtain⟨p,g⟩:=za.1 d
 obtain rfl:=z2b.1 p
 obtain⟨n,rfl,j⟩:=nat?_eq.1 g
 cases j
 exact⟨n,rfl,rfl⟩
theorem z8i:∀ {l:List LV} {bs:List UInt8} {vs:List Value},bytesL l=some bs->VRs ρ l vs->∃ g:List Int,vs=g.map (Value.int .u8)/\bs=g.map (fun n=>UInt8.ofNat n.toNat)
 | [],bs,vs,h,d=>by cases h;cases d;exact⟨[],rfl,rfl⟩
 | v::l,bs,vs,h,d=>by
  obtain⟨b,s,h1⟩:=z9.1 (show ob (u8L v) _=some bs from h)
  obtain⟨q,j,r⟩:=z9.1 h1
  cases r
  obtain⟨n,rfl,rfl⟩:=zvn s
  cases d with
  | cons d p=>
   obtain⟨g,rfl,rfl⟩:=z8i j p
   rw[d.int_inv]
   exact⟨(n:Int)::g,rfl,rfl⟩
theorem zaw (d:List Int):d.foldl (fun r n=>r.push (UInt8.ofNat n.toNat)) ByteArray.empty=(⟨⟨d.map fun n=>UInt8.ofNat n.toNat⟩⟩:ByteArray):=by
 rw[foldl_push_bytes]
 simp[ByteArray.empty,ByteArray.emptyWithCapacity]
 rfl
theorem zkd {s d:TypeId}{x v:LV}{x':Value}(u:Rel Pt ρ m w)(h:convM P s d x m=some v)(O:VR ρ x x'):Gives P Pt ρ m w (convert s d x') v m:=by
 unfold convM at h
 unfold convK at h
 split at h
 ·rename_i e V Q
  by_cases B:isU8 P e=true
  ·rw[if_pos B] at h
   have h:asSlice x (fun p n _ _=>strOf m p n)=some v:=h
   obtain⟨p,n,f,Z,rfl,D⟩:=z0m.1 h
   have X:P.underlying e=some (.int .u8):=by
    unfold isU8 at B
    split at B
    ·assumption
    ·cases B
   unfold strOf at D
   cases L:Nat.beq n 0 with
   | true=>
    rw[L] at D
    cases D
    have L:=Nat.eq_of_beq_eq_true L
    subst L
    refine Gives.pure u (v':=.string .empty) ?_ (.str _)
    have hA:∃ A cap,x'=.slice A 0 cap:=by
     cases O with
     | sliceNil=>exact⟨_,_,rfl⟩
     | slice=>exact⟨_,_,rfl⟩
     | sliceZ=>exact⟨_,_,rfl⟩
     | sliceE=>exact⟨_,_,rfl⟩
    obtain⟨A,cap,rfl⟩:=hA
    rw[run_convert_bytes_string w s d e A 0 cap V X Q]
    cases A with
    | none=>rfl
    | some a=>exact(run_bytesToString w a 0 cap [] rfl).trans (by rfl)
   | false=>
    rw[L] at D
    obtain⟨⟨id,off⟩,rfl,G⟩:=z9.1 (show ob p _=some v from D)
    obtain⟨l,hl,h3⟩:=z9.1 (show ob (loadN m id off n) _=some v from G)
    obtain⟨bs,a0,h4⟩:=z9.1 h3
    cases h4
    cases O with
    | slice H S hf hc=>
     rename_i b sh c cap
     obtain⟨vs,g1,g2,g3⟩:=z4s u hl H
     obtain⟨ns,rfl,rfl⟩:=z8i a0 g3
     refine Gives.pure u (v':=.string ⟨⟨ns.map fun n=>UInt8.ofNat n.toNat⟩⟩) ?_ (.str _)
     rw[run_convert_bytes_string w s d e _ n cap V X Q,run_bytesToString w _ n cap ns (z4d g1 g2),zaw]
    | sliceZ=>cases L
    | sliceE=>cases L
  ·rw[if_neg B] at h
   obtain⟨Y,D,G⟩:=z8s (w:=w) (show convL P s d x=some v from h) O
   exact Gives.pure u D G
 ·rename_i e0 e V Q
  by_cases B:(Nat.beq s d&&isU8 P e)=true
  ·rw[if_pos B] at h
   simp only[Bool.and_eq_true] at B
   obtain⟨a4,B⟩:=B
   obtain rfl:=Nat.eq_of_beq_eq_true a4
   have X:P.underlying e=some (.int .u8):=by
    unfold isU8 at B
    split at B
    ·assumption
    ·cases B
   have a1:e0=e:=by rw[V] at Q;cases Q;rfl
   subst a1
   have h:asSlice x (fun p n f e=>guard' (ownAt m p&&Nat.ble 1 n) (some (.slice p n f e)))=some v:=h
   obtain⟨p,n,f,Z,rfl,D⟩:=z0m.1 h
   obtain⟨g,G⟩:=za.1 D
   cases G
   simp only[Bool.and_eq_true,Nat.ble_eq] at g
   obtain⟨g,a6⟩:=g
   cases p with
   | none=>cases g
   | some q=>
    obtain⟨id,off⟩:=q
    have R:∃ J K,m.get id=some (.cells true J K):=by
     have g:oe (m.get id) false (fun b=>lbE b (fun own _ _=>own) (fun _ _ _=>false) (fun _ _ _ _ _ _ _ _=>false) false (fun _ _ _ _=>false) (fun _ _=>false))=true:=g
     cases hm:m.get id with
     | none=>rw[hm] at g;cases g
     | some lb=>
      rw[hm] at g
      cases lb with
      | cells own J K=>exact⟨J,K,by have g:own=true:=g;rw[g]⟩
      | _=>cases g
    obtain⟨J,K,R⟩:=R
    obtain⟨_,b0,s0,c0,o0,F,⟨C,e',fr,rfl,a2,M,hC⟩,hh,hp⟩:=u.live id _ R
    obtain⟨N,a5⟩:=a2 rfl
    have go:∀(A:Addr) (n cap:Nat),A.block=b0->VR ρ (.slice (some (id,off)) n f Z) (.slice (some A) n cap)->Gives P Pt ρ m w (convert s s (.slice (some A) n cap)) (.slice (some (id,off)) n f Z) m:=by
     intro A n cap hA hv
     subst hA
     have hw:(w.freeze { block:=A.block,off:=C.size } 1).heap[A.block]?=some (.cells C e' (C.size,C.size+1)):=by
      unfold World.freeze
      rw[if_neg (by decide)]
      simp only[Array.getElem?_modify,hh,if_pos,Option.map_some]
      rcases N with rfl|rfl
      ·simp
      ·simp[M]
     have U:∀ r,r≠A.block->(w.freeze { block:=A.block,off:=C.size } 1).heap[r]?=w.heap[r]?:=fun r hr=>by
      unfold World.freeze
      rw[if_neg (by decide)]
      simp only[Array.getElem?_modify]
      rw[if_neg (Ne.symm hr)]
     have a3:(w.freeze { block:=A.block,off:=C.size } 1).os=w.os/\(w.freeze { block:=A.block,off:=C.size } 1).output=w.output:=by
      unfold World.freeze
      rw[if_neg (by decide)]
      exact⟨rfl,rfl⟩
     have z:=u.turn R rfl rfl F (lb':=.cells true J K) ⟨C,e',(C.size,C.size+1),rfl,fun _=>⟨.inr (by rw[M]),a5⟩,M,hC⟩ hw U a3
     refine⟨ρ,.slice (some A) n cap,w.freeze { block:=A.block,off:=C.size } 1,?_,Same.refl _ _ _,hv,?_⟩
     ·unfold convert
      simp only[Sem.run_bind,Go.run_underlying V,Go.run_underlying X,Result.andThen_ok,beq_self_eq_true,markStringish,shape,freeze,Sem.run,World.shape?,hh,Sem.run_pure]
     ·have e1:m.upd id (some (.cells true J K))=m.upd id (some (.cells true J K)):=rfl
      have E:∀ j,(m.upd id (some (.cells true J K))).get j=m.get j:=fun j=>by
       rw[Mem.get_upd]
       by_cases e:j=id
       ·rw[if_pos e,e,R]
       ·rw[if_neg e]
      exact⟨z.keep,fun j l hj=>by
       have:=z.live j l (by rw[E];exact hj)
       rw[Mem.next_upd] at this;exact this,fun i j l l' x y hi hj=>z.inj i j l l' x y (by rw[E];exact hi) (by rw[E];exact hj),z.still⟩
    cases O with
    | slice H S hf hc=>
     rw[F] at H;cases H
     exact go _ _ _ rfl (.slice F S hf hc)
    | sliceZ=>omega
    | sliceE=>omega
  ·rw[if_neg B] at h
   obtain⟨Y,D,G⟩:=z8s (w:=w) (show convL P s d x=some v from h) O
   exact Gives.pure u D G
 ·obtain⟨Y,D,G⟩:=z8s (w:=w) (show convL P s d x=some v from h) O
  exact Gives.pure u D G
theorem z8r (h:z0e P t=true):∃ d,P.underlying t=some d /\ ∀ ms,d≠.interface ms:=by
 unfold z0e at h
 split at h
 ·cases h
 ·rename_i d g j
  exact⟨d,j,fun ms e=>g ms e⟩
 ·cases h
theorem zfk (h:z0e P t=true)(x:Value):(Instr.makeInterface t x).run P w=.ok (.iface t x) w:=by
 obtain⟨d,j,g⟩:=z8r h
 unfold Instr.makeInterface
 simp only[Sem.run_bind,Go.run_underlying j,Result.andThen_ok]
 cases d<;>first|rfl|exact absurd rfl (g _)
theorem zeu {xt:TypeId}{ok:Bool}{v r:LV}{v':Value}(J:z0e P t=true)(h:assertL P t ok v=some r)(F:VR ρ v v') :
  ∃ H,(Instr.typeAssert v' xt t ok).run P w=.ok H w/\VR ρ r H:=by
 obtain⟨d,E,C⟩:=z8r J
 have y:ok=true->∀ z,zeroL P t=some z->∃ p,(zeroValue t).run P w=.ok p w/\VR ρ z p:=fun _ z hz=>by
  obtain⟨p,g,j,_,_⟩:=z3d (w:=w) (ρ:=ρ) hz
  exact⟨p,g,j⟩
 unfold assertL at h
 split at h
 ·rename_i u x
  cases F with
  | iface G=>
   rename_i x'
   cases s:Nat.beq u t with
   | true=>
    rw[s] at h
    obtain rfl:=Nat.eq_of_beq_eq_true s
    refine⟨if ok then .tuple #[x',.bool true] else x',?_,?_⟩
    ·unfold Instr.typeAssert
     simp only[Sem.run_bind,Go.run_underlying E,Result.andThen_ok]
     cases d<;>first|exact absurd rfl (C _)|(simp only[if_true,Sem.run_pure])
    ·cases ok with
     | true=>cases h;exact .tup (.cons G (.cons (.bool _) .nil))
     | false=>cases h;exact G
   | false=>
    rw[s] at h
    have D:u≠t:=fun e=>by subst e;rw[Nat.beq_refl] at s;cases s
    obtain⟨q,A⟩:=za.1 (show guard' ok _=some r from h)
    subst q
    obtain⟨z,hz,B⟩:=z9.1 A
    cases B
    obtain⟨p,g,j⟩:=y rfl z hz
    refine⟨.tuple #[p,.bool false],?_,.tup (.cons j (.cons (.bool _) .nil))⟩
    unfold Instr.typeAssert
    simp only[Sem.run_bind,Go.run_underlying E,Result.andThen_ok]
    cases d<;>first|exact absurd rfl (C _)|(simp only[D,if_false,if_true,Sem.run_bind,g,Result.andThen_ok,Sem.run_pure])
 ·cases F
  obtain⟨q,A⟩:=za.1 h
  subst q
  obtain⟨z,hz,B⟩:=z9.1 A
  cases B
  obtain⟨p,g,j⟩:=y rfl z hz
  refine⟨.tuple #[p,.bool false],?_,.tup (.cons j (.cons (.bool _) .nil))⟩
  unfold Instr.typeAssert
  simp only[Sem.run_bind,Go.run_underlying E,Result.andThen_ok]
  cases d<;>first|exact absurd rfl (C _)|(simp only[if_true,Sem.run_bind,g,Result.andThen_ok,Sem.run_pure])
 ·cases h
theorem zis {op:BinOp}{v:LV}(h:nilNil P op t=some v){x y:Operand}(hy:isNilC y=true) :
  ∃ v',(do eqGuard op t x y .nilIface .nilIface;binOp op t .nilIface .nilIface:Sem Value).run P w=.ok v' w/\VR ρ v v':=by
 have hy':∃ c,y=.const c:=by
  unfold isNilC at hy
  split at hy
  ·exact⟨_,rfl⟩
  ·cases hy
 obtain⟨c,rfl⟩:=hy'
 have heq:∀ ms,P.underlying t=some (.interface ms)->(Op.equal t .nilIface .nilIface).run P w=.ok true w:=fun ms hu=>by
  show(Op.equalIn (9999+1) t .nilIface .nilIface).run P w=_
  unfold Op.equalIn
  rw[Sem.run_bind,Go.run_underlying hu,Result.andThen_ok]
  rfl
 unfold nilNil at h
 split at h
 ·rename_i ms hu
  cases h
  refine⟨.bool true,?_,.bool _⟩
  have hb:binOp .eql t .nilIface .nilIface=(do pure (.bool (<- Op.equal t .nilIface .nilIface)):Sem Value):=rfl
  rw[Sem.run_bind,show(eqGuard .eql t x (.const c) .nilIface .nilIface).run P w=.ok () w by simp[eqGuard],Result.andThen_ok,hb,Sem.run_bind,heq ms hu]
  rfl
 ·rename_i ms hu
  cases h
  refine⟨.bool false,?_,.bool _⟩
  have hb:binOp .neq t .nilIface .nilIface=(do pure (.bool (!(<- Op.equal t .nilIface .nilIface))):Sem Value):=rfl
  rw[Sem.run_bind,show(eqGuard .neq t x (.const c) .nilIface .nilIface).run P w=.ok () w by simp[eqGuard],Result.andThen_ok,hb,Sem.run_bind,heq ms hu]
  rfl
 ·cases h
theorem Rel.other (h:Rel Pt ρ m w)(z:Pt b=none)(g:∀ j l x,m.get j=some l->isRo l=false->ρ j=some x->x.1≠b){w':World}(d:∀ r,r≠b->w'.heap[r]?=w.heap[r]?)(A:w'.os=w.os/\w'.output=w.output):Rel Pt ρ m w':=by
 refine⟨fun r o p=>?_,fun j l y=>?_,h.inj,by rw[A.1,A.2];exact h.still⟩
 ·have:r≠b:=fun e=>by subst e;rw[z] at p;cases p
  rw[d r this];exact h.keep r o p
 ·obtain⟨F,s,H,B,G,v,D,E,q⟩:=h.live j l y
  have u:s≠b:=by
   by_cases p:isRo l=true
   ·rw[if_pos p] at q
    intro C;subst C;rw[z] at q;cases q.1
   ·exact g j l _ y (by simpa using p) v
  exact⟨F,s,H,B,G,v,D,by rw[d s u];exact E,q⟩
theorem Rel.freed (h:Rel Pt ρ m w){i:Nat}{lb:LB}(hi:m.get i=some lb)(g:isRo lb=false){s c:Nat}(p:ρ i=some (b,s,c)) :
  Pt b=none /\ ∀ j l x,(m.upd i none).get j=some l->isRo l=false->ρ j=some x->x.1≠b:=by
 constructor
 ·obtain⟨_,z,C,A,B,r,_,_,u⟩:=h.live i _ hi
  rw[p] at r;cases r
  rw[g] at u
  exact u
 ·intro j l x d y q
  rw[Mem.get_upd] at d
  by_cases e:j=i
  ·rw[if_pos e] at d;cases d
  ·rw[if_neg e] at d
   exact fun v=>e (h.inj j i l lb x _ d hi y g q p v)
theorem ziq (h:P.cellsOf e=1)(d off n:Nat)(j:off+n<=d):liesAt P P.depth e d off e n=true:=by
 have g:P.depth=(2*(P.types.size+Made.depth)+1)+1:=rfl
 rw[g]
 simp only[liesAt,Bool.or_eq_true]
 left
 rw[g]
 simp[rowAt,h,j,sameLayout,Nat.mod_one]
theorem zdx (p:1<=P.cellsOf e)(d:Nat)(j:1<=d):liesAt P P.depth e d 0 e 1=true:=by
 have g:P.depth=(2*(P.types.size+Made.depth)+1)+1:=rfl
 rw[g]
 simp only[liesAt,Bool.or_eq_true]
 left
 rw[g]
 have h:P.cellsOf e≠0:=by omega
 simp[rowAt,h,j,sameLayout]
theorem z5q:∀(g:List Int) (o:Nat) (d:ByteArray),(∀ k,k<g.length->w.cell? ⟨b,o+k,none⟩=(g.map (Value.int .u8))[k]?) ->
  (loadBytes ⟨b,o,none⟩ d g.length).run P w=.ok (g.foldl (fun r n=>r.push (UInt8.ofNat n.toNat)) d) w
 | [],o,d,_=>by simp[loadBytes]
 | n::g,o,d,h=>by
  have j:w.cell? ⟨b,o,none⟩=some (.int .u8 n):=by simpa using h 0 (by simp)
  simp only[List.length_cons,loadBytes,Sem.run_bind,run_load,j,Result.andThen_ok,z2n,List.foldl_cons]
  exact z5q g (o+1) _ fun k p=>by
   have:=h (k+1) (by simpa using p)
   rw[show o+1+k=o+(k+1) by omega,this];simp
theorem zj3 (h:ptrElem P t=some e):P.underlying t=some (.pointer e):=by
 unfold ptrElem at h
 split at h
 ·cases h;assumption
 ·cases h
theorem zco {pt:TypeId}{x:LV}{n:Nat}{r:R1}(h:unsafeStr P pt x n m=some r) :
  ∃ v m',r=.val v m'/\m'.next=m.next /\ ∀(Pt:Prot) (ρ:Rho) (w:World) (x':Value) (k:IntKind) (ts:Array TypeId) (ty:TypeId),ts[0]?=some pt->VR ρ x x'->Rel Pt ρ m w ->
   Gives P Pt ρ m w (Builtin.unsafeString_ ts ty #[x',.int k n]) v m':=by
 have hdef:∀(ts:Array TypeId) (ty:TypeId) (p:Option Addr) (k:IntKind) (n:Nat),Builtin.unsafeString_ ts ty #[.pointer p,.int k n]=(do
   let n <- Go.asInt (.int k n)
   let some pt:=ts[0]? | stuck "unsafe.String: no argument types"
   if n<0 then runtimePanic (.error "unsafe.String: len out of range")
   if n>IntKind.i64.max then unsupported (.unsafePointer "String: a length above the largest int")
   match p with
   | none=>
    if n=0 then pure (.string .empty)
    else runtimePanic (.error "unsafe.String: ptr is nil and len is not zero")
   | some a=>
    if n=0 then pure (.string .empty)
    else if <- variablesAt a (<- elemOf pt) n.toNat then do
     let s <- loadBytes a .empty n.toNat
     freeze a n.toNat
     pure (.string s)
    else unsupported (.unsafePointer "String: not so many bytes at ptr"):Sem Value):=fun _ _ _ _ _=>rfl
 have hmax:IntKind.i64.max=9223372036854775807:=rfl
 unfold unsafeStr at h
 cases hn:Nat.beq n 0 with
 | true=>
  rw[hn,zq] at h
  obtain rfl:=Nat.eq_of_beq_eq_true hn
  split at h
  ·cases h
   refine⟨_,_,rfl,rfl,fun Pt ρ w x' k ts ty ht hx hrel=>?_⟩
   refine Gives.pure hrel (v':=.string .empty) ?_ (.str _)
   have hp:∃ p,x'=.pointer p:=by
    cases hx with
    | ptrNil=>exact⟨_,rfl⟩
    | ptr=>exact⟨_,rfl⟩
   obtain⟨p,rfl⟩:=hp
   have:=hdef ts ty p k 0
   simp only[Int.natCast_zero] at this ⊢
   rw[this]
   cases p<;>simp[Go.asInt,asIntOf,ht,hmax]
  ·cases h
 | false=>
  rw[hn,ze] at h
  have hn0:n≠0:=fun e=>by subst e;cases hn
  obtain⟨u,hu,h1⟩:=z9.1 h
  obtain⟨id,off,rfl,h2⟩:=z0v.1 h1
  obtain⟨own,cs,ty0,hg,h3⟩:=z1q.1 h2
  obtain⟨hgd,h4⟩:=za.1 h3
  obtain⟨l,hl,h5⟩:=z9.1 h4
  obtain⟨bs,hbs,h6⟩:=z9.1 h5
  cases h6
  simp only[Bool.and_eq_true,Bool.or_eq_true,Nat.beq_eq,Nat.ble_eq] at hgd
  obtain⟨rfl,hty,_,hc1,hn63⟩:=hgd
  refine⟨_,_,rfl,Mem.next_upd _ _ _,fun Pt ρ w x' k ts ty ht hx hrel=>?_⟩
  cases hx with
  | ptr hρ=>
   rename_i b s c
   obtain⟨C,e',fr,hh,hfr,hsz,hC⟩:=hrel.cells hg hρ
   obtain⟨hthaw,htr⟩:=hfr rfl
   have hee:e'=u:=by
    rcases hty with⟨rfl,hpl⟩|rfl
    ·unfold plainT at hpl;rw[Nat.ble_eq] at hpl
     rcases htr with⟨_,h,_⟩|h
     ·exact h
     ·exact absurd h (by omega)
    ·rcases htr with⟨h,_,_⟩|h
     ·exact absurd h (by unfold apE;omega)
     ·exact(Nat.add_right_cancel (show u+1000000=e'+1000000 from h)).symm
   subst hee
   obtain⟨vs,g1,g2,g3⟩:=z4s hrel (i:=id) (off:=off) (n:=n) (l:=l) (z1q.2 ⟨_,_,_,hg,hl⟩) hρ
   obtain⟨ns,rfl,rfl⟩:=z8i hbs g3
   have hnl:ns.length=n:=by simpa using g1
   have hlast:s+off+n<=C.size:=by
    have hk:=g2 (n-1) (by omega)
    rw[z72 hh] at hk
    have:(ns.map (Value.int .u8))[n-1]?=some ((ns.map (Value.int .u8))[n-1]'(by simp;omega)):=List.getElem?_eq_getElem _
    rw[this] at hk
    have:=(Array.getElem?_eq_some_iff.1 hk).1
    omega
   obtain⟨hp,hfree⟩:=hrel.freed hg rfl hρ
   have hw:∀ r,r≠b->(w.freeze { block:=b,off:=s+off } n).heap[r]?=w.heap[r]?:=fun r hr=>by
    unfold World.freeze
    rw[if_neg hn0]
    simp only[Array.getElem?_modify]
    rw[if_neg (Ne.symm hr)]
   have hos:(w.freeze { block:=b,off:=s+off } n).os=w.os/\(w.freeze { block:=b,off:=s+off } n).output=w.output:=by
    unfold World.freeze
    rw[if_neg hn0]
    exact⟨rfl,rfl⟩
   refine⟨ρ,.string ⟨⟨ns.map fun n=>UInt8.ofNat n.toNat⟩⟩,w.freeze { block:=b,off:=s+off } n,?_,by rw[Mem.next_upd];exact Same.refl _ _ _,.str _,(hrel.drop id).other hp hfree hw hos⟩
   rw[hdef]
   have hlies:liesAt P P.depth e' (C.size/P.cellsOf e') (s+off) e' n=true:=by rw[hc1,Nat.div_one];exact ziq hc1 _ _ _ hlast
   have hlb:=z5q (P:=P) (w:=w) (b:=b) ns (s+off) .empty (fun k hk=>g2 k (by omega))
   rw[hnl,zaw] at hlb
   have hneg:¬(n:Int)<0:=by omega
   have h63:¬(9223372036854775807:Int) <(n:Int):=by omega
   have hz:¬(n:Int)=0:=by omega
   have hrunf:∀ w:World,(freeze { block:=b,off:=s+off } n).run P w=.ok () (w.freeze { block:=b,off:=s+off } n):=fun _=>rfl
   simp only[Go.asInt,asIntOf,Sem.run_bind,Sem.run_pure,Result.andThen_ok,ht,hmax,hneg,if_false,gt_iff_lt,h63,hz,elemOf,Go.run_underlying (zj3 hu),variablesAt,run_program,shape,Int.toNat_natCast]
   have hsh:(Sem.shape b Sem.pure:Sem (Option (TypeId×Nat))).run P w=.ok (some (e',C.size)) w:=by
    simp[Sem.run,World.shape?,hh]
   simp only[hsh,Result.andThen_ok,hlies,if_true,Sem.run_bind,hlb,hrunf,Sem.run_pure]
end
end PvL
end
section
namespace PvL
open Go
variable {k c:Nat} {f:FuncId}
section
variable {P:Program} {Pt:Prot} {ρ:Rho} {m:Mem} {w:World} {T:Tm} {a:Act}
theorem zid {s:String}(h:extName s=k+1):(k=0/\s= "internal/abi.NoEscape") ∨(k=1/\s= "internal/bytealg.CountString") ∨(k=2/\s= "internal/bytealg.IndexByteString") ∨(k=3/\s= "internal/bytealg.MakeNoZero"):=by
 unfold extName at h
 split at h
 ·rename_i e;exact .inl ⟨by omega,by simpa using e⟩
 ·split at h
  ·rename_i e;exact .inr (.inl ⟨by omega,by simpa using e⟩)
  ·split at h
   ·rename_i e;exact .inr (.inr (.inl ⟨by omega,by simpa using e⟩))
   ·split at h
    ·rename_i e;exact .inr (.inr (.inr ⟨by omega,by simpa using e⟩))
    ·cases h
theorem zry (h:extK P f=k+1):∃ fn,P.funcs[f]?=some fn/\fn.body.isNone=true/\Extern.findNext fn=none/\extName fn.name=k+1/\(k=3->∃ t e,fn.resultTypes[0]?=some t/\P.underlying t=some (.slice e)/\extE P f=e):=by
 unfold extK at h
 cases p:P.funcs[f]? with
 | none=>rw[p] at h;cases h
 | some fn=>
  rw[p] at h
  have h:ifb fn.body.isNone (ifb (Extern.findNext fn).isNone (nE (extName fn.name) 0 fun k=>ifb (Nat.beq k 3) (ifb (oe (extRow P fn) false fun e=>isU8 P e&&plainT e) 4 0) (Nat.succ k)) 0) 0=k+1:=h
  cases j:fn.body.isNone with
  | false=>rw[j] at h;cases h
  | true=>
   rw[j,zq] at h
   cases q:(Extern.findNext fn).isNone with
   | false=>rw[q] at h;cases h
   | true=>
    rw[q,zq] at h
    refine⟨fn,rfl,j,by simpa using q,?_⟩
    cases r:extName fn.name with
    | zero=>rw[r] at h;cases h
    | succ n=>
     rw[r,zfl] at h
     cases d:Nat.beq n 3 with
     | false=>
      rw[d,ze] at h
      obtain rfl:n=k:=Nat.succ.inj h
      refine⟨rfl,fun e=>?_⟩
      subst e;cases d
     | true=>
      rw[d,zq] at h
      obtain rfl:n=3:=Nat.eq_of_beq_eq_true d
      cases g:extRow P fn with
      | none=>rw[g] at h;cases h
      | some e=>
       rw[g] at h
       obtain rfl:k=3:=by
        have h:ifb (isU8 P e&&plainT e) 4 0=k+1:=h
        cases s:(isU8 P e&&plainT e) with
        | false=>rw[s] at h;cases h
        | true=>rw[s,zq] at h;exact(Nat.succ.inj h).symm
       obtain⟨t,v,u⟩:=z9.1 g
       exact⟨rfl,fun _=>⟨t,e,v,z24 u,by unfold extE;rw[p];show oe (extRow P fn) 0 _=_;rw[g];rfl⟩⟩
theorem z92 {fn:Func}(p:P.funcs[f]?=some fn)(g:fn.body.isNone=true)(q:(fn.name == "runtime.NumGoroutine")=false)(h:Extern.findNext fn=none){E:Array Value->Sem Value}(j:Extern.find fn=some E){d:Array Value}{v:Value}{w':World}(r:(E d).run P w=.ok v w') :
  (callFunc f d).run P w=.ok (.value v) w':=by
 have g:fn.body=none:=by simpa using g
 unfold callFunc
 simp only[Sem.run_bind,run_program,Result.andThen_ok,p,q,Bool.false_eq_true,if_false,g,Option.isNone_none,if_true,h,j]
 show(Result.andThen ((E d).run P w) _)=_
 rw[r]
 rfl
theorem zig {β:Type}(f:β->UInt8->β)(b:ByteArray)(z:β):b.foldl f z=b.data.toList.foldl f z:=by
 have p:b.data.toList.length=b.size:=by rw[Array.length_toList];rfl
 have loop:∀(i j:Nat) (z:β),j+i=b.size->ByteArray.foldlM.loop (m:=Id) (fun z x=>pure (f z x)) b b.size (Nat.le_refl _) i j z=(b.data.toList.drop j).foldl f z:=by
  intro i
  induction i with
  | zero=>
   intro j z g
   unfold ByteArray.foldlM.loop
   rw[dif_neg (by omega),List.drop_eq_nil_of_le (by omega)];rfl
  | succ i h=>
   intro j z g
   unfold ByteArray.foldlM.loop
   rw[dif_pos (by omega)]
   have d:b.data.toList.drop j=b[j]'(by omega)::b.data.toList.drop (j+1):=by
    rw[List.drop_eq_getElem_cons (by omega)]
    congr 1
   rw[d]
   show ByteArray.foldlM.loop (m:=Id) (fun z x=>pure (f z x)) b b.size _ i (j+1) (f z (b[j]'(by omega)))=_
   rw[h (j+1) _ (by omega)];rfl
 unfold ByteArray.foldl ByteArray.foldlM
 show Id.run (dite _ _ _)=_
 rw[dif_pos (Nat.le_refl _)]
 have:=loop (b.size-0) 0 z (by omega)
 rw[List.drop_zero] at this
 exact this
theorem zpv {b:UInt8}(d:c<=255):(b==c.toUInt8)=Nat.beq b.toNat c:=by
 have:c.toUInt8.toNat=c:=by show c%256=c;omega
 rw[Bool.eq_iff_iff,Nat.beq_eq,beq_iff_eq,<- UInt8.toNat_inj,this]
theorem zf6 (d:c<=255):∀(l:List UInt8) (n:Nat),l.foldl (fun(n:Int) x=>if x==c.toUInt8 then n+1 else n) (n:Int)=(cntL c l n:Int)
 | [],_=>rfl
 | b::l,n=>by
  show l.foldl _ (if b==c.toUInt8 then(n:Int)+1 else n)=((ifb (Nat.beq b.toNat c) (cntL c l (Nat.succ n)) (cntL c l n):Nat):Int)
  rw[zpv d]
  cases Nat.beq b.toNat c with
  | true=>rw[if_pos rfl,zq];exact zf6 d l (n+1)
  | false=>rw[if_neg (by decide),ze];exact zf6 d l _
theorem zkw (q:c<=255)(s:ByteArray):∀(l:List UInt8) (j:Nat),s.data.toList.drop j=l->(List.range' j l.length).find? (fun i=>s[i]! == c.toUInt8)=idxL c l j
 | [],_,_=>rfl
 | b::l,j,h=>by
  have d:j<s.data.toList.length:=by
   rcases Nat.lt_or_ge j s.data.toList.length with g|g
   ·exact g
   ·rw[List.drop_eq_nil_of_le g] at h;cases h
  have p:j<s.size:=by rw[Array.length_toList] at d;exact d
  rw[List.drop_eq_getElem_cons d] at h
  injection h with g h2
  have r:s[j]! = b:=by
   rw[getElem!_pos s j p,<- g];rfl
  rw[List.length_cons,List.range'_succ,List.find?_cons,r,zpv q]
  show _=ifb (Nat.beq b.toNat c) (some j) (idxL c l (Nat.succ j))
  cases Nat.beq b.toNat c with
  | true=>rfl
  | false=>rw[ze];exact zkw q s l (j+1) h2
theorem z8v:∀(n t:Nat) (d:Array Value),(Extern.BytealgMakeNoZero.digits n t d).size=d.size+n
 | 0,_,_=>rfl
 | n+1,t,d=>by
  unfold Extern.BytealgMakeNoZero.digits
  rw[z8v n,Array.size_push];omega
theorem znz (hk:extK P f=k+1){as:List LV}{r:R1}(h:extL (k+1) (extE P f) as m=some r){A:Array Value}(hA:VRs ρ as A.toList)(hrel:Rel Pt ρ m w)(hf:∀ v m',r=.val v m'->Fresh ρ m.next m'.next) :
  ∃ v m',r=.val v m' /\ ∃ ρ' v' w',(callFunc f A).run P w=.ok (.value v') w'/\Same ρ ρ' m.next m'.next/\VR ρ' v v'/\Rel Pt ρ' m' w':=by
 obtain⟨fn,hg,hb,hx,hnm,hu⟩:=zry hk
 obtain⟨l⟩:=A
 have hA:VRs ρ as l:=hA
 obtain⟨x,q,rfl,h1⟩:=z1d.1 h
 have one:∀ {x:LV} {q:List LV},q.isEmpty=true->VRs ρ (x::q) l->∃ x',l=[x']/\VR ρ x x':=by
  intro x q hq hA
  obtain rfl:q=[]:=by simpa using hq
  cases hA with
  | cons h1 h2=>cases h2;exact⟨_,rfl,h1⟩
 have two:∀ {s:ByteArray} {c:LV} {q:List LV},q.isEmpty=true->VRs ρ (.str s::c::q) l->∃ c',l=[.string s,c']/\VR ρ c c':=by
  intro s c q hq hA
  obtain rfl:q=[]:=by simpa using hq
  cases hA with
  | cons h1 h2=>
   cases h2 with
   | cons h3 h4=>cases h4;rw[h1.str_inv];exact⟨_,rfl,h3⟩
 rcases zid hnm with⟨rfl,hn⟩|⟨rfl,hn⟩|⟨rfl,hn⟩|⟨rfl,hn⟩
 ·obtain⟨hq,h2⟩:=za.1 (show guard' q.isEmpty (rv m x)=some r from h1)
  cases h2
  obtain⟨x',rfl,hx'⟩:=one hq hA
  refine⟨_,_,rfl,ρ,x',w,z92 hg hb (by rw[hn];decide) hx (show Extern.find fn=some Extern.AbiNoEscape.same by unfold Extern.find;rw[hn];rfl) rfl,Same.refl _ _ _,hx',hrel⟩
 ·obtain⟨c,q',rfl,h2⟩:=z1d.1 (show arg0 q _=some r from h1)
  obtain⟨hq,h3⟩:=za.1 h2
  obtain⟨s,rfl,h4⟩:=z0g.1 h3
  obtain⟨kc,z,rfl,h5⟩:=zj.1 h4
  obtain⟨hkc,h6⟩:=za.1 h5
  obtain⟨c,rfl,h7⟩:=nat?_eq.1 h6
  obtain⟨hc,h8⟩:=za.1 h7
  rw[Nat.ble_eq] at hc
  rw[z19] at h8
  cases h8
  obtain⟨c',rfl,hc'⟩:=two hq hA
  obtain rfl:kc=.u8:=z2b.1 hkc
  rw[hc'.int_inv]
  refine⟨_,_,rfl,ρ,.int .i64 (cntL c s.data.toList 0),w,z92 hg hb (by rw[hn];decide) hx (show Extern.find fn=some Extern.BytealgCount.count by unfold Extern.find;rw[hn];rfl) ?_,Same.refl _ _ _,.int _ _,hrel⟩
  have e:(Extern.BytealgCount.count #[.string s,.int .u8 c]).run P w=.ok (.int .i64 (s.foldl (fun(n:Int) x=>if x==c.toUInt8 then n+1 else n) ((0:Nat):Int))) w:=rfl
  show(Extern.BytealgCount.count #[.string s,.int .u8 c]).run P w=_
  rw[e,zig,zf6 hc]
 ·obtain⟨c,q',rfl,h2⟩:=z1d.1 (show arg0 q _=some r from h1)
  obtain⟨hq,h3⟩:=za.1 h2
  obtain⟨s,rfl,h4⟩:=z0g.1 h3
  obtain⟨kc,z,rfl,h5⟩:=zj.1 h4
  obtain⟨hkc,h6⟩:=za.1 h5
  obtain⟨c,rfl,h7⟩:=nat?_eq.1 h6
  obtain⟨hc,h8⟩:=za.1 h7
  rw[Nat.ble_eq] at hc
  obtain⟨c',rfl,hc'⟩:=two hq hA
  obtain rfl:kc=.u8:=z2b.1 hkc
  rw[hc'.int_inv]
  have hi:=zkw hc s s.data.toList 0 rfl
  have hrun:∀ o,(List.range s.size).find? (fun i=>s[i]! == c.toUInt8)=o->(Extern.BytealgIndexByte.indexByte #[.string s,.int .u8 c]).run P w=.ok (match o with|some i=>goInt i|none=>goInt (-1)) w:=by
   intro o ho
   show(match (List.range s.size).find? (fun i=>s[i]! == c.toUInt8) with|some i=>pure (goInt i)|none=>pure (goInt (-1)):Sem Value).run P w=_
   rw[ho]
   cases o<;>rfl
  rw[List.range_eq_range'] at hrun
  have hrun:=hrun _ (show _=idxL c s.data.toList 0 from hi)
  have hfind:Extern.find fn=some Extern.BytealgIndexByte.indexByte:=by unfold Extern.find;rw[hn];rfl
  cases ho:idxL c s.data.toList 0 with
  | none=>
   rw[ho] at h8 hrun
   cases h8
   exact⟨_,_,rfl,ρ,_,w,z92 hg hb (by rw[hn];decide) hx hfind hrun,Same.refl _ _ _,.int _ _,hrel⟩
  | some i=>
   rw[ho] at h8 hrun
   have h8:fN i (fun n=>rv m (.int .i64 (.ofNat n)))=some r:=h8
   rw[z19] at h8
   cases h8
   exact⟨_,_,rfl,ρ,_,w,z92 hg hb (by rw[hn];decide) hx hfind hrun,Same.refl _ _ _,.int _ _,hrel⟩
 ·obtain⟨hq,h2⟩:=za.1 (show guard' q.isEmpty _=some r from h1)
  obtain⟨kx,z,rfl,h3⟩:=zj.1 h2
  obtain⟨hkx,h4⟩:=za.1 h3
  obtain⟨n,rfl,h5⟩:=nat?_eq.1 h4
  obtain⟨hn1,h6⟩:=za.1 h5
  rw[Nat.ble_eq] at hn1
  rw[Mem.new_eq] at h6
  cases h6
  obtain rfl:kx=.i64:=z2b.1 hkx
  obtain⟨x',rfl,hx'⟩:=one hq hA
  rw[hx'.int_inv]
  have hf0:=hf _ _ rfl _ (Nat.le_refl _) (Nat.lt_succ_self _)
  obtain⟨t,e,ht,he,hE⟩:=hu rfl
  rw[hE]
  let cap:=(Question.appendCap n 0 e).cut (w.tape w.drawn (.appendCap n 0 e))
  have hcap:n<=cap:=Nat.le_add_right _ _
  let w1:World:={ w with drawn:=w.drawn+1 }
  let by':=(Question.extern "internal/bytealg.MakeNoZero.bytes" 0).cut (w1.tape w1.drawn (.extern "internal/bytealg.MakeNoZero.bytes" 0))
  let C:=Extern.BytealgMakeNoZero.digits cap by' #[]
  have hC:C.size=cap:=by show(Extern.BytealgMakeNoZero.digits cap by' #[]).size=cap;rw[z8v];simp
  have hnew:=z4y (hrel.of_heap (w':={ w with drawn:=w.drawn+1+1 }) rfl) hf0 (cs:=[]) (C:=C) (e:=apE e) (e':=e) (fun k v hk=>by cases hk) zgb
  refine⟨_,_,rfl,_,.slice (some ⟨w.heap.size,0+0,none⟩) n cap,_,z92 hg hb (by rw[hn];decide) hx (show Extern.find fn=some (Extern.BytealgMakeNoZero.makeNoZero fn.params fn.resultTypes) by unfold Extern.find;rw[hn];rfl) ?_,Same.upd1 hf0,.slice (z09 _ _ _) hcap (fun hh=>by cases hh) (by rw[hC];omega),hnew⟩
  have e1:Extern.BytealgMakeNoZero.makeNoZero fn.params fn.resultTypes #[.int .i64 n]=(do
    let some t:=fn.resultTypes[0]? | stuck "bytealg.MakeNoZero: no result type"
    let .slice elem <- underlying t|stuck "bytealg.MakeNoZero: slice type expected"
    if (n:Int)<0 ||(n:Int)>2^48 then runtimePanic (.error "makeslice: len out of range")
    let cap <- choose (.appendCap (n:Int).toNat 0 elem)
    askRoom cap
    let bytes <- choose (.extern "internal/bytealg.MakeNoZero.bytes" 0)
    let a <- newRow elem (Extern.BytealgMakeNoZero.digits cap bytes #[])
    pure (.slice (some a) (n:Int).toNat cap)):=rfl
  show(Extern.BytealgMakeNoZero.makeNoZero fn.params fn.resultTypes #[.int .i64 n]).run P w=_
  rw[e1]
  have hcond:(decide ((n:Int)<0)||decide ((n:Int)>2^48))=false:=by simp;omega
  simp only[ht,Sem.run_bind,Go.run_underlying he,Result.andThen_ok,hcond,Bool.false_eq_true,if_false,run_choose,Int.toNat_natCast]
  rw[if_neg (by simp[Question.forced])]
  simp only[Result.andThen_ok,run_askRoom]
  rw[if_neg (by simp[Question.forced])]
  simp only[Result.andThen_ok,newRow,Sem.run_bind,run_newObj,Sem.run_pure]
  rfl
end
end PvL
end
section
namespace PvL
open Go
variable {o:Oper} {args':Array Value}
section op1
variable {P:Program}
theorem znr {m:Mem}{V:TypeId}{d x:LV}{r:R1}(h:copyL P V d x m rvm=some r) :
  ∃ v U,r=.val v U /\ ∀(Pt:Prot) (ρ:Rho) (w:World) (C x':Value) (K:Array TypeId) (ty:TypeId),K[0]?=some V->VR ρ d C->VR ρ x x'->Rel Pt ρ m w ->
   Gives P Pt ρ m w (Builtin.copy_ K ty #[C,x']) v U:=by
 obtain⟨e,Z,h1⟩:=z9.1 h
 obtain⟨sz,B,h2⟩:=z9.1 h1
 obtain⟨a,D,X,es,rfl,h3⟩:=z0m.1 h2
 obtain⟨sl,j,E⟩:=z9.1 h3
 rw[z19] at E
 cases q:Nat.beq (Nat.min sl D) 0 with
 | true=>
  rw[q] at E
  cases E
  have q:Nat.min sl D=0:=Nat.eq_of_beq_eq_true q
  have M:=z24 Z
  refine⟨_,_,rfl,fun Pt ρ w C x' K ty J G s g=>?_⟩
  refine Gives.pure g (v':=.int .i64 (Nat.min sl D)) ?_ (.int _ _)
  obtain⟨L,F,N⟩:∃ L:Array Value,(Builtin.firstCells sz 0 x').run P w=.ok L w/\L.toList=[]:=by
   unfold z0x at j
   split at j
   ·cases s with
    | sliceNil=>exact⟨#[],rfl,rfl⟩
    | slice=>exact⟨#[],by simp[Builtin.firstCells,loadCells,loadCellsFrom],rfl⟩
    | sliceZ=>exact⟨#[],by simp[Builtin.firstCells,loadCells,loadCellsFrom],rfl⟩
    | sliceE=>exact⟨#[],by simp[Builtin.firstCells,loadCells,loadCellsFrom],rfl⟩
   ·rw[s.str_inv];exact⟨_,rfl,by simp⟩
   ·cases j
  have O:∃ A cap,C=.slice A D cap:=by
   cases G with
   | sliceNil=>exact⟨_,_,rfl⟩
   | slice=>exact⟨_,_,rfl⟩
   | sliceZ=>exact⟨_,_,rfl⟩
   | sliceE=>exact⟨_,_,rfl⟩
  obtain⟨A,cap,rfl⟩:=O
  unfold Builtin.copy_
  simp only[J,List.getElem?_toArray,List.getElem?_cons_zero,List.getElem?_cons_succ,Sem.run_bind,Go.run_underlying M,Result.andThen_ok,z3m j s,z03 B,q,F,N]
  cases A<;>rfl
 | false=>
 rw[q,ze] at E
 have a0:∀ k,z0x x=some k->Nat.min sl D<=k:=fun k u=>by rw[j] at u;cases u;exact Nat.min_le_left _ _
 obtain⟨l,hl,h5⟩:=z9.1 E
 obtain⟨Q,Y⟩:=za.1 h5
 have M:=z24 Z
 cases a with
 | none=>
  cases Y
  refine⟨_,_,rfl,fun Pt ρ w C x' K ty J G s g=>?_⟩
  cases G with
  | sliceNil=>
   obtain⟨L,F,hv,_⟩:=z3k (P:=P) g hl (fun k u=>by rw[j] at u;cases u;exact Nat.min_le_left _ _) s
   refine Gives.pure g (v':=.int .i64 (Nat.min sl 0)) ?_ (.int _ _)
   unfold Builtin.copy_
   simp only[J,List.getElem?_toArray,List.getElem?_cons_zero,List.getElem?_cons_succ,Sem.run_bind,Go.run_underlying M,Result.andThen_ok,z3m j s,z03 B,F]
   rfl
 | some p=>
  obtain⟨id,off⟩:=p
  obtain⟨U,R,h7⟩:=z9.1 (show ob (storeCs m id off l) _=some r from Y)
  cases h7
  refine⟨_,_,rfl,fun Pt ρ w C x' K ty J G s g=>?_⟩
  cases G with
  | sliceZ=>exact absurd q (by rw[show Nat.min sl 0=0 from Nat.min_zero _];decide)
  | sliceE=>exact absurd q (by rw[show Nat.min sl 0=0 from Nat.min_zero _];decide)
  | slice S a1 hf hc=>
   obtain⟨L,F,hv,_⟩:=z3k (P:=P) g hl (fun k u=>by rw[j] at u;cases u;exact Nat.min_le_left _ _) s
   obtain⟨w',H,z,y⟩:=za6 (P:=P) g R hv Q S
   refine⟨ρ,.int .i64 (Nat.min sl D),w',?_,by rw[y];exact Same.refl _ _ _,.int _ _,z⟩
   unfold Builtin.copy_
   simp only[J,List.getElem?_toArray,List.getElem?_cons_zero,List.getElem?_cons_succ,Sem.run_bind,Go.run_underlying M,Result.andThen_ok,z3m j s,z03 B,F,H]
   rfl
def R1.mem:R1->Mem | .val _ m | .skip m | .enter _ _ m | .round _ _ m | .boom _ m=>m
def OpOk (P:Program)(Pt:Prot)(ρ:Rho)(m:Mem)(w:World)(a:Act)(o:Oper):R1->Prop
 | .val v d=>∃ g v' w',(execOp a.eval o).run P w=.ok (.value v') w'/\Same ρ g m.next d.next/\VR g v v'/\Rel Pt g d w'
 | .skip d=>∃ w',(execOp a.eval o).run P w=.ok .skip w'/\Rel Pt ρ d w'/\d.next=m.next
 | .enter f args d=>d=m /\ ∀ fn,fnOf P f=some fn->∃ args',(execOp a.eval o).run P w=.ok (.enter f args') w/\VRs ρ args args'.toList
 | .round l args d=>d=m /\ ∃ b s c args',ρ l=some (b,s,c)/\VRs ρ args args'.toList/\(execOp a.eval o).run P w=(Instr.yield b args').run P w
 | .boom v d=>d=m /\ ∃ v',(execOp a.eval o).run P w=.halt (.panic v') w/\VR ρ v v'
variable {Pt:Prot} {ρ:Rho} {m:Mem} {w:World} {T:Tm} {a:Act}
theorem z1h {v:LV}{s:Sem Value}(he:execOp a.eval o=(do pure (.value (<- s)):Sem Next))(hrel:Rel Pt ρ m w)(h:∃ v',s.run P w=.ok v' w/\VR ρ v v'):OpOk P Pt ρ m w a o (.val v m):=by
 obtain⟨v',hr,hv⟩:=h
 exact⟨ρ,v',w,by rw[he,Sem.run_bind,hr];rfl,Same.refl _ _ _,hv,hrel⟩
theorem z0z {v:LV}{m':Mem}{s:Sem Value}(he:execOp a.eval o=(do pure (.value (<- s)):Sem Next))(h:Gives P Pt ρ m w s v m'):OpOk P Pt ρ m w a o (.val v m'):=by
 obtain⟨ρ',v',w',hr,hs,hv,hrel⟩:=h
 exact⟨ρ',v',w',by rw[he,Sem.run_bind,hr];rfl,hs,hv,hrel⟩
theorem z3g {m:Mem}{x:Option LV}{r:R1}(h:ob x (rv m)=some r):∃ v,x=some v/\r=.val v m:=by
 obtain⟨v,d,h⟩:=z9.1 h
 cases h
 exact⟨v,d,rfl⟩
theorem z90 {T:Tm}{a:Act}(h:TR ρ T a.tmps){x:Option Operand}{v:Option LV}(d:evOpt T x=some v):OR ρ v (x.map a.eval):=by
 cases x with
 | none=>cases d;trivial
 | some x=>
  obtain⟨u,j,g⟩:=z9.1 (show ob (ev T x) _=some v from d)
  cases g
  exact zu h j
theorem zb4 {α β:Type}(xs:Array α)(f:α->β):(xs.map f)=(xs.toList.map f).toArray:=by
 rw[<-Array.toList_map,Array.toArray_toList]
theorem zk9 {f:LV}{args:List LV}{r:R1}(h:callV f args m=some r){f':Value}(hf:VR ρ f f')(ha:VRs ρ args args'.toList) :
  (∃ g as,r=.enter g as m /\ ∀ fn,fnOf P g=some fn->∃ as',(do let d <- Deferred.ofValue f' args';invoke d.target d.args:Sem Next).run P w=.ok (.enter g as') w/\VRs ρ as as'.toList) ∨
  (∃ l b s c,r=.round l args m/\ρ l=some (b,s,c)/\(do let d <- Deferred.ofValue f' args';invoke d.target d.args:Sem Next).run P w=(Instr.yield b args').run P w):=by
 unfold callV at h
 split at h
 ·rename_i g fi ca
  cases h
  left
  refine⟨g,_,rfl,fun fn hfn=>?_⟩
  cases hf with
  | func h1 h2=>
   rename_i fi' ca'
   obtain⟨fn',hg,h3⟩:=z9.1 hfn
   obtain⟨hbody,h4⟩:=za.1 h3
   obtain⟨hname,h5⟩:=za.1 h4
   cases h5
   refine⟨fi'++args'++ca',?_,?_⟩
   ·simp only[Deferred.ofValue,Sem.run_bind,Sem.run_pure,Result.andThen_ok,invoke,callFunc,run_program,hg]
    have hnone:fn.body.isNone=false:=by cases hb:fn.body with
     | none=>rw[hb] at hbody;cases hbody
     | some _=>rfl
    have hnm:(fn.name == "runtime.NumGoroutine")=false:=by simpa using hname
    simp only[hnm,hnone,Bool.false_eq_true,if_false]
    rfl
   ·simp only[Array.toList_append]
    exact(h1.append ha).append h2
 ·rename_i l
  cases h
  right
  cases hf with
  | yield hρ=>
   rename_i b s c
   refine⟨l,b,s,c,rfl,hρ,?_⟩
   show(Instr.yield b (#[]++args')).run P w=_
   rw[Array.empty_append]
 ·cases h
theorem zcl {x y:LV}{A:Array Value}(h:VRs ρ [x,y] A.toList):∃ x' g,A=#[x',g]/\VR ρ x x'/\VR ρ y g:=by
 obtain⟨l⟩:=A
 have h:VRs ρ [x,y] l:=h
 cases h with
 | cons j d=>cases d with
  | cons d p=>cases p;exact⟨_,_,rfl,j,d⟩
theorem zax:∀(d:List FieldStep) (t:TypeId) (v:LV) (xt:TypeId) (x:LV) (v':Value),pathL P d t v=some (xt,x)->VR ρ v v'->∃ x',(follow d t (.val v')).run P w=.ok (xt,.val x') w/\VR ρ x x'
 | [],t,v,xt,x,v',h,B=>by
  cases h
  exact⟨v',rfl,B⟩
 | s::r,t,v,xt,x,v',h,B=>by
  obtain⟨p,h1⟩:=za.1 (show guard' (!s.deref) _=some (xt,x) from h)
  obtain⟨f,q,G⟩:=z9.1 h1
  obtain⟨u,O,H⟩:=z9.1 G
  have p:s.deref=false:=by simpa using p
  obtain⟨⟨off,n,S⟩,M,J⟩:=z9.1 (show ob (fieldPl P s.struct s.index) _=some u from O)
  obtain⟨U,rfl,h5⟩:=z1b.1 (show asAgg v _=some u from J)
  obtain⟨V,F,g,D,z,L,j⟩:=z75 M
  have z:off=F.offset:=z
  subst z
  have y:f=F:=by
   unfold fieldOf at q
   rw[g] at q
   exact Option.some.inj (q.symm.trans D)
  subst y
  obtain⟨E,rfl,K⟩:=B.agg_inv
  obtain⟨R,N,A⟩:=z9u (P:=P) (w:=w) h5 j L K
  obtain⟨x',Q,C⟩:=zax r f.type u xt x R H A
  refine⟨x',?_,C⟩
  unfold follow
  simp only[Sem.run_bind,Go.run_underlying g,Result.andThen_ok,D]
  simp[p,N,Q]
theorem zik {T:Tm}{a:Act}(hT:TR ρ T a.tmps){rc:Operand}{nm:String}{as:List LV}{r:R1}(h:oInvoke P rc nm as T m=some r)(ha:VRs ρ as args'.toList) :
  ∃ g x,r=.enter g (x::as) m /\ ∀ fn,fnOf P g=some fn->∃ as',(invoke (.fn (.method nm) #[]) (#[a.eval rc]++args')).run P w=.ok (.enter g as') w/\VRs ρ (x::as) as'.toList:=by
 obtain⟨rv,hrv,h1⟩:=z9.1 (show ob (ev T rc) _=some r from h)
 obtain⟨t,v,rfl,h2⟩:=z6z.1 h1
 obtain⟨⟨g,path⟩,hm,h3⟩:=z9.1 h2
 obtain⟨⟨xt,x⟩,hp,h4⟩:=z9.1 (show ob (pathL P path t v) _=some r from h3)
 obtain⟨hnp,h5⟩:=za.1 (show guard' (notPtr P xt) (some (R1.enter g (x::as) m))=some r from h4)
 cases h5
 refine⟨g,x,rfl,fun fn hfn=>?_⟩
 obtain⟨fn',hg,hf3⟩:=z9.1 hfn
 obtain⟨hbody,hf4⟩:=za.1 hf3
 obtain⟨hname,hf5⟩:=za.1 hf4
 cases hf5
 have hnone:fn.body.isNone=false:=by cases hb:fn.body with
  | none=>rw[hb] at hbody;cases hbody
  | some _=>rfl
 have hnm:(fn.name == "runtime.NumGoroutine")=false:=by simpa using hname
 obtain⟨i,hi,hm2⟩:=z9.1 (show ob (P.info? t) _=some (g,path) from hm)
 obtain⟨me,hme,hm3⟩:=z9.1 hm2
 have hmf:me.func=some (g,false)/\me.path.toList=path:=by
  split at hm3
  ·rename_i g' he
   cases hm3
   exact⟨he,rfl⟩
  ·cases hm3
 obtain⟨v0,he0,hv0⟩:∃ v0,a.eval rc=.iface t v0/\VR ρ v v0:=by
  have hx:=zu hT hrv
  generalize a.eval rc=z at hx
  cases hx with
  | iface h=>exact⟨_,rfl,h⟩
 obtain⟨x',hfo,hx'⟩:=zax (P:=P) (w:=w) path t v xt x v0 hp hv0
 have hmeth:∀ k,(method (k+1) t v0 nm).run P w=.ok (g,x') w:=fun k=>by
  unfold method
  simp only[Sem.run_bind,PvL.run_typeInfo hi,Result.andThen_ok,hme,hmf.2,hfo,hmf.1]
  have hrecv:∀ wr,(receiverAt xt (.val x') false wr).run P w=.ok x' w:=fun wr=>by
   unfold notPtr at hnp
   cases hu:P.underlying xt with
   | none=>rw[hu] at hnp;cases hnp
   | some d=>
    rw[hu] at hnp
    unfold receiverAt
    simp only[Sem.run_bind,Go.run_underlying hu,Result.andThen_ok]
    cases d<;>first|rfl|cases hnp
  simp[hrecv]
 have hcall:(callMethod (a.eval rc) nm args').run P w=.ok (.enter g (#[x']++args')) w:=by
  unfold callMethod
  rw[he0]
  simp only[Sem.run_bind,run_program,Result.andThen_ok]
  rw[show P.types.size+Made.depth=(P.types.size+99)+1 from rfl,hmeth]
  simp only[Result.andThen_ok]
  unfold callFunc
  simp only[Sem.run_bind,run_program,Result.andThen_ok,hg,hnm,hnone,Bool.false_eq_true,if_false]
  rfl
 refine⟨#[x']++args',?_,?_⟩
 ·show(do
   let some recv:=(#[a.eval rc]++args')[0]? | stuck "call: a method without a receiver"
   callMethod recv nm ((#[a.eval rc]++args').extract 1 (#[a.eval rc]++args').size):Sem Next).run P w=_
  have e0:#[a.eval rc]++args'=⟨a.eval rc::args'.toList⟩:=by
   apply Array.ext'
   rw[Array.toList_append]
   rfl
  rw[e0]
  have e1:(⟨a.eval rc::args'.toList⟩:Array Value)[0]?=some (a.eval rc):=rfl
  have e2:(⟨a.eval rc::args'.toList⟩:Array Value).extract 1 (⟨a.eval rc::args'.toList⟩:Array Value).size=args':=by
   apply Array.ext'
   rw[Array.toList_extract]
   show List.take (args'.toList.length+1-1) (List.drop 1 (a.eval rc::args'.toList))=args'.toList
   exact List.take_of_length_le (Nat.le_refl _)
  rw[e1,e2]
  exact hcall
 ·rw[Array.toList_append]
  exact .cons hx' ha
set_option maxHeartbeats 2000000 in
theorem z9s {r:R1}(h:op1 P o.op T m=some r)(hT:TR ρ T a.tmps)(hrel:Rel Pt ρ m w)(hf:Fresh ρ m.next r.mem.next):OpOk P Pt ρ m w a o r:=by
 obtain⟨dst,op,ty,pos,after,guard⟩:=o
 cases op with
 | move x=>
  obtain⟨v,hv,rfl⟩:=z3g (show ob (ev T x) (rv m)=some r from h)
  exact⟨ρ,_,w,rfl,Same.refl _ _ _,zu hT hv,hrel⟩
 | assign x=>
  obtain⟨v,hv,rfl⟩:=z3g (show ob (ev T x) (rv m)=some r from h)
  exact⟨ρ,_,w,rfl,Same.refl _ _ _,zu hT hv,hrel⟩
 | pick c x y=>
  obtain⟨cv,hc,h1⟩:=z9.1 (show ob (ev T c) _=some r from h)
  obtain⟨b,rfl,h2⟩:=z1w.1 h1
  have hcv:=(zu hT hc).bool_inv
  cases b with
  | true=>
   obtain⟨v,hv,rfl⟩:=z3g (show ob (ev T x) (rv m)=some r from h2)
   refine⟨ρ,a.eval x,w,?_,Same.refl _ _ _,zu hT hv,hrel⟩
   simp[execOp,hcv,Go.asBool]
  | false=>
   obtain⟨v,hv,rfl⟩:=z3g (show ob (ev T y) (rv m)=some r from h2)
   refine⟨ρ,a.eval y,w,?_,Same.refl _ _ _,zu hT hv,hrel⟩
   simp[execOp,hcv,Go.asBool]
 | alloc t=>
  obtain⟨z,hz,h1⟩:=z9.1 (show ob (zeroL P t) _=some r from h)
  obtain⟨hfl,h2⟩:=za.1 h1
  obtain⟨hpt,h2⟩:=za.1 (show guard' (plainT t) _=some r from h2)
  rw[Mem.new_eq] at h2
  cases h2
  obtain⟨zv,hz1,hz2,hzc,hzf⟩:=z3d (w:=w) (ρ:=ρ) hz
  have hn:=zb9 (P:=P) (t:=t) hrel (hf _ (Nat.le_refl _) (Nat.lt_succ_self _)) hzc hpt
  refine z0z (s:=Instr.alloc t true (.tuple #[])) rfl ?_
  obtain⟨ρ',v',w',h3,h4⟩:=hn
  refine⟨ρ',v',w',?_,h4⟩
  simp only[Instr.alloc,Sem.run_bind,hz1,Result.andThen_ok]
  exact h3
 | box t x=>
  obtain⟨v,hv,h1⟩:=z9.1 (show ob (ev T x) _=some r from h)
  obtain⟨hfl,h2⟩:=za.1 h1
  obtain⟨hpt,h2⟩:=za.1 (show guard' (plainT t) _=some r from h2)
  rw[Mem.new_eq] at h2
  cases h2
  exact z0z (s:=Instr.box t (a.eval x)) rfl (zb9 (P:=P) (t:=t) hrel (hf _ (Nat.le_refl _) (Nat.lt_succ_self _)) ((zu hT hv).cells hfl) hpt)
 | build t ps=>
  obtain⟨vs,hvs,h1⟩:=z9.1 (show ob (evParts T ps.toList) _=some r from h)
  obtain⟨v,hv,rfl⟩:=z3g h1
  obtain⟨v',hr,hvr⟩:=zi0 (P:=P) (w:=w) (z91 hT hvs) hv
  refine z1h (s:=Instr.build t (ps.map fun(i,x)=>(i,a.eval x))) rfl hrel ⟨v',?_,hvr⟩
  rw[zb4];exact hr
 | buildSlice t n ps=>
  obtain⟨vs,hvs,h1⟩:=z9.1 (show ob (evParts T ps.toList) _=some r from h)
  obtain⟨v,b,rfl,hsim⟩:=z8g h1
  refine z0z (s:=Instr.buildSlice t n (ps.map fun(i,x)=>(i,a.eval x))) rfl ?_
  rw[zb4]
  exact hsim Pt ρ w _ (z91 hT hvs) hrel (hf _ (Nat.le_refl _) (Nat.lt_succ_self _))
 | load t x=>
  obtain⟨x1,hx,h1⟩:=z9.1 (show ob (ev T x) _=some r from h)
  obtain⟨v,hv,rfl⟩:=z3g h1
  obtain⟨ad,v',e,hr,hvr⟩:=zdz hrel (zu hT hx) hv
  refine z1h (s:=Instr.loadAt t (a.eval x)) rfl hrel ⟨v',?_,hvr⟩
  rw[e]
  exact hr
 | store t x y=>
  obtain⟨x1,hx,h1⟩:=z9.1 (show ob (ev T x) _=some r from h)
  obtain⟨y1,hy,h2⟩:=z9.1 h1
  obtain⟨m',hm,h3⟩:=z9.1 h2
  cases h3
  obtain⟨w',hr,hrel',hn⟩:=zja (P:=P) hrel (zu hT hx) (zu hT hy) hm
  exact⟨w',by simp[execOp,hr],hrel',hn⟩
 | nilCheck x=>
  obtain⟨x1,hx,h1⟩:=z9.1 (show ob (ev T x) _=some r from h)
  obtain⟨v,hv,rfl⟩:=z3g h1
  obtain⟨ad,e,hvr⟩:=zc9 hv (zu hT hx)
  exact⟨ρ,a.eval x,w,by simp[execOp,e],Same.refl _ _ _,hvr,hrel⟩
 | binOp op t x y yt=>
  obtain⟨x1,hx,h1⟩:=z9.1 (show ob (ev T x) _=some r from h)
  obtain⟨y1,hy,h2⟩:=z9.1 h1
  obtain⟨v,hv,rfl⟩:=z3g h2
  cases hb:ifb (isNilI x1) (ifb (isNilI y1) (isNilC y) false) false with
  | false=>
   rw[hb] at hv
   exact z1h rfl hrel (zn1 (P:=P) (w:=w) hv (zu hT hx) (zu hT hy) x y)
  | true=>
   rw[hb] at hv
   have hx1:x1=.nilIface:=by
    cases x1<;>first|rfl|(cases hb)
   subst hx1
   have hb:ifb (isNilI y1) (isNilC y) false=true:=hb
   have hy1:y1=.nilIface:=by
    cases y1<;>first|rfl|(cases hb)
   subst hy1
   have hb:isNilC y=true:=hb
   have ex:a.eval x=.nilIface:=by
    have:=zu hT hx
    generalize a.eval x=q at this
    cases this;rfl
   have ey:a.eval y=.nilIface:=by
    have:=zu hT hy
    generalize a.eval y=q at this
    cases this;rfl
   refine z1h rfl hrel ?_
   rw[ex,ey]
   exact zis (P:=P) (w:=w) hv hb
 | unOp op t x=>
  obtain⟨x1,hx,h1⟩:=z9.1 (show ob (ev T x) _=some r from h)
  obtain⟨v,hv,rfl⟩:=z3g h1
  exact z1h rfl hrel (zt6 hv (zu hT hx))
 | convert s d x=>
  obtain⟨x1,hx,h1⟩:=z9.1 (show ob (ev T x) _=some r from h)
  obtain⟨v,hv,rfl⟩:=z3g h1
  exact z0z rfl (zkd hrel hv (zu hT hx))
 | makeFunc fn fi ca=>
  have h:fnFunc fn (fun g=>ob (evs T fi.toList) fun a=>ob (evs T ca.toList) fun b=>some (R1.val (.func (.func g) a b) m))=some r:=h
  cases fn with
  | func g=>
   obtain⟨x1,hx,h1⟩:=z9.1 (show ob (evs T fi.toList) _=some r from h)
   obtain⟨y1,hy,h2⟩:=z9.1 h1
   cases h2
   refine⟨ρ,_,w,rfl,Same.refl _ _ _,.func ?_ ?_,hrel⟩
   ·rw[Array.toList_map];exact zc4 hT hx
   ·rw[Array.toList_map];exact zc4 hT hy
  | _=>cases h
 | makeMap t rv0=>
  obtain⟨hg,h1⟩:=za.1 (show guard' rv0.isNone _=some r from h)
  rw[Mem.new_eq] at h1
  cases h1
  cases rv0 with
  | some _=>cases hg
  | none=>
   have hf0:=hf _ (Nat.le_refl _) (Nat.lt_succ_self _)
   refine⟨_,.map (some w.heap.size),_,?_,Same.upd1 hf0,.map (z09 _ _ (w.heap.size,0,0)),hrel.alloc hf0 rfl (o:=.map #[] 0) ⟨#[],rfl,trivial,rfl⟩⟩
   simp[execOp,Instr.makeMap]
 | makeSlice t l c=>
  obtain⟨x1,hx,h1⟩:=z9.1 (show ob (ev T l) _=some r from h)
  obtain⟨y1,hy,h2⟩:=z9.1 h1
  obtain⟨v,b,rfl,hsim⟩:=zaj h2
  exact z0z rfl (hsim Pt ρ w _ _ (zu hT hx) (zu hT hy) hrel (hf _ (Nat.le_refl _) (Nat.lt_succ_self _)))
 | slice t x lo hi mx=>
  obtain⟨x1,hx,h1⟩:=z9.1 (show ob (ev T x) _=some r from h)
  obtain⟨lo1,hlo,h2⟩:=z9.1 h1
  obtain⟨hi1,hhi,h3⟩:=z9.1 h2
  obtain⟨mx1,hmx,h4⟩:=z9.1 h3
  obtain⟨v,hv,rfl⟩:=z3g h4
  exact z1h rfl hrel (zj8 hrel hv (zu hT hx) (z90 hT hlo) (z90 hT hhi) (z90 hT hmx))
 | fieldAddr t x f=>
  obtain⟨x1,hx,h1⟩:=z9.1 (show ob (ev T x) _=some r from h)
  obtain⟨v,hv,rfl⟩:=z3g h1
  exact z1h rfl hrel (zag hv (zu hT hx))
 | field t x f=>
  obtain⟨x1,hx,h1⟩:=z9.1 (show ob (ev T x) _=some r from h)
  obtain⟨v,hv,rfl⟩:=z3g h1
  exact z1h rfl hrel (zie hv (zu hT hx))
 | indexAddr t x i=>
  obtain⟨x1,hx,h1⟩:=z9.1 (show ob (ev T x) _=some r from h)
  obtain⟨y1,hy,h2⟩:=z9.1 h1
  obtain⟨v,hv,rfl⟩:=z3g h2
  exact z1h rfl hrel (zah hv (zu hT hx) (zu hT hy))
 | index t x i=>
  obtain⟨x1,hx,h1⟩:=z9.1 (show ob (ev T x) _=some r from h)
  obtain⟨y1,hy,h2⟩:=z9.1 h1
  obtain⟨v,hv,rfl⟩:=z3g h2
  exact z1h rfl hrel (zij hv (zu hT hx) (zu hT hy))
 | lookup t x i ok=>
  obtain⟨x1,hx,h1⟩:=z9.1 (show ob (ev T x) _=some r from h)
  obtain⟨y1,hy,h2⟩:=z9.1 h1
  obtain⟨v,hv,rfl⟩:=z3g h2
  exact z1h rfl hrel (zfj hrel hv (zu hT hx) (zu hT hy))
 | mapUpdate t x k y=>
  obtain⟨x1,hx,h1⟩:=z9.1 (show ob (ev T x) _=some r from h)
  obtain⟨k1,hk,h2⟩:=z9.1 h1
  obtain⟨y1,hy,h3⟩:=z9.1 h2
  obtain⟨m',hm,h4⟩:=z9.1 h3
  cases h4
  obtain⟨w',hr,hrel',hn⟩:=z5o (P:=P) hrel hm (zu hT hx) (zu hT hk) (zu hT hy)
  exact⟨w',by simp[execOp,hr],hrel',hn⟩
 | insert t x k y=>
  obtain⟨x1,hx,h1⟩:=z9.1 (show ob (ev T x) _=some r from h)
  obtain⟨k1,hk,h2⟩:=z9.1 h1
  obtain⟨y1,hy,h3⟩:=z9.1 h2
  obtain⟨m',hm,h4⟩:=z9.1 h3
  cases h4
  obtain⟨w',hr,hrel',hn⟩:=z5o (P:=P) hrel hm (zu hT hx) (zu hT hk) (zu hT hy)
  exact⟨w',by simp[execOp,hr],hrel',hn⟩
 | makeInterface t x=>
  obtain⟨hc,h1⟩:=za.1 (show guard' (z0e P t) _=some r from h)
  obtain⟨v,hv,h2⟩:=z9.1 h1
  cases h2
  exact z1h (s:=Instr.makeInterface t (a.eval x)) rfl hrel ⟨_,zfk hc _,.iface (zu hT hv)⟩
 | typeAssert x xt t ok=>
  obtain⟨hc,h1⟩:=za.1 (show guard' (z0e P t) _=some r from h)
  obtain⟨v,hv,h2⟩:=z9.1 h1
  obtain⟨q,hq,rfl⟩:=z3g h2
  exact z1h (s:=Instr.typeAssert (a.eval x) xt t ok) rfl hrel (zeu hc hq (zu hT hv))
 | extract x i=>
  obtain⟨x1,hx,h1⟩:=z9.1 (show ob (ev T x) _=some r from h)
  obtain⟨vs,rfl,h2⟩:=zbr.1 h1
  obtain⟨v,hv,rfl⟩:=z3g h2
  exact z1h rfl hrel (zfb hv (zu hT hx))
 | call c=>
  obtain⟨callee,args,ats⟩:=c
  obtain⟨as,has,h1⟩:=z9.1 (show ob (evs T args.toList) _=some r from h)
  have hargs:VRs ρ as (args.map a.eval).toList:=by rw[Array.toList_map];exact zc4 hT has
  cases callee with
  | invoke rc nm=>
   have h2:oInvoke P rc nm as T m=some r:=h1
   obtain⟨g,x,rfl,hg⟩:=zik (P:=P) (w:=w) hT h2 hargs
   refine⟨rfl,fun fn hfn=>?_⟩
   obtain⟨as',h3,h4⟩:=hg fn hfn
   exact⟨as',h3,h4⟩
  | value f=>
   have h1:nE (extKO P f) (ob (ev T f) fun f=>callV f as m) (fun k=>extL (Nat.succ k) (extEO P f) as m)=some r:=h1
   cases hk:extKO P f with
   | succ k=>
    rw[hk,zfl] at h1
    cases f with
    | func g=>
     obtain⟨v,m',rfl,ρ',v',w',hr,hs,hv,hrel'⟩:=znz (k:=k) hk h1 hargs hrel (fun v m' e=>by subst e;exact hf)
     refine⟨ρ',v',w',?_,hs,hv,hrel'⟩
     show(do let d <- Deferred.ofValue (.func (.func g) #[] #[]) (args.map a.eval);invoke d.target d.args:Sem Next).run P w=_
     simp only[Deferred.ofValue,Sem.run_bind,Sem.run_pure,Result.andThen_ok,invoke]
     rw[show(#[]++args.map a.eval ++ #[]:Array Value)=args.map a.eval by simp]
     exact hr
    | _=>cases hk
   | zero=>
   rw[hk,zll] at h1
   obtain⟨fv,hfv,h2⟩:=z9.1 (show ob (ev T f) _=some r from h1)
   have hex:execOp a.eval ⟨dst,.call ⟨.value f,args,ats⟩,ty,pos,after,guard⟩=(do let d <- Deferred.ofValue (a.eval f) (args.map a.eval);invoke d.target d.args:Sem Next):=rfl
   rcases zk9 (P:=P) (w:=w) h2 (zu hT hfv) hargs with⟨g,gs,rfl,hg⟩|⟨l,b,s,c,rfl,hρ,hg⟩
   ·refine⟨rfl,fun fn hfn=>?_⟩
    obtain⟨as',h3,h4⟩:=hg fn hfn
    exact⟨as',by rw[hex];exact h3,h4⟩
   ·exact⟨rfl,b,s,c,args.map a.eval,hρ,hargs,by rw[hex];exact hg⟩
  | builtin bi=>
   have hex:execOp a.eval ⟨dst,.call ⟨.builtin bi,args,ats⟩,ty,pos,after,guard⟩=builtin bi ats ty (args.map fun | .const _=>true|_=>false) (args.map a.eval):=rfl
   have h1:callB P bi ats.toList as m=some r:=h1
   cases bi with
   | append=>
    obtain⟨st,ts1,ht1,h2⟩:=z1d.1 (show arg0 ats.toList _=some r from h1)
    obtain⟨xt,ts2,ht2,h3⟩:=z1d.1 h2
    obtain⟨s,as1,rfl,h4⟩:=z1d.1 h3
    obtain⟨x,as2,rfl,h5⟩:=z1d.1 h4
    obtain⟨he,h6⟩:=za.1 h5
    obtain rfl:as2=[]:=by simpa using he
    obtain⟨v,m',rfl,hsim⟩:=zhu h6
    have hA:=zcl hargs
    obtain⟨s',x',hA,hs,hx⟩:=hA
    refine z0z (s:=Builtin.append_ ats ty (args.map a.eval)) (by rw[hex];rfl) ?_
    rw[hA]
    exact hsim Pt ρ w s' x' ats ty (by rw[<-Array.getElem?_toList,ht1];rfl) (by rw[<-Array.getElem?_toList,ht1,ht2];rfl) hs hx hrel hf
   | copy=>
    obtain⟨dt,ts1,ht1,h2⟩:=z1d.1 (show arg0 ats.toList _=some r from h1)
    obtain⟨s,as1,rfl,h4⟩:=z1d.1 h2
    obtain⟨x,as2,rfl,h5⟩:=z1d.1 h4
    obtain⟨he,h6⟩:=za.1 h5
    obtain rfl:as2=[]:=by simpa using he
    obtain⟨v,m',rfl,hsim⟩:=znr h6
    obtain⟨s',x',hA,hs,hx⟩:=zcl hargs
    refine z0z (s:=Builtin.copy_ ats ty (args.map a.eval)) (by rw[hex];rfl) ?_
    rw[hA]
    exact hsim Pt ρ w s' x' ats ty (by rw[<-Array.getElem?_toList,ht1];rfl) hs hx hrel
   | len=>
    obtain⟨t,ts1,ht1,h2⟩:=z1d.1 (show arg0 ats.toList _=some r from h1)
    obtain⟨x,as1,rfl,h3⟩:=z1d.1 h2
    obtain⟨v,hv,rfl⟩:=z3g h3
    refine z1h (s:=Builtin.len_ ats ty (args.map a.eval)) (by rw[hex];rfl) hrel ?_
    have e:args.map a.eval=((args.map a.eval).toList).toArray:=by rw[Array.toArray_toList]
    rw[e]
    cases hA:(args.map a.eval).toList with
    | nil=>rw[hA] at hargs;cases hargs
    | cons x' as'=>
     rw[hA] at hargs
     cases hargs with
     | cons hx hrest=>exact zo8 hrel hv hx ats ty as' (by rw[<-Array.getElem?_toList,ht1];rfl)
   | cap=>
    obtain⟨t,ts1,ht1,h2⟩:=z1d.1 (show arg0 ats.toList _=some r from h1)
    obtain⟨ht,h3⟩:=za.1 h2
    obtain⟨x,as1,rfl,h4⟩:=z1d.1 (show arg0 as _=some r from h3)
    obtain⟨he,h5⟩:=za.1 (show guard' as1.isEmpty (capL x m)=some r from h4)
    obtain rfl:as1=[]:=by simpa using he
    obtain⟨p,n,f,e,rfl,h6⟩:=z0m.1 h5
    obtain⟨hp,h7⟩:=za.1 h6
    obtain rfl:p=none:=by simpa using hp
    cases h7
    refine z1h (s:=Builtin.cap_ ats ty (args.map a.eval)) (by rw[hex];rfl) hrel ?_
    obtain⟨x',hA,hx⟩:∃ x',args.map a.eval=#[x']/\VR ρ (.slice none n f e) x':=by
     generalize args.map a.eval=A at hargs
     obtain⟨l⟩:=A
     have hargs:VRs ρ [.slice none n f e] l:=hargs
     cases hargs with
     | cons h1 h2=>cases h2;exact⟨_,rfl,h1⟩
    rw[hA]
    cases hx
    obtain⟨eT,hu⟩:∃ e,P.underlying t=some (.slice e):=by
     unfold isSlT at ht
     split at ht
     ·exact⟨_,by assumption⟩
     ·cases ht
    refine⟨.int .i64 0,?_,.int _ _⟩
    have h0:ats[0]?=some t:=by rw[<-Array.getElem?_toList,ht1];rfl
    unfold Builtin.cap_
    simp only[h0,List.getElem?_toArray,List.getElem?_cons_zero,Sem.run_bind,Go.run_underlying hu,Result.andThen_ok]
    rfl
   | max=>
    obtain⟨x,as1,rfl,h3⟩:=z1d.1 (show arg0 as _=some r from h1)
    obtain⟨v,hv,rfl⟩:=z3g h3
    refine z1h (s:=Builtin.max_ ats ty (args.map a.eval)) (by rw[hex];rfl) hrel ?_
    unfold Builtin.max_
    cases hA:(args.map a.eval).toList with
    | nil=>rw[hA] at hargs;cases hargs
    | cons x' as'=>
     rw[hA] at hargs
     cases hargs with
     | cons hx hrest=>exact z95 (fun _ _ _ _ _ g1 g2 g3=>zlh g1 g2 g3) _ _ _ _ _ hv hx hrest
   | min=>
    obtain⟨x,as1,rfl,h3⟩:=z1d.1 (show arg0 as _=some r from h1)
    obtain⟨v,hv,rfl⟩:=z3g h3
    refine z1h (s:=Builtin.min_ ats ty (args.map a.eval)) (by rw[hex];rfl) hrel ?_
    unfold Builtin.min_
    cases hA:(args.map a.eval).toList with
    | nil=>rw[hA] at hargs;cases hargs
    | cons x' as'=>
     rw[hA] at hargs
     cases hargs with
     | cons hx hrest=>exact z95 (fun _ _ _ _ _ g1 g2 g3=>zli g1 g2 g3) _ _ _ _ _ hv hx hrest
   | unsafeSliceData=>
    obtain⟨x,as1,rfl,h2⟩:=z1d.1 (show arg0 as _=some r from h1)
    obtain⟨he,h3⟩:=za.1 h2
    obtain rfl:as1=[]:=by simpa using he
    obtain⟨p,n,f,e,rfl,h4⟩:=z0m.1 h3
    obtain⟨x',hA,hx⟩:∃ x',args.map a.eval=#[x']/\VR ρ (.slice p n f e) x':=by
     generalize args.map a.eval=A at hargs
     obtain⟨l⟩:=A
     have hargs:VRs ρ [.slice p n f e] l:=hargs
     cases hargs with
     | cons h1 h2=>cases h2;exact⟨_,rfl,h1⟩
    cases p with
    | none=>
     cases h4
     refine z1h (s:=Builtin.unsafeSliceData_ ats ty (args.map a.eval)) (by rw[hex];rfl) hrel ?_
     rw[hA]
     cases hx
     exact⟨_,rfl,.ptrNil⟩
    | some q=>
     obtain⟨hn,h5⟩:=za.1 (show guard' (Nat.ble 1 n) _=some r from h4)
     rw[Nat.ble_eq] at hn
     cases h5
     refine z1h (s:=Builtin.unsafeSliceData_ ats ty (args.map a.eval)) (by rw[hex];rfl) hrel ?_
     rw[hA]
     have hcap:∃ cap A,x'=.slice (some A) n cap/\1<=cap/\VR ρ (.ptr (some q)) (.pointer (some A)):=by
      cases hx with
      | slice hρ hle hf hc=>exact⟨_,_,rfl,by omega,.ptr hρ⟩
      | sliceZ=>omega
      | sliceE=>omega
     obtain⟨cap,A,rfl,hc1,hv⟩:=hcap
     obtain⟨k,rfl⟩:∃ k,cap=k+1:=⟨cap-1,by omega⟩
     exact⟨_,rfl,hv⟩
   | unsafeString=>
    obtain⟨pt,ts1,ht1,h2⟩:=z1d.1 (show arg0 ats.toList _=some r from h1)
    obtain⟨x,as1,rfl,h3⟩:=z1d.1 h2
    obtain⟨y,as2,rfl,h4⟩:=z1d.1 h3
    obtain⟨he,h5⟩:=za.1 h4
    obtain rfl:as2=[]:=by simpa using he
    obtain⟨k,z,rfl,h6⟩:=zj.1 h5
    obtain⟨n,rfl,h7⟩:=nat?_eq.1 h6
    obtain⟨v,m',rfl,hnx,hsim⟩:=zco h7
    obtain⟨x',y',hA,hx,hy⟩:=zcl hargs
    refine z0z (s:=Builtin.unsafeString_ ats ty (args.map a.eval)) (by rw[hex];rfl) ?_
    rw[hA,hy.int_inv]
    exact hsim Pt ρ w x' k ats ty (by rw[<-Array.getElem?_toList,ht1];rfl) hx hrel
   | _=>cases h1
 | _=>cases h
end op1
end PvL
end
section
namespace PvL
open Go
variable {i n k:Nat}
def Mono (n:Nat)(x:Option R1):Prop:=∀ r,x=some r->n<=(match r with | .val _ m | .skip m | .enter _ _ m | .round _ _ m | .boom _ m=>m.next)
section
variable {α β:Type} {n:Nat}
theorem Mono.none:Mono n none:=fun _ h=>(by cases h)
theorem Mono.ob {x:Option α}{f:α->Option R1}(h:∀ a,Mono n (f a)):Mono n (ob x f):=fun r g=>by
 obtain⟨a,_,d⟩:=z9.1 g;exact h a r d
theorem Mono.guard {b:Bool}{x:Option R1}(h:Mono n x):Mono n (guard' b x):=fun r d=>h r (za.1 d).2
theorem Mono.ifb {b:Bool}{x y:Option R1}(h:Mono n x)(d:Mono n y):Mono n (ifb b x y):=by cases b<;>assumption
theorem Mono.oe {x:Option α}{z:Option R1}{f:α->Option R1}(h:Mono n z)(d:∀ a,Mono n (f a)):Mono n (oe x z f):=by cases x with
 | none=>exact h
 | some a=>exact d a
theorem Mono.pr {x:α×β}{f:α->β->Option R1}(h:∀ a b,Mono n (f a b)):Mono n (pr x f):=by cases x;exact h _ _
theorem Mono.asInt {v:LV}{k:IntKind->Int->Option R1}(h:∀ a b,Mono n (k a b)):Mono n (asInt v k):=fun r g=>by
 obtain⟨a,b,_,d⟩:=zj.1 g;exact h a b r d
theorem Mono.asBool {v:LV}{k:Bool->Option R1}(h:∀ a,Mono n (k a)):Mono n (asBool v k):=fun r g=>by
 obtain⟨a,_,d⟩:=z1w.1 g;exact h a r d
theorem Mono.asTup {v:LV}{k:List LV->Option R1}(h:∀ a,Mono n (k a)):Mono n (asTup v k):=fun r g=>by
 obtain⟨a,_,d⟩:=zbr.1 g;exact h a r d
theorem Mono.asSlice {v:LV}{k:Option (Nat×Nat)->Nat->Bool->Nat->Option R1}(h:∀ a b c d,Mono n (k a b c d)):Mono n (asSlice v k):=fun r j=>by
 obtain⟨a,b,c,d,_,g⟩:=z0m.1 j;exact h a b c d r g
theorem Mono.nat {z:Int}{k:Nat->Option R1}(h:∀ a,Mono n (k a)):Mono n (nat? z k):=by
 cases z with
 | ofNat a=>exact h a
 | negSucc a=>exact Mono.none
theorem Mono.fN {k:Nat->Option R1}{a:Nat}(h:Mono n (k a)):Mono n (fN a k):=by rw[z19];exact h
theorem Mono.val {v:LV}{m:Mem}(h:n<=m.next):Mono n (some (.val v m)):=fun r d=>by cases d;exact h
theorem Mono.skip {m:Mem}(h:n<=m.next):Mono n (some (.skip m)):=fun r d=>by cases d;exact h
theorem Mono.enter {f:FuncId}{d:List LV}{m:Mem}(h:n<=m.next):Mono n (some (.enter f d m)):=fun r g=>by cases g;exact h
theorem Mono.round {f:Nat}{d:List LV}{m:Mem}(h:n<=m.next):Mono n (some (.round f d m)):=fun r g=>by cases g;exact h
theorem Mono.boom {v:LV}{m:Mem}(h:n<=m.next):Mono n (some (.boom v m)):=fun r d=>by cases d;exact h
theorem Mono.new {m:Mem}{b:LB}{k:Nat->Mem->Option R1}(h:∀ i d,d.next=m.next+1->Mono n (k i d)):Mono n (m.new b k):=by
 rw[Mem.new_eq];exact h _ _ rfl
theorem Mono.atCells {m:Mem}{k:Bool->List LV->TypeId->Option R1}(h:∀ a b c,Mono n (k a b c)):Mono n (atCells m i k):=by
 unfold PvL.atCells
 refine Mono.ob fun b=>?_
 cases b with
 | cells a b c=>exact h _ _ _
 | _=>exact Mono.none
theorem Mono.arg0 {l:List α}{k:α->List α->Option R1}(h:∀ a d,Mono n (k a d)):Mono n (arg0 l k):=by
 cases l with
 | nil=>exact Mono.none
 | cons a d=>exact h a d
end
section
variable {P:Program} {T:Tm} {m:Mem}
theorem z7z {off:Nat}{vs:List LV}{d:Mem}(h:storeCs m i off vs=some d):d.next=m.next:=by
 unfold storeCs at h
 unfold PvL.atCells at h
 obtain⟨b,_,h⟩:=z9.1 h
 cases b with
 | cells a b c=>
  obtain⟨_,h⟩:=za.1 (show guard' _ _=some d from h)
  obtain⟨_,_,h⟩:=z9.1 h
  cases h
  exact Mem.next_upd _ _ _
 | _=>cases h
theorem zfy {t:TypeId}{x v:LV}{d:Mem}(h:storeT P t m x v=some d):d.next=m.next:=by
 obtain⟨_,_,_,h⟩:=z0v.1 h
 obtain⟨_,_,h⟩:=z9.1 h
 obtain⟨_,h⟩:=za.1 h
 obtain⟨_,h⟩:=za.1 h
 exact z7z h
theorem z4v {t:TypeId}{x k v:LV}{d:Mem}(h:mapUpdateL P t x k v m=some d):d.next=m.next:=by
 obtain⟨⟨_,_⟩,_,h⟩:=z9.1 h
 obtain⟨_,h⟩:=za.1 (show guard' _ _=some d from h)
 obtain⟨_,_,h⟩:=z26.1 h
 obtain⟨_,_,h⟩:=z9.1 h
 unfold PvL.atMap at h
 obtain⟨b,_,h⟩:=z9.1 h
 cases b with
 | map r j g=>
  obtain⟨p,_,h⟩:=z9.1 (show ob _ _=some d from h)
  cases p with
  | none=>
   simp only[z47,z19] at h
   cases h;exact Mem.next_upd _ _ _
  | some q=>
   obtain⟨_,_,_⟩:=q
   obtain⟨_,h⟩:=za.1 (show guard' _ _=some d from h)
   cases h;exact Mem.next_upd _ _ _
 | _=>cases h
theorem Mono.obSkip {x:Option Mem}(h:∀ d,x=some d->d.next=m.next):Mono m.next (PvL.ob x fun m=>some (.skip m)):=fun r p=>by
 obtain⟨d,g,j⟩:=z9.1 p
 cases j
 exact Nat.le_of_eq (h d g).symm
theorem Mono.obRv {x:Option LV}:Mono m.next (PvL.ob x (rv m)):=Mono.ob fun _=>Mono.val (Nat.le_refl _)
theorem zet {st xt:TypeId}{s x:LV}:Mono m.next (appendL P st xt s x m rvm):=by
 unfold appendL
 refine Mono.ob fun e=>Mono.ob fun q=>Mono.ifb Mono.none (Mono.ob fun sz=>Mono.ob fun h=>Mono.asSlice fun a len d j=>Mono.ob fun n=>Mono.ifb (Mono.val (Nat.le_refl _)) (Mono.ob fun z=>Mono.guard (Mono.ob fun old=>Mono.ob fun new=>Mono.guard ?_)))
 unfold killed
 refine Mono.oe (Mono.new fun i g e=>Mono.fN (Mono.val (by omega))) fun p=>Mono.pr fun id _=>Mono.ifb (Mono.new fun i g e=>Mono.fN (Mono.val (by omega))) (Mono.guard (Mono.atCells fun _ _ _=>Mono.guard (Mono.new fun i g e=>Mono.fN (Mono.val ?_))))
 rw[e,Mem.next_upd];omega
theorem zke {g:TypeId}{d x:LV}:Mono m.next (copyL P g d x m rvm):=by
 unfold copyL
 refine Mono.ob fun e=>Mono.ob fun sz=>Mono.asSlice fun a s _ _=>Mono.ob fun sl=>Mono.fN (Mono.ifb (Mono.val (Nat.le_refl _)) (Mono.ob fun l=>Mono.guard (Mono.oe (Mono.val (Nat.le_refl _)) fun p=>Mono.pr fun id off=>?_)))
 intro r q
 obtain⟨u,h,j⟩:=z9.1 q
 cases j
 exact Nat.le_of_eq (z7z h).symm
theorem Mono.asPtr {v:LV}{k:Nat->Nat->Option R1}(h:∀ a b,Mono n (k a b)):Mono n (asPtr v k):=fun r g=>by
 obtain⟨a,b,_,d⟩:=z0v.1 g;exact h a b r d
theorem Mono.asStr {v:LV}{k:ByteArray->Option R1}(h:∀ a,Mono n (k a)):Mono n (asStr v k):=fun r g=>by
 obtain⟨a,_,d⟩:=z0g.1 g;exact h a r d
theorem Mono.asMap {v:LV}{k:Option Nat->Option R1}(h:∀ a,Mono n (k a)):Mono n (asMap v k):=fun r g=>by
 obtain⟨a,_,d⟩:=z26.1 g;exact h a r d
theorem Mono.asIface {v:LV}{k:TypeId->LV->Option R1}(h:∀ a b,Mono n (k a b)):Mono n (asIface v k):=fun r g=>by
 obtain⟨a,b,_,d⟩:=z6z.1 g;exact h a b r d
theorem Mono.atMap {m:Mem}{k:List (LV×LV)->List Nat->Nat->Option R1}(h:∀ a b c,Mono n (k a b c)):Mono n (atMap m i k):=by
 unfold PvL.atMap
 refine Mono.ob fun b=>?_
 cases b with
 | map a b c=>exact h _ _ _
 | _=>exact Mono.none
theorem Mono.atIter {m:Mem}{k:Option Nat->Nat->List Nat->Nat->Option R1}(h:∀ a b c d,Mono n (k a b c d)):Mono n (atIter m i k):=by
 unfold PvL.atIter
 refine Mono.ob fun b=>?_
 cases b with
 | iter a b c d=>exact h _ _ _ _
 | _=>exact Mono.none
theorem Mono.atSIter {m:Mem}{k:ByteArray->Nat->Option R1}(h:∀ a b,Mono n (k a b)):Mono n (atSIter m i k):=by
 unfold PvL.atSIter
 refine Mono.ob fun b=>?_
 cases b with
 | siter a b=>exact h _ _
 | _=>exact Mono.none
theorem Mono.upd {v:LV}{b:Option LB}:Mono m.next (some (.val v (m.upd i b))):=Mono.val (by rw[Mem.next_upd];exact Nat.le_refl _)
theorem zgs {e:TypeId}{d:List LV}:Mono m.next (extL k e d m):=by
 unfold extL
 refine Mono.arg0 fun x q=>?_
 match k with
 | 0=>exact Mono.none
 | 1=>exact Mono.guard (Mono.val (Nat.le_refl _))
 | 2=>exact Mono.arg0 fun _ _=>Mono.guard (Mono.asStr fun _=>Mono.asInt fun _ _=>Mono.guard (Mono.nat fun _=>Mono.guard (Mono.fN (Mono.val (Nat.le_refl _)))))
 | 3=>exact Mono.arg0 fun _ _=>Mono.guard (Mono.asStr fun _=>Mono.asInt fun _ _=>Mono.guard (Mono.nat fun _=>Mono.guard (Mono.oe (Mono.val (Nat.le_refl _)) fun _=>Mono.fN (Mono.val (Nat.le_refl _)))))
 | 4=>exact Mono.guard (Mono.asInt fun _ _=>Mono.guard (Mono.nat fun _=>Mono.guard (Mono.new fun _ _ e=>Mono.val (by omega))))
 | k+5=>exact Mono.guard (Mono.asSlice fun _ _ _ _=>Mono.guard (Mono.val (Nat.le_refl _)))
theorem zak {d:TypeId}{x:LV}:Mono m.next (unsafeStr P d x k m):=by
 unfold unsafeStr
 refine Mono.ifb ?_ (Mono.ob fun _=>Mono.asPtr fun _ _=>Mono.atCells fun _ _ _=>Mono.guard (Mono.ob fun _=>Mono.ob fun _=>Mono.upd))
 split
 ·exact Mono.val (Nat.le_refl _)
 ·exact Mono.none
theorem zi8 {f:LV}{d:List LV}:Mono m.next (callV f d m):=by
 unfold callV
 split
 ·exact Mono.enter (Nat.le_refl _)
 ·exact Mono.round (Nat.le_refl _)
 ·exact Mono.none
theorem z48 (o:Op):Mono m.next (op1 P o T m):=by
 cases o with
 | move x=>exact Mono.obRv
 | assign x=>exact Mono.obRv
 | pick c a b=>exact Mono.ob fun _=>Mono.asBool fun _=>Mono.ifb Mono.obRv Mono.obRv
 | alloc t=>exact Mono.ob fun _=>Mono.guard (Mono.guard <| Mono.new fun _ _ e=>Mono.val (by omega))
 | box t x=>exact Mono.ob fun _=>Mono.guard (Mono.guard <| Mono.new fun _ _ e=>Mono.val (by omega))
 | build t D=>exact Mono.ob fun _=>Mono.obRv
 | buildSlice t n D=>exact Mono.ob fun _=>Mono.ob fun _=>Mono.ob fun _=>Mono.ob fun _=>Mono.guard (Mono.ob fun _=>Mono.new fun _ _ e=>Mono.val (by omega))
 | load t a=>exact Mono.ob fun _=>Mono.obRv
 | store t a x=>exact Mono.ob fun _=>Mono.ob fun _=>Mono.obSkip fun _=>zfy
 | nilCheck x=>exact Mono.ob fun _=>Mono.obRv
 | binOp C t x y u=>exact Mono.ob fun _=>Mono.ob fun _=>Mono.obRv
 | unOp C t x=>exact Mono.ob fun _=>Mono.obRv
 | convert s d x=>exact Mono.ob fun _=>Mono.obRv
 | makeFunc B a b=>
  cases B with
  | func g=>exact Mono.ob fun _=>Mono.ob fun _=>Mono.val (Nat.le_refl _)
  | _=>exact Mono.none
 | makeMap t r=>exact Mono.guard (Mono.new fun _ _ e=>Mono.val (by omega))
 | makeSlice t l c=>exact Mono.ob fun _=>Mono.ob fun _=>Mono.ob fun _=>Mono.asInt fun _ _=>Mono.asInt fun _ _=>Mono.nat fun _=>Mono.nat fun _=>Mono.ob fun _=>Mono.ob fun _=>Mono.ob fun _=>Mono.guard (Mono.new fun _ _ e=>Mono.val (by omega))
 | slice t x lo E F=>exact Mono.ob fun _=>Mono.ob fun _=>Mono.ob fun _=>Mono.ob fun _=>Mono.obRv
 | fieldAddr t x f=>exact Mono.ob fun _=>Mono.obRv
 | field t x f=>exact Mono.ob fun _=>Mono.obRv
 | indexAddr t x i=>exact Mono.ob fun _=>Mono.ob fun _=>Mono.obRv
 | index t x i=>exact Mono.ob fun _=>Mono.ob fun _=>Mono.obRv
 | lookup t x i ok=>exact Mono.ob fun _=>Mono.ob fun _=>Mono.obRv
 | mapUpdate t x k v=>exact Mono.ob fun _=>Mono.ob fun _=>Mono.ob fun _=>Mono.obSkip fun _=>z4v
 | insert t x k v=>exact Mono.ob fun _=>Mono.ob fun _=>Mono.ob fun _=>Mono.obSkip fun _=>z4v
 | makeInterface t x=>exact Mono.guard (Mono.ob fun _=>Mono.val (Nat.le_refl _))
 | typeAssert x t u ok=>exact Mono.guard (Mono.ob fun _=>Mono.obRv)
 | extract x i=>exact Mono.ob fun _=>Mono.asTup fun _=>Mono.obRv
 | call c=>
  obtain⟨h,A,z⟩:=c
  refine Mono.ob fun j=>?_
  cases h with
  | value f=>
   show Mono m.next (nE (extKO P f) (ob (ev T f) fun f=>callV f j m) fun k=>extL (Nat.succ k) (extEO P f) j m)
   cases extKO P f with
   | zero=>exact Mono.ob fun _=>zi8
   | succ k=>exact zgs
  | invoke r n=>exact Mono.ob fun _=>Mono.asIface fun _ _=>Mono.ob fun p=>Mono.pr fun _ _=>Mono.ob fun q=>Mono.pr fun _ _=>Mono.guard (Mono.enter (Nat.le_refl _))
  | builtin b=>
   show Mono m.next (callB P b z.toList j m)
   cases b with
   | append=>exact Mono.arg0 fun _ _=>Mono.arg0 fun _ _=>Mono.arg0 fun _ _=>Mono.arg0 fun _ _=>Mono.guard zet
   | copy=>exact Mono.arg0 fun _ _=>Mono.arg0 fun _ _=>Mono.arg0 fun _ _=>Mono.guard zke
   | len=>exact Mono.arg0 fun _ _=>Mono.arg0 fun _ _=>Mono.obRv
   | cap=>exact Mono.arg0 fun _ _=>Mono.guard zgs
   | max=>exact Mono.arg0 fun _ _=>Mono.obRv
   | min=>exact Mono.arg0 fun _ _=>Mono.obRv
   | unsafeSliceData=>exact Mono.arg0 fun _ _=>Mono.guard (Mono.asSlice fun _ _ _ _=>Mono.oe (Mono.val (Nat.le_refl _)) fun _=>Mono.guard (Mono.val (Nat.le_refl _)))
   | unsafeString=>exact Mono.arg0 fun _ _=>Mono.arg0 fun _ _=>Mono.arg0 fun _ _=>Mono.guard (Mono.asInt fun _ _=>Mono.nat fun _=>zak)
   | _=>exact Mono.none
 | _=>exact Mono.none
theorem zoh (o:Op):Mono m.next (opX P o T m):=by
 cases o with
 | convert s d x=>
  show Mono m.next (oConvU P s d x T m)
  unfold oConvU
  split
  ·exact Mono.ob fun _=>Mono.asPtr fun _ _=>Mono.atCells fun _ _ _=>Mono.ob fun _=>Mono.guard (Mono.val (Nat.le_refl _))
  ·exact Mono.ob fun _=>Mono.asPtr fun _ _=>Mono.atCells fun _ _ _=>Mono.ob fun _=>Mono.guard (Mono.val (Nat.le_refl _))
  ·exact Mono.guard (Mono.ob fun _=>Mono.asStr fun _=>Mono.new fun _ _ e=>Mono.fN (Mono.val (by omega)))
  ·exact Mono.none
 | panic x=>exact Mono.ob fun _=>Mono.asIface fun _ _=>Mono.boom (Nat.le_refl _)
 | range t x=>
  show Mono m.next (oRange P t x T m)
  unfold oRange
  split
  ·exact Mono.ob fun _=>Mono.asMap fun _=>Mono.oe (Mono.new fun _ _ e=>Mono.val (by omega)) fun _=>Mono.atMap fun _ _ _=>Mono.new fun _ _ e=>Mono.val (by omega)
  ·exact Mono.ob fun _=>Mono.asStr fun _=>Mono.new fun _ _ e=>Mono.val (by omega)
  ·exact Mono.none
 | next x b=>
  show Mono m.next (oNext x b T m)
  unfold oNext
  refine Mono.ifb (Mono.ob fun _=>Mono.asPtr fun _ _=>Mono.guard (Mono.atSIter fun _ _=>Mono.ifb (Mono.pr fun _ _=>Mono.fN (Mono.fN Mono.upd)) (Mono.val (Nat.le_refl _)))) (Mono.ob fun _=>Mono.asPtr fun _ _=>Mono.guard (Mono.atIter fun _ _ _ _=>Mono.oe (Mono.val (Nat.le_refl _)) fun _=>Mono.atMap fun _ _ _=>Mono.guard ?_))
  split
  ·exact Mono.val (Nat.le_refl _)
  ·exact Mono.upd
  ·exact Mono.none
 | entry x=>exact Mono.ob fun _=>Mono.asPtr fun _ _=>Mono.guard (Mono.atIter fun _ _ _ _=>Mono.ob fun _=>Mono.ob fun _=>Mono.atMap fun _ _ _=>Mono.guard (Mono.ob fun _=>Mono.val (Nat.le_refl _)))
 | mapEntry t x k=>
  exact Mono.ob fun q=>Mono.pr fun _ _=>Mono.ob fun _=>Mono.ob fun _=>Mono.guard (Mono.asMap fun _=>Mono.ob fun _=>Mono.atMap fun _ _ _=>Mono.guard (Mono.ob fun _=>Mono.oe (Mono.ob fun _=>Mono.fN Mono.upd) fun p=>Mono.pr fun _ q=>Mono.pr fun _ _=>Mono.guard (Mono.ob fun _=>Mono.upd)))
 | call c=>
  show Mono m.next (oDel P c T m)
  unfold oDel
  split
  ·split
   ·exact Mono.ob fun q=>Mono.pr fun _ _=>Mono.ob fun _=>Mono.ob fun _=>Mono.guard (Mono.asMap fun _=>Mono.ob fun _=>Mono.atMap fun _ _ _=>Mono.guard (Mono.ob fun _=>Mono.oe Mono.upd fun p=>Mono.pr fun _ _=>Mono.upd))
   ·exact Mono.none
  ·exact Mono.none
 | entryStore t x st v=>
  exact Mono.ob fun _=>Mono.ob fun _=>Mono.ob fun _=>Mono.asMap fun _=>Mono.ob fun _=>Mono.asInt fun _ _=>Mono.nat fun _=>Mono.atMap fun _ _ _=>Mono.guard (Mono.ob fun _=>Mono.skip (by rw[Mem.next_upd];exact Nat.le_refl _))
 | _=>exact Mono.none
theorem zix {α:Type}{x z:Option α}{y:α}(h:oe x z some=some y):x=some y ∨(x=none/\z=some y):=by
 cases x with
 | none=>exact .inr ⟨rfl,h⟩
 | some a=>exact .inl h
theorem zqb {o:Op}{r:R1}(h:opA P o T m=some r):op1 P o T m=some r∨opX P o T m=some r:=by
 rcases zix (show oe (op1 P o T m) (opX P o T m) some=some r from h) with h|⟨_,h⟩
 ·exact .inl h
 ·exact .inr h
theorem z5a (o:Op):Mono m.next (opA P o T m):=fun r h=>by
 rcases zqb h with d|d
 ·exact z48 o r d
 ·exact zoh o r d
end
end PvL
end
section
namespace PvL
open Go
section
variable {P:Program} {Pt:Prot} {ρ:Rho} {m:Mem} {w:World} {T:Tm} {a:Act}
theorem z02{w:World}{r:Nat}{o:Obj}(h:w.heap[r]?=some o)(d:∀ c e f,o≠.cells c e f):(getObj r).run P w=.ok o w:=by
 simp only[getObj,Sem.run,h]
theorem z1l{w:World}{r:Nat}{o o':Obj}(h:w.heap[r]?=some o)(d:∀ c e f,o≠.cells c e f):(setObj r o').run P w=.ok () { w with heap:=w.heap.setIfInBounds r o' }:=by
 simp only[setObj,Sem.run,h]
theorem Rel.set1(h:Rel Pt ρ m w){i:Nat}{lb lb':LB}(hi:m.get i=some lb)(p:isRo lb=false)(d:isRo lb'=false){b s c:Nat}(g:ρ i=some (b,s,c)){o':Obj}(u:BR ρ lb' o' s c) :
  Rel Pt ρ (m.upd i (some lb')) { w with heap:=w.heap.setIfInBounds b o' }:=by
 obtain⟨_,y,B,z,A,q,_,v,_⟩:=h.live i _ hi
 rw[g] at q;cases q
 have j:b<w.heap.size:=(Array.getElem?_eq_some_iff.1 v).1
 refine h.turn hi p d g u ?_ ?_
 ·show(w.heap.setIfInBounds b _)[b]?=_
  rw[Array.getElem?_setIfInBounds_self_of_lt j]
 ·intro r x
  show(w.heap.setIfInBounds b _)[r]?=_
  rw[Array.getElem?_setIfInBounds_ne (Ne.symm x)]
theorem Rel.map(h:Rel Pt ρ m w){i:Nat}{es:List (LV×LV)}{bs:List Nat}{d:Nat}(hi:m.get i=some (.map es bs d)){b s c:Nat}(g:ρ i=some (b,s,c)) :
  ∃ E,w.heap[b]?=some (.map E d)/\ER ρ es E.toList/\bs=E.toList.map (·.born):=by
 obtain⟨_,u,y,v,x,j,⟨E,rfl,p,q⟩,r,_⟩:=h.live i _ hi
 rw[g] at j;cases j
 exact⟨E,r,p,q⟩
theorem z7w{b o:Nat}{C:Array Value}{e:TypeId}{fr:Nat×Nat}(h:w.heap[b]?=some (.cells C e fr)):(Conv.seenAt ⟨b,o,none⟩).run P w=.ok ⟨b,o,none⟩ w:=by
 unfold Conv.seenAt viewAt
 simp only[Sem.run_bind,shape,Sem.run,World.shape?,h,Option.isSome_some,if_true,Sem.run_pure,Result.andThen_ok]
theorem zit{dst:Option Tmp}{s d:TypeId}{x:Operand}{ty:TypeId}{pos:String}{af:Array Edge}{gd:Option (Nat×Bool)}{r:R1}(h:oConvU P s d x T m=some r)(hT:TR ρ T a.tmps)(j:Rel Pt ρ m w)(hf:Fresh ρ m.next r.mem.next) :
  OpOk P Pt ρ m w a ⟨dst,.convert s d x,ty,pos,af,gd⟩ r:=by
 unfold oConvU at h
 split at h
 ·rename_i t J D
  obtain⟨v,L,y⟩:=z9.1 h
  obtain⟨id,off,rfl,A⟩:=z0v.1 y
  obtain⟨own,cs,Y,hg,O⟩:=z1q.1 A
  obtain⟨n,hn,h4⟩:=z9.1 O
  obtain⟨p,h5⟩:=za.1 h4
  cases h5
  simp only[Bool.and_eq_true,Nat.ble_eq] at p
  refine z1h (s:=convert s d (a.eval x)) rfl j ?_
  have M:=zu hT L
  generalize a.eval x=x' at M
  cases M with
  | ptr z=>
   rename_i b Q c
   obtain⟨C,N,fr,E,_,a4,hC⟩:=j.cells hg z
   obtain⟨v',k1,_⟩:=hC off (cs[off]'(by omega)) (List.getElem?_eq_getElem _)
   have a2:=(Array.getElem?_eq_some_iff.1 k1).1
   refine⟨.pointer (some ⟨b,Q+off,none⟩),?_,.ptr z⟩
   have g:(convert s d (.pointer (some ⟨b,Q+off,none⟩))).run P w=(Conv.unsafePointer s d (.pointer (some ⟨b,Q+off,none⟩))).run P w:=by
    unfold convert
    simp only[Sem.run_bind,Go.run_underlying J,Go.run_underlying D,Result.andThen_ok]
   rw[g]
   unfold Conv.unsafePointer
   simp only[Sem.run_bind,Go.run_underlying J,Go.run_underlying D,Result.andThen_ok,z7w E,cellsIn,shape,Sem.run,World.shape?,E,z03 hn]
   have y:¬(Q+off>=C.size):=by omega
   have A:n≠0:=by omega
   simp[y,A]
 ·rename_i u J D
  obtain⟨v,L,y⟩:=z9.1 h
  obtain⟨id,off,rfl,A⟩:=z0v.1 y
  obtain⟨own,cs,Y,hg,O⟩:=z1q.1 A
  obtain⟨n,hn,h4⟩:=z9.1 O
  obtain⟨p,h5⟩:=za.1 h4
  cases h5
  simp only[Bool.and_eq_true,Nat.ble_eq,Nat.beq_eq] at p
  obtain⟨rfl,rfl,V,rfl,hc,a5,a6⟩:=p
  refine z1h (s:=convert s d (a.eval x)) rfl j ?_
  have M:=zu hT L
  generalize a.eval x=x' at M
  cases M with
  | ptr z=>
   rename_i b Q c
   obtain⟨C,N,fr,E,a1,a4,hC⟩:=j.cells hg z
   obtain⟨_,K⟩:=a1 rfl
   unfold plainT at V;rw[Nat.ble_eq] at V
   have K:N=Y/\Q=0:=by
    rcases K with⟨_,y,A⟩|h
    ·exact⟨y,A⟩
    ·exact absurd h (by omega)
   obtain⟨rfl,rfl⟩:=K
   obtain⟨v',k1,_⟩:=hC (n-1) (cs[n-1]'(by omega)) (List.getElem?_eq_getElem _)
   have a2:=(Array.getElem?_eq_some_iff.1 k1).1
   refine⟨.pointer (some ⟨b,0+0,none⟩),?_,.ptr z⟩
   have g:(convert s d (.pointer (some ⟨b,0+0,none⟩))).run P w=(Conv.unsafePointer s d (.pointer (some ⟨b,0+0,none⟩))).run P w:=by
    unfold convert
    simp only[Sem.run_bind,Go.run_underlying J,Go.run_underlying D,Result.andThen_ok]
   rw[g]
   have G:liesAt P P.depth N (C.size/P.cellsOf N) 0 N 1=true:=zdx (by omega) _ (by rw[hc];exact(Nat.le_div_iff_mul_le (by omega)).2 (by omega))
   have X:(variablesAt ⟨b,0+0,none⟩ N 1).run P w=.ok true w:=by
    unfold variablesAt
    simp only[Sem.run_bind,run_program,Result.andThen_ok,shape,Sem.run,World.shape?,E,Sem.run_pure,Nat.add_zero,G]
   unfold Conv.unsafePointer
   simp only[Sem.run_bind,Go.run_underlying J,Go.run_underlying D,Result.andThen_ok,z7w E,z03 hn,X]
   simp
 ·rename_i e J D
  obtain⟨p,h0⟩:=za.1 h
  obtain⟨v,L,y⟩:=z9.1 h0
  obtain⟨q,rfl,O⟩:=z0g.1 y
  rw[Mem.new_eq,z19] at O
  cases O
  simp only[Bool.and_eq_true] at p
  have he:P.underlying e=some (.int .u8):=by
   have:=p.1
   unfold isU8 at this
   split at this
   ·assumption
   ·cases this
  have U:=hf _ (Nat.le_refl _) (Nat.lt_succ_self _)
  have M:=(zu hT L).str_inv
  let cap:=(Question.appendCap q.size 0 e).cut (w.tape w.drawn (.appendCap q.size 0 e))
  have S:q.size<=cap:=Nat.le_add_right _ _
  let C:Array Value:=(q.data.map fun b=>Value.int .u8 b.toNat)++Array.replicate (cap-q.size) (.int .u8 0)
  have a3:q.data.size=q.size:=rfl
  have a0:C.size=cap:=by
   show((q.data.map _)++Array.replicate _ _).size=cap
   simp only[Array.size_append,Array.size_map,Array.size_replicate,a3];omega
  have B:CellsR ρ (q.data.toList.map byteL) C 0:=by
   have L:VRs ρ (q.data.toList.map byteL) (q.data.map fun b=>Value.int .u8 b.toNat).toList:=by
    rw[Array.toList_map]
    generalize q.data.toList=l
    induction l with
    | nil=>exact .nil
    | cons b l ih=>exact .cons (.int _ _) ih
   exact L.cellsR_append
  let Z:World:={ w with drawn:=w.drawn+1,heap:=w.heap.push (.cells C e (C.size,C.size+1)) }
  have H:Rel Pt (upd1 ρ m.next (w.heap.size,0,C.size)) (m.push (.cells true (q.data.toList.map byteL) (apE e))) Z :=
   (j.of_heap (w':={ w with drawn:=w.drawn+1 }) rfl).alloc U rfl ⟨C,e,(C.size,C.size+1),rfl,fun _=>⟨.inr rfl,zgb⟩,rfl,B⟩
  refine z0z (s:=convert s d (a.eval x)) rfl ⟨_,.slice (some ⟨w.heap.size,0+0,none⟩) q.size cap,Z,?_,Same.upd1 U,.slice (z09 _ _ _) S (fun E=>by cases E) (by rw[a0];omega),H⟩
  rw[M]
  have g:(convert s d (.string q)).run P w=(Conv.stringToBytes e q).run P w:=by
   unfold convert
   simp only[Sem.run_bind,Go.run_underlying J,Go.run_underlying D,Go.run_underlying he,Result.andThen_ok]
  rw[g]
  unfold Conv.stringToBytes
  simp only[Sem.run_bind,run_choose]
  rw[if_neg (by simp[Question.forced])]
  let R:World:={ w with drawn:=w.drawn+1,heap:=w.heap.push (.cells C e) }
  have F:R.heap[w.heap.size]?=some (.cells C e):=by simp[R]
  have y:(markStringish ⟨w.heap.size,0,none⟩).run P R=.ok () (R.freeze { block:=w.heap.size,off:=C.size } 1):=by
   unfold markStringish
   simp only[Sem.run_bind,shape,Sem.run,World.shape?,F,Result.andThen_ok,freeze]
  have A:R.freeze { block:=w.heap.size,off:=C.size } 1=Z:=by
   unfold World.freeze
   rw[if_neg (by decide)]
   simp only[Z,R]
   congr 1
   apply Array.ext_getElem?
   intro k
   rw[Array.getElem?_modify,Array.getElem?_push,Array.getElem?_push]
   by_cases hk:k=w.heap.size
   ·subst hk;simp
   ·simp only[hk,if_false]
    rw[if_neg (Ne.symm hk)]
  simp only[Result.andThen_ok,newRow,Sem.run_bind,run_newObj,Sem.run_pure]
  rw[show(markStringish ⟨w.heap.size,0,none⟩).run P { w with drawn:=w.drawn+1,heap:=w.heap.push (.cells C e) }=_ from y,A]
  rfl
 ·cases h
theorem z4x{n:Nat}:∀ {l:List Nat},memN n l=true↔n∈l
 | []=>⟨fun h=>(by cases h),fun h=>(by cases h)⟩
 | x::xs=>by
  show ifb (Nat.beq n x) true (memN n xs)=true↔_
  cases d:Nat.beq n x with
  | true=>rw[zq];exact⟨fun _=>by rw[Nat.eq_of_beq_eq_true d];exact List.mem_cons_self,fun _=>rfl⟩
  | false=>
   rw[ze,z4x,List.mem_cons]
   exact⟨.inr,fun h=>h.elim (fun e=>by subst e;rw[Nat.beq_refl] at d;cases d) id⟩
def LR(ρ:Rho):List (Nat×LV×LV)->List MapEntry->Prop
 | [],[]=>True
 | x::l,e::E=>(x.1=e.born/\VR ρ x.2.1 e.key/\VR ρ x.2.2 e.val)/\LR ρ l E
 | _,_=>False
theorem z9j{seen:List Nat}:∀(es:List (LV×LV)) (E:List MapEntry),ER ρ es E ->
  LR ρ (leftL seen (E.map (·.born)) es) (E.filter fun e=>!seen.toArray.contains e.born)
 | [],[],_=>trivial
 | x::es,e::E,h=>by
  obtain⟨h1,j,p⟩:=h
  have g:=z9j (seen:=seen) es E p
  show LR ρ (ifb (memN e.born seen) (leftL seen (E.map (·.born)) es) ((e.born,x)::leftL seen (E.map (·.born)) es)) _
  have q:seen.toArray.contains e.born=memN e.born seen:=by
   cases d:memN e.born seen with
   | true=>have:=z4x.1 d;simpa using this
   | false=>
    have:¬ e.born∈seen:=fun r=>by rw[z4x.2 r] at d;cases d
    simpa using this
  rw[List.filter_cons,q]
  cases memN e.born seen with
  | true=>exact g
  | false=>exact⟨⟨rfl,h1,j⟩,g⟩
 | [],_::_,h=>h.elim
 | _::_,[],h=>h.elim
theorem zbp{n:Nat}:∀ {l:List Nat},allLt n l=true->∀ x∈l,x<n
 | [],_,x,d=>by cases d
 | y::l,h,x,d=>by
  have h:ifb (Nat.ble (Nat.succ y) n) (allLt n l) false=true:=h
  cases g:Nat.ble (Nat.succ y) n with
  | false=>rw[g] at h;cases h
  | true=>
   rw[g] at h
   rw[Nat.ble_eq] at g
   rcases List.mem_cons.1 d with rfl|d
   ·omega
   ·exact zbp h x d
theorem zbq{n:Nat}:∀ {l:List Nat},anyLt n l=true->∃ x∈l,x<n
 | [],h=>by cases h
 | y::l,h=>by
  have h:ifb (Nat.ble (Nat.succ y) n) true (anyLt n l)=true:=h
  cases g:Nat.ble (Nat.succ y) n with
  | true=>rw[Nat.ble_eq] at g;exact⟨y,List.mem_cons_self,by omega⟩
  | false=>
   rw[g] at h
   obtain⟨x,j,d⟩:=zbq h
   exact⟨x,List.mem_cons_of_mem _ j,d⟩
theorem Rel.iter(h:Rel Pt ρ m w){i:Nat}{r:Nat}{d:Nat}{seen:List Nat}{g:Nat}(hi:m.get i=some (.iter (some r) d seen g)){b s c:Nat}(p:ρ i=some (b,s,c)) :
  s=0 /\ ∃ b' q j,ρ r=some (b',q,j)/\w.heap[b]?=some (.mapIter (some b') d seen.toArray g):=by
 obtain⟨_,z,C,A,B,u,⟨v,b',q,j,x,rfl⟩,y,_⟩:=h.live i _ hi
 rw[p] at u;cases u
 exact⟨v,b',q,j,x,y⟩
theorem ziw{dst:Option Tmp}{t:TypeId}{x:Operand}{ty:TypeId}{pos:String}{af:Array Edge}{gd:Option (Nat×Bool)}{r:R1}(h:oRange P t x T m=some r)(hT:TR ρ T a.tmps)(hrel:Rel Pt ρ m w)(hf:Fresh ρ m.next r.mem.next) :
  OpOk P Pt ρ m w a ⟨dst,.range t x,ty,pos,af,gd⟩ r:=by
 unfold oRange at h
 split at h
 ·rename_i kt et hu
  obtain⟨v,hv,h1⟩:=z9.1 h
  obtain⟨r0,rfl,h2⟩:=z26.1 h1
  have hx:=zu hT hv
  generalize hx':a.eval x=x' at hx
  have hex:execOp a.eval ⟨dst,.range t x,ty,pos,af,gd⟩=(do pure (.value (<- Instr.range t x')):Sem Next):=by rw[<-hx'];rfl
  cases r0 with
  | none=>
   have h2:m.new (.iter none 0 [] 0) (fun id m=>some (R1.val (.ptr (some (id,0))) m))=some r:=h2
   rw[Mem.new_eq] at h2
   cases h2
   have hf0:=hf _ (Nat.le_refl _) (Nat.lt_succ_self _)
   cases hx
   refine z0z hex ⟨_,.pointer (some ⟨w.heap.size,0+0,none⟩),_,?_,Same.upd1 hf0,.ptr (z09 _ _ (w.heap.size,0,0)),hrel.alloc hf0 (o:=.mapIter none 0 #[] 0) rfl ⟨rfl,_,_,_,rfl⟩⟩
   unfold Instr.range
   simp only[Sem.run_bind,Go.run_underlying hu,Result.andThen_ok,Sem.run_pure,run_newObj]
  | some i=>
   obtain⟨es,bs,clk,hi,h3⟩:=z37.1 (show atMap m i _=some r from h2)
   rw[Mem.new_eq] at h3
   cases h3
   have hf0:=hf _ (Nat.le_refl _) (Nat.lt_succ_self _)
   cases hx with
   | map hρ=>
    rename_i b s c
    obtain⟨E,hh,_,_⟩:=hrel.map hi hρ
    have hle:=RLe.upd1 (ρ:=ρ) (i:=m.next) (x:=(w.heap.size,0,0)) hf0
    refine z0z hex ⟨_,.pointer (some ⟨w.heap.size,0+0,none⟩),_,?_,Same.upd1 hf0,.ptr (z09 _ _ (w.heap.size,0,0)),hrel.alloc hf0 (o:=.mapIter (some b) clk #[] clk) rfl ?_⟩
    ·unfold Instr.range
     simp only[Sem.run_bind,Go.run_underlying hu,Result.andThen_ok,z02 hh (by simp),Sem.run_pure,run_newObj]
    ·exact⟨rfl,b,s,c,hρ,rfl⟩
 ·rename_i hu
  obtain⟨v,hv,h1⟩:=z9.1 h
  obtain⟨q,rfl,h2⟩:=z0g.1 h1
  rw[Mem.new_eq] at h2
  cases h2
  have hx:=zu hT hv
  generalize hx':a.eval x=x' at hx
  have hex:execOp a.eval ⟨dst,.range t x,ty,pos,af,gd⟩=(do pure (.value (<- Instr.range t x')):Sem Next):=by rw[<-hx'];rfl
  have hf0:=hf _ (Nat.le_refl _) (Nat.lt_succ_self _)
  cases hx
  refine z0z hex ⟨_,.pointer (some ⟨w.heap.size,0+0,none⟩),_,?_,Same.upd1 hf0,.ptr (z09 _ _ (w.heap.size,0,0)),hrel.alloc hf0 (o:=.stringIter q 0) rfl ⟨rfl,rfl⟩⟩
  unfold Instr.range
  simp only[Sem.run_bind,Go.run_underlying hu,Result.andThen_ok,Sem.run_pure,run_newObj]
 ·cases h
theorem ziv{dst:Option Tmp}{x:Operand}{ty:TypeId}{pos:String}{af:Array Edge}{gd:Option (Nat×Bool)}{r:R1}(h:oNextS x T m=some r)(hT:TR ρ T a.tmps)(hrel:Rel Pt ρ m w) :
  OpOk P Pt ρ m w a ⟨dst,.next x true,ty,pos,af,gd⟩ r:=by
 obtain⟨v,hv,h1⟩:=z9.1 h
 obtain⟨id,off,rfl,h2⟩:=z0v.1 h1
 obtain⟨hoff,h3⟩:=za.1 h2
 obtain rfl:=Nat.eq_of_beq_eq_true hoff
 obtain⟨q,p,hi,h4⟩:=zhv.1 h3
 have hx:=zu hT hv
 generalize hx':a.eval x=x' at hx
 have hex:execOp a.eval ⟨dst,.next x true,ty,pos,af,gd⟩=(do pure (.value (<- Instr.next x' true ty)):Sem Next):=by rw[<-hx'];rfl
 cases hx with
 | ptr hρ=>
 rename_i b s c
 obtain⟨_,b1,s1,c1,o1,e1,⟨h0,rfl⟩,hh,_⟩:=hrel.live id _ hi
 rw[hρ] at e1;cases e1
 subst h0
 have hrun:(Instr.next (.pointer (some ⟨b,0+0,none⟩)) true ty).run P w=(if p<q.size then(do
   setObj b (.stringIter q (p+(Utf8.decode q p).2))
   pure (.tuple #[.bool true,goInt p,.int .i32 (Utf8.decode q p).1]):Sem Value) else pure (.tuple #[.bool false])).run P w:=by
  unfold Instr.next
  simp only[Nat.add_zero,Sem.run_bind,z02 hh (by simp),Result.andThen_ok]
 cases hb:Nat.ble (Nat.succ p) q.size with
 | false=>
  rw[hb,ze] at h4
  cases h4
  have hlt:¬ p<q.size:=fun hl=>by rw[Nat.ble_eq_true_of_le hl] at hb;cases hb
  refine z1h hex hrel ⟨.tuple #[.bool false],?_,.tup (.cons (.bool _) .nil)⟩
  rw[hrun,if_neg hlt];rfl
 | true=>
  rw[hb,zq] at h4
  have hlt:p<q.size:=Nat.le_of_ble_eq_true hb
  rcases hd:Utf8.decode q p with⟨cc,wd⟩
  rw[hd] at h4 hrun
  have h4:fN cc (fun c=>fN (p+wd) fun p2=>some (R1.val (.tup [.bool true,.int .i64 (.ofNat p),.int .i32 (.ofNat c)]) (m.upd id (some (.siter q p2)))))=some r:=h4
  rw[z19,z19] at h4
  cases h4
  refine z0z hex ⟨ρ,.tuple #[.bool true,goInt p,.int .i32 cc],_,?_,?_,.tup (.cons (.bool _) (.cons (.int _ _) (.cons (.int _ _) .nil))),hrel.set1 (lb':=.siter q (p+wd)) hi rfl rfl hρ (o':=.stringIter q (p+wd)) ⟨rfl,rfl⟩⟩
  ·rw[hrun,if_pos hlt]
   simp only[Sem.run_bind,z1l hh (by simp),Result.andThen_ok,Sem.run_pure]
  ·show Same ρ ρ m.next (m.upd id _).next
   rw[Mem.next_upd];exact Same.refl _ _ _
theorem zlm{dst:Option Tmp}{x:Operand}{isS:Bool}{ty:TypeId}{pos:String}{af:Array Edge}{gd:Option (Nat×Bool)}{r:R1}(h:oNext x isS T m=some r)(hT:TR ρ T a.tmps)(hrel:Rel Pt ρ m w) :
  OpOk P Pt ρ m w a ⟨dst,.next x isS,ty,pos,af,gd⟩ r:=by
 cases isS with
 | true=>exact ziv h hT hrel
 | false=>
 have h0:ob (ev T x) _=some r:=h
 obtain⟨v,hv,h1⟩:=z9.1 h0
 obtain⟨id,off,rfl,h2⟩:=z0v.1 h1
 obtain⟨hoff,h3⟩:=za.1 h2
 obtain rfl:=Nat.eq_of_beq_eq_true hoff
 obtain⟨src,since,seen,last,hi,h4⟩:=zcx.1 h3
 have hx:=zu hT hv
 generalize hx':a.eval x=x' at hx
 have hex:execOp a.eval ⟨dst,.next x false,ty,pos,af,gd⟩=(do pure (.value (<- Instr.next x' false ty)):Sem Next):=by rw[<-hx'];rfl
 cases hx with
 | ptr hρ=>
 rename_i b s c
 cases src with
 | none=>
  cases h4
  obtain⟨_,b1,s1,c1,o1,e1,⟨h0,A,B,D,rfl⟩,hh,_⟩:=hrel.live id _ hi
  rw[hρ] at e1;cases e1
  subst h0
  refine z1h hex hrel ⟨.tuple #[.bool false],?_,.tup (.cons (.bool _) .nil)⟩
  unfold Instr.next
  simp only[Nat.add_zero,Sem.run_bind,z02 hh (by simp),Result.andThen_ok,Sem.run_pure]
 | some mi=>
  obtain⟨es,bs,clk,hm,h5⟩:=z37.1 (show atMap m mi _=some r from h4)
  obtain⟨hgd,h6⟩:=za.1 h5
  simp only[Bool.and_eq_true,Bool.or_eq_true,Nat.beq_eq] at hgd
  obtain⟨hlen,hlt,hst⟩:=hgd
  obtain⟨rfl,b',s',c',hρ',hh⟩:=hrel.iter hi hρ
  obtain⟨E,hE,her,hbs⟩:=hrel.map hm hρ'
  have hlt:=zbp hlt
  have hbad:(!seen.toArray.isEmpty && !E.isEmpty&&E.all (·.born>=last))=false:=by
   rcases hst with h|h|h
   ·have:seen=[]:=by simpa using h
    subst this;simp
   ·have:es=[]:=by simpa using h
    subst this
    have:E.toList=[]:=by
     cases hl:E.toList with
     | nil=>rfl
     | cons e l=>rw[hl] at her;exact her.elim
    have:E=#[]:=by simpa using this
    subst this;simp
   ·obtain⟨q,hq,hql⟩:=zbq h
    rw[hbs] at hq
    obtain⟨e,he,rfl⟩:=List.mem_map.1 hq
    have:E.all (·.born>=last)=false:=by
     rw[<-Bool.not_eq_true]
     intro hall
     have:=Array.all_eq_true'.1 hall e (by simpa using he)
     simp at this;omega
    rw[this,Bool.and_false]
  have hold:((E.filter fun e=>!seen.toArray.contains e.born).filter (·.born<since))=E.filter fun e=>!seen.toArray.contains e.born:=by
   rw[Array.filter_eq_self]
   intro e he
   have:=(Array.mem_filter.1 he).1
   have:=hlt e.born (by rw[hbs];exact List.mem_map.2 ⟨e,by simpa using this,rfl⟩)
   simpa using this
  have hnew:((E.filter fun e=>!seen.toArray.contains e.born).filter (·.born>=since))=#[]:=by
   rw[Array.filter_eq_empty_iff]
   intro e he
   have:=(Array.mem_filter.1 he).1
   have:=hlt e.born (by rw[hbs];exact List.mem_map.2 ⟨e,by simpa using this,rfl⟩)
   simp;omega
  have hleft:=z9j (seen:=seen) es E.toList her
  rw[<-hbs] at hleft
  have hfl:(E.filter fun e=>!seen.toArray.contains e.born).toList=E.toList.filter fun e=>!seen.toArray.contains e.born:=by simp
  rw[<-hfl] at hleft
  generalize hL:(E.filter fun e=>!seen.toArray.contains e.born)=L at hold hnew hleft hfl
  have hrun:∀(R:Sem Value),(do
    let candidates:=(if L.isEmpty then #[none] else #[]) ++(L ++ #[]).map some
    match candidates[<-choose (.mapNext candidates.size)]? with
    | some (some e)=>
     setObj b (.mapIter (some b') since (seen.toArray.push e.born) clk)
     pure (.tuple #[.bool true,e.key,e.val])
    | some none=>pure (.tuple #[.bool false])
    | none=>stuck "Next: no such candidate":Sem Value)=R->(Instr.next (.pointer (some ⟨b,0+0,none⟩)) false ty).run P w=R.run P w:=by
   intro R hR
   rw[<-hR]
   unfold Instr.next
   simp only[Nat.add_zero,Sem.run_bind,z02 hh (by simp),z02 hE (by simp),Result.andThen_ok,hbad,Bool.false_eq_true,if_false,hL,hold,hnew]
   rfl
  split at h6
  ·rename_i hl
   cases h6
   rw[hl] at hleft
   have hL0:L=#[]:=by
    cases hLl:L.toList with
    | nil=>simpa using hLl
    | cons e l=>rw[hLl] at hleft;exact hleft.elim
   refine z1h hex hrel ⟨.tuple #[.bool false],?_,.tup (.cons (.bool _) .nil)⟩
   rw[hrun _ rfl,hL0]
   simp[choose,Sem.run,Question.forced]
  ·rename_i bb k v hl
   cases h6
   rw[hl] at hleft
   have hL1:∃ e,L=#[e]/\bb=e.born/\VR ρ k e.key/\VR ρ v e.val:=by
    cases hLl:L.toList with
    | nil=>rw[hLl] at hleft;exact hleft.elim
    | cons e l=>
     rw[hLl] at hleft
     cases l with
     | nil=>exact⟨e,by rw[<-Array.toArray_toList (xs:=L),hLl],hleft.1.1,hleft.1.2.1,hleft.1.2.2⟩
     | cons _ _=>exact hleft.2.elim
   obtain⟨e,hLe,rfl,hk,hvv⟩:=hL1
   refine z0z hex ⟨ρ,.tuple #[.bool true,e.key,e.val],_,?_,by rw[Mem.next_upd];exact Same.refl _ _ _,.tup (.cons (.bool _) (.cons hk (.cons hvv .nil))),hrel.set1 hi rfl rfl hρ (o':=.mapIter (some b') since (seen.toArray.push e.born) clk) ⟨rfl,b',s',c',hρ',by simp⟩⟩
   rw[hrun _ rfl,hLe]
   have hset:=z1l (P:=P) (o':=.mapIter (some b') since (seen++[e.born]).toArray clk) hh (by simp)
   simp only[Array.isEmpty,Sem.run_bind,choose,Sem.run,Question.forced]
   simp
   rw[hset];rfl
  ·cases h6
theorem zbj{n:Nat}:∀(es:List (LV×LV)) (E:List MapEntry) (x:LV×LV),ER ρ es E->stampL n (E.map (·.born)) es=some x->∃ e,E.find? (·.born==n)=some e/\VR ρ x.1 e.key/\VR ρ x.2 e.val
 | [],[],x,_,h=>by cases h
 | y::es,e::E,x,d,h=>by
  obtain⟨h1,s,u⟩:=d
  have h:ifb (Nat.beq e.born n) (some y) (stampL n (E.map (·.born)) es)=some x:=h
  cases g:Nat.beq e.born n with
  | true=>
   rw[g] at h;cases h
   exact⟨e,by rw[List.find?_cons];simp[Nat.eq_of_beq_eq_true g],h1,s⟩
  | false=>
   rw[g] at h
   obtain⟨p,q,r⟩:=zbj es E x u h
   refine⟨p,?_,r⟩
   have j:(e.born==n)=false:=by
    rw[beq_eq_false_iff_ne];intro v;rw[v,Nat.beq_refl] at g;cases g
   rw[List.find?_cons,j];exact q
 | [],_::_,_,d,_=>d.elim
 | _::_,[],_,d,_=>d.elim
theorem ziu{dst:Option Tmp}{x:Operand}{ty:TypeId}{pos:String}{af:Array Edge}{gd:Option (Nat×Bool)}{r:R1}(h:oEntry x T m=some r)(hT:TR ρ T a.tmps)(hrel:Rel Pt ρ m w) :
  OpOk P Pt ρ m w a ⟨dst,.entry x,ty,pos,af,gd⟩ r:=by
 obtain⟨v,hv,h1⟩:=z9.1 (show ob (ev T x) _=some r from h)
 obtain⟨id,off,rfl,h2⟩:=z0v.1 h1
 obtain⟨hoff,h3⟩:=za.1 h2
 obtain rfl:=Nat.eq_of_beq_eq_true hoff
 obtain⟨src,since,seen,last,hi,h4⟩:=zcx.1 h3
 obtain⟨mi,rfl,h5⟩:=z9.1 h4
 obtain⟨st,hst,h6⟩:=z9.1 h5
 obtain⟨es,bs,clk,hm,h7⟩:=z37.1 h6
 obtain⟨hgd,h8⟩:=za.1 h7
 simp only[Bool.and_eq_true,Nat.beq_eq] at hgd
 obtain⟨e0,he0,h9⟩:=z9.1 h8
 cases h9
 have hx:=zu hT hv
 generalize hx':a.eval x=x' at hx
 have hex:execOp a.eval ⟨dst,.entry x,ty,pos,af,gd⟩=(do pure (.value (<- Instr.entry x')):Sem Next):=by rw[<-hx'];rfl
 cases hx with
 | ptr hρ=>
  rename_i b s c
  obtain⟨rfl,b',s',c',hρ',hh⟩:=hrel.iter hi hρ
  obtain⟨E,hE,her,hbs⟩:=hrel.map hm hρ'
  rw[hbs] at he0
  obtain⟨e,hf,hk,hvv⟩:=zbj es E.toList e0 her he0
  refine z1h hex hrel ⟨.tuple #[e.key,e.val],?_,.tup (.cons hk (.cons hvv .nil))⟩
  unfold Instr.entry
  have hback:seen.toArray.back?=some st:=by simpa [Array.back?_eq_getElem?,List.getLast?_eq_getElem?] using hst
  have hff:E.find? (·.born==st)=some e:=by rw[<-Array.find?_toList];exact hf
  have hcl:(clk != last)=false:=by rw[hgd.2];simp
  simp only[Nat.add_zero,Sem.run_bind,z02 hh (by simp),z02 hE (by simp),Result.andThen_ok,hback,hcl,Bool.false_eq_true,if_false,hff,Sem.run_pure]
theorem zgt{kt:TypeId}{k k' v:LV}{j:Nat}:∀ {es:List (LV×LV)} {i:Nat},findL P kt k es i=some (some (j,k',v))->i<=j/\es[j-i]?=some (k',v)
 | [],i,h=>by cases h
 |(q,u)::es,i,h=>by
  obtain⟨b,p,h1⟩:=z9.1 (show ob (eqL P Op.maxDepth kt k q) _=some _ from h)
  cases b with
  | true=>cases h1;exact⟨Nat.le_refl _,by simp⟩
  | false=>
   obtain⟨g,d⟩:=zgt (es:=es) (i:=i+1) h1
   refine⟨by omega,?_⟩
   rw[show j-i=(j-(i+1))+1 by omega,List.getElem?_cons_succ];exact d
theorem zca{dst:Option Tmp}{t:TypeId}{x k:Operand}{ty:TypeId}{pos:String}{af:Array Edge}{gd:Option (Nat×Bool)}{r:R1}(h:oMapEntry P t x k T m=some r)(hT:TR ρ T a.tmps)(hrel:Rel Pt ρ m w) :
  OpOk P Pt ρ m w a ⟨dst,.mapEntry t x k,ty,pos,af,gd⟩ r:=by
 obtain⟨⟨kt,et⟩,hq,h0⟩:=z9.1 (show ob (mapTypes P t) _=some r from h)
 obtain⟨xv,hxv,h1⟩:=z9.1 (show ob (ev T x) _=some r from h0)
 obtain⟨kv,hkv,h2⟩:=z9.1 h1
 obtain⟨hok,h3⟩:=za.1 h2
 obtain⟨r0,rfl,h4⟩:=z26.1 h3
 obtain⟨i,rfl,h5⟩:=z9.1 h4
 obtain⟨es,bs,clk,hi,h6⟩:=z37.1 h5
 obtain⟨hlen,h7⟩:=za.1 h6
 rw[Nat.beq_eq] at hlen
 obtain⟨p,hp,h8⟩:=z9.1 h7
 have hx:=zu hT hxv
 have hk:=zu hT hkv
 generalize hx':a.eval x=x' at hx
 generalize hk':a.eval k=k' at hk
 have hex:execOp a.eval ⟨dst,.mapEntry t x k,ty,pos,af,gd⟩=(do pure (.value (<- Instr.mapEntry t x' k')):Sem Next):=by rw[<-hx',<- hk'];rfl
 cases hx with
 | map hρ=>
  rename_i b s c
  obtain⟨E,hh,hE,hbs⟩:=hrel.map hi hρ
  have hu:=z45 hq
  obtain⟨r',hf,hfr⟩:=z40 (w:=w) hk hE hp (z43 hok)
  have hc:=z3l (w:=w) false 10000 kt kv k' hok hk
  have hb:b<w.heap.size:=(Array.getElem?_eq_some_iff.1 hh).1
  have hset:∀(w1:World) (o:Obj),w1.heap=w.heap->(setObj b o).run P w1=.ok () { w1 with heap:=w1.heap.setIfInBounds b o }:=by
   intro w1 o e
   simp only[setObj,Sem.run,e,hh]
  have hturn:∀(w1:World) (es':List (LV×LV)) (E':Array MapEntry) (clk':Nat),w1.heap=w.heap->(w1.os=w.os/\w1.output=w.output)->ER ρ es' E'.toList ->
    Rel Pt ρ (m.upd i (some (.map es' (E'.toList.map (·.born)) clk'))) { w1 with heap:=w1.heap.setIfInBounds b (.map E' clk') }:=by
   intro w1 es' E' clk' e hos hE'
   refine hrel.turn hi rfl rfl hρ (o':=.map E' clk') ⟨E',rfl,hE',rfl⟩ ?_ ?_ hos
   ·show(w1.heap.setIfInBounds b _)[b]?=_
    rw[e,Array.getElem?_setIfInBounds_self_of_lt hb]
   ·intro r hr
    show(w1.heap.setIfInBounds b _)[r]?=_
    rw[e,Array.getElem?_setIfInBounds_ne (Ne.symm hr)]
  cases p with
  | none=>
   cases r' with
   | some _=>exact hfr.elim
   | none=>
    obtain⟨z,hz,h9⟩:=z9.1 (show ob (zeroL P et) _=some r from h8)
    rw[z19] at h9
    cases h9
    obtain⟨zv,hz1,hz2,_,_⟩:=z3d (w:=w) (ρ:=ρ) hz
    have:=hturn w _ (E.push { key:=k',val:=zv,born:=clk }) (clk+1) rfl ⟨rfl,rfl⟩ (by simpa using hE.append (e:={ key:=k',val:=zv,born:=clk }) hk hz2)
    rw[show(E.push { key:=k',val:=zv,born:=clk }).toList.map (·.born)=bs++[clk] by rw[hbs];simp] at this
    refine z0z hex ⟨ρ,.tuple #[zv,.int .i64 clk],_,?_,by rw[Mem.next_upd];exact Same.refl _ _ _,.tup (.cons hz2 (.cons (.int _ _) .nil)),this⟩
    unfold Instr.mapEntry
    simp only[Sem.run_bind,Go.run_underlying hu,Result.andThen_ok,z02 hh (by simp),hc,hf,hz1,hset w _ rfl,Sem.run_pure]
    rfl
  | some q=>
   obtain⟨j,kold,vold⟩:=q
   cases r' with
   | none=>exact hfr.elim
   | some p'=>
    obtain⟨j',v1'⟩:=p'
    obtain⟨hjj,hv1,e,he,hev,hke⟩:=hfr
    have hjj:j=j':=hjj
    subst hjj
    obtain⟨hlv,h9⟩:=za.1 (show guard' (lvEq kv kold) _=some r from h8)
    obtain⟨bj,hbj,h10⟩:=z9.1 h9
    cases h10
    have hkk:=z2c.1 _ _ hlv
    subst hkk
    have heE:E[j]?=some e:=by simpa using he
    have hjl:j<E.size:=(Array.getElem?_eq_some_iff.1 heE).1
    have hbe:bj=e.born:=by
     rw[hbs,List.getElem?_map,he] at hbj
     simpa using hbj.symm
    have hkey:∃ kk w1,(Instr.keyThatStays e.key k').run P w=.ok kk w1/\VR ρ kv kk/\w1.heap=w.heap/\(w1.os=w.os/\w1.output=w.output):=by
     unfold Instr.keyThatStays
     split
     ·exact⟨k',w,rfl,hk,rfl,rfl,rfl⟩
     ·simp only[Sem.run_bind,run_choose]
      rw[if_neg (by simp[Question.forced])]
      simp only[Result.andThen_ok,Sem.run_pure]
      split
      ·exact⟨_,_,rfl,hk,rfl,rfl,rfl⟩
      ·exact⟨_,_,rfl,hke,rfl,rfl,rfl⟩
    obtain⟨kk,w1,hk1,hk2,hk3,hk4⟩:=hkey
    have hmod:(E.modify j fun e=>{ e with key:=kk }).toList=E.toList.set j { e with key:=kk }:=by
     rw[Array.toList_modify]
     rw[List.modify_eq_set,List.getElem?_eq_getElem (by simpa using hjl)]
     have:E.toList[j]'(by simpa using hjl)=e:=by
      have:=Array.getElem?_eq_some_iff.1 heE
      simpa using this.2
     simp[this]
    have hbn:(E.modify j fun e=>{ e with key:=kk }).toList.map (·.born)=bs:=by
     rw[hmod,hbs,List.map_set]
     have hj:j <(E.toList.map (·.born)).length:=by simpa using hjl
     have e2:(E.toList.map (·.born))[j]'hj=e.born:=by
      have:=Array.getElem?_eq_some_iff.1 heE
      simp[this.2]
     rw[<-e2,List.set_getElem_self]
    have hes:ER ρ es (E.modify j fun e=>{ e with key:=kk }).toList:=by
     rw[hmod]
     have h2:=hE.set j (k:=kv) (v:=vold) (e:={ e with key:=kk }) (by simpa using hjl) hk2 (by rw[hev];exact hv1)
     rwa [show setVal es j kv vold=es from ?_] at h2
     have hfk:=(zgt hp).2
     rw[Nat.sub_zero] at hfk
     clear h2 hE hi hlen hp
     have:∀(es:List (LV×LV)) (j:Nat),es[j]?=some (kv,vold)->setVal es j kv vold=es:=by
      intro es
      induction es with
      | nil=>intro j h;cases h
      | cons x es ih=>
       intro j h
       cases j with
       | zero=>simp at h;subst h;rfl
       | succ j=>show x::setVal es j kv vold=_;rw[ih j (by simpa using h)]
     exact this es j hfk
    have:=hturn w1 es (E.modify j fun e=>{ e with key:=kk }) clk hk3 hk4 hes
    rw[hbn] at this
    refine z0z hex ⟨ρ,.tuple #[v1',.int .i64 bj],_,?_,by rw[Mem.next_upd];exact Same.refl _ _ _,.tup (.cons hv1 (.cons (.int _ _) .nil)),this⟩
    unfold Instr.mapEntry
    simp only[Sem.run_bind,Go.run_underlying hu,Result.andThen_ok,z02 hh (by simp),hc,hf,heE,Option.map_some,Option.getD_some,hk1,hset w1 _ hk3,Sem.run_pure,hbe]
    rfl
theorem z7y{n:Nat}{v:LV}{v':Value}(r:VR ρ v v'):∀(es d:List (LV×LV)) (E:List MapEntry),ER ρ es E->setStamp n v (E.map (·.born)) es=some d ->
  ∃ i,E.findIdx? (fun e=>(e.born:Int) ==(n:Int))=some i/\ER ρ d (E.modify i fun e=>{ e with val:=v' })/\(E.modify i fun e=>{ e with val:=v' }).map (·.born)=E.map (·.born)
 | [],d,[],_,h=>by cases h
 | y::es,d,e::E,g,h=>by
  obtain⟨h1,z,q⟩:=g
  have h:ifb (Nat.beq e.born n) (some ((y.1,v)::es)) (ob (setStamp n v (E.map (·.born)) es) fun l=>some (y::l))=some d:=h
  cases j:Nat.beq e.born n with
  | true=>
   rw[j] at h;cases h
   refine⟨0,by rw[List.findIdx?_cons];simp[Nat.eq_of_beq_eq_true j],⟨h1,r,q⟩,rfl⟩
  | false=>
   rw[j] at h
   obtain⟨l,A,h⟩:=z9.1 (show ob (setStamp n v (E.map (·.born)) es) _=some d from h)
   cases h
   obtain⟨i,s,u,x⟩:=z7y r es l E q A
   have p:((e.born:Int) ==(n:Int))=false:=by
    rw[beq_eq_false_iff_ne];intro B
    have:e.born=n:=by omega
    rw[this,Nat.beq_refl] at j;cases j
   refine⟨i+1,by rw[List.findIdx?_cons,p,s];rfl,?_,?_⟩
   ·rw[List.modify_succ_cons];exact⟨h1,z,u⟩
   ·rw[List.modify_succ_cons,List.map_cons,List.map_cons,x]
 | [],_,_::_,g,_=>g.elim
 | _::_,_,[],g,_=>g.elim
theorem z9p{dst:Option Tmp}{t:TypeId}{x st v:Operand}{ty:TypeId}{pos:String}{af:Array Edge}{gd:Option (Nat×Bool)}{r:R1}(h:oEntryStore x st v T m=some r)(hT:TR ρ T a.tmps)(hrel:Rel Pt ρ m w) :
  OpOk P Pt ρ m w a ⟨dst,.entryStore t x st v,ty,pos,af,gd⟩ r:=by
 obtain⟨xv,hxv,h1⟩:=z9.1 (show ob (ev T x) _=some r from h)
 obtain⟨sv,hsv,h2⟩:=z9.1 h1
 obtain⟨vv,hvv,h3⟩:=z9.1 h2
 obtain⟨r0,rfl,h4⟩:=z26.1 h3
 obtain⟨i,rfl,h5⟩:=z9.1 h4
 obtain⟨kk,z,rfl,h6⟩:=zj.1 h5
 obtain⟨n,rfl,h7⟩:=nat?_eq.1 h6
 obtain⟨es,bs,clk,hi,h8⟩:=z37.1 h7
 obtain⟨hlen,h9⟩:=za.1 h8
 obtain⟨es',hes,h10⟩:=z9.1 h9
 cases h10
 have hx:=zu hT hxv
 have hs:=(zu hT hsv).int_inv
 have hv:=zu hT hvv
 generalize hx':a.eval x=x' at hx
 cases hx with
 | map hρ=>
  rename_i b s c
  obtain⟨E,hh,hE,hbs⟩:=hrel.map hi hρ
  rw[hbs] at hes
  obtain⟨j,g1,g2,g3⟩:=z7y hv es es' E.toList hE hes
  have hmod:(E.modify j fun e=>{ e with val:=a.eval v }).toList=E.toList.modify j fun e=>{ e with val:=a.eval v }:=Array.toList_modify ..
  refine⟨{ w with heap:=w.heap.setIfInBounds b (.map (E.modify j fun e=>{ e with val:=a.eval v }) clk) },?_,hrel.set1 hi rfl rfl hρ (o':=.map (E.modify j fun e=>{ e with val:=a.eval v }) clk) ⟨_,rfl,by rw[hmod];exact g2,by rw[hmod,g3,hbs]⟩,Mem.next_upd _ _ _⟩
  show(do Instr.entryStore t (a.eval x) (a.eval st) (a.eval v);pure Next.skip:Sem Next).run P w=_
  rw[hx',hs]
  unfold Instr.entryStore
  have hfi:E.findIdx? (fun e=>(e.born:Int) ==(n:Int))=some j:=by obtain⟨El⟩:=E;rw[List.findIdx?_toArray];exact g1
  simp only[Sem.run_bind,z02 hh (by simp),Result.andThen_ok,Go.asInt,asIntOf,Sem.run_pure,hfi,z1l hh (by simp)]
theorem z2w{α:Type}:∀(l:List α) (n:Nat),dropAt l n=l.eraseIdx n
 | [],_=>rfl
 | _::_,0=>rfl
 | x::xs,n+1=>congrArg (x :: ·) (z2w xs n)
theorem zb3{α β:Type}(f:α->β):∀(l:List α) (i:Nat),(l.map f).eraseIdx i=(l.eraseIdx i).map f
 | [],_=>rfl
 | _::_,0=>rfl
 | x::xs,i+1=>congrArg (f x :: ·) (zb3 f xs i)
theorem ER.drop:∀ {es:List (LV×LV)} {E:List MapEntry} (i:Nat),ER ρ es E->ER ρ (es.eraseIdx i) (E.eraseIdx i)
 | [],[],_,h=>h
 | _::_,_::_,0,h=>h.2.2
 | _::_,_::_,i+1,h=>⟨h.1,h.2.1,ER.drop i h.2.2⟩
 | [],_::_,_,h=>h.elim
 | _::_,[],_,h=>h.elim
theorem zob{dst:Option Tmp}{c:Call}{ty:TypeId}{pos:String}{af:Array Edge}{gd:Option (Nat×Bool)}{r:R1}(h:oDel P c T m=some r)(hT:TR ρ T a.tmps)(hrel:Rel Pt ρ m w) :
  OpOk P Pt ρ m w a ⟨dst,.call c,ty,pos,af,gd⟩ r:=by
 unfold oDel at h
 split at h
 ·rename_i args ats
  split at h
  ·rename_i x k t ts hA hB
   obtain⟨⟨kt,et⟩,hq,h0⟩:=z9.1 (show ob (mapTypes P t) _=some r from h)
   obtain⟨xv,hxv,h1⟩:=z9.1 (show ob (ev T x) _=some r from h0)
   obtain⟨kv,hkv,h2⟩:=z9.1 h1
   obtain⟨hok,h3⟩:=za.1 h2
   obtain⟨r0,rfl,h4⟩:=z26.1 h3
   obtain⟨i,rfl,h5⟩:=z9.1 h4
   obtain⟨es,bs,clk,hi,h6⟩:=z37.1 h5
   obtain⟨hlen,h7⟩:=za.1 h6
   obtain⟨p,hp,h8⟩:=z9.1 h7
   have hx:=zu hT hxv
   have hk:=zu hT hkv
   obtain⟨args⟩:=args
   have hA:args=[x,k]:=hA
   subst hA
   have ht:ats[0]?=some t:=by rw[<-Array.getElem?_toList,hB];rfl
   generalize hx':a.eval x=x' at hx
   generalize hk':a.eval k=k' at hk
   have hex:execOp a.eval ⟨dst,.call ⟨.builtin .delete,⟨[x,k]⟩,ats⟩,ty,pos,af,gd⟩=(do pure (.value (<- Builtin.delete_ ats ty #[x',k'])):Sem Next):=by
    have hmap:(⟨[x,k]⟩:Array Operand).map a.eval=#[a.eval x,a.eval k]:=by simp
    rw[<-hx',<- hk',<- hmap];rfl
   cases hx with
   | map hρ=>
    rename_i b s c
    obtain⟨E,hh,hE,hbs⟩:=hrel.map hi hρ
    have hu:=z45 hq
    obtain⟨r',hf,hfr⟩:=z40 (w:=w) hk hE hp (z43 hok)
    have hc:=z3l (w:=w) E.isEmpty 10000 kt kv k' hok hk
    have hrun:∀(E':Array MapEntry),(setObj b (.map E' clk)).run P w=.ok () { w with heap:=w.heap.setIfInBounds b (.map E' clk) }:=fun E'=>z1l hh (by simp)
    cases p with
    | none=>
     cases r' with
     | some _=>exact hfr.elim
     | none=>
      cases h8
      refine z0z hex ⟨ρ,.tuple #[],_,?_,by rw[Mem.next_upd];exact Same.refl _ _ _,.tup .nil,hrel.set1 hi rfl rfl hρ (o':=.map E clk) ⟨E,rfl,hE,hbs⟩⟩
      unfold Builtin.delete_
      simp only[ht,List.getElem?_toArray,List.getElem?_cons_zero,List.getElem?_cons_succ,Sem.run_bind,Go.run_underlying hu,Result.andThen_ok,z02 hh (by simp),hc,hf,hrun,Sem.run_pure]
    | some q=>
     obtain⟨j,kold,vold⟩:=q
     cases r' with
     | none=>exact hfr.elim
     | some p'=>
      obtain⟨j',v1'⟩:=p'
      have hjj:j=j':=hfr.1
      subst hjj
      cases h8
      have hl:(E.eraseIdxIfInBounds j).toList=E.toList.eraseIdx j:=by
       unfold Array.eraseIdxIfInBounds
       split
       ·rw[Array.toList_eraseIdx]
       ·rename_i hj
        rw[List.eraseIdx_of_length_le];simpa using hj
      refine z0z hex ⟨ρ,.tuple #[],_,?_,by rw[Mem.next_upd];exact Same.refl _ _ _,.tup .nil,hrel.set1 hi rfl rfl hρ (o':=.map (E.eraseIdxIfInBounds j) clk) ⟨_,rfl,by rw[hl,z2w];exact hE.drop j,by rw[hl,z2w,hbs];exact zb3 _ _ _⟩⟩
      unfold Builtin.delete_
      simp only[ht,List.getElem?_toArray,List.getElem?_cons_zero,List.getElem?_cons_succ,Sem.run_bind,Go.run_underlying hu,Result.andThen_ok,z02 hh (by simp),hc,hf,hrun,Sem.run_pure]
  ·cases h
 ·cases h
theorem zsp{o:Oper}{r:R1}(h:opX P o.op T m=some r)(hT:TR ρ T a.tmps)(hrel:Rel Pt ρ m w)(hf:Fresh ρ m.next r.mem.next):OpOk P Pt ρ m w a o r:=by
 obtain⟨dst,op,ty,pos,after,guard⟩:=o
 cases op with
 | convert s d x=>exact zit h hT hrel hf
 | panic x=>
  obtain⟨v,hv,h1⟩:=z9.1 (show ob (ev T x) _=some r from h)
  obtain⟨t,u,rfl,h2⟩:=z6z.1 h1
  cases h2
  have hx:=zu hT hv
  generalize hx':a.eval x=x' at hx
  cases hx with
  | iface hu=>
   rename_i u'
   refine⟨rfl,.iface t u',?_,.iface hu⟩
   show(do pure (.value (<- Instr.panic (a.eval x))):Sem Next).run P w=_
   rw[hx',Sem.run_bind]
   rfl
 | range t x=>exact ziw h hT hrel hf
 | next x b=>exact zlm h hT hrel
 | entry x=>exact ziu h hT hrel
 | mapEntry t x k=>exact zca h hT hrel
 | entryStore t x st v=>exact z9p h hT hrel
 | call c=>exact zob h hT hrel
 | _=>cases h
theorem z9t{o:Oper}{r:R1}(h:opA P o.op T m=some r)(j:TR ρ T a.tmps)(d:Rel Pt ρ m w)(hf:Fresh ρ m.next r.mem.next):OpOk P Pt ρ m w a o r:=by
 rcases zqb h with g|g
 ·exact z9s g j d hf
 ·exact zsp g j d hf
