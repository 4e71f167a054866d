/-
 The same,of more operations. No condition.
-/
import Derived.Test.YtpgalhbplcanhaaGreatDoorPvB
import Derived.Laws.BytesArg
section
namespace PvL
open Go
theorem zbl{a b:ByteArray}(h:(a == b)=true):a=b:=by
 rw[beq_toListBytes] at h
 have h:=eq_of_beq h
 rw[ByteArray.toList_eq,ByteArray.toList_eq] at h
 obtain⟨⟨x⟩⟩:=a
 obtain⟨⟨y⟩⟩:=b
 have h:x=y:=h
 rw[h]
theorem z1w:(∀ a b:LV,lvEq a b=true->a=b) /\ (∀ a b:List LV,lvEqs a b=true->a=b):=by
 have main:∀ n:Nat,(∀ a b:LV,sizeOf a<=n->lvEq a b=true->a=b) /\ (∀ a b:List LV,sizeOf a<=n->lvEqs a b=true->a=b):=by
  intro n
  induction n with
  | zero =>
   refine⟨fun a b hs=>?_,fun a b hs=>?_⟩
   ·cases a<;>simp at hs
   ·cases a<;>simp at hs
  | succ n ih =>
   refine⟨fun a b hs h=>?_,fun a b hs h=>?_⟩
   ·unfold lvEq at h
    split at h
    all_goals first
     |(cases h;done)
     | rfl
     | skip
    ·simp only[Bool.and_eq_true,z4u,beq_iff_eq] at h;rw[z3i.1 h.1,h.2]
    ·rw[zbj] at h;rw[eq_of_beq h]
    ·rw[zbl h]
    ·simp only[Bool.and_eq_true,Nat.beq_eq] at h;rw[h.1,h.2]
    ·simp only[Bool.and_eq_true,Nat.beq_eq,zbj] at h;rw[h.1,h.2.1,eq_of_beq h.2.2]
    ·simp only[Bool.and_eq_true,Nat.beq_eq,zbj] at h
     rw[h.1,h.2.1,h.2.2.1,h.2.2.2.1,eq_of_beq h.2.2.2.2]
    ·rw[Nat.beq_eq] at h;rw[h]
    ·simp only[Bool.and_eq_true,decide_eq_true_eq] at h
     rw[h.1,ih.2 _ _ (by simp at hs ⊢;omega) h.2.1,ih.2 _ _ (by simp at hs ⊢;omega) h.2.2]
    ·simp only[Bool.and_eq_true,Nat.beq_eq] at h;rw[h.1,ih.1 _ _ (by simp at hs ⊢;omega) h.2]
    ·rw[ih.2 _ _ (by simp at hs ⊢;omega) h]
    ·rw[ih.2 _ _ (by simp at hs ⊢;omega) h]
   ·cases a with
    | nil=>cases b with
     | nil=>rfl
     | cons b bs=>cases h
    | cons a as=>cases b with
     | nil=>cases h
     | cons b bs =>
      have h:(lvEq a b && lvEqs as bs)=true:=by unfold lvEqs at h;exact h
      simp only[Bool.and_eq_true] at h
      rw[ih.1 a b (by simp at hs;omega) h.1,ih.2 as bs (by simp at hs;omega) h.2]
 exact⟨fun a b=>(main _).1 a b (Nat.le_refl _),fun a b=>(main _).2 a b (Nat.le_refl _)⟩
section maps
variable {P:Program} {ρ:Rho} {w:World}
theorem zf7{x:Option Bool}:someB x=true ↔ x=some true:=by
 cases x with
 | none=>exact⟨fun h=>(by cases h),fun h=>(by cases h)⟩
 | some b=>cases b with
  | true=>exact⟨fun _=>rfl,fun _=>rfl⟩
  | false=>exact⟨fun h=>(by cases h),fun h=>(by cases h)⟩
theorem z89{rec:TypeId->LV->Bool}{d:Nat}{em:Bool}(ih:∀ t x x',rec t x=true->VR ρ x x'->(Instr.checkKey em d t x').run P w=.ok () w)
  {t:TypeId} {off:Nat} {xs:List LV} {xs':Array Value} (hx:VRs ρ xs xs'.toList) (h:keyPart P rec t off xs=true) :
  ∃ a,(part t xs' off).run P w=.ok a w /\ (Instr.checkKey em d t a).run P w=.ok () w:=by
 unfold keyPart at h
 cases hs:aggSz P t with
 | none=>rw[hs] at h;cases h
 | some s =>
  rw[hs] at h
  cases s with
  | none =>
   have h:oe (nth xs off) false (rec t)=true:=h
   cases hn:nth xs off with
   | none=>rw[hn] at h;cases h
   | some a =>
    rw[hn] at h
    obtain⟨a',h1,h2⟩:=z30 (w:=w) hx hs (v:=a) hn
    exact⟨a',h1,ih _ _ _ h h2⟩
  | some n =>
   have h:oe (take' n (drop' off xs)) false (fun a=>rec t (.agg a))=true:=h
   cases hn:take' n (drop' off xs) with
   | none=>rw[hn] at h;cases h
   | some a =>
    rw[hn] at h
    obtain⟨a',h1,h2⟩:=z30 (w:=w) hx hs (v:=.agg a) (by show ob (take' n (drop' off xs)) _=_;rw[hn];rfl)
    exact⟨a',h1,ih _ _ _ h h2⟩
theorem z44(em:Bool):∀(d:Nat) (t:TypeId) (x:LV) (x':Value),keyOk P d t x=true->VR ρ x x'->(Instr.checkKey em d t x').run P w=.ok () w
 | 0,_,_,_,h,_=>by cases h
 | d+1,t,x,x',h,hx=>by
  unfold keyOk at h
  unfold Instr.checkKey
  split at h
  ·rename_i hu;simp only[Sem.run_bind,Go.run_underlying hu,Result.andThen_ok];rfl
  ·rename_i hu;simp only[Sem.run_bind,Go.run_underlying hu,Result.andThen_ok];rfl
  ·rename_i hu;simp only[Sem.run_bind,Go.run_underlying hu,Result.andThen_ok];rfl
  ·rename_i fs hu
   obtain⟨xs,rfl,h1⟩:=z10.1 (zf7.1 h)
   obtain⟨xs',rfl,hxs⟩:=hx.agg_inv
   simp only[Option.some.injEq] at h1
   simp only[Sem.run_bind,Go.run_underlying hu,Result.andThen_ok]
   rw[<-Array.forIn_toList]
   generalize fs.toList=L at h1
   clear h hu
   induction L with
   | nil=>simp
   | cons f L ihL =>
    have h1:ifb (f.name == "_") (keyFields P (keyOk P d) xs L) (keyPart P (keyOk P d) f.type f.offset xs && keyFields P (keyOk P d) xs L)=true:=h1
    cases hn:f.name == "_" with
    | true =>
     rw[hn] at h1
     have hn':f.name="_":=by simpa using hn
     simp only[List.forIn_cons,Sem.run_bind,hn',ne_eq,not_true_eq_false,if_false,Sem.run_pure,Result.andThen_ok]
     exact ihL h1
    | false =>
     rw[hn] at h1
     have h1:(keyPart P (keyOk P d) f.type f.offset xs && keyFields P (keyOk P d) xs L)=true:=h1
     have hn':f.name ≠ "_":=by simpa using hn
     simp only[Bool.and_eq_true] at h1
     obtain⟨a,p1,p2⟩:=z89 (z44 em d) hxs h1.1
     simp only[List.forIn_cons,Sem.run_bind,hn',ne_eq,not_false_eq_true,if_true,Result.andThen_ok,p1,p2,Sem.run_pure]
     exact ihL h1.2
  ·rename_i len e hu
   obtain⟨xs,rfl,h1⟩:=z10.1 (zf7.1 h)
   obtain⟨xs',rfl,hxs⟩:=hx.agg_inv
   obtain⟨n,hn,h2⟩:=zb.1 h1
   simp only[Option.some.injEq] at h2
   simp only[Sem.run_bind,Go.run_underlying hu,Result.andThen_ok]
   simp only[Std.Legacy.Range.forIn_eq_forIn_range',Std.Legacy.Range.size,Nat.sub_zero,Nat.add_one_sub_one,Nat.div_one]
   rw[List.range_eq_range'] at h2
   generalize List.range' 0 len=L at h2
   clear h h1 hu
   induction L with
   | nil=>simp
   | cons j L ihL =>
    have h2:(keyPart P (keyOk P d) e (j*n) xs && keyItems P (keyOk P d) e n xs L)=true:=h2
    simp only[Bool.and_eq_true] at h2
    obtain⟨a,p1,p2⟩:=z89 (z44 em d) hxs h2.1
    simp only[List.forIn_cons,Sem.run_bind,zy hn,Result.andThen_ok,p1,p2,Sem.run_pure]
    exact ihL h2.2
  ·cases h
def FoundR(ρ:Rho):Option (Nat × LV × LV)->Option (Nat × Value)->List MapEntry->Prop
 | none,none,_=>True
 | some (i,k,v),some (j,v'),E=>i=j /\ VR ρ v v' /\ ∃ e,E[i]?=some e /\ e.val=v' /\ VR ρ k e.key
 | _,_,_=>False
theorem z4t{kt:TypeId}{k:LV}{k':Value}(hk:VR ρ k k')(E0:List MapEntry) :
  ∀(es:List (LV × LV)) (E:List MapEntry) (i:Nat) (r:Option (Nat × LV × LV)),(∀ j,E[j]?=E0[i+j]?)->ER ρ es E->findL P kt k es i=some r ->
   ∃ r',(Instr.findAsking kt k' E i).run P w=.ok r' w /\ FoundR ρ r r' E0
 | [],[],i,r,_,_,h=>by cases h;exact⟨none,by simp[Instr.findAsking],trivial⟩
 |(q,v) :: es,e :: E,i,r,h0,hE,h=>by
  obtain⟨hq,hv,hE⟩:=hE
  obtain⟨b,hb,h1⟩:=zb.1 (show ob (eqL P Op.maxDepth kt k q) _=some r from h)
  have heq:=z80 (w:=w) _ _ _ _ _ _ _ hb hk hq
  cases b with
  | true =>
   cases h1
   refine⟨some (i,e.val),?_,rfl,hv,e,?_,rfl,hq⟩
   ·unfold Instr.findAsking
    rw[Sem.run_bind,show(Op.equal kt k' e.key).run P w=.ok true w from heq]
    rfl
   ·have:=h0 0;simpa using this.symm
  | false =>
   obtain⟨r',hr,hf⟩:=z4t hk E0 es E (i+1) r (fun j=>by have:=h0 (j+1);simp only[List.getElem?_cons_succ] at this;rw[this];congr 1;omega) hE h1
   refine⟨r',?_,hf⟩
   unfold Instr.findAsking
   rw[Sem.run_bind,show(Op.equal kt k' e.key).run P w=.ok false w from heq]
   exact hr
 | [],_ :: _,_,_,_,hE,_=>hE.elim
 | _ :: _,[],_,_,_,hE,_=>hE.elim
theorem za2{kt:TypeId}{d:TypeDesc}(hu:P.underlying kt=some d){a b:Value}{r:Bool}(h:Instr.sameNow d a b=some r):(Op.equal kt a b).run P w=.ok r w:=by
 unfold Instr.sameNow at h
 split at h
 ·split at h
  ·rename_i hk;cases h;subst hk;exact run_equalIn_int w 9999 kt _ _ _ _ hu
  ·cases h
 ·cases h;rw[beq_toListBytes];exact run_equalIn_string w 9999 kt _ _ hu
 ·cases h;exact run_equalIn_bool w 9999 kt _ _ hu
 ·cases h
theorem z9m{kt:TypeId}{d:TypeDesc}(hu:P.underlying kt=some d){k':Value}:∀(E:List MapEntry) (i:Nat) (r:Option (Nat × Value)),Instr.findNow d k' E i=some r->(Instr.findAsking kt k' E i).run P w=.ok r w
 | [],i,r,h=>by cases h;rfl
 | e :: E,i,r,h=>by
  unfold Instr.findNow at h
  unfold Instr.findAsking
  rw[Sem.run_bind]
  split at h
  ·rename_i hs;cases h;rw[za2 hu hs];rfl
  ·rename_i hs;rw[za2 hu hs];exact z9m hu E (i+1) r h
  ·cases h
theorem z53{kt:TypeId}{k:LV}{k':Value}(hk:VR ρ k k'){es:List (LV × LV)}{E:List MapEntry}{r:Option (Nat × LV × LV)}(hE:ER ρ es E)(h:findL P kt k es 0=some r)(hu:∃ d,P.underlying kt=some d) :
  ∃ r',(Instr.findKey kt k' E).run P w=.ok r' w /\ FoundR ρ r r' E:=by
 obtain⟨d,hu⟩:=hu
 obtain⟨r',hr,hf⟩:=z4t (w:=w) hk E es E 0 r (fun j=>by simp) hE h
 refine⟨r',?_,hf⟩
 unfold Instr.findKey
 rw[Sem.run_bind,Go.run_underlying hu,Result.andThen_ok]
 cases hn:Instr.findNow d k' E 0 with
 | none=>exact hr
 | some r2 =>
  have:=z9m (w:=w) hu E 0 r2 hn
  rw[hr] at this
  cases this
  rfl
theorem z54{d:Nat}{t:TypeId}{x:LV}(h:keyOk P d t x=true):∃ D,P.underlying t=some D:=by
 cases d with
 | zero=>cases h
 | succ d =>
  unfold keyOk at h
  cases hu:P.underlying t with
  | none=>rw[hu] at h;cases h
  | some D=>exact⟨D,rfl⟩
theorem z55{t:TypeId}{q:TypeId × TypeId}(h:mapTypes P t=some q):P.underlying t=some (.map q.1 q.2):=by
 unfold mapTypes at h
 split at h
 ·cases h;assumption
 ·cases h
end maps
section maps2
variable {P:Program} {Pt:Prot} {ρ:Rho} {m:Mem} {w:World}
theorem z7z{α:Type}(hrel:Rel Pt ρ m w){x:LV}{x':Value}(hx:VR ρ x x'){k:List (LV × LV)->Option α}{y:α}(h:entriesOf m x k=some y) :
  ∃ es,k es=some y /\ ((x'=.map none /\ es=[]) ∨ ∃ i b s c E bs clk,x=.map (some i) /\ x'=.map (some b) /\ ρ i=some (b,s,c) /\ m.get i=some (.map es bs clk) /\ w.heap[b]?=some (.map E clk) /\ ER ρ es E.toList):=by
 obtain⟨r,rfl,h1⟩:=z29.1 h
 cases r with
 | none=>cases hx;exact⟨[],h1,.inl ⟨rfl,rfl⟩⟩
 | some i =>
  obtain⟨es,bs,clk,hi,h2⟩:=z3c.1 (show atMap m i (fun es _ _=>k es)=some y from h1)
  obtain⟨_,b,s,c,o,hρ,⟨E,rfl,hE,_⟩,hh,_⟩:=hrel.live i _ hi
  cases hx with
  | map hρ' =>
   rw[hρ] at hρ';cases hρ'
   exact⟨es,h2,.inr ⟨i,b,s,c,E,bs,clk,rfl,rfl,hρ,hi,hh,hE⟩⟩
theorem zdn(hrel:Rel Pt ρ m w){t:TypeId}{x k v:LV}{ok:Bool}(h:lookupL P t x k ok m=some v){x' k':Value}(hx:VR ρ x x')(hk:VR ρ k k') :
  ∃ v',(Instr.lookup t x' k' ok).run P w=.ok v' w /\ VR ρ v v':=by
 obtain⟨⟨kt,et⟩,hq,h1⟩:=zb.1 h
 obtain⟨hok,h2⟩:=zc.1 (show guard' (keyOk P 10000 kt k) _=some v from h1)
 obtain⟨es,h3,hmap⟩:=z7z hrel hx h2
 obtain⟨r,hr,h4⟩:=zb.1 h3
 have hu:=z55 hq
 have hfin:∀ E:Array MapEntry,ER ρ es E.toList->∃ v',((do
   Instr.checkKey E.isEmpty 10000 kt k'
   let (v,ok2) <- match <- Instr.findKey kt k' E.toList with
    | some (_,v)=>pure (v,true)
    | none=>pure (<- zeroValue et,false)
   pure (if ok then .tuple #[v,.bool ok2] else v):Sem Value)).run P w=.ok v' w /\ VR ρ v v':=by
  intro E hE
  obtain⟨r',hf,hfr⟩:=z53 (w:=w) hk hE hr (z54 hok)
  have hc:=z44 (w:=w) E.isEmpty 10000 kt k k' hok hk
  simp only[Sem.run_bind,hc,Result.andThen_ok,hf]
  cases r with
  | none =>
   cases r' with
   | some _=>exact hfr.elim
   | none =>
    obtain⟨z,hz,h5⟩:=zb.1 (show ob (zeroL P et) _=some v from h4)
    cases h5
    obtain⟨zv,hz1,hz2,_,_⟩:=z31 (w:=w) (ρ:=ρ) hz
    simp only[Sem.run_bind,hz1,Result.andThen_ok,Sem.run_pure]
    cases ok with
    | true=>exact⟨_,rfl,.tup (.cons hz2 (.cons (.bool _) .nil))⟩
    | false=>exact⟨_,rfl,hz2⟩
  | some p =>
   obtain⟨i,q,v1⟩:=p
   cases r' with
   | none=>exact hfr.elim
   | some p' =>
    obtain⟨j,v1'⟩:=p'
    obtain⟨_,hv1,_⟩:=hfr
    cases h4
    cases ok with
    | true=>exact⟨_,rfl,.tup (.cons hv1 (.cons (.bool _) .nil))⟩
    | false=>exact⟨_,rfl,hv1⟩
 unfold Instr.lookup
 simp only[Sem.run_bind,Go.run_underlying hu,Result.andThen_ok]
 rcases hmap with⟨rfl,rfl⟩|⟨i,b,s,c,E,bs,clk,_,rfl,hρ,hi,hh,hE⟩
 ·obtain⟨v',hv1,hv2⟩:=hfin #[] trivial
  refine⟨v',?_,hv2⟩
  exact hv1
 ·obtain⟨v',hv1,hv2⟩:=hfin E hE
  refine⟨v',?_,hv2⟩
  have hg:(getObj b).run P w=.ok (.map E clk) w:=by simp[getObj,Sem.run,hh]
  show Sem.run P (getObj b >>= _) w=_
  rw[Sem.run_bind,hg,Result.andThen_ok]
  exact hv1
theorem ER.length:∀ {es:List (LV × LV)} {E:List MapEntry},ER ρ es E->es.length=E.length
 | [],[],_=>rfl
 | _ :: _,_ :: _,h=>by simp[ER.length h.2.2]
 | [],_ :: _,h=>h.elim
 | _ :: _,[],h=>h.elim
theorem ER.append{es:List (LV × LV)}{E:List MapEntry}(h:ER ρ es E){k v:LV}{e:MapEntry}(hk:VR ρ k e.key)(hv:VR ρ v e.val):ER ρ (es ++ [(k,v)]) (E ++ [e]):=by
 induction es generalizing E with
 | nil=>cases E with
  | nil=>exact⟨hk,hv,trivial⟩
  | cons _ _=>exact h.elim
 | cons x es ih=>cases E with
  | nil=>exact h.elim
  | cons y E=>exact⟨h.1,h.2.1,ih h.2.2⟩
theorem ER.set{es:List (LV × LV)}{E:List MapEntry}(h:ER ρ es E):∀(i:Nat) {k v:LV} {e:MapEntry},i < E.length->VR ρ k e.key->VR ρ v e.val->ER ρ (setVal es i k v) (E.set i e):=by
 induction es generalizing E with
 | nil=>cases E with
  | nil=>intro i _ _ _ hi;simp at hi
  | cons _ _=>exact h.elim
 | cons x es ih=>cases E with
  | nil=>exact h.elim
  | cons y E =>
   intro i k v e hi hk hv
   cases i with
   | zero=>exact⟨hk,hv,h.2.2⟩
   | succ i=>exact⟨h.1,h.2.1,ih h.2.2 i (by simpa using hi) hk hv⟩
theorem z9d(hrel:Rel Pt ρ m w){t:TypeId}{x k v:LV}{m':Mem}(h:mapUpdateL P t x k v m=some m'){x' k' v':Value}(hx:VR ρ x x')(hk:VR ρ k k')(hv:VR ρ v v') :
  ∃ w',(Instr.mapUpdate t x' k' v').run P w=.ok () w' /\ Rel Pt ρ m' w' /\ m'.next=m.next:=by
 obtain⟨⟨kt,et⟩,hq,h1⟩:=zb.1 h
 obtain⟨hok,h2⟩:=zc.1 (show guard' (keyOk P 10000 kt k) _=some m' from h1)
 obtain⟨r0,rfl,h3⟩:=z29.1 h2
 obtain⟨i,rfl,h4⟩:=zb.1 h3
 obtain⟨es,bs,clk,hi,h5⟩:=z3c.1 h4
 obtain⟨p,hp,h6⟩:=zb.1 h5
 obtain⟨_,b,s,c,o,hρ,⟨E,rfl,hE,hbs⟩,hh,_⟩:=hrel.live i _ hi
 cases hx with
 | map hρ' =>
  rw[hρ] at hρ';cases hρ'
  have hu:=z55 hq
  obtain⟨r',hf,hfr⟩:=z53 (w:=w) hk hE hp (z54 hok)
  have hc:=z44 (w:=w) false 10000 kt k k' hok hk
  have hg:(getObj b).run P w=.ok (.map E clk) w:=by simp[getObj,Sem.run,hh]
  have hb:b < w.heap.size:=(Array.getElem?_eq_some_iff.1 hh).1
  have hset:∀(w1:World) (o:Obj),w1.heap=w.heap->(setObj b o).run P w1=.ok () { w1 with heap:=w1.heap.setIfInBounds b o }:=by
   intro w1 o e
   simp only[setObj,Sem.run,e,hh]
  have hturn:∀(w1:World) (es':List (LV × LV)) (E':Array MapEntry) (clk':Nat),w1.heap=w.heap->(w1.os=w.os /\ w1.output=w.output)->ER ρ es' E'.toList ->
    Rel Pt ρ (m.upd i (some (.map es' (E'.toList.map (·.born)) clk'))) { w1 with heap:=w1.heap.setIfInBounds b (.map E' clk') }:=by
   intro w1 es' E' clk' e hos hE'
   refine hrel.turn hi rfl rfl hρ (o':=.map E' clk') ⟨E',rfl,hE',rfl⟩ ?_ ?_ hos
   ·show(w1.heap.setIfInBounds b _)[b]?=_
    rw[e,Array.getElem?_setIfInBounds_self_of_lt hb]
   ·intro r hr
    show(w1.heap.setIfInBounds b _)[r]?=_
    rw[e,Array.getElem?_setIfInBounds_ne (Ne.symm hr)]
  unfold Instr.mapUpdate
  simp only[Sem.run_bind,Go.run_underlying hu,Result.andThen_ok,hg,hc,hf]
  cases p with
  | none =>
   cases r' with
   | some _=>exact hfr.elim
   | none =>
    have h6:fN (clk+1) (fun clk'=>some (m.upd i (some (.map (es ++ [(k,v)]) (bs ++ [clk]) clk'))))=some m':=h6
    rw[z1m] at h6
    cases h6
    have:=hturn w _ (E.push { key:=k',val:=v',born:=clk }) (clk+1) rfl ⟨rfl,rfl⟩ (by simpa using hE.append (e:={ key:=k',val:=v',born:=clk }) hk hv)
    rw[show(E.push { key:=k',val:=v',born:=clk }).toList.map (·.born)=bs ++ [clk] by rw[hbs];simp] at this
    refine⟨_,by simp only[hset w _ rfl],this,Mem.next_upd _ _ _⟩
  | some q =>
   obtain⟨j,kold,vold⟩:=q
   cases r' with
   | none=>exact hfr.elim
   | some p' =>
    obtain⟨j',v1'⟩:=p'
    obtain⟨hjj,_,e,he,_,hke⟩:=hfr
    have hjj:j=j':=hjj
    subst hjj
    obtain⟨hlv,h7⟩:=zc.1 (show guard' (lvEq k kold) _=some m' from h6)
    cases h7
    have hkk:=z1w.1 _ _ hlv
    subst hkk
    have heE:E[j]?=some e:=by simpa using he
    have hjl:j < E.size:=(Array.getElem?_eq_some_iff.1 heE).1
    simp only[heE,Option.map_some,Option.getD_some]
    have hkey:∃ kk w1,(Instr.keyThatStays e.key k').run P w=.ok kk w1 /\ VR ρ k kk /\ w1.heap=w.heap /\ (w1.os=w.os /\ w1.output=w.output):=by
     unfold Instr.keyThatStays
     split
     ·exact⟨k',w,rfl,hk,rfl,rfl,rfl⟩
     ·simp only[Sem.run_bind,run_choose]
      rw[if_neg (by simp[Question.forced])]
      simp only[Result.andThen_ok,Sem.run_pure]
      split
      ·exact⟨_,_,rfl,hk,rfl,rfl,rfl⟩
      ·exact⟨_,_,rfl,hke,rfl,rfl,rfl⟩
    obtain⟨kk,w1,hk1,hk2,hk3,hk4⟩:=hkey
    have hmod:(E.modify j fun e=>{ e with key:=kk,val:=v' }).toList=E.toList.set j { e with key:=kk,val:=v' }:=by
     rw[Array.toList_modify]
     rw[List.modify_eq_set,List.getElem?_eq_getElem (by simpa using hjl)]
     have:E.toList[j]'(by simpa using hjl)=e:=by
      have:=Array.getElem?_eq_some_iff.1 heE
      simpa using this.2
     simp[this]
    have hbn:(E.modify j fun e=>{ e with key:=kk,val:=v' }).toList.map (·.born)=bs:=by
     rw[hmod,hbs,List.map_set]
     have hj:j <(E.toList.map (·.born)).length:=by simpa using hjl
     have e2:(E.toList.map (·.born))[j]'hj=e.born:=by
      have:=Array.getElem?_eq_some_iff.1 heE
      simp[this.2]
     rw[<-e2,List.set_getElem_self]
    have:=hturn w1 (setVal es j k v) (E.modify j fun e=>{ e with key:=kk,val:=v' }) clk hk3 hk4 (by rw[hmod];exact hE.set j (by simpa using hjl) hk2 hv)
    rw[hbn] at this
    exact⟨_,by rw[Sem.run_bind,hk1,Result.andThen_ok,hset w1 _ hk3],this,Mem.next_upd _ _ _⟩
end maps2
end PvL
end
section
namespace PvL
open Go
section bi
variable {P:Program} {Pt:Prot} {ρ:Rho} {m:Mem} {w:World}
theorem zor{t:TypeId}{k:LenK}(h:lenK P t=some k):∃ d,P.underlying t=some d /\ ((k=.str /\ d=.string) ∨(k=.sl /\ ∃ e,d=.slice e) ∨(∃ n e,k=.arr n /\ d=.array n e) ∨(k=.map /\ ∃ a b,d=.map a b)):=by
 unfold lenK at h
 split at h
 ·rename_i hu;cases h;exact⟨_,hu,.inl ⟨rfl,rfl⟩⟩
 ·rename_i e hu;cases h;exact⟨_,hu,.inr (.inl ⟨rfl,e,rfl⟩)⟩
 ·rename_i n e hu;cases h;exact⟨_,hu,.inr (.inr (.inl ⟨n,e,rfl,rfl⟩))⟩
 ·rename_i a b hu;cases h;exact⟨_,hu,.inr (.inr (.inr ⟨rfl,a,b,rfl⟩))⟩
 ·cases h
theorem zl7(hrel:Rel Pt ρ m w){t:TypeId}{x v:LV}(h:lenL P t x m=some v){x':Value}(hx:VR ρ x x')(ts:Array TypeId)(ty:TypeId)(as:List Value)(ht:ts[0]?=some t) :
  ∃ v',(Builtin.len_ ts ty (x' :: as).toArray).run P w=.ok v' w /\ VR ρ v v':=by
 obtain⟨k,hk,h1⟩:=zb.1 h
 obtain⟨d,hu,hd⟩:=zor hk
 unfold Builtin.len_
 rw[ht]
 simp only[List.getElem?_toArray,List.getElem?_cons_zero,Sem.run_bind,Go.run_underlying hu,Result.andThen_ok]
 rcases hd with⟨rfl,rfl⟩|⟨rfl,e,rfl⟩|⟨n,e,rfl,rfl⟩|⟨rfl,a,b,rfl⟩
 ·obtain⟨s,rfl,h2⟩:=z0k.1 (show asStr x _=some v from h1)
  rw[hx.str_inv,zev.1 h2]
  exact⟨_,rfl,.int _ _⟩
 ·obtain⟨a,n,f,es,rfl,h2⟩:=z0m.1 (show asSlice x _=some v from h1)
  rw[zev.1 h2]
  cases hx with
  | sliceNil=>exact⟨_,rfl,.int _ _⟩
  | slice=>exact⟨_,rfl,.int _ _⟩
  | sliceZ=>exact⟨_,rfl,.int _ _⟩
  | sliceE=>exact⟨_,rfl,.int _ _⟩
 ·rw[zev.1 (show mkN n=some v from h1)]
  exact⟨_,rfl,.int _ _⟩
 ·obtain⟨es,h2,hm⟩:=z7z hrel hx (show entriesOf m x (fun es=>mkN es.length)=some v from h1)
  rw[zev.1 h2]
  rcases hm with⟨rfl,rfl⟩|⟨i,b,s,c,E,bs,clk,_,rfl,hρ,hi,hh,hE⟩
  ·exact⟨_,rfl,.int _ _⟩
  ·have hg:(getObj b).run P w=.ok (.map E clk) w:=by simp[getObj,Sem.run,hh]
   refine⟨.int .i64 E.size,?_,by rw[hE.length];simpa using VR.int _ _⟩
   simp only[Sem.run_bind,hg,Result.andThen_ok]
   rfl
theorem z39(hrel:Rel Pt ρ m w){sz n:Nat}{x:LV}{l:List LV}(h:z0l sz n x m=some l)(hlen:∀ k,z1k x=some k->n<=k){x':Value}(hx:VR ρ x x') :
  ∃ L:Array Value,(Builtin.firstCells sz n x').run P w=.ok L w /\ VRs ρ l L.toList /\ L.size=n*sz:=by
 unfold z0l at h
 split at h
 ·obtain⟨hn,h⟩:=zc.1 h
  rw[Nat.beq_eq] at hn
  cases h;cases hx;exact⟨#[],rfl,.nil,by rw[hn];simp⟩
 ·cases hn0:Nat.beq n 0 with
  | true =>
   rw[hn0] at h
   have hn0:n=0:=Nat.eq_of_beq_eq_true hn0
   subst hn0
   cases h
   cases hx with
   | slice=>exact⟨#[],by simp[Builtin.firstCells,loadCells,loadCellsFrom],.nil,by simp⟩
   | sliceZ=>exact⟨#[],by simp[Builtin.firstCells,loadCells,loadCellsFrom],.nil,by simp⟩
   | sliceE=>exact⟨#[],by simp[Builtin.firstCells,loadCells,loadCellsFrom],.nil,by simp⟩
  | false =>
   rw[hn0,zh] at h
   cases hx with
   | slice hρ hle hf hc =>
    obtain⟨vs,h1,h2,h3⟩:=z46 hrel h hρ
    exact⟨vs.toArray,by simp only[Builtin.firstCells];exact z3q h1 h2,by simpa using h3,by simpa using h1⟩
   | sliceZ =>
    have:=hlen 0 rfl
    obtain rfl:n=0:=by omega
    cases hn0
   | sliceE =>
    have:=hlen 0 rfl
    obtain rfl:n=0:=by omega
    cases hn0
 ·rename_i s
  obtain⟨hg,h⟩:=zc.1 h
  simp only[Bool.and_eq_true,Nat.beq_eq,Nat.ble_eq] at hg
  cases h
  rw[hx.str_inv]
  refine⟨_,rfl,?_,?_⟩
  ·simp only[Array.toList_map]
   generalize (s.extract 0 n).data.toList=bs
   induction bs with
   | nil=>exact .nil
   | cons b bs ih=>exact .cons (.int _ _) ih
  ·rw[hg.1,Array.size_map]
   have h1:(s.extract 0 n).data.size=(s.extract 0 n).size:=rfl
   rw[h1,ByteArray.size_extract];omega
 ·cases h
theorem zde{id off sz n len es:Nat}{full own:Bool}{c:List LV}{e:TypeId}{l:List LV}(hid:m.get id=some (.cells own c e))(h:z0l sz n (.slice (some (id,off)) len full es) m=some l):loadN m id off (n*sz)=some l:=by
 unfold z0l at h
 simp only at h
 cases hn0:Nat.beq n 0 with
 | true =>
  rw[hn0] at h
  have hn0:n=0:=Nat.eq_of_beq_eq_true hn0
  subst hn0
  cases h
  unfold loadN atCells
  rw[hid,za]
  show take' (0*sz) (drop' off c)=_
  rw[Nat.zero_mul];rfl
 | false=>rw[hn0,zh] at h;exact h
theorem z3a{x:LV}{n:Nat}(h:z1k x=some n){x':Value}(hx:VR ρ x x'):(Builtin.lenOf x').run P w=.ok n w:=by
 unfold z1k at h
 split at h
 ·cases h
  cases hx with
  | sliceNil=>rfl
  | slice=>rfl
  | sliceZ=>rfl
  | sliceE=>rfl
 ·cases h;rw[hx.str_inv];rfl
 ·cases h
theorem zc2(need:Nat):∀(r c:Nat),c<=5*need / 4+2048->Builtin.growBy need r c<=5*need / 4+2048
 | 0,c,h=>h
 | r+1,c,h=>by
  unfold Builtin.growBy
  split
  ·exact h
  ·exact zc2 need r _ (by omega)
theorem zgc(need cap:Nat)(h:cap < need):Builtin.nextslicecap need cap<=5*need / 4+2048:=by
 unfold Builtin.nextslicecap
 split
 ·omega
 ·split
  ·omega
  ·exact zc2 _ _ _ (by omega)
theorem z1p{α:Type}{l:List α}{k:α->List α->Option R1}{r:R1}:arg0 l k=some r ↔ ∃ a as,l=a :: as /\ k a as=some r:=by
 cases l with
 | nil=>exact⟨fun h=>(by cases h),fun⟨_,_,e,_⟩=>(by cases e)⟩
 | cons a as=>exact⟨fun h=>⟨a,as,rfl,h⟩,fun⟨_,_,e,h⟩=>(by cases e;exact h)⟩
theorem z67{st xt e:TypeId}{xd:TypeDesc}{sz n len cap:Nat}{A:Option Addr}{x':Value}{ts:Array TypeId}{ty:TypeId}(hu:P.underlying st=some (.slice e))(hxd:P.underlying xt=some xd)(hni:isIntD xd=false)
  (hsz:szOf P e=some sz) (hlen:(Builtin.lenOf x').run P w=.ok n w) (ht1:ts[0]?=some st) (ht2:ts[1]?=some xt) :
  (len+n<=cap->(Builtin.append_ ts ty #[.slice A len cap,x']).run P w =
   (do let new <- Builtin.firstCells sz n x'
       if let some a:=A then storeCells (a.add (len*sz)) new.toList
       pure (.slice A (len+n) cap):Sem Value).run P w) /\
  (∀ i,(typeInfo e).run P w=.ok i w->0 < i.bytes->¬ len+n<=cap->Builtin.nextslicecap (len+n) cap*i.bytes<=2 ^ 48 ->
   (Builtin.append_ ts ty #[.slice A len cap,x']).run P w =
   (do let newCap <- choose (.appendCap (len+n) cap e)
       let old <- Builtin.firstCells sz len (.slice A len cap)
       let new <- Builtin.firstCells sz n x'
       let rest:=Builtin.zeroCells (<- zeroValue e).cells (newCap - (len+n))
       pure (.slice (some (<- newRow e (old ++ new ++ rest))) (len+n) newCap):Sem Value).run P w):=by
 constructor
 ·intro hle
  unfold Builtin.append_
  cases xd<;>first|(cases hni;done)|skip
  all_goals
   simp only[ht1,ht2,List.getElem?_toArray,List.getElem?_cons_zero,List.getElem?_cons_succ,Sem.run_bind,Go.run_underlying hu,Go.run_underlying hxd,Result.andThen_ok,zy hsz,
    Sem.run_pure,Bool.false_eq_true,if_false,Bool.not_false,if_true,hlen,hle]
   cases A<;>rfl
 ·intro i hi hpos hgt hcap
  have hi2:∀ w',(typeInfo e).run P w'=.ok i w':=by
   intro w'
   unfold typeInfo at hi ⊢
   simp only[Sem.run_bind,run_program,Result.andThen_ok] at hi ⊢
   split at hi
   ·rename_i i' he
    cases hi
    rfl
   ·cases hi
  unfold Builtin.append_
  cases xd<;>first|(cases hni;done)|skip
  all_goals
   simp only[ht1,ht2,List.getElem?_toArray,List.getElem?_cons_zero,List.getElem?_cons_succ,Sem.run_bind,Go.run_underlying hu,Go.run_underlying hxd,Result.andThen_ok,zy hsz,
    Sem.run_pure,Bool.false_eq_true,if_false,Bool.not_false,if_true,hlen,hgt,hi]
   rw[if_neg (by intro hh;rcases hh with⟨_,h|h⟩<;>first|(cases h;done)|omega)]
   simp only[Sem.run_bind,hi,Result.andThen_ok]
   rw[if_neg (by omega)]
   simp only[Sem.run_bind,run_choose]
   rw[if_neg (by simp[Question.forced])]
   simp only[Result.andThen_ok,hi2,run_askRoom]
   rfl
theorem Rel.reuse(h:Rel Pt ρ m w)(hf:ρ m.next=none){lb:LB}{o':Obj}{b s c:Nat}(hro:isRo lb=false)(hb:BR ρ lb o' s c)(hp:Pt b=none)
  (hfree:∀ j l x,m.get j=some l->isRo l=false->ρ j=some x->x.1 ≠ b) {w':World} (ho:w'.heap[b]?=some o') (hoth:∀ r,r ≠ b->w'.heap[r]?=w.heap[r]?) (hs:w'.os=w.os /\ w'.output=w.output:=by exact⟨rfl,rfl⟩) :
  Rel Pt (upd1 ρ m.next (b,s,c)) (m.push lb) w':=by
 have hle:=RLe.upd1 (ρ:=ρ) (i:=m.next) (x:=(b,s,c)) hf
 refine⟨fun r o hr=>?_,fun j l hj=>?_,fun j k l l' x y hj hk h1 h2 hx hy he=>?_,by rw[hs.1,hs.2];exact h.still⟩
 ·have:r ≠ b:=fun e=>by subst e;rw[hp] at hr;cases hr
  rw[hoth r this];exact h.keep r o hr
 ·rw[Mem.get_push] at hj
  by_cases e:j=m.next
  ·rw[if_pos e] at hj;cases hj
   exact⟨by show j < m.next+1;omega,b,s,c,o',by rw[e];exact z06 _ _ _,hb.mono hle,ho,by rw[hro];exact hp⟩
  ·rw[if_neg e] at hj
   obtain⟨hl,b1,s1,c1,o1,e1,g1,g2,g3⟩:=h.live j l hj
   have hne:b1 ≠ b:=by
    by_cases hr:isRo l=true
    ·rw[if_pos hr] at g3
     intro eb;subst eb;rw[hp] at g3;cases g3.1
    ·exact hfree j l _ hj (by simpa using hr) e1
   exact⟨Nat.lt_succ_of_lt hl,b1,s1,c1,o1,hle _ _ e1,g1.mono hle,by rw[hoth b1 hne];exact g2,g3⟩
 ·rw[Mem.get_push] at hj hk
  by_cases e:j=m.next
  ·by_cases e':k=m.next
   ·rw[e,e']
   ·rw[if_neg e'] at hk
    obtain⟨hl,b1,s1,c1,o1,e1,_,g2,_⟩:=h.live k l' hk
    rw[hle _ _ e1] at hy;cases hy
    rw[e,z06] at hx;cases hx
    exact absurd he.symm (hfree k l' _ hk h2 e1)
  ·rw[if_neg e] at hj
   obtain⟨hl,b1,s1,c1,o1,e1,_,g2,_⟩:=h.live j l hj
   rw[hle _ _ e1] at hx;cases hx
   by_cases e':k=m.next
   ·rw[e',z06] at hy;cases hy
    exact absurd he (hfree j l _ hj h1 e1)
   ·rw[if_neg e'] at hk
    obtain⟨_,b2,s2,c2,o2,e2,_,_,_⟩:=h.live k l' hk
    rw[hle _ _ e2] at hy;cases hy
    exact h.inj j k l l' _ _ hj hk h1 h2 e1 e2 he
theorem zi8{α:Type}{a:Option (Nat × Nat)}{full okes:Bool}{k:Mem->Option α}{y:α}{el:TypeId}(h:killed el a full okes m k=some y) :
  ((a=none ∨ full=true) /\ k m=some y) ∨ ∃ id off c e,a=some (id,off) /\ full=false /\ okes=true /\ m.get id=some (.cells true c e) /\ (e=el ∨ e=apE el) /\ k (m.upd id none)=some y:=by
 cases a with
 | none=>exact .inl ⟨.inl rfl,h⟩
 | some p =>
  obtain⟨id,off⟩:=p
  cases full with
  | true=>exact .inl ⟨.inr rfl,h⟩
  | false =>
   obtain⟨hok,h1⟩:=zc.1 (show guard' okes _=some y from h)
   obtain⟨own,c,e,hi,h2⟩:=z1g.1 h1
   obtain⟨hown,h3⟩:=zc.1 h2
   simp only[Bool.and_eq_true,Bool.or_eq_true,Nat.beq_eq] at hown
   obtain⟨rfl,hte⟩:=hown
   exact .inr ⟨id,off,c,e,rfl,rfl,hok,hi,hte,h3⟩
theorem zfl{st xt:TypeId}{s x:LV}{r:R1}(h:appendL P st xt s x m rvm=some r) :
  ∃ v m',r=.val v m' /\ ∀(Pt:Prot) (ρ:Rho) (w:World) (s' x':Value) (ts:Array TypeId) (ty:TypeId),ts[0]?=some st->ts[1]?=some xt->VR ρ s s'->VR ρ x x'->Rel Pt ρ m w->Fresh ρ m.next m'.next ->
   Gives P Pt ρ m w (Builtin.append_ ts ty #[s',x']) v m':=by
 obtain⟨e,he,h1⟩:=zb.1 h
 obtain⟨xd,hxd,h2⟩:=zb.1 h1
 have hni:isIntD xd=false:=by
  cases hi:isIntD xd with
  | false=>rfl
  | true=>rw[hi] at h2;cases h2
 rw[hni] at h2
 obtain⟨sz,hsz,h3⟩:=zb.1 (show ob (szOf P e) _=some r from h2)
 obtain⟨by',hby,h4⟩:=zb.1 h3
 obtain⟨a,len,full,es,rfl,h5⟩:=z0m.1 h4
 obtain⟨n,hn,h6⟩:=zb.1 h5
 have hu:=z25 he
 have hmatch:∀ {α:Type} (x y:α),(match xd with | .int _=>x|_=>y)=y:=by
  intro α x y;cases xd<;>first|rfl|cases hni
 cases hn0:Nat.beq n 0 with
 | true =>
  rw[hn0] at h6
  cases h6
  have hn0:n=0:=Nat.eq_of_beq_eq_true hn0
  subst hn0
  refine⟨_,_,rfl,fun Pt ρ w s' x' ts ty ht1 ht2 hs hx hrel hf=>?_⟩
  refine Gives.pure hrel (v':=s') ?_ hs
  have hlen:=z3a (P:=P) (w:=w) hn hx
  have hsl:∃ A cap,s'=.slice A len cap /\ len<=cap:=by
   cases hs with
   | sliceNil=>exact⟨none,0,rfl,Nat.le_refl _⟩
   | slice hρ hle hf hc=>exact⟨_,_,rfl,hle⟩
   | sliceZ=>exact⟨_,_,rfl,Nat.le_refl _⟩
   | sliceE=>exact⟨_,_,rfl,Nat.zero_le _⟩
  obtain⟨A,cap,rfl,hcap⟩:=hsl
  rw[(z67 (A:=A) (cap:=cap) (ty:=ty) hu hxd hni hsz hlen ht1 ht2).1 (by omega)]
  obtain⟨L,hL,hL2⟩:∃ L:Array Value,(Builtin.firstCells sz 0 x').run P w=.ok L w /\ L.toList=[]:=by
   unfold z1k at hn
   split at hn
   ·cases hx with
    | sliceNil=>exact⟨#[],rfl,rfl⟩
    | slice=>exact⟨#[],by simp[Builtin.firstCells,loadCells,loadCellsFrom],rfl⟩
    | sliceZ=>exact⟨#[],by simp[Builtin.firstCells,loadCells,loadCellsFrom],rfl⟩
    | sliceE=>exact⟨#[],by simp[Builtin.firstCells,loadCells,loadCellsFrom],rfl⟩
   ·rw[hx.str_inv];exact⟨_,rfl,by simp⟩
   ·cases hn
  simp only[Sem.run_bind,hL,Result.andThen_ok,hL2]
  cases A<;>rfl
 | false =>
  rw[hn0] at h6
  obtain⟨z,hz,h7⟩:=zb.1 (show ob (zeroL P e) _=some r from h6)
  obtain⟨hg,h8⟩:=zc.1 h7
  obtain⟨old,hold,h9⟩:=zb.1 h8
  obtain⟨new,hnew,h10⟩:=zb.1 h9
  obtain⟨hfl,h11⟩:=zc.1 h10
  simp only[Bool.and_eq_true,Nat.ble_eq,Nat.beq_eq] at hg
  obtain⟨hgt,hg1,hg2,hg3,hg4⟩:=hg
  have hnpos:0 < n:=by
   rcases Nat.eq_zero_or_pos n with h0|h0
   ·rw[h0] at hn0;cases hn0
   ·exact h0
  have fresh_way:∀(Pt:Prot) (ρ:Rho) (w:World) (m0:Mem) (s' x':Value) (ts:Array TypeId) (ty:TypeId) (A:Option Addr) (cap:Nat),s'=.slice A len cap->¬ len+n<=cap ->
    ts[0]?=some st->ts[1]?=some xt->VR ρ (.slice a len full es) s'->VR ρ x x'->Rel Pt ρ m w->Rel Pt ρ m0 w->m0.next=m.next->ρ m.next=none ->
    Gives P Pt ρ m w (Builtin.append_ ts ty #[s',x']) (.slice (some (m.next,0)) (len+n) false sz) (m0.push (.cells true (old ++ new) (apE e))):=by
   intro Pt ρ w m0 s' x' ts ty A cap hsA hgt ht1 ht2 hs hx hrel hrel0 hnext hf
   subst hsA
   obtain⟨i,hi,hib⟩:=zco (w:=w) hby
   have hcapb:Builtin.nextslicecap (len+n) cap*i.bytes<=2 ^ 48:=by
    have h1:=zgc (len+n) cap (by omega)
    have h2:Builtin.nextslicecap (len+n) cap*i.bytes<=(5*(len+n) / 4+2048)*by':=by rw[hib];exact Nat.mul_le_mul_right _ h1
    omega
   let w1:World:={ w with drawn:=w.drawn+1 }
   have hrel1:Rel Pt ρ m w1:=hrel.of_heap rfl
   obtain⟨L1,hL1,hv1,hs1⟩:=z39 (P:=P) hrel1 hold (fun k hk=>by cases hk;exact Nat.le_refl _) hs
   obtain⟨L2,hL2,hv2,hs2⟩:=z39 (P:=P) hrel1 hnew (fun k hk=>by rw[hn] at hk;cases hk;exact Nat.le_refl _) hx
   obtain⟨zv,hz1,hz2,hzc,hzf⟩:=z31 (w:=w1) (ρ:=ρ) hz
   have hzl:z.cells.length=zv.cells.size:=by simpa using hzc.length
   let newCap:=(Question.appendCap (len+n) cap e).cut (w.tape w.drawn (.appendCap (len+n) cap e))
   have hnc:len+n<=newCap:=Nat.le_add_right _ _
   let C:=L1 ++ L2 ++ Builtin.zeroCells zv.cells (newCap - (len+n))
   have hC:C.size=newCap*sz:=by
    have:(Builtin.zeroCells zv.cells (newCap - (len+n))).size=(newCap - (len+n))*sz:=by
     simp[Builtin.zeroCells,<- hzl,hg4]
    show(L1 ++ L2 ++ _).size=_
    rw[Array.size_append,Array.size_append,hs1,hs2,this,<- Nat.add_mul,<- Nat.add_mul]
    congr 1;omega
   have hcells:CellsR ρ (old ++ new) C 0:=by
    have hv:VRs ρ (old ++ new) (L1 ++ L2).toList:=by rw[Array.toList_append];exact hv1.append hv2
    exact hv.cellsR_append
   have hnew':=z5p (hrel0.of_heap (w':=w1) rfl) (by rw[hnext];exact hf) (C:=C) (e:=apE e) (e':=e) hcells zh0
   refine⟨_,.slice (some ⟨w.heap.size,0+0,none⟩) (len+n) newCap,_,?_,by show Same ρ (upd1 ρ m0.next _) m.next (m0.next+1);rw[hnext];exact Same.upd1 hf,.slice (by rw[hnext];exact z06 _ _ _) hnc (fun hh=>by cases hh) (by show 0+0+newCap*sz<=C.size;rw[hC];omega),hnew'⟩
   rw[(z67 (A:=A) (cap:=cap) (ty:=ty) hu hxd hni hsz (z3a hn hx) ht1 ht2).2 i hi (by omega) hgt hcapb]
   simp only[Sem.run_bind,run_choose]
   rw[if_neg (by simp[Question.forced])]
   simp only[Result.andThen_ok]
   rw[show(Builtin.firstCells sz len (Value.slice A len cap)).run P { w with drawn:=w.drawn+1 }=_ from hL1]
   simp only[Result.andThen_ok]
   rw[hL2]
   simp only[Result.andThen_ok,hz1,newRow,Sem.run_bind,run_newObj,Sem.run_pure]
   rfl
  rcases zi8 h11 with⟨hk,h12⟩|⟨id,off,c0,e0,rfl,rfl,hok,hid,hte,h12⟩
  ·rw[Mem.new_eq,z1m] at h12
   cases h12
   refine⟨_,_,rfl,fun Pt ρ w s' x' ts ty ht1 ht2 hs hx hrel hf=>?_⟩
   have hsl:∃ A cap,s'=.slice A len cap /\ cap=len:=by
    cases hs with
    | sliceNil=>exact⟨none,0,rfl,rfl⟩
    | slice hρ hle hfu hc =>
     rcases hk with hk|hk
     ·cases hk
     ·exact⟨_,_,rfl,hfu hk⟩
    | sliceZ=>exact⟨_,_,rfl,rfl⟩
    | sliceE=>rcases hk with hk|hk<;>cases hk
   obtain⟨A,cap,hA,hcap⟩:=hsl
   exact fresh_way Pt ρ w m s' x' ts ty A cap hA (by omega) ht1 ht2 hs hx hrel hrel rfl (hf _ (Nat.le_refl _) (Nat.lt_succ_self _))
  ·rw[Mem.new_eq,z1m] at h12
   cases h12
   rw[Nat.beq_eq] at hok
   subst hok
   refine⟨_,_,rfl,fun Pt ρ w s' x' ts ty ht1 ht2 hs hx hrel hf=>?_⟩
   have hnx:(m.upd id none).next=m.next:=Mem.next_upd _ _ _
   have hf0:ρ m.next=none:=hf _ (Nat.le_refl _) (by show m.next <(m.upd id none).next+1;rw[hnx];exact Nat.lt_succ_self _)
   have hrel0:=hrel.drop id
   have hs0:=hs
   cases hs with
   | slice hρ hle hfu hc =>
    rename_i b s c cap
    by_cases hroom:len+n<=cap
    ·-- in place
     obtain⟨C,e',fr,hh,hfr,hsz',hC⟩:=hrel.cells hid hρ
     obtain⟨hthaw,hty⟩:=hfr rfl
     have hee:e'=e:=by
      unfold plainT at hgt;rw[Nat.ble_eq] at hgt
      rcases hte with rfl|rfl
      ·rcases hty with⟨_,h,_⟩|h
       ·exact h
       ·omega
      ·rcases hty with⟨h,_,_⟩|h
       ·unfold apE at h;omega
       ·exact(Nat.add_right_cancel (show e+1000000=e' + 1000000 from h)).symm
     subst hee
     obtain⟨L2,hL2,hv2,hs2⟩:=z39 (P:=P) hrel hnew (fun k hk=>by rw[hn] at hk;cases hk;exact Nat.le_refl _) hx
     obtain⟨vs,hv1,hv2',hv3⟩:=z46 hrel (zde hid hold) hρ
     have hmul:(len+n)*es<=cap*es:=Nat.mul_le_mul_right _ hroom
     rw[Nat.add_mul] at hmul
     have hol:old.length=len*es:=by rw[hv3.length,hv1]
     have hnl:new.length=n*es:=by rw[hv2.length];simpa using hs2
     obtain⟨w',C',hrun,hh',hsz2,hk',hoth,hos⟩:=z4y P b (s+off+len*es) e' fr L2.toList 0 w C (by rw[hsz'];exact hthaw) hh (hv2.oneCells hfl) (.inr (by simp;omega))
     have hp:Pt b=none:=by
      obtain⟨_,b1,s1,c1,o1,e1,_,_,h4⟩:=hrel.live id _ hid
      rw[hρ] at e1;cases e1
      exact h4
     have hfree:∀ j l x,(m.upd id none).get j=some l->isRo l=false->ρ j=some x->x.1 ≠ b:=by
      intro j l x hj hl hxj
      rw[Mem.get_upd] at hj
      by_cases e:j=id
      ·rw[if_pos e] at hj;cases hj
      ·rw[if_neg e] at hj
       exact fun eb=>e (hrel.inj j id l _ x _ hj hid hl rfl hxj hρ eb)
     have hBR:BR ρ (.cells true (old ++ new) (apE e')) (.cells C' e' fr) (s+off) c:=by
      refine⟨C',e',fr,rfl,fun _=>⟨hthaw,zh0⟩,by omega,fun k v hk=>?_⟩
      by_cases hkl:k < old.length
      ·rw[List.getElem?_append_left hkl] at hk
       obtain⟨v',e1,hv⟩:=hv3.get hk
       refine⟨v',?_,hv⟩
       rw[hk',if_neg (by omega),<- e1,<- hv2' k (by omega),z6b hh]
      ·rw[List.getElem?_append_right (by omega)] at hk
       obtain⟨v',e1,hv⟩:=hv2.get hk
       have hkn:=(List.getElem?_eq_some_iff.1 hk).1
       refine⟨v',?_,hv⟩
       rw[hk',if_pos (by simp;omega),<- e1]
       congr 1;omega
     have hrel':=Rel.reuse hrel0 (by rw[hnx];exact hf0) (lb:=.cells true (old ++ new) (apE e')) rfl hBR hp hfree hh' hoth hos
     refine⟨_,.slice (some ⟨b,s+off+0,none⟩) (len+n) cap,w',?_,by show Same ρ (upd1 ρ (m.upd id none).next _) m.next ((m.upd id none).next+1);rw[hnx];exact Same.upd1 hf0,?_,hrel'⟩
     ·rw[(z67 (ty:=ty) hu hxd hni hsz (z3a hn hx) ht1 ht2).1 hroom]
      simp only[Sem.run_bind,hL2,Result.andThen_ok,z28,hrun,Sem.run_pure]
      rfl
     ·rw[hnx]
      exact .slice (z06 _ _ _) hroom (fun hh=>by cases hh) (by omega)
    ·rw[hnx]
     exact fresh_way Pt ρ w (m.upd id none) _ x' ts ty _ cap rfl hroom ht1 ht2 hs0 hx hrel hrel0 hnx hf0
   | sliceE =>
    exfalso
    have hg9:=(zc.1 h7).1
    simp at hg9
end bi
end PvL
end
section
namespace PvL
open Go
section
variable {P:Program} {Pt:Prot} {ρ:Rho} {m:Mem} {w:World}
theorem zs3{v:LV}{b:UInt8}(h:u8L v=some b):∃ n:Nat,v=.int .u8 n /\ b=UInt8.ofNat n:=by
 obtain⟨k,z,rfl,h1⟩:=zk.1 h
 obtain⟨hk,h2⟩:=zc.1 h1
 obtain rfl:=z3i.1 hk
 obtain⟨n,rfl,h3⟩:=nat?_eq.1 h2
 cases h3
 exact⟨n,rfl,rfl⟩
theorem z7p:∀ {l:List LV} {bs:List UInt8} {vs:List Value},bytesL l=some bs->VRs ρ l vs->∃ ns:List Int,vs=ns.map (Value.int .u8) /\ bs=ns.map (fun n=>UInt8.ofNat n.toNat)
 | [],bs,vs,h,hv=>by cases h;cases hv;exact⟨[],rfl,rfl⟩
 | v :: l,bs,vs,h,hv=>by
  obtain⟨b,hb,h1⟩:=zb.1 (show ob (u8L v) _=some bs from h)
  obtain⟨bs',hbs,h2⟩:=zb.1 h1
  cases h2
  obtain⟨n,rfl,rfl⟩:=zs3 hb
  cases hv with
  | cons hv hvs =>
   obtain⟨ns,rfl,rfl⟩:=z7p hbs hvs
   rw[hv.int_inv]
   exact⟨(n:Int) :: ns,rfl,rfl⟩
theorem z9n(ns:List Int):ns.foldl (fun r n=>r.push (UInt8.ofNat n.toNat)) ByteArray.empty=(⟨⟨ns.map fun n=>UInt8.ofNat n.toNat⟩⟩:ByteArray):=by
 rw[foldl_push_bytes]
 simp[ByteArray.empty,ByteArray.emptyWithCapacity]
 rfl
theorem zhm{s d:TypeId}{x v:LV}{x':Value}(hrel:Rel Pt ρ m w)(h:convM P s d x m=some v)(hx:VR ρ x x'):Gives P Pt ρ m w (convert s d x') v m:=by
 unfold convM at h
 unfold convK at h
 split at h
 ·rename_i e hs hd
  by_cases hu:isU8 P e=true
  ·rw[if_pos hu] at h
   have h:asSlice x (fun p n _ _=>strOf m p n)=some v:=h
   obtain⟨p,n,f,es,rfl,h1⟩:=z0m.1 h
   have he:P.underlying e=some (.int .u8):=by
    unfold isU8 at hu
    split at hu
    ·assumption
    ·cases hu
   unfold strOf at h1
   cases hn:Nat.beq n 0 with
   | true =>
    rw[hn] at h1
    cases h1
    have hn:=Nat.eq_of_beq_eq_true hn
    subst hn
    refine Gives.pure hrel (v':=.string .empty) ?_ (.str _)
    have hA:∃ A cap,x'=.slice A 0 cap:=by
     cases hx with
     | sliceNil=>exact⟨_,_,rfl⟩
     | slice=>exact⟨_,_,rfl⟩
     | sliceZ=>exact⟨_,_,rfl⟩
     | sliceE=>exact⟨_,_,rfl⟩
    obtain⟨A,cap,rfl⟩:=hA
    rw[run_convert_bytes_string w s d e A 0 cap hs he hd]
    cases A with
    | none=>rfl
    | some a=>exact(run_bytesToString w a 0 cap [] rfl).trans (by rfl)
   | false =>
    rw[hn] at h1
    obtain⟨⟨id,off⟩,rfl,h2⟩:=zb.1 (show ob p _=some v from h1)
    obtain⟨l,hl,h3⟩:=zb.1 (show ob (loadN m id off n) _=some v from h2)
    obtain⟨bs,hbs,h4⟩:=zb.1 h3
    cases h4
    cases hx with
    | slice hρ hle hf hc =>
     rename_i b sh c cap
     obtain⟨vs,g1,g2,g3⟩:=z46 hrel hl hρ
     obtain⟨ns,rfl,rfl⟩:=z7p hbs g3
     refine Gives.pure hrel (v':=.string ⟨⟨ns.map fun n=>UInt8.ofNat n.toNat⟩⟩) ?_ (.str _)
     rw[run_convert_bytes_string w s d e _ n cap hs he hd,run_bytesToString w _ n cap ns (z3q g1 g2),z9n]
    | sliceZ=>cases hn
    | sliceE=>cases hn
  ·rw[if_neg hu] at h
   obtain⟨v',h1,h2⟩:=z7x (w:=w) (show convL P s d x=some v from h) hx
   exact Gives.pure hrel h1 h2
 ·rename_i e0 e hs hd
  by_cases hu:(Nat.beq s d && isU8 P e)=true
  ·rw[if_pos hu] at h
   simp only[Bool.and_eq_true] at hu
   obtain⟨hsd,hu⟩:=hu
   obtain rfl:=Nat.eq_of_beq_eq_true hsd
   have he:P.underlying e=some (.int .u8):=by
    unfold isU8 at hu
    split at hu
    ·assumption
    ·cases hu
   have hee:e0=e:=by rw[hs] at hd;cases hd;rfl
   subst hee
   have h:asSlice x (fun p n f e=>guard' (ownAt m p && Nat.ble 1 n) (some (.slice p n f e)))=some v:=h
   obtain⟨p,n,f,es,rfl,h1⟩:=z0m.1 h
   obtain⟨hown,h2⟩:=zc.1 h1
   cases h2
   simp only[Bool.and_eq_true,Nat.ble_eq] at hown
   obtain⟨hown,hn1⟩:=hown
   cases p with
   | none=>cases hown
   | some q =>
    obtain⟨id,off⟩:=q
    have hg:∃ cs ty,m.get id=some (.cells true cs ty):=by
     have hown:oe (m.get id) false (fun b=>lbE b (fun own _ _=>own) (fun _ _ _=>false) (fun _ _ _ _ _ _ _ _=>false) false (fun _ _ _ _=>false))=true:=hown
     cases hm:m.get id with
     | none=>rw[hm] at hown;cases hown
     | some lb =>
      rw[hm] at hown
      cases lb with
      | cells own cs ty=>exact⟨cs,ty,by have hown:own=true:=hown;rw[hown]⟩
      | _=>cases hown
    obtain⟨cs,ty,hg⟩:=hg
    obtain⟨_,b0,s0,c0,o0,hρ0,⟨C,e',fr,rfl,hfr,hsz,hC⟩,hh,hp⟩:=hrel.live id _ hg
    obtain⟨hthaw,hty⟩:=hfr rfl
    have go:∀(A:Addr) (n cap:Nat),A.block=b0->VR ρ (.slice (some (id,off)) n f es) (.slice (some A) n cap)->Gives P Pt ρ m w (convert s s (.slice (some A) n cap)) (.slice (some (id,off)) n f es) m:=by
     intro A n cap hA hv
     subst hA
     have hw:(w.freeze { block:=A.block,off:=C.size } 1).heap[A.block]?=some (.cells C e' (C.size,C.size+1)):=by
      unfold World.freeze
      rw[if_neg (by decide)]
      simp only[Array.getElem?_modify,hh,if_pos,Option.map_some]
      rcases hthaw with rfl|rfl
      ·simp
      ·simp[hsz]
     have hoth:∀ r,r ≠ A.block->(w.freeze { block:=A.block,off:=C.size } 1).heap[r]?=w.heap[r]?:=fun r hr=>by
      unfold World.freeze
      rw[if_neg (by decide)]
      simp only[Array.getElem?_modify]
      rw[if_neg (Ne.symm hr)]
     have hos:(w.freeze { block:=A.block,off:=C.size } 1).os=w.os /\ (w.freeze { block:=A.block,off:=C.size } 1).output=w.output:=by
      unfold World.freeze
      rw[if_neg (by decide)]
      exact⟨rfl,rfl⟩
     have hrel':=hrel.turn hg rfl rfl hρ0 (lb':=.cells true cs ty) ⟨C,e',(C.size,C.size+1),rfl,fun _=>⟨.inr (by rw[hsz]),hty⟩,hsz,hC⟩ hw hoth hos
     refine⟨ρ,.slice (some A) n cap,w.freeze { block:=A.block,off:=C.size } 1,?_,Same.refl _ _ _,hv,?_⟩
     ·unfold convert
      simp only[Sem.run_bind,Go.run_underlying hs,Go.run_underlying he,Result.andThen_ok,beq_self_eq_true,markStringish,shape,freeze,Sem.run,World.shape?,hh,Sem.run_pure]
     ·have e1:m.upd id (some (.cells true cs ty))=m.upd id (some (.cells true cs ty)):=rfl
      have hget:∀ j,(m.upd id (some (.cells true cs ty))).get j=m.get j:=fun j=>by
       rw[Mem.get_upd]
       by_cases e:j=id
       ·rw[if_pos e,e,hg]
       ·rw[if_neg e]
      exact⟨hrel'.keep,fun j l hj=>by
       have:=hrel'.live j l (by rw[hget];exact hj)
       rw[Mem.next_upd] at this;exact this,fun i j l l' x y hi hj=>hrel'.inj i j l l' x y (by rw[hget];exact hi) (by rw[hget];exact hj),hrel'.still⟩
    cases hx with
    | slice hρ hle hf hc =>
     rw[hρ0] at hρ;cases hρ
     exact go _ _ _ rfl (.slice hρ0 hle hf hc)
    | sliceZ=>omega
    | sliceE=>omega
  ·rw[if_neg hu] at h
   obtain⟨v',h1,h2⟩:=z7x (w:=w) (show convL P s d x=some v from h) hx
   exact Gives.pure hrel h1 h2
 ·obtain⟨v',h1,h2⟩:=z7x (w:=w) (show convL P s d x=some v from h) hx
  exact Gives.pure hrel h1 h2
theorem z7w{t:TypeId}(h:z04 P t=true):∃ d,P.underlying t=some d /\ ∀ ms,d ≠ .interface ms:=by
 unfold z04 at h
 split at h
 ·cases h
 ·rename_i d hd hu
  exact⟨d,hu,fun ms e=>hd ms e⟩
 ·cases h
theorem zdo{t:TypeId}(h:z04 P t=true)(x:Value):(Instr.makeInterface t x).run P w=.ok (.iface t x) w:=by
 obtain⟨d,hu,hd⟩:=z7w h
 unfold Instr.makeInterface
 simp only[Sem.run_bind,Go.run_underlying hu,Result.andThen_ok]
 cases d<;>first|rfl|exact absurd rfl (hd _)
theorem zcy{t xt:TypeId}{ok:Bool}{v r:LV}{v':Value}(hc:z04 P t=true)(h:assertL P t ok v=some r)(hv:VR ρ v v') :
  ∃ r',(Instr.typeAssert v' xt t ok).run P w=.ok r' w /\ VR ρ r r':=by
 obtain⟨d,hu,hd⟩:=z7w hc
 have hno:ok=true->∀ z,zeroL P t=some z->∃ zv,(zeroValue t).run P w=.ok zv w /\ VR ρ z zv:=fun _ z hz=>by
  obtain⟨zv,hz1,hz2,_,_⟩:=z31 (w:=w) (ρ:=ρ) hz
  exact⟨zv,hz1,hz2⟩
 unfold assertL at h
 split at h
 ·rename_i u x
  cases hv with
  | iface hx =>
   rename_i x'
   cases hb:Nat.beq u t with
   | true =>
    rw[hb] at h
    obtain rfl:=Nat.eq_of_beq_eq_true hb
    refine⟨if ok then .tuple #[x',.bool true] else x',?_,?_⟩
    ·unfold Instr.typeAssert
     simp only[Sem.run_bind,Go.run_underlying hu,Result.andThen_ok]
     cases d<;>first|exact absurd rfl (hd _)|(simp only[if_true,Sem.run_pure])
    ·cases ok with
     | true=>cases h;exact .tup (.cons hx (.cons (.bool _) .nil))
     | false=>cases h;exact hx
   | false =>
    rw[hb] at h
    have hne:u ≠ t:=fun e=>by subst e;rw[Nat.beq_refl] at hb;cases hb
    obtain⟨hok,h1⟩:=zc.1 (show guard' ok _=some r from h)
    subst hok
    obtain⟨z,hz,h2⟩:=zb.1 h1
    cases h2
    obtain⟨zv,hz1,hz2⟩:=hno rfl z hz
    refine⟨.tuple #[zv,.bool false],?_,.tup (.cons hz2 (.cons (.bool _) .nil))⟩
    unfold Instr.typeAssert
    simp only[Sem.run_bind,Go.run_underlying hu,Result.andThen_ok]
    cases d<;>first|exact absurd rfl (hd _)|(simp only[hne,if_false,if_true,Sem.run_bind,hz1,Result.andThen_ok,Sem.run_pure])
 ·cases hv
  obtain⟨hok,h1⟩:=zc.1 h
  subst hok
  obtain⟨z,hz,h2⟩:=zb.1 h1
  cases h2
  obtain⟨zv,hz1,hz2⟩:=hno rfl z hz
  refine⟨.tuple #[zv,.bool false],?_,.tup (.cons hz2 (.cons (.bool _) .nil))⟩
  unfold Instr.typeAssert
  simp only[Sem.run_bind,Go.run_underlying hu,Result.andThen_ok]
  cases d<;>first|exact absurd rfl (hd _)|(simp only[if_true,Sem.run_bind,hz1,Result.andThen_ok,Sem.run_pure])
 ·cases h
theorem zgd{op:BinOp}{t:TypeId}{v:LV}(h:nilNil P op t=some v){x y:Operand}(hy:isNilC y=true) :
  ∃ v',(do eqGuard op t x y .nilIface .nilIface;binOp op t .nilIface .nilIface:Sem Value).run P w=.ok v' w /\ VR ρ v v':=by
 have hy':∃ c,y=.const c:=by
  unfold isNilC at hy
  split at hy
  ·exact⟨_,rfl⟩
  ·cases hy
 obtain⟨c,rfl⟩:=hy'
 have heq:∀ ms,P.underlying t=some (.interface ms)->(Op.equal t .nilIface .nilIface).run P w=.ok true w:=fun ms hu=>by
  show(Op.equalIn (9999+1) t .nilIface .nilIface).run P w=_
  unfold Op.equalIn
  rw[Sem.run_bind,Go.run_underlying hu,Result.andThen_ok]
  rfl
 unfold nilNil at h
 split at h
 ·rename_i ms hu
  cases h
  refine⟨.bool true,?_,.bool _⟩
  have hb:binOp .eql t .nilIface .nilIface=(do pure (.bool (<- Op.equal t .nilIface .nilIface)):Sem Value):=rfl
  rw[Sem.run_bind,show(eqGuard .eql t x (.const c) .nilIface .nilIface).run P w=.ok () w by simp[eqGuard],Result.andThen_ok,hb,Sem.run_bind,heq ms hu]
  rfl
 ·rename_i ms hu
  cases h
  refine⟨.bool false,?_,.bool _⟩
  have hb:binOp .neq t .nilIface .nilIface=(do pure (.bool (!(<- Op.equal t .nilIface .nilIface))):Sem Value):=rfl
  rw[Sem.run_bind,show(eqGuard .neq t x (.const c) .nilIface .nilIface).run P w=.ok () w by simp[eqGuard],Result.andThen_ok,hb,Sem.run_bind,heq ms hu]
  rfl
 ·cases h
theorem Rel.other(h:Rel Pt ρ m w){b:Nat}(hp:Pt b=none)(hfree:∀ j l x,m.get j=some l->isRo l=false->ρ j=some x->x.1 ≠ b)
  {w':World} (hoth:∀ r,r ≠ b->w'.heap[r]?=w.heap[r]?) (hs:w'.os=w.os /\ w'.output=w.output):Rel Pt ρ m w':=by
 refine⟨fun r o hr=>?_,fun j l hj=>?_,h.inj,by rw[hs.1,hs.2];exact h.still⟩
 ·have:r ≠ b:=fun e=>by subst e;rw[hp] at hr;cases hr
  rw[hoth r this];exact h.keep r o hr
 ·obtain⟨hl,b1,s1,c1,o1,e1,g1,g2,g3⟩:=h.live j l hj
  have hne:b1 ≠ b:=by
   by_cases hr:isRo l=true
   ·rw[if_pos hr] at g3
    intro eb;subst eb;rw[hp] at g3;cases g3.1
   ·exact hfree j l _ hj (by simpa using hr) e1
  exact⟨hl,b1,s1,c1,o1,e1,g1,by rw[hoth b1 hne];exact g2,g3⟩
theorem Rel.freed(h:Rel Pt ρ m w){i:Nat}{lb:LB}(hi:m.get i=some lb)(hro:isRo lb=false){b s c:Nat}(hρ:ρ i=some (b,s,c)) :
  Pt b=none /\ ∀ j l x,(m.upd i none).get j=some l->isRo l=false->ρ j=some x->x.1 ≠ b:=by
 constructor
 ·obtain⟨_,b1,s1,c1,o1,e1,_,_,h4⟩:=h.live i _ hi
  rw[hρ] at e1;cases e1
  rw[hro] at h4
  exact h4
 ·intro j l x hj hl hxj
  rw[Mem.get_upd] at hj
  by_cases e:j=i
  ·rw[if_pos e] at hj;cases hj
  ·rw[if_neg e] at hj
   exact fun eb=>e (h.inj j i l lb x _ hj hi hl hro hxj hρ eb)
theorem zgb{e:TypeId}(hc:P.cellsOf e=1)(count off n:Nat)(hn:off+n<=count):liesAt P P.depth e count off e n=true:=by
 have hd:P.depth=(2*(P.types.size+Made.depth)+1)+1:=rfl
 rw[hd]
 simp only[liesAt,Bool.or_eq_true]
 left
 rw[hd]
 simp[rowAt,hc,hn,sameLayout,Nat.mod_one]
theorem zca{e:TypeId}(hc:1<=P.cellsOf e)(count:Nat)(hn:1<=count):liesAt P P.depth e count 0 e 1=true:=by
 have hd:P.depth=(2*(P.types.size+Made.depth)+1)+1:=rfl
 rw[hd]
 simp only[liesAt,Bool.or_eq_true]
 left
 rw[hd]
 have h0:P.cellsOf e ≠ 0:=by omega
 simp[rowAt,h0,hn,sameLayout]
theorem z4x{b:Nat}:∀(ns:List Int) (o:Nat) (acc:ByteArray),(∀ k,k < ns.length->w.cell? ⟨b,o+k,none⟩=(ns.map (Value.int .u8))[k]?) ->
  (loadBytes ⟨b,o,none⟩ acc ns.length).run P w=.ok (ns.foldl (fun r n=>r.push (UInt8.ofNat n.toNat)) acc) w
 | [],o,acc,_=>by simp[loadBytes]
 | n :: ns,o,acc,h=>by
  have h0:w.cell? ⟨b,o,none⟩=some (.int .u8 n):=by simpa using h 0 (by simp)
  simp only[List.length_cons,loadBytes,Sem.run_bind,run_load,h0,Result.andThen_ok,z28,List.foldl_cons]
  exact z4x ns (o+1) _ fun k hk=>by
   have:=h (k+1) (by simpa using hk)
   rw[show o+1+k=o+(k+1) by omega,this];simp
theorem zgn{t e:TypeId}(h:ptrElem P t=some e):P.underlying t=some (.pointer e):=by
 unfold ptrElem at h
 split at h
 ·cases h;assumption
 ·cases h
theorem zbb{pt:TypeId}{x:LV}{n:Nat}{r:R1}(h:unsafeStr P pt x n m=some r) :
  ∃ v m',r=.val v m' /\ m'.next=m.next /\ ∀(Pt:Prot) (ρ:Rho) (w:World) (x':Value) (k:IntKind) (ts:Array TypeId) (ty:TypeId),ts[0]?=some pt->VR ρ x x'->Rel Pt ρ m w ->
   Gives P Pt ρ m w (Builtin.unsafeString_ ts ty #[x',.int k n]) v m':=by
 have hdef:∀(ts:Array TypeId) (ty:TypeId) (p:Option Addr) (k:IntKind) (n:Nat),Builtin.unsafeString_ ts ty #[.pointer p,.int k n]=(do
   let n <- Go.asInt (.int k n)
   let some pt:=ts[0]? | stuck "unsafe.String: no argument types"
   if n < 0 then runtimePanic (.error "unsafe.String: len out of range")
   if n > IntKind.i64.max then unsupported (.unsafePointer "String: a length above the largest int")
   match p with
   | none =>
    if n=0 then pure (.string .empty)
    else runtimePanic (.error "unsafe.String: ptr is nil and len is not zero")
   | some a =>
    if n=0 then pure (.string .empty)
    else if <- variablesAt a (<- elemOf pt) n.toNat then do
     let s <- loadBytes a .empty n.toNat
     freeze a n.toNat
     pure (.string s)
    else unsupported (.unsafePointer "String: not so many bytes at ptr"):Sem Value):=fun _ _ _ _ _=>rfl
 have hmax:IntKind.i64.max=9223372036854775807:=rfl
 unfold unsafeStr at h
 cases hn:Nat.beq n 0 with
 | true =>
  rw[hn,z07] at h
  obtain rfl:=Nat.eq_of_beq_eq_true hn
  split at h
  ·cases h
   refine⟨_,_,rfl,rfl,fun Pt ρ w x' k ts ty ht hx hrel=>?_⟩
   refine Gives.pure hrel (v':=.string .empty) ?_ (.str _)
   have hp:∃ p,x'=.pointer p:=by
    cases hx with
    | ptrNil=>exact⟨_,rfl⟩
    | ptr=>exact⟨_,rfl⟩
   obtain⟨p,rfl⟩:=hp
   have:=hdef ts ty p k 0
   simp only[Int.natCast_zero] at this ⊢
   rw[this]
   cases p<;>simp[Go.asInt,asIntOf,ht,hmax]
  ·cases h
 | false =>
  rw[hn,zh] at h
  have hn0:n ≠ 0:=fun e=>by subst e;cases hn
  obtain⟨u,hu,h1⟩:=zb.1 h
  obtain⟨id,off,rfl,h2⟩:=z0t.1 h1
  obtain⟨own,cs,ty0,hg,h3⟩:=z1g.1 h2
  obtain⟨hgd,h4⟩:=zc.1 h3
  obtain⟨l,hl,h5⟩:=zb.1 h4
  obtain⟨bs,hbs,h6⟩:=zb.1 h5
  cases h6
  simp only[Bool.and_eq_true,Bool.or_eq_true,Nat.beq_eq,Nat.ble_eq] at hgd
  obtain⟨rfl,hty,_,hc1,hn63⟩:=hgd
  refine⟨_,_,rfl,Mem.next_upd _ _ _,fun Pt ρ w x' k ts ty ht hx hrel=>?_⟩
  cases hx with
  | ptr hρ =>
   rename_i b s c
   obtain⟨C,e',fr,hh,hfr,hsz,hC⟩:=hrel.cells hg hρ
   obtain⟨hthaw,htr⟩:=hfr rfl
   have hee:e'=u:=by
    rcases hty with⟨rfl,hpl⟩|rfl
    ·unfold plainT at hpl;rw[Nat.ble_eq] at hpl
     rcases htr with⟨_,h,_⟩|h
     ·exact h
     ·exact absurd h (by omega)
    ·rcases htr with⟨h,_,_⟩|h
     ·exact absurd h (by unfold apE;omega)
     ·exact(Nat.add_right_cancel (show u+1000000=e' + 1000000 from h)).symm
   subst hee
   obtain⟨vs,g1,g2,g3⟩:=z46 hrel (i:=id) (off:=off) (n:=n) (l:=l) (z1g.2 ⟨_,_,_,hg,hl⟩) hρ
   obtain⟨ns,rfl,rfl⟩:=z7p hbs g3
   have hnl:ns.length=n:=by simpa using g1
   have hlast:s+off+n<=C.size:=by
    have hk:=g2 (n - 1) (by omega)
    rw[z6b hh] at hk
    have:(ns.map (Value.int .u8))[n - 1]?=some ((ns.map (Value.int .u8))[n - 1]'(by simp;omega)):=List.getElem?_eq_getElem _
    rw[this] at hk
    have:=(Array.getElem?_eq_some_iff.1 hk).1
    omega
   obtain⟨hp,hfree⟩:=hrel.freed hg rfl hρ
   have hw:∀ r,r ≠ b->(w.freeze { block:=b,off:=s+off } n).heap[r]?=w.heap[r]?:=fun r hr=>by
    unfold World.freeze
    rw[if_neg hn0]
    simp only[Array.getElem?_modify]
    rw[if_neg (Ne.symm hr)]
   have hos:(w.freeze { block:=b,off:=s+off } n).os=w.os /\ (w.freeze { block:=b,off:=s+off } n).output=w.output:=by
    unfold World.freeze
    rw[if_neg hn0]
    exact⟨rfl,rfl⟩
   refine⟨ρ,.string ⟨⟨ns.map fun n=>UInt8.ofNat n.toNat⟩⟩,w.freeze { block:=b,off:=s+off } n,?_,by rw[Mem.next_upd];exact Same.refl _ _ _,.str _,(hrel.drop id).other hp hfree hw hos⟩
   rw[hdef]
   have hlies:liesAt P P.depth e' (C.size / P.cellsOf e') (s+off) e' n=true:=by rw[hc1,Nat.div_one];exact zgb hc1 _ _ _ hlast
   have hlb:=z4x (P:=P) (w:=w) (b:=b) ns (s+off) .empty (fun k hk=>g2 k (by omega))
   rw[hnl,z9n] at hlb
   have hneg:¬(n:Int) < 0:=by omega
   have h63:¬(9223372036854775807:Int) <(n:Int):=by omega
   have hz:¬(n:Int)=0:=by omega
   have hrunf:∀ w:World,(freeze { block:=b,off:=s+off } n).run P w=.ok () (w.freeze { block:=b,off:=s+off } n):=fun _=>rfl
   simp only[Go.asInt,asIntOf,Sem.run_bind,Sem.run_pure,Result.andThen_ok,ht,hmax,hneg,if_false,gt_iff_lt,h63,hz,elemOf,Go.run_underlying (zgn hu),variablesAt,run_program,shape,Int.toNat_natCast]
   have hsh:(Sem.shape b Sem.pure:Sem (Option (TypeId × Nat))).run P w=.ok (some (e',C.size)) w:=by
    simp[Sem.run,World.shape?,hh]
   simp only[hsh,Result.andThen_ok,hlies,if_true,Sem.run_bind,hlb,hrunf,Sem.run_pure]
end
end PvL
end
section
namespace PvL
open Go
section op1
variable {P:Program}
theorem zks{m:Mem}{dt:TypeId}{d x:LV}{r:R1}(h:copyL P dt d x m rvm=some r) :
  ∃ v m',r=.val v m' /\ ∀(Pt:Prot) (ρ:Rho) (w:World) (d' x':Value) (ts:Array TypeId) (ty:TypeId),ts[0]?=some dt->VR ρ d d'->VR ρ x x'->Rel Pt ρ m w ->
   Gives P Pt ρ m w (Builtin.copy_ ts ty #[d',x']) v m':=by
 obtain⟨e,he,h1⟩:=zb.1 h
 obtain⟨sz,hsz,h2⟩:=zb.1 h1
 obtain⟨a,dl,full,es,rfl,h3⟩:=z0m.1 h2
 obtain⟨sl,hsl,h4⟩:=zb.1 h3
 rw[z1m] at h4
 cases hn0:Nat.beq (Nat.min sl dl) 0 with
 | true =>
  rw[hn0] at h4
  cases h4
  have hn0:Nat.min sl dl=0:=Nat.eq_of_beq_eq_true hn0
  have hu:=z25 he
  refine⟨_,_,rfl,fun Pt ρ w d' x' ts ty ht hd hx hrel=>?_⟩
  refine Gives.pure hrel (v':=.int .i64 (Nat.min sl dl)) ?_ (.int _ _)
  obtain⟨L,hL,hL2⟩:∃ L:Array Value,(Builtin.firstCells sz 0 x').run P w=.ok L w /\ L.toList=[]:=by
   unfold z1k at hsl
   split at hsl
   ·cases hx with
    | sliceNil=>exact⟨#[],rfl,rfl⟩
    | slice=>exact⟨#[],by simp[Builtin.firstCells,loadCells,loadCellsFrom],rfl⟩
    | sliceZ=>exact⟨#[],by simp[Builtin.firstCells,loadCells,loadCellsFrom],rfl⟩
    | sliceE=>exact⟨#[],by simp[Builtin.firstCells,loadCells,loadCellsFrom],rfl⟩
   ·rw[hx.str_inv];exact⟨_,rfl,by simp⟩
   ·cases hsl
  have hd':∃ A cap,d'=.slice A dl cap:=by
   cases hd with
   | sliceNil=>exact⟨_,_,rfl⟩
   | slice=>exact⟨_,_,rfl⟩
   | sliceZ=>exact⟨_,_,rfl⟩
   | sliceE=>exact⟨_,_,rfl⟩
  obtain⟨A,cap,rfl⟩:=hd'
  unfold Builtin.copy_
  simp only[ht,List.getElem?_toArray,List.getElem?_cons_zero,List.getElem?_cons_succ,Sem.run_bind,Go.run_underlying hu,Result.andThen_ok,z3a hsl hx,zy hsz,hn0,hL,hL2]
  cases A<;>rfl
 | false =>
 rw[hn0,zh] at h4
 have hmin:∀ k,z1k x=some k->Nat.min sl dl<=k:=fun k hk=>by rw[hsl] at hk;cases hk;exact Nat.min_le_left _ _
 obtain⟨l,hl,h5⟩:=zb.1 h4
 obtain⟨hfl,h6⟩:=zc.1 h5
 have hu:=z25 he
 cases a with
 | none =>
  cases h6
  refine⟨_,_,rfl,fun Pt ρ w d' x' ts ty ht hd hx hrel=>?_⟩
  cases hd with
  | sliceNil =>
   obtain⟨L,hL,hv,_⟩:=z39 (P:=P) hrel hl (fun k hk=>by rw[hsl] at hk;cases hk;exact Nat.min_le_left _ _) hx
   refine Gives.pure hrel (v':=.int .i64 (Nat.min sl 0)) ?_ (.int _ _)
   unfold Builtin.copy_
   simp only[ht,List.getElem?_toArray,List.getElem?_cons_zero,List.getElem?_cons_succ,Sem.run_bind,Go.run_underlying hu,Result.andThen_ok,z3a hsl hx,zy hsz,hL]
   rfl
 | some p =>
  obtain⟨id,off⟩:=p
  obtain⟨m',hst,h7⟩:=zb.1 (show ob (storeCs m id off l) _=some r from h6)
  cases h7
  refine⟨_,_,rfl,fun Pt ρ w d' x' ts ty ht hd hx hrel=>?_⟩
  cases hd with
  | sliceZ=>exact absurd hn0 (by rw[show Nat.min sl 0=0 from Nat.min_zero _];decide)
  | sliceE=>exact absurd hn0 (by rw[show Nat.min sl 0=0 from Nat.min_zero _];decide)
  | slice hρ hle hf hc =>
   obtain⟨L,hL,hv,_⟩:=z39 (P:=P) hrel hl (fun k hk=>by rw[hsl] at hk;cases hk;exact Nat.min_le_left _ _) hx
   obtain⟨w',hrun,hrel',hnext⟩:=z91 (P:=P) hrel hst hv hfl hρ
   refine⟨ρ,.int .i64 (Nat.min sl dl),w',?_,by rw[hnext];exact Same.refl _ _ _,.int _ _,hrel'⟩
   unfold Builtin.copy_
   simp only[ht,List.getElem?_toArray,List.getElem?_cons_zero,List.getElem?_cons_succ,Sem.run_bind,Go.run_underlying hu,Result.andThen_ok,z3a hsl hx,zy hsz,hL,hrun]
   rfl
def R1.mem:R1->Mem | .val _ m | .skip m | .enter _ _ m | .round _ _ m | .boom _ m=>m
def OpOk(P:Program)(Pt:Prot)(ρ:Rho)(m:Mem)(w:World)(a:Act)(o:Oper):R1->Prop
 | .val v m'=>∃ ρ' v' w',(execOp a.eval o).run P w=.ok (.value v') w' /\ Same ρ ρ' m.next m'.next /\ VR ρ' v v' /\ Rel Pt ρ' m' w'
 | .skip m'=>∃ w',(execOp a.eval o).run P w=.ok .skip w' /\ Rel Pt ρ m' w' /\ m'.next=m.next
 | .enter f args m'=>m'=m /\ ∀ fn,fnOf P f=some fn->∃ args',(execOp a.eval o).run P w=.ok (.enter f args') w /\ VRs ρ args args'.toList
 | .round l args m'=>m'=m /\ ∃ b s c args',ρ l=some (b,s,c) /\ VRs ρ args args'.toList /\ (execOp a.eval o).run P w=(Instr.yield b args').run P w
 | .boom v m'=>m'=m /\ ∃ v',(execOp a.eval o).run P w=.halt (.panic v') w /\ VR ρ v v'
variable {Pt:Prot} {ρ:Rho} {m:Mem} {w:World} {T:Tm} {a:Act}
theorem z1c{o:Oper}{v:LV}{s:Sem Value}(he:execOp a.eval o=(do pure (.value (<- s)):Sem Next))(hrel:Rel Pt ρ m w)(h:∃ v',s.run P w=.ok v' w /\ VR ρ v v'):OpOk P Pt ρ m w a o (.val v m):=by
 obtain⟨v',hr,hv⟩:=h
 exact⟨ρ,v',w,by rw[he,Sem.run_bind,hr];rfl,Same.refl _ _ _,hv,hrel⟩
theorem z1b{o:Oper}{v:LV}{m':Mem}{s:Sem Value}(he:execOp a.eval o=(do pure (.value (<- s)):Sem Next))(h:Gives P Pt ρ m w s v m'):OpOk P Pt ρ m w a o (.val v m'):=by
 obtain⟨ρ',v',w',hr,hs,hv,hrel⟩:=h
 exact⟨ρ',v',w',by rw[he,Sem.run_bind,hr];rfl,hs,hv,hrel⟩
theorem z2u{m:Mem}{x:Option LV}{r:R1}(h:ob x (rv m)=some r):∃ v,x=some v /\ r=.val v m:=by
 obtain⟨v,hv,h⟩:=zb.1 h
 cases h
 exact⟨v,hv,rfl⟩
theorem z82{T:Tm}{a:Act}(h:TR ρ T a.tmps){x:Option Operand}{v:Option LV}(hx:evOpt T x=some v):OR ρ v (x.map a.eval):=by
 cases x with
 | none=>cases hx;trivial
 | some x =>
  obtain⟨u,hu,h2⟩:=zb.1 (show ob (ev T x) _=some v from hx)
  cases h2
  exact zr h hu
theorem z9q{α β:Type}(xs:Array α)(f:α->β):(xs.map f)=(xs.toList.map f).toArray:=by
 rw[<-Array.toList_map,Array.toArray_toList]
theorem zhf{f:LV}{args:List LV}{r:R1}(h:callV f args m=some r){f':Value}(hf:VR ρ f f'){args':Array Value}(ha:VRs ρ args args'.toList) :
  (∃ g as,r=.enter g as m /\ ∀ fn,fnOf P g=some fn->∃ as',(do let d <- Deferred.ofValue f' args';invoke d.target d.args:Sem Next).run P w=.ok (.enter g as') w /\ VRs ρ as as'.toList) ∨
  (∃ l b s c,r=.round l args m /\ ρ l=some (b,s,c) /\ (do let d <- Deferred.ofValue f' args';invoke d.target d.args:Sem Next).run P w=(Instr.yield b args').run P w):=by
 unfold callV at h
 split at h
 ·rename_i g fi ca
  cases h
  left
  refine⟨g,_,rfl,fun fn hfn=>?_⟩
  cases hf with
  | func h1 h2 =>
   rename_i fi' ca'
   obtain⟨fn',hg,h3⟩:=zb.1 hfn
   obtain⟨hbody,h4⟩:=zc.1 h3
   obtain⟨hname,h5⟩:=zc.1 h4
   cases h5
   refine⟨fi' ++ args' ++ ca',?_,?_⟩
   ·simp only[Deferred.ofValue,Sem.run_bind,Sem.run_pure,Result.andThen_ok,invoke,callFunc,run_program,hg]
    have hnone:fn.body.isNone=false:=by cases hb:fn.body with
     | none=>rw[hb] at hbody;cases hbody
     | some _=>rfl
    have hnm:(fn.name == "runtime.NumGoroutine")=false:=by simpa using hname
    simp only[hnm,hnone,Bool.false_eq_true,if_false]
    rfl
   ·simp only[Array.toList_append]
    exact(h1.append ha).append h2
 ·rename_i l
  cases h
  right
  cases hf with
  | yield hρ =>
   rename_i b s c
   refine⟨l,b,s,c,rfl,hρ,?_⟩
   show(Instr.yield b (#[] ++ args')).run P w=_
   rw[Array.empty_append]
 ·cases h
theorem zb9{x y:LV}{A:Array Value}(h:VRs ρ [x,y] A.toList):∃ x' y',A=#[x',y'] /\ VR ρ x x' /\ VR ρ y y':=by
 obtain⟨l⟩:=A
 have h:VRs ρ [x,y] l:=h
 cases h with
 | cons h1 h2=>cases h2 with
  | cons h2 h3=>cases h3;exact⟨_,_,rfl,h1,h2⟩
theorem z9o:∀(path:List FieldStep) (t:TypeId) (v:LV) (xt:TypeId) (x:LV) (v':Value),pathL P path t v=some (xt,x)->VR ρ v v'->∃ x',(follow path t (.val v')).run P w=.ok (xt,.val x') w /\ VR ρ x x'
 | [],t,v,xt,x,v',h,hv=>by
  cases h
  exact⟨v',rfl,hv⟩
 | s :: r,t,v,xt,x,v',h,hv=>by
  obtain⟨hd,h1⟩:=zc.1 (show guard' (!s.deref) _=some (xt,x) from h)
  obtain⟨f,hf,h2⟩:=zb.1 h1
  obtain⟨u,hu,h3⟩:=zb.1 h2
  have hd:s.deref=false:=by simpa using hd
  obtain⟨⟨off,n,ag⟩,hq,h4⟩:=zb.1 (show ob (fieldPl P s.struct s.index) _=some u from hu)
  obtain⟨cs,rfl,h5⟩:=z10.1 (show asAgg v _=some u from h4)
  obtain⟨fs,F,hun,hF,ho,hn,hag⟩:=z6e hq
  have ho:off=F.offset:=ho
  subst ho
  have hfF:f=F:=by
   unfold fieldOf at hf
   rw[hun] at hf
   exact Option.some.inj (hf.symm.trans hF)
  subst hfF
  obtain⟨cs',rfl,hc⟩:=hv.agg_inv
  obtain⟨u',hr,hu'⟩:=z8m (P:=P) (w:=w) h5 hag hn hc
  obtain⟨x',hx,hx'⟩:=z9o r f.type u xt x u' h3 hu'
  refine⟨x',?_,hx'⟩
  unfold follow
  simp only[Sem.run_bind,Go.run_underlying hun,Result.andThen_ok,hF]
  simp[hd,hr,hx]
theorem zg4{T:Tm}{a:Act}(hT:TR ρ T a.tmps){rc:Operand}{nm:String}{as:List LV}{r:R1}(h:oInvoke P rc nm as T m=some r){args':Array Value}(ha:VRs ρ as args'.toList) :
  ∃ g x,r=.enter g (x :: as) m /\ ∀ fn,fnOf P g=some fn->∃ as',(invoke (.fn (.method nm) #[]) (#[a.eval rc] ++ args')).run P w=.ok (.enter g as') w /\ VRs ρ (x :: as) as'.toList:=by
 obtain⟨rv,hrv,h1⟩:=zb.1 (show ob (ev T rc) _=some r from h)
 obtain⟨t,v,rfl,h2⟩:=z68.1 h1
 obtain⟨⟨g,path⟩,hm,h3⟩:=zb.1 h2
 obtain⟨⟨xt,x⟩,hp,h4⟩:=zb.1 (show ob (pathL P path t v) _=some r from h3)
 obtain⟨hnp,h5⟩:=zc.1 (show guard' (notPtr P xt) (some (R1.enter g (x :: as) m))=some r from h4)
 cases h5
 refine⟨g,x,rfl,fun fn hfn=>?_⟩
 obtain⟨fn',hg,hf3⟩:=zb.1 hfn
 obtain⟨hbody,hf4⟩:=zc.1 hf3
 obtain⟨hname,hf5⟩:=zc.1 hf4
 cases hf5
 have hnone:fn.body.isNone=false:=by cases hb:fn.body with
  | none=>rw[hb] at hbody;cases hbody
  | some _=>rfl
 have hnm:(fn.name == "runtime.NumGoroutine")=false:=by simpa using hname
 obtain⟨i,hi,hm2⟩:=zb.1 (show ob (P.info? t) _=some (g,path) from hm)
 obtain⟨me,hme,hm3⟩:=zb.1 hm2
 have hmf:me.func=some (g,false) /\ me.path.toList=path:=by
  split at hm3
  ·rename_i g' he
   cases hm3
   exact⟨he,rfl⟩
  ·cases hm3
 obtain⟨v0,he0,hv0⟩:∃ v0,a.eval rc=.iface t v0 /\ VR ρ v v0:=by
  have hx:=zr hT hrv
  generalize a.eval rc=z at hx
  cases hx with
  | iface h=>exact⟨_,rfl,h⟩
 obtain⟨x',hfo,hx'⟩:=z9o (P:=P) (w:=w) path t v xt x v0 hp hv0
 have hmeth:∀ k,(method (k+1) t v0 nm).run P w=.ok (g,x') w:=fun k=>by
  unfold method
  simp only[Sem.run_bind,PvL.run_typeInfo hi,Result.andThen_ok,hme,hmf.2,hfo,hmf.1]
  have hrecv:∀ wr,(receiverAt xt (.val x') false wr).run P w=.ok x' w:=fun wr=>by
   unfold notPtr at hnp
   cases hu:P.underlying xt with
   | none=>rw[hu] at hnp;cases hnp
   | some d =>
    rw[hu] at hnp
    unfold receiverAt
    simp only[Sem.run_bind,Go.run_underlying hu,Result.andThen_ok]
    cases d<;>first|rfl|cases hnp
  simp[hrecv]
 have hcall:(callMethod (a.eval rc) nm args').run P w=.ok (.enter g (#[x'] ++ args')) w:=by
  unfold callMethod
  rw[he0]
  simp only[Sem.run_bind,run_program,Result.andThen_ok]
  rw[show P.types.size+Made.depth=(P.types.size+99)+1 from rfl,hmeth]
  simp only[Result.andThen_ok]
  unfold callFunc
  simp only[Sem.run_bind,run_program,Result.andThen_ok,hg,hnm,hnone,Bool.false_eq_true,if_false]
  rfl
 refine⟨#[x'] ++ args',?_,?_⟩
 ·show(do
   let some recv:=(#[a.eval rc] ++ args')[0]? | stuck "call: a method without a receiver"
   callMethod recv nm ((#[a.eval rc] ++ args').extract 1 (#[a.eval rc] ++ args').size):Sem Next).run P w=_
  have e0:#[a.eval rc] ++ args'=⟨a.eval rc :: args'.toList⟩:=by
   apply Array.ext'
   rw[Array.toList_append]
   rfl
  rw[e0]
  have e1:(⟨a.eval rc :: args'.toList⟩:Array Value)[0]?=some (a.eval rc):=rfl
  have e2:(⟨a.eval rc :: args'.toList⟩:Array Value).extract 1 (⟨a.eval rc :: args'.toList⟩:Array Value).size=args':=by
   apply Array.ext'
   rw[Array.toList_extract]
   show List.take (args'.toList.length+1 - 1) (List.drop 1 (a.eval rc :: args'.toList))=args'.toList
   exact List.take_of_length_le (Nat.le_refl _)
  rw[e1,e2]
  exact hcall
 ·rw[Array.toList_append]
  exact .cons hx' ha
set_option maxHeartbeats 2000000 in
theorem z8l{o:Oper}{r:R1}(h:op1 P o.op T m=some r)(hT:TR ρ T a.tmps)(hrel:Rel Pt ρ m w)(hf:Fresh ρ m.next r.mem.next):OpOk P Pt ρ m w a o r:=by
 obtain⟨dst,op,ty,pos,after,guard⟩:=o
 cases op with
 | move x =>
  obtain⟨v,hv,rfl⟩:=z2u (show ob (ev T x) (rv m)=some r from h)
  exact⟨ρ,_,w,rfl,Same.refl _ _ _,zr hT hv,hrel⟩
 | assign x =>
  obtain⟨v,hv,rfl⟩:=z2u (show ob (ev T x) (rv m)=some r from h)
  exact⟨ρ,_,w,rfl,Same.refl _ _ _,zr hT hv,hrel⟩
 | pick c x y =>
  obtain⟨cv,hc,h1⟩:=zb.1 (show ob (ev T c) _=some r from h)
  obtain⟨b,rfl,h2⟩:=z1l.1 h1
  have hcv:=(zr hT hc).bool_inv
  cases b with
  | true =>
   obtain⟨v,hv,rfl⟩:=z2u (show ob (ev T x) (rv m)=some r from h2)
   refine⟨ρ,a.eval x,w,?_,Same.refl _ _ _,zr hT hv,hrel⟩
   simp[execOp,hcv,Go.asBool]
  | false =>
   obtain⟨v,hv,rfl⟩:=z2u (show ob (ev T y) (rv m)=some r from h2)
   refine⟨ρ,a.eval y,w,?_,Same.refl _ _ _,zr hT hv,hrel⟩
   simp[execOp,hcv,Go.asBool]
 | alloc t =>
  obtain⟨z,hz,h1⟩:=zb.1 (show ob (zeroL P t) _=some r from h)
  obtain⟨hfl,h2⟩:=zc.1 h1
  obtain⟨hpt,h2⟩:=zc.1 (show guard' (plainT t) _=some r from h2)
  rw[Mem.new_eq] at h2
  cases h2
  obtain⟨zv,hz1,hz2,hzc,hzf⟩:=z31 (w:=w) (ρ:=ρ) hz
  have hn:=z9u (P:=P) (t:=t) hrel (hf _ (Nat.le_refl _) (Nat.lt_succ_self _)) hzc hpt
  refine z1b (s:=Instr.alloc t true (.tuple #[])) rfl ?_
  obtain⟨ρ',v',w',h3,h4⟩:=hn
  refine⟨ρ',v',w',?_,h4⟩
  simp only[Instr.alloc,Sem.run_bind,hz1,Result.andThen_ok]
  exact h3
 | box t x =>
  obtain⟨v,hv,h1⟩:=zb.1 (show ob (ev T x) _=some r from h)
  obtain⟨hfl,h2⟩:=zc.1 h1
  obtain⟨hpt,h2⟩:=zc.1 (show guard' (plainT t) _=some r from h2)
  rw[Mem.new_eq] at h2
  cases h2
  exact z1b (s:=Instr.box t (a.eval x)) rfl (z9u (P:=P) (t:=t) hrel (hf _ (Nat.le_refl _) (Nat.lt_succ_self _)) ((zr hT hv).cells hfl) hpt)
 | build t ps =>
  obtain⟨vs,hvs,h1⟩:=zb.1 (show ob (evParts T ps.toList) _=some r from h)
  obtain⟨v,hv,rfl⟩:=z2u h1
  obtain⟨v',hr,hvr⟩:=zfo (P:=P) (w:=w) (z83 hT hvs) hv
  refine z1c (s:=Instr.build t (ps.map fun(i,x)=>(i,a.eval x))) rfl hrel ⟨v',?_,hvr⟩
  rw[z9q];exact hr
 | buildSlice t n ps =>
  obtain⟨vs,hvs,h1⟩:=zb.1 (show ob (evParts T ps.toList) _=some r from h)
  obtain⟨v,b,rfl,hsim⟩:=z7o h1
  refine z1b (s:=Instr.buildSlice t n (ps.map fun(i,x)=>(i,a.eval x))) rfl ?_
  rw[z9q]
  exact hsim Pt ρ w _ (z83 hT hvs) hrel (hf _ (Nat.le_refl _) (Nat.lt_succ_self _))
 | load t x =>
  obtain⟨x1,hx,h1⟩:=zb.1 (show ob (ev T x) _=some r from h)
  obtain⟨v,hv,rfl⟩:=z2u h1
  obtain⟨ad,v',e,hr,hvr⟩:=zcb hrel (zr hT hx) hv
  refine z1c (s:=Instr.loadAt t (a.eval x)) rfl hrel ⟨v',?_,hvr⟩
  rw[e]
  exact hr
 | store t x y =>
  obtain⟨x1,hx,h1⟩:=zb.1 (show ob (ev T x) _=some r from h)
  obtain⟨y1,hy,h2⟩:=zb.1 h1
  obtain⟨m',hm,h3⟩:=zb.1 h2
  cases h3
  obtain⟨w',hr,hrel',hn⟩:=zgr (P:=P) hrel (zr hT hx) (zr hT hy) hm
  exact⟨w',by simp[execOp,hr],hrel',hn⟩
 | nilCheck x =>
  obtain⟨x1,hx,h1⟩:=zb.1 (show ob (ev T x) _=some r from h)
  obtain⟨v,hv,rfl⟩:=z2u h1
  obtain⟨ad,e,hvr⟩:=zaz hv (zr hT hx)
  exact⟨ρ,a.eval x,w,by simp[execOp,e],Same.refl _ _ _,hvr,hrel⟩
 | binOp op t x y yt =>
  obtain⟨x1,hx,h1⟩:=zb.1 (show ob (ev T x) _=some r from h)
  obtain⟨y1,hy,h2⟩:=zb.1 h1
  obtain⟨v,hv,rfl⟩:=z2u h2
  cases hb:ifb (isNilI x1) (ifb (isNilI y1) (isNilC y) false) false with
  | false =>
   rw[hb] at hv
   exact z1c rfl hrel (zk9 (P:=P) (w:=w) hv (zr hT hx) (zr hT hy) x y)
  | true =>
   rw[hb] at hv
   have hx1:x1=.nilIface:=by
    cases x1<;>first|rfl|(cases hb)
   subst hx1
   have hb:ifb (isNilI y1) (isNilC y) false=true:=hb
   have hy1:y1=.nilIface:=by
    cases y1<;>first|rfl|(cases hb)
   subst hy1
   have hb:isNilC y=true:=hb
   have ex:a.eval x=.nilIface:=by
    have:=zr hT hx
    generalize a.eval x=q at this
    cases this;rfl
   have ey:a.eval y=.nilIface:=by
    have:=zr hT hy
    generalize a.eval y=q at this
    cases this;rfl
   refine z1c rfl hrel ?_
   rw[ex,ey]
   exact zgd (P:=P) (w:=w) hv hb
 | unOp op t x =>
  obtain⟨x1,hx,h1⟩:=zb.1 (show ob (ev T x) _=some r from h)
  obtain⟨v,hv,rfl⟩:=z2u h1
  exact z1c rfl hrel (zph hv (zr hT hx))
 | convert s d x =>
  obtain⟨x1,hx,h1⟩:=zb.1 (show ob (ev T x) _=some r from h)
  obtain⟨v,hv,rfl⟩:=z2u h1
  exact z1b rfl (zhm hrel hv (zr hT hx))
 | makeFunc fn fi ca =>
  have h:fnFunc fn (fun g=>ob (evs T fi.toList) fun a=>ob (evs T ca.toList) fun b=>some (R1.val (.func (.func g) a b) m))=some r:=h
  cases fn with
  | func g =>
   obtain⟨x1,hx,h1⟩:=zb.1 (show ob (evs T fi.toList) _=some r from h)
   obtain⟨y1,hy,h2⟩:=zb.1 h1
   cases h2
   refine⟨ρ,_,w,rfl,Same.refl _ _ _,.func ?_ ?_,hrel⟩
   ·rw[Array.toList_map];exact zat hT hx
   ·rw[Array.toList_map];exact zat hT hy
  | _=>cases h
 | makeMap t rv0 =>
  obtain⟨hg,h1⟩:=zc.1 (show guard' rv0.isNone _=some r from h)
  rw[Mem.new_eq] at h1
  cases h1
  cases rv0 with
  | some _=>cases hg
  | none =>
   have hf0:=hf _ (Nat.le_refl _) (Nat.lt_succ_self _)
   refine⟨_,.map (some w.heap.size),_,?_,Same.upd1 hf0,.map (z06 _ _ (w.heap.size,0,0)),hrel.alloc hf0 rfl (o:=.map #[] 0) ⟨#[],rfl,trivial,rfl⟩⟩
   simp[execOp,Instr.makeMap]
 | makeSlice t l c =>
  obtain⟨x1,hx,h1⟩:=zb.1 (show ob (ev T l) _=some r from h)
  obtain⟨y1,hy,h2⟩:=zb.1 h1
  obtain⟨v,b,rfl,hsim⟩:=z9c h2
  exact z1b rfl (hsim Pt ρ w _ _ (zr hT hx) (zr hT hy) hrel (hf _ (Nat.le_refl _) (Nat.lt_succ_self _)))
 | slice t x lo hi mx =>
  obtain⟨x1,hx,h1⟩:=zb.1 (show ob (ev T x) _=some r from h)
  obtain⟨lo1,hlo,h2⟩:=zb.1 h1
  obtain⟨hi1,hhi,h3⟩:=zb.1 h2
  obtain⟨mx1,hmx,h4⟩:=zb.1 h3
  obtain⟨v,hv,rfl⟩:=z2u h4
  exact z1c rfl hrel (zgq hrel hv (zr hT hx) (z82 hT hlo) (z82 hT hhi) (z82 hT hmx))
 | fieldAddr t x f =>
  obtain⟨x1,hx,h1⟩:=zb.1 (show ob (ev T x) _=some r from h)
  obtain⟨v,hv,rfl⟩:=z2u h1
  exact z1c rfl hrel (z9a hv (zr hT hx))
 | field t x f =>
  obtain⟨x1,hx,h1⟩:=zb.1 (show ob (ev T x) _=some r from h)
  obtain⟨v,hv,rfl⟩:=z2u h1
  exact z1c rfl hrel (zfy hv (zr hT hx))
 | indexAddr t x i =>
  obtain⟨x1,hx,h1⟩:=zb.1 (show ob (ev T x) _=some r from h)
  obtain⟨y1,hy,h2⟩:=zb.1 h1
  obtain⟨v,hv,rfl⟩:=z2u h2
  exact z1c rfl hrel (z9b hv (zr hT hx) (zr hT hy))
 | index t x i =>
  obtain⟨x1,hx,h1⟩:=zb.1 (show ob (ev T x) _=some r from h)
  obtain⟨y1,hy,h2⟩:=zb.1 h1
  obtain⟨v,hv,rfl⟩:=z2u h2
  exact z1c rfl hrel (zg3 hv (zr hT hx) (zr hT hy))
 | lookup t x i ok =>
  obtain⟨x1,hx,h1⟩:=zb.1 (show ob (ev T x) _=some r from h)
  obtain⟨y1,hy,h2⟩:=zb.1 h1
  obtain⟨v,hv,rfl⟩:=z2u h2
  exact z1c rfl hrel (zdn hrel hv (zr hT hx) (zr hT hy))
 | mapUpdate t x k y =>
  obtain⟨x1,hx,h1⟩:=zb.1 (show ob (ev T x) _=some r from h)
  obtain⟨k1,hk,h2⟩:=zb.1 h1
  obtain⟨y1,hy,h3⟩:=zb.1 h2
  obtain⟨m',hm,h4⟩:=zb.1 h3
  cases h4
  obtain⟨w',hr,hrel',hn⟩:=z9d (P:=P) hrel hm (zr hT hx) (zr hT hk) (zr hT hy)
  exact⟨w',by simp[execOp,hr],hrel',hn⟩
 | makeInterface t x =>
  obtain⟨hc,h1⟩:=zc.1 (show guard' (z04 P t) _=some r from h)
  obtain⟨v,hv,h2⟩:=zb.1 h1
  cases h2
  exact z1c (s:=Instr.makeInterface t (a.eval x)) rfl hrel ⟨_,zdo hc _,.iface (zr hT hv)⟩
 | typeAssert x xt t ok =>
  obtain⟨hc,h1⟩:=zc.1 (show guard' (z04 P t) _=some r from h)
  obtain⟨v,hv,h2⟩:=zb.1 h1
  obtain⟨q,hq,rfl⟩:=z2u h2
  exact z1c (s:=Instr.typeAssert (a.eval x) xt t ok) rfl hrel (zcy hc hq (zr hT hv))
 | extract x i =>
  obtain⟨x1,hx,h1⟩:=zb.1 (show ob (ev T x) _=some r from h)
  obtain⟨vs,rfl,h2⟩:=zaa.1 h1
  obtain⟨v,hv,rfl⟩:=z2u h2
  exact z1c rfl hrel (zdc hv (zr hT hx))
 | call c =>
  obtain⟨callee,args,ats⟩:=c
  obtain⟨as,has,h1⟩:=zb.1 (show ob (evs T args.toList) _=some r from h)
  have hargs:VRs ρ as (args.map a.eval).toList:=by rw[Array.toList_map];exact zat hT has
  cases callee with
  | invoke rc nm =>
   have h2:oInvoke P rc nm as T m=some r:=h1
   obtain⟨g,x,rfl,hg⟩:=zg4 (P:=P) (w:=w) hT h2 hargs
   refine⟨rfl,fun fn hfn=>?_⟩
   obtain⟨as',h3,h4⟩:=hg fn hfn
   exact⟨as',h3,h4⟩
  | value f =>
   obtain⟨fv,hfv,h2⟩:=zb.1 (show ob (ev T f) _=some r from h1)
   have hex:execOp a.eval ⟨dst,.call ⟨.value f,args,ats⟩,ty,pos,after,guard⟩=(do let d <- Deferred.ofValue (a.eval f) (args.map a.eval);invoke d.target d.args:Sem Next):=rfl
   rcases zhf (P:=P) (w:=w) h2 (zr hT hfv) hargs with⟨g,gs,rfl,hg⟩|⟨l,b,s,c,rfl,hρ,hg⟩
   ·refine⟨rfl,fun fn hfn=>?_⟩
    obtain⟨as',h3,h4⟩:=hg fn hfn
    exact⟨as',by rw[hex];exact h3,h4⟩
   ·exact⟨rfl,b,s,c,args.map a.eval,hρ,hargs,by rw[hex];exact hg⟩
  | builtin bi =>
   have hex:execOp a.eval ⟨dst,.call ⟨.builtin bi,args,ats⟩,ty,pos,after,guard⟩=builtin bi ats ty (args.map fun | .const _=>true|_=>false) (args.map a.eval):=rfl
   have h1:callB P bi ats.toList as m=some r:=h1
   cases bi with
   | append =>
    obtain⟨st,ts1,ht1,h2⟩:=z1p.1 (show arg0 ats.toList _=some r from h1)
    obtain⟨xt,ts2,ht2,h3⟩:=z1p.1 h2
    obtain⟨s,as1,rfl,h4⟩:=z1p.1 h3
    obtain⟨x,as2,rfl,h5⟩:=z1p.1 h4
    obtain⟨he,h6⟩:=zc.1 h5
    obtain rfl:as2=[]:=by simpa using he
    obtain⟨v,m',rfl,hsim⟩:=zfl h6
    have hA:=zb9 hargs
    obtain⟨s',x',hA,hs,hx⟩:=hA
    refine z1b (s:=Builtin.append_ ats ty (args.map a.eval)) (by rw[hex];rfl) ?_
    rw[hA]
    exact hsim Pt ρ w s' x' ats ty (by rw[<-Array.getElem?_toList,ht1];rfl) (by rw[<-Array.getElem?_toList,ht1,ht2];rfl) hs hx hrel hf
   | copy =>
    obtain⟨dt,ts1,ht1,h2⟩:=z1p.1 (show arg0 ats.toList _=some r from h1)
    obtain⟨s,as1,rfl,h4⟩:=z1p.1 h2
    obtain⟨x,as2,rfl,h5⟩:=z1p.1 h4
    obtain⟨he,h6⟩:=zc.1 h5
    obtain rfl:as2=[]:=by simpa using he
    obtain⟨v,m',rfl,hsim⟩:=zks h6
    obtain⟨s',x',hA,hs,hx⟩:=zb9 hargs
    refine z1b (s:=Builtin.copy_ ats ty (args.map a.eval)) (by rw[hex];rfl) ?_
    rw[hA]
    exact hsim Pt ρ w s' x' ats ty (by rw[<-Array.getElem?_toList,ht1];rfl) hs hx hrel
   | len =>
    obtain⟨t,ts1,ht1,h2⟩:=z1p.1 (show arg0 ats.toList _=some r from h1)
    obtain⟨x,as1,rfl,h3⟩:=z1p.1 h2
    obtain⟨v,hv,rfl⟩:=z2u h3
    refine z1c (s:=Builtin.len_ ats ty (args.map a.eval)) (by rw[hex];rfl) hrel ?_
    have e:args.map a.eval=((args.map a.eval).toList).toArray:=by rw[Array.toArray_toList]
    rw[e]
    cases hA:(args.map a.eval).toList with
    | nil=>rw[hA] at hargs;cases hargs
    | cons x' as' =>
     rw[hA] at hargs
     cases hargs with
     | cons hx hrest=>exact zl7 hrel hv hx ats ty as' (by rw[<-Array.getElem?_toList,ht1];rfl)
   | max =>
    obtain⟨x,as1,rfl,h3⟩:=z1p.1 (show arg0 as _=some r from h1)
    obtain⟨v,hv,rfl⟩:=z2u h3
    refine z1c (s:=Builtin.max_ ats ty (args.map a.eval)) (by rw[hex];rfl) hrel ?_
    unfold Builtin.max_
    cases hA:(args.map a.eval).toList with
    | nil=>rw[hA] at hargs;cases hargs
    | cons x' as' =>
     rw[hA] at hargs
     cases hargs with
     | cons hx hrest=>exact z86 (fun _ _ _ _ _ g1 g2 g3=>zie g1 g2 g3) _ _ _ _ _ hv hx hrest
   | min =>
    obtain⟨x,as1,rfl,h3⟩:=z1p.1 (show arg0 as _=some r from h1)
    obtain⟨v,hv,rfl⟩:=z2u h3
    refine z1c (s:=Builtin.min_ ats ty (args.map a.eval)) (by rw[hex];rfl) hrel ?_
    unfold Builtin.min_
    cases hA:(args.map a.eval).toList with
    | nil=>rw[hA] at hargs;cases hargs
    | cons x' as' =>
     rw[hA] at hargs
     cases hargs with
     | cons hx hrest=>exact z86 (fun _ _ _ _ _ g1 g2 g3=>zig g1 g2 g3) _ _ _ _ _ hv hx hrest
   | unsafeSliceData =>
    obtain⟨x,as1,rfl,h2⟩:=z1p.1 (show arg0 as _=some r from h1)
    obtain⟨he,h3⟩:=zc.1 h2
    obtain rfl:as1=[]:=by simpa using he
    obtain⟨p,n,f,e,rfl,h4⟩:=z0m.1 h3
    obtain⟨x',hA,hx⟩:∃ x',args.map a.eval=#[x'] /\ VR ρ (.slice p n f e) x':=by
     generalize args.map a.eval=A at hargs
     obtain⟨l⟩:=A
     have hargs:VRs ρ [.slice p n f e] l:=hargs
     cases hargs with
     | cons h1 h2=>cases h2;exact⟨_,rfl,h1⟩
    cases p with
    | none =>
     cases h4
     refine z1c (s:=Builtin.unsafeSliceData_ ats ty (args.map a.eval)) (by rw[hex];rfl) hrel ?_
     rw[hA]
     cases hx
     exact⟨_,rfl,.ptrNil⟩
    | some q =>
     obtain⟨hn,h5⟩:=zc.1 (show guard' (Nat.ble 1 n) _=some r from h4)
     rw[Nat.ble_eq] at hn
     cases h5
     refine z1c (s:=Builtin.unsafeSliceData_ ats ty (args.map a.eval)) (by rw[hex];rfl) hrel ?_
     rw[hA]
     have hcap:∃ cap A,x'=.slice (some A) n cap /\ 1<=cap /\ VR ρ (.ptr (some q)) (.pointer (some A)):=by
      cases hx with
      | slice hρ hle hf hc=>exact⟨_,_,rfl,by omega,.ptr hρ⟩
      | sliceZ=>omega
      | sliceE=>omega
     obtain⟨cap,A,rfl,hc1,hv⟩:=hcap
     obtain⟨k,rfl⟩:∃ k,cap=k+1:=⟨cap - 1,by omega⟩
     exact⟨_,rfl,hv⟩
   | unsafeString =>
    obtain⟨pt,ts1,ht1,h2⟩:=z1p.1 (show arg0 ats.toList _=some r from h1)
    obtain⟨x,as1,rfl,h3⟩:=z1p.1 h2
    obtain⟨y,as2,rfl,h4⟩:=z1p.1 h3
    obtain⟨he,h5⟩:=zc.1 h4
    obtain rfl:as2=[]:=by simpa using he
    obtain⟨k,z,rfl,h6⟩:=zk.1 h5
    obtain⟨n,rfl,h7⟩:=nat?_eq.1 h6
    obtain⟨v,m',rfl,hnx,hsim⟩:=zbb h7
    obtain⟨x',y',hA,hx,hy⟩:=zb9 hargs
    refine z1b (s:=Builtin.unsafeString_ ats ty (args.map a.eval)) (by rw[hex];rfl) ?_
    rw[hA,hy.int_inv]
    exact hsim Pt ρ w x' k ats ty (by rw[<-Array.getElem?_toList,ht1];rfl) hx hrel
   | _=>cases h1
 | _=>cases h
end op1
end PvL
end
section
namespace PvL
open Go
def Mono(n:Nat)(x:Option R1):Prop:=∀ r,x=some r->n<=(match r with | .val _ m | .skip m | .enter _ _ m | .round _ _ m | .boom _ m=>m.next)
section
variable {α β:Type} {n:Nat}
theorem Mono.none:Mono n none:=fun _ h=>(by cases h)
theorem Mono.ob{x:Option α}{f:α->Option R1}(h:∀ a,Mono n (f a)):Mono n (ob x f):=fun r hr=>by
 obtain⟨a,_,h1⟩:=zb.1 hr;exact h a r h1
theorem Mono.guard{b:Bool}{x:Option R1}(h:Mono n x):Mono n (guard' b x):=fun r hr=>h r (zc.1 hr).2
theorem Mono.ifb{b:Bool}{x y:Option R1}(h:Mono n x)(h':Mono n y):Mono n (ifb b x y):=by cases b<;>assumption
theorem Mono.oe{x:Option α}{z:Option R1}{f:α->Option R1}(h:Mono n z)(h':∀ a,Mono n (f a)):Mono n (oe x z f):=by cases x with
 | none=>exact h
 | some a=>exact h' a
theorem Mono.pr{x:α × β}{f:α->β->Option R1}(h:∀ a b,Mono n (f a b)):Mono n (pr x f):=by cases x;exact h _ _
theorem Mono.asInt{v:LV}{k:IntKind->Int->Option R1}(h:∀ a b,Mono n (k a b)):Mono n (asInt v k):=fun r hr=>by
 obtain⟨a,b,_,h1⟩:=zk.1 hr;exact h a b r h1
theorem Mono.asBool{v:LV}{k:Bool->Option R1}(h:∀ a,Mono n (k a)):Mono n (asBool v k):=fun r hr=>by
 obtain⟨a,_,h1⟩:=z1l.1 hr;exact h a r h1
theorem Mono.asTup{v:LV}{k:List LV->Option R1}(h:∀ a,Mono n (k a)):Mono n (asTup v k):=fun r hr=>by
 obtain⟨a,_,h1⟩:=zaa.1 hr;exact h a r h1
theorem Mono.asSlice{v:LV}{k:Option (Nat × Nat)->Nat->Bool->Nat->Option R1}(h:∀ a b c d,Mono n (k a b c d)):Mono n (asSlice v k):=fun r hr=>by
 obtain⟨a,b,c,d,_,h1⟩:=z0m.1 hr;exact h a b c d r h1
theorem Mono.nat{z:Int}{k:Nat->Option R1}(h:∀ a,Mono n (k a)):Mono n (nat? z k):=by
 cases z with
 | ofNat a=>exact h a
 | negSucc a=>exact Mono.none
theorem Mono.fN{k:Nat->Option R1}{a:Nat}(h:Mono n (k a)):Mono n (fN a k):=by rw[z1m];exact h
theorem Mono.val{v:LV}{m:Mem}(h:n<=m.next):Mono n (some (.val v m)):=fun r hr=>by cases hr;exact h
theorem Mono.skip{m:Mem}(h:n<=m.next):Mono n (some (.skip m)):=fun r hr=>by cases hr;exact h
theorem Mono.enter{f:FuncId}{as:List LV}{m:Mem}(h:n<=m.next):Mono n (some (.enter f as m)):=fun r hr=>by cases hr;exact h
theorem Mono.round{f:Nat}{as:List LV}{m:Mem}(h:n<=m.next):Mono n (some (.round f as m)):=fun r hr=>by cases hr;exact h
theorem Mono.boom{v:LV}{m:Mem}(h:n<=m.next):Mono n (some (.boom v m)):=fun r hr=>by cases hr;exact h
theorem Mono.new{m:Mem}{b:LB}{k:Nat->Mem->Option R1}(h:∀ i m',m'.next=m.next+1->Mono n (k i m')):Mono n (m.new b k):=by
 rw[Mem.new_eq];exact h _ _ rfl
theorem Mono.atCells{m:Mem}{i:Nat}{k:Bool->List LV->TypeId->Option R1}(h:∀ a b c,Mono n (k a b c)):Mono n (atCells m i k):=by
 unfold PvL.atCells
 refine Mono.ob fun b=>?_
 cases b with
 | cells a b c=>exact h _ _ _
 | _=>exact Mono.none
theorem Mono.arg0{l:List α}{k:α->List α->Option R1}(h:∀ a as,Mono n (k a as)):Mono n (arg0 l k):=by
 cases l with
 | nil=>exact Mono.none
 | cons a as=>exact h a as
end
section
variable {P:Program} {T:Tm} {m:Mem}
theorem z78{i off:Nat}{vs:List LV}{m':Mem}(h:storeCs m i off vs=some m'):m'.next=m.next:=by
 unfold storeCs at h
 unfold PvL.atCells at h
 obtain⟨b,_,h⟩:=zb.1 h
 cases b with
 | cells a b c =>
  obtain⟨_,h⟩:=zc.1 (show guard' _ _=some m' from h)
  obtain⟨_,_,h⟩:=zb.1 h
  cases h
  exact Mem.next_upd _ _ _
 | _=>cases h
theorem ze3{t:TypeId}{x v:LV}{m':Mem}(h:storeT P t m x v=some m'):m'.next=m.next:=by
 obtain⟨_,_,_,h⟩:=z0t.1 h
 obtain⟨_,_,h⟩:=zb.1 h
 obtain⟨_,h⟩:=zc.1 h
 obtain⟨_,h⟩:=zc.1 h
 exact z78 h
theorem z8i{t:TypeId}{x k v:LV}{m':Mem}(h:mapUpdateL P t x k v m=some m'):m'.next=m.next:=by
 obtain⟨⟨_,_⟩,_,h⟩:=zb.1 h
 obtain⟨_,h⟩:=zc.1 (show guard' _ _=some m' from h)
 obtain⟨_,_,h⟩:=z29.1 h
 obtain⟨_,_,h⟩:=zb.1 h
 unfold PvL.atMap at h
 obtain⟨b,_,h⟩:=zb.1 h
 cases b with
 | map es bs clk =>
  obtain⟨p,_,h⟩:=zb.1 (show ob _ _=some m' from h)
  cases p with
  | none =>
   simp only[z56,z1m] at h
   cases h;exact Mem.next_upd _ _ _
  | some q =>
   obtain⟨_,_,_⟩:=q
   obtain⟨_,h⟩:=zc.1 (show guard' _ _=some m' from h)
   cases h;exact Mem.next_upd _ _ _
 | _=>cases h
theorem Mono.obSkip{x:Option Mem}(h:∀ m',x=some m'->m'.next=m.next):Mono m.next (PvL.ob x fun m=>some (.skip m)):=fun r hr=>by
 obtain⟨m',h1,h2⟩:=zb.1 hr
 cases h2
 exact Nat.le_of_eq (h m' h1).symm
theorem Mono.obRv{x:Option LV}:Mono m.next (PvL.ob x (rv m)):=Mono.ob fun _=>Mono.val (Nat.le_refl _)
theorem zcx{st xt:TypeId}{s x:LV}:Mono m.next (appendL P st xt s x m rvm):=by
 unfold appendL
 refine Mono.ob fun e=>Mono.ob fun xd=>Mono.ifb Mono.none (Mono.ob fun sz=>Mono.ob fun by'=>Mono.asSlice fun a len full es=>Mono.ob fun n=>Mono.ifb (Mono.val (Nat.le_refl _)) (Mono.ob fun z=>Mono.guard (Mono.ob fun old=>Mono.ob fun new=>Mono.guard ?_)))
 unfold killed
 refine Mono.oe (Mono.new fun i m' e=>Mono.fN (Mono.val (by omega))) fun p=>Mono.pr fun id _=>Mono.ifb (Mono.new fun i m' e=>Mono.fN (Mono.val (by omega))) (Mono.guard (Mono.atCells fun _ _ _=>Mono.guard (Mono.new fun i m' e=>Mono.fN (Mono.val ?_))))
 rw[e,Mem.next_upd];omega
theorem zhn{dt:TypeId}{d x:LV}:Mono m.next (copyL P dt d x m rvm):=by
 unfold copyL
 refine Mono.ob fun e=>Mono.ob fun sz=>Mono.asSlice fun a dl _ _=>Mono.ob fun sl=>Mono.fN (Mono.ifb (Mono.val (Nat.le_refl _)) (Mono.ob fun l=>Mono.guard (Mono.oe (Mono.val (Nat.le_refl _)) fun p=>Mono.pr fun id off=>?_)))
 intro r hr
 obtain⟨m',h1,h2⟩:=zb.1 hr
 cases h2
 exact Nat.le_of_eq (z78 h1).symm
theorem Mono.asPtr{n:Nat}{v:LV}{k:Nat->Nat->Option R1}(h:∀ a b,Mono n (k a b)):Mono n (asPtr v k):=fun r hr=>by
 obtain⟨a,b,_,h1⟩:=z0t.1 hr;exact h a b r h1
theorem Mono.asStr{n:Nat}{v:LV}{k:ByteArray->Option R1}(h:∀ a,Mono n (k a)):Mono n (asStr v k):=fun r hr=>by
 obtain⟨a,_,h1⟩:=z0k.1 hr;exact h a r h1
theorem Mono.asMap{n:Nat}{v:LV}{k:Option Nat->Option R1}(h:∀ a,Mono n (k a)):Mono n (asMap v k):=fun r hr=>by
 obtain⟨a,_,h1⟩:=z29.1 hr;exact h a r h1
theorem Mono.asIface{n:Nat}{v:LV}{k:TypeId->LV->Option R1}(h:∀ a b,Mono n (k a b)):Mono n (asIface v k):=fun r hr=>by
 obtain⟨a,b,_,h1⟩:=z68.1 hr;exact h a b r h1
theorem Mono.atMap{n:Nat}{m:Mem}{i:Nat}{k:List (LV × LV)->List Nat->Nat->Option R1}(h:∀ a b c,Mono n (k a b c)):Mono n (atMap m i k):=by
 unfold PvL.atMap
 refine Mono.ob fun b=>?_
 cases b with
 | map a b c=>exact h _ _ _
 | _=>exact Mono.none
theorem Mono.atIter{n:Nat}{m:Mem}{i:Nat}{k:Option Nat->Nat->List Nat->Nat->Option R1}(h:∀ a b c d,Mono n (k a b c d)):Mono n (atIter m i k):=by
 unfold PvL.atIter
 refine Mono.ob fun b=>?_
 cases b with
 | iter a b c d=>exact h _ _ _ _
 | _=>exact Mono.none
theorem Mono.upd{v:LV}{i:Nat}{b:Option LB}:Mono m.next (some (.val v (m.upd i b))):=Mono.val (by rw[Mem.next_upd];exact Nat.le_refl _)
theorem z9e{pt:TypeId}{x:LV}{k:Nat}:Mono m.next (unsafeStr P pt x k m):=by
 unfold unsafeStr
 refine Mono.ifb ?_ (Mono.ob fun _=>Mono.asPtr fun _ _=>Mono.atCells fun _ _ _=>Mono.guard (Mono.ob fun _=>Mono.ob fun _=>Mono.upd))
 split
 ·exact Mono.val (Nat.le_refl _)
 ·exact Mono.none
theorem zfs{f:LV}{as:List LV}:Mono m.next (callV f as m):=by
 unfold callV
 split
 ·exact Mono.enter (Nat.le_refl _)
 ·exact Mono.round (Nat.le_refl _)
 ·exact Mono.none
theorem z3l(o:Op):Mono m.next (op1 P o T m):=by
 cases o with
 | move x=>exact Mono.obRv
 | assign x=>exact Mono.obRv
 | pick c a b=>exact Mono.ob fun _=>Mono.asBool fun _=>Mono.ifb Mono.obRv Mono.obRv
 | alloc t=>exact Mono.ob fun _=>Mono.guard (Mono.guard <| Mono.new fun _ _ e=>Mono.val (by omega))
 | box t x=>exact Mono.ob fun _=>Mono.guard (Mono.guard <| Mono.new fun _ _ e=>Mono.val (by omega))
 | build t ps=>exact Mono.ob fun _=>Mono.obRv
 | buildSlice t n ps=>exact Mono.ob fun _=>Mono.ob fun _=>Mono.ob fun _=>Mono.ob fun _=>Mono.guard (Mono.ob fun _=>Mono.new fun _ _ e=>Mono.val (by omega))
 | load t a=>exact Mono.ob fun _=>Mono.obRv
 | store t a x=>exact Mono.ob fun _=>Mono.ob fun _=>Mono.obSkip fun _=>ze3
 | nilCheck x=>exact Mono.ob fun _=>Mono.obRv
 | binOp op t x y u=>exact Mono.ob fun _=>Mono.ob fun _=>Mono.obRv
 | unOp op t x=>exact Mono.ob fun _=>Mono.obRv
 | convert s d x=>exact Mono.ob fun _=>Mono.obRv
 | makeFunc fn a b =>
  cases fn with
  | func g=>exact Mono.ob fun _=>Mono.ob fun _=>Mono.val (Nat.le_refl _)
  | _=>exact Mono.none
 | makeMap t r=>exact Mono.guard (Mono.new fun _ _ e=>Mono.val (by omega))
 | makeSlice t l c=>exact Mono.ob fun _=>Mono.ob fun _=>Mono.ob fun _=>Mono.asInt fun _ _=>Mono.asInt fun _ _=>Mono.nat fun _=>Mono.nat fun _=>Mono.ob fun _=>Mono.ob fun _=>Mono.ob fun _=>Mono.guard (Mono.new fun _ _ e=>Mono.val (by omega))
 | slice t x lo hi mx=>exact Mono.ob fun _=>Mono.ob fun _=>Mono.ob fun _=>Mono.ob fun _=>Mono.obRv
 | fieldAddr t x f=>exact Mono.ob fun _=>Mono.obRv
 | field t x f=>exact Mono.ob fun _=>Mono.obRv
 | indexAddr t x i=>exact Mono.ob fun _=>Mono.ob fun _=>Mono.obRv
 | index t x i=>exact Mono.ob fun _=>Mono.ob fun _=>Mono.obRv
 | lookup t x i ok=>exact Mono.ob fun _=>Mono.ob fun _=>Mono.obRv
 | mapUpdate t x k v=>exact Mono.ob fun _=>Mono.ob fun _=>Mono.ob fun _=>Mono.obSkip fun _=>z8i
 | makeInterface t x=>exact Mono.guard (Mono.ob fun _=>Mono.val (Nat.le_refl _))
 | typeAssert x t u ok=>exact Mono.guard (Mono.ob fun _=>Mono.obRv)
 | extract x i=>exact Mono.ob fun _=>Mono.asTup fun _=>Mono.obRv
 | call c =>
  obtain⟨callee,args,ats⟩:=c
  refine Mono.ob fun as=>?_
  cases callee with
  | value f=>exact Mono.ob fun _=>zfs
  | invoke r n=>exact Mono.ob fun _=>Mono.asIface fun _ _=>Mono.ob fun p=>Mono.pr fun _ _=>Mono.ob fun q=>Mono.pr fun _ _=>Mono.guard (Mono.enter (Nat.le_refl _))
  | builtin b =>
   show Mono m.next (callB P b ats.toList as m)
   cases b with
   | append=>exact Mono.arg0 fun _ _=>Mono.arg0 fun _ _=>Mono.arg0 fun _ _=>Mono.arg0 fun _ _=>Mono.guard zcx
   | copy=>exact Mono.arg0 fun _ _=>Mono.arg0 fun _ _=>Mono.arg0 fun _ _=>Mono.guard zhn
   | len=>exact Mono.arg0 fun _ _=>Mono.arg0 fun _ _=>Mono.obRv
   | max=>exact Mono.arg0 fun _ _=>Mono.obRv
   | min=>exact Mono.arg0 fun _ _=>Mono.obRv
   | unsafeSliceData=>exact Mono.arg0 fun _ _=>Mono.guard (Mono.asSlice fun _ _ _ _=>Mono.oe (Mono.val (Nat.le_refl _)) fun _=>Mono.guard (Mono.val (Nat.le_refl _)))
   | unsafeString=>exact Mono.arg0 fun _ _=>Mono.arg0 fun _ _=>Mono.arg0 fun _ _=>Mono.guard (Mono.asInt fun _ _=>Mono.nat fun _=>z9e)
   | _=>exact Mono.none
 | _=>exact Mono.none
theorem zlf(o:Op):Mono m.next (opX P o T m):=by
 cases o with
 | convert s d x =>
  show Mono m.next (oConvU P s d x T m)
  unfold oConvU
  split
  ·exact Mono.ob fun _=>Mono.asPtr fun _ _=>Mono.atCells fun _ _ _=>Mono.ob fun _=>Mono.guard (Mono.val (Nat.le_refl _))
  ·exact Mono.ob fun _=>Mono.asPtr fun _ _=>Mono.atCells fun _ _ _=>Mono.ob fun _=>Mono.guard (Mono.val (Nat.le_refl _))
  ·exact Mono.guard (Mono.ob fun _=>Mono.asStr fun _=>Mono.new fun _ _ e=>Mono.fN (Mono.val (by omega)))
  ·exact Mono.none
 | panic x=>exact Mono.ob fun _=>Mono.asIface fun _ _=>Mono.boom (Nat.le_refl _)
 | range t x =>
  show Mono m.next (oRange P t x T m)
  unfold oRange
  split
  ·exact Mono.ob fun _=>Mono.asMap fun _=>Mono.oe (Mono.new fun _ _ e=>Mono.val (by omega)) fun _=>Mono.atMap fun _ _ _=>Mono.new fun _ _ e=>Mono.val (by omega)
  ·exact Mono.none
 | next x b =>
  show Mono m.next (oNext x b T m)
  unfold oNext
  refine Mono.guard (Mono.ob fun _=>Mono.asPtr fun _ _=>Mono.guard (Mono.atIter fun _ _ _ _=>Mono.oe (Mono.val (Nat.le_refl _)) fun _=>Mono.atMap fun _ _ _=>Mono.guard ?_))
  split
  ·exact Mono.val (Nat.le_refl _)
  ·exact Mono.upd
  ·exact Mono.none
 | entry x=>exact Mono.ob fun _=>Mono.asPtr fun _ _=>Mono.guard (Mono.atIter fun _ _ _ _=>Mono.ob fun _=>Mono.ob fun _=>Mono.atMap fun _ _ _=>Mono.guard (Mono.ob fun _=>Mono.val (Nat.le_refl _)))
 | mapEntry t x k =>
  exact Mono.ob fun q=>Mono.pr fun _ _=>Mono.ob fun _=>Mono.ob fun _=>Mono.guard (Mono.asMap fun _=>Mono.ob fun _=>Mono.atMap fun _ _ _=>Mono.guard (Mono.ob fun _=>Mono.oe (Mono.ob fun _=>Mono.fN Mono.upd) fun p=>Mono.pr fun _ q=>Mono.pr fun _ _=>Mono.guard (Mono.ob fun _=>Mono.upd)))
 | entryStore t x st v =>
  exact Mono.ob fun _=>Mono.ob fun _=>Mono.ob fun _=>Mono.asMap fun _=>Mono.ob fun _=>Mono.asInt fun _ _=>Mono.nat fun _=>Mono.atMap fun _ _ _=>Mono.guard (Mono.ob fun _=>Mono.skip (by rw[Mem.next_upd];exact Nat.le_refl _))
 | _=>exact Mono.none
theorem z9w{α:Type}{x z:Option α}{y:α}(h:oe x z some=some y):x=some y ∨(x=none /\ z=some y):=by
 cases x with
 | none=>exact .inr ⟨rfl,h⟩
 | some a=>exact .inl h
theorem znd{o:Op}{r:R1}(h:opA P o T m=some r):(∃ c,o=.call c /\ oSame P c T m=some r) ∨ op1 P o T m=some r ∨ opX P o T m=some r:=by
 have gen:(∀ c,o ≠ .call c)->opA P o T m=oe (op1 P o T m) (opX P o T m) some:=fun hc=>by
  cases o<;>first|rfl|exact absurd rfl (hc _)
 by_cases hc:∃ c,o=.call c
 ·obtain⟨c,rfl⟩:=hc
  rcases z9w (show oe (oSame P c T m) (op1 P (.call c) T m) some=some r from h) with h1|⟨_,h1⟩
  ·exact .inl ⟨c,rfl,h1⟩
  ·exact .inr (.inl h1)
 ·rw[gen (fun c e=>hc ⟨c,e⟩)] at h
  rcases z9w h with h|⟨_,h⟩
  ·exact .inr (.inl h)
  ·exact .inr (.inr h)
theorem zgh(c:Call):Mono m.next (oSame P c T m):=by
 unfold oSame
 split
 ·exact Mono.guard Mono.obRv
 ·exact Mono.none
theorem z4h(o:Op):Mono m.next (opA P o T m):=fun r h=>by
 rcases znd h with⟨c,rfl,h1⟩|h1|h1
 ·exact zgh c r h1
 ·exact z3l o r h1
 ·exact zlf o r h1
end
end PvL
end
section
namespace PvL
open Go
section
variable {P:Program} {Pt:Prot} {ρ:Rho} {m:Mem} {w:World} {T:Tm} {a:Act}
theorem z0i{w:World}{r:Nat}{o:Obj}(h:w.heap[r]?=some o)(ho:∀ c e f,o ≠ .cells c e f):(getObj r).run P w=.ok o w:=by
 simp only[getObj,Sem.run,h]
theorem z2i{w:World}{r:Nat}{o o':Obj}(h:w.heap[r]?=some o)(ho:∀ c e f,o ≠ .cells c e f):(setObj r o').run P w=.ok () { w with heap:=w.heap.setIfInBounds r o' }:=by
 simp only[setObj,Sem.run,h]
theorem Rel.set1(h:Rel Pt ρ m w){i:Nat}{lb lb':LB}(hi:m.get i=some lb)(hro:isRo lb=false)(hro':isRo lb'=false){b s c:Nat}(hρ:ρ i=some (b,s,c)){o':Obj}(hb:BR ρ lb' o' s c) :
  Rel Pt ρ (m.upd i (some lb')) { w with heap:=w.heap.setIfInBounds b o' }:=by
 obtain⟨_,b1,s1,c1,o1,e1,_,hh,_⟩:=h.live i _ hi
 rw[hρ] at e1;cases e1
 have hlt:b < w.heap.size:=(Array.getElem?_eq_some_iff.1 hh).1
 refine h.turn hi hro hro' hρ hb ?_ ?_
 ·show(w.heap.setIfInBounds b _)[b]?=_
  rw[Array.getElem?_setIfInBounds_self_of_lt hlt]
 ·intro r hr
  show(w.heap.setIfInBounds b _)[r]?=_
  rw[Array.getElem?_setIfInBounds_ne (Ne.symm hr)]
theorem Rel.map(h:Rel Pt ρ m w){i:Nat}{es:List (LV × LV)}{bs:List Nat}{clk:Nat}(hi:m.get i=some (.map es bs clk)){b s c:Nat}(hρ:ρ i=some (b,s,c)) :
  ∃ E,w.heap[b]?=some (.map E clk) /\ ER ρ es E.toList /\ bs=E.toList.map (·.born):=by
 obtain⟨_,b1,s1,c1,o1,e1,⟨E,rfl,h1,h2⟩,h3,_⟩:=h.live i _ hi
 rw[hρ] at e1;cases e1
 exact⟨E,h3,h1,h2⟩
theorem zlv{f:FuncId}(h:isSame P f=true)(v:Value):(callFunc f #[v]).run P w=.ok (.value v) w:=by
 unfold isSame at h
 split at h
 ·rename_i fn hg
  simp only[Bool.and_eq_true,beq_iff_eq] at h
  obtain⟨hb,hn,hx⟩:=h
  have e1:(fn.name == "runtime.NumGoroutine")=false:=by rw[hn];decide
  have e2:Extern.findNext fn=none:=by simpa using hx
  have e3:Extern.find fn=some Extern.AbiNoEscape.same:=by
   unfold Extern.find
   rw[hn];rfl
  unfold callFunc
  simp only[Sem.run_bind,run_program,Result.andThen_ok,hg,e1,Bool.false_eq_true,if_false,hb,if_true,e2,e3]
  rfl
 ·cases h
theorem z74{b o:Nat}{C:Array Value}{e:TypeId}{fr:Nat × Nat}(h:w.heap[b]?=some (.cells C e fr)):(Conv.seenAt ⟨b,o,none⟩).run P w=.ok ⟨b,o,none⟩ w:=by
 unfold Conv.seenAt viewAt
 simp only[Sem.run_bind,shape,Sem.run,World.shape?,h,Option.isSome_some,if_true,Sem.run_pure,Result.andThen_ok]
theorem zge{dst:Option Tmp}{s d:TypeId}{x:Operand}{ty:TypeId}{pos:String}{af:Array Edge}{gd:Option (Nat × Bool)}{r:R1}(h:oConvU P s d x T m=some r)(hT:TR ρ T a.tmps)(hrel:Rel Pt ρ m w)(hf:Fresh ρ m.next r.mem.next) :
  OpOk P Pt ρ m w a ⟨dst,.convert s d x,ty,pos,af,gd⟩ r:=by
 unfold oConvU at h
 split at h
 ·rename_i t hs hd
  obtain⟨v,hv,h1⟩:=zb.1 h
  obtain⟨id,off,rfl,h2⟩:=z0t.1 h1
  obtain⟨own,cs,tyc,hg,h3⟩:=z1g.1 h2
  obtain⟨n,hn,h4⟩:=zb.1 h3
  obtain⟨hgd,h5⟩:=zc.1 h4
  cases h5
  simp only[Bool.and_eq_true,Nat.ble_eq] at hgd
  refine z1c (s:=convert s d (a.eval x)) rfl hrel ?_
  have hx:=zr hT hv
  generalize a.eval x=x' at hx
  cases hx with
  | ptr hρ =>
   rename_i b sh c
   obtain⟨C,e',fr,hh,_,hsz,hC⟩:=hrel.cells hg hρ
   obtain⟨v',k1,_⟩:=hC off (cs[off]'(by omega)) (List.getElem?_eq_getElem _)
   have hlt:=(Array.getElem?_eq_some_iff.1 k1).1
   refine⟨.pointer (some ⟨b,sh+off,none⟩),?_,.ptr hρ⟩
   have hconv:(convert s d (.pointer (some ⟨b,sh+off,none⟩))).run P w=(Conv.unsafePointer s d (.pointer (some ⟨b,sh+off,none⟩))).run P w:=by
    unfold convert
    simp only[Sem.run_bind,Go.run_underlying hs,Go.run_underlying hd,Result.andThen_ok]
   rw[hconv]
   unfold Conv.unsafePointer
   simp only[Sem.run_bind,Go.run_underlying hs,Go.run_underlying hd,Result.andThen_ok,z74 hh,cellsIn,shape,Sem.run,World.shape?,hh,zy hn]
   have h1:¬(sh+off>=C.size):=by omega
   have h2:n ≠ 0:=by omega
   simp[h1,h2]
 ·rename_i u hs hd
  obtain⟨v,hv,h1⟩:=zb.1 h
  obtain⟨id,off,rfl,h2⟩:=z0t.1 h1
  obtain⟨own,cs,tyc,hg,h3⟩:=z1g.1 h2
  obtain⟨n,hn,h4⟩:=zb.1 h3
  obtain⟨hgd,h5⟩:=zc.1 h4
  cases h5
  simp only[Bool.and_eq_true,Nat.ble_eq,Nat.beq_eq] at hgd
  obtain⟨rfl,rfl,hpl,rfl,hc,hn1,hn2⟩:=hgd
  refine z1c (s:=convert s d (a.eval x)) rfl hrel ?_
  have hx:=zr hT hv
  generalize a.eval x=x' at hx
  cases hx with
  | ptr hρ =>
   rename_i b sh c
   obtain⟨C,e',fr,hh,hfr,hsz,hC⟩:=hrel.cells hg hρ
   obtain⟨_,htr⟩:=hfr rfl
   unfold plainT at hpl;rw[Nat.ble_eq] at hpl
   have htr:e'=tyc /\ sh=0:=by
    rcases htr with⟨_,h1,h2⟩|h
    ·exact⟨h1,h2⟩
    ·exact absurd h (by omega)
   obtain⟨rfl,rfl⟩:=htr
   obtain⟨v',k1,_⟩:=hC (n - 1) (cs[n - 1]'(by omega)) (List.getElem?_eq_getElem _)
   have hlt:=(Array.getElem?_eq_some_iff.1 k1).1
   refine⟨.pointer (some ⟨b,0+0,none⟩),?_,.ptr hρ⟩
   have hconv:(convert s d (.pointer (some ⟨b,0+0,none⟩))).run P w=(Conv.unsafePointer s d (.pointer (some ⟨b,0+0,none⟩))).run P w:=by
    unfold convert
    simp only[Sem.run_bind,Go.run_underlying hs,Go.run_underlying hd,Result.andThen_ok]
   rw[hconv]
   have hlies:liesAt P P.depth e' (C.size / P.cellsOf e') 0 e' 1=true:=zca (by omega) _ (by rw[hc];exact(Nat.le_div_iff_mul_le (by omega)).2 (by omega))
   have hvar:(variablesAt ⟨b,0+0,none⟩ e' 1).run P w=.ok true w:=by
    unfold variablesAt
    simp only[Sem.run_bind,run_program,Result.andThen_ok,shape,Sem.run,World.shape?,hh,Sem.run_pure,Nat.add_zero,hlies]
   unfold Conv.unsafePointer
   simp only[Sem.run_bind,Go.run_underlying hs,Go.run_underlying hd,Result.andThen_ok,z74 hh,zy hn,hvar]
   simp
 ·rename_i e hs hd
  obtain⟨hgd,h0⟩:=zc.1 h
  obtain⟨v,hv,h1⟩:=zb.1 h0
  obtain⟨q,rfl,h3⟩:=z0k.1 h1
  rw[Mem.new_eq,z1m] at h3
  cases h3
  simp only[Bool.and_eq_true] at hgd
  have he:P.underlying e=some (.int .u8):=by
   have:=hgd.1
   unfold isU8 at this
   split at this
   ·assumption
   ·cases this
  have hf0:=hf _ (Nat.le_refl _) (Nat.lt_succ_self _)
  have hx:=(zr hT hv).str_inv
  let cap:=(Question.appendCap q.size 0 e).cut (w.tape w.drawn (.appendCap q.size 0 e))
  have hcap:q.size<=cap:=Nat.le_add_right _ _
  let C:Array Value:=(q.data.map fun b=>Value.int .u8 b.toNat) ++ Array.replicate (cap - q.size) (.int .u8 0)
  have hqs:q.data.size=q.size:=rfl
  have hCs:C.size=cap:=by
   show((q.data.map _) ++ Array.replicate _ _).size=cap
   simp only[Array.size_append,Array.size_map,Array.size_replicate,hqs];omega
  have hcells:CellsR ρ (q.data.toList.map byteL) C 0:=by
   have hv:VRs ρ (q.data.toList.map byteL) (q.data.map fun b=>Value.int .u8 b.toNat).toList:=by
    rw[Array.toList_map]
    generalize q.data.toList=l
    induction l with
    | nil=>exact .nil
    | cons b l ih=>exact .cons (.int _ _) ih
   exact hv.cellsR_append
  let w1:World:={ w with drawn:=w.drawn+1,heap:=w.heap.push (.cells C e (C.size,C.size+1)) }
  have hrel1:Rel Pt (upd1 ρ m.next (w.heap.size,0,C.size)) (m.push (.cells true (q.data.toList.map byteL) (apE e))) w1 :=
   (hrel.of_heap (w':={ w with drawn:=w.drawn+1 }) rfl).alloc hf0 rfl ⟨C,e,(C.size,C.size+1),rfl,fun _=>⟨.inr rfl,zh0⟩,rfl,hcells⟩
  refine z1b (s:=convert s d (a.eval x)) rfl ⟨_,.slice (some ⟨w.heap.size,0+0,none⟩) q.size cap,w1,?_,Same.upd1 hf0,.slice (z06 _ _ _) hcap (fun hh=>by cases hh) (by rw[hCs];omega),hrel1⟩
  rw[hx]
  have hconv:(convert s d (.string q)).run P w=(Conv.stringToBytes e q).run P w:=by
   unfold convert
   simp only[Sem.run_bind,Go.run_underlying hs,Go.run_underlying hd,Go.run_underlying he,Result.andThen_ok]
  rw[hconv]
  unfold Conv.stringToBytes
  simp only[Sem.run_bind,run_choose]
  rw[if_neg (by simp[Question.forced])]
  let w2:World:={ w with drawn:=w.drawn+1,heap:=w.heap.push (.cells C e) }
  have hlast:w2.heap[w.heap.size]?=some (.cells C e):=by simp[w2]
  have h1:(markStringish ⟨w.heap.size,0,none⟩).run P w2=.ok () (w2.freeze { block:=w.heap.size,off:=C.size } 1):=by
   unfold markStringish
   simp only[Sem.run_bind,shape,Sem.run,World.shape?,hlast,Result.andThen_ok,freeze]
  have h2:w2.freeze { block:=w.heap.size,off:=C.size } 1=w1:=by
   unfold World.freeze
   rw[if_neg (by decide)]
   simp only[w1,w2]
   congr 1
   apply Array.ext_getElem?
   intro k
   rw[Array.getElem?_modify,Array.getElem?_push,Array.getElem?_push]
   by_cases hk:k=w.heap.size
   ·subst hk;simp
   ·simp only[hk,if_false]
    rw[if_neg (Ne.symm hk)]
  simp only[Result.andThen_ok,newRow,Sem.run_bind,run_newObj,Sem.run_pure]
  rw[show(markStringish ⟨w.heap.size,0,none⟩).run P { w with drawn:=w.drawn+1,heap:=w.heap.push (.cells C e) }=_ from h1,h2]
  rfl
 ·cases h
theorem z8j{n:Nat}:∀ {l:List Nat},memN n l=true ↔ n ∈ l
 | []=>⟨fun h=>(by cases h),fun h=>(by cases h)⟩
 | x :: xs=>by
  show ifb (Nat.beq n x) true (memN n xs)=true ↔ _
  cases hb:Nat.beq n x with
  | true=>rw[z07];exact⟨fun _=>by rw[Nat.eq_of_beq_eq_true hb];exact List.mem_cons_self,fun _=>rfl⟩
  | false =>
   rw[zh,z8j,List.mem_cons]
   exact⟨.inr,fun h=>h.elim (fun e=>by subst e;rw[Nat.beq_refl] at hb;cases hb) id⟩
def LR(ρ:Rho):List (Nat × LV × LV)->List MapEntry->Prop
 | [],[]=>True
 | x :: l,e :: E=>(x.1=e.born /\ VR ρ x.2.1 e.key /\ VR ρ x.2.2 e.val) /\ LR ρ l E
 | _,_=>False
theorem z8c{seen:List Nat}:∀(es:List (LV × LV)) (E:List MapEntry),ER ρ es E ->
  LR ρ (leftL seen (E.map (·.born)) es) (E.filter fun e=>!seen.toArray.contains e.born)
 | [],[],_=>trivial
 | x :: es,e :: E,h=>by
  obtain⟨h1,h2,h3⟩:=h
  have ih:=z8c (seen:=seen) es E h3
  show LR ρ (ifb (memN e.born seen) (leftL seen (E.map (·.born)) es) ((e.born,x) :: leftL seen (E.map (·.born)) es)) _
  have hc:seen.toArray.contains e.born=memN e.born seen:=by
   cases hm:memN e.born seen with
   | true=>have:=z8j.1 hm;simpa using this
   | false =>
    have:¬ e.born ∈ seen:=fun hh=>by rw[z8j.2 hh] at hm;cases hm
    simpa using this
  rw[List.filter_cons,hc]
  cases memN e.born seen with
  | true=>exact ih
  | false=>exact⟨⟨rfl,h1,h2⟩,ih⟩
 | [],_ :: _,h=>h.elim
 | _ :: _,[],h=>h.elim
theorem za8{n:Nat}:∀ {l:List Nat},allLt n l=true->∀ x ∈ l,x < n
 | [],_,x,hx=>by cases hx
 | y :: l,h,x,hx=>by
  have h:ifb (Nat.ble (Nat.succ y) n) (allLt n l) false=true:=h
  cases hb:Nat.ble (Nat.succ y) n with
  | false=>rw[hb] at h;cases h
  | true =>
   rw[hb] at h
   rw[Nat.ble_eq] at hb
   rcases List.mem_cons.1 hx with rfl|hx
   ·omega
   ·exact za8 h x hx
theorem za9{n:Nat}:∀ {l:List Nat},anyLt n l=true->∃ x ∈ l,x < n
 | [],h=>by cases h
 | y :: l,h=>by
  have h:ifb (Nat.ble (Nat.succ y) n) true (anyLt n l)=true:=h
  cases hb:Nat.ble (Nat.succ y) n with
  | true=>rw[Nat.ble_eq] at hb;exact⟨y,List.mem_cons_self,by omega⟩
  | false =>
   rw[hb] at h
   obtain⟨x,hx,hlt⟩:=za9 h
   exact⟨x,List.mem_cons_of_mem _ hx,hlt⟩
theorem Rel.iter(h:Rel Pt ρ m w){i:Nat}{r:Nat}{since:Nat}{seen:List Nat}{last:Nat}(hi:m.get i=some (.iter (some r) since seen last)){b s c:Nat}(hρ:ρ i=some (b,s,c)) :
  s=0 /\ ∃ b' s' c',ρ r=some (b',s',c') /\ w.heap[b]?=some (.mapIter (some b') since seen.toArray last):=by
 obtain⟨_,b1,s1,c1,o1,e1,⟨h0,b',s',c',h1,rfl⟩,h3,_⟩:=h.live i _ hi
 rw[hρ] at e1;cases e1
 exact⟨h0,b',s',c',h1,h3⟩
theorem zgg{dst:Option Tmp}{t:TypeId}{x:Operand}{ty:TypeId}{pos:String}{af:Array Edge}{gd:Option (Nat × Bool)}{r:R1}(h:oRange P t x T m=some r)(hT:TR ρ T a.tmps)(hrel:Rel Pt ρ m w)(hf:Fresh ρ m.next r.mem.next) :
  OpOk P Pt ρ m w a ⟨dst,.range t x,ty,pos,af,gd⟩ r:=by
 unfold oRange at h
 split at h
 ·rename_i kt et hu
  obtain⟨v,hv,h1⟩:=zb.1 h
  obtain⟨r0,rfl,h2⟩:=z29.1 h1
  have hx:=zr hT hv
  generalize hx':a.eval x=x' at hx
  have hex:execOp a.eval ⟨dst,.range t x,ty,pos,af,gd⟩=(do pure (.value (<- Instr.range t x')):Sem Next):=by rw[<-hx'];rfl
  cases r0 with
  | none =>
   have h2:m.new (.iter none 0 [] 0) (fun id m=>some (R1.val (.ptr (some (id,0))) m))=some r:=h2
   rw[Mem.new_eq] at h2
   cases h2
   have hf0:=hf _ (Nat.le_refl _) (Nat.lt_succ_self _)
   cases hx
   refine z1b hex ⟨_,.pointer (some ⟨w.heap.size,0+0,none⟩),_,?_,Same.upd1 hf0,.ptr (z06 _ _ (w.heap.size,0,0)),hrel.alloc hf0 (o:=.mapIter none 0 #[] 0) rfl ⟨rfl,_,_,_,rfl⟩⟩
   unfold Instr.range
   simp only[Sem.run_bind,Go.run_underlying hu,Result.andThen_ok,Sem.run_pure,run_newObj]
  | some i =>
   obtain⟨es,bs,clk,hi,h3⟩:=z3c.1 (show atMap m i _=some r from h2)
   rw[Mem.new_eq] at h3
   cases h3
   have hf0:=hf _ (Nat.le_refl _) (Nat.lt_succ_self _)
   cases hx with
   | map hρ =>
    rename_i b s c
    obtain⟨E,hh,_,_⟩:=hrel.map hi hρ
    have hle:=RLe.upd1 (ρ:=ρ) (i:=m.next) (x:=(w.heap.size,0,0)) hf0
    refine z1b hex ⟨_,.pointer (some ⟨w.heap.size,0+0,none⟩),_,?_,Same.upd1 hf0,.ptr (z06 _ _ (w.heap.size,0,0)),hrel.alloc hf0 (o:=.mapIter (some b) clk #[] clk) rfl ?_⟩
    ·unfold Instr.range
     simp only[Sem.run_bind,Go.run_underlying hu,Result.andThen_ok,z0i hh (by simp),Sem.run_pure,run_newObj]
    ·exact⟨rfl,b,s,c,hρ,rfl⟩
 ·cases h
theorem zil{dst:Option Tmp}{x:Operand}{isS:Bool}{ty:TypeId}{pos:String}{af:Array Edge}{gd:Option (Nat × Bool)}{r:R1}(h:oNext x isS T m=some r)(hT:TR ρ T a.tmps)(hrel:Rel Pt ρ m w) :
  OpOk P Pt ρ m w a ⟨dst,.next x isS,ty,pos,af,gd⟩ r:=by
 obtain⟨hs,h0⟩:=zc.1 h
 cases isS with
 | true=>cases hs
 | false =>
 obtain⟨v,hv,h1⟩:=zb.1 h0
 obtain⟨id,off,rfl,h2⟩:=z0t.1 h1
 obtain⟨hoff,h3⟩:=zc.1 h2
 obtain rfl:=Nat.eq_of_beq_eq_true hoff
 obtain⟨src,since,seen,last,hi,h4⟩:=zbi.1 h3
 have hx:=zr hT hv
 generalize hx':a.eval x=x' at hx
 have hex:execOp a.eval ⟨dst,.next x false,ty,pos,af,gd⟩=(do pure (.value (<- Instr.next x' false ty)):Sem Next):=by rw[<-hx'];rfl
 cases hx with
 | ptr hρ =>
 rename_i b s c
 cases src with
 | none =>
  cases h4
  obtain⟨_,b1,s1,c1,o1,e1,⟨h0,A,B,D,rfl⟩,hh,_⟩:=hrel.live id _ hi
  rw[hρ] at e1;cases e1
  subst h0
  refine z1c hex hrel ⟨.tuple #[.bool false],?_,.tup (.cons (.bool _) .nil)⟩
  unfold Instr.next
  simp only[Nat.add_zero,Sem.run_bind,z0i hh (by simp),Result.andThen_ok,Sem.run_pure]
 | some mi =>
  obtain⟨es,bs,clk,hm,h5⟩:=z3c.1 (show atMap m mi _=some r from h4)
  obtain⟨hgd,h6⟩:=zc.1 h5
  simp only[Bool.and_eq_true,Bool.or_eq_true,Nat.beq_eq] at hgd
  obtain⟨hlen,hlt,hst⟩:=hgd
  obtain⟨rfl,b',s',c',hρ',hh⟩:=hrel.iter hi hρ
  obtain⟨E,hE,her,hbs⟩:=hrel.map hm hρ'
  have hlt:=za8 hlt
  have hbad:(!seen.toArray.isEmpty && !E.isEmpty && E.all (·.born>=last))=false:=by
   rcases hst with h|h|h
   ·have:seen=[]:=by simpa using h
    subst this;simp
   ·have:es=[]:=by simpa using h
    subst this
    have:E.toList=[]:=by
     cases hl:E.toList with
     | nil=>rfl
     | cons e l=>rw[hl] at her;exact her.elim
    have:E=#[]:=by simpa using this
    subst this;simp
   ·obtain⟨q,hq,hql⟩:=za9 h
    rw[hbs] at hq
    obtain⟨e,he,rfl⟩:=List.mem_map.1 hq
    have:E.all (·.born>=last)=false:=by
     rw[<-Bool.not_eq_true]
     intro hall
     have:=Array.all_eq_true'.1 hall e (by simpa using he)
     simp at this;omega
    rw[this,Bool.and_false]
  have hold:((E.filter fun e=>!seen.toArray.contains e.born).filter (·.born < since))=E.filter fun e=>!seen.toArray.contains e.born:=by
   rw[Array.filter_eq_self]
   intro e he
   have:=(Array.mem_filter.1 he).1
   have:=hlt e.born (by rw[hbs];exact List.mem_map.2 ⟨e,by simpa using this,rfl⟩)
   simpa using this
  have hnew:((E.filter fun e=>!seen.toArray.contains e.born).filter (·.born>=since))=#[]:=by
   rw[Array.filter_eq_empty_iff]
   intro e he
   have:=(Array.mem_filter.1 he).1
   have:=hlt e.born (by rw[hbs];exact List.mem_map.2 ⟨e,by simpa using this,rfl⟩)
   simp;omega
  have hleft:=z8c (seen:=seen) es E.toList her
  rw[<-hbs] at hleft
  have hfl:(E.filter fun e=>!seen.toArray.contains e.born).toList=E.toList.filter fun e=>!seen.toArray.contains e.born:=by simp
  rw[<-hfl] at hleft
  generalize hL:(E.filter fun e=>!seen.toArray.contains e.born)=L at hold hnew hleft hfl
  have hrun:∀(R:Sem Value),(do
    let candidates:=(if L.isEmpty then #[none] else #[]) ++(L ++ #[]).map some
    match candidates[<-choose (.mapNext candidates.size)]? with
    | some (some e) =>
     setObj b (.mapIter (some b') since (seen.toArray.push e.born) clk)
     pure (.tuple #[.bool true,e.key,e.val])
    | some none=>pure (.tuple #[.bool false])
    | none=>stuck "Next: no such candidate":Sem Value)=R->(Instr.next (.pointer (some ⟨b,0+0,none⟩)) false ty).run P w=R.run P w:=by
   intro R hR
   rw[<-hR]
   unfold Instr.next
   simp only[Nat.add_zero,Sem.run_bind,z0i hh (by simp),z0i hE (by simp),Result.andThen_ok,hbad,Bool.false_eq_true,if_false,hL,hold,hnew]
   rfl
  split at h6
  ·rename_i hl
   cases h6
   rw[hl] at hleft
   have hL0:L=#[]:=by
    cases hLl:L.toList with
    | nil=>simpa using hLl
    | cons e l=>rw[hLl] at hleft;exact hleft.elim
   refine z1c hex hrel ⟨.tuple #[.bool false],?_,.tup (.cons (.bool _) .nil)⟩
   rw[hrun _ rfl,hL0]
   simp[choose,Sem.run,Question.forced]
  ·rename_i bb k v hl
   cases h6
   rw[hl] at hleft
   have hL1:∃ e,L=#[e] /\ bb=e.born /\ VR ρ k e.key /\ VR ρ v e.val:=by
    cases hLl:L.toList with
    | nil=>rw[hLl] at hleft;exact hleft.elim
    | cons e l =>
     rw[hLl] at hleft
     cases l with
     | nil=>exact⟨e,by rw[<-Array.toArray_toList (xs:=L),hLl],hleft.1.1,hleft.1.2.1,hleft.1.2.2⟩
     | cons _ _=>exact hleft.2.elim
   obtain⟨e,hLe,rfl,hk,hvv⟩:=hL1
   refine z1b hex ⟨ρ,.tuple #[.bool true,e.key,e.val],_,?_,by rw[Mem.next_upd];exact Same.refl _ _ _,.tup (.cons (.bool _) (.cons hk (.cons hvv .nil))),hrel.set1 hi rfl rfl hρ (o':=.mapIter (some b') since (seen.toArray.push e.born) clk) ⟨rfl,b',s',c',hρ',by simp⟩⟩
   rw[hrun _ rfl,hLe]
   have hset:=z2i (P:=P) (o':=.mapIter (some b') since (seen ++ [e.born]).toArray clk) hh (by simp)
   simp only[Array.isEmpty,Sem.run_bind,choose,Sem.run,Question.forced]
   simp
   rw[hset];rfl
  ·cases h6
theorem za3{n:Nat}:∀(es:List (LV × LV)) (E:List MapEntry) (x:LV × LV),ER ρ es E->stampL n (E.map (·.born)) es=some x->∃ e,E.find? (·.born == n)=some e /\ VR ρ x.1 e.key /\ VR ρ x.2 e.val
 | [],[],x,_,h=>by cases h
 | y :: es,e :: E,x,hE,h=>by
  obtain⟨h1,h2,h3⟩:=hE
  have h:ifb (Nat.beq e.born n) (some y) (stampL n (E.map (·.born)) es)=some x:=h
  cases hb:Nat.beq e.born n with
  | true =>
   rw[hb] at h;cases h
   exact⟨e,by rw[List.find?_cons];simp[Nat.eq_of_beq_eq_true hb],h1,h2⟩
  | false =>
   rw[hb] at h
   obtain⟨e',g1,g2⟩:=za3 es E x h3 h
   refine⟨e',?_,g2⟩
   have hne:(e.born == n)=false:=by
    rw[beq_eq_false_iff_ne];intro hh;rw[hh,Nat.beq_refl] at hb;cases hb
   rw[List.find?_cons,hne];exact g1
 | [],_ :: _,_,hE,_=>hE.elim
 | _ :: _,[],_,hE,_=>hE.elim
theorem zgf{dst:Option Tmp}{x:Operand}{ty:TypeId}{pos:String}{af:Array Edge}{gd:Option (Nat × Bool)}{r:R1}(h:oEntry x T m=some r)(hT:TR ρ T a.tmps)(hrel:Rel Pt ρ m w) :
  OpOk P Pt ρ m w a ⟨dst,.entry x,ty,pos,af,gd⟩ r:=by
 obtain⟨v,hv,h1⟩:=zb.1 (show ob (ev T x) _=some r from h)
 obtain⟨id,off,rfl,h2⟩:=z0t.1 h1
 obtain⟨hoff,h3⟩:=zc.1 h2
 obtain rfl:=Nat.eq_of_beq_eq_true hoff
 obtain⟨src,since,seen,last,hi,h4⟩:=zbi.1 h3
 obtain⟨mi,rfl,h5⟩:=zb.1 h4
 obtain⟨st,hst,h6⟩:=zb.1 h5
 obtain⟨es,bs,clk,hm,h7⟩:=z3c.1 h6
 obtain⟨hgd,h8⟩:=zc.1 h7
 simp only[Bool.and_eq_true,Nat.beq_eq] at hgd
 obtain⟨e0,he0,h9⟩:=zb.1 h8
 cases h9
 have hx:=zr hT hv
 generalize hx':a.eval x=x' at hx
 have hex:execOp a.eval ⟨dst,.entry x,ty,pos,af,gd⟩=(do pure (.value (<- Instr.entry x')):Sem Next):=by rw[<-hx'];rfl
 cases hx with
 | ptr hρ =>
  rename_i b s c
  obtain⟨rfl,b',s',c',hρ',hh⟩:=hrel.iter hi hρ
  obtain⟨E,hE,her,hbs⟩:=hrel.map hm hρ'
  rw[hbs] at he0
  obtain⟨e,hf,hk,hvv⟩:=za3 es E.toList e0 her he0
  refine z1c hex hrel ⟨.tuple #[e.key,e.val],?_,.tup (.cons hk (.cons hvv .nil))⟩
  unfold Instr.entry
  have hback:seen.toArray.back?=some st:=by simpa [Array.back?_eq_getElem?,List.getLast?_eq_getElem?] using hst
  have hff:E.find? (·.born == st)=some e:=by rw[<-Array.find?_toList];exact hf
  have hcl:(clk != last)=false:=by rw[hgd.2];simp
  simp only[Nat.add_zero,Sem.run_bind,z0i hh (by simp),z0i hE (by simp),Result.andThen_ok,hback,hcl,Bool.false_eq_true,if_false,hff,Sem.run_pure]
theorem zek{kt:TypeId}{k k' v:LV}{j:Nat}:∀ {es:List (LV × LV)} {i:Nat},findL P kt k es i=some (some (j,k',v))->i<=j /\ es[j - i]?=some (k',v)
 | [],i,h=>by cases h
 |(q,u) :: es,i,h=>by
  obtain⟨b,hb,h1⟩:=zb.1 (show ob (eqL P Op.maxDepth kt k q) _=some _ from h)
  cases b with
  | true=>cases h1;exact⟨Nat.le_refl _,by simp⟩
  | false =>
   obtain⟨h2,h3⟩:=zek (es:=es) (i:=i+1) h1
   refine⟨by omega,?_⟩
   rw[show j - i=(j - (i+1))+1 by omega,List.getElem?_cons_succ];exact h3
theorem zb0{dst:Option Tmp}{t:TypeId}{x k:Operand}{ty:TypeId}{pos:String}{af:Array Edge}{gd:Option (Nat × Bool)}{r:R1}(h:oMapEntry P t x k T m=some r)(hT:TR ρ T a.tmps)(hrel:Rel Pt ρ m w) :
  OpOk P Pt ρ m w a ⟨dst,.mapEntry t x k,ty,pos,af,gd⟩ r:=by
 obtain⟨⟨kt,et⟩,hq,h0⟩:=zb.1 (show ob (mapTypes P t) _=some r from h)
 obtain⟨xv,hxv,h1⟩:=zb.1 (show ob (ev T x) _=some r from h0)
 obtain⟨kv,hkv,h2⟩:=zb.1 h1
 obtain⟨hok,h3⟩:=zc.1 h2
 obtain⟨r0,rfl,h4⟩:=z29.1 h3
 obtain⟨i,rfl,h5⟩:=zb.1 h4
 obtain⟨es,bs,clk,hi,h6⟩:=z3c.1 h5
 obtain⟨hlen,h7⟩:=zc.1 h6
 rw[Nat.beq_eq] at hlen
 obtain⟨p,hp,h8⟩:=zb.1 h7
 have hx:=zr hT hxv
 have hk:=zr hT hkv
 generalize hx':a.eval x=x' at hx
 generalize hk':a.eval k=k' at hk
 have hex:execOp a.eval ⟨dst,.mapEntry t x k,ty,pos,af,gd⟩=(do pure (.value (<- Instr.mapEntry t x' k')):Sem Next):=by rw[<-hx',<- hk'];rfl
 cases hx with
 | map hρ =>
  rename_i b s c
  obtain⟨E,hh,hE,hbs⟩:=hrel.map hi hρ
  have hu:=z55 hq
  obtain⟨r',hf,hfr⟩:=z53 (w:=w) hk hE hp (z54 hok)
  have hc:=z44 (w:=w) false 10000 kt kv k' hok hk
  have hb:b < w.heap.size:=(Array.getElem?_eq_some_iff.1 hh).1
  have hset:∀(w1:World) (o:Obj),w1.heap=w.heap->(setObj b o).run P w1=.ok () { w1 with heap:=w1.heap.setIfInBounds b o }:=by
   intro w1 o e
   simp only[setObj,Sem.run,e,hh]
  have hturn:∀(w1:World) (es':List (LV × LV)) (E':Array MapEntry) (clk':Nat),w1.heap=w.heap->(w1.os=w.os /\ w1.output=w.output)->ER ρ es' E'.toList ->
    Rel Pt ρ (m.upd i (some (.map es' (E'.toList.map (·.born)) clk'))) { w1 with heap:=w1.heap.setIfInBounds b (.map E' clk') }:=by
   intro w1 es' E' clk' e hos hE'
   refine hrel.turn hi rfl rfl hρ (o':=.map E' clk') ⟨E',rfl,hE',rfl⟩ ?_ ?_ hos
   ·show(w1.heap.setIfInBounds b _)[b]?=_
    rw[e,Array.getElem?_setIfInBounds_self_of_lt hb]
   ·intro r hr
    show(w1.heap.setIfInBounds b _)[r]?=_
    rw[e,Array.getElem?_setIfInBounds_ne (Ne.symm hr)]
  cases p with
  | none =>
   cases r' with
   | some _=>exact hfr.elim
   | none =>
    obtain⟨z,hz,h9⟩:=zb.1 (show ob (zeroL P et) _=some r from h8)
    rw[z1m] at h9
    cases h9
    obtain⟨zv,hz1,hz2,_,_⟩:=z31 (w:=w) (ρ:=ρ) hz
    have:=hturn w _ (E.push { key:=k',val:=zv,born:=clk }) (clk+1) rfl ⟨rfl,rfl⟩ (by simpa using hE.append (e:={ key:=k',val:=zv,born:=clk }) hk hz2)
    rw[show(E.push { key:=k',val:=zv,born:=clk }).toList.map (·.born)=bs ++ [clk] by rw[hbs];simp] at this
    refine z1b hex ⟨ρ,.tuple #[zv,.int .i64 clk],_,?_,by rw[Mem.next_upd];exact Same.refl _ _ _,.tup (.cons hz2 (.cons (.int _ _) .nil)),this⟩
    unfold Instr.mapEntry
    simp only[Sem.run_bind,Go.run_underlying hu,Result.andThen_ok,z0i hh (by simp),hc,hf,hz1,hset w _ rfl,Sem.run_pure]
    rfl
  | some q =>
   obtain⟨j,kold,vold⟩:=q
   cases r' with
   | none=>exact hfr.elim
   | some p' =>
    obtain⟨j',v1'⟩:=p'
    obtain⟨hjj,hv1,e,he,hev,hke⟩:=hfr
    have hjj:j=j':=hjj
    subst hjj
    obtain⟨hlv,h9⟩:=zc.1 (show guard' (lvEq kv kold) _=some r from h8)
    obtain⟨bj,hbj,h10⟩:=zb.1 h9
    cases h10
    have hkk:=z1w.1 _ _ hlv
    subst hkk
    have heE:E[j]?=some e:=by simpa using he
    have hjl:j < E.size:=(Array.getElem?_eq_some_iff.1 heE).1
    have hbe:bj=e.born:=by
     rw[hbs,List.getElem?_map,he] at hbj
     simpa using hbj.symm
    have hkey:∃ kk w1,(Instr.keyThatStays e.key k').run P w=.ok kk w1 /\ VR ρ kv kk /\ w1.heap=w.heap /\ (w1.os=w.os /\ w1.output=w.output):=by
     unfold Instr.keyThatStays
     split
     ·exact⟨k',w,rfl,hk,rfl,rfl,rfl⟩
     ·simp only[Sem.run_bind,run_choose]
      rw[if_neg (by simp[Question.forced])]
      simp only[Result.andThen_ok,Sem.run_pure]
      split
      ·exact⟨_,_,rfl,hk,rfl,rfl,rfl⟩
      ·exact⟨_,_,rfl,hke,rfl,rfl,rfl⟩
    obtain⟨kk,w1,hk1,hk2,hk3,hk4⟩:=hkey
    have hmod:(E.modify j fun e=>{ e with key:=kk }).toList=E.toList.set j { e with key:=kk }:=by
     rw[Array.toList_modify]
     rw[List.modify_eq_set,List.getElem?_eq_getElem (by simpa using hjl)]
     have:E.toList[j]'(by simpa using hjl)=e:=by
      have:=Array.getElem?_eq_some_iff.1 heE
      simpa using this.2
     simp[this]
    have hbn:(E.modify j fun e=>{ e with key:=kk }).toList.map (·.born)=bs:=by
     rw[hmod,hbs,List.map_set]
     have hj:j <(E.toList.map (·.born)).length:=by simpa using hjl
     have e2:(E.toList.map (·.born))[j]'hj=e.born:=by
      have:=Array.getElem?_eq_some_iff.1 heE
      simp[this.2]
     rw[<-e2,List.set_getElem_self]
    have hes:ER ρ es (E.modify j fun e=>{ e with key:=kk }).toList:=by
     rw[hmod]
     have h2:=hE.set j (k:=kv) (v:=vold) (e:={ e with key:=kk }) (by simpa using hjl) hk2 (by rw[hev];exact hv1)
     rwa [show setVal es j kv vold=es from ?_] at h2
     have hfk:=(zek hp).2
     rw[Nat.sub_zero] at hfk
     clear h2 hE hi hlen hp
     have:∀(es:List (LV × LV)) (j:Nat),es[j]?=some (kv,vold)->setVal es j kv vold=es:=by
      intro es
      induction es with
      | nil=>intro j h;cases h
      | cons x es ih =>
       intro j h
       cases j with
       | zero=>simp at h;subst h;rfl
       | succ j=>show x :: setVal es j kv vold=_;rw[ih j (by simpa using h)]
     exact this es j hfk
    have:=hturn w1 es (E.modify j fun e=>{ e with key:=kk }) clk hk3 hk4 hes
    rw[hbn] at this
    refine z1b hex ⟨ρ,.tuple #[v1',.int .i64 bj],_,?_,by rw[Mem.next_upd];exact Same.refl _ _ _,.tup (.cons hv1 (.cons (.int _ _) .nil)),this⟩
    unfold Instr.mapEntry
    simp only[Sem.run_bind,Go.run_underlying hu,Result.andThen_ok,z0i hh (by simp),hc,hf,heE,Option.map_some,Option.getD_some,hk1,hset w1 _ hk3,Sem.run_pure,hbe]
    rfl
theorem z77{n:Nat}{v:LV}{v':Value}(hv:VR ρ v v'):∀(es es':List (LV × LV)) (E:List MapEntry),ER ρ es E->setStamp n v (E.map (·.born)) es=some es' ->
  ∃ i,E.findIdx? (fun e=>(e.born:Int) ==(n:Int))=some i /\ ER ρ es' (E.modify i fun e=>{ e with val:=v' }) /\ (E.modify i fun e=>{ e with val:=v' }).map (·.born)=E.map (·.born)
 | [],es',[],_,h=>by cases h
 | y :: es,es',e :: E,hE,h=>by
  obtain⟨h1,h2,h3⟩:=hE
  have h:ifb (Nat.beq e.born n) (some ((y.1,v) :: es)) (ob (setStamp n v (E.map (·.born)) es) fun l=>some (y :: l))=some es':=h
  cases hb:Nat.beq e.born n with
  | true =>
   rw[hb] at h;cases h
   refine⟨0,by rw[List.findIdx?_cons];simp[Nat.eq_of_beq_eq_true hb],⟨h1,hv,h3⟩,rfl⟩
  | false =>
   rw[hb] at h
   obtain⟨l,hl,h⟩:=zb.1 (show ob (setStamp n v (E.map (·.born)) es) _=some es' from h)
   cases h
   obtain⟨i,g1,g2,g3⟩:=z77 hv es l E h3 hl
   have hne:((e.born:Int) ==(n:Int))=false:=by
    rw[beq_eq_false_iff_ne];intro hh
    have:e.born=n:=by omega
    rw[this,Nat.beq_refl] at hb;cases hb
   refine⟨i+1,by rw[List.findIdx?_cons,hne,g1];rfl,?_,?_⟩
   ·rw[List.modify_succ_cons];exact⟨h1,h2,g2⟩
   ·rw[List.modify_succ_cons,List.map_cons,List.map_cons,g3]
 | [],_,_ :: _,hE,_=>hE.elim
 | _ :: _,_,[],hE,_=>hE.elim
theorem z8k{dst:Option Tmp}{t:TypeId}{x st v:Operand}{ty:TypeId}{pos:String}{af:Array Edge}{gd:Option (Nat × Bool)}{r:R1}(h:oEntryStore x st v T m=some r)(hT:TR ρ T a.tmps)(hrel:Rel Pt ρ m w) :
  OpOk P Pt ρ m w a ⟨dst,.entryStore t x st v,ty,pos,af,gd⟩ r:=by
 obtain⟨xv,hxv,h1⟩:=zb.1 (show ob (ev T x) _=some r from h)
 obtain⟨sv,hsv,h2⟩:=zb.1 h1
 obtain⟨vv,hvv,h3⟩:=zb.1 h2
 obtain⟨r0,rfl,h4⟩:=z29.1 h3
 obtain⟨i,rfl,h5⟩:=zb.1 h4
 obtain⟨kk,z,rfl,h6⟩:=zk.1 h5
 obtain⟨n,rfl,h7⟩:=nat?_eq.1 h6
 obtain⟨es,bs,clk,hi,h8⟩:=z3c.1 h7
 obtain⟨hlen,h9⟩:=zc.1 h8
 obtain⟨es',hes,h10⟩:=zb.1 h9
 cases h10
 have hx:=zr hT hxv
 have hs:=(zr hT hsv).int_inv
 have hv:=zr hT hvv
 generalize hx':a.eval x=x' at hx
 cases hx with
 | map hρ =>
  rename_i b s c
  obtain⟨E,hh,hE,hbs⟩:=hrel.map hi hρ
  rw[hbs] at hes
  obtain⟨j,g1,g2,g3⟩:=z77 hv es es' E.toList hE hes
  have hmod:(E.modify j fun e=>{ e with val:=a.eval v }).toList=E.toList.modify j fun e=>{ e with val:=a.eval v }:=Array.toList_modify ..
  refine⟨{ w with heap:=w.heap.setIfInBounds b (.map (E.modify j fun e=>{ e with val:=a.eval v }) clk) },?_,hrel.set1 hi rfl rfl hρ (o':=.map (E.modify j fun e=>{ e with val:=a.eval v }) clk) ⟨_,rfl,by rw[hmod];exact g2,by rw[hmod,g3,hbs]⟩,Mem.next_upd _ _ _⟩
  show(do Instr.entryStore t (a.eval x) (a.eval st) (a.eval v);pure Next.skip:Sem Next).run P w=_
  rw[hx',hs]
  unfold Instr.entryStore
  have hfi:E.findIdx? (fun e=>(e.born:Int) ==(n:Int))=some j:=by obtain⟨El⟩:=E;rw[List.findIdx?_toArray];exact g1
  simp only[Sem.run_bind,z0i hh (by simp),Result.andThen_ok,Go.asInt,asIntOf,Sem.run_pure,hfi,z2i hh (by simp)]
theorem zp7{o:Oper}{r:R1}(h:opX P o.op T m=some r)(hT:TR ρ T a.tmps)(hrel:Rel Pt ρ m w)(hf:Fresh ρ m.next r.mem.next):OpOk P Pt ρ m w a o r:=by
 obtain⟨dst,op,ty,pos,after,guard⟩:=o
 cases op with
 | convert s d x=>exact zge h hT hrel hf
 | panic x =>
  obtain⟨v,hv,h1⟩:=zb.1 (show ob (ev T x) _=some r from h)
  obtain⟨t,u,rfl,h2⟩:=z68.1 h1
  cases h2
  have hx:=zr hT hv
  generalize hx':a.eval x=x' at hx
  cases hx with
  | iface hu =>
   rename_i u'
   refine⟨rfl,.iface t u',?_,.iface hu⟩
   show(do pure (.value (<- Instr.panic (a.eval x))):Sem Next).run P w=_
   rw[hx',Sem.run_bind]
   rfl
 | range t x=>exact zgg h hT hrel hf
 | next x b=>exact zil h hT hrel
 | entry x=>exact zgf h hT hrel
 | mapEntry t x k=>exact zb0 h hT hrel
 | entryStore t x st v=>exact z8k h hT hrel
 | _=>cases h
theorem zim{dst:Option Tmp}{c:Call}{ty:TypeId}{pos:String}{af:Array Edge}{gd:Option (Nat × Bool)}{r:R1}(h:oSame P c T m=some r)(hT:TR ρ T a.tmps)(hrel:Rel Pt ρ m w) :
  OpOk P Pt ρ m w a ⟨dst,.call c,ty,pos,af,gd⟩ r:=by
 obtain⟨callee,args,ats⟩:=c
 unfold oSame at h
 split at h
 ·rename_i f x hc ha
  have hc:callee=.value (.func f):=hc
  have ha:args.toList=[x]:=ha
  subst hc
  have ha:args=#[x]:=by rw[<-Array.toArray_toList (xs:=args),ha]
  subst ha
  obtain⟨hs,h1⟩:=zc.1 h
  obtain⟨v,hv,rfl⟩:=z2u h1
  refine⟨ρ,a.eval x,w,?_,Same.refl _ _ _,zr hT hv,hrel⟩
  show(do let d <- Deferred.ofValue (.func (.func f) #[] #[]) (#[x].map a.eval);invoke d.target d.args:Sem Next).run P w=_
  rw[show(#[x].map a.eval:Array Value)=#[a.eval x] by simp]
  simp only[Deferred.ofValue,Sem.run_bind,Sem.run_pure,Result.andThen_ok,invoke]
  rw[show(#[] ++ #[a.eval x] ++ #[]:Array Value)=#[a.eval x] by simp]
  exact zlv hs _
 ·cases h
theorem zb3{o:Oper}{r:R1}(h:opA P o.op T m=some r)(hT:TR ρ T a.tmps)(hrel:Rel Pt ρ m w)(hf:Fresh ρ m.next r.mem.next):OpOk P Pt ρ m w a o r:=by
 rcases znd h with⟨c,hc,h1⟩|h1|h1
 ·obtain⟨dst,op,ty,pos,after,guard⟩:=o
  have hc:op=.call c:=hc
  subst hc
  exact zim h1 hT hrel
 ·exact z8l h1 hT hrel hf
 ·exact zp7 h1 hT hrel hf
