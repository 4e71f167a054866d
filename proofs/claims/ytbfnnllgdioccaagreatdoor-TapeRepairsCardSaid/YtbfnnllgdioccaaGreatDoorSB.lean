/-
 Part of the proof of TapeRepairs. No condition beyond those in each theorem.
-/
import Derived.Test.YtbfnnllgdioccaaGreatDoorPvH
import Derived.Test.YtbfnnllgdioccaaGreatDoorPvG
import Derived.Test.YtbfnnllgdioccaaGreatDoorSA
import Derived.Test.YtbfnnllgdioccaaGreatDoorTX
section
open Go PvL
set_option linter.unusedSimpArgs false
set_option linter.unusedVariables false
namespace Go.Proofs.YtbfnnllgdioccaaGreatDoor.C
theorem zdm:∀ l:List LV,z0k l 0 []=some l
 | []=>rfl
 | _ :: _=>rfl
theorem z8l:∀(vs rest ws:List LV),ws.length=vs.length->z0k (vs ++ rest) 0 ws=some (ws ++ rest)
 | [],rest,[],_=>by rw[List.nil_append];exact zdm _
 | v :: vs,rest,w :: ws,h=>by
  show ob (z0k (vs ++ rest) 0 ws) (fun l=>some (w :: l))=_
  rw[z8l vs rest ws (by simpa using h)]
  rfl
theorem z3p:∀(pre l vs:List LV) (k:Nat) (r:List LV),z0k l k vs=some r->vs ≠ []->z0k (pre ++ l) (pre.length+k) vs=some (pre ++ r)
 | [],l,vs,k,r,h,_=>by rw[List.length_nil,Nat.zero_add];exact h
 | p :: pre,l,[],k,r,h,hv=>absurd rfl hv
 | p :: pre,l,v :: vs,k,r,h,hv=>by
  rw[show(p :: pre).length+k=(pre.length+k)+1 from by rw[List.length_cons];omega]
  show ob (z0k (pre ++ l) (pre.length+k) (v :: vs)) (fun l=>some (p :: l))=_
  rw[z3p pre l (v :: vs) k r h hv]
  rfl
theorem z6z{α:Type}{enc:α->List LV}{sz:Nat}(henc:∀ x,(enc x).length=sz)(h0:0 < sz):∀(l:List α) (k:Nat) (v:α),k < l.length->z0k (l.flatMap enc) (k*sz) (enc v)=some ((l.set k v).flatMap enc)
 | [],k,v,h=>absurd h (Nat.not_lt_zero _)
 | x :: l,0,v,h=>by
  rw[Nat.zero_mul,List.set_cons_zero,List.flatMap_cons,List.flatMap_cons]
  exact z8l _ _ _ (by rw[henc,henc])
 | x :: l,k+1,v,h=>by
  rw[List.set_cons_succ,List.flatMap_cons,List.flatMap_cons,show(k+1)*sz=(enc x).length+k*sz from by rw[henc,Nat.add_mul,Nat.one_mul,Nat.add_comm]]
  refine z3p _ _ _ _ _ (z6z henc h0 l k v (by simpa using h)) fun he=>?_
  have:=henc v
  rw[he] at this
  simp at this
  omega
def tabL{α:Type}(enc:α->List LV)(G:Nat->α)(n:Nat):List LV:=((List.range n).map G).flatMap enc
theorem zkl{α:Type}{enc:α->List LV}{sz:Nat}(henc:∀ x,(enc x).length=sz)(h0:0 < sz){G G':Nat->α}{n k:Nat}(hk:k < n)(h:∀ i,i < n->i ≠ k->G' i=G i):z0k (tabL enc G n) (k*sz) (enc (G' k))=some (tabL enc G' n):=by
 unfold tabL
 rw[z6z henc h0 _ _ _ (by simpa using hk)]
 congr 2
 refine List.ext_getElem (by simp) fun i h1 h2=>?_
 rw[List.getElem_set]
 by_cases he:k=i
 ·subst he;simp
 ·rw[if_neg he]
  simp only[List.getElem_map,List.getElem_range]
  exact(h i (by simpa using h2) (fun h=>he h.symm)).symm
theorem znk{α:Type}{enc:α->List LV}{sz:Nat}(henc:∀ x,(enc x).length=sz){G:Nat->α}{n k:Nat}{M:Mem}{i:Nat}{own:Bool}{ty:TypeId}(ha:At M i (.cells own (tabL enc G n) ty))(hk:k < n):Rd M i (0+k*sz) sz (enc (G k)):=by
 have:=z1v (enc:=enc) (l:=(List.range n).map G) (sz:=sz) ha (fun x _=>henc x) (k:=k) (by simpa using hk)
 simpa using this
abbrev Ky:=Int × Int
abbrev kyc(k:Ky):List LV:=[I k.1,I k.2]
def klt(a b:Ky):Prop:=a.1 < b.1 ∨(a.1=b.1 /\ a.2 < b.2)
instance (a b:Ky):Decidable (klt a b):=by unfold klt;infer_instance
theorem z0m(a b:Ky):cmpK a b < 0 ↔ klt a b:=by
 unfold cmpK cmpI8 klt
 by_cases h1:a.1 < b.1
 ·simp[h1]
 ·by_cases h2:b.1 < a.1
  ·have:¬ a.1=b.1:=by omega
   simp[h1,h2,this]
  ·have:a.1=b.1:=by omega
   simp only[this,Int.lt_irrefl,if_false,ne_eq,not_true,false_or,true_and]
   by_cases h3:a.2 < b.2
   ·simp[h3]
   ·by_cases h4:b.2 < a.2<;>simp[h3,h4]
theorem z1r(a:Ky):¬ klt a a:=by unfold klt;omega
theorem z5j{a b c:Ky}(h:klt a b)(h':klt b c):klt a c:=by unfold klt at *;omega
theorem z81{a b c:Ky}(h:¬ klt b a)(h':¬ klt c b):¬ klt c a:=by unfold klt at *;omega
theorem z82{a b:Ky}(h:klt a b):¬ klt b a:=by unfold klt at *;omega
theorem zhf{a b:Ky}(h:a ≠ b):klt a b ∨ klt b a:=by
 unfold klt
 have:¬(a.1=b.1 /\ a.2=b.2):=fun⟨h1,h2⟩=>h (Prod.ext h1 h2)
 omega
def sw(G:Nat->Ky)(i j:Nat):Nat->Ky:=fun t=>if t=j then G i else if t=i then G j else G t
theorem sw_j(G:Nat->Ky)(i j:Nat):sw G i j j=G i:=by unfold sw;rw[if_pos rfl]
theorem sw_i(G:Nat->Ky)(i j:Nat):sw G i j i=G j:=by
 unfold sw
 by_cases h:i=j
 ·subst h;rw[if_pos rfl]
 ·rw[if_neg h,if_pos rfl]
theorem z4l{G:Nat->Ky}{i j t:Nat}(h1:t ≠ i)(h2:t ≠ j):sw G i j t=G t:=by unfold sw;rw[if_neg h2,if_neg h1]
inductive Sw (a b:Nat) (G:Nat->Ky):(Nat->Ky)->Prop
 | refl:Sw a b G G
 | step {G':Nat->Ky} {i j:Nat} (h:Sw a b G G') (h1:a<=i) (h2:i < b) (h3:a<=j) (h4:j < b):Sw a b G (sw G' i j)
theorem Sw.trans{a b:Nat}{G G1 G2:Nat->Ky}(h:Sw a b G G1)(h':Sw a b G1 G2):Sw a b G G2:=by
 induction h' with
 | refl=>exact h
 | step _ h1 h2 h3 h4 ih=>exact .step ih h1 h2 h3 h4
theorem Sw.wider{a b a' b':Nat}{G G1:Nat->Ky}(h:Sw a b G G1)(ha:a'<=a)(hb:b<=b'):Sw a' b' G G1:=by
 induction h with
 | refl=>exact .refl
 | step _ h1 h2 h3 h4 ih=>exact .step ih (by omega) (by omega) (by omega) (by omega)
theorem Sw.one{a b i j:Nat}{G:Nat->Ky}(h1:a<=i)(h2:i < b)(h3:a<=j)(h4:j < b):Sw a b G (sw G i j):=.step .refl h1 h2 h3 h4
theorem Sw.out{a b:Nat}{G G':Nat->Ky}(h:Sw a b G G'){t:Nat}(ht:t < a ∨ b<=t):G' t=G t:=by
 induction h with
 | refl=>rfl
 | step _ h1 h2 h3 h4 ih=>rw[z4l (by omega) (by omega),ih]
theorem Sw.all{a b:Nat}{G G':Nat->Ky}(h:Sw a b G G'){p:Ky->Prop}(hp:∀ t,a<=t->t < b->p (G t)):∀ t,a<=t->t < b->p (G' t):=by
 induction h with
 | refl=>exact hp
 | step _ h1 h2 h3 h4 ih =>
  intro t ht1 ht2
  unfold sw
  split
  ·exact ih _ h1 h2
  ·split
   ·exact ih _ h3 h4
   ·exact ih _ ht1 ht2
def Inj(n:Nat)(G:Nat->Ky):Prop:=∀ i j,i < n->j < n->G i=G j->i=j
theorem Sw.inj{a b n:Nat}{G G':Nat->Ky}(h:Sw a b G G')(hb:b<=n)(hi:Inj n G):Inj n G':=by
 induction h with
 | refl=>exact hi
 | @step G' i j _ h1 h2 h3 h4 ih =>
  intro x y hx hy hxy
  unfold sw at hxy
  by_cases hxj:x=j
  ·by_cases hyj:y=j
   ·omega
   ·rw[if_pos hxj,if_neg hyj] at hxy
    by_cases hyi:y=i
    ·rw[if_pos hyi] at hxy;have:=ih _ _ (by omega) (by omega) hxy;omega
    ·rw[if_neg hyi] at hxy;have:=ih _ _ (by omega) hy hxy;omega
  ·rw[if_neg hxj] at hxy
   by_cases hxi:x=i
   ·rw[if_pos hxi] at hxy
    by_cases hyj:y=j
    ·rw[if_pos hyj] at hxy;have:=ih _ _ (by omega) (by omega) hxy;omega
    ·rw[if_neg hyj] at hxy
     by_cases hyi:y=i
     ·omega
     ·rw[if_neg hyi] at hxy;have:=ih _ _ (by omega) hy hxy;omega
   ·rw[if_neg hxi] at hxy
    by_cases hyj:y=j
    ·rw[if_pos hyj] at hxy;have:=ih _ _ hx (by omega) hxy;omega
    ·rw[if_neg hyj] at hxy
     by_cases hyi:y=i
     ·rw[if_pos hyi] at hxy;have:=ih _ _ hx (by omega) hxy;omega
     ·rw[if_neg hyi] at hxy;exact ih _ _ hx hy hxy
def Srt(a b:Nat)(G:Nat->Ky):Prop:=∀ i j,a<=i->i < j->j < b->¬ klt (G j) (G i)
theorem Srt.short{a b:Nat}{G:Nat->Ky}(h:b<=a+1):Srt a b G:=fun i j h1 h2 h3=>by omega
def Ins(a b j:Nat)(G:Nat->Ky):Prop:=∀ p q,a<=p->p < q->q < b->q ≠ j->¬ klt (G q) (G p)
theorem Ins.start{a i:Nat}{G:Nat->Ky}(h:Srt a i G):Ins a (i+1) i G:=fun p q h1 h2 h3 h4=>h p q h1 h2 (by omega)
theorem Ins.step{a b j:Nat}{G:Nat->Ky}(h:Ins a b (j+1) G)(hj:a<=j)(hlt:klt (G (j+1)) (G j)):Ins a b j (sw G (j+1) j):=by
 intro p q h1 h2 h3 h4
 by_cases hq1:q=j+1
 ·subst hq1
  rw[sw_i]
  by_cases hp:p=j
  ·subst hp;rw[sw_j];exact z82 hlt
  ·rw[z4l (by omega) (by omega)]
   exact h p j h1 (by omega) (by omega) (by omega)
 ·by_cases hq:q<=j
  ·rw[z4l (by omega) (by omega),z4l (by omega) (by omega)]
   exact h p q h1 h2 h3 hq1
  ·rw[show sw G (j+1) j q=G q from z4l (by omega) (by omega)]
   by_cases hp1:p=j+1
   ·subst hp1;rw[sw_i];exact h j q hj (by omega) h3 (by omega)
   ·by_cases hp:p=j
    ·subst hp;rw[sw_j];exact h (p+1) q (by omega) (by omega) h3 (by omega)
    ·rw[z4l hp1 hp];exact h p q h1 h2 h3 (by omega)
theorem Ins.done{a b j:Nat}{G:Nat->Ky}(h:Ins a b j G)(hd:j<=a ∨ ¬ klt (G j) (G (j - 1))):Srt a b G:=by
 intro p q h1 h2 h3
 by_cases hq:q=j
 ·subst hq
  rcases hd with hd|hd
  ·omega
  ·by_cases hp:p=q - 1
   ·subst hp;exact hd
   ·exact z81 (h p (q - 1) h1 (by omega) (by omega) (by omega)) hd
 ·exact h p q h1 h2 h3 hq
end Go.Proofs.YtbfnnllgdioccaaGreatDoor.C
end
section
open Go PvL Go.Proofs
set_option linter.unusedSimpArgs false
set_option linter.unusedVariables false
namespace Go.Proofs.YtbfnnllgdioccaaGreatDoor.C
abbrev zFr:Fr:=(0,0,[])
def joinF(x y:Fr):Fr × Int :=
 if errF x=0 then(if errF y=0 then(if x.1=y.1 /\ x.2.1=y.2.1 then((x.1,x.2.1,z19 x.2.2 y.2.2),0) else(zFr,2)) else(zFr,errF y)) else(zFr,errF x)
theorem zmw{x:Fr}(h:errF x=0):0<=x.1 /\ x.1<=60000 /\ 0<=x.2.1 /\ x.2.1<=23 /\ 1<=x.2.2.length /\ x.2.2.length<=64 /\ x.2.2.all smB=true:=by
 unfold errF at h
 cases hb:frB x with
 | false=>rw[hb] at h;simp at h
 | true =>
  unfold frB smsB btB at hb
  simp only[Bool.and_eq_true,decide_eq_true_eq] at hb
  obtain⟨⟨h1,h2⟩,⟨h3,h4⟩,⟨h5,h6⟩,h7⟩:=hb
  exact⟨h1,h2,h3,h4,by omega,by omega,h7⟩
theorem zh4(a b:List Int)(k:Nat):getG (z19 a b) k=joinI (getG a k) (getG b k):=by
 by_cases hk:k < max a.length b.length
 ·rw[z3z (by rw[z20];exact hk)]
  unfold z19
  simp
 ·rw[z69 (by rw[z20];omega),z69 (l:=a) (by omega),z69 (l:=b) (by omega)];rfl
theorem zj6{a b:List Int}(hl:a.length=b.length)(h:∀ k,getG a k=getG b k):a=b:=by
 refine List.ext_getElem hl fun k h1 h2=>?_
 have:=h k
 rw[z3z h1,z3z h2] at this;exact this
theorem zlt{l:List Int}(h:l.all smB=true)(k:Nat):smB (getG l k)=true:=by
 by_cases hk:k < l.length
 ·rw[z3z hk];exact List.all_eq_true.1 h _ (List.getElem_mem hk)
 ·rw[z69 (by omega)];rfl
theorem znh{a b:Int}(ha:smB a=true)(hb:smB b=true):smB (joinI a b)=true:=by
 unfold joinI
 split
 ·exact ha
 ·split
  ·exact hb
  ·rfl
theorem zng{a b:List Int}(ha:a.all smB=true)(hb:b.all smB=true):(z19 a b).all smB=true:=by
 rw[List.all_eq_true]
 intro x hx
 unfold z19 at hx
 obtain⟨k,_,rfl⟩:=List.mem_map.1 hx
 exact znh (zlt ha k) (zlt hb k)
def joinOk(x y:Fr):Prop:=errF x=0 /\ errF y=0 /\ x.1=y.1 /\ x.2.1=y.2.1
abbrev jo(x y:Fr):Fr:=(x.1,x.2.1,z19 x.2.2 y.2.2)
end Go.Proofs.YtbfnnllgdioccaaGreatDoor.C
end
section
open Go PvL
set_option linter.unusedSimpArgs false
set_option linter.unusedVariables false
namespace Go.Proofs.YtbfnnllgdioccaaGreatDoor.C
abbrev Rk:=List (Ky × List Int)
abbrev fky(x:Fr):Ky:=(x.1,x.2.1)
def lkK:Rk->Ky->Option (List Int)
 | [],_=>none
 |(a,b) :: L,k=>if k=a then some b else lkK L k
def stK:Rk->Ky->List Int->Rk
 | [],k,v=>[(k,v)]
 |(a,b) :: L,k,v=>if k=a then(k,v) :: L else(a,b) :: stK L k v
theorem zhj:∀(L:Rk) (k:Ky) (v:List Int) (k':Ky),lkK (stK L k v) k'=if k'=k then some v else lkK L k'
 | [],k,v,k'=>rfl
 |(a,b) :: L,k,v,k'=>by
  unfold stK
  by_cases h:k=a
  ·subst h
   rw[if_pos rfl]
   show(if k'=k then some v else lkK L k')=if k'=k then some v else(if k'=k then some b else lkK L k')
   by_cases h2:k'=k
   ·rw[if_pos h2,if_pos h2]
   ·rw[if_neg h2,if_neg h2,if_neg h2]
  ·rw[if_neg h]
   show(if k'=a then some b else lkK (stK L k v) k')=if k'=k then some v else(if k'=a then some b else lkK L k')
   rw[zhj L k v k']
   by_cases h2:k'=a
   ·subst h2
    rw[if_pos rfl,if_neg (fun h3=>h h3.symm),if_pos rfl]
   ·rw[if_neg h2,if_neg h2]
theorem zdp:∀(L:Rk) (k:Ky) (v:List Int),(stK L k v).map (·.1)=if (lkK L k).isSome then L.map (·.1) else L.map (·.1) ++ [k]
 | [],k,v=>rfl
 |(a,b) :: L,k,v=>by
  unfold stK
  by_cases h:k=a
  ·subst h
   rw[if_pos rfl]
   have:lkK ((k,b) :: L) k=some b:=by show(if k=k then some b else lkK L k)=_;rw[if_pos rfl]
   rw[this];rfl
  ·have e:lkK ((a,b) :: L) k=lkK L k:=by show(if k=a then some b else lkK L k)=_;rw[if_neg h]
   rw[if_neg h,e,List.map_cons,zdp L k v]
   split<;>rfl
theorem zhk:∀(L:Rk) (k:Ky),(lkK L k).isSome=true ↔ k ∈ L.map (·.1)
 | [],k=>by simp[lkK]
 |(a,b) :: L,k=>by
  by_cases h:k=a
  ·subst h
   have:lkK ((k,b) :: L) k=some b:=by show(if k=k then some b else lkK L k)=_;rw[if_pos rfl]
   rw[this];simp
  ·have e:lkK ((a,b) :: L) k=lkK L k:=by show(if k=a then some b else lkK L k)=_;rw[if_neg h]
   rw[e,zhk L k];simp[h]
def RkN(L:Rk):Prop:=(L.map (·.1)).Nodup
theorem RkN.st{L:Rk}(h:RkN L)(k:Ky)(v:List Int):RkN (stK L k v):=by
 unfold RkN at *
 rw[zdp]
 split
 ·exact h
 ·rename_i hn
  have:k ∉ L.map (·.1):=fun hk=>hn ((zhk L k).2 hk)
  rw[List.nodup_append]
  exact⟨h,by simp,fun a ha b hb=>by
   obtain rfl:b=k:=by simpa using hb
   rintro rfl;exact this ha⟩
def rkA(R:Rk)(f:Fr):Rk:=stK R (fky f) (z19 ((lkK R (fky f)).getD []) f.2.2)
def addR:List Fr->Fr->List Fr
 | [],f=>[f]
 | g :: l,f=>if keyI g=keyI f then(g.1,g.2.1,z19 g.2.2 f.2.2) :: l else if keyI g > keyI f then f :: g :: l else g :: addR l f
def z0u(l:List Fr):List Fr:=l.foldl addR []
def rackF(l:List Fr):Rk:=l.foldl rkA []
theorem zbe(l:List Int):z19 [] l=l:=by
 refine zj6 ?_ fun k=>?_
 ·rw[z20];simp
 ·rw[zh4]
  have:getG [] k=40000:=rfl
  rw[this]
  unfold joinI
  split
  ·rename_i h;rcases h with h|h
   ·exact h
   ·exact h.symm
  ·rw[if_pos rfl]
def FrK(x:Fr):Prop:=0<=x.1 /\ x.1<=60000 /\ 0<=x.2.1 /\ x.2.1<=23
theorem zhb{x y:Fr}(hx:FrK x)(hy:FrK y):keyI x < keyI y ↔ klt (fky x) (fky y):=by unfold FrK keyI klt at *;dsimp only;omega
theorem zha{x y:Fr}(hx:FrK x)(hy:FrK y):keyI x=keyI y ↔ fky x=fky y:=by
 unfold FrK keyI at *
 constructor
 ·intro h;exact Prod.ext (by dsimp only;omega) (by dsimp only;omega)
 ·intro h
  have h1:(fky x).1=(fky y).1:=congrArg Prod.fst h
  have h2:(fky x).2=(fky y).2:=congrArg Prod.snd h
  dsimp only at h1 h2
  omega
def lkJ:List Fr->Ky->Option (List Int)
 | [],_=>none
 | x :: l,k=>if k=fky x then some x.2.2 else lkJ l k
theorem zao(x:Fr)(l:List Fr)(k:Ky):lkJ (x :: l) k=if k=fky x then some x.2.2 else lkJ l k:=rfl
theorem zhh:∀(J:List Fr) (k:Ky),(lkJ J k).isSome=true ↔ k ∈ J.map fky
 | [],k=>by simp[lkJ]
 | x :: J,k=>by
  rw[zao]
  by_cases h:k=fky x
  ·rw[if_pos h];simp[h]
  ·rw[if_neg h,zhh J k];simp[h]
def SrtJ(J:List Fr):Prop:=J.Pairwise fun x y=>klt (fky x) (fky y)
theorem zhi{J:List Fr}{k:Ky}(h:∀ x ∈ J,klt k (fky x)):lkJ J k=none:=by
 induction J with
 | nil=>rfl
 | cons x J ih =>
  rw[zao,if_neg (fun e=>z1r (fky x) (by have:=h x (by simp);rw[e] at this;exact this))]
  exact ih fun y hy=>h y (by simp[hy])
theorem zg3:∀ {J:List Fr} {f:Fr},SrtJ J->(∀ x ∈ J,FrK x)->FrK f->SrtJ (addR J f) /\ (∀ x ∈ addR J f,FrK x) /\ (∀ k,lkJ (addR J f) k=if k=fky f then some (z19 ((lkJ J (fky f)).getD []) f.2.2) else lkJ J k) /\ (∀ x ∈ addR J f,fky x=fky f ∨ ∃ y ∈ J,fky y=fky x)
 | [],f,_,_,hf=>by
  have hm:∀ {x},x ∈ addR [] f->x=f:=fun {x} hx=>by
   have hx:x ∈ [f]:=hx
   simpa using hx
  refine⟨?_,fun x hx=>?_,fun k=>?_,fun x hx=>?_⟩
  ·show List.Pairwise _ [f]
   simp
  ·rw[hm hx];exact hf
  ·show lkJ [f] k=if k=fky f then some (z19 [] f.2.2) else none
   rw[zbe];rfl
  ·rw[hm hx];exact .inl rfl
 | g :: l,f,hs,hk,hf=>by
  have hg:=hk g (by simp)
  have hs':SrtJ l:=(List.pairwise_cons.1 hs).2
  have hgl:=(List.pairwise_cons.1 hs).1
  unfold addR
  by_cases he:keyI g=keyI f
  ·rw[if_pos he]
   have hke:=(zha hg hf).1 he
   refine⟨List.pairwise_cons.2 ⟨hgl,hs'⟩,fun x hx=>?_,fun k=>?_,fun x hx=>?_⟩
   ·rcases List.mem_cons.1 hx with rfl|hx
    ·exact hg
    ·exact hk x (by simp[hx])
   ·rw[zao,zao,zao,if_pos hke.symm,Option.getD_some]
    by_cases h:k=fky f
    ·rw[if_pos h,if_pos (show k=(g.1,g.2.1) by rw[h];exact hke.symm)]
    ·rw[if_neg h,if_neg (show ¬ k=(g.1,g.2.1) from fun e=>h (by rw[e];exact hke)),if_neg (fun e=>h (by rw[e];exact hke))]
   ·rcases List.mem_cons.1 hx with rfl|hx
    ·exact .inl hke
    ·exact .inr ⟨x,by simp[hx],rfl⟩
  ·rw[if_neg he]
   by_cases hgt:keyI g > keyI f
   ·rw[if_pos hgt]
    have hlt:=(zhb hf hg).1 hgt
    have hall:∀ x ∈ g :: l,klt (fky f) (fky x):=fun x hx=>by
     rcases List.mem_cons.1 hx with rfl|hx
     ·exact hlt
     ·exact z5j hlt (hgl x hx)
    refine⟨List.pairwise_cons.2 ⟨hall,hs⟩,fun x hx=>?_,fun k=>?_,fun x hx=>?_⟩
    ·rcases List.mem_cons.1 hx with rfl|hx
     ·exact hf
     ·exact hk x hx
    ·rw[zhi hall,Option.getD_none,zbe];rfl
    ·rcases List.mem_cons.1 hx with rfl|hx
     ·exact .inl rfl
     ·exact .inr ⟨x,hx,rfl⟩
   ·rw[if_neg hgt]
    have hlt:=(zhb hg hf).1 (by omega)
    have hne:¬ fky f=fky g:=fun e=>he ((zha hg hf).2 e.symm)
    obtain⟨i1,i2,i3,i4⟩:=zg3 (J:=l) (f:=f) hs' (fun x hx=>hk x (by simp[hx])) hf
    refine⟨List.pairwise_cons.2 ⟨fun x hx=>?_,i1⟩,fun x hx=>?_,fun k=>?_,fun x hx=>?_⟩
    ·rcases i4 x hx with h|⟨y,hy,h⟩
     ·rw[h];exact hlt
     ·rw[<-h];exact hgl y hy
    ·rcases List.mem_cons.1 hx with rfl|hx
     ·exact hg
     ·exact i2 x hx
    ·rw[zao,i3,zao,zao,if_neg hne]
     by_cases h:k=fky g
     ·rw[if_pos h,if_neg (fun e=>hne (by rw[<-e];exact h)),if_pos h]
     ·rw[if_neg h,if_neg h]
    ·rcases List.mem_cons.1 hx with rfl|hx
     ·exact .inr ⟨x,by simp,rfl⟩
     ·rcases i4 x hx with h|⟨y,hy,h⟩
      ·exact .inl h
      ·exact .inr ⟨y,by simp[hy],h⟩
structure RJ (R:Rk) (J:List Fr):Prop where
 n:RkN R
 s:SrtJ J
 k:∀ x ∈ J,FrK x
 e:∀ k,lkK R k=lkJ J k
theorem RJ.nil:RJ [] []:={ n:=List.nodup_nil,s:=List.Pairwise.nil,k:=fun _ h=>(nomatch h),e:=fun _=>rfl }
theorem RJ.add{R:Rk}{J:List Fr}(h:RJ R J){f:Fr}(hf:FrK f):RJ (rkA R f) (addR J f):=by
 obtain⟨h1,h2,h3,h4⟩:=zg3 h.s h.k hf
 refine⟨h.n.st _ _,h1,h2,fun k=>?_⟩
 unfold rkA
 rw[zhj,h3 k,h.e,h.e]
theorem RJ.all{l:List Fr}:∀ {R:Rk} {J:List Fr},RJ R J->(∀ x ∈ l,FrK x)->RJ (l.foldl rkA R) (l.foldl addR J):=by
 induction l with
 | nil=>intro R J h _;exact h
 | cons f l ih=>intro R J h hl;exact ih (h.add (hl f (by simp))) fun x hx=>hl x (by simp[hx])
theorem zpn{l:List Fr}(hl:∀ x ∈ l,FrK x):RJ (rackF l) (z0u l):=RJ.nil.all hl
theorem pig:∀(n:Nat) (l:List Nat),l.Nodup->(∀ x ∈ l,x < n)->l.length<=n
 | 0,l,_,h=>by
  cases l with
  | nil=>exact Nat.le_refl _
  | cons x l=>exact absurd (h x (by simp)) (Nat.not_lt_zero _)
 | n+1,l,hn,h=>by
  by_cases hm:n ∈ l
  ·have h1:=pig n (l.erase n) (hn.erase n) fun x hx=>by
    have h2:=(hn.mem_erase_iff).1 hx
    have h3:=h x h2.2
    have h4:=h2.1
    omega
   rw[List.length_erase_of_mem hm] at h1
   omega
  ·exact Nat.le_succ_of_le (pig n l hn fun x hx=>by
    have h1:=h x hx
    have h2:x ≠ n:=fun e=>hm (e ▸ hx)
    omega)
theorem zic:∀ {a b:List Ky},a.Pairwise klt->b.Pairwise klt->(∀ k,k ∈ a ↔ k ∈ b)->a=b
 | [],[],_,_,_=>rfl
 | [],y :: b,_,_,h=>by have:=(h y).2 (by simp);simp at this
 | x :: a,[],_,_,h=>by have:=(h x).1 (by simp);simp at this
 | x :: a,y :: b,ha,hb,h=>by
  have ha':=List.pairwise_cons.1 ha
  have hb':=List.pairwise_cons.1 hb
  have hxy:x=y:=by
   rcases List.mem_cons.1 ((h x).1 (by simp)) with e|hx
   ·exact e
   rcases List.mem_cons.1 ((h y).2 (by simp)) with e|hy
   ·exact e.symm
   ·exact absurd (z5j (ha'.1 y hy) (hb'.1 x hx)) (z1r x)
  subst hxy
  rw[zic ha'.2 hb'.2 fun k=>?_]
  have h1:=h k
  simp only[List.mem_cons] at h1
  constructor
  ·intro hk
   rcases h1.1 (.inr hk) with e|e
   ·subst e;exact absurd (ha'.1 k hk) (z1r k)
   ·exact e
  ·intro hk
   rcases h1.2 (.inr hk) with e|e
   ·subst e;exact absurd (hb'.1 k hk) (z1r k)
   ·exact e
theorem RJ.keys{R:Rk}{J:List Fr}(h:RJ R J)(k:Ky):k ∈ R.map (·.1) ↔ k ∈ J.map fky:=by rw[<-zhk,<- zhh,h.e]
theorem SrtJ.keys{J:List Fr}(h:SrtJ J):(J.map fky).Pairwise klt:=by unfold SrtJ at h;rw[List.pairwise_map];exact h
def frK(R:Rk)(k:Ky):Fr:=(k.1,k.2,(lkK R k).getD [])
theorem zln:∀ {J:List Fr},SrtJ J->∀ x ∈ J,lkJ J (fky x)=some x.2.2
 | y :: J,hs,x,hx=>by
  have hs':=List.pairwise_cons.1 hs
  rw[zao]
  rcases List.mem_cons.1 hx with rfl|hx
  ·rw[if_pos rfl]
  ·rw[if_neg (fun e=>z1r (fky y) (by have:=hs'.1 x hx;rw[e] at this;exact this))]
   exact zln hs'.2 x hx
theorem RJ.frames{R:Rk}{J:List Fr}(h:RJ R J){ks:List Ky}(hs:ks.Pairwise klt)(hm:∀ k,k ∈ ks ↔ k ∈ R.map (·.1)):ks.map (frK R)=J:=by
 have e:ks=J.map fky:=zic hs h.s.keys fun k=>by rw[hm,h.keys]
 subst e
 rw[List.map_map]
 conv=>rhs;rw[<-List.map_id J]
 refine List.map_congr_left fun x hx=>?_
 show frK R (fky x)=x
 unfold frK
 rw[h.e,zln h.s x hx];rfl
theorem RJ.len{R:Rk}{J:List Fr}(h:RJ R J):R.length=J.length:=by
 have h1:(J.map fky).Nodup:=h.s.keys.imp fun hk e=>by subst e;exact z1r _ hk
 have hle:∀ {a b:List Ky},a.Nodup->(∀ k ∈ a,k ∈ b)->a.length<=b.length:=by
  intro a
  induction a with
  | nil=>intro b _ _;exact Nat.zero_le _
  | cons x a ih =>
   intro b hn hs
   have hn':=List.nodup_cons.1 hn
   have:=ih (b:=b.erase x) hn'.2 fun k hk=>(List.mem_erase_of_ne (fun e=>hn'.1 (by rw[<-e];exact hk))).2 (hs k (by simp[hk]))
   rw[List.length_erase_of_mem (hs x (by simp))] at this
   have h2:0 < b.length:=List.length_pos_of_mem (hs x (by simp))
   rw[List.length_cons];omega
 have h2:=hle h.n fun k hk=>(h.keys k).1 hk
 have h3:=hle h1 fun k hk=>(h.keys k).2 hk
 simp only[List.length_map] at h2 h3
 omega
end Go.Proofs.YtbfnnllgdioccaaGreatDoor.C
end
section
open Go PvL Go.Proofs
variable {μ:Md}
set_option linter.unusedVariables false
set_option linter.unusedSimpArgs false
namespace Go.Proofs.YtbfnnllgdioccaaGreatDoor.C
abbrev kyv(k:Ky):LV:=.agg [I k.1,I k.2]
abbrev zsl:LV:=.slice none 0 true 0
abbrev Mk:=List (Ky × LV)
def encK(L:Mk):List (LV × LV):=L.map fun p=>(kyv p.1,p.2)
def lkM:Mk->Ky->Option LV
 | [],_=>none
 |(a,b) :: L,k=>if k=a then some b else lkM L k
def stV:Mk->Ky->LV->Mk
 | [],k,v=>[(k,v)]
 |(a,b) :: L,k,v=>if k=a then(k,v) :: L else(a,b) :: stV L k v
theorem zk0(a:Ky)(b:LV)(L:Mk)(k:Ky):lkM ((a,b) :: L) k=if k=a then some b else lkM L k:=rfl
theorem zfx(a:Ky)(b:LV)(L:Mk)(k:Ky)(v:LV):stV ((a,b) :: L) k v=if k=a then(k,v) :: L else(a,b) :: stV L k v:=rfl
theorem zjr{P:Program}{t e:TypeId}(hu:P.underlying t=some (.array 2 e))(hi:P.underlying e=some (.int .i64))(hs:szOf P e=some 1)(ha:aggSz P e=some none)(a b c d:Int) :
  eqL P Op.maxDepth t (.agg [I a,I b]) (.agg [I c,I d])=some (decide (a=c) && decide (b=d)):=by
 have he:∀ x y:Int,eqL P (Op.maxDepth - 1) e (I x) (I y)=some (decide (x=y)):=fun x y=>by
  show eqL P (Op.maxDepth - 2+1) e (I x) (I y)=_
  unfold eqL
  rw[hi]
  show guard' (kEq .i64 .i64) (some (ieq x y))=_
  rw[z2y.2 rfl,z6,z40]
  rfl
 have hp:∀(i:Nat) (xs ys:List LV) (x y:Int),nth xs i=some (I x)->nth ys i=some (I y)->eqPart P (eqL P (Op.maxDepth - 1)) e i xs ys=some (decide (x=y)):=fun i xs ys x y h1 h2=>by
  unfold eqPart
  rw[ha,z0,z46,h1,z0,h2,z0];exact he x y
 show eqL P (Op.maxDepth - 1+1) t _ _=_
 unfold eqL
 rw[hu]
 show ob (szOf P e) _=_
 rw[hs,z0]
 show andO (eqPart P (eqL P (Op.maxDepth - 1)) e 0 [I a,I b] [I c,I d]) (andO (eqPart P (eqL P (Op.maxDepth - 1)) e 1 [I a,I b] [I c,I d]) (some true))=_
 rw[hp 0 _ _ a c rfl rfl,hp 1 _ _ b d rfl rfl]
 unfold andO
 rw[z0,z0]
 by_cases h1:a=c<;>by_cases h2:b=d<;>simp[h1,h2,ifb]
theorem zmv(a b c d:Int):eqL Tryz.prog Op.maxDepth 114 (.agg [I a,I b]) (.agg [I c,I d])=some (decide (a=c) && decide (b=d)) :=
 zjr (e:=3) (by kernel_rfl) (by kernel_rfl) (by kernel_rfl) (by kernel_rfl) a b c d
theorem zli(a b:Ky):eqL Tryz.prog Op.maxDepth 114 (kyv a) (kyv b)=some (decide (a=b)):=by
 refine(zmv a.1 a.2 b.1 b.2).trans ?_
 by_cases h:a=b
 ·subst h;simp
 ·rw[decide_eq_false h]
  have:¬(a.1=b.1 /\ a.2=b.2):=fun⟨h1,h2⟩=>h (Prod.ext h1 h2)
  by_cases h1:a.1=b.1
  ·have h2:¬ a.2=b.2:=fun h2=>this ⟨h1,h2⟩
   simp[h2]
  ·simp[h1]
theorem zp0(a:Ky)(b:LV)(L:Mk):encK ((a,b) :: L)=(kyv a,b) :: encK L:=rfl
theorem z67{P:Program}{kt:TypeId}(heq:∀ a b:Ky,eqL P Op.maxDepth kt (kyv a) (kyv b)=some (decide (a=b)))(k a:Ky)(b:LV)(L:Mk)(i:Nat):findL P kt (kyv k) (encK ((a,b) :: L)) i=if k=a then some (some (i,kyv a,b)) else findL P kt (kyv k) (encK L) (i+1):=by
 rw[zp0]
 generalize encK L=es
 have hk:=heq k a
 generalize kyv k=kv at *
 generalize kyv a=av at *
 show ob (eqL P Op.maxDepth kt kv av) (fun b'=>ifb b' (some (some (i,av,b))) (findL P kt kv es (i+1)))=_
 rw[hk,z0]
 by_cases hab:k=a
 ·rw[decide_eq_true hab,zg,if_pos hab]
 ·rw[decide_eq_false hab,za,if_neg hab]
theorem z7r{P:Program}{kt:TypeId}(heq:∀ a b:Ky,eqL P Op.maxDepth kt (kyv a) (kyv b)=some (decide (a=b)))(k:Ky):∀(L:Mk) (i:Nat),lkM L k=none->findL P kt (kyv k) (encK L) i=some none /\ ∀ v,encK L ++ [(kyv k,v)]=encK (stV L k v)
 | [],i,_=>⟨rfl,fun v=>rfl⟩
 |(a,b) :: L,i,h=>by
  rw[zk0] at h
  by_cases hka:k=a
  ·rw[if_pos hka] at h;cases h
  ·rw[if_neg hka] at h
   obtain⟨h1,h2⟩:=z7r heq k L (i+1) h
   constructor
   ·rw[z67 heq,if_neg hka,h1]
   ·intro v
    rw[zfx,if_neg hka]
    show(kyv a,b) ::(encK L ++ [(kyv k,v)])=(kyv a,b) :: encK (stV L k v)
    rw[h2 v]
theorem z7s{P:Program}{kt:TypeId}(heq:∀ a b:Ky,eqL P Op.maxDepth kt (kyv a) (kyv b)=some (decide (a=b)))(k:Ky):∀(L:Mk) (i:Nat) (b:LV),lkM L k=some b->∃ j,findL P kt (kyv k) (encK L) i=some (some (i+j,kyv k,b)) /\ ∀ v,setVal (encK L) j (kyv k) v=encK (stV L k v)
 | [],i,b,h=>by cases h
 |(a,c) :: L,i,b,h=>by
  rw[zk0] at h
  by_cases hka:k=a
  ·rw[if_pos hka] at h
   obtain rfl:=Option.some.inj h
   subst hka
   refine⟨0,?_,fun v=>?_⟩
   ·rw[z67 heq,if_pos rfl,Nat.add_zero]
   ·rw[zfx,if_pos rfl];rfl
  ·rw[if_neg hka] at h
   obtain⟨j,h1,h2⟩:=z7s heq k L (i+1) b h
   refine⟨j+1,?_,fun v=>?_⟩
   ·rw[z67 heq,if_neg hka,h1,Nat.add_assoc,Nat.add_comm 1 j]
   ·rw[zfx,if_neg hka]
    show(kyv a,c) :: setVal (encK L) j (kyv k) v=(kyv a,c) :: encK (stV L k v)
    rw[h2 v]
theorem z9a(k:Ky)(L:Mk)(i:Nat)(h:lkM L k=none):findL Tryz.prog 114 (kyv k) (encK L) i=some none /\ ∀ v,encK L ++ [(kyv k,v)]=encK (stV L k v):=z7r zli k L i h
theorem z9b(k:Ky)(L:Mk)(i:Nat)(b:LV)(h:lkM L k=some b):∃ j,findL Tryz.prog 114 (kyv k) (encK L) i=some (some (i+j,kyv k,b)) /\ ∀ v,setVal (encK L) j (kyv k) v=encK (stV L k v):=z7s zli k L i b h
theorem zhc(k:Ky):keyOk Tryz.prog 10000 114 (kyv k)=true:=by kernel_rfl
structure StOk (bs:List Nat) (clk n:Nat):Prop where
 len:bs.length=n
 nodup:bs.Nodup
 lt:∀ b ∈ bs,b < clk
def SlV(M:Mem)(v:LV)(l:List Int):Prop:=∃ a f e,v=.slice a l.length f e /\ (l ≠ []->e=1) /\ SlI M a l
inductive RkL (M:Mem):Mk->Rk->Prop
 | nil:RkL M [] []
 | cons {k:Ky} {v:LV} {l:List Int} {L:Mk} {R:Rk} (h:SlV M v l) (h':RkL M L R):RkL M ((k,v) :: L) ((k,l) :: R)
def RkM(M:Mem)(r:Nat)(R:Rk):Prop:=∃ L bs clk,At M r (.map (encK L) bs clk) /\ StOk bs clk L.length /\ RkL M L R
variable {M M':Mem} {L:Mk} {R:Rk} {r:Nat} {k:Ky}
theorem SlV.grow{v:LV}{l:List Int}(h:SlV M v l)(hg:Grow M M'):SlV M' v l:=by
 obtain⟨a,f,e,h1,h0,h2⟩:=h
 exact⟨a,f,e,h1,h0,h2.grow hg⟩
theorem SlV.nil:SlV M zsl []:=⟨none,true,0,rfl,fun h=>absurd rfl h,.inl rfl⟩
theorem SlV.vec{b:Nat}{ty:TypeId}{v:LV}{l:List Int}(h:Vec b 1 ty intc M v l):SlV M v l:=by
 rcases h with⟨rfl,rfl⟩|⟨i,rfl,h2,h3⟩
 ·exact SlV.nil
 ·exact⟨_,_,_,rfl,fun _=>rfl,.inr ⟨i,0,rfl,fun k hk=>z9w (z1v (enc:=intc) h2 (fun _ _=>rfl) hk)⟩⟩
theorem RkL.grow(h:RkL M L R)(hg:Grow M M'):RkL M' L R:=by
 induction h with
 | nil=>exact .nil
 | cons h _ ih=>exact .cons (h.grow hg) ih
theorem RkL.len(h:RkL M L R):L.length=R.length:=by
 induction h with
 | nil=>rfl
 | cons h _ ih=>simp[ih]
theorem RkL.keys(h:RkL M L R):L.map (·.1)=R.map (·.1):=by
 induction h with
 | nil=>rfl
 | cons h _ ih=>simp[ih]
theorem RkL.look(h:RkL M L R)(k:Ky):SlV M ((lkM L k).getD zsl) ((lkK R k).getD []):=by
 induction h with
 | nil=>exact SlV.nil
 | @cons k' v l L R h _ ih =>
  rw[zk0]
  show SlV M _ ((if k=k' then some l else lkK R k).getD [])
  by_cases hk:k=k'
  ·rw[if_pos hk,if_pos hk];exact h
  ·rw[if_neg hk,if_neg hk];exact ih
theorem RkL.put(h:RkL M L R)(k:Ky){v:LV}{l:List Int}(hv:SlV M v l):RkL M (stV L k v) (stK R k l):=by
 induction h with
 | nil=>exact .cons hv .nil
 | @cons k' v' l' L R h hL ih =>
  rw[zfx]
  show RkL M _ (if k=k' then(k,l) :: R else(k',l') :: stK R k l)
  by_cases hk:k=k'
  ·rw[if_pos hk,if_pos hk];exact .cons hv hL
  ·rw[if_neg hk,if_neg hk];exact .cons h ih
theorem RkM.lt(h:RkM M r R):r < M.next:=by
 obtain⟨L,bs,clk,h1,h2,h3⟩:=h
 exact h1.2
theorem Rd1.updm{i o:Nat}{v:LV}{es es':List (LV × LV)}{bs bs':List Nat}{c c':Nat}(h:Rd1 M i o v)(hm:At M r (.map es bs c))(hu:Upd M r (.map es' bs' c') M'):Rd1 M' i o v:=by
 refine Rd1.upd_ne hu (fun e=>?_) h
 subst e
 have h1:=h.1
 unfold load1 atCells at h1
 rw[hm.1] at h1
 cases h1
theorem SlV.updm{v:LV}{l:List Int}{es es':List (LV × LV)}{bs bs':List Nat}{c c':Nat}(h:SlV M v l)(hm:At M r (.map es bs c))(hu:Upd M r (.map es' bs' c') M'):SlV M' v l:=by
 obtain⟨a,f,e,h1,h0,h2⟩:=h
 exact⟨a,f,e,h1,h0,h2.imp id fun⟨i,o,h3,h4⟩=>⟨i,o,h3,fun k hk=>Rd1.updm (h4 k hk) hm hu⟩⟩
theorem RkL.updm{es es':List (LV × LV)}{bs bs':List Nat}{c c':Nat}(h:RkL M L R)(hm:At M r (.map es bs c))(hu:Upd M r (.map es' bs' c') M'):RkL M' L R:=by
 induction h with
 | nil=>exact .nil
 | cons h _ ih=>exact .cons (h.updm hm hu) ih
variable {E:Env} {x y z':XO}
theorem zhm{bs:List Nat}{clk:Nat}(hm:At M r (.map (encK L) bs clk))(hx:xval E x=some (.map (some r)))(hy:xval E y=some (kyv k)):zf Tryz.prog (.lkp 114 zsl false x y) E M=some (.val ((lkM L k).getD zsl) M):=by
 show ob (xval E x) _=_
 rw[hx,z0,hy,z0,zhc,z6]
 show atMap M r _=_
 unfold atMap
 rw[hm.1,z0]
 show ob (findL Tryz.prog 114 (kyv k) (encK L) 0) _=_
 cases hl:lkM L k with
 | none=>rw[(z9a k L 0 hl).1];rfl
 | some b =>
  obtain⟨j,h1,_⟩:=z9b k L 0 b hl
  rw[h1];rfl
theorem zie(L:Mk)(k:Ky)(v:LV):(stV L k v).length=if (lkM L k).isSome then L.length else L.length+1:=by
 induction L with
 | nil=>rfl
 | cons p L ih =>
  obtain⟨a,b⟩:=p
  rw[zfx,zk0]
  by_cases h:k=a
  ·rw[if_pos h,if_pos h];rfl
  ·rw[if_neg h,if_neg h,List.length_cons,ih]
   split<;>simp
theorem ziv{P:Program}{es:List (LV × LV)}{bs:List Nat}{clk:Nat}(hx:xval E x=some (.map (some r)))(hm:At M r (.map es bs clk)):zf P (.len .map x) E M=some (.val (I es.length) M):=by
 show ob (xval E x) _=_
 rw[hx,z0]
 show ob (atMap M r fun es _ _=>mkN es.length) _=_
 unfold atMap
 rw[hm.1]
 show ob (mkN es.length) (rv M)=_
 unfold mkN
 rw[z1g];rfl
theorem zan{seen:List Nat}:∀ {bs:List Nat} {es:List (LV × LV)} {b:Nat} {kk v:LV},(b,kk,v) ∈ leftL seen bs es->∃ i:Nat,bs[i]?=some b /\ es[i]?=some (kk,v) /\ b ∉ seen
 | [],_,_,_,_,h=>nomatch h
 | c :: bs,[],_,_,_,h=>nomatch h
 | c :: bs,e :: es,b,kk,v,h=>by
  have h:(b,kk,v) ∈ ifb (memN c seen) (leftL seen bs es) ((c,e) :: leftL seen bs es):=h
  cases hm:memN c seen with
  | true =>
   rw[hm,zg] at h
   obtain⟨i,h1,h2,h3⟩:=zan h
   exact⟨i+1,h1,h2,h3⟩
  | false =>
   rw[hm,za] at h
   rcases List.mem_cons.1 h with h|h
   ·cases h
    exact⟨0,rfl,rfl,fun hh=>by rw[z89.2 hh] at hm;cases hm⟩
   ·obtain⟨i,h1,h2,h3⟩:=zan h
    exact⟨i+1,h1,h2,h3⟩
theorem zeh{seen:List Nat}:∀ {bs:List Nat} {es:List (LV × LV)},leftL seen bs es=[]->bs.length=es.length->∀ b ∈ bs,b ∈ seen
 | [],_,_,_,b,hb=>nomatch hb
 | c :: bs,[],_,hl,_,_=>by simp at hl
 | c :: bs,e :: es,h,hl,b,hb=>by
  have h:ifb (memN c seen) (leftL seen bs es) ((c,e) :: leftL seen bs es)=[]:=h
  cases hm:memN c seen with
  | false=>rw[hm,za] at h;cases h
  | true =>
   rw[hm,zg] at h
   rcases List.mem_cons.1 hb with rfl|hb
   ·exact z89.1 hm
   ·exact zeh h (by simpa using hl) b hb
theorem zcr{n:Nat}:∀ {bs:List Nat} {es:List (LV × LV)} {i:Nat} {e:LV × LV},bs.Nodup->bs[i]?=some n->es[i]?=some e->stampL n bs es=some e
 | [],_,i,_,_,h,_=>by simp at h
 | c :: bs,[],i,_,_,_,h=>by simp at h
 | c :: bs,f :: es,0,e,hn,h1,h2=>by
  obtain rfl:c=n:=by simpa using h1
  obtain rfl:f=e:=by simpa using h2
  show ifb (Nat.beq c c) (some f) _=_
  rw[show Nat.beq c c=true by simp];rfl
 | c :: bs,f :: es,i+1,e,hn,h1,h2=>by
  have hn':=List.nodup_cons.1 hn
  have hne:¬ c=n:=by
   rintro rfl
   exact hn'.1 (List.mem_of_getElem? (i:=i) (by simpa using h1))
  show ifb (Nat.beq c n) (some f) (stampL n bs es)=_
  rw[show Nat.beq c n=false by cases hb:Nat.beq c n;rfl;exact absurd (Nat.eq_of_beq_eq_true hb) hne,za]
  exact zcr hn'.2 (by simpa using h1) (by simpa using h2)
theorem zdx{n:Nat}:∀ {l:List Nat},(∀ x ∈ l,x < n)->allLt n l=true
 | [],_=>rfl
 | x :: l,h=>by
  show ifb (Nat.ble (Nat.succ x) n) (allLt n l) false=true
  rw[Nat.ble_eq_true_of_le (h x (by simp)),zg]
  exact zdx fun y hy=>h y (by simp[hy])
theorem za7{n x:Nat}:∀ {l:List Nat},x ∈ l->x < n->anyLt n l=true
 | [],h,_=>nomatch h
 | y :: l,h,hx=>by
  show ifb (Nat.ble (Nat.succ y) n) true (anyLt n l)=true
  cases hb:Nat.ble (Nat.succ y) n with
  | true=>rfl
  | false =>
   rw[za]
   rcases List.mem_cons.1 h with rfl|h
   ·rw[Nat.ble_eq_true_of_le hx] at hb;cases hb
   ·exact za7 h hx
end Go.Proofs.YtbfnnllgdioccaaGreatDoor.C
end
section
open Go PvL
set_option linter.unusedSimpArgs false
set_option linter.unusedVariables false
namespace Go.Proofs.YtbfnnllgdioccaaGreatDoor.C
def PL(a b i j:Nat)(G:Nat->Ky):Prop:=a < i /\ i<=j+1 /\ j < b /\ (∀ p,a < p->p < i->klt (G p) (G a)) /\ ∀ p,j < p->p < b->¬ klt (G p) (G a)
theorem PL.start{a b:Nat}{G:Nat->Ky}(h:a < b):PL a b (a+1) (b - 1) G:=⟨by omega,by omega,by omega,fun p h1 h2=>by omega,fun p h1 h2=>by omega⟩
theorem PL.up{a b i j:Nat}{G:Nat->Ky}(h:PL a b i j G)(hij:i<=j)(hl:klt (G i) (G a)):PL a b (i+1) j G :=
 ⟨by have:=h.1;omega,by omega,h.2.2.1,fun p h1 h2=>by
  by_cases hp:p=i
  ·subst hp;exact hl
  ·exact h.2.2.2.1 p h1 (by omega),h.2.2.2.2⟩
theorem PL.down{a b i j:Nat}{G:Nat->Ky}(h:PL a b i (j+1) G)(hij:i<=j+1)(hl:¬ klt (G (j+1)) (G a)):PL a b i j G :=
 ⟨h.1,hij,by have:=h.2.2.1;omega,h.2.2.2.1,fun p h1 h2=>by
  by_cases hp:p=j+1
  ·subst hp;exact hl
  ·exact h.2.2.2.2 p (by omega) h2⟩
theorem PL.swap{a b i j:Nat}{G:Nat->Ky}(h:PL a b i j G)(hij:i<=j)(h1:¬ klt (G i) (G a))(h2:klt (G j) (G a)):i < j /\ PL a b (i+1) (j - 1) (sw G i j):=by
 have hne:i ≠ j:=by rintro rfl;exact h1 h2
 have hai:=h.1
 have ha:sw G i j a=G a:=z4l (by omega) (by omega)
 refine⟨by omega,by omega,by omega,by have:=h.2.2.1;omega,fun p h3 h4=>?_,fun p h3 h4=>?_⟩
 ·rw[ha]
  by_cases hp:p=i
  ·subst hp;rw[sw_i];exact h2
  ·rw[z4l hp (by omega)];exact h.2.2.2.1 p h3 (by omega)
 ·rw[ha]
  by_cases hp:p=j
  ·subst hp;rw[sw_j];exact h1
  ·rw[z4l (by omega) hp];exact h.2.2.2.2 p (by omega) h4
def Parted(a b m:Nat)(G:Nat->Ky):Prop:=a<=m /\ m < b /\ (∀ p,a<=p->p < m->klt (G p) (G m)) /\ ∀ p,m < p->p < b->¬ klt (G p) (G m)
theorem PL.done{a b i j:Nat}{G:Nat->Ky}(h:PL a b i j G)(hij:j < i):Parted a b j (sw G j a):=by
 obtain⟨h1,h2,h3,h4,h5⟩:=h
 refine⟨by omega,h3,fun p g1 g2=>?_,fun p g1 g2=>?_⟩
 ·rw[sw_i]
  by_cases hp:p=a
  ·subst hp;rw[sw_j];exact h4 j (by omega) (by omega)
  ·rw[z4l (by omega) hp];exact h4 p (by omega) (by omega)
 ·rw[sw_i,z4l (by omega) (by omega)]
  exact h5 p g1 g2
def Lo(a b:Nat)(G:Nat->Ky):Prop:=a=0 ∨ ∀ t,a<=t->t < b->klt (G (a - 1)) (G t)
theorem Lo.sub{a b b':Nat}{G:Nat->Ky}(h:Lo a b G)(hb:b'<=b):Lo a b' G:=h.elim .inl fun h=>.inr fun t h1 h2=>h t h1 (by omega)
theorem Lo.sw{a b a' b':Nat}{G G':Nat->Ky}(h:Lo a b G)(hw:Sw a' b' G G')(ha:a<=a')(hb:b'<=b):Lo a b G':=by
 rcases h with h|h
 ·exact .inl h
 by_cases ha0:a=0
 ·exact .inl ha0
 refine .inr ?_
 rw[hw.out (t:=a - 1) (by omega)]
 exact(hw.wider ha hb).all (p:=fun k=>klt (G (a - 1)) k) h
def Out(a b a' b':Nat)(G:Nat->Ky):Prop:=∀ x y,a<=x->x < y->y < b->(x < a' ∨ b'<=y)->¬ klt (G y) (G x)
theorem Out.start{a b:Nat}{G:Nat->Ky}:Out a b a b G:=fun x y h1 h2 h3 h4=>by omega
theorem Out.sw{a b a' b':Nat}{G G':Nat->Ky}(h:Out a b a' b' G)(hw:Sw a' b' G G')(ha:a<=a')(hb:b'<=b):Out a b a' b' G':=by
 intro x y h1 h2 h3 h4
 by_cases hx:x < a' ∨ b'<=x
 ·rw[hw.out hx]
  by_cases hy:y < a' ∨ b'<=y
  ·rw[hw.out hy];exact h x y h1 h2 h3 h4
  ·exact hw.all (p:=fun k=>¬ klt k (G x)) (fun t h5 h6=>h x t h1 (by omega) (by omega) (by omega)) y (by omega) (by omega)
 ·rw[hw.out (t:=y) (by omega)]
  exact hw.all (p:=fun k=>¬ klt (G y) k) (fun t h5 h6=>h t y (by omega) (by omega) h3 (by omega)) x (by omega) (by omega)
theorem Out.fin{a b a' b':Nat}{G:Nat->Ky}(h:Out a b a' b' G)(hs:Srt a' b' G):Srt a b G:=fun x y h1 h2 h3=>by
 by_cases hx:x < a' ∨ b'<=y
 ·exact h x y h1 h2 h3 hx
 ·exact hs x y (by omega) h2 (by omega)
theorem Parted.sw{a b m:Nat}{G G':Nat->Ky}(h:Parted a b m G){a' b':Nat}(hw:Sw a' b' G G')(hr:(a<=a' /\ b'<=m) ∨(m+1<=a' /\ b'<=b)):Parted a b m G':=by
 obtain⟨h1,h2,h3,h4⟩:=h
 refine⟨h1,h2,?_,?_⟩
 ·intro p g1 g2
  rw[hw.out (t:=m) (by omega)]
  rcases hr with hr|hr
  ·exact(hw.wider hr.1 hr.2).all (p:=fun k=>klt k (G m)) h3 p g1 g2
  ·rw[hw.out (t:=p) (by omega)];exact h3 p g1 g2
 ·intro p g1 g2
  rw[hw.out (t:=m) (by omega)]
  rcases hr with hr|hr
  ·rw[hw.out (t:=p) (by omega)];exact h4 p g1 g2
  ·exact(hw.wider hr.1 hr.2).all (p:=fun k=>¬ klt k (G m)) (fun t g1 g2=>h4 t (by omega) g2) p (by omega) g2
theorem Out.left{a b a' b' m:Nat}{G G':Nat->Ky}(h:Out a b a' b' G)(hp:Parted a' b' m G)(hw:Sw a' m G G')(hs:Srt a' m G')(ha:a<=a')(hb:b'<=b):Out a b (m+1) b' G':=by
 have hm:=hp.1
 have hm2:=hp.2.1
 have hp':=hp.sw hw (.inl ⟨Nat.le_refl _,Nat.le_refl _⟩)
 have h':=h.sw (hw.wider (Nat.le_refl _) (by omega)) ha hb
 obtain⟨-,-,q3,q4⟩:=hp'
 intro x y h1 h2 h3 h4
 by_cases hx:x < a' ∨ b'<=y
 ·exact h' x y h1 h2 h3 hx
 have hxm:x<=m:=by omega
 by_cases hxe:x=m
 ·subst hxe;exact q4 y h2 (by omega)
 by_cases hy:y < m
 ·exact hs x y (by omega) h2 hy
 by_cases hye:y=m
 ·subst hye;exact z82 (q3 x (by omega) (by omega))
 ·exact fun hk=>q4 y (by omega) (by omega) (z5j hk (q3 x (by omega) (by omega)))
theorem Out.right{a b a' b' m:Nat}{G G':Nat->Ky}(h:Out a b a' b' G)(hp:Parted a' b' m G)(hw:Sw (m+1) b' G G')(hs:Srt (m+1) b' G')(ha:a<=a')(hb:b'<=b):Out a b a' m G':=by
 have hm:=hp.1
 have hm2:=hp.2.1
 have hp':=hp.sw hw (.inr ⟨Nat.le_refl _,Nat.le_refl _⟩)
 have h':=h.sw (hw.wider (by omega) (Nat.le_refl _)) ha hb
 obtain⟨-,-,q3,q4⟩:=hp'
 intro x y h1 h2 h3 h4
 by_cases hx:x < a' ∨ b'<=y
 ·exact h' x y h1 h2 h3 hx
 have hym:m<=y:=by omega
 by_cases hxe:x=m
 ·subst hxe;exact q4 y h2 (by omega)
 by_cases hx2:m < x
 ·exact hs x y (by omega) h2 (by omega)
 by_cases hye:y=m
 ·subst hye;exact z82 (q3 x (by omega) (by omega))
 ·exact fun hk=>q4 y (by omega) (by omega) (z5j hk (q3 x (by omega) (by omega)))
theorem Parted.lo{a b m n:Nat}{G:Nat->Ky}(h:Parted a b m G)(hi:Inj n G)(hb:b<=n):Lo (m+1) b G:=.inr fun t h1 h2=>by
 rw[show m+1 - 1=m by omega]
 have h3:=h.2.2.2 t (by omega) h2
 have hm2:=h.2.1
 rcases zhf (a:=G m) (b:=G t) (fun e=>absurd (hi m t (by omega) (by omega) e) (by omega)) with h4|h4
 ·exact h4
 ·exact absurd h4 h3
theorem Srt.pre{a i:Nat}{G:Nat->Ky}(h:Srt a i G){j:Nat}(hj:j<=i):Srt a j G:=fun x y h1 h2 h3=>h x y h1 h2 (by omega)
theorem Srt.swr{a i b:Nat}{G G':Nat->Ky}(h:Srt a i G){a':Nat}(hw:Sw a' b G G')(ha:i<=a'):Srt a i G':=fun x y h1 h2 h3=>by
 rw[hw.out (t:=x) (by omega),hw.out (t:=y) (by omega)]
 exact h x y h1 h2 h3
end Go.Proofs.YtbfnnllgdioccaaGreatDoor.C
end
section
open Go PvL Go.Proofs
set_option linter.unusedSimpArgs false
set_option linter.unusedVariables false
namespace Go.Proofs.YtbfnnllgdioccaaGreatDoor.C
abbrev cf:LV:=.func (.func 68) [] []
abbrev KT(M:Mem)(p n:Nat)(ty:TypeId)(G:Nat->Ky):Prop:=At M p (.cells true (tabL kyc G n) ty)
theorem z0r{M:Mem}{p n k:Nat}{ty:TypeId}{G:Nat->Ky}(h:KT M p n ty G)(hk:k < n):Rd M p (0+k*2) 2 [I (G k).1,I (G k).2]:=znk (enc:=kyc) (fun _=>rfl) h hk
theorem z0i{n k:Nat}{G:Nat->Ky}(hk:k < n)(x:Ky):z0k (tabL kyc G n) (0+k*2) [I x.1,I x.2]=some (tabL kyc (fun t=>if t=k then x else G t) n):=by
 have:=zkl (enc:=kyc) (sz:=2) (G:=G) (G':=fun t=>if t=k then x else G t) (n:=n) (k:=k) (fun _=>rfl) (by omega) hk (fun i _ hi=>by simp[hi])
 simpa using this
set_option maxHeartbeats 4000000 in
theorem zqo{M:Mem}{p n a b:Nat}{f:Bool}{e:Nat}{ty:TypeId}{G:Nat->Ky}(hA:KT M p n ty G)(hb:b<=n)(hab:a<=b)(hn:n<=1000) :
  z9 Tryz.prog 186 [.slice (some (p,0)) n f e,I a,I b,cf] M (fun w M'=>∃ G',Sw a b G G' /\ Srt a b G' /\ KT M' p n ty G' /\ Keep (fun i=>i=p) M M'):=by
 refine zb k186 rfl ?_
 dsimp only[x186,zM,zO,zI,zF,zS,zB,zL,zE,zN,zW,zC,zipE,Nat.reduceAdd]
 repeat' first|with_reducible intro _|refine sv ?_|refine sc ?_ ?_<;>(intro h;try exact sz h)|refine sg ?_ ?_<;>(intro h;first|exact sz h|refine sy h ?_)|exact sq|fail
 refine z8 (fun z E ms M'=>∃(i:Nat) (G':Nat->Ky),z=b+1 - i /\ a+1<=i /\ (i<=b ∨ i=a+1) /\ ms=[] /\ Has E [(0,.slice (some (p,0)) n f e),(1,I a),(2,I b),(3,cf),(8,I i)] /\ Sw a b G G' /\ Srt a i G' /\ KT M' p n ty G' /\ Keep (fun i=>i=p) M M')
  ?_ (b+1 - (a+1)) _ _ _ ⟨a+1,G,rfl,by omega,.inr rfl,rfl,.cons rfl (.cons rfl (.cons rfl (.cons rfl (.cons rfl .nil)))),.refl,Srt.short (by omega),hA,Keep.refl _ _⟩
 rintro z E ms M1 ⟨i,G1,rfl,hi,hib,rfl,hE,hw1,hs1,hA1,hk1⟩
 refine zy hE ?_
 by_cases hlast:b<=i
 ·repeat' first|with_reducible intro _|refine sv ?_|refine sc ?_ ?_<;>(intro h;try exact sz h)|refine sg ?_ ?_<;>(intro h;first|exact sz h|refine sy h ?_)|exact sq|fail
  all_goals try(exfalso;omega)
  refine kf ?_
  exact⟨G1,hw1,fun x y h1 h2 h3=>hs1 x y h1 h2 (by omega),hA1,hk1⟩
 have hlt:i < b:=by omega
 repeat' first|with_reducible intro _|refine sv ?_|refine sc ?_ ?_<;>(intro h;try exact sz h)|refine sg ?_ ?_<;>(intro h;first|exact sz h|refine sy h ?_)|exact sq|fail
 all_goals try(exfalso;omega)
 refine z8 (fun z E ms M'=>∃(G':Nat->Ky),a<=z /\ z<=i /\ ms=[] /\ Has E [(0,.slice (some (p,0)) n f e),(1,I a),(2,I b),(3,cf),(8,I i),(9,I z)] /\ Sw a b G G' /\ Ins a (i+1) z G' /\ KT M' p n ty G' /\ Keep (fun i=>i=p) M M')
  ?_ i _ _ _ ⟨G1,by omega,Nat.le_refl _,rfl,.cons rfl (.cons rfl (.cons rfl (.cons rfl (.cons rfl (.cons rfl .nil))))),hw1,Ins.start hs1,hA1,hk1⟩
 rintro j E ms M2 ⟨G2,hj1,hj2,rfl,hE,hw2,hs2,hA2,hk2⟩
 refine zy hE ?_
 by_cases hja:j=a
 ·subst hja
  repeat' first|with_reducible intro _|refine sv ?_|refine sc ?_ ?_<;>(intro h;try exact sz h)|refine sg ?_ ?_<;>(intro h;first|exact sz h|refine sy h ?_)|exact sq|fail
  all_goals try(exfalso;omega)
  refine zd (b+1 - (i+1)) (by omega) ⟨i+1,G2,rfl,by omega,by omega,rfl,.cons rfl (.cons rfl (.cons rfl (.cons rfl (.cons rfl .nil)))),hw2,hs2.done (.inl (Nat.le_refl _)),hA2,hk2⟩
 obtain⟨j',rfl⟩:∃ j',j=j' + 1:=⟨j - 1,by omega⟩
 have hz:(((j' + 1:Nat):Int) - 1).toNat=j':=by omega
 have hr1:=z0r hA2 (show j' + 1 < n by omega)
 have hr2:=z0r hA2 (show j' < n by omega)
 rw[<-hz] at hr2
 rw[hz] at hr2
 have hr3:Rd M2 p (0+(((j' + 1:Nat):Int) - 1).toNat*2) 2 [I (G2 j').1,I (G2 j').2]:=by rw[hz];exact hr2
 have co:=fun M'=>z1q (G2 (j' + 1)).1 (G2 (j' + 1)).2 (G2 j').1 (G2 j').2 M'
 have hlt9:=z0m (G2 (j' + 1)) (G2 j')
 (have hrd0:=hr1;have hrd1:=hr3;repeat' (first|(with_reducible intro _)|refine sv ?_|(refine sc ?_ ?_<;>(intro h;try exact sz h))|((with_reducible first|apply z0g|apply z0h|apply d_pure0);exact gd;exact rfl;exact rfl;(first|exact co _))|refine sg ?_ ?_<;>(intro h;first|exact sz h|refine sy h ?_)|exact sq|fail))
 ·rename_i hgt M5 hg5 q5
  have hA5:KT M5 p n ty G2:=hA2.grow hg5
  refine d_st (by exact gd) rfl rfl hA5 rfl rfl (z0i (by omega) (G2 j')) ?_
  intro M6 hU6 e6 hA6
  repeat' first|with_reducible intro _|refine sv ?_|refine sc ?_ ?_<;>(intro h;try exact sz h)|refine sg ?_ ?_<;>(intro h;first|exact sz h|refine sy h ?_)|exact sq|fail
  refine d_st (by exact gd) rfl rfl hA6 rfl rfl (by rw[hz];exact z0i (by omega) (G2 (j' + 1))) ?_
  intro M7 hU7 e7 hA7
  have hk7:Keep (fun i=>i=p) M M7:=xk
  have hlt8:=hlt9.1 h
  repeat' first|with_reducible intro _|refine sv ?_|refine sc ?_ ?_<;>(intro h;try exact sz h)|refine sg ?_ ?_<;>(intro h;first|exact sz h|refine sy h ?_)|exact sq|fail
  refine zd j' (by omega) ⟨sw G2 (j' + 1) j',by omega,by omega,rfl,.cons rfl (.cons rfl (.cons rfl (.cons rfl (.cons rfl (.cons ?_ .nil))))),.step hw2 (by omega) (by omega) (by omega) (by omega),hs2.step (by omega) hlt8,hA7,hk7⟩
  show some (I _)=some (I _)
  rw[show((j' + 1:Nat):Int) - 1=j' by omega]
 ·rename_i hgt M5 hg5 q5
  have hA5:KT M5 p n ty G2:=hA2.grow hg5
  have hk5:Keep (fun i=>i=p) M M5:=xk
  refine zd (b+1 - (i+1)) (by omega) ⟨i+1,G2,rfl,by omega,by omega,rfl,.cons rfl (.cons rfl (.cons rfl (.cons rfl (.cons rfl .nil)))),hw2,hs2.done (.inr (fun hk=>absurd (hlt9.2 hk) (Int.not_lt.2 h))),hA5,hk5⟩
set_option maxHeartbeats 16000000 in
theorem zqq{M:Mem}{p n a b:Nat}{f:Bool}{e:Nat}{ty:TypeId}{G:Nat->Ky}(hA:KT M p n ty G)(hb:b<=n)(hab:a < b)(hn:n<=1000)(hlo:Lo a b G) :
  z9 Tryz.prog 191 [.slice (some (p,0)) n f e,I a,I b,cf] M (fun w M'=>∃(q:Bool) (G':Nat->Ky),w=.bool q /\ (q=true->Srt a b G') /\ Sw a b G G' /\ KT M' p n ty G' /\ Keep (fun i=>i=p) M M'):=by
 refine zb k191 rfl ?_
 dsimp only[x191,zM,zO,zI,zF,zS,zB,zL,zE,zN,zW,zC,zipE,Nat.reduceAdd]
 repeat' first|with_reducible intro _|refine sv ?_|refine sc ?_ ?_<;>(intro h;try exact sz h)|refine sg ?_ ?_<;>(intro h;first|exact sz h|refine sy h ?_)|exact sq|fail
 refine z8 (fun z E ms M'=>∃(s i:Nat) (G':Nat->Ky),z=5 - s /\ s<=5 /\ a < i /\ i<=b /\ ms=[] /\ Has E [(0,.slice (some (p,0)) n f e),(1,I a),(2,I b),(3,cf),(9,I i),(10,I s)] /\ Sw a b G G' /\ Srt a i G' /\ KT M' p n ty G' /\ Keep (fun i=>i=p) M M')
  ?_ 5 _ _ _ ⟨0,a+1,G,rfl,by omega,by omega,by omega,rfl,.cons rfl (.cons rfl (.cons rfl (.cons rfl (.cons rfl (.cons rfl .nil))))),.refl,Srt.short (by omega),hA,Keep.refl _ _⟩
 rintro z E ms M1 ⟨s,i0,G1,rfl,hs5,hi0,hib0,rfl,hE,hw1,hs1,hA1,hk1⟩
 refine zy hE ?_
 by_cases hlast:s=5
 ·subst hlast
  repeat' first|with_reducible intro _|refine sv ?_|refine sc ?_ ?_<;>(intro h;try exact sz h)|refine sg ?_ ?_<;>(intro h;first|exact sz h|refine sy h ?_)|exact sq|fail
  all_goals try(exfalso;omega)
  refine kf ?_
  exact⟨false,G1,rfl,fun h=>(by cases h),hw1,hA1,hk1⟩
 have hs6:s < 5:=by omega
 repeat' first|with_reducible intro _|refine sv ?_|refine sc ?_ ?_<;>(intro h;try exact sz h)|refine sg ?_ ?_<;>(intro h;first|exact sz h|refine sy h ?_)|exact sq|fail
 all_goals try(exfalso;omega)
 refine z24 (K:=fun x E ms M'=>x=.exit 2 /\ ms=[] /\ ∃ i,a < i /\ i<=b /\ (i=b ∨ klt (G1 i) (G1 (i - 1))) /\ Srt a i G1 /\ Has E [(0,.slice (some (p,0)) n f e),(1,I a),(2,I b),(3,cf),(9,I i),(10,I s)] /\ KT M' p n ty G1 /\ Keep (fun i=>i=p) M M') ?_ ?_
 ·refine z8 (fun z E ms M'=>∃ i,z=b - i /\ a < i /\ i<=b /\ Srt a i G1 /\ ms=[] /\ Has E [(0,.slice (some (p,0)) n f e),(1,I a),(2,I b),(3,cf),(9,I i),(10,I s)] /\ KT M' p n ty G1 /\ Keep (fun i=>i=p) M M')
   ?_ (b - i0) _ _ _ ⟨i0,rfl,hi0,hib0,hs1,rfl,.cons rfl (.cons rfl (.cons rfl (.cons rfl (.cons rfl (.cons rfl .nil))))),hA1,hk1⟩
  rintro z E ms M2 ⟨i,rfl,hi,hib,hs2,rfl,hE,hA2,hk2⟩
  refine zy hE ?_
  by_cases hib2:i=b
  ·subst hib2
   repeat' first|with_reducible intro _|refine sv ?_|refine sc ?_ ?_<;>(intro h;try exact sz h)|refine sg ?_ ?_<;>(intro h;first|exact sz h|refine sy h ?_)|exact sq|fail
   all_goals try(exfalso;omega)
   exact⟨rfl,rfl,i,hi,hib,.inl rfl,hs2,.cons rfl (.cons rfl (.cons rfl (.cons rfl (.cons rfl (.cons rfl .nil))))),hA2,hk2⟩
  obtain⟨i',rfl⟩:∃ i',i=i' + 1:=⟨i - 1,by omega⟩
  have hz:(((i' + 1:Nat):Int) - 1).toNat=i':=by omega
  have hr1:=z0r hA2 (show i' + 1 < n by omega)
  have hr2:=z0r hA2 (show i' < n by omega)
  have hr3:Rd M2 p (0+(((i' + 1:Nat):Int) - 1).toNat*2) 2 [I (G1 i').1,I (G1 i').2]:=by rw[hz];exact hr2
  have co:=fun M'=>z1q (G1 (i' + 1)).1 (G1 (i' + 1)).2 (G1 i').1 (G1 i').2 M'
  have hlt9:=z0m (G1 (i' + 1)) (G1 i')
  (have hrd0:=hr1;have hrd1:=hr3;repeat' (first|(with_reducible intro _)|refine sv ?_|(refine sc ?_ ?_<;>(intro h;try exact sz h))|((with_reducible first|apply z0g|apply z0h|apply d_pure0);exact gd;exact rfl;exact rfl;(first|exact co _))|refine sg ?_ ?_<;>(intro h;first|exact sz h|refine sy h ?_)|exact sq|fail))
  all_goals try(exfalso;omega)
  ·rename_i hx M5 hg5 q5
   have hk5:Keep (fun i=>i=p) M M5:=xk
   refine zd (b - (i' + 1+1)) (by omega) ⟨i' + 1+1,rfl,by omega,by omega,?_,rfl,.cons rfl (.cons rfl (.cons rfl (.cons rfl (.cons rfl (.cons rfl .nil))))),hA2.grow hg5,hk5⟩
   exact(Ins.start hs2).done (.inr (fun hk=>absurd (hlt9.2 hk) (Int.not_lt.2 h)))
  ·rename_i hx M5 hg5 q5
   have hk5:Keep (fun i=>i=p) M M5:=xk
   exact⟨rfl,rfl,i' + 1,hi,hib,.inr (hlt9.1 h),hs2,.cons rfl (.cons rfl (.cons rfl (.cons rfl (.cons rfl (.cons rfl .nil))))),hA2.grow hg5,hk5⟩
 rintro x E ms M10 ⟨rfl,rfl,i,hi,hib,hst,hs2,hE,hA2,hk2⟩
 apply z0x
 apply z3j
 refine zy hE ?_
 by_cases hib2:i=b
 ·subst hib2
  repeat' first|with_reducible intro _|refine sv ?_|refine sc ?_ ?_<;>(intro h;try exact sz h)|refine sg ?_ ?_<;>(intro h;first|exact sz h|refine sy h ?_)|exact sq|fail
  all_goals try(exfalso;omega)
  refine kf ?_
  exact⟨true,G1,rfl,fun _=>hs2,hw1,hA2,hk2⟩
 have hib3:i < b:=by omega
 have hst:=hst.resolve_left hib2
 obtain⟨i',rfl⟩:∃ i',i=i' + 1:=⟨i - 1,by omega⟩
 have hst:klt (G1 (i' + 1)) (G1 i'):=hst
 have hz:(((i' + 1:Nat):Int) - 1).toNat=i':=by omega
 have hr1:=z0r hA2 (show i' + 1 < n by omega)
 have hr2:=z0r hA2 (show i' < n by omega)
 have hr3:Rd M10 p (0+(((i' + 1:Nat):Int) - 1).toNat*2) 2 [I (G1 i').1,I (G1 i').2]:=by rw[hz];exact hr2
 (have hrd0:=hr1;have hrd1:=hr3;repeat' (first|(with_reducible intro _)|refine sv ?_|(refine sc ?_ ?_<;>(intro h;try exact sz h))|refine sg ?_ ?_<;>(intro h;first|exact sz h|refine sy h ?_)|exact sq|fail))
 all_goals try(exfalso;omega)
 ·refine kf ?_
  exact⟨false,G1,rfl,fun h=>(by cases h),hw1,hA2,hk2⟩
 refine d_st (by exact gd) rfl rfl hA2 rfl rfl (z0i (by omega) (G1 i')) ?_
 intro M6 hU6 e6 hA6
 repeat' first|with_reducible intro _|refine sv ?_|refine sc ?_ ?_<;>(intro h;try exact sz h)|refine sg ?_ ?_<;>(intro h;first|exact sz h|refine sy h ?_)|exact sq|fail
 refine d_st (by exact gd) rfl rfl hA6 rfl rfl (by rw[hz];exact z0i (by omega) (G1 (i' + 1))) ?_
 intro M7 hU7 e7 hA7
 have hk7:Keep (fun i=>i=p) M M7:=xk
 have hw7:Sw a b G (sw G1 (i' + 1) i'):=.step hw1 (by omega) (by omega) (by omega) (by omega)
 have hA7:KT M7 p n ty (sw G1 (i' + 1) i'):=hA7
 have hs7:Srt a i' (sw G1 (i' + 1) i'):=(hs2.pre (by omega:i'<=i' + 1)).swr (a':=i') (b:=b) (.one (by omega) (by omega) (by omega) (by omega)) (Nat.le_refl _)
 have hlo7:=hlo.sw hw7 (Nat.le_refl _) (Nat.le_refl _)
 generalize sw G1 (i' + 1) i'=G7 at *
 refine zlf (by exact ox) ?_
 clear hr1 hr2 hr3 hA2 hk2 hU6 e6 hA6 hU7 e7 hA1 hk1 hs1 hs2 hst hi0
 apply z3j
 apply z6i
 refine z24 (K:=fun x E ms M'=>x=.norm /\ ms=[] /\ ∃ G',Sw a b G G' /\ Srt a (i' + 1) G' /\ Has E [(0,.slice (some (p,0)) n f e),(1,I a),(2,I b),(3,cf),(9,I ((i' + 1:Nat):Int)),(10,I s)] /\ KT M' p n ty G' /\ Keep (fun i=>i=p) M M') ?_ ?_
 ·by_cases hia:i'=a
  ·subst hia
   repeat' first|with_reducible intro _|refine sv ?_|refine sc ?_ ?_<;>(intro h;try exact sz h)|refine sg ?_ ?_<;>(intro h;first|exact sz h|refine sy h ?_)|exact sq|fail
   all_goals try(exfalso;omega)
   exact⟨rfl,rfl,G7,hw7,Srt.short (by omega),.cons rfl (.cons rfl (.cons rfl (.cons rfl (.cons rfl (.cons rfl .nil))))),hA7,hk7⟩
  repeat' first|with_reducible intro _|refine sv ?_|refine sc ?_ ?_<;>(intro h;try exact sz h)|refine sg ?_ ?_<;>(intro h;first|exact sz h|refine sy h ?_)|exact sq|fail
  all_goals try(exfalso;omega)
  have hi'0:((i' + 1:Nat):Int) - 1=(i':Int):=by omega
  refine z8 (fun z E ms M'=>∃(G':Nat->Ky),a<=z /\ z<=i' /\ ms=[] /\ Has E [(0,.slice (some (p,0)) n f e),(1,I a),(2,I b),(3,cf),(9,I ((i' + 1:Nat):Int)),(10,I s),(11,I z)] /\ Sw a b G G' /\ Ins a (i' + 1) z G' /\ Lo a b G' /\ KT M' p n ty G' /\ Keep (fun i=>i=p) M M')
   ?_ i' _ _ _ ⟨G7,by omega,Nat.le_refl _,rfl,.cons rfl (.cons rfl (.cons rfl (.cons rfl (.cons rfl (.cons rfl (.cons (by show some (I _)=some (I _);rw[hi'0]) .nil)))))),hw7,Ins.start hs7,hlo7,hA7,hk7⟩
  clear hw7 hA7 hk7 hs7 hlo7
  rintro j E ms M2 ⟨G2,hj1,hj2,rfl,hE,hw2,hs2,hlo2,hA2,hk2⟩
  refine zy hE ?_
  by_cases hj0:j=0
  ·subst hj0
   repeat' first|with_reducible intro _|refine sv ?_|refine sc ?_ ?_<;>(intro h;try exact sz h)|refine sg ?_ ?_<;>(intro h;first|exact sz h|refine sy h ?_)|exact sq|fail
   all_goals try(exfalso;omega)
   exact⟨rfl,rfl,G2,hw2,hs2.done (.inl (by omega)),.cons rfl (.cons rfl (.cons rfl (.cons rfl (.cons rfl (.cons rfl .nil))))),hA2,hk2⟩
  obtain⟨j',rfl⟩:∃ j',j=j' + 1:=⟨j - 1,by omega⟩
  have hz:(((j' + 1:Nat):Int) - 1).toNat=j':=by omega
  have hr1:=z0r hA2 (show j' + 1 < n by omega)
  have hr2:=z0r hA2 (show j' < n by omega)
  have hr3:Rd M2 p (0+(((j' + 1:Nat):Int) - 1).toNat*2) 2 [I (G2 j').1,I (G2 j').2]:=by rw[hz];exact hr2
  have co:=fun M'=>z1q (G2 (j' + 1)).1 (G2 (j' + 1)).2 (G2 j').1 (G2 j').2 M'
  have hlt9:=z0m (G2 (j' + 1)) (G2 j')
  (have hrd0:=hr1;have hrd1:=hr3;repeat' (first|(with_reducible intro _)|refine sv ?_|(refine sc ?_ ?_<;>(intro h;try exact sz h))|((with_reducible first|apply z0g|apply z0h|apply d_pure0);exact gd;exact rfl;exact rfl;(first|exact co _))|refine sg ?_ ?_<;>(intro h;first|exact sz h|refine sy h ?_)|exact sq|fail))
  all_goals try(exfalso;omega)
  ·rename_i hgt M5 hg5 q5
   have hk5:Keep (fun i=>i=p) M M5:=xk
   exact⟨rfl,rfl,G2,hw2,hs2.done (.inr (fun hk=>absurd (hlt9.2 hk) (Int.not_lt.2 h))),.cons rfl (.cons rfl (.cons rfl (.cons rfl (.cons rfl (.cons rfl .nil))))),hA2.grow hg5,hk5⟩
  ·rename_i hgt M5 hg5 q5
   have hlt8:=hlt9.1 h
   have hja:a<=j':=by
    rcases hlo2 with h0|h0
    ·omega
    ·rcases Nat.lt_or_ge j' a with h1|h1
     ·obtain rfl:a=j' + 1:=by omega
      exact absurd hlt8 (z82 (h0 (j' + 1) (by omega) (by omega)))
     ·exact h1
   have hA5:KT M5 p n ty G2:=hA2.grow hg5
   refine d_st (by exact gd) rfl rfl hA5 rfl rfl (z0i (by omega) (G2 j')) ?_
   intro M6 hU6 e6 hA6
   repeat' first|with_reducible intro _|refine sv ?_|refine sc ?_ ?_<;>(intro h;try exact sz h)|refine sg ?_ ?_<;>(intro h;first|exact sz h|refine sy h ?_)|exact sq|fail
   refine d_st (by exact gd) rfl rfl hA6 rfl rfl (by rw[hz];exact z0i (by omega) (G2 (j' + 1))) ?_
   intro M7 hU7 e7 hA7
   have hk7:Keep (fun i=>i=p) M M7:=xk
   have hw7:Sw a b G2 (sw G2 (j' + 1) j'):=.one (by omega) (by omega) (by omega) (by omega)
   repeat' first|with_reducible intro _|refine sv ?_|refine sc ?_ ?_<;>(intro h;try exact sz h)|refine sg ?_ ?_<;>(intro h;first|exact sz h|refine sy h ?_)|exact sq|fail
   refine zd j' (by omega) ⟨sw G2 (j' + 1) j',by omega,by omega,rfl,.cons rfl (.cons rfl (.cons rfl (.cons rfl (.cons rfl (.cons rfl (.cons ?_ .nil)))))),hw2.trans hw7,hs2.step (by omega) hlt8,hlo2.sw hw7 (Nat.le_refl _) (Nat.le_refl _),hA7,hk7⟩
   show some (I _)=some (I _)
   rw[show((j' + 1:Nat):Int) - 1=j' by omega]
 clear hw7 hA7 hk7 hs7 hlo7
 rintro x E ms M11 ⟨rfl,rfl,G8,hw8,hs8,hE,hA8,hk8⟩
 apply z3j
 refine zy hE ?_
 refine z24 (K:=fun x E ms M'=>x=.norm /\ ms=[] /\ ∃ G',Sw a b G G' /\ Srt a (i' + 1) G' /\ Has E [(0,.slice (some (p,0)) n f e),(1,I a),(2,I b),(3,cf),(9,I ((i' + 1:Nat):Int)),(10,I s)] /\ KT M' p n ty G' /\ Keep (fun i=>i=p) M M') ?_ ?_
 ·by_cases hbi:¬ b - (i' + 1)>=2
  ·repeat' first|with_reducible intro _|refine sv ?_|refine sc ?_ ?_<;>(intro h;try exact sz h)|refine sg ?_ ?_<;>(intro h;first|exact sz h|refine sy h ?_)|exact sq|fail
   all_goals try(exfalso;omega)
   exact⟨rfl,rfl,G8,hw8,hs8,.cons rfl (.cons rfl (.cons rfl (.cons rfl (.cons rfl (.cons rfl .nil))))),hA8,hk8⟩
  repeat' first|with_reducible intro _|refine sv ?_|refine sc ?_ ?_<;>(intro h;try exact sz h)|refine sg ?_ ?_<;>(intro h;first|exact sz h|refine sy h ?_)|exact sq|fail
  all_goals try(exfalso;omega)
  refine z8 (fun z E ms M'=>∃(j:Nat) (G':Nat->Ky),z=b - j /\ i' + 2<=j /\ j<=b /\ ms=[] /\ Has E [(0,.slice (some (p,0)) n f e),(1,I a),(2,I b),(3,cf),(9,I ((i' + 1:Nat):Int)),(10,I s),(12,I j)] /\ Sw a b G G' /\ Srt a (i' + 1) G' /\ KT M' p n ty G' /\ Keep (fun i=>i=p) M M')
   ?_ (b - (i' + 2)) _ _ _ ⟨i' + 2,G8,rfl,by omega,by omega,rfl,.cons rfl (.cons rfl (.cons rfl (.cons rfl (.cons rfl (.cons rfl (.cons rfl .nil)))))),hw8,hs8,hA8,hk8⟩
  clear hw8 hA8 hk8 hs8
  rintro z E ms M2 ⟨j,G2,rfl,hj1,hj2,rfl,hE,hw2,hs2,hA2,hk2⟩
  refine zy hE ?_
  by_cases hjb:j=b
  ·subst hjb
   repeat' first|with_reducible intro _|refine sv ?_|refine sc ?_ ?_<;>(intro h;try exact sz h)|refine sg ?_ ?_<;>(intro h;first|exact sz h|refine sy h ?_)|exact sq|fail
   all_goals try(exfalso;omega)
   exact⟨rfl,rfl,G2,hw2,hs2,.cons rfl (.cons rfl (.cons rfl (.cons rfl (.cons rfl (.cons rfl .nil))))),hA2,hk2⟩
  obtain⟨j',rfl⟩:∃ j',j=j' + 1:=⟨j - 1,by omega⟩
  have hz:(((j' + 1:Nat):Int) - 1).toNat=j':=by omega
  have hr1:=z0r hA2 (show j' + 1 < n by omega)
  have hr2:=z0r hA2 (show j' < n by omega)
  have hr3:Rd M2 p (0+(((j' + 1:Nat):Int) - 1).toNat*2) 2 [I (G2 j').1,I (G2 j').2]:=by rw[hz];exact hr2
  have co:=fun M'=>z1q (G2 (j' + 1)).1 (G2 (j' + 1)).2 (G2 j').1 (G2 j').2 M'
  (have hrd0:=hr1;have hrd1:=hr3;repeat' (first|(with_reducible intro _)|refine sv ?_|(refine sc ?_ ?_<;>(intro h;try exact sz h))|((with_reducible first|apply z0g|apply z0h|apply d_pure0);exact gd;exact rfl;exact rfl;(first|exact co _))|refine sg ?_ ?_<;>(intro h;first|exact sz h|refine sy h ?_)|exact sq|fail))
  all_goals try(exfalso;omega)
  ·rename_i hgt M5 hg5 q5
   have hk5:Keep (fun i=>i=p) M M5:=xk
   exact⟨rfl,rfl,G2,hw2,hs2,.cons rfl (.cons rfl (.cons rfl (.cons rfl (.cons rfl (.cons rfl .nil))))),hA2.grow hg5,hk5⟩
  ·rename_i hgt M5 hg5 q5
   have hA5:KT M5 p n ty G2:=hA2.grow hg5
   refine d_st (by exact gd) rfl rfl hA5 rfl rfl (z0i (by omega) (G2 j')) ?_
   intro M6 hU6 e6 hA6
   repeat' first|with_reducible intro _|refine sv ?_|refine sc ?_ ?_<;>(intro h;try exact sz h)|refine sg ?_ ?_<;>(intro h;first|exact sz h|refine sy h ?_)|exact sq|fail
   refine d_st (by exact gd) rfl rfl hA6 rfl rfl (by rw[hz];exact z0i (by omega) (G2 (j' + 1))) ?_
   intro M7 hU7 e7 hA7
   have hk7:Keep (fun i=>i=p) M M7:=xk
   have hw7:Sw (i' + 1) b G2 (sw G2 (j' + 1) j'):=.one (by omega) (by omega) (by omega) (by omega)
   repeat' first|with_reducible intro _|refine sv ?_|refine sc ?_ ?_<;>(intro h;try exact sz h)|refine sg ?_ ?_<;>(intro h;first|exact sz h|refine sy h ?_)|exact sq|fail
   exact zd (b - (j' + 1+1)) (by omega) ⟨j' + 1+1,sw G2 (j' + 1) j',rfl,by omega,by omega,rfl,.cons rfl (.cons rfl (.cons rfl (.cons rfl (.cons rfl (.cons rfl (.cons rfl .nil)))))),hw2.trans (hw7.wider (by omega) (Nat.le_refl _)),hs2.swr hw7 (Nat.le_refl _),hA7,hk7⟩
 clear hw8 hA8 hk8 hs8
 rintro x E ms M12 ⟨rfl,rfl,G9,hw9,hs9,hE,hA9,hk9⟩
 apply zdc
 apply z3j
 refine zy hE ?_
 repeat' first|with_reducible intro _|refine sv ?_|refine sc ?_ ?_<;>(intro h;try exact sz h)|refine sg ?_ ?_<;>(intro h;first|exact sz h|refine sy h ?_)|exact sq|fail
 exact zd (5 - (s+1)) (by omega) ⟨s+1,i' + 1,G9,rfl,by omega,by omega,by omega,rfl,.cons rfl (.cons rfl (.cons rfl (.cons rfl (.cons rfl (.cons rfl .nil))))),hw9,hs9,hA9,hk9⟩
end Go.Proofs.YtbfnnllgdioccaaGreatDoor.C
end
section
open Go PvL
set_option linter.unusedSimpArgs false
set_option linter.unusedVariables false
namespace Go.Proofs.YtbfnnllgdioccaaGreatDoor.C
def par(c:Nat):Nat:=(c - 1) / 2
def Heap(f lo hi:Nat)(G:Nat->Ky):Prop:=∀ c,0 < c->c < hi->lo<=par c->¬ klt (G (f+par c)) (G (f+c))
def Sift(f lo hi r:Nat)(G:Nat->Ky):Prop :=
 (∀ c,0 < c->c < hi->lo<=par c->par c ≠ r->¬ klt (G (f+par c)) (G (f+c))) /\ (∀ c,0 < c->c < hi->par c=r->r ≠ lo->lo<=par r->¬ klt (G (f+par r)) (G (f+c)))
theorem Sift.start{f lo hi:Nat}{G:Nat->Ky}(h:Heap f (lo+1) hi G):Sift f lo hi lo G :=
 ⟨fun c h1 h2 h3 h4=>h c h1 h2 (by omega),fun c _ _ _ h=>absurd rfl h⟩
theorem Sift.leaf{f lo hi r:Nat}{G:Nat->Ky}(h:Sift f lo hi r G)(hr:hi<=2*r+1):Heap f lo hi G:=fun c h1 h2 h3=>h.1 c h1 h2 h3 (by unfold par at *;omega)
theorem Sift.stop{f lo hi r x:Nat}{G:Nat->Ky}(h:Sift f lo hi r G)(hmax:∀ c,c < hi->(c=2*r+1 ∨ c=2*r+2)->¬ klt (G (f+x)) (G (f+c)))(hx:¬ klt (G (f+r)) (G (f+x))):Heap f lo hi G:=fun c h1 h2 h3=>by
 by_cases hc:par c=r
 ·rw[hc]
  have:=hmax c h2 (by unfold par at hc;omega)
  exact z81 this hx
 ·exact h.1 c h1 h2 h3 hc
theorem Sift.step{f lo hi r x:Nat}{G:Nat->Ky}(h:Sift f lo hi r G)(hlo:lo<=r)(hxc:x=2*r+1 ∨ x=2*r+2)(hxh:x < hi)(hmax:∀ c,c < hi->(c=2*r+1 ∨ c=2*r+2)->¬ klt (G (f+x)) (G (f+c)))(hx:klt (G (f+r)) (G (f+x))) :
  Sift f lo hi x (sw G (f+r) (f+x)):=by
 have hxr:x ≠ r:=by omega
 have hr':sw G (f+r) (f+x) (f+r)=G (f+x):=sw_i _ _ _
 have hx':sw G (f+r) (f+x) (f+x)=G (f+r):=sw_j _ _ _
 have hne:∀ t,t ≠ r->t ≠ x->sw G (f+r) (f+x) (f+t)=G (f+t):=fun t h1 h2=>z4l (by omega) (by omega)
 have hpx:par x=r:=by unfold par;omega
 constructor
 ·intro c h1 h2 h3 h4
  by_cases hcr:par c=r
  ·rw[hcr,hr']
   by_cases hcx:c=x
   ·subst hcx;rw[hx'];exact z82 hx
   ·rw[hne c (by unfold par at hcr;omega) hcx]
    exact hmax c h2 (by unfold par at hcr;omega)
  ·rw[hne (par c) hcr h4]
   by_cases hc:c=r
   ·subst hc
    rw[hr']
    exact h.2 x (by omega) hxh hpx (by rintro rfl;unfold par at h3;omega) h3
   ·rw[hne c hc (by rintro rfl;exact hcr hpx)]
    exact h.1 c h1 h2 h3 hcr
 ·intro c h1 h2 h3 h4 h5
  rw[hpx,hr',hne c (by rintro rfl;unfold par at h3;omega) (by rintro rfl;unfold par at h3;omega)]
  have:=h.1 c h1 h2 (by omega) (by omega)
  rw[h3] at this;exact this
theorem Heap.max{f m:Nat}{G:Nat->Ky}(h:Heap f 0 m G):∀ c,c < m->¬ klt (G (f+0)) (G (f+c)):=by
 intro c
 induction c using Nat.strongRecOn with
 | _ c ih =>
  intro hc
  rcases Nat.eq_zero_or_pos c with h0|h0
  ·subst h0;exact z1r _
  ·exact z81 (h c h0 hc (Nat.zero_le _)) (ih (par c) (by unfold par;omega) (by unfold par;omega))
theorem Heap.none{f lo hi:Nat}{G:Nat->Ky}(h:hi<=2*lo+1):Heap f lo hi G:=fun c h1 h2 h3=>by unfold par at h3;omega
def Tail(f i hi:Nat)(G:Nat->Ky):Prop:=∀ q,i<=q->q < hi->∀ p,p < q->¬ klt (G (f+q)) (G (f+p))
theorem Tail.step{f i hi:Nat}{G G':Nat->Ky}(ht:Tail f (i+1) hi G)(hi':i < hi)(hh:Heap f 0 (i+1) G)(hw:Sw (f+0) (f+i) (sw G (f+0) (f+i)) G'):Tail f i hi G':=by
 have hm:=hh.max
 have key:∀ t,t < i+1->¬ klt (G (f+0)) (sw G (f+0) (f+i) (f+t)):=fun t h=>by
  unfold sw
  split
  ·exact z1r _
  ·split
   ·exact hm i (by omega)
   ·exact hm t h
 intro q h1 h2 p hp
 have hq:G' (f+q)=sw G (f+0) (f+i) (f+q):=hw.out (by omega)
 rw[hq]
 by_cases hqi:q=i
 ·subst hqi
  rw[sw_j]
  refine hw.all (p:=fun x=>¬ klt (G (f+0)) x) (fun t h3 h4=>?_) (f+p) (by omega) (by omega)
  have:=key (t - f) (by omega)
  rwa [show f+(t - f)=t by omega] at this
 ·rw[z4l (by omega) (by omega)]
  have hall:∀ t,t < q->¬ klt (G (f+q)) (G (f+t)):=fun t h=>ht q (by omega) h2 t h
  by_cases hpi:p < i
  ·refine hw.all (p:=fun x=>¬ klt (G (f+q)) x) (fun t h3 h4=>?_) (f+p) (by omega) (by omega)
   unfold sw
   split
   ·exact hall 0 (by omega)
   ·split
    ·exact hall i (by omega)
    ·have:=hall (t - f) (by omega)
     rwa [show f+(t - f)=t by omega] at this
  ·rw[hw.out (by omega)]
   unfold sw
   split
   ·exact hall 0 (by omega)
   ·split
    ·exact hall i (by omega)
    ·exact hall p hp
theorem Heap.swapped{f i:Nat}{G:Nat->Ky}(hh:Heap f 0 (i+1) G):Heap f 1 i (sw G (f+0) (f+i)):=fun c h1 h2 h3=>by
 rw[z4l (by omega) (by unfold par;omega),z4l (by omega) (by omega)]
 exact hh c h1 (by omega) (Nat.zero_le _)
theorem Tail.srt{a b:Nat}{G:Nat->Ky}(hab:a<=b)(h:Tail a 0 (b - a) G):Srt a b G:=fun i j h1 h2 h3=>by
 have:=h (j - a) (Nat.zero_le _) (by omega) (i - a) (by omega)
 rwa [show a+(j - a)=j by omega,show a+(i - a)=i by omega] at this
end Go.Proofs.YtbfnnllgdioccaaGreatDoor.C
end
section
open Go PvL Go.Proofs
set_option linter.unusedSimpArgs false
set_option linter.unusedVariables false
namespace Go.Proofs.YtbfnnllgdioccaaGreatDoor.C
set_option maxHeartbeats 4000000 in
theorem zlb{M:Mem}{p n lo hi fs:Nat}{f:Bool}{e:Nat}{ty:TypeId}{G:Nat->Ky}(hA:KT M p n ty G)(hb:fs+hi<=n)(hn:n<=1000)(hlo:lo<=1000)(hH:Heap fs (lo+1) hi G) :
  z9 Tryz.prog 204 [.slice (some (p,0)) n f e,I lo,I hi,I fs,cf] M (fun w M'=>∃ G',Sw (fs+lo) (fs+hi) G G' /\ Heap fs lo hi G' /\ KT M' p n ty G' /\ Keep (fun i=>i=p) M M'):=by
 refine zb k204 rfl ?_
 dsimp only[x204,zM,zO,zI,zF,zS,zB,zL,zE,zN,zW,zC,zipE,Nat.reduceAdd]
 repeat' first|with_reducible intro _|refine sv ?_|refine sc ?_ ?_<;>(intro h;try exact sz h)|refine sg ?_ ?_<;>(intro h;first|exact sz h|refine sy h ?_)|exact sq|fail
 refine z8 (fun z E ms M'=>∃(r:Nat) (G':Nat->Ky),z=hi+2000 - r /\ lo<=r /\ (r=lo ∨ r < hi) /\ ms=[] /\ Has E [(0,.slice (some (p,0)) n f e),(2,I hi),(3,I fs),(4,cf),(10,I r)] /\ Sw (fs+lo) (fs+hi) G G' /\ Sift fs lo hi r G' /\ KT M' p n ty G' /\ Keep (fun i=>i=p) M M')
  ?_ (hi+2000 - lo) _ _ _ ⟨lo,G,rfl,Nat.le_refl _,.inl rfl,rfl,.cons rfl (.cons rfl (.cons rfl (.cons rfl (.cons rfl .nil)))),.refl,Sift.start hH,hA,Keep.refl _ _⟩
 rintro z E ms M1 ⟨r,G1,rfl,hr,hrh,rfl,hE,hw1,hs1,hA1,hk1⟩
 refine zy hE ?_
 by_cases hleaf:hi<=2*r+1
 ·repeat' first|with_reducible intro _|refine sv ?_|refine sc ?_ ?_<;>(intro h;try exact sz h)|refine sg ?_ ?_<;>(intro h;first|exact sz h|refine sy h ?_)|exact sq|fail
  all_goals try(exfalso;omega)
  refine kf ?_
  exact⟨G1,hw1,hs1.leaf hleaf,hA1,hk1⟩
 have hrl:r < hi:=by omega
 have hR:=z0r hA1 (show fs+r < n by omega)
 have hC:=z0r hA1 (show fs+(2*r+1) < n by omega)
 have f1:((fs:Int)+(2*(r:Int)+1)).toNat=fs+(2*r+1):=by omega
 have f2:((fs:Int)+(r:Int)).toNat=fs+r:=by omega
 have f3:((fs:Int)+(2*(r:Int)+1)+1).toNat=fs+(2*r+2):=by omega
 have f4:((fs:Int)+(2*(r:Int)+1+1)).toNat=fs+(2*r+2):=by omega
 have h1:Rd M1 p (0+((fs:Int)+(2*(r:Int)+1)).toNat*2) 2 [I (G1 (fs+(2*r+1))).1,I (G1 (fs+(2*r+1))).2]:=by rw[f1];exact hC
 have h2:Rd M1 p (0+((fs:Int)+(r:Int)).toNat*2) 2 [I (G1 (fs+r)).1,I (G1 (fs+r)).2]:=by rw[f2];exact hR
 by_cases htwo:2*r+2 < hi
 ·have hD:=z0r hA1 (show fs+(2*r+2) < n by omega)
  have h3:Rd M1 p (0+((fs:Int)+(2*(r:Int)+1)+1).toNat*2) 2 [I (G1 (fs+(2*r+2))).1,I (G1 (fs+(2*r+2))).2]:=by rw[f3];exact hD
  have h4:Rd M1 p (0+((fs:Int)+(2*(r:Int)+1+1)).toNat*2) 2 [I (G1 (fs+(2*r+2))).1,I (G1 (fs+(2*r+2))).2]:=by rw[f4];exact hD
  have co:=fun M'=>z1q (G1 (fs+(2*r+1))).1 (G1 (fs+(2*r+1))).2 (G1 (fs+(2*r+2))).1 (G1 (fs+(2*r+2))).2 M'
  have co1:=fun M'=>z1q (G1 (fs+r)).1 (G1 (fs+r)).2 (G1 (fs+(2*r+1))).1 (G1 (fs+(2*r+1))).2 M'
  have co2:=fun M'=>z1q (G1 (fs+r)).1 (G1 (fs+r)).2 (G1 (fs+(2*r+2))).1 (G1 (fs+(2*r+2))).2 M'
  (have hrd0:=h1;have hrd1:=h2;have hrd2:=h3;have hrd3:=h4;repeat' (first|(with_reducible intro _)|refine sv ?_|(refine sc ?_ ?_<;>(intro h;try exact sz h))|((with_reducible first|apply z0g|apply z0h|apply d_pure0);exact gd;exact rfl;exact rfl;(first|exact co _|exact co1 _|exact co2 _))|refine sg ?_ ?_<;>(intro h;first|exact sz h|refine sy h ?_)|exact sq|fail))
  all_goals try(exfalso;omega)
  ·rename_i k1 k2 M5 g5 q5 hc1 M6 g6 q6
   have hK:KT M6 p n ty G1:=hA1.grow (g5.trans g6)
   refine kf ?_
   exact⟨G1,hw1,hs1.stop (x:=2*r+2) (fun c hc h9=>by rcases h9 with rfl|rfl;exact z82 ((z0m _ _).1 hc1);exact z1r _) (fun hh=>absurd ((z0m _ _).2 hh) (Int.not_lt.2 h)),hK,xk⟩
  ·rename_i k1 k2 M5 g5 q5 hc1 M6 g6 q6
   have hK:KT M6 p n ty G1:=hA1.grow (g5.trans g6)
   have hlt:=(z0m (G1 (fs+r)) (G1 (fs+(2*r+2)))).1 h
   refine d_st (by exact gd) rfl rfl hK rfl rfl (z0i (by omega) (G1 (fs+(2*r+2)))) ?_
   intro M7 hU7 e7 hA7
   repeat' first|with_reducible intro _|refine sv ?_|refine sc ?_ ?_<;>(intro h;try exact sz h)|refine sg ?_ ?_<;>(intro h;first|exact sz h|refine sy h ?_)|exact sq|fail
   refine d_st (by exact gd) rfl rfl hA7 rfl rfl (by rw[f4];exact z0i (by omega) (G1 (fs+r))) ?_
   intro M8 hU8 e8 hA8
   have hk8:Keep (fun i=>i=p) M M8:=xk
   repeat' first|with_reducible intro _|refine sv ?_|refine sc ?_ ?_<;>(intro h;try exact sz h)|refine sg ?_ ?_<;>(intro h;first|exact sz h|refine sy h ?_)|exact sq|fail
   refine zd (hi+2000 - (2*r+2)) (by omega) ⟨2*r+2,sw G1 (fs+r) (fs+(2*r+2)),rfl,by omega,.inr (by omega),rfl,.cons rfl (.cons rfl (.cons rfl (.cons rfl (.cons ?_ .nil)))),.step hw1 (by omega) (by omega) (by omega) (by omega),hs1.step hr (.inr rfl) (by omega) (fun c hc h9=>by rcases h9 with rfl|rfl;exact z82 ((z0m _ _).1 hc1);exact z1r _) hlt,hA8,hk8⟩
   show some (I _)=some (I _)
   rw[show((2*r+2:Nat):Int)=2*(r:Int)+1+1 by omega]
  ·rename_i k1 k2 M5 g5 q5 hc1 M6 g6 q6
   have hK:KT M6 p n ty G1:=hA1.grow (g5.trans g6)
   refine kf ?_
   exact⟨G1,hw1,hs1.stop (x:=2*r+1) (fun c hc h9=>by rcases h9 with rfl|rfl;exact z1r _;exact fun hh=>absurd ((z0m _ _).2 hh) (Int.not_lt.2 hc1)) (fun hh=>absurd ((z0m _ _).2 hh) (Int.not_lt.2 h)),hK,xk⟩
  ·rename_i k1 k2 M5 g5 q5 hc1 M6 g6 q6
   have hK:KT M6 p n ty G1:=hA1.grow (g5.trans g6)
   have hlt:=(z0m (G1 (fs+r)) (G1 (fs+(2*r+1)))).1 h
   refine d_st (by exact gd) rfl rfl hK rfl rfl (z0i (by omega) (G1 (fs+(2*r+1)))) ?_
   intro M7 hU7 e7 hA7
   repeat' first|with_reducible intro _|refine sv ?_|refine sc ?_ ?_<;>(intro h;try exact sz h)|refine sg ?_ ?_<;>(intro h;first|exact sz h|refine sy h ?_)|exact sq|fail
   refine d_st (by exact gd) rfl rfl hA7 rfl rfl (by rw[f1];exact z0i (by omega) (G1 (fs+r))) ?_
   intro M8 hU8 e8 hA8
   have hk8:Keep (fun i=>i=p) M M8:=xk
   repeat' first|with_reducible intro _|refine sv ?_|refine sc ?_ ?_<;>(intro h;try exact sz h)|refine sg ?_ ?_<;>(intro h;first|exact sz h|refine sy h ?_)|exact sq|fail
   refine zd (hi+2000 - (2*r+1)) (by omega) ⟨2*r+1,sw G1 (fs+r) (fs+(2*r+1)),rfl,by omega,.inr (by omega),rfl,.cons rfl (.cons rfl (.cons rfl (.cons rfl (.cons ?_ .nil)))),.step hw1 (by omega) (by omega) (by omega) (by omega),hs1.step hr (.inl rfl) (by omega) (fun c hc h9=>by rcases h9 with rfl|rfl;exact z1r _;exact fun hh=>absurd ((z0m _ _).2 hh) (Int.not_lt.2 hc1)) hlt,hA8,hk8⟩
   show some (I _)=some (I _)
   rw[show((2*r+1:Nat):Int)=2*(r:Int)+1 by omega]
 ·have co1:=fun M'=>z1q (G1 (fs+r)).1 (G1 (fs+r)).2 (G1 (fs+(2*r+1))).1 (G1 (fs+(2*r+1))).2 M'
  (have hrd0:=h1;have hrd1:=h2;repeat' (first|(with_reducible intro _)|refine sv ?_|(refine sc ?_ ?_<;>(intro h;try exact sz h))|((with_reducible first|apply z0g|apply z0h|apply d_pure0);exact gd;exact rfl;exact rfl;(first|exact co1 _))|refine sg ?_ ?_<;>(intro h;first|exact sz h|refine sy h ?_)|exact sq|fail))
  all_goals try(exfalso;omega)
  ·rename_i k1 k2 M5 g5 q5
   have hK:KT M5 p n ty G1:=hA1.grow g5
   refine kf ?_
   exact⟨G1,hw1,hs1.stop (x:=2*r+1) (fun c hc h9=>by rcases h9 with rfl|rfl;exact z1r _;omega) (fun hh=>absurd ((z0m _ _).2 hh) (Int.not_lt.2 h)),hK,xk⟩
  ·rename_i k1 k2 M5 g5 q5
   have hK:KT M5 p n ty G1:=hA1.grow g5
   have hlt:=(z0m (G1 (fs+r)) (G1 (fs+(2*r+1)))).1 h
   refine d_st (by exact gd) rfl rfl hK rfl rfl (z0i (by omega) (G1 (fs+(2*r+1)))) ?_
   intro M7 hU7 e7 hA7
   repeat' first|with_reducible intro _|refine sv ?_|refine sc ?_ ?_<;>(intro h;try exact sz h)|refine sg ?_ ?_<;>(intro h;first|exact sz h|refine sy h ?_)|exact sq|fail
   refine d_st (by exact gd) rfl rfl hA7 rfl rfl (by rw[f1];exact z0i (by omega) (G1 (fs+r))) ?_
   intro M8 hU8 e8 hA8
   have hk8:Keep (fun i=>i=p) M M8:=xk
   repeat' first|with_reducible intro _|refine sv ?_|refine sc ?_ ?_<;>(intro h;try exact sz h)|refine sg ?_ ?_<;>(intro h;first|exact sz h|refine sy h ?_)|exact sq|fail
   refine zd (hi+2000 - (2*r+1)) (by omega) ⟨2*r+1,sw G1 (fs+r) (fs+(2*r+1)),rfl,by omega,.inr (by omega),rfl,.cons rfl (.cons rfl (.cons rfl (.cons rfl (.cons ?_ .nil)))),.step hw1 (by omega) (by omega) (by omega) (by omega),hs1.step hr (.inl rfl) (by omega) (fun c hc h9=>by rcases h9 with rfl|rfl;exact z1r _;omega) hlt,hA8,hk8⟩
   show some (I _)=some (I _)
   rw[show((2*r+1:Nat):Int)=2*(r:Int)+1 by omega]
