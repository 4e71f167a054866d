/-
 Part of the proof of TapeBack. No condition beyond those in each theorem.
-/
import Derived.Test.YtbfnnllgdioccaaGreatDoorVB
import Derived.Test.YtbfnnllgdioccaaGreatDoorQvH
import Derived.Test.YtbfnnllgdioccaaGreatDoorXX
import Derived.Test.YtbfnnllgdioccaaGreatDoorVA
section
open Go PvL Go.Proofs
variable {μ:Md}
set_option linter.unusedVariables false
set_option linter.unusedSimpArgs false
namespace Go.Proofs.YtbfnnllgdioccaaGreatDoor.C
abbrev kyv (k:Ky):LV:=.agg [I k.1,I k.2]
abbrev zsl:LV:=.slice none 0 true 0
abbrev Mk:=List (Ky × LV)
def encK (L:Mk):List (LV × LV):=L.map fun p=>(kyv p.1,p.2)
def lkM:Mk->Ky->Option LV
 | [],_=>none
 |(a,b) :: L,k=>if k=a then some b else lkM L k
def stV:Mk->Ky->LV->Mk
 | [],k,v=>[(k,v)]
 |(a,b) :: L,k,v=>if k=a then (k,v) :: L else (a,b) :: stV L k v
theorem znz (a:Ky) (b:LV) (L:Mk) (k:Ky):lkM ((a,b) :: L) k=if k=a then some b else lkM L k:=rfl
theorem zo7 (a:Ky) (b:LV) (L:Mk) (k:Ky) (v:LV):stV ((a,b) :: L) k v=if k=a then (k,v) :: L else (a,b) :: stV L k v:=rfl
structure StOk (bs:List Nat) (clk n:Nat):Prop where
 len:bs.length=n
 nodup:bs.Nodup
 lt:∀ b ∈ bs,b < clk
def SlV (M:Mem) (v:LV) (l:List Int):Prop:=∃ a f e,v=.slice a l.length f e /\ (l ≠ []->e=1) /\ SlI M a l
inductive RkL (M:Mem):Mk->Rk->Prop
 | nil:RkL M [] []
 | cons {k:Ky} {v:LV} {l:List Int} {L:Mk} {R:Rk} (h:SlV M v l) (h':RkL M L R):RkL M ((k,v) :: L) ((k,l) :: R)
def RkM (M:Mem) (r:Nat) (R:Rk):Prop:=∃ L bs clk,At M r (.map (encK L) bs clk) /\ StOk bs clk L.length /\ RkL M L R
variable {M M':Mem} {L:Mk} {R:Rk} {r:Nat} {k:Ky}
theorem SlV.grow {v:LV} {l:List Int} (h:SlV M v l) (hg:Grow M M'):SlV M' v l:=by
 obtain ⟨a,f,e,h1,h0,h2⟩:=h
 exact ⟨a,f,e,h1,h0,h2.grow hg⟩
theorem SlV.nil:SlV M zsl []:=⟨none,true,0,rfl,fun h=>absurd rfl h,.inl rfl⟩
theorem SlV.vec {b:Nat} {ty:TypeId} {v:LV} {l:List Int} (h:Vec b 1 ty intc M v l):SlV M v l:=by
 rcases h with ⟨rfl,rfl⟩|⟨i,rfl,h2,h3⟩
 ·exact SlV.nil
 ·exact ⟨_,_,_,rfl,fun _=>rfl,.inr ⟨i,0,rfl,fun k hk=>zak (z3j (enc:=intc) h2 (fun _ _=>rfl) hk)⟩⟩
theorem RkL.grow (h:RkL M L R) (hg:Grow M M'):RkL M' L R:=by
 induction h with
 | nil=>exact .nil
 | cons h _ ih=>exact .cons (h.grow hg) ih
theorem RkL.len (h:RkL M L R):L.length=R.length:=by
 induction h with
 | nil=>rfl
 | cons h _ ih=>simp [ih]
theorem RkL.keys (h:RkL M L R):L.map (·.1)=R.map (·.1):=by
 induction h with
 | nil=>rfl
 | cons h _ ih=>simp [ih]
theorem RkL.look (h:RkL M L R) (k:Ky):SlV M ((lkM L k).getD zsl) ((lkK R k).getD []):=by
 induction h with
 | nil=>exact SlV.nil
 | @cons k' v l L R h _ ih =>
  rw [znz]
  show SlV M _ ((if k=k' then some l else lkK R k).getD [])
  by_cases hk:k=k'
  ·rw [if_pos hk,if_pos hk];exact h
  ·rw [if_neg hk,if_neg hk];exact ih
theorem RkL.put (h:RkL M L R) (k:Ky) {v:LV} {l:List Int} (hv:SlV M v l):RkL M (stV L k v) (stK R k l):=by
 induction h with
 | nil=>exact .cons hv .nil
 | @cons k' v' l' L R h hL ih =>
  rw [zo7]
  show RkL M _ (if k=k' then (k,l) :: R else (k',l') :: stK R k l)
  by_cases hk:k=k'
  ·rw [if_pos hk,if_pos hk];exact .cons hv hL
  ·rw [if_neg hk,if_neg hk];exact .cons h ih
theorem RkM.grow (h:RkM M r R) (hg:Grow M M'):RkM M' r R:=by
 obtain ⟨L,bs,clk,h1,h2,h3⟩:=h
 exact ⟨L,bs,clk,h1.grow hg,h2,h3.grow hg⟩
theorem RkM.lt (h:RkM M r R):r < M.next:=by
 obtain ⟨L,bs,clk,h1,h2,h3⟩:=h
 exact h1.2
variable {E:Env} {x y z':XO}
end Go.Proofs.YtbfnnllgdioccaaGreatDoor.C
end
section
open Go PvL
set_option linter.unusedSimpArgs false
set_option linter.unusedVariables false
namespace Go.Proofs.YtbfnnllgdioccaaGreatDoor.C
def PL (a b i j:Nat) (G:Nat->Ky):Prop:=a < i /\ i<=j+1 /\ j < b /\ (∀ p,a < p->p < i->klt (G p) (G a)) /\ ∀ p,j < p->p < b->¬ klt (G p) (G a)
theorem PL.start {a b:Nat} {G:Nat->Ky} (h:a < b):PL a b (a+1) (b - 1) G:=⟨by omega,by omega,by omega,fun p h1 h2=>by omega,fun p h1 h2=>by omega⟩
theorem PL.up {a b i j:Nat} {G:Nat->Ky} (h:PL a b i j G) (hij:i<=j) (hl:klt (G i) (G a)):PL a b (i+1) j G :=
 ⟨by have:=h.1;omega,by omega,h.2.2.1,fun p h1 h2=>by
  by_cases hp:p=i
  ·subst hp;exact hl
  ·exact h.2.2.2.1 p h1 (by omega),h.2.2.2.2⟩
theorem PL.down {a b i j:Nat} {G:Nat->Ky} (h:PL a b i (j+1) G) (hij:i<=j+1) (hl:¬ klt (G (j+1)) (G a)):PL a b i j G :=
 ⟨h.1,hij,by have:=h.2.2.1;omega,h.2.2.2.1,fun p h1 h2=>by
  by_cases hp:p=j+1
  ·subst hp;exact hl
  ·exact h.2.2.2.2 p (by omega) h2⟩
def Parted (a b m:Nat) (G:Nat->Ky):Prop:=a<=m /\ m < b /\ (∀ p,a<=p->p < m->klt (G p) (G m)) /\ ∀ p,m < p->p < b->¬ klt (G p) (G m)
theorem PL.done {a b i j:Nat} {G:Nat->Ky} (h:PL a b i j G) (hij:j < i):Parted a b j (sw G j a):=by
 obtain ⟨h1,h2,h3,h4,h5⟩:=h
 refine ⟨by omega,h3,fun p g1 g2=>?_,fun p g1 g2=>?_⟩
 ·rw [sw_i]
  by_cases hp:p=a
  ·subst hp;rw [sw_j];exact h4 j (by omega) (by omega)
  ·rw [z72 (by omega) hp];exact h4 p (by omega) (by omega)
 ·rw [sw_i,z72 (by omega) (by omega)]
  exact h5 p g1 g2
def Lo (a b:Nat) (G:Nat->Ky):Prop:=a=0 ∨ ∀ t,a<=t->t < b->klt (G (a - 1)) (G t)
theorem Lo.sub {a b b':Nat} {G:Nat->Ky} (h:Lo a b G) (hb:b'<=b):Lo a b' G:=h.elim .inl fun h=>.inr fun t h1 h2=>h t h1 (by omega)
theorem Lo.sw {a b a' b':Nat} {G G':Nat->Ky} (h:Lo a b G) (hw:Sw a' b' G G') (ha:a<=a') (hb:b'<=b):Lo a b G':=by
 rcases h with h|h
 ·exact .inl h
 by_cases ha0:a=0
 ·exact .inl ha0
 refine .inr ?_
 rw [hw.out (t:=a - 1) (by omega)]
 exact (hw.wider ha hb).all (p:=fun k=>klt (G (a - 1)) k) h
def Out (a b a' b':Nat) (G:Nat->Ky):Prop:=∀ x y,a<=x->x < y->y < b->(x < a' ∨ b'<=y)->¬ klt (G y) (G x)
theorem Out.start {a b:Nat} {G:Nat->Ky}:Out a b a b G:=fun x y h1 h2 h3 h4=>by omega
theorem Out.sw {a b a' b':Nat} {G G':Nat->Ky} (h:Out a b a' b' G) (hw:Sw a' b' G G') (ha:a<=a') (hb:b'<=b):Out a b a' b' G':=by
 intro x y h1 h2 h3 h4
 by_cases hx:x < a' ∨ b'<=x
 ·rw [hw.out hx]
  by_cases hy:y < a' ∨ b'<=y
  ·rw [hw.out hy];exact h x y h1 h2 h3 h4
  ·exact hw.all (p:=fun k=>¬ klt k (G x)) (fun t h5 h6=>h x t h1 (by omega) (by omega) (by omega)) y (by omega) (by omega)
 ·rw [hw.out (t:=y) (by omega)]
  exact hw.all (p:=fun k=>¬ klt (G y) k) (fun t h5 h6=>h t y (by omega) (by omega) h3 (by omega)) x (by omega) (by omega)
theorem Out.fin {a b a' b':Nat} {G:Nat->Ky} (h:Out a b a' b' G) (hs:Srt a' b' G):Srt a b G:=fun x y h1 h2 h3=>by
 by_cases hx:x < a' ∨ b'<=y
 ·exact h x y h1 h2 h3 hx
 ·exact hs x y (by omega) h2 (by omega)
theorem Parted.sw {a b m:Nat} {G G':Nat->Ky} (h:Parted a b m G) {a' b':Nat} (hw:Sw a' b' G G') (hr:(a<=a' /\ b'<=m) ∨ (m+1<=a' /\ b'<=b)):Parted a b m G':=by
 obtain ⟨h1,h2,h3,h4⟩:=h
 refine ⟨h1,h2,?_,?_⟩
 ·intro p g1 g2
  rw [hw.out (t:=m) (by omega)]
  rcases hr with hr|hr
  ·exact (hw.wider hr.1 hr.2).all (p:=fun k=>klt k (G m)) h3 p g1 g2
  ·rw [hw.out (t:=p) (by omega)];exact h3 p g1 g2
 ·intro p g1 g2
  rw [hw.out (t:=m) (by omega)]
  rcases hr with hr|hr
  ·rw [hw.out (t:=p) (by omega)];exact h4 p g1 g2
  ·exact (hw.wider hr.1 hr.2).all (p:=fun k=>¬ klt k (G m)) (fun t g1 g2=>h4 t (by omega) g2) p (by omega) g2
theorem Out.left {a b a' b' m:Nat} {G G':Nat->Ky} (h:Out a b a' b' G) (hp:Parted a' b' m G) (hw:Sw a' m G G') (hs:Srt a' m G') (ha:a<=a') (hb:b'<=b):Out a b (m+1) b' G':=by
 have hm:=hp.1
 have hm2:=hp.2.1
 have hp':=hp.sw hw (.inl ⟨Nat.le_refl _,Nat.le_refl _⟩)
 have h':=h.sw (hw.wider (Nat.le_refl _) (by omega)) ha hb
 obtain ⟨-,-,q3,q4⟩:=hp'
 intro x y h1 h2 h3 h4
 by_cases hx:x < a' ∨ b'<=y
 ·exact h' x y h1 h2 h3 hx
 have hxm:x<=m:=by omega
 by_cases hxe:x=m
 ·subst hxe;exact q4 y h2 (by omega)
 by_cases hy:y < m
 ·exact hs x y (by omega) h2 hy
 by_cases hye:y=m
 ·subst hye;exact zcf (q3 x (by omega) (by omega))
 ·exact fun hk=>q4 y (by omega) (by omega) (z42 hk (q3 x (by omega) (by omega)))
theorem Out.right {a b a' b' m:Nat} {G G':Nat->Ky} (h:Out a b a' b' G) (hp:Parted a' b' m G) (hw:Sw (m+1) b' G G') (hs:Srt (m+1) b' G') (ha:a<=a') (hb:b'<=b):Out a b a' m G':=by
 have hm:=hp.1
 have hm2:=hp.2.1
 have hp':=hp.sw hw (.inr ⟨Nat.le_refl _,Nat.le_refl _⟩)
 have h':=h.sw (hw.wider (by omega) (Nat.le_refl _)) ha hb
 obtain ⟨-,-,q3,q4⟩:=hp'
 intro x y h1 h2 h3 h4
 by_cases hx:x < a' ∨ b'<=y
 ·exact h' x y h1 h2 h3 hx
 have hym:m<=y:=by omega
 by_cases hxe:x=m
 ·subst hxe;exact q4 y h2 (by omega)
 by_cases hx2:m < x
 ·exact hs x y (by omega) h2 (by omega)
 by_cases hye:y=m
 ·subst hye;exact zcf (q3 x (by omega) (by omega))
 ·exact fun hk=>q4 y (by omega) (by omega) (z42 hk (q3 x (by omega) (by omega)))
theorem Parted.lo {a b m n:Nat} {G:Nat->Ky} (h:Parted a b m G) (hi:Inj n G) (hb:b<=n):Lo (m+1) b G:=.inr fun t h1 h2=>by
 rw [show m+1 - 1=m by omega]
 have h3:=h.2.2.2 t (by omega) h2
 have hm2:=h.2.1
 rcases zk1 (a:=G m) (b:=G t) (fun e=>absurd (hi m t (by omega) (by omega) e) (by omega)) with h4|h4
 ·exact h4
 ·exact absurd h4 h3
theorem Srt.pre {a i:Nat} {G:Nat->Ky} (h:Srt a i G) {j:Nat} (hj:j<=i):Srt a j G:=fun x y h1 h2 h3=>h x y h1 h2 (by omega)
end Go.Proofs.YtbfnnllgdioccaaGreatDoor.C
end
section

end
section
open Go PvL Go.Proofs
set_option linter.unusedSimpArgs false
set_option linter.unusedVariables false
namespace Go.Proofs.YtbfnnllgdioccaaGreatDoor.C
abbrev cf:LV:=.func (.func 68) [] []
abbrev KT (M:Mem) (p n:Nat) (ty:TypeId) (G:Nat->Ky):Prop:=At M p (.cells true (tabL kyc G n) ty)
end Go.Proofs.YtbfnnllgdioccaaGreatDoor.C
end
section
open Go PvL
set_option linter.unusedSimpArgs false
set_option linter.unusedVariables false
namespace Go.Proofs.YtbfnnllgdioccaaGreatDoor.C
def par (c:Nat):Nat:=(c - 1) / 2
def Heap (f lo hi:Nat) (G:Nat->Ky):Prop:=∀ c,0 < c->c < hi->lo<=par c->¬ klt (G (f+par c)) (G (f+c))
def Sift (f lo hi r:Nat) (G:Nat->Ky):Prop :=
 (∀ c,0 < c->c < hi->lo<=par c->par c ≠ r->¬ klt (G (f+par c)) (G (f+c))) /\ (∀ c,0 < c->c < hi->par c=r->r ≠ lo->lo<=par r->¬ klt (G (f+par r)) (G (f+c)))
theorem Sift.start {f lo hi:Nat} {G:Nat->Ky} (h:Heap f (lo+1) hi G):Sift f lo hi lo G :=
 ⟨fun c h1 h2 h3 h4=>h c h1 h2 (by omega),fun c _ _ _ h=>absurd rfl h⟩
theorem Sift.step {f lo hi r x:Nat} {G:Nat->Ky} (h:Sift f lo hi r G) (hlo:lo<=r) (hxc:x=2*r+1 ∨ x=2*r+2) (hxh:x < hi) (hmax:∀ c,c < hi->(c=2*r+1 ∨ c=2*r+2)->¬ klt (G (f+x)) (G (f+c))) (hx:klt (G (f+r)) (G (f+x))) :
  Sift f lo hi x (sw G (f+r) (f+x)):=by
 have hxr:x ≠ r:=by omega
 have hr':sw G (f+r) (f+x) (f+r)=G (f+x):=sw_i _ _ _
 have hx':sw G (f+r) (f+x) (f+x)=G (f+r):=sw_j _ _ _
 have hne:∀ t,t ≠ r->t ≠ x->sw G (f+r) (f+x) (f+t)=G (f+t):=fun t h1 h2=>z72 (by omega) (by omega)
 have hpx:par x=r:=by unfold par;omega
 constructor
 ·intro c h1 h2 h3 h4
  by_cases hcr:par c=r
  ·rw [hcr,hr']
   by_cases hcx:c=x
   ·subst hcx;rw [hx'];exact zcf hx
   ·rw [hne c (by unfold par at hcr;omega) hcx]
    exact hmax c h2 (by unfold par at hcr;omega)
  ·rw [hne (par c) hcr h4]
   by_cases hc:c=r
   ·subst hc
    rw [hr']
    exact h.2 x (by omega) hxh hpx (by rintro rfl;unfold par at h3;omega) h3
   ·rw [hne c hc (by rintro rfl;exact hcr hpx)]
    exact h.1 c h1 h2 h3 hcr
 ·intro c h1 h2 h3 h4 h5
  rw [hpx,hr',hne c (by rintro rfl;unfold par at h3;omega) (by rintro rfl;unfold par at h3;omega)]
  have:=h.1 c h1 h2 (by omega) (by omega)
  rw [h3] at this;exact this
theorem Heap.max {f m:Nat} {G:Nat->Ky} (h:Heap f 0 m G):∀ c,c < m->¬ klt (G (f+0)) (G (f+c)):=by
 intro c
 induction c using Nat.strongRecOn with
 | _ c ih =>
  intro hc
  rcases Nat.eq_zero_or_pos c with h0|h0
  ·subst h0;exact z2b _
  ·exact za6 (h c h0 hc (Nat.zero_le _)) (ih (par c) (by unfold par;omega) (by unfold par;omega))
theorem Heap.none {f lo hi:Nat} {G:Nat->Ky} (h:hi<=2*lo+1):Heap f lo hi G:=fun c h1 h2 h3=>by unfold par at h3;omega
def Tail (f i hi:Nat) (G:Nat->Ky):Prop:=∀ q,i<=q->q < hi->∀ p,p < q->¬ klt (G (f+q)) (G (f+p))
theorem Tail.step {f i hi:Nat} {G G':Nat->Ky} (ht:Tail f (i+1) hi G) (hi':i < hi) (hh:Heap f 0 (i+1) G) (hw:Sw (f+0) (f+i) (sw G (f+0) (f+i)) G'):Tail f i hi G':=by
 have hm:=hh.max
 have key:∀ t,t < i+1->¬ klt (G (f+0)) (sw G (f+0) (f+i) (f+t)):=fun t h=>by
  unfold sw
  split
  ·exact z2b _
  ·split
   ·exact hm i (by omega)
   ·exact hm t h
 intro q h1 h2 p hp
 have hq:G' (f+q)=sw G (f+0) (f+i) (f+q):=hw.out (by omega)
 rw [hq]
 by_cases hqi:q=i
 ·subst hqi
  rw [sw_j]
  refine hw.all (p:=fun x=>¬ klt (G (f+0)) x) (fun t h3 h4=>?_) (f+p) (by omega) (by omega)
  have:=key (t - f) (by omega)
  rwa [show f+(t - f)=t by omega] at this
 ·rw [z72 (by omega) (by omega)]
  have hall:∀ t,t < q->¬ klt (G (f+q)) (G (f+t)):=fun t h=>ht q (by omega) h2 t h
  by_cases hpi:p < i
  ·refine hw.all (p:=fun x=>¬ klt (G (f+q)) x) (fun t h3 h4=>?_) (f+p) (by omega) (by omega)
   unfold sw
   split
   ·exact hall 0 (by omega)
   ·split
    ·exact hall i (by omega)
    ·have:=hall (t - f) (by omega)
     rwa [show f+(t - f)=t by omega] at this
  ·rw [hw.out (by omega)]
   unfold sw
   split
   ·exact hall 0 (by omega)
   ·split
    ·exact hall i (by omega)
    ·exact hall p hp
end Go.Proofs.YtbfnnllgdioccaaGreatDoor.C
end
section
open Go PvL Go.Proofs
set_option linter.unusedSimpArgs false
set_option linter.unusedVariables false
namespace Go.Proofs.YtbfnnllgdioccaaGreatDoor.C
set_option maxRecDepth 100000 in
def len8:ByteArray:=⟨#[0,1,2,2,3,3,3,3,4,4,4,4,4,4,4,4,5,5,5,5,5,5,5,5,5,5,5,5,5,5,5,5,6,6,6,6,6,6,6,6,6,6,6,6,6,6,6,6,6,6,6,6,6,6,6,6,6,6,6,6,6,6,6,6,7,7,7,7,7,7,7,7,7,7,7,7,7,7,7,7,7,7,7,7,7,7,7,7,7,7,7,7,7,7,7,7,7,7,7,7,7,7,7,7,7,7,7,7,7,7,7,7,7,7,7,7,7,7,7,7,7,7,7,7,7,7,7,7,8,8,8,8,8,8,8,8,8,8,8,8,8,8,8,8,8,8,8,8,8,8,8,8,8,8,8,8,8,8,8,8,8,8,8,8,8,8,8,8,8,8,8,8,8,8,8,8,8,8,8,8,8,8,8,8,8,8,8,8,8,8,8,8,8,8,8,8,8,8,8,8,8,8,8,8,8,8,8,8,8,8,8,8,8,8,8,8,8,8,8,8,8,8,8,8,8,8,8,8,8,8,8,8,8,8,8,8,8,8,8,8,8,8,8,8,8,8,8,8,8,8,8,8,8,8,8,8]⟩
section
variable {E:Env} {M:Mem} {x y:XO} {a b:Int}
end
end Go.Proofs.YtbfnnllgdioccaaGreatDoor.C
end
